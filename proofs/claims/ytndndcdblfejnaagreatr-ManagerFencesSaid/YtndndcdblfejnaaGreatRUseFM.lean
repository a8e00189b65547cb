/- Segments: plain laws. / Segments: where one is; a copy; errors. / Segments: a row is taken out of an own slice. / Segments: added, dead, dropped; scores. / Segments: dead bytes, dropped, scores, which one is cleaned. -/
import Derived.Test.YtndndcdblfejnaaGreatRKeptM
namespace Go.Proofs.YtndndcdblfejnaaGreatRI
set_option linter.unusedSimpArgs false
set_option linter.unusedVariables false
open Go

structure UseD where
  seg : Int
  size : Int
  live : Int
  born : Int
  deriving DecidableEq
def rowT (x : UseD) : List Value := [.int .i64 x.seg, .int .i64 x.size, .int .i64 x.live, .int .i64 x.born]
def uV (x : UseD) : Value := .agg #[.int .i64 x.seg, .int .i64 x.size, .int .i64 x.live, .int .i64 x.born]
def SortedT (L : List UseD) : Prop := L.Pairwise fun a b => a.seg < b.seg
def mayT (x : UseD) : Bool := decide (1 ≤ x.size ∧ x.size ≤ 65536 ∧ 0 ≤ x.live ∧ x.live ≤ x.size ∧ 0 ≤ x.born ∧ x.born ≤ 1099511627776)
def posT (s : Int) : List UseD → Nat
  | [] => 0
  | v :: L => if v.seg < s then posT s L + 1 else 0
def thereT (L : List UseD) (s : Int) : Bool := match L[posT s L]? with | some v => decide (v.seg = s) | none => false
theorem posT_le (s : Int) : ∀ L : List UseD, posT s L ≤ L.length
  | [] => Nat.le_refl _
  | v :: L => by
    have := posT_le s L
    simp only [posT, List.length_cons]
    split <;> omega
theorem posT_lt {s : Int} : ∀ {L : List UseD} {i : Nat} {v : UseD}, i < posT s L → L[i]? = some v → v.seg < s
  | [], i, v, h, _ => by simp [posT] at h
  | w :: L, i, v, h, hv => by
    simp only [posT] at h
    split at h
    · cases i with
      | zero =>
        simp only [List.getElem?_cons_zero, Option.some.injEq] at hv
        subst hv; assumption
      | succ i => exact posT_lt (L := L) (i := i) (by omega) hv
    · omega
theorem posT_at {s : Int} : ∀ {L : List UseD} {v : UseD}, L[posT s L]? = some v → s ≤ v.seg
  | [], v, h => by simp at h
  | w :: L, v, h => by
    simp only [posT] at h
    split at h
    · exact posT_at (L := L) (by simpa using h)
    · simp only [List.getElem?_cons_zero, Option.some.injEq] at h
      subst h; omega
theorem posT_ge {s : Int} : ∀ {L : List UseD}, SortedT L → ∀ {i : Nat} {v : UseD}, posT s L ≤ i → L[i]? = some v → s ≤ v.seg
  | [], _, i, v, _, hv => by simp at hv
  | w :: L, hs, i, v, h, hv => by
    have hs' := List.pairwise_cons.1 hs
    simp only [posT] at h
    split at h
    · obtain ⟨j, rfl⟩ : ∃ j, i = j + 1 := ⟨i - 1, by omega⟩
      exact posT_ge (L := L) hs'.2 (i := j) (by omega) hv
    · rename_i hn
      cases i with
      | zero =>
        simp only [List.getElem?_cons_zero, Option.some.injEq] at hv
        subst hv; omega
      | succ i =>
        have := hs'.1 v (List.mem_of_getElem? hv)
        omega
theorem thereT_at {L : List UseD} {s : Int} (h : thereT L s = true) : ∃ x, L[posT s L]? = some x ∧ x.seg = s := by
  unfold thereT at h
  cases hq : L[posT s L]? with
  | none => rw [hq] at h; cases h
  | some x =>
    rw [hq] at h
    simp only [decide_eq_true_eq] at h
    exact ⟨x, rfl, h⟩
def addT (L : List UseD) (x : UseD) : List UseD × Int :=
  if x.seg < 0 ∨ 4096 ≤ x.seg ∨ mayT x = false then (L, 1) else if thereT L x.seg = true then (L, 6) else (L.take (posT x.seg L) ++ x :: L.drop (posT x.seg L), 0)
def liveAt (L : List UseD) (s : Int) : Int := match L[posT s L]? with | some x => x.live | none => 0
def deadT (L : List UseD) (s n : Int) : List UseD × Int :=
  if n < 0 then (L, 1) else if thereT L s = false then (L, 7) else if liveAt L s < n then (L, 2) else (L.modify (posT s L) fun x => { x with live := x.live - n }, 0)
def dropT (L : List UseD) (s : Int) : List UseD × Bool := if thereT L s = true then (L.eraseIdx (posT s L), true) else (L, false)
def ageT (x : UseD) (now : Int) : Int := if x.born < now then (if 1000000 < now - x.born then 1000000 else now - x.born) else 0
def scoreT (x : UseD) (now : Int) : Int := if mayT x = true then (x.size - x.live) * (ageT x now + 1) * 1000 / (x.size + x.live) else 0
def betterT (now : Int) (b : Option UseD) (x : UseD) : Option UseD :=
  if x.live = x.size then b else match b with | none => some x | some y => if scoreT y now < scoreT x now then some x else some y
def pickT (L : List UseD) (now : Int) : Option UseD := L.foldl (betterT now) none
def emptyT (L : List UseD) : List Int := (L.filter fun x => decide (x.live = 0)).map (·.seg)
def liveT (L : List UseD) : Int := (L.map (·.live)).foldl (· + ·) 0
def okT (x : UseD) : Prop := mayT x = true ∧ 0 ≤ x.seg ∧ x.seg < 4096

theorem okT_b {x : UseD} (h : mayT x = true) : 1 ≤ x.size ∧ x.size ≤ 65536 ∧ 0 ≤ x.live ∧ x.live ≤ x.size ∧ 0 ≤ x.born ∧ x.born ≤ 1099511627776 := by
  simpa [mayT] using h
theorem ageT_b (x : UseD) (now : Int) : 0 ≤ ageT x now ∧ ageT x now ≤ 1000000 := by
  unfold ageT
  repeat' split
  all_goals omega
theorem addT_sorted {L : List UseD} {x : UseD} (hs : SortedT L) : SortedT (addT L x).1 := by
  unfold addT
  split
  · exact hs
  · split
    · exact hs
    · rename_i h3
      have hd := hs
      unfold SortedT at hd ⊢
      rw [← List.take_append_drop (posT x.seg L) L, List.pairwise_append] at hd
      rw [List.pairwise_append]
      refine ⟨hd.1, List.pairwise_cons.2 ⟨fun e he => ?_, hd.2.1⟩, fun a ha b hb => ?_⟩
      · obtain ⟨j, hj⟩ := List.getElem?_of_mem he
        rw [List.getElem?_drop] at hj
        have hge := posT_ge (s := x.seg) hs (i := posT x.seg L + j) (Nat.le_add_right _ _) hj
        cases j with
        | zero =>
          rw [Nat.add_zero] at hj
          have : ¬ e.seg = x.seg := fun e2 => h3 (by unfold thereT; rw [hj]; simp [e2])
          omega
        | succ j =>
          obtain ⟨hl, hle⟩ := List.getElem?_eq_some_iff.1 hj
          have := List.pairwise_iff_getElem.1 hs (posT x.seg L) (posT x.seg L + (j + 1)) (by omega) hl (by omega)
          rw [hle] at this
          have h0 := posT_at (s := x.seg) (List.getElem?_eq_getElem (l := L) (i := posT x.seg L) (by omega))
          omega
      · rcases List.mem_cons.1 hb with rfl | hb
        · obtain ⟨j, hj⟩ := List.getElem?_of_mem ha
          rw [List.getElem?_take] at hj
          split at hj
          · exact posT_lt (by assumption) hj
          · cases hj
        · exact hd.2.2 a ha b hb
theorem addT_ok {L : List UseD} {x : UseD} (ho : ∀ e ∈ L, okT e) : (∀ e ∈ (addT L x).1, okT e) ∧ (addT L x).1.length ≤ L.length + 1 := by
  unfold addT
  split
  · exact ⟨ho, Nat.le_succ _⟩
  · rename_i h1
    split
    · exact ⟨ho, Nat.le_succ _⟩
    · refine ⟨fun e he => ?_, by have := posT_le x.seg L; simp only [List.length_append, List.length_take, List.length_cons, List.length_drop]; omega⟩
      rcases List.mem_append.1 he with he | he
      · exact ho e (List.mem_of_mem_take he)
      · rcases List.mem_cons.1 he with rfl | he
        · simp only [not_or, Bool.not_eq_false] at h1
          exact ⟨h1.2.2, by omega, by omega⟩
        · exact ho e (List.mem_of_mem_drop he)
theorem deadT_ok {L : List UseD} {s n : Int} (hs : SortedT L) (ho : ∀ e ∈ L, okT e) : SortedT (deadT L s n).1 ∧ (∀ e ∈ (deadT L s n).1, okT e) ∧ (deadT L s n).1.length = L.length := by
  unfold deadT
  split
  · exact ⟨hs, ho, rfl⟩
  · rename_i h1
    split
    · exact ⟨hs, ho, rfl⟩
    · rename_i h2
      split
      · exact ⟨hs, ho, rfl⟩
      · rename_i h3
        have hget : ∀ i (y : UseD), (L.modify (posT s L) fun x => { x with live := x.live - n })[i]? = some y → ∃ x, L[i]? = some x ∧ (y = x ∨ (i = posT s L ∧ y = { x with live := x.live - n })) := by
          intro i y h
          rw [List.getElem?_modify] at h
          cases hx : L[i]? with
          | none => rw [hx] at h; cases h
          | some x =>
            rw [hx] at h
            simp only [Option.map_eq_map, Option.map_some, Option.some.injEq] at h
            split at h
            · exact ⟨x, rfl, .inr ⟨by omega, h.symm⟩⟩
            · exact ⟨x, rfl, .inl h.symm⟩
        refine ⟨?_, fun e he => ?_, List.length_modify _ _ _⟩
        · unfold SortedT
          rw [List.pairwise_iff_getElem]
          intro i j hi hj hij
          obtain ⟨x, hx, ex⟩ := hget i _ (List.getElem?_eq_getElem hi)
          obtain ⟨y, hy, ey⟩ := hget j _ (List.getElem?_eq_getElem hj)
          obtain ⟨hi2, hi3⟩ := List.getElem?_eq_some_iff.1 hx
          obtain ⟨hj2, hj3⟩ := List.getElem?_eq_some_iff.1 hy
          have := List.pairwise_iff_getElem.1 hs i j hi2 hj2 hij
          rw [hi3, hj3] at this
          rcases ex with ex | ⟨_, ex⟩ <;> rcases ey with ey | ⟨_, ey⟩ <;> rw [ex, ey] <;> exact this
        · obtain ⟨i, hi⟩ := List.getElem?_of_mem he
          obtain ⟨x, hx, ex⟩ := hget i e hi
          have hxo := ho x (List.mem_of_getElem? hx)
          rcases ex with rfl | ⟨rfl, rfl⟩
          · exact hxo
          · have hl : liveAt L s = x.live := by simp [liveAt, hx]
            rw [hl] at h3
            have := okT_b hxo.1
            exact ⟨by simp [mayT]; omega, hxo.2.1, hxo.2.2⟩
theorem dropT_ok {L : List UseD} {s : Int} (hs : SortedT L) (ho : ∀ e ∈ L, okT e) : SortedT (dropT L s).1 ∧ (∀ e ∈ (dropT L s).1, okT e) ∧ (dropT L s).1.length ≤ L.length := by
  unfold dropT
  split
  · exact ⟨hs.sublist (List.eraseIdx_sublist _ _), fun e he => ho e (List.mem_of_mem_eraseIdx he), by rw [List.length_eraseIdx]; split <;> omega⟩
  · exact ⟨hs, ho, Nat.le_refl _⟩
theorem scoreT_b (x : UseD) (now : Int) : 0 ≤ scoreT x now := by
  unfold scoreT
  split
  · rename_i h
    have hb := okT_b h
    have ha := ageT_b x now
    exact Int.ediv_nonneg (Int.mul_nonneg (Int.mul_nonneg (by omega) (by omega)) (by omega)) (by omega)
  · omega
theorem rowT_four (L : List UseD) : ∀ r ∈ L.map rowT, r.length = 4 := by
  intro r hr
  obtain ⟨v, _, rfl⟩ := List.mem_map.1 hr
  rfl
theorem rowT_one (L : List UseD) : (L.map rowT).flatten.all one1 = true := by
  rw [List.all_eq_true]
  intro x hx
  obtain ⟨r, hr, hx⟩ := List.mem_flatten.1 hx
  obtain ⟨v, _, rfl⟩ := List.mem_map.1 hr
  simp only [rowT, List.mem_cons, List.not_mem_nil, or_false] at hx
  rcases hx with rfl | rfl | rfl | rfl <;> rfl
theorem row_getT {cs r : List Value} {p n : Nat} (h : (cs.drop p).take n = r) (j : Nat) (hj : j < n) : cs[p + j]? = r[j]? := by
  rw [← h, List.getElem?_take, if_pos hj, List.getElem?_drop]

structure IsT (H : IHeap) (p q : Nat) (L : List UseD) : Prop where
  lt : p < H.next
  ne : p ≠ q
  rep : ∃ u, H.get p = some (.cells [u] false) ∧ VS H q u (L.map rowT)
  sorted : SortedT L
theorem IsT.upd {H H' : IHeap} {S : List Nat} {p q : Nat} {L : List UseD} (h : IsT H p q L) (hu : IHeap.upd S H H') (hp : p ∉ S) (hq : q ∉ S) : IsT H' p q L := by
  obtain ⟨u, g1, g2⟩ := h.rep
  exact ⟨Nat.lt_of_lt_of_le h.lt hu.next, h.ne, ⟨u, (hu.get p h.lt hp).trans g1, g2.upd hu hq⟩, h.sorted⟩
theorem IsT.le {H H' : IHeap} {p q : Nat} {L : List UseD} (h : IsT H p q L) (hu : H.le H') : IsT H' p q L := h.upd (hu.upd []) (by simp) (by simp)

end Go.Proofs.YtndndcdblfejnaaGreatRI
namespace Go.Proofs.YtndndcdblfejnaaGreatRI
attribute [local simp] J0 J1 J2 J3 J4 J5 J6 J7 J8 J9 Ja Jb Jc Jd Je Jf Jg Jh Ji Jj Jk Jl Jm Jn Jo Jp Jq Jr Js Jt Ju Jv Jw Jx Jy Jz JA JB JC JD JE JF JG JH JI JJ JK JL JM JN JO JP JQ JR JS stillI IOp.kind JT JU JV JW JX JY JZ Y0 Y1 Y2 Y3 Y4 Y5 Y6 Y7 Y8 Y9 Ya Yb Yc Yd Ye Yf Yg Yh Yi Yj Yk Yl Ym Yn Yo Yp Yq ial Yr Ys Yt Yu Yv Yw Yx Yy ires iresL ires1 Yz YA YB YC YD YE bin2 YF YG YH YI YJ YK YL YM YN YO YP YQ YR YS YT YU un1 shOk eqL eq1 fillL putAt IHeap.load1 IHeap.loadL IHeap.storeL YV YW YX YY YZ B0 B1 B2 B3 B4 B5 B6 B7 B8 B9 Ba Bb Bc Bd Be Bf Bg Bh Bi Bj Bk Bl Bm Bn Bo Bp
set_option linter.unusedSimpArgs false
set_option linter.unusedVariables false
open Go

theorem wrapUT {n : Int} (h : 0 ≤ n) (k : n < 18446744073709551616) : IntKind.u64.wrap n = n := by
  have e1 : (2 ^ IntKind.u64.bits : Int) = 18446744073709551616 := by decide
  unfold IntKind.wrap
  simp only [e1, IntKind.signed, Bool.false_and]
  rw [if_neg (by simp)]
  omega
theorem shrUT (a : Nat) : shrW .u64 (a : Int) 1 = ((a / 2 : Nat) : Int) := by
  have e : (2 : Int) ^ min (Int.toNat 1) IntKind.u64.bits = 2 := by decide
  unfold shrW
  rw [e, Int.fdiv_eq_ediv_of_nonneg _ (by omega)]
  omega

section
variable (c : Ctx) (hc : HasUse c) {H : IHeap} {K : Value → IHeap → Prop}
include hc

theorem TfindF_ok {v : UseD} {s : Int} (hK : ∀ H', H.le H' → K (.int .i64 (if v.seg < s then -1 else if s < v.seg then 1 else 0)) H') : c.C (c.F n_usage_Usage_find_F1) [uV v, .int .i64 s] H K := by
  refine c.enter hc.usage_Usage_find_F1 rfl ?_
  have kA : ∀ y, H.le (H.alloc y) := fun y => H.le_alloc y
  by_cases h1 : v.seg < s
  · rw [if_pos h1] at hK
    simp -implicitDefEqProofs [c_usage_Usage_find_F1, uV, h1]
    exact hK _ (kA _)
  · rw [if_neg h1] at hK
    by_cases h2 : s < v.seg
    · rw [if_pos h2] at hK
      simp -implicitDefEqProofs [c_usage_Usage_find_F1, uV, h1, h2]
      exact hK _ (kA _)
    · rw [if_neg h2] at hK
      simp -implicitDefEqProofs [c_usage_Usage_find_F1, uV, h1, h2]
      exact hK _ (kA _)

theorem Tsearch_ok {u : Value} {L : List UseD} {s : Int} (hu : SlR H 4 u (L.map rowT)) (hs : SortedT L) (hl : L.length ≤ 1000000) (hK : ∀ H', H.le H' → K (.tuple #[.int .i64 (posT s L : Nat), .bool (thereT L s)]) H') :
    c.C (c.F n_slices_BinarySearchFunc_api_Use_api_Use_int) [u, .int .i64 s, .func (.func (c.F n_usage_Usage_find_F1)) #[] #[]] H K := by
  refine c.enter hc.slices_BinarySearchFunc_api_Use_api_Use_int rfl ?_
  have hu' := hu
  obtain ⟨a, cap, rfl, _⟩ := hu
  simp only [List.length_map] at hu' ⊢
  have hple := posT_le s L
  have kk : ∀ {P : Prop}, (0 : Int) ≤ 1 := by omega
  simp -implicitDefEqProofs [c_slices_BinarySearchFunc_api_Use_api_Use_int]
  refine loop_nat c.mono (fun k T H' => ∃ lo hi : Nat, lo ≤ hi ∧ lo ≤ posT s L ∧ posT s L ≤ hi ∧ hi ≤ L.length ∧ k = hi - lo ∧ T 0 = .slice a L.length cap ∧ T 1 = .int .i64 s ∧ T 2 = .func (.func (c.F n_usage_Usage_find_F1)) #[] #[] ∧ T 8 = .int .i64 L.length ∧ T 9 = .int .i64 lo ∧ T 10 = .int .i64 hi ∧ H.le H') L.length ?_ ?_
  · refine ⟨0, L.length, by omega, by omega, by omega, by omega, by omega, ?_⟩
    simp -implicitDefEqProofs []
    exact IHeap.le_refl _
  · rintro k T H' ⟨lo, hi, h1, h2, h3, h4, rfl, t0, t1, t2, t8, t9, t10, hle⟩
    by_cases hlh : lo < hi
    · have hlhI : (lo : Int) < (hi : Int) := by omega
      obtain ⟨mid, hmid⟩ : ∃ mid, mid = (lo + hi) / 2 := ⟨_, rfl⟩
      have hm1 : lo ≤ mid := by omega
      have hm2 : mid < hi := by omega
      have hmL : mid < L.length := by omega
      have hmI : (mid : Int) < (L.length : Int) := by omega
      have w1 : IntKind.i64.wrap ((lo : Int) + (hi : Int)) = ((lo + hi : Nat) : Int) := by rw [wrap64 (by omega) (by omega)]; omega
      have w2 : IntKind.u64.wrap ((lo + hi : Nat) : Int) = ((lo + hi : Nat) : Int) := wrapUT (by omega) (by omega)
      have w3 : shrW .u64 ((lo + hi : Nat) : Int) 1 = (mid : Int) := by rw [shrUT, hmid]
      have w4 : IntKind.i64.wrap (mid : Int) = (mid : Int) := wrap64 (by omega) (by omega)
      have w5 : IntKind.i64.wrap ((mid : Int) + 1) = (mid : Int) + 1 := wrap64 (by omega) (by omega)
      obtain ⟨sm, hsm⟩ : ∃ sm, sm = ((lo + hi : Nat) : Int) := ⟨_, rfl⟩
      rw [← hsm] at w1 w2 w3
      have hx : L[mid]? = some L[mid] := List.getElem?_eq_getElem hmL
      obtain ⟨v, hv⟩ : ∃ v, v = L[mid] := ⟨_, rfl⟩
      rw [← hv] at hx
      obtain ⟨b, o, cp, cs, ro, ea, hb, hget, hrl, hrow, hbd⟩ := hu'.at (i := mid) (r := rowT v) (by simp [hx])
      rw [List.length_map] at ea
      simp only [Value.slice.injEq] at ea
      obtain ⟨rfl, -, rfl⟩ := ea
      simp only [rowT] at hrow
      have hget' := (hle.get b hb).trans hget
      simp -implicitDefEqProofs [t0, t1, t2, t8, t9, t10, hlh, hlhI, w1, w2, w3, w4, hmL, hmI, hget', hrow, hbd]
      refine call_of (TfindF_ok c hc (v := v) fun H2 k2 => ?_)
      by_cases hc1 : v.seg < s
      · rw [if_pos hc1]
        have hgt : mid < posT s L := by
          refine Classical.byContradiction fun hn => ?_
          have := posT_ge (s := s) hs (i := mid) (by omega) hx
          omega
        simp -implicitDefEqProofs [t0, t1, t2, t8, t9, t10, w5]
        exact ⟨hi - (mid + 1), by omega, mid + 1, hi, by omega, by omega, by omega, by omega, rfl, rfl, by simp, hle.trans k2⟩
      · rw [if_neg hc1]
        have hge : posT s L ≤ mid := by
          refine Classical.byContradiction fun hn => ?_
          have := posT_lt (s := s) (L := L) (i := mid) (by omega) hx
          omega
        by_cases hc2 : s < v.seg
        · rw [if_pos hc2]
          simp -implicitDefEqProofs [t0, t1, t2, t8, t9, t10]
          exact ⟨mid - lo, by omega, lo, mid, by omega, by omega, by omega, by omega, rfl, rfl, by simp, hle.trans k2⟩
        · rw [if_neg hc2]
          simp -implicitDefEqProofs [t0, t1, t2, t8, t9, t10]
          exact ⟨mid - lo, by omega, lo, mid, by omega, by omega, by omega, by omega, rfl, rfl, by simp, hle.trans k2⟩
    · have hlhI : ¬ (lo : Int) < (hi : Int) := by omega
      have hlp : lo = posT s L := by omega
      subst hlp
      by_cases hpl : posT s L < L.length
      · have hpI : (posT s L : Int) < (L.length : Int) := by omega
        have hx : L[posT s L]? = some L[posT s L] := List.getElem?_eq_getElem hpl
        obtain ⟨v, hv⟩ : ∃ v, v = L[posT s L] := ⟨_, rfl⟩
        rw [← hv] at hx
        have hth : thereT L s = decide (v.seg = s) := by simp [thereT, hx]
        rw [hth] at hK
        obtain ⟨b, o, cp, cs, ro, ea, hb, hget, hrl, hrow, hbd⟩ := hu'.at (i := posT s L) (r := rowT v) (by simp [hx])
        rw [List.length_map] at ea
        simp only [Value.slice.injEq] at ea
        obtain ⟨rfl, -, rfl⟩ := ea
        simp only [rowT] at hrow
        have hget' := (hle.get b hb).trans hget
        simp -implicitDefEqProofs [t0, t1, t2, t8, t9, t10, hlh, hlhI, hpl, hpI, hget', hrow, hbd]
        refine call_of (TfindF_ok c hc (v := v) fun H2 k2 => ?_)
        have hge := posT_ge (s := s) hs (Nat.le_refl _) hx
        rw [if_neg (by omega)]
        by_cases hc2 : s < v.seg
        · rw [if_pos hc2]
          have hne : ¬ v.seg = s := by omega
          rw [decide_eq_false hne] at hK
          simp -implicitDefEqProofs []
          exact hK _ (hle.trans k2)
        · rw [if_neg hc2]
          have hne : v.seg = s := by omega
          rw [decide_eq_true hne] at hK
          simp -implicitDefEqProofs []
          exact hK _ (hle.trans k2)
      · have hpI : ¬ (posT s L : Int) < (L.length : Int) := by omega
        have hth : thereT L s = false := by simp [thereT, List.getElem?_eq_none (Nat.le_of_not_lt hpl)]
        rw [hth] at hK
        simp -implicitDefEqProofs [t0, t1, t2, t8, t9, t10, hlh, hlhI, hpl, hpI]
        exact hK _ hle

theorem Tfind_ok {p q : Nat} {L : List UseD} {s : Int} (h : IsT H p q L) (hl : L.length ≤ 1000000) (hK : ∀ H', H.le H' → K (.tuple #[.int .i64 (posT s L : Nat), .bool (thereT L s)]) H') : c.C (c.F n_usage_Usage_find) [.pointer (some ⟨p, 0, none⟩), .int .i64 s] H K := by
  refine c.enter hc.usage_Usage_find rfl ?_
  obtain ⟨u, g1, g2⟩ := h.rep
  simp -implicitDefEqProofs [c_usage_Usage_find, g1]
  refine call_of (Tsearch_ok c hc (g2.slw (rowT_four _)).1 h.sorted hl fun H' hl => ?_)
  simp -implicitDefEqProofs []
  exact hK _ hl

end

section
variable (c : Ctx) (hc : HasUse c) {H : IHeap} {K : Value → IHeap → Prop}

end

/-- What errors.Is tells. -/
def IsErr (c : Ctx) : Prop := ∀ (H : IHeap) (K : Value → IHeap → Prop), (∀ z, K (.bool false) H → c.C (c.F 256) [.nilIface, .iface (c.Ty 6) z] H K) ∧
  (∀ e : Int, (e = 1 ∨ e = 2 ∨ e = 6 ∨ e = 7) → K (.bool true) H → c.C (c.F 256) [.iface (c.Ty 6) (.agg #[.int .i64 e]), .iface (c.Ty 6) (.agg #[.int .i64 0])] H K)
/-- An error, as it stands. -/
def errV (c : Ctx) (e : Int) : Value := if e = 0 then .nilIface else .iface (c.Ty 6) (.agg #[.int .i64 e])

section
variable (c : Ctx) (hc : HasUse c) (hE : IsErr c) {H : IHeap} {K : Value → IHeap → Prop}
include hc hE in
theorem errno_ok {e : Int} (he : e = 0 ∨ e = 1 ∨ e = 2 ∨ e = 6 ∨ e = 7) (hK : ∀ H', H.le H' → K (.int .i64 e) H') : c.C (c.F n_usage_errno) [errV c e] H K := by
  refine c.enter hc.usage_errno rfl ?_
  unfold errV
  rcases he with rfl | he
  · simp -implicitDefEqProofs [c_usage_errno]
    refine call_of ((hE _ _).1 _ ?_)
    simp -implicitDefEqProofs []
    exact hK _ (IHeap.le_refl _)
  · have h0 : ¬ e = 0 := by omega
    simp -implicitDefEqProofs [c_usage_errno, h0]
    refine call_of ((hE _ _).2 e he ?_)
    simp -implicitDefEqProofs []
    exact hK _ ((H.le_alloc _).set (Nat.le_refl _) _)

include hc in
theorem Tmay_ok {x : UseD} (hK : ∀ H', H.le H' → K (.bool (mayT x)) H') : c.C (c.F n_usage_may) [uV x] H K := by
  refine c.enter hc.usage_may rfl ?_
  have kA := hK _ (H.le_alloc (.cells [.int .i64 x.seg, .int .i64 x.size, .int .i64 x.live, .int .i64 x.born] false))
  unfold mayT at kA
  by_cases h1 : 1 ≤ x.size
  · by_cases h2 : x.size ≤ 65536
    · by_cases h3 : 0 ≤ x.live
      · by_cases h4 : x.live ≤ x.size
        · by_cases h5 : 0 ≤ x.born
          · simp -implicitDefEqProofs [c_usage_may, uV, h1, h2, h3, h4, h5]
            simpa [h1, h2, h3, h4, h5] using kA
          · simp -implicitDefEqProofs [c_usage_may, uV, h1, h2, h3, h4, h5]
            simpa [h1, h2, h3, h4, h5] using kA
        · simp -implicitDefEqProofs [c_usage_may, uV, h1, h2, h3, h4]
          simpa [h1, h2, h3, h4] using kA
      · simp -implicitDefEqProofs [c_usage_may, uV, h1, h2, h3]
        simpa [h1, h2, h3] using kA
    · simp -implicitDefEqProofs [c_usage_may, uV, h1, h2]
      simpa [h1, h2] using kA
  · simp -implicitDefEqProofs [c_usage_may, uV, h1]
    simpa [h1] using kA

include hc in
theorem TNew_ok (hK : ∀ H', H.le H' → (∀ q, q ≠ H.next → IsT H' H.next q []) → K (.pointer (some ⟨H.next, 0, none⟩)) H') : c.C (c.F n_usage_New) [] H K := by
  refine c.enter hc.usage_New rfl ?_
  simp -implicitDefEqProofs [c_usage_New]
  exact hK _ (H.le_alloc _) fun q hq => ⟨by simp [YX], fun e => hq e.symm, ⟨_, by rw [YV, if_pos rfl], .inl ⟨rfl, rfl⟩⟩, List.Pairwise.nil⟩

end
end Go.Proofs.YtndndcdblfejnaaGreatRI
namespace Go.Proofs.YtndndcdblfejnaaGreatRI
attribute [local simp] J0 J1 J2 J3 J4 J5 J6 J7 J8 J9 Ja Jb Jc Jd Je Jf Jg Jh Ji Jj Jk Jl Jm Jn Jo Jp Jq Jr Js Jt Ju Jv Jw Jx Jy Jz JA JB JC JD JE JF JG JH JI JJ JK JL JM JN JO JP JQ JR JS stillI IOp.kind JT JU JV JW JX JY JZ Y0 Y1 Y2 Y3 Y4 Y5 Y6 Y7 Y8 Y9 Ya Yb Yc Yd Ye Yf Yg Yh Yi Yj Yk Yl Ym Yn Yo Yp Yq ial Yr Ys Yt Yu Yv Yw Yx Yy ires iresL ires1 Yz YA YB YC YD YE bin2 YF YG YH YI YJ YK YL YM YN YO YP YQ YR YS YT YU un1 shOk eqL eq1 fillL putAt IHeap.load1 IHeap.loadL IHeap.storeL YV YW YX YY YZ B0 B1 B2 B3 B4 B5 B6 B7 B8 B9 Ba Bb Bc Bd Be Bf Bg Bh Bi Bj Bk Bl Bm Bn Bo Bp
set_option linter.unusedSimpArgs false
set_option linter.unusedVariables false
open Go

theorem flat_erase (rows : List (List Value)) (i : Nat) : (rows.eraseIdx i).flatten = (rows.take i).flatten ++ (rows.drop (i + 1)).flatten := by
  rw [List.eraseIdx_eq_take_drop_succ, List.flatten_append]
theorem cell_take4 {cs : List Value} {rows : List (List Value)} (h4 : ∀ r ∈ rows, r.length = 4) (h : cs.take (rows.length * 4) = rows.flatten) {i : Nat} (hi : i ≤ rows.length) : cs.take (i * 4) = (rows.take i).flatten := by
  have := congrArg (List.take (i * 4)) h
  have hsp := flat_split rows i
  have hpre : ((rows.take i).flatten).length = i * 4 := by rw [flat_len _ 4 fun r hr => h4 r (List.mem_of_mem_take hr), List.length_take]; omega
  rw [List.take_take, Nat.min_eq_left (by omega), hsp, ← hpre, List.take_left, hpre] at this
  exact this
theorem cell_drop4 {cs : List Value} {rows : List (List Value)} (h4 : ∀ r ∈ rows, r.length = 4) (h : cs.take (rows.length * 4) = rows.flatten) {i : Nat} (hi : i ≤ rows.length) : (cs.drop (i * 4)).take ((rows.length - i) * 4) = (rows.drop i).flatten := by
  have := congrArg (List.drop (i * 4)) h
  have hsp := flat_split rows i
  have hpre : ((rows.take i).flatten).length = i * 4 := by rw [flat_len _ 4 fun r hr => h4 r (List.mem_of_mem_take hr), List.length_take]; omega
  rw [List.drop_take, hsp, ← hpre, List.drop_left, hpre] at this
  rw [← this]
  congr 1; omega

section
variable (c : Ctx) (hc : HasUse c) {H : IHeap} {K : Value → IHeap → Prop}

include hc in
theorem Delete_ok {q i : Nat} {u : Value} {rows : List (List Value)} (h : VS H q u rows) (h2 : ∀ r ∈ rows, r.length = 4) (hone : rows.flatten.all one1 = true) (hi : i < rows.length) (hl : rows.length ≤ 1000000)
    (hK : ∀ v H', IHeap.upd [q] H H' → VS H' q v (rows.eraseIdx i) → K v H') :
    c.C (c.F n_slices_Delete_api_Use_api_Use) [u, .int .i64 i, .int .i64 ((i : Int) + 1)] H K := by
  refine c.enter hc.slices_Delete_api_Use_api_Use rfl ?_
  rcases h with ⟨rfl, rfl⟩ | ⟨cs, hq, rfl, gq, hcs, hcl⟩
  · simp at hi
  · obtain ⟨N, hN⟩ : ∃ N, N = rows.length := ⟨_, rfl⟩
    have hcs' := hcs
    rw [← hN] at hcs hcl hi hl ⊢
    have hel : (rows.eraseIdx i).length = N - 1 := by rw [List.length_eraseIdx, if_pos (by omega), hN]
    obtain ⟨m, hm⟩ : ∃ m, m = N - (i + 1) := ⟨_, rfl⟩
    obtain ⟨D, hD⟩ : ∃ D, D = (rows.drop (i + 1)).flatten := ⟨_, rfl⟩
    have hDl : D.length = m * 4 := by rw [hD, flat_len _ 4 fun r hr => h2 r (List.mem_of_mem_drop hr), List.length_drop, hm, hN]
    have hDone : D.all one1 = true := by
      rw [hD, List.all_eq_true]
      intro x hx
      obtain ⟨r, hr, hx⟩ := List.mem_flatten.1 hx
      exact List.all_eq_true.1 hone x (List.mem_flatten.2 ⟨r, List.mem_of_mem_drop hr, hx⟩)
    have hFD : (cs.drop ((i + 1) * 4)).take (m * 4) = D := by
      have := cell_drop4 h2 hcs' (i := i + 1) (by omega)
      rw [← hN, ← hm] at this
      rw [hD, this]
    have hFA : cs.take (i * 4) = (rows.take i).flatten := cell_take4 h2 hcs' (by omega)
    have sQ : ∀ (X : IHeap) (k l : Nat), l ≤ N → sliceI X 4 (some ⟨q, 0, none⟩) N (UNK + 4) k l none = some (.slice (some ⟨q, k * 4, none⟩) (l - k) (UNK + 4)) := by
      intro X k l hk
      unfold sliceI
      rw [if_neg (by omega)]
      simp [hk]
    obtain ⟨x13, s13⟩ : ∃ x, sliceI H 4 (some ⟨q, 0, none⟩) N (UNK + 4) i (i + 1) (some N) = some x := by
      unfold sliceI
      rw [if_neg (by omega)]
      simp only [Option.getD_some, Nat.le_refl, true_or, and_true, true_and]
      rw [if_pos (by omega), if_pos (by unfold UNK; omega)]
      exact ⟨_, rfl⟩
    have s22 : sliceI H 4 (some ⟨q, 0, none⟩) N (UNK + 4) 0 i none = some (.slice (some ⟨q, 0, none⟩) i (UNK + 4)) := by
      have := sQ H 0 i (by omega)
      rwa [Nat.zero_mul, Nat.sub_zero] at this
    have s25 := sQ H (i + 1) N (Nat.le_refl _)
    rw [← hm] at s25
    have fD : firstI H 4 m (.slice (some ⟨q, (i + 1) * 4, none⟩) m (UNK + 4)) = some D := by
      simp only [firstI, IHeap.loadL, gq]
      by_cases hz : m * 4 = 0
      · have : D = [] := List.length_eq_zero_iff.1 (by rw [hDl]; exact hz)
        rw [if_pos hz, this]
      · rw [if_neg hz, if_pos (by omega), hFD]
    obtain ⟨cs1, hcs1⟩ : ∃ c, c = putAt cs (i * 4) D := ⟨_, rfl⟩
    have l1 : cs1.length = cs.length := by rw [hcs1]; exact put_len (by omega)
    have t1 : cs1.take ((N - 1) * 4) = (rows.eraseIdx i).flatten := by
      rw [hcs1, flat_erase, ← hD, ← hFA]
      unfold putAt
      rw [List.append_assoc, ← List.append_assoc, List.take_append_of_le_length (by simp only [List.length_append, List.length_take]; omega), List.take_of_length_le (by simp only [List.length_append, List.length_take]; omega)]
    obtain ⟨Ha, hHa⟩ : ∃ X : IHeap, X = H.set q (.cells cs1 false) := ⟨_, rfl⟩
    have ga : Ha.get q = some (.cells cs1 false) := by rw [hHa, YW, if_pos rfl]
    have ua : IHeap.upd [q] H Ha := by rw [hHa]; exact (IHeap.upd_refl _ _).set (.inr (by simp)) _
    have na : Ha.next = H.next := by rw [hHa]; rfl
    have e1 : i + m = N - 1 := by omega
    -- the append: in place, or of nothing
    obtain ⟨Hb, hab, gb, ub, nb⟩ : ∃ Hb, appendI H 4 32 (.slice (some ⟨q, 0, none⟩) i (UNK + 4)) m D = some (.slice (some ⟨q, 0, none⟩) (N - 1) (UNK + 4), Hb) ∧ Hb.get q = some (.cells cs1 false) ∧ IHeap.upd [q] H Hb ∧ Hb.next = H.next := by
      have f1 : firstI H 4 i (.slice (some ⟨q, 0, none⟩) i (UNK + 4)) = some (cs.take (i * 4)) := by
        simp only [firstI, IHeap.loadL, gq]
        by_cases hz : i * 4 = 0
        · rw [if_pos hz, hz]; rfl
        · rw [if_neg hz, if_pos (by omega), List.drop_zero]
      by_cases hm0 : m = 0
      · have hD0 : D = [] := List.length_eq_zero_iff.1 (by rw [hDl, hm0])
        refine ⟨H, ?_, ?_, IHeap.upd_refl _ _, rfl⟩
        · simp only [appendI]
          rw [if_pos ⟨by omega, by omega, by omega, by omega, by omega⟩, if_pos hm0, if_pos (by unfold UNK; omega), show N - 1 = i by omega]
        · have : cs1 = cs := by rw [hcs1, hD0]; unfold putAt; simp
          rw [this]; exact gq
      · refine ⟨Ha, ?_, ga, ua, na⟩
        simp only [appendI, f1, gq]
        rw [if_pos ⟨by omega, by omega, by omega, by omega, by omega⟩, if_neg hm0, if_neg (by omega), if_neg (by omega), if_pos trivial, if_pos hDone, if_pos (by omega), hHa, hcs1, e1, Nat.zero_add]
    obtain ⟨Z, hZ⟩ : ∃ Z, Z = (Builtin.zeroCells #[Value.int .i64 0, .int .i64 0, .int .i64 0, .int .i64 0] 1).toList := ⟨_, rfl⟩
    have hZl : Z.length = 4 := by rw [hZ, Array.length_toList, zeroCells_size]; rfl
    have hZone : Z.all one1 = true := by
      rw [hZ, List.all_eq_true]
      intro x hx
      simp only [Builtin.zeroCells, Array.toList_map, List.mem_map] at hx
      obtain ⟨k, _, rfl⟩ := hx
      have : k % 4 = 0 ∨ k % 4 = 1 ∨ k % 4 = 2 ∨ k % 4 = 3 := by omega
      rcases this with h | h | h | h <;> simp [h, one1]
    have s31 : sliceI Hb 4 (some ⟨q, 0, none⟩) (N - 1) (UNK + 4) (N - 1) N none = some (.slice (some ⟨q, (N - 1) * 4, none⟩) 1 (UNK + 4)) := by
      unfold sliceI
      rw [if_neg (by omega)]
      simp only [fitsI, gb, Option.getD_none, Nat.zero_add]
      rw [if_pos ⟨trivial, by omega, .inr (by rw [decide_eq_true_eq]; omega)⟩, show N - (N - 1) = 1 by omega]
    obtain ⟨cs2, hcs2⟩ : ∃ c, c = putAt cs1 ((N - 1) * 4) Z := ⟨_, rfl⟩
    have l2 : cs2.length = cs1.length := by rw [hcs2]; exact put_len (by omega)
    have t2 : cs2.take ((N - 1) * 4) = (rows.eraseIdx i).flatten := by
      rw [hcs2]
      unfold putAt
      rw [List.append_assoc, List.take_append_of_le_length (by rw [List.length_take]; omega), List.take_take, Nat.min_self, t1]
    have st : Hb.storeL q ((N - 1) * 4) Z = some (Hb.set q (.cells cs2 false)) := by
      simp only [IHeap.storeL, gb]
      rw [if_pos ⟨by omega, hZone⟩, hcs2]
    have fo2 : List.take ((N - 1) * 4) cs1 ++ (Z ++ List.drop ((N - 1) * 4 + Z.length) cs1) = cs2 := by rw [hcs2, putAt, List.append_assoc]
    have k2 : (N - 1) * 4 + Z.length ≤ cs1.length := by omega
    have hi1 : i ≤ N := by omega
    have hi2 : i + 1 ≤ N := by omega
    have q1 : (0 : Int) ≤ (i : Int) + 1 := by omega
    have q2 : ((i : Int) + 1).toNat = i + 1 := by omega
    have q3 : ((i : Int) + 1) ≤ (N : Int) := by omega
    have q4 : (i : Int) ≤ (i : Int) + 1 := by omega
    have q5 : N - 1 ≤ N := by omega
    have q6 : ¬ (i : Int) = (i : Int) + 1 := by omega
    simp -implicitDefEqProofs [c_slices_Delete_api_Use_api_Use, boundsI, natI, q1, q2, q3, q4, q5, q6, hi1, hi2, s13, s22, s25, lenOfI, fD, hab, s31, ← hZ, gb, k2, hZone, fo2, -List.all_eq_true]
    exact hK _ _ (ub.set (.inr (by simp)) _) (.inr ⟨cs2, by simp only [YY]; omega, by rw [hel], by rw [YW, if_pos rfl], by rw [hel, t2], by rw [hel]; omega⟩)

end
end Go.Proofs.YtndndcdblfejnaaGreatRI
namespace Go.Proofs.YtndndcdblfejnaaGreatRI
attribute [local simp] J0 J1 J2 J3 J4 J5 J6 J7 J8 J9 Ja Jb Jc Jd Je Jf Jg Jh Ji Jj Jk Jl Jm Jn Jo Jp Jq Jr Js Jt Ju Jv Jw Jx Jy Jz JA JB JC JD JE JF JG JH JI JJ JK JL JM JN JO JP JQ JR JS stillI IOp.kind JT JU JV JW JX JY JZ Y0 Y1 Y2 Y3 Y4 Y5 Y6 Y7 Y8 Y9 Ya Yb Yc Yd Ye Yf Yg Yh Yi Yj Yk Yl Ym Yn Yo Yp Yq ial Yr Ys Yt Yu Yv Yw Yx Yy ires iresL ires1 Yz YA YB YC YD YE bin2 YF YG YH YI YJ YK YL YM YN YO YP YQ YR YS YT YU un1 shOk eqL eq1 fillL putAt IHeap.load1 IHeap.loadL IHeap.storeL YV YW YX YY YZ B0 B1 B2 B3 B4 B5 B6 B7 B8 B9 Ba Bb Bc Bd Be Bf Bg Bh Bi Bj Bk Bl Bm Bn Bo Bp
set_option linter.unusedSimpArgs false
set_option linter.unusedVariables false
open Go

/-- What slices.Insert does. -/
def InsOkT (c : Ctx) : Prop := ∀ (H : IHeap) (K : Value → IHeap → Prop) (q vb i : Nat) (u : Value) (rows : List (List Value)) (new : List Value), VS H q u rows → (∀ r ∈ rows, r.length = 4) → rows.flatten.all one1 = true →
  H.get vb = some (.cells new false) → vb < H.next → vb ≠ q → new.length = 4 → new.all one1 = true → i ≤ rows.length → rows.length ≤ 1000000 →
  (∀ q' H', IHeap.upd [q] H H' → H.next ≤ q' → VS H' q' (.slice (some ⟨q', 0, none⟩) (rows.length + 1) (UNK + 4)) (rows.take i ++ new :: rows.drop i) → K (.slice (some ⟨q', 0, none⟩) (rows.length + 1) (UNK + 4)) H') →
  c.C (c.F n_slices_Insert_api_Use_api_Use) [u, .int .i64 i, .slice (some ⟨vb, 0, none⟩) 1 1] H K

theorem cells_takeT {cs : List Value} {rows : List (List Value)} (h4 : ∀ r ∈ rows, r.length = 4) (h : cs.take (rows.length * 4) = rows.flatten) {i : Nat} (hi : i ≤ rows.length) : cs.take (i * 4) = (rows.take i).flatten := by
  have := congrArg (List.take (i * 4)) h
  have hsp := flat_split rows i
  have hpre : ((rows.take i).flatten).length = i * 4 := by rw [flat_len _ 4 fun r hr => h4 r (List.mem_of_mem_take hr), List.length_take]; omega
  rw [List.take_take, Nat.min_eq_left (by omega), hsp, ← hpre, List.take_left, hpre] at this
  exact this
theorem cells_dropT {cs : List Value} {rows : List (List Value)} (h4 : ∀ r ∈ rows, r.length = 4) (h : cs.take (rows.length * 4) = rows.flatten) {i : Nat} (hi : i ≤ rows.length) : (cs.drop (i * 4)).take ((rows.length - i) * 4) = (rows.drop i).flatten := by
  have := congrArg (List.drop (i * 4)) h
  have hsp := flat_split rows i
  have hpre : ((rows.take i).flatten).length = i * 4 := by rw [flat_len _ 4 fun r hr => h4 r (List.mem_of_mem_take hr), List.length_take]; omega
  rw [List.drop_take, hsp, ← hpre, List.drop_left, hpre] at this
  rw [← this]
  congr 1; omega
theorem cells_setT {cs r : List Value} {rows : List (List Value)} (h4 : ∀ r ∈ rows, r.length = 4) (h : cs.take (rows.length * 4) = rows.flatten) (hl : rows.length * 4 ≤ cs.length) {i : Nat} (hi : i < rows.length) (hr : r.length = 4) :
    (putAt cs (i * 4) r).take (rows.length * 4) = (rows.set i r).flatten := by
  rw [List.set_eq_take_append_cons_drop, if_pos hi, List.flatten_append, List.flatten_cons]
  have e1 := cells_takeT h4 h (i := i) (by omega)
  have e2 := cells_dropT h4 h (i := i + 1) (by omega)
  unfold putAt
  have l1 : (cs.take (i * 4)).length = i * 4 := by rw [List.length_take]; omega
  rw [← e1, ← e2, List.append_assoc, List.take_append, l1, List.take_take, Nat.min_eq_right (by omega), List.take_append, hr]
  congr 1
  rw [List.take_of_length_le (by omega)]
  congr 1
  rw [show i * 4 + 4 = (i + 1) * 4 by omega]
  congr 1
  omega

theorem set_liveT {L : List UseD} {i : Nat} {x : UseD} {n : Int} {cs cs2 : List Value} (hat : L[i]? = some x) (hcs : cs.take (L.length * 4) = (L.map rowT).flatten) (hcl : L.length * 4 ≤ cs.length)
    (hcs2 : cs2 = List.take (i * 4 + 2) cs ++ (Value.int .i64 (x.live - n) :: List.drop (i * 4 + 2 + 1) cs)) :
    cs2.take (L.length * 4) = ((L.modify i fun x => { x with live := x.live - n }).map rowT).flatten := by
  have hlt := (List.getElem?_eq_some_iff.1 hat).1
  have hrow : (cs.drop (i * 4)).take 4 = rowT x := by
    obtain ⟨f1, f2⟩ := flat_row (L.map rowT) 4 i (rowT x) (rowT_four _) (by simp [hat])
    rw [← f1, ← hcs, List.drop_take, List.take_take, Nat.min_eq_left (by omega)]
  have hmod : (L.modify i fun x => { x with live := x.live - n }) = L.set i { x with live := x.live - n } := by
    apply List.ext_getElem?
    intro j
    rw [List.getElem?_modify, List.getElem?_set]
    by_cases hj : i = j
    · subst hj
      have hxe := (List.getElem?_eq_some_iff.1 hat).2
      simp [hlt, hxe]
    · simp [hj]
  have hput := cells_setT (r := rowT { x with live := x.live - n }) (rowT_four L) (by rw [List.length_map]; exact hcs) (by rw [List.length_map]; exact hcl) (i := i) (by rw [List.length_map]; exact hlt) rfl
  rw [hmod, List.map_set, ← hput, List.length_map]
  congr 1
  rw [hcs2]
  have e0 : cs.take (i * 4 + 2) = cs.take (i * 4) ++ [.int .i64 x.seg, .int .i64 x.size] := by
    rw [List.take_add]
    congr 1
    have := congrArg (List.take 2) hrow
    rw [List.take_take] at this
    simpa [rowT] using this
  have e1 : cs.drop (i * 4 + 2 + 1) = .int .i64 x.born :: cs.drop (i * 4 + 4) := by
    have r3 := row_getT hrow 3 (by omega)
    simp only [rowT, List.getElem?_cons_succ, List.getElem?_cons_zero] at r3
    have h9 : i * 4 + 3 < cs.length := by omega
    rw [List.getElem?_eq_getElem h9] at r3
    injection r3 with r3
    rw [show i * 4 + 2 + 1 = i * 4 + 3 by omega, List.drop_eq_getElem_cons h9, r3]
  rw [e0, e1]
  unfold putAt
  simp [rowT]

section
variable (c : Ctx) (hc : HasUse c) (hE : IsErr c) (hI : InsOkT c) {H : IHeap} {K : Value → IHeap → Prop}

include hc hI in
theorem Tadd_ok {p q : Nat} {L : List UseD} {x : UseD} (h : IsT H p q L) (hl : L.length ≤ 1000000)
    (hK : ∀ q' H', IHeap.upd [p, q] H H' → (q' = q ∨ H.next ≤ q') → IsT H' p q' (addT L x).1 → K (errV c (addT L x).2) H') :
    c.C (c.F n_usage_Usage_add) [.pointer (some ⟨p, 0, none⟩), uV x] H K := by
  refine c.enter hc.usage_Usage_add rfl ?_
  have hpl := h.lt
  have hso := addT_sorted (x := x) h.sorted
  obtain ⟨HA, hHA⟩ : ∃ X : IHeap, X = H.alloc (.cells [.int .i64 x.seg, .int .i64 x.size, .int .i64 x.live, .int .i64 x.born] false) := ⟨_, rfl⟩
  have kA : H.le HA := by rw [hHA]; exact H.le_alloc _
  have nA : HA.next = H.next + 1 := by rw [hHA]; rfl
  have gA : HA.get H.next = some (.cells [.int .i64 x.seg, .int .i64 x.size, .int .i64 x.live, .int .i64 x.born] false) := by rw [hHA, YV, if_pos rfl]
  have hA := h.le kA
  unfold addT at hK hso
  by_cases h1 : x.seg < 0
  · rw [if_pos (.inl h1)] at hK
    simp -implicitDefEqProofs [c_usage_Usage_add, uV, ← hHA, nilOf, gA, h1]
    exact hK q _ (kA.upd _) (.inl rfl) hA
  · by_cases h2 : 4096 ≤ x.seg
    · rw [if_pos (.inr (.inl h2))] at hK
      simp -implicitDefEqProofs [c_usage_Usage_add, uV, ← hHA, nilOf, gA, h1, h2]
      exact hK q _ (kA.upd _) (.inl rfl) hA
    · simp -implicitDefEqProofs [c_usage_Usage_add, uV, ← hHA, nilOf, gA, h1, h2]
      refine call_of (Tmay_ok c hc (x := x) fun H1 k1 => ?_)
      have h1' := hA.le k1
      have gx1 := (k1.get H.next (by omega)).trans gA
      have n1 := k1.next
      cases hn : mayT x with
      | false =>
        rw [if_pos (.inr (.inr hn))] at hK
        simp -implicitDefEqProofs []
        exact hK q _ ((kA.trans k1).upd _) (.inl rfl) h1'
      | true =>
        rw [if_neg (by rw [hn]; simp; omega)] at hK hso
        simp -implicitDefEqProofs [gx1]
        refine call_of (Tfind_ok c hc (s := x.seg) h1' hl fun H2 k2 => ?_)
        have h2' := h1'.le k2
        have gx2 := (k2.get H.next (by omega)).trans gx1
        have n2 := k2.next
        cases ht : thereT L x.seg with
        | true =>
          rw [if_pos ht] at hK
          simp -implicitDefEqProofs []
          exact hK q _ (((kA.trans k1).trans k2).upd _) (.inl rfl) h2'
        | false =>
          rw [if_neg (by rw [ht]; simp)] at hK hso
          obtain ⟨u, g1, g2⟩ := h2'.rep
          have hple := posT_le x.seg L
          obtain ⟨H3, hH3⟩ : ∃ X : IHeap, X = H2.alloc (.cells [.int .i64 x.seg, .int .i64 x.size, .int .i64 x.live, .int .i64 x.born] false) := ⟨_, rfl⟩
          have k3 : H2.le H3 := by rw [hH3]; exact H2.le_alloc _
          have n3 : H3.next = H2.next + 1 := by rw [hH3]; rfl
          have gv3 : H3.get H2.next = some (.cells [.int .i64 x.seg, .int .i64 x.size, .int .i64 x.live, .int .i64 x.born] false) := by rw [hH3, YV, if_pos rfl]
          have gp3 := (k3.get p h2'.lt).trans g1
          obtain ⟨q0, hq0, hq1, hq2, hv2⟩ : ∃ q0, q0 ≠ H2.next ∧ q0 ≠ p ∧ (q0 = q ∨ H3.next ≤ q0) ∧ VS H3 q0 u (L.map rowT) := by
            rcases g2 with ⟨hr0, rfl⟩ | ⟨cs, hq, rfl, gq, hcs, hcl⟩
            · exact ⟨H3.next, by omega, by omega, .inr (Nat.le_refl _), .inl ⟨hr0, rfl⟩⟩
            · exact ⟨q, by omega, Ne.symm h.ne, .inl rfl, VS.le (.inr ⟨cs, hq, rfl, gq, hcs, hcl⟩) k3⟩
          obtain ⟨au, cu, eu⟩ := hv2.lenv
          have hins := fun K2 hk => hI H3 K2 q0 H2.next (posT x.seg L) u _ (rowT x) hv2 (rowT_four _) (rowT_one _) gv3 (by omega) (Ne.symm hq0) rfl rfl (by rw [List.length_map]; exact hple) (by rw [List.length_map]; exact hl) hk
          rw [List.length_map] at eu
          rw [eu] at hins g1
          simp -implicitDefEqProofs [nilOf, g1, gx2, ← hH3]
          refine dcall_of c.mono (hins _ fun q' H4 u4 hq' vs4 => ?_)
          have gp4 := (u4.get p (by omega) (by simpa using Ne.symm hq1)).trans gp3
          rw [List.length_map] at vs4 ⊢
          have n4 := u4.next
          have hpq' : p ≠ q' := by omega
          have e1 : (L.map rowT).take (posT x.seg L) ++ rowT x :: (L.map rowT).drop (posT x.seg L) = (L.take (posT x.seg L) ++ x :: L.drop (posT x.seg L)).map rowT := by simp [List.map_take, List.map_drop]
          rw [e1] at vs4
          simp -implicitDefEqProofs [nilOf, gp4]
          have up4 : IHeap.upd [p, q] H H4 := ⟨by omega, fun b hb hn => by
            rw [u4.get b (by omega) (fun hm => by
              simp only [List.mem_singleton] at hm
              rcases hq2 with e | e
              · exact hn (by simp [hm, e])
              · omega), k3.get b (by omega), k2.get b (by omega), k1.get b (by omega)]
            exact kA.get b hb⟩
          exact hK q' _ (up4.set (.inr (by simp)) _) (.inr (by omega)) ⟨by simp only [YY]; omega, hpq', ⟨_, by rw [YW, if_pos rfl], vs4.upd ((IHeap.upd_refl [p] _).set (.inr (by simp)) _) (by simpa using Ne.symm hpq')⟩, hso⟩

theorem addT_code (L : List UseD) (x : UseD) : (addT L x).2 = 0 ∨ (addT L x).2 = 1 ∨ (addT L x).2 = 2 ∨ (addT L x).2 = 6 ∨ (addT L x).2 = 7 := by
  unfold addT
  repeat' split
  all_goals simp
theorem deadT_code (L : List UseD) (s n : Int) : (deadT L s n).2 = 0 ∨ (deadT L s n).2 = 1 ∨ (deadT L s n).2 = 2 ∨ (deadT L s n).2 = 6 ∨ (deadT L s n).2 = 7 := by
  unfold deadT
  repeat' split
  all_goals simp

include hc hE hI in
theorem TAdd_ok {p q : Nat} {L : List UseD} {x : UseD} (h : IsT H p q L) (hl : L.length ≤ 1000000)
    (hK : ∀ q' H', IHeap.upd [p, q] H H' → (q' = q ∨ H.next ≤ q') → IsT H' p q' (addT L x).1 → K (.int .i64 (addT L x).2) H') :
    c.C (c.F n_usage_Usage_Add) [.pointer (some ⟨p, 0, none⟩), .int .i64 x.seg, .int .i64 x.size, .int .i64 x.live, .int .i64 x.born] H K := by
  refine c.enter hc.usage_Usage_Add rfl ?_
  simp -implicitDefEqProofs [c_usage_Usage_Add]
  refine call_of (Tadd_ok c hc hI (x := x) h hl fun q' H1 u1 hq i1 => ?_)
  simp -implicitDefEqProofs []
  refine call_of (errno_ok c hc hE (addT_code L x) fun H2 k2 => ?_)
  simp -implicitDefEqProofs []
  exact hK q' _ (u1.keepTrans (k2.keep (Nat.le_refl _)) u1.next) hq (i1.le k2)

include hc in
theorem Tdead_ok {p q : Nat} {L : List UseD} {s n : Int} (h : IsT H p q L) (hl : L.length ≤ 1000000) (ho : ∀ e ∈ L, okT e)
    (hK : ∀ H', IHeap.upd [p, q] H H' → IsT H' p q (deadT L s n).1 → K (errV c (deadT L s n).2) H') :
    c.C (c.F n_usage_Usage_dead) [.pointer (some ⟨p, 0, none⟩), .int .i64 s, .int .i64 n] H K := by
  refine c.enter hc.usage_Usage_dead rfl ?_
  have hso := (deadT_ok (s := s) (n := n) h.sorted ho).1
  unfold deadT at hK hso
  by_cases h1 : n < 0
  · rw [if_pos h1] at hK
    simp -implicitDefEqProofs [c_usage_Usage_dead, nilOf, h1]
    exact hK _ (IHeap.upd_refl _ _) h
  · rw [if_neg h1] at hK hso
    simp -implicitDefEqProofs [c_usage_Usage_dead, nilOf, h1]
    refine call_of (Tfind_ok c hc (s := s) h hl fun H1 k1 => ?_)
    have h1' := h.le k1
    cases ht : thereT L s with
    | false =>
      rw [if_pos ht] at hK
      simp -implicitDefEqProofs []
      exact hK _ (k1.upd _) h1'
    | true =>
      rw [if_neg (by rw [ht]; simp)] at hK hso
      obtain ⟨x, hat, hxs⟩ := thereT_at ht
      have hlv : liveAt L s = x.live := by simp [liveAt, hat]
      rw [hlv] at hK hso
      obtain ⟨hlt, _⟩ := List.getElem?_eq_some_iff.1 hat
      obtain ⟨u, g1, g2⟩ := h1'.rep
      obtain ⟨i, hi⟩ : ∃ i, i = posT s L := ⟨_, rfl⟩
      rw [← hi] at hat hlt hK hso ⊢
      have hiI : (i : Int) < (L.length : Int) := by omega
      have hxo := okT_b (ho x (List.mem_of_getElem? hat)).1
      rcases g2 with ⟨hr0, rfl⟩ | ⟨cs, hq, rfl, gq, hcs, hcl⟩
      · exfalso
        have hL0 : L = [] := by simpa using hr0
        rw [hL0] at hlt; simp at hlt
      · rw [List.length_map] at hcs hcl g1
        have hrow : (cs.drop (i * 4)).take 4 = rowT x := by
          obtain ⟨f1, f2⟩ := flat_row (L.map rowT) 4 i (rowT x) (rowT_four _) (by simp [hat])
          rw [← f1, ← hcs, List.drop_take, List.take_take, Nat.min_eq_left (by omega)]
        have r2 := row_getT hrow 2 (by omega)
        simp only [rowT, List.getElem?_cons_succ, List.getElem?_cons_zero] at r2
        by_cases h2 : x.live < n
        · rw [if_pos h2] at hK
          simp -implicitDefEqProofs [nilOf, g1, hlt, hiI, gq, r2, h2]
          exact hK _ (k1.upd _) h1'
        · rw [if_neg h2] at hK hso
          have hw : IntKind.i64.wrap (x.live - n) = x.live - n := wrap64 (by omega) (by omega)
          have k4 : i * 4 + 2 + 1 ≤ cs.length := by omega
          obtain ⟨cs2, hcs2⟩ : ∃ z, z = List.take (i * 4 + 2) cs ++ (Value.int .i64 (x.live - n) :: List.drop (i * 4 + 2 + 1) cs) := ⟨_, rfl⟩
          have l2 : cs2.length = cs.length := by rw [hcs2]; simp only [List.length_append, List.length_cons, List.length_take, List.length_drop]; omega
          have fo := hcs2.symm
          have hrows : cs2.take (L.length * 4) = ((L.modify i fun x => { x with live := x.live - n }).map rowT).flatten := by
            exact set_liveT hat hcs hcl hcs2
          simp -implicitDefEqProofs [nilOf, g1, hlt, hiI, gq, r2, h2, hw, k4, fo]
          refine hK _ ((k1.upd _).set (.inr (by simp)) _) ⟨by simp only [YY]; exact h1'.lt, h.ne, ⟨_, by rw [YW, if_neg h.ne]; exact g1, .inr ⟨cs2, by simp only [YY]; exact hq, ?_, by rw [YW, if_pos rfl], ?_, ?_⟩⟩, hso⟩
          · simp
          · rw [List.length_map, List.length_modify, hrows]
          · rw [List.length_map, List.length_modify]; omega

end
end Go.Proofs.YtndndcdblfejnaaGreatRI
namespace Go.Proofs.YtndndcdblfejnaaGreatRI
attribute [local simp] J0 J1 J2 J3 J4 J5 J6 J7 J8 J9 Ja Jb Jc Jd Je Jf Jg Jh Ji Jj Jk Jl Jm Jn Jo Jp Jq Jr Js Jt Ju Jv Jw Jx Jy Jz JA JB JC JD JE JF JG JH JI JJ JK JL JM JN JO JP JQ JR JS stillI IOp.kind JT JU JV JW JX JY JZ Y0 Y1 Y2 Y3 Y4 Y5 Y6 Y7 Y8 Y9 Ya Yb Yc Yd Ye Yf Yg Yh Yi Yj Yk Yl Ym Yn Yo Yp Yq ial Yr Ys Yt Yu Yv Yw Yx Yy ires iresL ires1 Yz YA YB YC YD YE bin2 YF YG YH YI YJ YK YL YM YN YO YP YQ YR YS YT YU un1 shOk eqL eq1 fillL putAt IHeap.load1 IHeap.loadL IHeap.storeL YV YW YX YY YZ B0 B1 B2 B3 B4 B5 B6 B7 B8 B9 Ba Bb Bc Bd Be Bf Bg Bh Bi Bj Bk Bl Bm Bn Bo Bp
set_option linter.unusedSimpArgs false
set_option linter.unusedVariables false
open Go

section
variable (c : Ctx) (hc : HasUse c) (hE : IsErr c) (hI : InsOkT c) {H : IHeap} {K : Value → IHeap → Prop}

include hc hE in
theorem TDead_ok {p q : Nat} {L : List UseD} {s n : Int} (h : IsT H p q L) (hl : L.length ≤ 1000000) (ho : ∀ e ∈ L, okT e)
    (hK : ∀ H', IHeap.upd [p, q] H H' → IsT H' p q (deadT L s n).1 → K (.int .i64 (deadT L s n).2) H') :
    c.C (c.F n_usage_Usage_Dead) [.pointer (some ⟨p, 0, none⟩), .int .i64 s, .int .i64 n] H K := by
  refine c.enter hc.usage_Usage_Dead rfl ?_
  simp -implicitDefEqProofs [c_usage_Usage_Dead]
  refine call_of (Tdead_ok c hc (s := s) (n := n) h hl ho fun H1 u1 i1 => ?_)
  simp -implicitDefEqProofs []
  refine call_of (errno_ok c hc hE (deadT_code L s n) fun H2 k2 => ?_)
  simp -implicitDefEqProofs []
  exact hK _ (u1.keepTrans (k2.keep (Nat.le_refl _)) u1.next) (i1.le k2)

include hc in
theorem TDrop_ok {p q : Nat} {L : List UseD} {s : Int} (h : IsT H p q L) (hl : L.length ≤ 1000000)
    (hK : ∀ H', IHeap.upd [p, q] H H' → IsT H' p q (dropT L s).1 → K (.bool (dropT L s).2) H') :
    c.C (c.F n_usage_Usage_Drop) [.pointer (some ⟨p, 0, none⟩), .int .i64 s] H K := by
  refine c.enter hc.usage_Usage_Drop rfl ?_
  unfold dropT at hK
  simp -implicitDefEqProofs [c_usage_Usage_Drop, nilOf]
  refine call_of (Tfind_ok c hc (s := s) h hl fun H1 k1 => ?_)
  have h1 := h.le k1
  cases ht : thereT L s with
  | false =>
    rw [if_neg (by rw [ht]; simp)] at hK
    simp -implicitDefEqProofs []
    exact hK _ (k1.upd _) h1
  | true =>
    rw [if_pos ht] at hK
    obtain ⟨x, hat, hxs⟩ := thereT_at ht
    obtain ⟨hlt, _⟩ := List.getElem?_eq_some_iff.1 hat
    obtain ⟨u, g1, g2⟩ := h1.rep
    obtain ⟨i, hi⟩ : ∃ i, i = posT s L := ⟨_, rfl⟩
    rw [← hi] at hat hlt hK ⊢
    have hdel := fun {X : IHeap} (hv : VS X q u (L.map rowT)) K2 hk => Delete_ok c hc (K := K2) (i := i) hv (rowT_four _) (rowT_one _) (by rw [List.length_map]; exact hlt) (by rw [List.length_map]; exact hl) hk
    have hw : IntKind.i64.wrap ((i : Int) + 1) = (i : Int) + 1 := wrap64 (by omega) (by omega)
    simp -implicitDefEqProofs [nilOf, g1, hw]
    refine call_of (hdel g2 _ fun v H2 u2 vs2 => ?_)
    have gp2 := (u2.get p h1.lt (by simpa using h.ne)).trans g1
    obtain ⟨av, cv, ev⟩ := vs2.lenv
    subst ev
    have hu1 : one1 u = true := by obtain ⟨_, _, e⟩ := g2.lenv; rw [e]; rfl
    simp -implicitDefEqProofs [nilOf, gp2, hu1]
    have up2 : IHeap.upd [p, q] H H2 := k1.updTrans ⟨u2.next, fun b hb hn => u2.get b hb fun hm => hn (List.mem_cons_of_mem _ hm)⟩
    have e1 : (L.map rowT).eraseIdx i = (L.eraseIdx i).map rowT := by rw [List.eraseIdx_eq_take_drop_succ, List.eraseIdx_eq_take_drop_succ, List.map_append, List.map_take, List.map_drop]
    rw [e1] at vs2 ⊢
    exact hK _ (up2.set (.inr (by simp)) _) ⟨by simp only [YY]; have := h1.lt; have := u2.next; omega, h.ne, ⟨_, by rw [YW, if_pos rfl], vs2.upd ((IHeap.upd_refl [p] _).set (.inr (by simp)) _) (by simpa using Ne.symm h.ne)⟩, h.sorted.sublist (List.eraseIdx_sublist _ _)⟩

omit hE hI in
theorem prod_b {D A : Int} (h1 : 0 ≤ D) (h2 : D ≤ 65536) (h3 : 1 ≤ A) (h4 : A ≤ 1000001) : 0 ≤ D * A ∧ D * A ≤ 65536065536 := by
  refine ⟨Int.mul_nonneg h1 (by omega), ?_⟩
  have := Int.mul_le_mul h2 h4 (by omega) (by omega)
  omega

end
end Go.Proofs.YtndndcdblfejnaaGreatRI
