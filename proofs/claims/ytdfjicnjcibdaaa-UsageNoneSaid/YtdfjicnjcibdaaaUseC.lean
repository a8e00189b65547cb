/- Segments: a row is taken out of an own slice. -/
import Derived.Test.YtdfjicnjcibdaaaUseB
namespace Go.Proofs.YtdfjicnjcibdaaaI
set_option linter.unusedSimpArgs false
set_option linter.unusedVariables false
open Go

theorem flat_erase (rows : List (List Value)) (i : Nat) : (rows.eraseIdx i).flatten = (rows.take i).flatten ++ (rows.drop (i + 1)).flatten := by
  rw [List.eraseIdx_eq_take_drop_succ, List.flatten_append]
theorem cell_take4 {cs : List Value} {rows : List (List Value)} (h4 : ∀ r ∈ rows, r.length = 4) (h : cs.take (rows.length * 4) = rows.flatten) {i : Nat} (hi : i ≤ rows.length) : cs.take (i * 4) = (rows.take i).flatten := by
  have := congrArg (List.take (i * 4)) h
  have hsp := flat_split rows i
  have hpre : ((rows.take i).flatten).length = i * 4 := by rw [flat_len _ 4 fun r hr => h4 r (List.mem_of_mem_take hr), List.length_take]; omega
  rw [List.take_take, Nat.min_eq_left (by omega), hsp, ← hpre, List.take_left, hpre] at this
  exact this
theorem cell_drop4 {cs : List Value} {rows : List (List Value)} (h4 : ∀ r ∈ rows, r.length = 4) (h : cs.take (rows.length * 4) = rows.flatten) {i : Nat} (hi : i ≤ rows.length) : (cs.drop (i * 4)).take ((rows.length - i) * 4) = (rows.drop i).flatten := by
  have := congrArg (List.drop (i * 4)) h
  have hsp := flat_split rows i
  have hpre : ((rows.take i).flatten).length = i * 4 := by rw [flat_len _ 4 fun r hr => h4 r (List.mem_of_mem_take hr), List.length_take]; omega
  rw [List.drop_take, hsp, ← hpre, List.drop_left, hpre] at this
  rw [← this]
  congr 1; omega

section
variable (c : Ctx) (hc : HasUse c) {H : IHeap} {K : Value → IHeap → Prop}

include hc in
theorem Delete_ok {q i : Nat} {u : Value} {rows : List (List Value)} (h : VS H q u rows) (h2 : ∀ r ∈ rows, r.length = 4) (hone : rows.flatten.all one1 = true) (hi : i < rows.length) (hl : rows.length ≤ 1000000)
    (hK : ∀ v H', IHeap.upd [q] H H' → VS H' q v (rows.eraseIdx i) → K v H') :
    c.C (c.F n_slices_Delete_api_Use_api_Use) [u, .int .i64 i, .int .i64 ((i : Int) + 1)] H K := by
  refine c.enter hc.slices_Delete_api_Use_api_Use rfl ?_
  rcases h with ⟨rfl, rfl⟩ | ⟨cs, hq, rfl, gq, hcs, hcl⟩
  · simp at hi
  · obtain ⟨N, hN⟩ : ∃ N, N = rows.length := ⟨_, rfl⟩
    have hcs' := hcs
    rw [← hN] at hcs hcl hi hl ⊢
    have hel : (rows.eraseIdx i).length = N - 1 := by rw [List.length_eraseIdx, if_pos (by omega), hN]
    obtain ⟨m, hm⟩ : ∃ m, m = N - (i + 1) := ⟨_, rfl⟩
    obtain ⟨D, hD⟩ : ∃ D, D = (rows.drop (i + 1)).flatten := ⟨_, rfl⟩
    have hDl : D.length = m * 4 := by rw [hD, flat_len _ 4 fun r hr => h2 r (List.mem_of_mem_drop hr), List.length_drop, hm, hN]
    have hDone : D.all one1 = true := by
      rw [hD, List.all_eq_true]
      intro x hx
      obtain ⟨r, hr, hx⟩ := List.mem_flatten.1 hx
      exact List.all_eq_true.1 hone x (List.mem_flatten.2 ⟨r, List.mem_of_mem_drop hr, hx⟩)
    have hFD : (cs.drop ((i + 1) * 4)).take (m * 4) = D := by
      have := cell_drop4 h2 hcs' (i := i + 1) (by omega)
      rw [← hN, ← hm] at this
      rw [hD, this]
    have hFA : cs.take (i * 4) = (rows.take i).flatten := cell_take4 h2 hcs' (by omega)
    have sQ : ∀ (X : IHeap) (k l : Nat), l ≤ N → sliceI X 4 (some ⟨q, 0, none⟩) N (UNK + 4) k l none = some (.slice (some ⟨q, k * 4, none⟩) (l - k) (UNK + 4)) := by
      intro X k l hk
      unfold sliceI
      rw [if_neg (by omega)]
      simp [hk]
    obtain ⟨x13, s13⟩ : ∃ x, sliceI H 4 (some ⟨q, 0, none⟩) N (UNK + 4) i (i + 1) (some N) = some x := by
      unfold sliceI
      rw [if_neg (by omega)]
      simp only [Option.getD_some, Nat.le_refl, true_or, and_true, true_and]
      rw [if_pos (by omega), if_pos (by unfold UNK; omega)]
      exact ⟨_, rfl⟩
    have s22 : sliceI H 4 (some ⟨q, 0, none⟩) N (UNK + 4) 0 i none = some (.slice (some ⟨q, 0, none⟩) i (UNK + 4)) := by
      have := sQ H 0 i (by omega)
      rwa [Nat.zero_mul, Nat.sub_zero] at this
    have s25 := sQ H (i + 1) N (Nat.le_refl _)
    rw [← hm] at s25
    have fD : firstI H 4 m (.slice (some ⟨q, (i + 1) * 4, none⟩) m (UNK + 4)) = some D := by
      simp only [firstI, IHeap.loadL, gq]
      by_cases hz : m * 4 = 0
      · have : D = [] := List.length_eq_zero_iff.1 (by rw [hDl]; exact hz)
        rw [if_pos hz, this]
      · rw [if_neg hz, if_pos (by omega), hFD]
    obtain ⟨cs1, hcs1⟩ : ∃ c, c = putAt cs (i * 4) D := ⟨_, rfl⟩
    have l1 : cs1.length = cs.length := by rw [hcs1]; exact put_len (by omega)
    have t1 : cs1.take ((N - 1) * 4) = (rows.eraseIdx i).flatten := by
      rw [hcs1, flat_erase, ← hD, ← hFA]
      unfold putAt
      rw [List.append_assoc, ← List.append_assoc, List.take_append_of_le_length (by simp only [List.length_append, List.length_take]; omega), List.take_of_length_le (by simp only [List.length_append, List.length_take]; omega)]
    obtain ⟨Ha, hHa⟩ : ∃ X : IHeap, X = H.set q (.cells cs1 false) := ⟨_, rfl⟩
    have ga : Ha.get q = some (.cells cs1 false) := by rw [hHa, YT, if_pos rfl]
    have ua : IHeap.upd [q] H Ha := by rw [hHa]; exact (IHeap.upd_refl _ _).set (.inr (by simp)) _
    have na : Ha.next = H.next := by rw [hHa]; rfl
    have e1 : i + m = N - 1 := by omega
    -- the append: in place, or of nothing
    obtain ⟨Hb, hab, gb, ub, nb⟩ : ∃ Hb, appendI H 4 32 (.slice (some ⟨q, 0, none⟩) i (UNK + 4)) m D = some (.slice (some ⟨q, 0, none⟩) (N - 1) (UNK + 4), Hb) ∧ Hb.get q = some (.cells cs1 false) ∧ IHeap.upd [q] H Hb ∧ Hb.next = H.next := by
      have f1 : firstI H 4 i (.slice (some ⟨q, 0, none⟩) i (UNK + 4)) = some (cs.take (i * 4)) := by
        simp only [firstI, IHeap.loadL, gq]
        by_cases hz : i * 4 = 0
        · rw [if_pos hz, hz]; rfl
        · rw [if_neg hz, if_pos (by omega), List.drop_zero]
      by_cases hm0 : m = 0
      · have hD0 : D = [] := List.length_eq_zero_iff.1 (by rw [hDl, hm0])
        refine ⟨H, ?_, ?_, IHeap.upd_refl _ _, rfl⟩
        · simp only [appendI]
          rw [if_pos ⟨by omega, by omega, by omega, by omega, by omega⟩, if_pos hm0, if_pos (by unfold UNK; omega), show N - 1 = i by omega]
        · have : cs1 = cs := by rw [hcs1, hD0]; unfold putAt; simp
          rw [this]; exact gq
      · refine ⟨Ha, ?_, ga, ua, na⟩
        simp only [appendI, f1, gq]
        rw [if_pos ⟨by omega, by omega, by omega, by omega, by omega⟩, if_neg hm0, if_neg (by omega), if_neg (by omega), if_pos trivial, if_pos hDone, if_pos (by omega), hHa, hcs1, e1, Nat.zero_add]
    obtain ⟨Z, hZ⟩ : ∃ Z, Z = (Builtin.zeroCells #[Value.int .i64 0, .int .i64 0, .int .i64 0, .int .i64 0] 1).toList := ⟨_, rfl⟩
    have hZl : Z.length = 4 := by rw [hZ, Array.length_toList, zeroCells_size]; rfl
    have hZone : Z.all one1 = true := by
      rw [hZ, List.all_eq_true]
      intro x hx
      simp only [Builtin.zeroCells, Array.toList_map, List.mem_map] at hx
      obtain ⟨k, _, rfl⟩ := hx
      have : k % 4 = 0 ∨ k % 4 = 1 ∨ k % 4 = 2 ∨ k % 4 = 3 := by omega
      rcases this with h | h | h | h <;> simp [h, one1]
    have s31 : sliceI Hb 4 (some ⟨q, 0, none⟩) (N - 1) (UNK + 4) (N - 1) N none = some (.slice (some ⟨q, (N - 1) * 4, none⟩) 1 (UNK + 4)) := by
      unfold sliceI
      rw [if_neg (by omega)]
      simp only [fitsI, gb, Option.getD_none, Nat.zero_add]
      rw [if_pos ⟨trivial, by omega, .inr (by rw [decide_eq_true_eq]; omega)⟩, show N - (N - 1) = 1 by omega]
    obtain ⟨cs2, hcs2⟩ : ∃ c, c = putAt cs1 ((N - 1) * 4) Z := ⟨_, rfl⟩
    have l2 : cs2.length = cs1.length := by rw [hcs2]; exact put_len (by omega)
    have t2 : cs2.take ((N - 1) * 4) = (rows.eraseIdx i).flatten := by
      rw [hcs2]
      unfold putAt
      rw [List.append_assoc, List.take_append_of_le_length (by rw [List.length_take]; omega), List.take_take, Nat.min_self, t1]
    have st : Hb.storeL q ((N - 1) * 4) Z = some (Hb.set q (.cells cs2 false)) := by
      simp only [IHeap.storeL, gb]
      rw [if_pos ⟨by omega, hZone⟩, hcs2]
    have fo2 : List.take ((N - 1) * 4) cs1 ++ (Z ++ List.drop ((N - 1) * 4 + Z.length) cs1) = cs2 := by rw [hcs2, putAt, List.append_assoc]
    have k2 : (N - 1) * 4 + Z.length ≤ cs1.length := by omega
    have hi1 : i ≤ N := by omega
    have hi2 : i + 1 ≤ N := by omega
    have q1 : (0 : Int) ≤ (i : Int) + 1 := by omega
    have q2 : ((i : Int) + 1).toNat = i + 1 := by omega
    have q3 : ((i : Int) + 1) ≤ (N : Int) := by omega
    have q4 : (i : Int) ≤ (i : Int) + 1 := by omega
    have q5 : N - 1 ≤ N := by omega
    have q6 : ¬ (i : Int) = (i : Int) + 1 := by omega
    simp -implicitDefEqProofs [J0,J1,J2,J3,J4,J5,J6,J7,J8,J9,Ja,Jb,Jc,Jd,Je,Jf,Jg,Jh,Ji,Jj,Jk,Jl,Jm,Jn,Jo,Jp,Jq,Jr,Js,Jt,Ju,Jv,Jw,Jx,Jy,Jz,JA,JB,JC,JD,JE,JF,JG,JH,JI,JJ,JK,JL,JM,JN,JO,JP,stillI,IOp.kind,JQ,JR,JS,JT,JU,JV,JW,JX,JY,JZ,Y0,Y1,Y2,Y3,Y4,Y5,Y6,Y7,Y8,Y9,Ya,Yb,Yc,Yd,Ye,Yf,Yg,Yh,Yi,Yj,Yk,Yl,Ym,Yn,ial,Yo,Yp,Yq,Yr,Ys,Yt,Yu,Yv,ires,iresL,ires1,Yw,Yx,Yy,Yz,YA,YB,bin2,YC,YD,YE,YF,YG,YH,YI,YJ,YK,YL,YM,YN,YO,YP,YQ,YR,un1,shOk,eqL,eq1,fillL,putAt,IHeap.load1,IHeap.loadL,IHeap.storeL,YS,YT,YU,YV,YW,YX,YY,YZ,B0,B1,B2,B3,B4,B5,B6,B7,B8,B9,Ba,Bb,Bc,Bd,Be,Bf,Bg,Bh,Bi,Bj,Bk,Bl,Bm, c_slices_Delete_api_Use_api_Use, boundsI, natI, q1, q2, q3, q4, q5, q6, hi1, hi2, s13, s22, s25, lenOfI, fD, hab, s31, ← hZ, gb, k2, hZone, fo2, -List.all_eq_true]
    exact hK _ _ (ub.set (.inr (by simp)) _) (.inr ⟨cs2, by simp only [YV]; omega, by rw [hel], by rw [YT, if_pos rfl], by rw [hel, t2], by rw [hel]; omega⟩)

end
end Go.Proofs.YtdfjicnjcibdaaaI
