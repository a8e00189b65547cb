/- Segments: added, dead, dropped; scores. -/
import Derived.Test.YtdfjicnjcibdaaaUseC
namespace Go.Proofs.YtdfjicnjcibdaaaI
set_option linter.unusedSimpArgs false
set_option linter.unusedVariables false
open Go

/-- What slices.Insert does. -/
def InsOkT (c : Ctx) : Prop := ∀ (H : IHeap) (K : Value → IHeap → Prop) (q vb i : Nat) (u : Value) (rows : List (List Value)) (new : List Value), VS H q u rows → (∀ r ∈ rows, r.length = 4) → rows.flatten.all one1 = true →
  H.get vb = some (.cells new false) → vb < H.next → vb ≠ q → new.length = 4 → new.all one1 = true → i ≤ rows.length → rows.length ≤ 1000000 →
  (∀ q' H', IHeap.upd [q] H H' → H.next ≤ q' → VS H' q' (.slice (some ⟨q', 0, none⟩) (rows.length + 1) (UNK + 4)) (rows.take i ++ new :: rows.drop i) → K (.slice (some ⟨q', 0, none⟩) (rows.length + 1) (UNK + 4)) H') →
  c.C (c.F n_slices_Insert_api_Use_api_Use) [u, .int .i64 i, .slice (some ⟨vb, 0, none⟩) 1 1] H K

theorem cells_takeT {cs : List Value} {rows : List (List Value)} (h4 : ∀ r ∈ rows, r.length = 4) (h : cs.take (rows.length * 4) = rows.flatten) {i : Nat} (hi : i ≤ rows.length) : cs.take (i * 4) = (rows.take i).flatten := by
  have := congrArg (List.take (i * 4)) h
  have hsp := flat_split rows i
  have hpre : ((rows.take i).flatten).length = i * 4 := by rw [flat_len _ 4 fun r hr => h4 r (List.mem_of_mem_take hr), List.length_take]; omega
  rw [List.take_take, Nat.min_eq_left (by omega), hsp, ← hpre, List.take_left, hpre] at this
  exact this
theorem cells_dropT {cs : List Value} {rows : List (List Value)} (h4 : ∀ r ∈ rows, r.length = 4) (h : cs.take (rows.length * 4) = rows.flatten) {i : Nat} (hi : i ≤ rows.length) : (cs.drop (i * 4)).take ((rows.length - i) * 4) = (rows.drop i).flatten := by
  have := congrArg (List.drop (i * 4)) h
  have hsp := flat_split rows i
  have hpre : ((rows.take i).flatten).length = i * 4 := by rw [flat_len _ 4 fun r hr => h4 r (List.mem_of_mem_take hr), List.length_take]; omega
  rw [List.drop_take, hsp, ← hpre, List.drop_left, hpre] at this
  rw [← this]
  congr 1; omega
theorem cells_setT {cs r : List Value} {rows : List (List Value)} (h4 : ∀ r ∈ rows, r.length = 4) (h : cs.take (rows.length * 4) = rows.flatten) (hl : rows.length * 4 ≤ cs.length) {i : Nat} (hi : i < rows.length) (hr : r.length = 4) :
    (putAt cs (i * 4) r).take (rows.length * 4) = (rows.set i r).flatten := by
  rw [List.set_eq_take_append_cons_drop, if_pos hi, List.flatten_append, List.flatten_cons]
  have e1 := cells_takeT h4 h (i := i) (by omega)
  have e2 := cells_dropT h4 h (i := i + 1) (by omega)
  unfold putAt
  have l1 : (cs.take (i * 4)).length = i * 4 := by rw [List.length_take]; omega
  rw [← e1, ← e2, List.append_assoc, List.take_append, l1, List.take_take, Nat.min_eq_right (by omega), List.take_append, hr]
  congr 1
  rw [List.take_of_length_le (by omega)]
  congr 1
  rw [show i * 4 + 4 = (i + 1) * 4 by omega]
  congr 1
  omega

theorem set_liveT {L : List UseD} {i : Nat} {x : UseD} {n : Int} {cs cs2 : List Value} (hat : L[i]? = some x) (hcs : cs.take (L.length * 4) = (L.map rowT).flatten) (hcl : L.length * 4 ≤ cs.length)
    (hcs2 : cs2 = List.take (i * 4 + 2) cs ++ (Value.int .i64 (x.live - n) :: List.drop (i * 4 + 2 + 1) cs)) :
    cs2.take (L.length * 4) = ((L.modify i fun x => { x with live := x.live - n }).map rowT).flatten := by
  have hlt := (List.getElem?_eq_some_iff.1 hat).1
  have hrow : (cs.drop (i * 4)).take 4 = rowT x := by
    obtain ⟨f1, f2⟩ := flat_row (L.map rowT) 4 i (rowT x) (rowT_four _) (by simp [hat])
    rw [← f1, ← hcs, List.drop_take, List.take_take, Nat.min_eq_left (by omega)]
  have hmod : (L.modify i fun x => { x with live := x.live - n }) = L.set i { x with live := x.live - n } := by
    apply List.ext_getElem?
    intro j
    rw [List.getElem?_modify, List.getElem?_set]
    by_cases hj : i = j
    · subst hj
      have hxe := (List.getElem?_eq_some_iff.1 hat).2
      simp [hlt, hxe]
    · simp [hj]
  have hput := cells_setT (r := rowT { x with live := x.live - n }) (rowT_four L) (by rw [List.length_map]; exact hcs) (by rw [List.length_map]; exact hcl) (i := i) (by rw [List.length_map]; exact hlt) rfl
  rw [hmod, List.map_set, ← hput, List.length_map]
  congr 1
  rw [hcs2]
  have e0 : cs.take (i * 4 + 2) = cs.take (i * 4) ++ [.int .i64 x.seg, .int .i64 x.size] := by
    rw [List.take_add]
    congr 1
    have := congrArg (List.take 2) hrow
    rw [List.take_take] at this
    simpa [rowT] using this
  have e1 : cs.drop (i * 4 + 2 + 1) = .int .i64 x.born :: cs.drop (i * 4 + 4) := by
    have r3 := row_getT hrow 3 (by omega)
    simp only [rowT, List.getElem?_cons_succ, List.getElem?_cons_zero] at r3
    have h9 : i * 4 + 3 < cs.length := by omega
    rw [List.getElem?_eq_getElem h9] at r3
    injection r3 with r3
    rw [show i * 4 + 2 + 1 = i * 4 + 3 by omega, List.drop_eq_getElem_cons h9, r3]
  rw [e0, e1]
  unfold putAt
  simp [rowT]

section
variable (c : Ctx) (hc : HasUse c) (hE : IsErr c) (hI : InsOkT c) {H : IHeap} {K : Value → IHeap → Prop}

include hc hI in
theorem Tadd_ok {p q : Nat} {L : List UseD} {x : UseD} (h : IsT H p q L) (hl : L.length ≤ 1000000)
    (hK : ∀ q' H', IHeap.upd [p, q] H H' → (q' = q ∨ H.next ≤ q') → IsT H' p q' (addT L x).1 → K (errV c (addT L x).2) H') :
    c.C (c.F n_usage_Usage_add) [.pointer (some ⟨p, 0, none⟩), uV x] H K := by
  refine c.enter hc.usage_Usage_add rfl ?_
  have hpl := h.lt
  have hso := addT_sorted (x := x) h.sorted
  obtain ⟨HA, hHA⟩ : ∃ X : IHeap, X = H.alloc (.cells [.int .i64 x.seg, .int .i64 x.size, .int .i64 x.live, .int .i64 x.born] false) := ⟨_, rfl⟩
  have kA : H.le HA := by rw [hHA]; exact H.le_alloc _
  have nA : HA.next = H.next + 1 := by rw [hHA]; rfl
  have gA : HA.get H.next = some (.cells [.int .i64 x.seg, .int .i64 x.size, .int .i64 x.live, .int .i64 x.born] false) := by rw [hHA, YS, if_pos rfl]
  have hA := h.le kA
  unfold addT at hK hso
  by_cases h1 : x.seg < 0
  · rw [if_pos (.inl h1)] at hK
    simp -implicitDefEqProofs [J0,J1,J2,J3,J4,J5,J6,J7,J8,J9,Ja,Jb,Jc,Jd,Je,Jf,Jg,Jh,Ji,Jj,Jk,Jl,Jm,Jn,Jo,Jp,Jq,Jr,Js,Jt,Ju,Jv,Jw,Jx,Jy,Jz,JA,JB,JC,JD,JE,JF,JG,JH,JI,JJ,JK,JL,JM,JN,JO,JP,stillI,IOp.kind,JQ,JR,JS,JT,JU,JV,JW,JX,JY,JZ,Y0,Y1,Y2,Y3,Y4,Y5,Y6,Y7,Y8,Y9,Ya,Yb,Yc,Yd,Ye,Yf,Yg,Yh,Yi,Yj,Yk,Yl,Ym,Yn,ial,Yo,Yp,Yq,Yr,Ys,Yt,Yu,Yv,ires,iresL,ires1,Yw,Yx,Yy,Yz,YA,YB,bin2,YC,YD,YE,YF,YG,YH,YI,YJ,YK,YL,YM,YN,YO,YP,YQ,YR,un1,shOk,eqL,eq1,fillL,putAt,IHeap.load1,IHeap.loadL,IHeap.storeL,YS,YT,YU,YV,YW,YX,YY,YZ,B0,B1,B2,B3,B4,B5,B6,B7,B8,B9,Ba,Bb,Bc,Bd,Be,Bf,Bg,Bh,Bi,Bj,Bk,Bl,Bm, c_usage_Usage_add, uV, ← hHA, nilOf, gA, h1]
    exact hK q _ (kA.upd _) (.inl rfl) hA
  · by_cases h2 : 4096 ≤ x.seg
    · rw [if_pos (.inr (.inl h2))] at hK
      simp -implicitDefEqProofs [J0,J1,J2,J3,J4,J5,J6,J7,J8,J9,Ja,Jb,Jc,Jd,Je,Jf,Jg,Jh,Ji,Jj,Jk,Jl,Jm,Jn,Jo,Jp,Jq,Jr,Js,Jt,Ju,Jv,Jw,Jx,Jy,Jz,JA,JB,JC,JD,JE,JF,JG,JH,JI,JJ,JK,JL,JM,JN,JO,JP,stillI,IOp.kind,JQ,JR,JS,JT,JU,JV,JW,JX,JY,JZ,Y0,Y1,Y2,Y3,Y4,Y5,Y6,Y7,Y8,Y9,Ya,Yb,Yc,Yd,Ye,Yf,Yg,Yh,Yi,Yj,Yk,Yl,Ym,Yn,ial,Yo,Yp,Yq,Yr,Ys,Yt,Yu,Yv,ires,iresL,ires1,Yw,Yx,Yy,Yz,YA,YB,bin2,YC,YD,YE,YF,YG,YH,YI,YJ,YK,YL,YM,YN,YO,YP,YQ,YR,un1,shOk,eqL,eq1,fillL,putAt,IHeap.load1,IHeap.loadL,IHeap.storeL,YS,YT,YU,YV,YW,YX,YY,YZ,B0,B1,B2,B3,B4,B5,B6,B7,B8,B9,Ba,Bb,Bc,Bd,Be,Bf,Bg,Bh,Bi,Bj,Bk,Bl,Bm, c_usage_Usage_add, uV, ← hHA, nilOf, gA, h1, h2]
      exact hK q _ (kA.upd _) (.inl rfl) hA
    · simp -implicitDefEqProofs [J0,J1,J2,J3,J4,J5,J6,J7,J8,J9,Ja,Jb,Jc,Jd,Je,Jf,Jg,Jh,Ji,Jj,Jk,Jl,Jm,Jn,Jo,Jp,Jq,Jr,Js,Jt,Ju,Jv,Jw,Jx,Jy,Jz,JA,JB,JC,JD,JE,JF,JG,JH,JI,JJ,JK,JL,JM,JN,JO,JP,stillI,IOp.kind,JQ,JR,JS,JT,JU,JV,JW,JX,JY,JZ,Y0,Y1,Y2,Y3,Y4,Y5,Y6,Y7,Y8,Y9,Ya,Yb,Yc,Yd,Ye,Yf,Yg,Yh,Yi,Yj,Yk,Yl,Ym,Yn,ial,Yo,Yp,Yq,Yr,Ys,Yt,Yu,Yv,ires,iresL,ires1,Yw,Yx,Yy,Yz,YA,YB,bin2,YC,YD,YE,YF,YG,YH,YI,YJ,YK,YL,YM,YN,YO,YP,YQ,YR,un1,shOk,eqL,eq1,fillL,putAt,IHeap.load1,IHeap.loadL,IHeap.storeL,YS,YT,YU,YV,YW,YX,YY,YZ,B0,B1,B2,B3,B4,B5,B6,B7,B8,B9,Ba,Bb,Bc,Bd,Be,Bf,Bg,Bh,Bi,Bj,Bk,Bl,Bm, c_usage_Usage_add, uV, ← hHA, nilOf, gA, h1, h2]
      refine call_of (Tmay_ok c hc (x := x) fun H1 k1 => ?_)
      have h1' := hA.le k1
      have gx1 := (k1.get H.next (by omega)).trans gA
      have n1 := k1.next
      cases hn : mayT x with
      | false =>
        rw [if_pos (.inr (.inr hn))] at hK
        simp -implicitDefEqProofs [J0,J1,J2,J3,J4,J5,J6,J7,J8,J9,Ja,Jb,Jc,Jd,Je,Jf,Jg,Jh,Ji,Jj,Jk,Jl,Jm,Jn,Jo,Jp,Jq,Jr,Js,Jt,Ju,Jv,Jw,Jx,Jy,Jz,JA,JB,JC,JD,JE,JF,JG,JH,JI,JJ,JK,JL,JM,JN,JO,JP,stillI,IOp.kind,JQ,JR,JS,JT,JU,JV,JW,JX,JY,JZ,Y0,Y1,Y2,Y3,Y4,Y5,Y6,Y7,Y8,Y9,Ya,Yb,Yc,Yd,Ye,Yf,Yg,Yh,Yi,Yj,Yk,Yl,Ym,Yn,ial,Yo,Yp,Yq,Yr,Ys,Yt,Yu,Yv,ires,iresL,ires1,Yw,Yx,Yy,Yz,YA,YB,bin2,YC,YD,YE,YF,YG,YH,YI,YJ,YK,YL,YM,YN,YO,YP,YQ,YR,un1,shOk,eqL,eq1,fillL,putAt,IHeap.load1,IHeap.loadL,IHeap.storeL,YS,YT,YU,YV,YW,YX,YY,YZ,B0,B1,B2,B3,B4,B5,B6,B7,B8,B9,Ba,Bb,Bc,Bd,Be,Bf,Bg,Bh,Bi,Bj,Bk,Bl,Bm]
        exact hK q _ ((kA.trans k1).upd _) (.inl rfl) h1'
      | true =>
        rw [if_neg (by rw [hn]; simp; omega)] at hK hso
        simp -implicitDefEqProofs [J0,J1,J2,J3,J4,J5,J6,J7,J8,J9,Ja,Jb,Jc,Jd,Je,Jf,Jg,Jh,Ji,Jj,Jk,Jl,Jm,Jn,Jo,Jp,Jq,Jr,Js,Jt,Ju,Jv,Jw,Jx,Jy,Jz,JA,JB,JC,JD,JE,JF,JG,JH,JI,JJ,JK,JL,JM,JN,JO,JP,stillI,IOp.kind,JQ,JR,JS,JT,JU,JV,JW,JX,JY,JZ,Y0,Y1,Y2,Y3,Y4,Y5,Y6,Y7,Y8,Y9,Ya,Yb,Yc,Yd,Ye,Yf,Yg,Yh,Yi,Yj,Yk,Yl,Ym,Yn,ial,Yo,Yp,Yq,Yr,Ys,Yt,Yu,Yv,ires,iresL,ires1,Yw,Yx,Yy,Yz,YA,YB,bin2,YC,YD,YE,YF,YG,YH,YI,YJ,YK,YL,YM,YN,YO,YP,YQ,YR,un1,shOk,eqL,eq1,fillL,putAt,IHeap.load1,IHeap.loadL,IHeap.storeL,YS,YT,YU,YV,YW,YX,YY,YZ,B0,B1,B2,B3,B4,B5,B6,B7,B8,B9,Ba,Bb,Bc,Bd,Be,Bf,Bg,Bh,Bi,Bj,Bk,Bl,Bm, gx1]
        refine call_of (Tfind_ok c hc (s := x.seg) h1' hl fun H2 k2 => ?_)
        have h2' := h1'.le k2
        have gx2 := (k2.get H.next (by omega)).trans gx1
        have n2 := k2.next
        cases ht : thereT L x.seg with
        | true =>
          rw [if_pos ht] at hK
          simp -implicitDefEqProofs [J0,J1,J2,J3,J4,J5,J6,J7,J8,J9,Ja,Jb,Jc,Jd,Je,Jf,Jg,Jh,Ji,Jj,Jk,Jl,Jm,Jn,Jo,Jp,Jq,Jr,Js,Jt,Ju,Jv,Jw,Jx,Jy,Jz,JA,JB,JC,JD,JE,JF,JG,JH,JI,JJ,JK,JL,JM,JN,JO,JP,stillI,IOp.kind,JQ,JR,JS,JT,JU,JV,JW,JX,JY,JZ,Y0,Y1,Y2,Y3,Y4,Y5,Y6,Y7,Y8,Y9,Ya,Yb,Yc,Yd,Ye,Yf,Yg,Yh,Yi,Yj,Yk,Yl,Ym,Yn,ial,Yo,Yp,Yq,Yr,Ys,Yt,Yu,Yv,ires,iresL,ires1,Yw,Yx,Yy,Yz,YA,YB,bin2,YC,YD,YE,YF,YG,YH,YI,YJ,YK,YL,YM,YN,YO,YP,YQ,YR,un1,shOk,eqL,eq1,fillL,putAt,IHeap.load1,IHeap.loadL,IHeap.storeL,YS,YT,YU,YV,YW,YX,YY,YZ,B0,B1,B2,B3,B4,B5,B6,B7,B8,B9,Ba,Bb,Bc,Bd,Be,Bf,Bg,Bh,Bi,Bj,Bk,Bl,Bm]
          exact hK q _ (((kA.trans k1).trans k2).upd _) (.inl rfl) h2'
        | false =>
          rw [if_neg (by rw [ht]; simp)] at hK hso
          obtain ⟨u, g1, g2⟩ := h2'.rep
          have hple := posT_le x.seg L
          obtain ⟨H3, hH3⟩ : ∃ X : IHeap, X = H2.alloc (.cells [.int .i64 x.seg, .int .i64 x.size, .int .i64 x.live, .int .i64 x.born] false) := ⟨_, rfl⟩
          have k3 : H2.le H3 := by rw [hH3]; exact H2.le_alloc _
          have n3 : H3.next = H2.next + 1 := by rw [hH3]; rfl
          have gv3 : H3.get H2.next = some (.cells [.int .i64 x.seg, .int .i64 x.size, .int .i64 x.live, .int .i64 x.born] false) := by rw [hH3, YS, if_pos rfl]
          have gp3 := (k3.get p h2'.lt).trans g1
          obtain ⟨q0, hq0, hq1, hq2, hv2⟩ : ∃ q0, q0 ≠ H2.next ∧ q0 ≠ p ∧ (q0 = q ∨ H3.next ≤ q0) ∧ VS H3 q0 u (L.map rowT) := by
            rcases g2 with ⟨hr0, rfl⟩ | ⟨cs, hq, rfl, gq, hcs, hcl⟩
            · exact ⟨H3.next, by omega, by omega, .inr (Nat.le_refl _), .inl ⟨hr0, rfl⟩⟩
            · exact ⟨q, by omega, Ne.symm h.ne, .inl rfl, VS.le (.inr ⟨cs, hq, rfl, gq, hcs, hcl⟩) k3⟩
          obtain ⟨au, cu, eu⟩ := hv2.lenv
          have hins := fun K2 hk => hI H3 K2 q0 H2.next (posT x.seg L) u _ (rowT x) hv2 (rowT_four _) (rowT_one _) gv3 (by omega) (Ne.symm hq0) rfl rfl (by rw [List.length_map]; exact hple) (by rw [List.length_map]; exact hl) hk
          rw [List.length_map] at eu
          rw [eu] at hins g1
          simp -implicitDefEqProofs [J0,J1,J2,J3,J4,J5,J6,J7,J8,J9,Ja,Jb,Jc,Jd,Je,Jf,Jg,Jh,Ji,Jj,Jk,Jl,Jm,Jn,Jo,Jp,Jq,Jr,Js,Jt,Ju,Jv,Jw,Jx,Jy,Jz,JA,JB,JC,JD,JE,JF,JG,JH,JI,JJ,JK,JL,JM,JN,JO,JP,stillI,IOp.kind,JQ,JR,JS,JT,JU,JV,JW,JX,JY,JZ,Y0,Y1,Y2,Y3,Y4,Y5,Y6,Y7,Y8,Y9,Ya,Yb,Yc,Yd,Ye,Yf,Yg,Yh,Yi,Yj,Yk,Yl,Ym,Yn,ial,Yo,Yp,Yq,Yr,Ys,Yt,Yu,Yv,ires,iresL,ires1,Yw,Yx,Yy,Yz,YA,YB,bin2,YC,YD,YE,YF,YG,YH,YI,YJ,YK,YL,YM,YN,YO,YP,YQ,YR,un1,shOk,eqL,eq1,fillL,putAt,IHeap.load1,IHeap.loadL,IHeap.storeL,YS,YT,YU,YV,YW,YX,YY,YZ,B0,B1,B2,B3,B4,B5,B6,B7,B8,B9,Ba,Bb,Bc,Bd,Be,Bf,Bg,Bh,Bi,Bj,Bk,Bl,Bm, nilOf, g1, gx2, ← hH3]
          refine dcall_of c.mono (hins _ fun q' H4 u4 hq' vs4 => ?_)
          have gp4 := (u4.get p (by omega) (by simpa using Ne.symm hq1)).trans gp3
          rw [List.length_map] at vs4 ⊢
          have n4 := u4.next
          have hpq' : p ≠ q' := by omega
          have e1 : (L.map rowT).take (posT x.seg L) ++ rowT x :: (L.map rowT).drop (posT x.seg L) = (L.take (posT x.seg L) ++ x :: L.drop (posT x.seg L)).map rowT := by simp [List.map_take, List.map_drop]
          rw [e1] at vs4
          simp -implicitDefEqProofs [J0,J1,J2,J3,J4,J5,J6,J7,J8,J9,Ja,Jb,Jc,Jd,Je,Jf,Jg,Jh,Ji,Jj,Jk,Jl,Jm,Jn,Jo,Jp,Jq,Jr,Js,Jt,Ju,Jv,Jw,Jx,Jy,Jz,JA,JB,JC,JD,JE,JF,JG,JH,JI,JJ,JK,JL,JM,JN,JO,JP,stillI,IOp.kind,JQ,JR,JS,JT,JU,JV,JW,JX,JY,JZ,Y0,Y1,Y2,Y3,Y4,Y5,Y6,Y7,Y8,Y9,Ya,Yb,Yc,Yd,Ye,Yf,Yg,Yh,Yi,Yj,Yk,Yl,Ym,Yn,ial,Yo,Yp,Yq,Yr,Ys,Yt,Yu,Yv,ires,iresL,ires1,Yw,Yx,Yy,Yz,YA,YB,bin2,YC,YD,YE,YF,YG,YH,YI,YJ,YK,YL,YM,YN,YO,YP,YQ,YR,un1,shOk,eqL,eq1,fillL,putAt,IHeap.load1,IHeap.loadL,IHeap.storeL,YS,YT,YU,YV,YW,YX,YY,YZ,B0,B1,B2,B3,B4,B5,B6,B7,B8,B9,Ba,Bb,Bc,Bd,Be,Bf,Bg,Bh,Bi,Bj,Bk,Bl,Bm, nilOf, gp4]
          have up4 : IHeap.upd [p, q] H H4 := ⟨by omega, fun b hb hn => by
            rw [u4.get b (by omega) (fun hm => by
              simp only [List.mem_singleton] at hm
              rcases hq2 with e | e
              · exact hn (by simp [hm, e])
              · omega), k3.get b (by omega), k2.get b (by omega), k1.get b (by omega)]
            exact kA.get b hb⟩
          exact hK q' _ (up4.set (.inr (by simp)) _) (.inr (by omega)) ⟨by simp only [YV]; omega, hpq', ⟨_, by rw [YT, if_pos rfl], vs4.upd ((IHeap.upd_refl [p] _).set (.inr (by simp)) _) (by simpa using Ne.symm hpq')⟩, hso⟩

theorem addT_code (L : List UseD) (x : UseD) : (addT L x).2 = 0 ∨ (addT L x).2 = 1 ∨ (addT L x).2 = 2 ∨ (addT L x).2 = 6 ∨ (addT L x).2 = 7 := by
  unfold addT
  repeat' split
  all_goals simp
theorem deadT_code (L : List UseD) (s n : Int) : (deadT L s n).2 = 0 ∨ (deadT L s n).2 = 1 ∨ (deadT L s n).2 = 2 ∨ (deadT L s n).2 = 6 ∨ (deadT L s n).2 = 7 := by
  unfold deadT
  repeat' split
  all_goals simp

include hc hE hI in
theorem TAdd_ok {p q : Nat} {L : List UseD} {x : UseD} (h : IsT H p q L) (hl : L.length ≤ 1000000)
    (hK : ∀ q' H', IHeap.upd [p, q] H H' → (q' = q ∨ H.next ≤ q') → IsT H' p q' (addT L x).1 → K (.int .i64 (addT L x).2) H') :
    c.C (c.F n_usage_Usage_Add) [.pointer (some ⟨p, 0, none⟩), .int .i64 x.seg, .int .i64 x.size, .int .i64 x.live, .int .i64 x.born] H K := by
  refine c.enter hc.usage_Usage_Add rfl ?_
  simp -implicitDefEqProofs [J0,J1,J2,J3,J4,J5,J6,J7,J8,J9,Ja,Jb,Jc,Jd,Je,Jf,Jg,Jh,Ji,Jj,Jk,Jl,Jm,Jn,Jo,Jp,Jq,Jr,Js,Jt,Ju,Jv,Jw,Jx,Jy,Jz,JA,JB,JC,JD,JE,JF,JG,JH,JI,JJ,JK,JL,JM,JN,JO,JP,stillI,IOp.kind,JQ,JR,JS,JT,JU,JV,JW,JX,JY,JZ,Y0,Y1,Y2,Y3,Y4,Y5,Y6,Y7,Y8,Y9,Ya,Yb,Yc,Yd,Ye,Yf,Yg,Yh,Yi,Yj,Yk,Yl,Ym,Yn,ial,Yo,Yp,Yq,Yr,Ys,Yt,Yu,Yv,ires,iresL,ires1,Yw,Yx,Yy,Yz,YA,YB,bin2,YC,YD,YE,YF,YG,YH,YI,YJ,YK,YL,YM,YN,YO,YP,YQ,YR,un1,shOk,eqL,eq1,fillL,putAt,IHeap.load1,IHeap.loadL,IHeap.storeL,YS,YT,YU,YV,YW,YX,YY,YZ,B0,B1,B2,B3,B4,B5,B6,B7,B8,B9,Ba,Bb,Bc,Bd,Be,Bf,Bg,Bh,Bi,Bj,Bk,Bl,Bm, c_usage_Usage_Add]
  refine call_of (Tadd_ok c hc hI (x := x) h hl fun q' H1 u1 hq i1 => ?_)
  simp -implicitDefEqProofs [J0,J1,J2,J3,J4,J5,J6,J7,J8,J9,Ja,Jb,Jc,Jd,Je,Jf,Jg,Jh,Ji,Jj,Jk,Jl,Jm,Jn,Jo,Jp,Jq,Jr,Js,Jt,Ju,Jv,Jw,Jx,Jy,Jz,JA,JB,JC,JD,JE,JF,JG,JH,JI,JJ,JK,JL,JM,JN,JO,JP,stillI,IOp.kind,JQ,JR,JS,JT,JU,JV,JW,JX,JY,JZ,Y0,Y1,Y2,Y3,Y4,Y5,Y6,Y7,Y8,Y9,Ya,Yb,Yc,Yd,Ye,Yf,Yg,Yh,Yi,Yj,Yk,Yl,Ym,Yn,ial,Yo,Yp,Yq,Yr,Ys,Yt,Yu,Yv,ires,iresL,ires1,Yw,Yx,Yy,Yz,YA,YB,bin2,YC,YD,YE,YF,YG,YH,YI,YJ,YK,YL,YM,YN,YO,YP,YQ,YR,un1,shOk,eqL,eq1,fillL,putAt,IHeap.load1,IHeap.loadL,IHeap.storeL,YS,YT,YU,YV,YW,YX,YY,YZ,B0,B1,B2,B3,B4,B5,B6,B7,B8,B9,Ba,Bb,Bc,Bd,Be,Bf,Bg,Bh,Bi,Bj,Bk,Bl,Bm]
  refine call_of (errno_ok c hc hE (addT_code L x) fun H2 k2 => ?_)
  simp -implicitDefEqProofs [J0,J1,J2,J3,J4,J5,J6,J7,J8,J9,Ja,Jb,Jc,Jd,Je,Jf,Jg,Jh,Ji,Jj,Jk,Jl,Jm,Jn,Jo,Jp,Jq,Jr,Js,Jt,Ju,Jv,Jw,Jx,Jy,Jz,JA,JB,JC,JD,JE,JF,JG,JH,JI,JJ,JK,JL,JM,JN,JO,JP,stillI,IOp.kind,JQ,JR,JS,JT,JU,JV,JW,JX,JY,JZ,Y0,Y1,Y2,Y3,Y4,Y5,Y6,Y7,Y8,Y9,Ya,Yb,Yc,Yd,Ye,Yf,Yg,Yh,Yi,Yj,Yk,Yl,Ym,Yn,ial,Yo,Yp,Yq,Yr,Ys,Yt,Yu,Yv,ires,iresL,ires1,Yw,Yx,Yy,Yz,YA,YB,bin2,YC,YD,YE,YF,YG,YH,YI,YJ,YK,YL,YM,YN,YO,YP,YQ,YR,un1,shOk,eqL,eq1,fillL,putAt,IHeap.load1,IHeap.loadL,IHeap.storeL,YS,YT,YU,YV,YW,YX,YY,YZ,B0,B1,B2,B3,B4,B5,B6,B7,B8,B9,Ba,Bb,Bc,Bd,Be,Bf,Bg,Bh,Bi,Bj,Bk,Bl,Bm]
  exact hK q' _ (u1.keepTrans (k2.keep (Nat.le_refl _)) u1.next) hq (i1.le k2)

include hc in
theorem Tdead_ok {p q : Nat} {L : List UseD} {s n : Int} (h : IsT H p q L) (hl : L.length ≤ 1000000) (ho : ∀ e ∈ L, okT e)
    (hK : ∀ H', IHeap.upd [p, q] H H' → IsT H' p q (deadT L s n).1 → K (errV c (deadT L s n).2) H') :
    c.C (c.F n_usage_Usage_dead) [.pointer (some ⟨p, 0, none⟩), .int .i64 s, .int .i64 n] H K := by
  refine c.enter hc.usage_Usage_dead rfl ?_
  have hso := (deadT_ok (s := s) (n := n) h.sorted ho).1
  unfold deadT at hK hso
  by_cases h1 : n < 0
  · rw [if_pos h1] at hK
    simp -implicitDefEqProofs [J0,J1,J2,J3,J4,J5,J6,J7,J8,J9,Ja,Jb,Jc,Jd,Je,Jf,Jg,Jh,Ji,Jj,Jk,Jl,Jm,Jn,Jo,Jp,Jq,Jr,Js,Jt,Ju,Jv,Jw,Jx,Jy,Jz,JA,JB,JC,JD,JE,JF,JG,JH,JI,JJ,JK,JL,JM,JN,JO,JP,stillI,IOp.kind,JQ,JR,JS,JT,JU,JV,JW,JX,JY,JZ,Y0,Y1,Y2,Y3,Y4,Y5,Y6,Y7,Y8,Y9,Ya,Yb,Yc,Yd,Ye,Yf,Yg,Yh,Yi,Yj,Yk,Yl,Ym,Yn,ial,Yo,Yp,Yq,Yr,Ys,Yt,Yu,Yv,ires,iresL,ires1,Yw,Yx,Yy,Yz,YA,YB,bin2,YC,YD,YE,YF,YG,YH,YI,YJ,YK,YL,YM,YN,YO,YP,YQ,YR,un1,shOk,eqL,eq1,fillL,putAt,IHeap.load1,IHeap.loadL,IHeap.storeL,YS,YT,YU,YV,YW,YX,YY,YZ,B0,B1,B2,B3,B4,B5,B6,B7,B8,B9,Ba,Bb,Bc,Bd,Be,Bf,Bg,Bh,Bi,Bj,Bk,Bl,Bm, c_usage_Usage_dead, nilOf, h1]
    exact hK _ (IHeap.upd_refl _ _) h
  · rw [if_neg h1] at hK hso
    simp -implicitDefEqProofs [J0,J1,J2,J3,J4,J5,J6,J7,J8,J9,Ja,Jb,Jc,Jd,Je,Jf,Jg,Jh,Ji,Jj,Jk,Jl,Jm,Jn,Jo,Jp,Jq,Jr,Js,Jt,Ju,Jv,Jw,Jx,Jy,Jz,JA,JB,JC,JD,JE,JF,JG,JH,JI,JJ,JK,JL,JM,JN,JO,JP,stillI,IOp.kind,JQ,JR,JS,JT,JU,JV,JW,JX,JY,JZ,Y0,Y1,Y2,Y3,Y4,Y5,Y6,Y7,Y8,Y9,Ya,Yb,Yc,Yd,Ye,Yf,Yg,Yh,Yi,Yj,Yk,Yl,Ym,Yn,ial,Yo,Yp,Yq,Yr,Ys,Yt,Yu,Yv,ires,iresL,ires1,Yw,Yx,Yy,Yz,YA,YB,bin2,YC,YD,YE,YF,YG,YH,YI,YJ,YK,YL,YM,YN,YO,YP,YQ,YR,un1,shOk,eqL,eq1,fillL,putAt,IHeap.load1,IHeap.loadL,IHeap.storeL,YS,YT,YU,YV,YW,YX,YY,YZ,B0,B1,B2,B3,B4,B5,B6,B7,B8,B9,Ba,Bb,Bc,Bd,Be,Bf,Bg,Bh,Bi,Bj,Bk,Bl,Bm, c_usage_Usage_dead, nilOf, h1]
    refine call_of (Tfind_ok c hc (s := s) h hl fun H1 k1 => ?_)
    have h1' := h.le k1
    cases ht : thereT L s with
    | false =>
      rw [if_pos ht] at hK
      simp -implicitDefEqProofs [J0,J1,J2,J3,J4,J5,J6,J7,J8,J9,Ja,Jb,Jc,Jd,Je,Jf,Jg,Jh,Ji,Jj,Jk,Jl,Jm,Jn,Jo,Jp,Jq,Jr,Js,Jt,Ju,Jv,Jw,Jx,Jy,Jz,JA,JB,JC,JD,JE,JF,JG,JH,JI,JJ,JK,JL,JM,JN,JO,JP,stillI,IOp.kind,JQ,JR,JS,JT,JU,JV,JW,JX,JY,JZ,Y0,Y1,Y2,Y3,Y4,Y5,Y6,Y7,Y8,Y9,Ya,Yb,Yc,Yd,Ye,Yf,Yg,Yh,Yi,Yj,Yk,Yl,Ym,Yn,ial,Yo,Yp,Yq,Yr,Ys,Yt,Yu,Yv,ires,iresL,ires1,Yw,Yx,Yy,Yz,YA,YB,bin2,YC,YD,YE,YF,YG,YH,YI,YJ,YK,YL,YM,YN,YO,YP,YQ,YR,un1,shOk,eqL,eq1,fillL,putAt,IHeap.load1,IHeap.loadL,IHeap.storeL,YS,YT,YU,YV,YW,YX,YY,YZ,B0,B1,B2,B3,B4,B5,B6,B7,B8,B9,Ba,Bb,Bc,Bd,Be,Bf,Bg,Bh,Bi,Bj,Bk,Bl,Bm]
      exact hK _ (k1.upd _) h1'
    | true =>
      rw [if_neg (by rw [ht]; simp)] at hK hso
      obtain ⟨x, hat, hxs⟩ := thereT_at ht
      have hlv : liveAt L s = x.live := by simp [liveAt, hat]
      rw [hlv] at hK hso
      obtain ⟨hlt, _⟩ := List.getElem?_eq_some_iff.1 hat
      obtain ⟨u, g1, g2⟩ := h1'.rep
      obtain ⟨i, hi⟩ : ∃ i, i = posT s L := ⟨_, rfl⟩
      rw [← hi] at hat hlt hK hso ⊢
      have hiI : (i : Int) < (L.length : Int) := by omega
      have hxo := okT_b (ho x (List.mem_of_getElem? hat)).1
      rcases g2 with ⟨hr0, rfl⟩ | ⟨cs, hq, rfl, gq, hcs, hcl⟩
      · exfalso
        have hL0 : L = [] := by simpa using hr0
        rw [hL0] at hlt; simp at hlt
      · rw [List.length_map] at hcs hcl g1
        have hrow : (cs.drop (i * 4)).take 4 = rowT x := by
          obtain ⟨f1, f2⟩ := flat_row (L.map rowT) 4 i (rowT x) (rowT_four _) (by simp [hat])
          rw [← f1, ← hcs, List.drop_take, List.take_take, Nat.min_eq_left (by omega)]
        have r2 := row_getT hrow 2 (by omega)
        simp only [rowT, List.getElem?_cons_succ, List.getElem?_cons_zero] at r2
        by_cases h2 : x.live < n
        · rw [if_pos h2] at hK
          simp -implicitDefEqProofs [J0,J1,J2,J3,J4,J5,J6,J7,J8,J9,Ja,Jb,Jc,Jd,Je,Jf,Jg,Jh,Ji,Jj,Jk,Jl,Jm,Jn,Jo,Jp,Jq,Jr,Js,Jt,Ju,Jv,Jw,Jx,Jy,Jz,JA,JB,JC,JD,JE,JF,JG,JH,JI,JJ,JK,JL,JM,JN,JO,JP,stillI,IOp.kind,JQ,JR,JS,JT,JU,JV,JW,JX,JY,JZ,Y0,Y1,Y2,Y3,Y4,Y5,Y6,Y7,Y8,Y9,Ya,Yb,Yc,Yd,Ye,Yf,Yg,Yh,Yi,Yj,Yk,Yl,Ym,Yn,ial,Yo,Yp,Yq,Yr,Ys,Yt,Yu,Yv,ires,iresL,ires1,Yw,Yx,Yy,Yz,YA,YB,bin2,YC,YD,YE,YF,YG,YH,YI,YJ,YK,YL,YM,YN,YO,YP,YQ,YR,un1,shOk,eqL,eq1,fillL,putAt,IHeap.load1,IHeap.loadL,IHeap.storeL,YS,YT,YU,YV,YW,YX,YY,YZ,B0,B1,B2,B3,B4,B5,B6,B7,B8,B9,Ba,Bb,Bc,Bd,Be,Bf,Bg,Bh,Bi,Bj,Bk,Bl,Bm, nilOf, g1, hlt, hiI, gq, r2, h2]
          exact hK _ (k1.upd _) h1'
        · rw [if_neg h2] at hK hso
          have hw : IntKind.i64.wrap (x.live - n) = x.live - n := wrap64 (by omega) (by omega)
          have k4 : i * 4 + 2 + 1 ≤ cs.length := by omega
          obtain ⟨cs2, hcs2⟩ : ∃ z, z = List.take (i * 4 + 2) cs ++ (Value.int .i64 (x.live - n) :: List.drop (i * 4 + 2 + 1) cs) := ⟨_, rfl⟩
          have l2 : cs2.length = cs.length := by rw [hcs2]; simp only [List.length_append, List.length_cons, List.length_take, List.length_drop]; omega
          have fo := hcs2.symm
          have hrows : cs2.take (L.length * 4) = ((L.modify i fun x => { x with live := x.live - n }).map rowT).flatten := by
            exact set_liveT hat hcs hcl hcs2
          simp -implicitDefEqProofs [J0,J1,J2,J3,J4,J5,J6,J7,J8,J9,Ja,Jb,Jc,Jd,Je,Jf,Jg,Jh,Ji,Jj,Jk,Jl,Jm,Jn,Jo,Jp,Jq,Jr,Js,Jt,Ju,Jv,Jw,Jx,Jy,Jz,JA,JB,JC,JD,JE,JF,JG,JH,JI,JJ,JK,JL,JM,JN,JO,JP,stillI,IOp.kind,JQ,JR,JS,JT,JU,JV,JW,JX,JY,JZ,Y0,Y1,Y2,Y3,Y4,Y5,Y6,Y7,Y8,Y9,Ya,Yb,Yc,Yd,Ye,Yf,Yg,Yh,Yi,Yj,Yk,Yl,Ym,Yn,ial,Yo,Yp,Yq,Yr,Ys,Yt,Yu,Yv,ires,iresL,ires1,Yw,Yx,Yy,Yz,YA,YB,bin2,YC,YD,YE,YF,YG,YH,YI,YJ,YK,YL,YM,YN,YO,YP,YQ,YR,un1,shOk,eqL,eq1,fillL,putAt,IHeap.load1,IHeap.loadL,IHeap.storeL,YS,YT,YU,YV,YW,YX,YY,YZ,B0,B1,B2,B3,B4,B5,B6,B7,B8,B9,Ba,Bb,Bc,Bd,Be,Bf,Bg,Bh,Bi,Bj,Bk,Bl,Bm, nilOf, g1, hlt, hiI, gq, r2, h2, hw, k4, fo]
          refine hK _ ((k1.upd _).set (.inr (by simp)) _) ⟨by simp only [YV]; exact h1'.lt, h.ne, ⟨_, by rw [YT, if_neg h.ne]; exact g1, .inr ⟨cs2, by simp only [YV]; exact hq, ?_, by rw [YT, if_pos rfl], ?_, ?_⟩⟩, hso⟩
          · simp
          · rw [List.length_map, List.length_modify, hrows]
          · rw [List.length_map, List.length_modify]; omega

end
end Go.Proofs.YtdfjicnjcibdaaaI
