/- Who accepts: a vote is accepted. -/
import Derived.Test.YtkgfnelapcpibaaAccB
namespace Go.Proofs.YtkgfnelapcpibaaI
set_option linter.unusedSimpArgs false
set_option linter.unusedVariables false
open Go

/-- What slices.Insert does. -/
def InsOk (c : Ctx) : Prop := ∀ (H : IHeap) (K : Value → IHeap → Prop) (q vb i : Nat) (u : Value) (rows : List (List Value)) (new : List Value), VS H q u rows → (∀ r ∈ rows, r.length = 4) → rows.flatten.all one1 = true →
  H.get vb = some (.cells new false) → vb < H.next → vb ≠ q → new.length = 4 → new.all one1 = true → i ≤ rows.length → rows.length ≤ 1000000 →
  (∀ q' H', IHeap.upd [q] H H' → H.next ≤ q' → VS H' q' (.slice (some ⟨q', 0, none⟩) (rows.length + 1) (UNK + 4)) (rows.take i ++ new :: rows.drop i) → K (.slice (some ⟨q', 0, none⟩) (rows.length + 1) (UNK + 4)) H') →
  c.C (c.F n_slices_Insert_api_Vote_api_Vote) [u, .int .i64 i, .slice (some ⟨vb, 0, none⟩) 1 1] H K

theorem cells_take {cs : List Value} {rows : List (List Value)} (h4 : ∀ r ∈ rows, r.length = 4) (h : cs.take (rows.length * 4) = rows.flatten) {i : Nat} (hi : i ≤ rows.length) : cs.take (i * 4) = (rows.take i).flatten := by
  have := congrArg (List.take (i * 4)) h
  have hsp := flat_split rows i
  have hpre : ((rows.take i).flatten).length = i * 4 := by rw [flat_len _ 4 fun r hr => h4 r (List.mem_of_mem_take hr), List.length_take]; omega
  rw [List.take_take, Nat.min_eq_left (by omega), hsp, ← hpre, List.take_left, hpre] at this
  exact this
theorem cells_drop {cs : List Value} {rows : List (List Value)} (h4 : ∀ r ∈ rows, r.length = 4) (h : cs.take (rows.length * 4) = rows.flatten) {i : Nat} (hi : i ≤ rows.length) : (cs.drop (i * 4)).take ((rows.length - i) * 4) = (rows.drop i).flatten := by
  have := congrArg (List.drop (i * 4)) h
  have hsp := flat_split rows i
  have hpre : ((rows.take i).flatten).length = i * 4 := by rw [flat_len _ 4 fun r hr => h4 r (List.mem_of_mem_take hr), List.length_take]; omega
  rw [List.drop_take, hsp, ← hpre, List.drop_left, hpre] at this
  rw [← this]
  congr 1; omega
theorem cells_set {cs r : List Value} {rows : List (List Value)} (h4 : ∀ r ∈ rows, r.length = 4) (h : cs.take (rows.length * 4) = rows.flatten) (hl : rows.length * 4 ≤ cs.length) {i : Nat} (hi : i < rows.length) (hr : r.length = 4) :
    (putAt cs (i * 4) r).take (rows.length * 4) = (rows.set i r).flatten := by
  rw [List.set_eq_take_append_cons_drop, if_pos hi, List.flatten_append, List.flatten_cons]
  have e1 := cells_take h4 h (i := i) (by omega)
  have e2 := cells_drop h4 h (i := i + 1) (by omega)
  unfold putAt
  have l1 : (cs.take (i * 4)).length = i * 4 := by rw [List.length_take]; omega
  rw [← e1, ← e2, List.append_assoc, List.take_append, l1, List.take_take, Nat.min_eq_right (by omega), List.take_append, hr]
  congr 1
  rw [List.take_of_length_le (by omega)]
  congr 1
  rw [show i * 4 + 4 = (i + 1) * 4 by omega]
  congr 1
  omega

section
variable (c : Ctx) (hc : HasAcc c) (hB : HasBalA c) (hI : InsOk c) {H : IHeap} {K : Value → IHeap → Prop}

include hc hB hI in
theorem AAccept_ok {p q : Nat} {A : Acc} {v : VoteD} (h : IsA H p q A) (hl : A.L.length ≤ 1000000)
    (hK : ∀ q' H', IHeap.upd [p, q] H H' → (q' = q ∨ H.next ≤ q') → IsA H' p q' (A.accept v).1 → K (.bool (A.accept v).2) H') :
    c.C (c.F n_acceptor_Acceptor_Accept) [.pointer (some ⟨p, 0, none⟩), vV v] H K := by
  refine c.enter hc.acceptor_Acceptor_Accept rfl ?_
  have hpl := h.lt
  have kA := H.le_alloc (.cells [.int .i64 v.slot, .int .i64 v.a, .int .i64 v.n, .string v.val] false)
  unfold Acc.accept at hK
  simp -implicitDefEqProofs [J0,J1,J2,J3,J4,J5,J6,J7,J8,J9,Ja,Jb,Jc,Jd,Je,Jf,Jg,Jh,Ji,Jj,Jk,Jl,Jm,Jn,Jo,Jp,Jq,Jr,Js,Jt,Ju,Jv,Jw,Jx,Jy,Jz,JA,JB,JC,JD,JE,JF,JG,JH,JI,JJ,JK,JL,JM,JN,JO,JP,stillI,IOp.kind,JQ,JR,JS,JT,JU,JV,JW,JX,JY,JZ,Y0,Y1,Y2,Y3,Y4,Y5,Y6,Y7,Y8,Y9,Ya,Yb,Yc,Yd,Ye,Yf,Yg,Yh,Yi,Yj,Yk,Yl,Ym,Yn,ial,Yo,Yp,Yq,Yr,Ys,Yt,Yu,Yv,ires,iresL,ires1,Yw,Yx,Yy,Yz,YA,YB,bin2,YC,YD,YE,YF,YG,YH,YI,YJ,YK,YL,YM,YN,YO,YP,YQ,YR,un1,shOk,eqL,eq1,fillL,putAt,IHeap.load1,IHeap.loadL,IHeap.storeL,YS,YT,YU,YV,YW,YX,YY,YZ,B0,B1,B2,B3,B4,B5,B6,B7,B8,B9,Ba,Bb,Bc,Bd,Be,Bf,Bg,Bh,Bi,Bj,Bk,Bl,Bm, c_acceptor_Acceptor_Accept, vV]
  refine dcall_of c.mono (Amay_ok c hc hB (a := v.a) (n := v.n) (h.le kA) fun H1 k1 => ?_)
  have k01 := kA.trans k1
  have h1 := h.le k01
  have n1 := k1.next
  simp only [YU] at n1
  have gx := (k1.get H.next (by simp [YU])).trans (by rw [YS, if_pos rfl])
  obtain ⟨u, g1, g2⟩ := h1.rep
  cases hm : A.may v.a v.n with
  | false =>
    rw [if_pos (.inl hm)] at hK
    simp -implicitDefEqProofs [J0,J1,J2,J3,J4,J5,J6,J7,J8,J9,Ja,Jb,Jc,Jd,Je,Jf,Jg,Jh,Ji,Jj,Jk,Jl,Jm,Jn,Jo,Jp,Jq,Jr,Js,Jt,Ju,Jv,Jw,Jx,Jy,Jz,JA,JB,JC,JD,JE,JF,JG,JH,JI,JJ,JK,JL,JM,JN,JO,JP,stillI,IOp.kind,JQ,JR,JS,JT,JU,JV,JW,JX,JY,JZ,Y0,Y1,Y2,Y3,Y4,Y5,Y6,Y7,Y8,Y9,Ya,Yb,Yc,Yd,Ye,Yf,Yg,Yh,Yi,Yj,Yk,Yl,Ym,Yn,ial,Yo,Yp,Yq,Yr,Ys,Yt,Yu,Yv,ires,iresL,ires1,Yw,Yx,Yy,Yz,YA,YB,bin2,YC,YD,YE,YF,YG,YH,YI,YJ,YK,YL,YM,YN,YO,YP,YQ,YR,un1,shOk,eqL,eq1,fillL,putAt,IHeap.load1,IHeap.loadL,IHeap.storeL,YS,YT,YU,YV,YW,YX,YY,YZ,B0,B1,B2,B3,B4,B5,B6,B7,B8,B9,Ba,Bb,Bc,Bd,Be,Bf,Bg,Bh,Bi,Bj,Bk,Bl,Bm, gx]
    exact hK q _ (k01.upd _) (.inl rfl) h1
  | true =>
    by_cases c1 : v.slot < A.base
    · rw [if_pos (.inr (.inl c1))] at hK
      simp -implicitDefEqProofs [J0,J1,J2,J3,J4,J5,J6,J7,J8,J9,Ja,Jb,Jc,Jd,Je,Jf,Jg,Jh,Ji,Jj,Jk,Jl,Jm,Jn,Jo,Jp,Jq,Jr,Js,Jt,Ju,Jv,Jw,Jx,Jy,Jz,JA,JB,JC,JD,JE,JF,JG,JH,JI,JJ,JK,JL,JM,JN,JO,JP,stillI,IOp.kind,JQ,JR,JS,JT,JU,JV,JW,JX,JY,JZ,Y0,Y1,Y2,Y3,Y4,Y5,Y6,Y7,Y8,Y9,Ya,Yb,Yc,Yd,Ye,Yf,Yg,Yh,Yi,Yj,Yk,Yl,Ym,Yn,ial,Yo,Yp,Yq,Yr,Ys,Yt,Yu,Yv,ires,iresL,ires1,Yw,Yx,Yy,Yz,YA,YB,bin2,YC,YD,YE,YF,YG,YH,YI,YJ,YK,YL,YM,YN,YO,YP,YQ,YR,un1,shOk,eqL,eq1,fillL,putAt,IHeap.load1,IHeap.loadL,IHeap.storeL,YS,YT,YU,YV,YW,YX,YY,YZ,B0,B1,B2,B3,B4,B5,B6,B7,B8,B9,Ba,Bb,Bc,Bd,Be,Bf,Bg,Bh,Bi,Bj,Bk,Bl,Bm, nilOf, gx, g1, c1]
      exact hK q _ (k01.upd _) (.inl rfl) h1
    · by_cases c2 : 1024 ≤ v.slot
      · rw [if_pos (.inr (.inr (.inl c2)))] at hK
        simp -implicitDefEqProofs [J0,J1,J2,J3,J4,J5,J6,J7,J8,J9,Ja,Jb,Jc,Jd,Je,Jf,Jg,Jh,Ji,Jj,Jk,Jl,Jm,Jn,Jo,Jp,Jq,Jr,Js,Jt,Ju,Jv,Jw,Jx,Jy,Jz,JA,JB,JC,JD,JE,JF,JG,JH,JI,JJ,JK,JL,JM,JN,JO,JP,stillI,IOp.kind,JQ,JR,JS,JT,JU,JV,JW,JX,JY,JZ,Y0,Y1,Y2,Y3,Y4,Y5,Y6,Y7,Y8,Y9,Ya,Yb,Yc,Yd,Ye,Yf,Yg,Yh,Yi,Yj,Yk,Yl,Ym,Yn,ial,Yo,Yp,Yq,Yr,Ys,Yt,Yu,Yv,ires,iresL,ires1,Yw,Yx,Yy,Yz,YA,YB,bin2,YC,YD,YE,YF,YG,YH,YI,YJ,YK,YL,YM,YN,YO,YP,YQ,YR,un1,shOk,eqL,eq1,fillL,putAt,IHeap.load1,IHeap.loadL,IHeap.storeL,YS,YT,YU,YV,YW,YX,YY,YZ,B0,B1,B2,B3,B4,B5,B6,B7,B8,B9,Ba,Bb,Bc,Bd,Be,Bf,Bg,Bh,Bi,Bj,Bk,Bl,Bm, nilOf, gx, g1, c1, c2]
        exact hK q _ (k01.upd _) (.inl rfl) h1
      · by_cases c3 : (4096 : Int) < v.val.data.toList.length
        · rw [if_pos (.inr (.inr (.inr c3)))] at hK
          obtain ⟨ln, hln⟩ : ∃ ln : Int, ln = v.val.data.toList.length := ⟨_, rfl⟩
          have c3' : (4096 : Int) < (v.val.size : Int) := c3
          simp -implicitDefEqProofs [J0,J1,J2,J3,J4,J5,J6,J7,J8,J9,Ja,Jb,Jc,Jd,Je,Jf,Jg,Jh,Ji,Jj,Jk,Jl,Jm,Jn,Jo,Jp,Jq,Jr,Js,Jt,Ju,Jv,Jw,Jx,Jy,Jz,JA,JB,JC,JD,JE,JF,JG,JH,JI,JJ,JK,JL,JM,JN,JO,JP,stillI,IOp.kind,JQ,JR,JS,JT,JU,JV,JW,JX,JY,JZ,Y0,Y1,Y2,Y3,Y4,Y5,Y6,Y7,Y8,Y9,Ya,Yb,Yc,Yd,Ye,Yf,Yg,Yh,Yi,Yj,Yk,Yl,Ym,Yn,ial,Yo,Yp,Yq,Yr,Ys,Yt,Yu,Yv,ires,iresL,ires1,Yw,Yx,Yy,Yz,YA,YB,bin2,YC,YD,YE,YF,YG,YH,YI,YJ,YK,YL,YM,YN,YO,YP,YQ,YR,un1,shOk,eqL,eq1,fillL,putAt,IHeap.load1,IHeap.loadL,IHeap.storeL,YS,YT,YU,YV,YW,YX,YY,YZ,B0,B1,B2,B3,B4,B5,B6,B7,B8,B9,Ba,Bb,Bc,Bd,Be,Bf,Bg,Bh,Bi,Bj,Bk,Bl,Bm, nilOf, gx, g1, c1, c2, c3']
          exact hK q _ (k01.upd _) (.inl rfl) h1
        · rw [if_neg (by rw [hm]; simp only [Bool.true_eq_false, false_or, not_or]; exact ⟨c1, c2, c3⟩)] at hK
          have c3' : ¬ (4096 : Int) < (v.val.size : Int) := c3
          simp -implicitDefEqProofs [J0,J1,J2,J3,J4,J5,J6,J7,J8,J9,Ja,Jb,Jc,Jd,Je,Jf,Jg,Jh,Ji,Jj,Jk,Jl,Jm,Jn,Jo,Jp,Jq,Jr,Js,Jt,Ju,Jv,Jw,Jx,Jy,Jz,JA,JB,JC,JD,JE,JF,JG,JH,JI,JJ,JK,JL,JM,JN,JO,JP,stillI,IOp.kind,JQ,JR,JS,JT,JU,JV,JW,JX,JY,JZ,Y0,Y1,Y2,Y3,Y4,Y5,Y6,Y7,Y8,Y9,Ya,Yb,Yc,Yd,Ye,Yf,Yg,Yh,Yi,Yj,Yk,Yl,Ym,Yn,ial,Yo,Yp,Yq,Yr,Ys,Yt,Yu,Yv,ires,iresL,ires1,Yw,Yx,Yy,Yz,YA,YB,bin2,YC,YD,YE,YF,YG,YH,YI,YJ,YK,YL,YM,YN,YO,YP,YQ,YR,un1,shOk,eqL,eq1,fillL,putAt,IHeap.load1,IHeap.loadL,IHeap.storeL,YS,YT,YU,YV,YW,YX,YY,YZ,B0,B1,B2,B3,B4,B5,B6,B7,B8,B9,Ba,Bb,Bc,Bd,Be,Bf,Bg,Bh,Bi,Bj,Bk,Bl,Bm, nilOf, gx, g1, c1, c2, c3']
          obtain ⟨H2, hH2⟩ : ∃ X : IHeap, X = H1.set p (.cells [.int .i64 v.a, .int .i64 v.n, .int .i64 A.base, u] false) := ⟨_, rfl⟩
          have hpx : ¬ H.next = p := by omega
          have gx2 : H2.get H.next = some (.cells [.int .i64 v.slot, .int .i64 v.a, .int .i64 v.n, .string v.val] false) := by rw [hH2, YT, if_neg hpx]; exact gx
          have gp2 : H2.get p = some (.cells [.int .i64 v.a, .int .i64 v.n, .int .i64 A.base, u] false) := by rw [hH2, YT, if_pos rfl]
          have u2 : IHeap.upd [p] H1 H2 := by rw [hH2]; exact (IHeap.upd_refl _ _).set (.inr (by simp)) _
          have n2 : H2.next = H1.next := by rw [hH2]; rfl
          have g22 := g2.upd u2 (by simpa using Ne.symm h.ne)
          have h2 : IsA H2 p q { A with pa := v.a, pn := v.n } := ⟨by rw [n2]; exact h1.lt, h.ne, ⟨u, gp2, g22⟩, h.sorted⟩
          have up2 : IHeap.upd [p, q] H H2 := k01.updTrans ⟨u2.next, fun b hb hn => u2.get b hb fun hh => hn (by simp at hh; simp [hh])⟩
          simp -implicitDefEqProofs [J0,J1,J2,J3,J4,J5,J6,J7,J8,J9,Ja,Jb,Jc,Jd,Je,Jf,Jg,Jh,Ji,Jj,Jk,Jl,Jm,Jn,Jo,Jp,Jq,Jr,Js,Jt,Ju,Jv,Jw,Jx,Jy,Jz,JA,JB,JC,JD,JE,JF,JG,JH,JI,JJ,JK,JL,JM,JN,JO,JP,stillI,IOp.kind,JQ,JR,JS,JT,JU,JV,JW,JX,JY,JZ,Y0,Y1,Y2,Y3,Y4,Y5,Y6,Y7,Y8,Y9,Ya,Yb,Yc,Yd,Ye,Yf,Yg,Yh,Yi,Yj,Yk,Yl,Ym,Yn,ial,Yo,Yp,Yq,Yr,Ys,Yt,Yu,Yv,ires,iresL,ires1,Yw,Yx,Yy,Yz,YA,YB,bin2,YC,YD,YE,YF,YG,YH,YI,YJ,YK,YL,YM,YN,YO,YP,YQ,YR,un1,shOk,eqL,eq1,fillL,putAt,IHeap.load1,IHeap.loadL,IHeap.storeL,YS,YT,YU,YV,YW,YX,YY,YZ,B0,B1,B2,B3,B4,B5,B6,B7,B8,B9,Ba,Bb,Bc,Bd,Be,Bf,Bg,Bh,Bi,Bj,Bk,Bl,Bm, ← hH2, gx2, hpx]
          refine call_of (find_ok c hc (s := v.slot) h2 hl fun H3 k3 => ?_)
          have gx3 := (k3.get H.next (by omega)).trans gx2
          have gp3 := (k3.get p (by omega)).trans gp2
          have g23 := g22.le k3
          have n3 := k3.next
          have hple := posV_le v.slot A.L
          have up3 : IHeap.upd [p, q] H H3 := up2.trans (k3.upd _)
          simp only
          cases ht : thereV A.L v.slot with
          | true =>
            have hput := putV_in h.sorted ht
            have hpos : posV v.slot A.L < A.L.length := by
              unfold thereV at ht
              cases hq : A.L[posV v.slot A.L]? with
              | none => rw [hq] at ht; cases ht
              | some w => exact (List.getElem?_eq_some_iff.1 hq).1
            rcases g23 with ⟨hr0, rfl⟩ | ⟨cs, hq, rfl, gq, hcs, hcl⟩
            · exfalso
              have hL0 : A.L = [] := by simpa using hr0
              rw [hL0] at hpos; simp at hpos
            · rw [List.length_map] at hcs hcl gp3
              have hpI : (posV v.slot A.L : Int) < (A.L.length : Int) := by omega
              have k4 : posV v.slot A.L * 4 + 4 ≤ cs.length := by omega
              obtain ⟨cs2, hcs2⟩ : ∃ x, x = putAt cs (posV v.slot A.L * 4) (rowV v) := ⟨_, rfl⟩
              have fo : List.take (posV v.slot A.L * 4) cs ++ (Value.int .i64 v.slot :: Value.int .i64 v.a :: Value.int .i64 v.n :: Value.string v.val :: List.drop (posV v.slot A.L * 4 + 4) cs) = cs2 := by rw [hcs2]; simp [putAt, rowV]
              have hset := cells_set (rowV_four A.L) (by rw [List.length_map]; exact hcs) (by rw [List.length_map]; exact hcl) (i := posV v.slot A.L) (r := rowV v) (by rw [List.length_map]; exact hpos) rfl
              rw [← hcs2, List.length_map] at hset
              have l2 : cs2.length = cs.length := by rw [hcs2]; exact put_len (by simp [rowV]; omega)
              simp -implicitDefEqProofs [J0,J1,J2,J3,J4,J5,J6,J7,J8,J9,Ja,Jb,Jc,Jd,Je,Jf,Jg,Jh,Ji,Jj,Jk,Jl,Jm,Jn,Jo,Jp,Jq,Jr,Js,Jt,Ju,Jv,Jw,Jx,Jy,Jz,JA,JB,JC,JD,JE,JF,JG,JH,JI,JJ,JK,JL,JM,JN,JO,JP,stillI,IOp.kind,JQ,JR,JS,JT,JU,JV,JW,JX,JY,JZ,Y0,Y1,Y2,Y3,Y4,Y5,Y6,Y7,Y8,Y9,Ya,Yb,Yc,Yd,Ye,Yf,Yg,Yh,Yi,Yj,Yk,Yl,Ym,Yn,ial,Yo,Yp,Yq,Yr,Ys,Yt,Yu,Yv,ires,iresL,ires1,Yw,Yx,Yy,Yz,YA,YB,bin2,YC,YD,YE,YF,YG,YH,YI,YJ,YK,YL,YM,YN,YO,YP,YQ,YR,un1,shOk,eqL,eq1,fillL,putAt,IHeap.load1,IHeap.loadL,IHeap.storeL,YS,YT,YU,YV,YW,YX,YY,YZ,B0,B1,B2,B3,B4,B5,B6,B7,B8,B9,Ba,Bb,Bc,Bd,Be,Bf,Bg,Bh,Bi,Bj,Bk,Bl,Bm, gp3, gx3, hpos, hpI, gq, k4, fo]
              refine hK q _ (up3.set (.inr (by simp)) _) (.inl rfl) ⟨by simp only [YV]; omega, h.ne, ⟨_, by rw [YT, if_neg h.ne]; exact gp3, .inr ⟨cs2, by simp only [YV]; exact hq, ?_, by rw [YT, if_pos rfl], ?_, ?_⟩⟩, putV_sorted h.sorted v⟩
              · simp [hput]
              · rw [List.length_map, hput, List.length_set, hset, List.map_set]
              · rw [List.length_map, hput, List.length_set]; omega
          | false =>
            have hput := putV_new h.sorted ht
            obtain ⟨H4, hH4⟩ : ∃ X : IHeap, X = H3.alloc (.cells [.int .i64 v.slot, .int .i64 v.a, .int .i64 v.n, .string v.val] false) := ⟨_, rfl⟩
            have k4 : H3.le H4 := by rw [hH4]; exact H3.le_alloc _
            have n4 : H4.next = H3.next + 1 := by rw [hH4]; rfl
            have g4 : H4.get H3.next = some (.cells [.int .i64 v.slot, .int .i64 v.a, .int .i64 v.n, .string v.val] false) := by rw [hH4, YS, if_pos rfl]
            have gp4 := (k4.get p (by omega)).trans gp3
            obtain ⟨q0, hq0, hq1, hq2, hv4⟩ : ∃ q0, q0 ≠ H3.next ∧ q0 ≠ p ∧ (q0 = q ∨ H4.next ≤ q0) ∧ VS H4 q0 u (A.L.map rowV) := by
              rcases g23 with ⟨hr0, rfl⟩ | ⟨cs, hq, rfl, gq, hcs, hcl⟩
              · exact ⟨H4.next, by omega, by omega, .inr (Nat.le_refl _), .inl ⟨hr0, rfl⟩⟩
              · exact ⟨q, by omega, Ne.symm h.ne, .inl rfl, (VS.le (.inr ⟨cs, hq, rfl, gq, hcs, hcl⟩) k4)⟩
            obtain ⟨au, cu, eu⟩ := hv4.lenv
            have hins := fun K2 hk => hI H4 K2 q0 H3.next (posV v.slot A.L) u _ (rowV v) hv4 (rowV_four _) (rowV_one _) g4 (by omega) (Ne.symm hq0) rfl rfl (by rw [List.length_map]; exact hple) (by rw [List.length_map]; exact hl) hk
            rw [List.length_map] at eu
            rw [eu] at hins gp3
            simp -implicitDefEqProofs [J0,J1,J2,J3,J4,J5,J6,J7,J8,J9,Ja,Jb,Jc,Jd,Je,Jf,Jg,Jh,Ji,Jj,Jk,Jl,Jm,Jn,Jo,Jp,Jq,Jr,Js,Jt,Ju,Jv,Jw,Jx,Jy,Jz,JA,JB,JC,JD,JE,JF,JG,JH,JI,JJ,JK,JL,JM,JN,JO,JP,stillI,IOp.kind,JQ,JR,JS,JT,JU,JV,JW,JX,JY,JZ,Y0,Y1,Y2,Y3,Y4,Y5,Y6,Y7,Y8,Y9,Ya,Yb,Yc,Yd,Ye,Yf,Yg,Yh,Yi,Yj,Yk,Yl,Ym,Yn,ial,Yo,Yp,Yq,Yr,Ys,Yt,Yu,Yv,ires,iresL,ires1,Yw,Yx,Yy,Yz,YA,YB,bin2,YC,YD,YE,YF,YG,YH,YI,YJ,YK,YL,YM,YN,YO,YP,YQ,YR,un1,shOk,eqL,eq1,fillL,putAt,IHeap.load1,IHeap.loadL,IHeap.storeL,YS,YT,YU,YV,YW,YX,YY,YZ,B0,B1,B2,B3,B4,B5,B6,B7,B8,B9,Ba,Bb,Bc,Bd,Be,Bf,Bg,Bh,Bi,Bj,Bk,Bl,Bm, gp3, gx3, ← hH4]
            refine dcall_of c.mono (hins _ fun q' H5 u5 hq' vs5 => ?_)
            have gp5 := (u5.get p (by omega) (by simpa using Ne.symm hq1)).trans gp4
            rw [eu] at gp5
            rw [List.length_map] at vs5 ⊢
            have n5 := u5.next
            have hpq' : p ≠ q' := by omega
            have e1 : (A.L.map rowV).take (posV v.slot A.L) ++ rowV v :: (A.L.map rowV).drop (posV v.slot A.L) = (putV A.L v).map rowV := by rw [hput]; simp [List.map_take, List.map_drop]
            rw [e1] at vs5
            simp -implicitDefEqProofs [J0,J1,J2,J3,J4,J5,J6,J7,J8,J9,Ja,Jb,Jc,Jd,Je,Jf,Jg,Jh,Ji,Jj,Jk,Jl,Jm,Jn,Jo,Jp,Jq,Jr,Js,Jt,Ju,Jv,Jw,Jx,Jy,Jz,JA,JB,JC,JD,JE,JF,JG,JH,JI,JJ,JK,JL,JM,JN,JO,JP,stillI,IOp.kind,JQ,JR,JS,JT,JU,JV,JW,JX,JY,JZ,Y0,Y1,Y2,Y3,Y4,Y5,Y6,Y7,Y8,Y9,Ya,Yb,Yc,Yd,Ye,Yf,Yg,Yh,Yi,Yj,Yk,Yl,Ym,Yn,ial,Yo,Yp,Yq,Yr,Ys,Yt,Yu,Yv,ires,iresL,ires1,Yw,Yx,Yy,Yz,YA,YB,bin2,YC,YD,YE,YF,YG,YH,YI,YJ,YK,YL,YM,YN,YO,YP,YQ,YR,un1,shOk,eqL,eq1,fillL,putAt,IHeap.load1,IHeap.loadL,IHeap.storeL,YS,YT,YU,YV,YW,YX,YY,YZ,B0,B1,B2,B3,B4,B5,B6,B7,B8,B9,Ba,Bb,Bc,Bd,Be,Bf,Bg,Bh,Bi,Bj,Bk,Bl,Bm, gp5, stillI]
            have up5 : IHeap.upd [p, q] H H5 := ⟨Nat.le_trans up3.next (Nat.le_trans k4.next n5), fun b hb hn => by
              have hb3 : b < H3.next := Nat.lt_of_lt_of_le hb up3.next
              rw [u5.get b (by omega) (fun hm => by
                simp only [List.mem_singleton] at hm
                rcases hq2 with e | e
                · exact hn (by simp [hm, e])
                · omega), k4.get b hb3]
              exact up3.get b hb hn⟩
            have up3n := up3.next
            refine hK q' _ (up5.set (.inr (by simp)) _) (.inr (by omega)) ⟨by simp only [YV]; omega, hpq', ⟨_, by rw [YT, if_pos rfl], vs5.upd ((IHeap.upd_refl [p] _).set (.inr (by simp)) _) (by simpa using Ne.symm hpq')⟩, putV_sorted h.sorted v⟩

end
end Go.Proofs.YtkgfnelapcpibaaI
