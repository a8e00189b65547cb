/- Stripes that are known: a stripe begins. -/
import Derived.Test.YtmdkkhnenciknaaSmF
namespace Go.Proofs.YtmdkkhnenciknaaI
set_option linter.unusedSimpArgs false
set_option linter.unusedVariables false
open Go

section
variable (c : Ctx) (hc : HasSmap c) {H : IHeap} {K : Value → IHeap → Prop}
include hc

theorem SBegin_ok {p q : Nat} {bs : Nat → Nat} {L : List St} {ow ep le : Int} {sv : List Int} {u : Value} (h : IsS H p q bs L) (hu : SlW H 1 u (sv.map rowI)) (hsv : sv.length ≤ 1000000) (hep : ep < 9223372036854775808)
    (hK : ∀ q' bs' H', IHeap.upd (foot p q bs L) H H' → IsS H' p q' bs' (SBegin L ow ep le sv).1 → (∀ b ∈ foot p q' bs' (SBegin L ow ep le sv).1, b ∈ foot p q bs L ∨ H.next ≤ b) → K (.tuple #[.int .i64 (SBegin L ow ep le sv).2.1, .int .i64 (SBegin L ow ep le sv).2.2]) H') :
    c.C (c.F n_smap_Map_Begin) [.pointer (some ⟨p, 0, none⟩), .int .i64 ow, .int .i64 ep, .int .i64 le, u] H K := by
  refine c.enter hc.smap_Map_Begin rfl ?_
  have hlen := h.len
  have hop : opn L ≤ 4096 := Nat.le_trans (opn_le L) h.len
  simp -implicitDefEqProofs [J0,J1,J2,J3,J4,J5,J6,J7,J8,J9,Ja,Jb,Jc,Jd,Je,Jf,Jg,Jh,Ji,Jj,Jk,Jl,Jm,Jn,Jo,Jp,Jq,Jr,Js,Jt,Ju,Jv,Jw,Jx,Jy,Jz,JA,JB,JC,JD,JE,JF,JG,JH,JI,JJ,JK,JL,JM,JN,JO,JP,stillI,IOp.kind,JQ,JR,JS,JT,JU,JV,JW,JX,JY,JZ,Y0,Y1,Y2,Y3,Y4,Y5,Y6,Y7,Y8,Y9,Ya,Yb,Yc,Yd,Ye,Yf,Yg,Yh,Yi,Yj,Yk,Yl,Ym,Yn,ial,Yo,Yp,Yq,Yr,Ys,Yt,Yu,Yv,ires,iresL,ires1,Yw,Yx,Yy,Yz,YA,YB,bin2,YC,YD,YE,YF,YG,YH,YI,YJ,YK,YL,YM,YN,YO,YP,YQ,YR,un1,shOk,eqL,eq1,fillL,putAt,IHeap.load1,IHeap.loadL,IHeap.storeL,YS,YT,YU,YV,YW,YX,YY,YZ,B0,B1,B2,B3,B4,B5,B6,B7,B8,B9,Ba,Bb,Bc,Bd,Be,Bf,Bg,Bh,Bi,Bj,Bk,Bl,Bm, c_smap_Map_Begin]
  refine call_of (Clone_ok c hc hu hsv fun v1 H1 k1 w1 _ own => ?_)
  have w1' := w1
  obtain ⟨a1, c1, rfl⟩ := w1.len
  simp only [List.length_map] at w1' own
  simp -implicitDefEqProofs [J0,J1,J2,J3,J4,J5,J6,J7,J8,J9,Ja,Jb,Jc,Jd,Je,Jf,Jg,Jh,Ji,Jj,Jk,Jl,Jm,Jn,Jo,Jp,Jq,Jr,Js,Jt,Ju,Jv,Jw,Jx,Jy,Jz,JA,JB,JC,JD,JE,JF,JG,JH,JI,JJ,JK,JL,JM,JN,JO,JP,stillI,IOp.kind,JQ,JR,JS,JT,JU,JV,JW,JX,JY,JZ,Y0,Y1,Y2,Y3,Y4,Y5,Y6,Y7,Y8,Y9,Ya,Yb,Yc,Yd,Ye,Yf,Yg,Yh,Yi,Yj,Yk,Yl,Ym,Yn,ial,Yo,Yp,Yq,Yr,Ys,Yt,Yu,Yv,ires,iresL,ires1,Yw,Yx,Yy,Yz,YA,YB,bin2,YC,YD,YE,YF,YG,YH,YI,YJ,YK,YL,YM,YN,YO,YP,YQ,YR,un1,shOk,eqL,eq1,fillL,putAt,IHeap.load1,IHeap.loadL,IHeap.storeL,YS,YT,YU,YV,YW,YX,YY,YZ,B0,B1,B2,B3,B4,B5,B6,B7,B8,B9,Ba,Bb,Bc,Bd,Be,Bf,Bg,Bh,Bi,Bj,Bk,Bl,Bm, nilOf, List.length_map]
  obtain ⟨HA, hHA⟩ : ∃ X : IHeap, X = (H1.alloc (.cells [.int .i64 0, .int .i64 0, .int .i64 0, .int .i64 0, .int .i64 0, .slice none 0 0] false)).set H1.next (.cells [.int .i64 0, .int .i64 1, .int .i64 ow, .int .i64 ep, .int .i64 le, .slice a1 sv.length c1] false) := ⟨_, rfl⟩
  rw [← hHA]
  have kA : H1.le HA := by rw [hHA]; exact (H1.le_alloc _).set (Nat.le_refl _) _
  have nA : HA.next = H1.next + 1 := by rw [hHA]; rfl
  have gA : HA.get H1.next = some (.cells [.int .i64 0, .int .i64 1, .int .i64 ow, .int .i64 ep, .int .i64 le, .slice a1 sv.length c1] false) := by rw [hHA, YT, if_pos rfl]
  refine call_of (may_okS c hc (x := ⟨1, ow, ep, le, sv⟩) (w1'.le kA) (by simp only; omega) fun HB kB => ?_)
  have nB := kB.next
  have n1 := k1.next
  have k13 := (k1.trans kA).trans kB
  have gB := (kB.get H1.next (by omega)).trans gA
  unfold SBegin at hK
  cases hm : St.may ⟨1, ow, ep, le, sv⟩ with
  | false =>
    rw [if_pos hm] at hK
    simp -implicitDefEqProofs [J0,J1,J2,J3,J4,J5,J6,J7,J8,J9,Ja,Jb,Jc,Jd,Je,Jf,Jg,Jh,Ji,Jj,Jk,Jl,Jm,Jn,Jo,Jp,Jq,Jr,Js,Jt,Ju,Jv,Jw,Jx,Jy,Jz,JA,JB,JC,JD,JE,JF,JG,JH,JI,JJ,JK,JL,JM,JN,JO,JP,stillI,IOp.kind,JQ,JR,JS,JT,JU,JV,JW,JX,JY,JZ,Y0,Y1,Y2,Y3,Y4,Y5,Y6,Y7,Y8,Y9,Ya,Yb,Yc,Yd,Ye,Yf,Yg,Yh,Yi,Yj,Yk,Yl,Ym,Yn,ial,Yo,Yp,Yq,Yr,Ys,Yt,Yu,Yv,ires,iresL,ires1,Yw,Yx,Yy,Yz,YA,YB,bin2,YC,YD,YE,YF,YG,YH,YI,YJ,YK,YL,YM,YN,YO,YP,YQ,YR,un1,shOk,eqL,eq1,fillL,putAt,IHeap.load1,IHeap.loadL,IHeap.storeL,YS,YT,YU,YV,YW,YX,YY,YZ,B0,B1,B2,B3,B4,B5,B6,B7,B8,B9,Ba,Bb,Bc,Bd,Be,Bf,Bg,Bh,Bi,Bj,Bk,Bl,Bm]
    exact hK q bs _ (k13.upd _) (h.le k13) fun b hb => .inl hb
  | true =>
    rw [if_neg (by rw [hm]; simp)] at hK
    have h3 := h.le k13
    obtain ⟨u0, hg, hrep⟩ := h3.rep
    have hua : ∃ a cp, u0 = .slice a L.length cp := by
      rcases hrep with ⟨rfl, rfl⟩ | ⟨_, _, rfl, _⟩
      · exact ⟨_, _, rfl⟩
      · exact ⟨_, _, rfl⟩
    obtain ⟨a, cp, rfl⟩ := hua
    by_cases hf : 256 ≤ opn L ∨ 4096 ≤ L.length
    · rw [if_pos hf] at hK
      by_cases hf1 : 256 ≤ opn L
      · have hf1' : (256 : Int) ≤ (opn L : Int) := by omega
        simp -implicitDefEqProofs [J0,J1,J2,J3,J4,J5,J6,J7,J8,J9,Ja,Jb,Jc,Jd,Je,Jf,Jg,Jh,Ji,Jj,Jk,Jl,Jm,Jn,Jo,Jp,Jq,Jr,Js,Jt,Ju,Jv,Jw,Jx,Jy,Jz,JA,JB,JC,JD,JE,JF,JG,JH,JI,JJ,JK,JL,JM,JN,JO,JP,stillI,IOp.kind,JQ,JR,JS,JT,JU,JV,JW,JX,JY,JZ,Y0,Y1,Y2,Y3,Y4,Y5,Y6,Y7,Y8,Y9,Ya,Yb,Yc,Yd,Ye,Yf,Yg,Yh,Yi,Yj,Yk,Yl,Ym,Yn,ial,Yo,Yp,Yq,Yr,Ys,Yt,Yu,Yv,ires,iresL,ires1,Yw,Yx,Yy,Yz,YA,YB,bin2,YC,YD,YE,YF,YG,YH,YI,YJ,YK,YL,YM,YN,YO,YP,YQ,YR,un1,shOk,eqL,eq1,fillL,putAt,IHeap.load1,IHeap.loadL,IHeap.storeL,YS,YT,YU,YV,YW,YX,YY,YZ,B0,B1,B2,B3,B4,B5,B6,B7,B8,B9,Ba,Bb,Bc,Bd,Be,Bf,Bg,Bh,Bi,Bj,Bk,Bl,Bm, hg, hf1, hf1']
        exact hK q bs _ (k13.upd _) h3 fun b hb => .inl hb
      · have hf1' : ¬ (256 : Int) ≤ (opn L : Int) := by omega
        have hf2 : 4096 ≤ L.length := by omega
        have hf2' : (4096 : Int) ≤ (L.length : Int) := by omega
        simp -implicitDefEqProofs [J0,J1,J2,J3,J4,J5,J6,J7,J8,J9,Ja,Jb,Jc,Jd,Je,Jf,Jg,Jh,Ji,Jj,Jk,Jl,Jm,Jn,Jo,Jp,Jq,Jr,Js,Jt,Ju,Jv,Jw,Jx,Jy,Jz,JA,JB,JC,JD,JE,JF,JG,JH,JI,JJ,JK,JL,JM,JN,JO,JP,stillI,IOp.kind,JQ,JR,JS,JT,JU,JV,JW,JX,JY,JZ,Y0,Y1,Y2,Y3,Y4,Y5,Y6,Y7,Y8,Y9,Ya,Yb,Yc,Yd,Ye,Yf,Yg,Yh,Yi,Yj,Yk,Yl,Ym,Yn,ial,Yo,Yp,Yq,Yr,Ys,Yt,Yu,Yv,ires,iresL,ires1,Yw,Yx,Yy,Yz,YA,YB,bin2,YC,YD,YE,YF,YG,YH,YI,YJ,YK,YL,YM,YN,YO,YP,YQ,YR,un1,shOk,eqL,eq1,fillL,putAt,IHeap.load1,IHeap.loadL,IHeap.storeL,YS,YT,YU,YV,YW,YX,YY,YZ,B0,B1,B2,B3,B4,B5,B6,B7,B8,B9,Ba,Bb,Bc,Bd,Be,Bf,Bg,Bh,Bi,Bj,Bk,Bl,Bm, hg, hf1, hf1', hf2, hf2']
        exact hK q bs _ (k13.upd _) h3 fun b hb => .inl hb
    · rw [if_neg hf] at hK
      have hf1 : ¬ 256 ≤ opn L := by omega
      have hf2 : ¬ 4096 ≤ L.length := by omega
      have hf1' : ¬ (256 : Int) ≤ (opn L : Int) := by omega
      have hf2' : ¬ (4096 : Int) ≤ (L.length : Int) := by omega
      have hxm := St.may_iff.1 hm
      simp only at hxm
      obtain ⟨b, hb1, hb2, e1, hb3⟩ := own (by rintro rfl; simp at hxm)
      simp only [slS, Value.slice.injEq, true_and] at e1
      obtain ⟨rfl, rfl⟩ := e1
      have hpn : p ≠ H1.next := by have := h.lt; omega
      have hw : IntKind.i64.wrap ((opn L : Int) + 1) = (opn L : Int) + 1 := wrap64 (by omega) (by omega)
      obtain ⟨HC, hHC⟩ : ∃ X : IHeap, X = (HB.set H1.next (.cells [.int .i64 L.length, .int .i64 1, .int .i64 ow, .int .i64 ep, .int .i64 le, .slice (some ⟨b, 0, none⟩) sv.length (UNK + 1)] false)).alloc (.cells [.int .i64 L.length, .int .i64 1, .int .i64 ow, .int .i64 ep, .int .i64 le, .slice (some ⟨b, 0, none⟩) sv.length (UNK + 1)] false) := ⟨_, rfl⟩
      have kC : H.le HC := by rw [hHC]; exact (k13.set (by omega) _).alloc _
      have nC : HC.next = HB.next + 1 := by rw [hHC]; rfl
      have gC : HC.get HB.next = some (.cells [.int .i64 L.length, .int .i64 1, .int .i64 ow, .int .i64 ep, .int .i64 le, .slice (some ⟨b, 0, none⟩) sv.length (UNK + 1)] false) := by rw [hHC, YS, YV, if_pos rfl]
      have gC1 : HC.get H1.next = some (.cells [.int .i64 L.length, .int .i64 1, .int .i64 ow, .int .i64 ep, .int .i64 le, .slice (some ⟨b, 0, none⟩) sv.length (UNK + 1)] false) := by rw [hHC, YS, YV, if_neg (by omega), YT, if_pos rfl]
      have f1 : firstI HC 6 1 (.slice (some ⟨HB.next, 0, none⟩) 1 1) = some [.int .i64 L.length, .int .i64 1, .int .i64 ow, .int .i64 ep, .int .i64 le, .slice (some ⟨b, 0, none⟩) sv.length (UNK + 1)] := by simp [firstI, IHeap.loadL, gC]
      have h4 := h.le kC
      have hgC : HC.get p = _ := (kC.get p h.lt).trans ((k13.get p h.lt).symm.trans hg)
      obtain ⟨H5, e5, g5, n5, u5, z5⟩ := push_ok (H := HC) (q := q) (size := 6) (bytes := 64) (u := .slice a L.length cp) (rows := rowsB bs L) (new := rowSt L.length ⟨1, ow, ep, le, sv⟩ (slS b sv.length)) (by
        rcases hrep with ⟨r1, r2⟩ | ⟨r1, r2, r3, r4⟩
        · left; subst r1; exact ⟨rfl, r2⟩
        · right
          refine ⟨fun e => r1 (by have := congrArg List.length e; rw [rowsB_len] at this; simpa using this), by rw [rowsB_len]; exact r3, (kC.get q h.ltq).trans ((k13.get q h.ltq).symm.trans r4)⟩) (rowsB_six bs L) (by omega) (by omega) rfl rfl (by rw [rowsB_len]; omega) (by rw [rowsB_len]; omega)
      rw [rowsB_len] at e5
      simp only [rowSt, slS] at e5
      have gp5 : H5.get p = _ := (by
        rcases hrep with ⟨r1, r2⟩ | ⟨r1, r2, r3, r4⟩
        · subst r1; exact (z5 rfl).get p (Nat.lt_of_lt_of_le h.lt kC.next)
        · exact u5.get p (Nat.lt_of_lt_of_le h.lt kC.next) (by simpa using r2) : H5.get p = HC.get p).trans hgC
      have gx5 : H5.get H1.next = _ := (u5.get H1.next (by omega) (by have := h.ltq; simp; omega)).trans gC1
      simp -implicitDefEqProofs [J0,J1,J2,J3,J4,J5,J6,J7,J8,J9,Ja,Jb,Jc,Jd,Je,Jf,Jg,Jh,Ji,Jj,Jk,Jl,Jm,Jn,Jo,Jp,Jq,Jr,Js,Jt,Ju,Jv,Jw,Jx,Jy,Jz,JA,JB,JC,JD,JE,JF,JG,JH,JI,JJ,JK,JL,JM,JN,JO,JP,stillI,IOp.kind,JQ,JR,JS,JT,JU,JV,JW,JX,JY,JZ,Y0,Y1,Y2,Y3,Y4,Y5,Y6,Y7,Y8,Y9,Ya,Yb,Yc,Yd,Ye,Yf,Yg,Yh,Yi,Yj,Yk,Yl,Ym,Yn,ial,Yo,Yp,Yq,Yr,Ys,Yt,Yu,Yv,ires,iresL,ires1,Yw,Yx,Yy,Yz,YA,YB,bin2,YC,YD,YE,YF,YG,YH,YI,YJ,YK,YL,YM,YN,YO,YP,YQ,YR,un1,shOk,eqL,eq1,fillL,putAt,IHeap.load1,IHeap.loadL,IHeap.storeL,YS,YT,YU,YV,YW,YX,YY,YZ,B0,B1,B2,B3,B4,B5,B6,B7,B8,B9,Ba,Bb,Bc,Bd,Be,Bf,Bg,Bh,Bi,Bj,Bk,Bl,Bm, hg, hf1, hf1', hf2, hf2', gB, hpn, ← hHC, lenOfI, f1, e5, gp5, gx5, Ne.symm hpn, hw]
      have hin5 : ∀ b', b' < HC.next → b' ≠ p → b' ≠ q → H5.get b' = HC.get b' := fun b' h1 h2 h3 => u5.get b' h1 (by simpa using h3)
      have hon : opn (L ++ [⟨1, ow, ep, le, sv⟩]) = opn L + 1 := by unfold opn; rw [List.countP_append]; rfl
      have hpl := h.lt
      have hql := h.ltq
      have hcn := kC.next
      simp only at hK
      have hrs := rowsB_snoc bs L ⟨1, ow, ep, le, sv⟩ b
      have hcast : ((opn L : Int) + 1) = ((opn L + 1 : Nat) : Int) := by omega
      rw [hcast]
      refine hK HC.next (fun i => if i = L.length then b else bs i) _ ?_ ⟨?_, ?_, ⟨.slice (some ⟨HC.next, 0, none⟩) (L.length + 1) (UNK + 6), ?_, .inr ⟨by simp, by omega, by simp, ?_⟩⟩, ?_, ?_, ?_, ?_⟩ ?_
      · refine (((IHeap.le.upd kC _).trans ⟨u5.next, fun b' h1 h2 => u5.get b' h1 fun hm => h2 (by simp only [List.mem_singleton] at hm; rw [hm]; exact q_foot _ _ _ _)⟩).set (.inr (p_foot _ _ _ _)) _).set (.inr (p_foot _ _ _ _)) _
      · simp only [YV]; omega
      · simp only [YV]; omega
      · rw [YT, if_pos rfl, hon]
      · rw [YT, if_neg (by omega), YT, if_neg (by omega), g5, hrs]
      · intro z hz
        rcases List.mem_append.1 hz with h1 | h1
        · exact h.ok z h1
        · simp only [List.mem_singleton] at h1
          subst h1
          exact ⟨hm, by simp, by simp, hep⟩
      · simp only [List.length_append, List.length_singleton]; omega
      · intro i x hx
        simp only [YV]
        by_cases hi : i < L.length
        · rw [List.getElem?_append_left hi] at hx
          obtain ⟨c1, c2, c3, c4⟩ := h.bl i x hx
          rw [if_neg (by omega)]
          refine ⟨by omega, ?_, c3, by omega⟩
          rw [YT, if_neg c3, YT, if_neg c3, hin5 _ (by omega) c3 c4, kC.get _ c1]
          exact c2
        · have hi2 : i = L.length := by
            have := (List.getElem?_eq_some_iff.1 hx).1
            simp only [List.length_append, List.length_singleton] at this; omega
          subst hi2
          rw [List.getElem?_append_right (Nat.le_refl _)] at hx
          simp only [Nat.sub_self, List.getElem?_cons_zero, Option.some.injEq] at hx
          subst hx
          rw [if_pos rfl]
          have hb5 : HC.get b = H1.get b := by
            rw [hHC, YS, YV, if_neg (by omega), YT, if_neg (by omega), kB.get b (by omega), kA.get b hb2]
          refine ⟨by omega, ?_, by omega, by omega⟩
          rw [YT, if_neg (by omega), YT, if_neg (by omega), hin5 b (by omega) (by omega) (by omega), hb5]
          exact hb3
      · intro i j hi hj
        simp only [List.length_append, List.length_singleton] at hi hj
        have hbl : ∀ k, k < L.length → bs k < H.next := fun k hk => (h.bl k L[k] (List.getElem?_eq_getElem hk)).1
        split <;> split
        · intro _; omega
        · intro e; have := hbl j (by omega); omega
        · intro e; have := hbl i (by omega); omega
        · exact h.inj i j (by omega) (by omega)
      · intro b' hb'
        rw [mem_foot] at hb'
        rcases hb' with rfl | rfl | ⟨i, hi, rfl⟩
        · exact .inl (p_foot _ _ _ _)
        · right; omega
        · simp only [List.length_append, List.length_singleton] at hi
          split
          · right; omega
          · left; exact b_foot (by omega)

end
end Go.Proofs.YtmdkkhnenciknaaI
