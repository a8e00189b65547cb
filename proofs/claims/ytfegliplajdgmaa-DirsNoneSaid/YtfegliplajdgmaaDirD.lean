/- Directories: names are added, taken away, looked up, told. -/
import Derived.Test.YtfegliplajdgmaaDirC
namespace Go.Proofs.YtfegliplajdgmaaI
set_option linter.unusedSimpArgs false
set_option linter.unusedVariables false
open Go

/-- What slices.Insert does. -/
def InsOk2 (c : Ctx) : Prop := ∀ (H : IHeap) (K : Value → IHeap → Prop) (q vb i : Nat) (u : Value) (rows : List (List Value)) (new : List Value), VS H q u rows → (∀ r ∈ rows, r.length = 2) → rows.flatten.all one1 = true →
  H.get vb = some (.cells new false) → vb < H.next → vb ≠ q → new.length = 2 → new.all one1 = true → i ≤ rows.length → rows.length ≤ 1000000 →
  (∀ q' H', IHeap.upd [q] H H' → H.next ≤ q' → VS H' q' (.slice (some ⟨q', 0, none⟩) (rows.length + 1) (UNK + 2)) (rows.take i ++ new :: rows.drop i) → K (.slice (some ⟨q', 0, none⟩) (rows.length + 1) (UNK + 2)) H') →
  c.C (c.F n_slices_Insert_dirs_entry_dirs_entry) [u, .int .i64 i, .slice (some ⟨vb, 0, none⟩) 1 1] H K
def IdxOk (c : Ctx) : Prop := ∀ (t : List UInt8) (b : UInt8) (H : IHeap) (K : Value → IHeap → Prop), (∀ n : Int, (n < 0 ↔ ¬ b ∈ t) → K (.int .i64 n) H) → c.C (c.F 220) [strV t, .int .u8 (b.toNat : Nat)] H K

section
variable (c : Ctx) (hc : HasDirs c) (hX : IdxOk c) (hI : InsOk2 c) {H : IHeap} {K : Value → IHeap → Prop}

include hc hX hI in
theorem DAdd_ok {p q : Nat} {L : List EntD} {s : List UInt8} {ino : Int} (h : IsD H p q L) (hl : L.length ≤ 1000000) (hsl : s.length ≤ 1000000)
    (hK : ∀ q' H', IHeap.upd [p, q] H H' → (q' = q ∨ H.next ≤ q') → IsD H' p q' (addE L s ino).1 → K (.int .i64 (addE L s ino).2) H') :
    c.C (c.F n_dirs_Dir_Add) [.pointer (some ⟨p, 0, none⟩), strV s, .int .i64 ino] H K := by
  refine c.enter hc.dirs_Dir_Add rfl ?_
  have hpl := h.lt
  have hso := addE_sorted (s := s) (ino := ino) h.sorted
  unfold addE at hK
  by_cases h1 : ino < 1
  · rw [if_pos (.inl h1)] at hK
    simp -implicitDefEqProofs [J0,J1,J2,J3,J4,J5,J6,J7,J8,J9,Ja,Jb,Jc,Jd,Je,Jf,Jg,Jh,Ji,Jj,Jk,Jl,Jm,Jn,Jo,Jp,Jq,Jr,Js,Jt,Ju,Jv,Jw,Jx,Jy,Jz,JA,JB,JC,JD,JE,JF,JG,JH,JI,JJ,JK,JL,JM,JN,JO,JP,stillI,IOp.kind,JQ,JR,JS,JT,JU,JV,JW,JX,JY,JZ,Y0,Y1,Y2,Y3,Y4,Y5,Y6,Y7,Y8,Y9,Ya,Yb,Yc,Yd,Ye,Yf,Yg,Yh,Yi,Yj,Yk,Yl,Ym,Yn,ial,Yo,Yp,Yq,Yr,Ys,Yt,Yu,Yv,ires,iresL,ires1,Yw,Yx,Yy,Yz,YA,YB,bin2,YC,YD,YE,YF,YG,YH,YI,YJ,YK,YL,YM,YN,YO,YP,YQ,YR,un1,shOk,eqL,eq1,fillL,putAt,IHeap.load1,IHeap.loadL,IHeap.storeL,YS,YT,YU,YV,YW,YX,YY,YZ,B0,B1,B2,B3,B4,B5,B6,B7,B8,B9,Ba,Bb,Bc,Bd,Be,Bf,Bg,Bh,Bi,Bj,Bk,Bl,Bm, c_dirs_Dir_Add, nilOf, h1]
    exact hK q _ (IHeap.upd_refl _ _) (.inl rfl) h
  · by_cases h2 : 256 ≤ ino
    · rw [if_pos (.inr h2)] at hK
      simp -implicitDefEqProofs [J0,J1,J2,J3,J4,J5,J6,J7,J8,J9,Ja,Jb,Jc,Jd,Je,Jf,Jg,Jh,Ji,Jj,Jk,Jl,Jm,Jn,Jo,Jp,Jq,Jr,Js,Jt,Ju,Jv,Jw,Jx,Jy,Jz,JA,JB,JC,JD,JE,JF,JG,JH,JI,JJ,JK,JL,JM,JN,JO,JP,stillI,IOp.kind,JQ,JR,JS,JT,JU,JV,JW,JX,JY,JZ,Y0,Y1,Y2,Y3,Y4,Y5,Y6,Y7,Y8,Y9,Ya,Yb,Yc,Yd,Ye,Yf,Yg,Yh,Yi,Yj,Yk,Yl,Ym,Yn,ial,Yo,Yp,Yq,Yr,Ys,Yt,Yu,Yv,ires,iresL,ires1,Yw,Yx,Yy,Yz,YA,YB,bin2,YC,YD,YE,YF,YG,YH,YI,YJ,YK,YL,YM,YN,YO,YP,YQ,YR,un1,shOk,eqL,eq1,fillL,putAt,IHeap.load1,IHeap.loadL,IHeap.storeL,YS,YT,YU,YV,YW,YX,YY,YZ,B0,B1,B2,B3,B4,B5,B6,B7,B8,B9,Ba,Bb,Bc,Bd,Be,Bf,Bg,Bh,Bi,Bj,Bk,Bl,Bm, c_dirs_Dir_Add, nilOf, h1, h2]
      exact hK q _ (IHeap.upd_refl _ _) (.inl rfl) h
    · rw [if_neg (by omega)] at hK
      simp -implicitDefEqProofs [J0,J1,J2,J3,J4,J5,J6,J7,J8,J9,Ja,Jb,Jc,Jd,Je,Jf,Jg,Jh,Ji,Jj,Jk,Jl,Jm,Jn,Jo,Jp,Jq,Jr,Js,Jt,Ju,Jv,Jw,Jx,Jy,Jz,JA,JB,JC,JD,JE,JF,JG,JH,JI,JJ,JK,JL,JM,JN,JO,JP,stillI,IOp.kind,JQ,JR,JS,JT,JU,JV,JW,JX,JY,JZ,Y0,Y1,Y2,Y3,Y4,Y5,Y6,Y7,Y8,Y9,Ya,Yb,Yc,Yd,Ye,Yf,Yg,Yh,Yi,Yj,Yk,Yl,Ym,Yn,ial,Yo,Yp,Yq,Yr,Ys,Yt,Yu,Yv,ires,iresL,ires1,Yw,Yx,Yy,Yz,YA,YB,bin2,YC,YD,YE,YF,YG,YH,YI,YJ,YK,YL,YM,YN,YO,YP,YQ,YR,un1,shOk,eqL,eq1,fillL,putAt,IHeap.load1,IHeap.loadL,IHeap.storeL,YS,YT,YU,YV,YW,YX,YY,YZ,B0,B1,B2,B3,B4,B5,B6,B7,B8,B9,Ba,Bb,Bc,Bd,Be,Bf,Bg,Bh,Bi,Bj,Bk,Bl,Bm, c_dirs_Dir_Add, nilOf, h1, h2]
      refine call_of (DName_ok c hc hX hsl ?_)
      cases hn : nameB s with
      | false =>
        rw [if_pos hn] at hK
        simp -implicitDefEqProofs [J0,J1,J2,J3,J4,J5,J6,J7,J8,J9,Ja,Jb,Jc,Jd,Je,Jf,Jg,Jh,Ji,Jj,Jk,Jl,Jm,Jn,Jo,Jp,Jq,Jr,Js,Jt,Ju,Jv,Jw,Jx,Jy,Jz,JA,JB,JC,JD,JE,JF,JG,JH,JI,JJ,JK,JL,JM,JN,JO,JP,stillI,IOp.kind,JQ,JR,JS,JT,JU,JV,JW,JX,JY,JZ,Y0,Y1,Y2,Y3,Y4,Y5,Y6,Y7,Y8,Y9,Ya,Yb,Yc,Yd,Ye,Yf,Yg,Yh,Yi,Yj,Yk,Yl,Ym,Yn,ial,Yo,Yp,Yq,Yr,Ys,Yt,Yu,Yv,ires,iresL,ires1,Yw,Yx,Yy,Yz,YA,YB,bin2,YC,YD,YE,YF,YG,YH,YI,YJ,YK,YL,YM,YN,YO,YP,YQ,YR,un1,shOk,eqL,eq1,fillL,putAt,IHeap.load1,IHeap.loadL,IHeap.storeL,YS,YT,YU,YV,YW,YX,YY,YZ,B0,B1,B2,B3,B4,B5,B6,B7,B8,B9,Ba,Bb,Bc,Bd,Be,Bf,Bg,Bh,Bi,Bj,Bk,Bl,Bm]
        exact hK q _ (IHeap.upd_refl _ _) (.inl rfl) h
      | true =>
        rw [if_neg (by rw [hn]; simp)] at hK
        simp -implicitDefEqProofs [J0,J1,J2,J3,J4,J5,J6,J7,J8,J9,Ja,Jb,Jc,Jd,Je,Jf,Jg,Jh,Ji,Jj,Jk,Jl,Jm,Jn,Jo,Jp,Jq,Jr,Js,Jt,Ju,Jv,Jw,Jx,Jy,Jz,JA,JB,JC,JD,JE,JF,JG,JH,JI,JJ,JK,JL,JM,JN,JO,JP,stillI,IOp.kind,JQ,JR,JS,JT,JU,JV,JW,JX,JY,JZ,Y0,Y1,Y2,Y3,Y4,Y5,Y6,Y7,Y8,Y9,Ya,Yb,Yc,Yd,Ye,Yf,Yg,Yh,Yi,Yj,Yk,Yl,Ym,Yn,ial,Yo,Yp,Yq,Yr,Ys,Yt,Yu,Yv,ires,iresL,ires1,Yw,Yx,Yy,Yz,YA,YB,bin2,YC,YD,YE,YF,YG,YH,YI,YJ,YK,YL,YM,YN,YO,YP,YQ,YR,un1,shOk,eqL,eq1,fillL,putAt,IHeap.load1,IHeap.loadL,IHeap.storeL,YS,YT,YU,YV,YW,YX,YY,YZ,B0,B1,B2,B3,B4,B5,B6,B7,B8,B9,Ba,Bb,Bc,Bd,Be,Bf,Bg,Bh,Bi,Bj,Bk,Bl,Bm]
        refine call_of (Dfind_ok c hc (s := s) h hl fun H1 k1 => ?_)
        have h1' := h.le k1
        cases ht : thereE L s with
        | true =>
          rw [if_pos ht] at hK
          simp -implicitDefEqProofs [J0,J1,J2,J3,J4,J5,J6,J7,J8,J9,Ja,Jb,Jc,Jd,Je,Jf,Jg,Jh,Ji,Jj,Jk,Jl,Jm,Jn,Jo,Jp,Jq,Jr,Js,Jt,Ju,Jv,Jw,Jx,Jy,Jz,JA,JB,JC,JD,JE,JF,JG,JH,JI,JJ,JK,JL,JM,JN,JO,JP,stillI,IOp.kind,JQ,JR,JS,JT,JU,JV,JW,JX,JY,JZ,Y0,Y1,Y2,Y3,Y4,Y5,Y6,Y7,Y8,Y9,Ya,Yb,Yc,Yd,Ye,Yf,Yg,Yh,Yi,Yj,Yk,Yl,Ym,Yn,ial,Yo,Yp,Yq,Yr,Ys,Yt,Yu,Yv,ires,iresL,ires1,Yw,Yx,Yy,Yz,YA,YB,bin2,YC,YD,YE,YF,YG,YH,YI,YJ,YK,YL,YM,YN,YO,YP,YQ,YR,un1,shOk,eqL,eq1,fillL,putAt,IHeap.load1,IHeap.loadL,IHeap.storeL,YS,YT,YU,YV,YW,YX,YY,YZ,B0,B1,B2,B3,B4,B5,B6,B7,B8,B9,Ba,Bb,Bc,Bd,Be,Bf,Bg,Bh,Bi,Bj,Bk,Bl,Bm]
          exact hK q _ (k1.upd _) (.inl rfl) h1'
        | false =>
          rw [if_neg (by rw [ht]; simp)] at hK
          obtain ⟨u, g1, g2⟩ := h1'.rep
          have hple := posE_le s L
          obtain ⟨H2, hH2⟩ : ∃ X : IHeap, X = H1.alloc (.cells [strV s, .int .i64 ino] false) := ⟨_, rfl⟩
          have k2 : H1.le H2 := by rw [hH2]; exact H1.le_alloc _
          have n2 : H2.next = H1.next + 1 := by rw [hH2]; rfl
          have gv2 : H2.get H1.next = some (.cells [strV s, .int .i64 ino] false) := by rw [hH2, YS, if_pos rfl]
          have n1 := k1.next
          have gp2 := (k2.get p h1'.lt).trans g1
          obtain ⟨q0, hq0, hq1, hq2, hv2⟩ : ∃ q0, q0 ≠ H1.next ∧ q0 ≠ p ∧ (q0 = q ∨ H2.next ≤ q0) ∧ VS H2 q0 u (L.map rowE) := by
            rcases g2 with ⟨hr0, rfl⟩ | ⟨cs, hq, rfl, gq, hcs, hcl⟩
            · exact ⟨H2.next, by omega, by omega, .inr (Nat.le_refl _), .inl ⟨hr0, rfl⟩⟩
            · exact ⟨q, by omega, Ne.symm h.ne, .inl rfl, VS.le (.inr ⟨cs, hq, rfl, gq, hcs, hcl⟩) k2⟩
          obtain ⟨au, cu, eu⟩ := hv2.lenv
          have hins := fun K2 hk => hI H2 K2 q0 H1.next (posE s L) u _ (rowE ⟨s, ino⟩) hv2 (rowE_two _) (rowE_one _) gv2 (by omega) (Ne.symm hq0) rfl rfl (by rw [List.length_map]; exact hple) (by rw [List.length_map]; exact hl) hk
          rw [List.length_map] at eu
          rw [eu] at hins g1
          simp -implicitDefEqProofs [J0,J1,J2,J3,J4,J5,J6,J7,J8,J9,Ja,Jb,Jc,Jd,Je,Jf,Jg,Jh,Ji,Jj,Jk,Jl,Jm,Jn,Jo,Jp,Jq,Jr,Js,Jt,Ju,Jv,Jw,Jx,Jy,Jz,JA,JB,JC,JD,JE,JF,JG,JH,JI,JJ,JK,JL,JM,JN,JO,JP,stillI,IOp.kind,JQ,JR,JS,JT,JU,JV,JW,JX,JY,JZ,Y0,Y1,Y2,Y3,Y4,Y5,Y6,Y7,Y8,Y9,Ya,Yb,Yc,Yd,Ye,Yf,Yg,Yh,Yi,Yj,Yk,Yl,Ym,Yn,ial,Yo,Yp,Yq,Yr,Ys,Yt,Yu,Yv,ires,iresL,ires1,Yw,Yx,Yy,Yz,YA,YB,bin2,YC,YD,YE,YF,YG,YH,YI,YJ,YK,YL,YM,YN,YO,YP,YQ,YR,un1,shOk,eqL,eq1,fillL,putAt,IHeap.load1,IHeap.loadL,IHeap.storeL,YS,YT,YU,YV,YW,YX,YY,YZ,B0,B1,B2,B3,B4,B5,B6,B7,B8,B9,Ba,Bb,Bc,Bd,Be,Bf,Bg,Bh,Bi,Bj,Bk,Bl,Bm, nilOf, g1, ← hH2]
          refine call_of (hins _ fun q' H3 u3 hq' vs3 => ?_)
          have gp3 := (u3.get p (by omega) (by simpa using Ne.symm hq1)).trans gp2
          rw [List.length_map] at vs3 ⊢
          have n3 := u3.next
          have hpq' : p ≠ q' := by omega
          have e1 : (L.map rowE).take (posE s L) ++ rowE ⟨s, ino⟩ :: (L.map rowE).drop (posE s L) = (L.take (posE s L) ++ ⟨s, ino⟩ :: L.drop (posE s L)).map rowE := by simp [List.map_take, List.map_drop]
          rw [e1] at vs3
          simp -implicitDefEqProofs [J0,J1,J2,J3,J4,J5,J6,J7,J8,J9,Ja,Jb,Jc,Jd,Je,Jf,Jg,Jh,Ji,Jj,Jk,Jl,Jm,Jn,Jo,Jp,Jq,Jr,Js,Jt,Ju,Jv,Jw,Jx,Jy,Jz,JA,JB,JC,JD,JE,JF,JG,JH,JI,JJ,JK,JL,JM,JN,JO,JP,stillI,IOp.kind,JQ,JR,JS,JT,JU,JV,JW,JX,JY,JZ,Y0,Y1,Y2,Y3,Y4,Y5,Y6,Y7,Y8,Y9,Ya,Yb,Yc,Yd,Ye,Yf,Yg,Yh,Yi,Yj,Yk,Yl,Ym,Yn,ial,Yo,Yp,Yq,Yr,Ys,Yt,Yu,Yv,ires,iresL,ires1,Yw,Yx,Yy,Yz,YA,YB,bin2,YC,YD,YE,YF,YG,YH,YI,YJ,YK,YL,YM,YN,YO,YP,YQ,YR,un1,shOk,eqL,eq1,fillL,putAt,IHeap.load1,IHeap.loadL,IHeap.storeL,YS,YT,YU,YV,YW,YX,YY,YZ,B0,B1,B2,B3,B4,B5,B6,B7,B8,B9,Ba,Bb,Bc,Bd,Be,Bf,Bg,Bh,Bi,Bj,Bk,Bl,Bm, nilOf, gp3]
          have up3 : IHeap.upd [p, q] H H3 := ⟨by omega, fun b hb hn => by
            rw [u3.get b (by omega) (fun hm => by
              simp only [List.mem_singleton] at hm
              rcases hq2 with e | e
              · exact hn (by simp [hm, e])
              · omega), k2.get b (by omega)]
            exact k1.get b hb⟩
          refine hK q' _ (up3.set (.inr (by simp)) _) (.inr (by omega)) ⟨by simp only [YV]; omega, hpq', ⟨_, by rw [YT, if_pos rfl], vs3.upd ((IHeap.upd_refl [p] _).set (.inr (by simp)) _) (by simpa using Ne.symm hpq')⟩, ?_⟩
          have := hso
          unfold addE at this
          rw [if_neg (by omega), if_neg (by rw [hn]; simp), if_neg (by rw [ht]; simp)] at this
          exact this

include hc in
theorem DRemove_ok {p q : Nat} {L : List EntD} {s : List UInt8} (h : IsD H p q L) (hl : L.length ≤ 1000000)
    (hK : ∀ H', IHeap.upd [p, q] H H' → IsD H' p q (remE L s).1 → K (.tuple #[.int .i64 (remE L s).2.1, .int .i64 (remE L s).2.2]) H') :
    c.C (c.F n_dirs_Dir_Remove) [.pointer (some ⟨p, 0, none⟩), strV s] H K := by
  refine c.enter hc.dirs_Dir_Remove rfl ?_
  have hpl := h.lt
  unfold remE at hK
  simp -implicitDefEqProofs [J0,J1,J2,J3,J4,J5,J6,J7,J8,J9,Ja,Jb,Jc,Jd,Je,Jf,Jg,Jh,Ji,Jj,Jk,Jl,Jm,Jn,Jo,Jp,Jq,Jr,Js,Jt,Ju,Jv,Jw,Jx,Jy,Jz,JA,JB,JC,JD,JE,JF,JG,JH,JI,JJ,JK,JL,JM,JN,JO,JP,stillI,IOp.kind,JQ,JR,JS,JT,JU,JV,JW,JX,JY,JZ,Y0,Y1,Y2,Y3,Y4,Y5,Y6,Y7,Y8,Y9,Ya,Yb,Yc,Yd,Ye,Yf,Yg,Yh,Yi,Yj,Yk,Yl,Ym,Yn,ial,Yo,Yp,Yq,Yr,Ys,Yt,Yu,Yv,ires,iresL,ires1,Yw,Yx,Yy,Yz,YA,YB,bin2,YC,YD,YE,YF,YG,YH,YI,YJ,YK,YL,YM,YN,YO,YP,YQ,YR,un1,shOk,eqL,eq1,fillL,putAt,IHeap.load1,IHeap.loadL,IHeap.storeL,YS,YT,YU,YV,YW,YX,YY,YZ,B0,B1,B2,B3,B4,B5,B6,B7,B8,B9,Ba,Bb,Bc,Bd,Be,Bf,Bg,Bh,Bi,Bj,Bk,Bl,Bm, c_dirs_Dir_Remove, nilOf]
  refine call_of (Dfind_ok c hc (s := s) h hl fun H1 k1 => ?_)
  have h1 := h.le k1
  cases ht : thereE L s with
  | false =>
    rw [if_neg (by rw [ht]; simp)] at hK
    simp -implicitDefEqProofs [J0,J1,J2,J3,J4,J5,J6,J7,J8,J9,Ja,Jb,Jc,Jd,Je,Jf,Jg,Jh,Ji,Jj,Jk,Jl,Jm,Jn,Jo,Jp,Jq,Jr,Js,Jt,Ju,Jv,Jw,Jx,Jy,Jz,JA,JB,JC,JD,JE,JF,JG,JH,JI,JJ,JK,JL,JM,JN,JO,JP,stillI,IOp.kind,JQ,JR,JS,JT,JU,JV,JW,JX,JY,JZ,Y0,Y1,Y2,Y3,Y4,Y5,Y6,Y7,Y8,Y9,Ya,Yb,Yc,Yd,Ye,Yf,Yg,Yh,Yi,Yj,Yk,Yl,Ym,Yn,ial,Yo,Yp,Yq,Yr,Ys,Yt,Yu,Yv,ires,iresL,ires1,Yw,Yx,Yy,Yz,YA,YB,bin2,YC,YD,YE,YF,YG,YH,YI,YJ,YK,YL,YM,YN,YO,YP,YQ,YR,un1,shOk,eqL,eq1,fillL,putAt,IHeap.load1,IHeap.loadL,IHeap.storeL,YS,YT,YU,YV,YW,YX,YY,YZ,B0,B1,B2,B3,B4,B5,B6,B7,B8,B9,Ba,Bb,Bc,Bd,Be,Bf,Bg,Bh,Bi,Bj,Bk,Bl,Bm]
    exact hK _ (k1.upd _) h1
  | true =>
    rw [if_pos ht] at hK
    obtain ⟨ino, hat⟩ := there_at ht
    have hino : inoE L s = ino := by simp [inoE, hat]
    rw [hino] at hK
    obtain ⟨hlt, _⟩ := List.getElem?_eq_some_iff.1 hat
    obtain ⟨u, g1, g2⟩ := h1.rep
    obtain ⟨i, hi⟩ : ∃ i, i = posE s L := ⟨_, rfl⟩
    rw [← hi] at hat hlt hK ⊢
    have hiI : (i : Int) < (L.length : Int) := by omega
    obtain ⟨b, o, cp, cs, ro, ea, hb, hget, hrl, hrow, hbd⟩ := (g2.slw (rowE_two _)).1.at (i := i) (r := rowE ⟨s, ino⟩) (by simp [hat])
    rw [List.length_map] at ea
    have hdel := fun {X : IHeap} (hv : VS X q u (L.map rowE)) K2 hk => Delete_ok c hc (K := K2) (i := i) hv (rowE_two _) (rowE_one _) (by rw [List.length_map]; exact hlt) (by rw [List.length_map]; exact hl) hk
    rw [ea] at g1 hdel
    have r1 := row_get2 hrow 1 (by omega)
    simp only [rowE, List.getElem?_cons_succ, List.getElem?_cons_zero] at r1
    have hw : IntKind.i64.wrap ((i : Int) + 1) = (i : Int) + 1 := wrap64 (by omega) (by omega)
    simp -implicitDefEqProofs [J0,J1,J2,J3,J4,J5,J6,J7,J8,J9,Ja,Jb,Jc,Jd,Je,Jf,Jg,Jh,Ji,Jj,Jk,Jl,Jm,Jn,Jo,Jp,Jq,Jr,Js,Jt,Ju,Jv,Jw,Jx,Jy,Jz,JA,JB,JC,JD,JE,JF,JG,JH,JI,JJ,JK,JL,JM,JN,JO,JP,stillI,IOp.kind,JQ,JR,JS,JT,JU,JV,JW,JX,JY,JZ,Y0,Y1,Y2,Y3,Y4,Y5,Y6,Y7,Y8,Y9,Ya,Yb,Yc,Yd,Ye,Yf,Yg,Yh,Yi,Yj,Yk,Yl,Ym,Yn,ial,Yo,Yp,Yq,Yr,Ys,Yt,Yu,Yv,ires,iresL,ires1,Yw,Yx,Yy,Yz,YA,YB,bin2,YC,YD,YE,YF,YG,YH,YI,YJ,YK,YL,YM,YN,YO,YP,YQ,YR,un1,shOk,eqL,eq1,fillL,putAt,IHeap.load1,IHeap.loadL,IHeap.storeL,YS,YT,YU,YV,YW,YX,YY,YZ,B0,B1,B2,B3,B4,B5,B6,B7,B8,B9,Ba,Bb,Bc,Bd,Be,Bf,Bg,Bh,Bi,Bj,Bk,Bl,Bm, nilOf, g1, hlt, hiI, hget, r1, hw]
    rw [ea] at g2
    refine call_of (hdel g2 _ fun v H2 u2 vs2 => ?_)
    have gp2 := (u2.get p h1.lt (by simpa using h.ne)).trans g1
    obtain ⟨av, cv, ev⟩ := vs2.lenv
    subst ev
    simp -implicitDefEqProofs [J0,J1,J2,J3,J4,J5,J6,J7,J8,J9,Ja,Jb,Jc,Jd,Je,Jf,Jg,Jh,Ji,Jj,Jk,Jl,Jm,Jn,Jo,Jp,Jq,Jr,Js,Jt,Ju,Jv,Jw,Jx,Jy,Jz,JA,JB,JC,JD,JE,JF,JG,JH,JI,JJ,JK,JL,JM,JN,JO,JP,stillI,IOp.kind,JQ,JR,JS,JT,JU,JV,JW,JX,JY,JZ,Y0,Y1,Y2,Y3,Y4,Y5,Y6,Y7,Y8,Y9,Ya,Yb,Yc,Yd,Ye,Yf,Yg,Yh,Yi,Yj,Yk,Yl,Ym,Yn,ial,Yo,Yp,Yq,Yr,Ys,Yt,Yu,Yv,ires,iresL,ires1,Yw,Yx,Yy,Yz,YA,YB,bin2,YC,YD,YE,YF,YG,YH,YI,YJ,YK,YL,YM,YN,YO,YP,YQ,YR,un1,shOk,eqL,eq1,fillL,putAt,IHeap.load1,IHeap.loadL,IHeap.storeL,YS,YT,YU,YV,YW,YX,YY,YZ,B0,B1,B2,B3,B4,B5,B6,B7,B8,B9,Ba,Bb,Bc,Bd,Be,Bf,Bg,Bh,Bi,Bj,Bk,Bl,Bm, nilOf, gp2]
    have up2 : IHeap.upd [p, q] H H2 := k1.updTrans ⟨u2.next, fun b hb hn => u2.get b hb fun hm => hn (List.mem_cons_of_mem _ hm)⟩
    have e1 : (L.map rowE).eraseIdx i = (L.eraseIdx i).map rowE := by rw [List.eraseIdx_eq_take_drop_succ, List.eraseIdx_eq_take_drop_succ, List.map_append, List.map_take, List.map_drop]
    rw [e1] at vs2 ⊢
    exact hK _ (up2.set (.inr (by simp)) _) ⟨by simp only [YV]; have := h1.lt; have := u2.next; omega, h.ne, ⟨_, by rw [YT, if_pos rfl], vs2.upd ((IHeap.upd_refl [p] _).set (.inr (by simp)) _) (by simpa using Ne.symm h.ne)⟩, h.sorted.sublist (List.eraseIdx_sublist _ _)⟩

include hc in
theorem DLook_ok {p q : Nat} {L : List EntD} {s : List UInt8} (h : IsD H p q L) (hl : L.length ≤ 1000000)
    (hK : ∀ H', H.le H' → K (.tuple #[.int .i64 (lookE L s).1, .int .i64 (lookE L s).2]) H') :
    c.C (c.F n_dirs_Dir_Look) [.pointer (some ⟨p, 0, none⟩), strV s] H K := by
  refine c.enter hc.dirs_Dir_Look rfl ?_
  unfold lookE at hK
  simp -implicitDefEqProofs [J0,J1,J2,J3,J4,J5,J6,J7,J8,J9,Ja,Jb,Jc,Jd,Je,Jf,Jg,Jh,Ji,Jj,Jk,Jl,Jm,Jn,Jo,Jp,Jq,Jr,Js,Jt,Ju,Jv,Jw,Jx,Jy,Jz,JA,JB,JC,JD,JE,JF,JG,JH,JI,JJ,JK,JL,JM,JN,JO,JP,stillI,IOp.kind,JQ,JR,JS,JT,JU,JV,JW,JX,JY,JZ,Y0,Y1,Y2,Y3,Y4,Y5,Y6,Y7,Y8,Y9,Ya,Yb,Yc,Yd,Ye,Yf,Yg,Yh,Yi,Yj,Yk,Yl,Ym,Yn,ial,Yo,Yp,Yq,Yr,Ys,Yt,Yu,Yv,ires,iresL,ires1,Yw,Yx,Yy,Yz,YA,YB,bin2,YC,YD,YE,YF,YG,YH,YI,YJ,YK,YL,YM,YN,YO,YP,YQ,YR,un1,shOk,eqL,eq1,fillL,putAt,IHeap.load1,IHeap.loadL,IHeap.storeL,YS,YT,YU,YV,YW,YX,YY,YZ,B0,B1,B2,B3,B4,B5,B6,B7,B8,B9,Ba,Bb,Bc,Bd,Be,Bf,Bg,Bh,Bi,Bj,Bk,Bl,Bm, c_dirs_Dir_Look]
  refine call_of (Dfind_ok c hc (s := s) h hl fun H1 k1 => ?_)
  have h1 := h.le k1
  cases ht : thereE L s with
  | false =>
    rw [if_neg (by rw [ht]; simp)] at hK
    simp -implicitDefEqProofs [J0,J1,J2,J3,J4,J5,J6,J7,J8,J9,Ja,Jb,Jc,Jd,Je,Jf,Jg,Jh,Ji,Jj,Jk,Jl,Jm,Jn,Jo,Jp,Jq,Jr,Js,Jt,Ju,Jv,Jw,Jx,Jy,Jz,JA,JB,JC,JD,JE,JF,JG,JH,JI,JJ,JK,JL,JM,JN,JO,JP,stillI,IOp.kind,JQ,JR,JS,JT,JU,JV,JW,JX,JY,JZ,Y0,Y1,Y2,Y3,Y4,Y5,Y6,Y7,Y8,Y9,Ya,Yb,Yc,Yd,Ye,Yf,Yg,Yh,Yi,Yj,Yk,Yl,Ym,Yn,ial,Yo,Yp,Yq,Yr,Ys,Yt,Yu,Yv,ires,iresL,ires1,Yw,Yx,Yy,Yz,YA,YB,bin2,YC,YD,YE,YF,YG,YH,YI,YJ,YK,YL,YM,YN,YO,YP,YQ,YR,un1,shOk,eqL,eq1,fillL,putAt,IHeap.load1,IHeap.loadL,IHeap.storeL,YS,YT,YU,YV,YW,YX,YY,YZ,B0,B1,B2,B3,B4,B5,B6,B7,B8,B9,Ba,Bb,Bc,Bd,Be,Bf,Bg,Bh,Bi,Bj,Bk,Bl,Bm]
    exact hK _ k1
  | true =>
    rw [if_pos ht] at hK
    obtain ⟨ino, hat⟩ := there_at ht
    have hino : inoE L s = ino := by simp [inoE, hat]
    rw [hino] at hK
    obtain ⟨hlt, _⟩ := List.getElem?_eq_some_iff.1 hat
    obtain ⟨u, g1, g2⟩ := h1.rep
    obtain ⟨i, hi⟩ : ∃ i, i = posE s L := ⟨_, rfl⟩
    rw [← hi] at hat hlt ⊢
    have hiI : (i : Int) < (L.length : Int) := by omega
    obtain ⟨b, o, cp, cs, ro, ea, hb, hget, hrl, hrow, hbd⟩ := (g2.slw (rowE_two _)).1.at (i := i) (r := rowE ⟨s, ino⟩) (by simp [hat])
    rw [List.length_map] at ea
    rw [ea] at g1
    have r1 := row_get2 hrow 1 (by omega)
    simp only [rowE, List.getElem?_cons_succ, List.getElem?_cons_zero] at r1
    simp -implicitDefEqProofs [J0,J1,J2,J3,J4,J5,J6,J7,J8,J9,Ja,Jb,Jc,Jd,Je,Jf,Jg,Jh,Ji,Jj,Jk,Jl,Jm,Jn,Jo,Jp,Jq,Jr,Js,Jt,Ju,Jv,Jw,Jx,Jy,Jz,JA,JB,JC,JD,JE,JF,JG,JH,JI,JJ,JK,JL,JM,JN,JO,JP,stillI,IOp.kind,JQ,JR,JS,JT,JU,JV,JW,JX,JY,JZ,Y0,Y1,Y2,Y3,Y4,Y5,Y6,Y7,Y8,Y9,Ya,Yb,Yc,Yd,Ye,Yf,Yg,Yh,Yi,Yj,Yk,Yl,Ym,Yn,ial,Yo,Yp,Yq,Yr,Ys,Yt,Yu,Yv,ires,iresL,ires1,Yw,Yx,Yy,Yz,YA,YB,bin2,YC,YD,YE,YF,YG,YH,YI,YJ,YK,YL,YM,YN,YO,YP,YQ,YR,un1,shOk,eqL,eq1,fillL,putAt,IHeap.load1,IHeap.loadL,IHeap.storeL,YS,YT,YU,YV,YW,YX,YY,YZ,B0,B1,B2,B3,B4,B5,B6,B7,B8,B9,Ba,Bb,Bc,Bd,Be,Bf,Bg,Bh,Bi,Bj,Bk,Bl,Bm, nilOf, g1, hlt, hiI, hget, r1]
    exact hK _ k1

include hc in
theorem DLen_ok {p q : Nat} {L : List EntD} (h : IsD H p q L) (hK : K (.int .i64 (L.length : Nat)) H) : c.C (c.F n_dirs_Dir_Len) [.pointer (some ⟨p, 0, none⟩)] H K := by
  refine c.enter hc.dirs_Dir_Len rfl ?_
  obtain ⟨u, g1, g2⟩ := h.rep
  obtain ⟨a, cap, eu⟩ := g2.lenv
  rw [List.length_map] at eu
  rw [eu] at g1
  simp -implicitDefEqProofs [J0,J1,J2,J3,J4,J5,J6,J7,J8,J9,Ja,Jb,Jc,Jd,Je,Jf,Jg,Jh,Ji,Jj,Jk,Jl,Jm,Jn,Jo,Jp,Jq,Jr,Js,Jt,Ju,Jv,Jw,Jx,Jy,Jz,JA,JB,JC,JD,JE,JF,JG,JH,JI,JJ,JK,JL,JM,JN,JO,JP,stillI,IOp.kind,JQ,JR,JS,JT,JU,JV,JW,JX,JY,JZ,Y0,Y1,Y2,Y3,Y4,Y5,Y6,Y7,Y8,Y9,Ya,Yb,Yc,Yd,Ye,Yf,Yg,Yh,Yi,Yj,Yk,Yl,Ym,Yn,ial,Yo,Yp,Yq,Yr,Ys,Yt,Yu,Yv,ires,iresL,ires1,Yw,Yx,Yy,Yz,YA,YB,bin2,YC,YD,YE,YF,YG,YH,YI,YJ,YK,YL,YM,YN,YO,YP,YQ,YR,un1,shOk,eqL,eq1,fillL,putAt,IHeap.load1,IHeap.loadL,IHeap.storeL,YS,YT,YU,YV,YW,YX,YY,YZ,B0,B1,B2,B3,B4,B5,B6,B7,B8,B9,Ba,Bb,Bc,Bd,Be,Bf,Bg,Bh,Bi,Bj,Bk,Bl,Bm, c_dirs_Dir_Len, nilOf, g1]
  exact hK

end
end Go.Proofs.YtfegliplajdgmaaI
