/- slices.Insert, of rows of four cells: what it does, its slice seen whole. -/
import Derived.Test.YtdfjicnjcibdaaaSlW
import Derived.Test.YtdfjicnjcibdaaaPartUse
namespace Go.Proofs.YtdfjicnjcibdaaaI
set_option linter.unusedSimpArgs false
set_option linter.unusedVariables false
open Go

theorem put_end {L F new : List Value} (h : L.take F.length = F) (hl : F.length + new.length ≤ L.length) : ((putAt L F.length new).take (F.length + new.length)) = F ++ new := by
  unfold putAt
  rw [h, List.take_append_of_le_length (by simp)]
  rw [List.take_of_length_le (by simp)]
theorem put_len {L vs : List Value} {o : Nat} (h : o + vs.length ≤ L.length) : (putAt L o vs).length = L.length := by
  unfold putAt
  simp only [List.length_append, List.length_take, List.length_drop]; omega
/-- A row put in between. -/
theorem put_mid {L A B new : List Value} (h : L.take (A.length + B.length) = A ++ B) (hl : A.length + new.length + B.length ≤ L.length) :
    (putAt (putAt L (A.length + new.length) B) A.length new).take (A.length + new.length + B.length) = A ++ new ++ B := by
  have hA : L.take A.length = A := by
    have := congrArg (List.take A.length) h
    rwa [List.take_take, Nat.min_eq_left (by omega), List.take_left] at this
  have h1 : (putAt L (A.length + new.length) B).take A.length = A := by
    unfold putAt
    rw [List.append_assoc, List.take_append_of_le_length (by rw [List.length_take]; omega), List.take_take, Nat.min_eq_left (by omega), hA]
  have h2 : (putAt L (A.length + new.length) B).drop (A.length + new.length) = B ++ L.drop (A.length + new.length + B.length) := by
    unfold putAt
    rw [List.append_assoc, List.drop_append_of_le_length (by rw [List.length_take]; omega), List.drop_of_length_le (by rw [List.length_take]; omega), List.nil_append]
  unfold putAt at h1 h2 ⊢
  rw [h1, h2]
  rw [← List.append_assoc, List.take_append_of_le_length (by simp only [List.length_append]; omega), List.take_of_length_le (by simp only [List.length_append]; omega)]

section
variable (c : Ctx) (hc : HasUse c) (hO : ∀ (H : IHeap) (K : Value → IHeap → Prop) (b1 o1 n1 c1 b2 o2 n2 c2 : Nat) (cs1 cs2 : List Value), b1 ≠ b2 → 0 < n1 → 0 < n2 → H.get b1 = some (.cells cs1 false) → H.get b2 = some (.cells cs2 false) → o1 ≤ cs1.length → cs2 ≠ [] → K (.bool false) H →
  c.C (c.F 257) [.slice (some ⟨b1, o1, none⟩) n1 c1, .slice (some ⟨b2, o2, none⟩) n2 c2] H K) {H : IHeap} {K : Value → IHeap → Prop}

include hc in
theorem Ins_nil {vb : Nat} {new : List Value} (hv : H.get vb = some (.cells new false)) (hn : new.length = 4) (hK : K (.slice (some ⟨H.next, 0, none⟩) 1 (UNK + 4)) (H.alloc (.cells new false))) :
    c.C (c.F n_slices_Insert_api_Use_api_Use) [.slice none 0 0, .int .i64 0, .slice (some ⟨vb, 0, none⟩) 1 1] H K := by
  refine c.enter hc.slices_Insert_api_Use_api_Use rfl ?_
  have s0 : sliceI H 4 none 0 0 0 0 none = some (.slice none 0 0) := by simp [sliceI, UNK]
  have f1 : firstI H 4 1 (.slice (some ⟨vb, 0, none⟩) 1 1) = some new := by simp [firstI, IHeap.loadL, hv, hn, List.take_of_length_le]
  have a1 : appendI H 4 32 (.slice none 0 0) 1 new = some (.slice (some ⟨H.next, 0, none⟩) 1 (UNK + 4), H.alloc (.cells new false)) := by simp [appendI, hn]
  simp -implicitDefEqProofs [J0,J1,J2,J3,J4,J5,J6,J7,J8,J9,Ja,Jb,Jc,Jd,Je,Jf,Jg,Jh,Ji,Jj,Jk,Jl,Jm,Jn,Jo,Jp,Jq,Jr,Js,Jt,Ju,Jv,Jw,Jx,Jy,Jz,JA,JB,JC,JD,JE,JF,JG,JH,JI,JJ,JK,JL,JM,JN,JO,JP,stillI,IOp.kind,JQ,JR,JS,JT,JU,JV,JW,JX,JY,JZ,Y0,Y1,Y2,Y3,Y4,Y5,Y6,Y7,Y8,Y9,Ya,Yb,Yc,Yd,Ye,Yf,Yg,Yh,Yi,Yj,Yk,Yl,Ym,Yn,ial,Yo,Yp,Yq,Yr,Ys,Yt,Yu,Yv,ires,iresL,ires1,Yw,Yx,Yy,Yz,YA,YB,bin2,YC,YD,YE,YF,YG,YH,YI,YJ,YK,YL,YM,YN,YO,YP,YQ,YR,un1,shOk,eqL,eq1,fillL,putAt,IHeap.load1,IHeap.loadL,IHeap.storeL,YS,YT,YU,YV,YW,YX,YY,YZ,B0,B1,B2,B3,B4,B5,B6,B7,B8,B9,Ba,Bb,Bc,Bd,Be,Bf,Bg,Bh,Bi,Bj,Bk,Bl,Bm, c_slices_Insert_api_Use_api_Use, boundsI, natI, s0, lenOfI, f1, a1]
  exact hK

include hc hO in
theorem Ins_known {b cp n i vb : Nat} {L A B new : List Value} (hb : H.get b = some (.cells L false)) (hv : H.get vb = some (.cells new false)) (hne : vb ≠ b) (hvl : vb < H.next) (hbl : b < H.next) (hn : new.length = 4) (hn1 : new.all one1 = true)
    (hA : A.length = i * 4) (hB : B.length = (n - i) * 4) (hin : i ≤ n) (hnl : n ≤ 1000000) (hcp : n ≤ cp) (hcu : cp < UNK) (hL : L.take (A.length + B.length) = A ++ B) (hroom : cp = 0 ∨ cp * 4 ≤ L.length) (hone : (A ++ B).all one1 = true)
    (hK1 : ∀ L' H', n + 1 ≤ cp → L'.length = L.length → L'.take ((n + 1) * 4) = A ++ new ++ B → H'.next = H.next → H'.get b = some (.cells L' false) → (∀ x, x ≠ b → H'.get x = H.get x) → K (.slice (some ⟨b, 0, none⟩) (n + 1) cp) H')
    (hK2 : ∀ H', H.le H' → H'.next = H.next + 1 → H'.get H.next = some (.cells (A ++ new ++ B) false) → K (.slice (some ⟨H.next, 0, none⟩) (n + 1) (UNK + 4)) H') :
    c.C (c.F n_slices_Insert_api_Use_api_Use) [.slice (some ⟨b, 0, none⟩) n cp, .int .i64 i, .slice (some ⟨vb, 0, none⟩) 1 1] H K := by
  refine c.enter hc.slices_Insert_api_Use_api_Use rfl ?_
  have hAB : A.length + B.length = n * 4 := by rw [hA, hB]; omega
  obtain ⟨x0, hx0⟩ : ∃ x, sliceI H 4 (some ⟨b, 0, none⟩) n cp i n none = some x := by
    unfold sliceI
    rw [if_pos hcu, if_pos (by simp; omega)]
    exact ⟨_, rfl⟩
  have hi0 : (0 : Int) ≤ (i : Int) := by omega
  have f1 : firstI H 4 1 (.slice (some ⟨vb, 0, none⟩) 1 1) = some new := by simp [firstI, IHeap.loadL, hv, hn, List.take_of_length_le]
  by_cases hie : i = n
  · subst hie
    have hBn : B = [] := List.length_eq_zero_iff.1 (by rw [hB]; omega)
    subst hBn
    rw [List.append_nil] at hL hone hK1 hK2
    rw [List.length_nil, Nat.add_zero] at hL hAB
    by_cases hr : i + 1 ≤ cp
    · have hcl : cp * 4 ≤ L.length := hroom.resolve_left (by omega)
      obtain ⟨L1, hL1⟩ : ∃ L1, L1 = putAt L (i * 4) new := ⟨_, rfl⟩
      have a1 : appendI H 4 32 (.slice (some ⟨b, 0, none⟩) i cp) 1 new = some (.slice (some ⟨b, 0, none⟩) (i + 1) cp, H.set b (.cells L1 false)) := by
        simp only [appendI, IHeap.storeL, hb]
        rw [if_pos ⟨by omega, by omega, by omega, by omega, by omega⟩, if_neg (by omega), if_pos ⟨hcu, hr⟩, if_pos ⟨by omega, hn1⟩, hL1]
        simp
      simp -implicitDefEqProofs [J0,J1,J2,J3,J4,J5,J6,J7,J8,J9,Ja,Jb,Jc,Jd,Je,Jf,Jg,Jh,Ji,Jj,Jk,Jl,Jm,Jn,Jo,Jp,Jq,Jr,Js,Jt,Ju,Jv,Jw,Jx,Jy,Jz,JA,JB,JC,JD,JE,JF,JG,JH,JI,JJ,JK,JL,JM,JN,JO,JP,stillI,IOp.kind,JQ,JR,JS,JT,JU,JV,JW,JX,JY,JZ,Y0,Y1,Y2,Y3,Y4,Y5,Y6,Y7,Y8,Y9,Ya,Yb,Yc,Yd,Ye,Yf,Yg,Yh,Yi,Yj,Yk,Yl,Ym,Yn,ial,Yo,Yp,Yq,Yr,Ys,Yt,Yu,Yv,ires,iresL,ires1,Yw,Yx,Yy,Yz,YA,YB,bin2,YC,YD,YE,YF,YG,YH,YI,YJ,YK,YL,YM,YN,YO,YP,YQ,YR,un1,shOk,eqL,eq1,fillL,putAt,IHeap.load1,IHeap.loadL,IHeap.storeL,YS,YT,YU,YV,YW,YX,YY,YZ,B0,B1,B2,B3,B4,B5,B6,B7,B8,B9,Ba,Bb,Bc,Bd,Be,Bf,Bg,Bh,Bi,Bj,Bk,Bl,Bm, c_slices_Insert_api_Use_api_Use, boundsI, natI, hx0, lenOfI, f1, a1]
      refine hK1 L1 _ hr (by rw [hL1]; exact put_len (by omega)) ?_ rfl (by rw [YT, if_pos rfl]) fun x hx => by rw [YT, if_neg hx]
      have := put_end (L := L) (F := A) (new := new) hL (by omega)
      rw [hA, hn] at this
      rw [show (i + 1) * 4 = i * 4 + 4 by omega, hL1]
      exact this
    · have f2 : firstI H 4 i (.slice (some ⟨b, 0, none⟩) i cp) = some A := by
        simp only [firstI, IHeap.loadL, hb]
        by_cases hz : i * 4 = 0
        · rw [if_pos hz]
          have : A = [] := List.length_eq_zero_iff.1 (by rw [hA]; exact hz)
          rw [this]
        · rw [if_neg hz, if_pos (by have := congrArg List.length hL; rw [List.length_take] at this; omega), List.drop_zero, ← hA, hL]
      have a1 : appendI H 4 32 (.slice (some ⟨b, 0, none⟩) i cp) 1 new = some (.slice (some ⟨H.next, 0, none⟩) (i + 1) (UNK + 4), H.alloc (.cells (A ++ new) false)) := by
        simp only [appendI, f2]
        rw [if_pos ⟨by omega, by omega, by omega, by omega, by omega⟩, if_neg (by omega), if_neg (by omega), if_pos hcu]
      simp -implicitDefEqProofs [J0,J1,J2,J3,J4,J5,J6,J7,J8,J9,Ja,Jb,Jc,Jd,Je,Jf,Jg,Jh,Ji,Jj,Jk,Jl,Jm,Jn,Jo,Jp,Jq,Jr,Js,Jt,Ju,Jv,Jw,Jx,Jy,Jz,JA,JB,JC,JD,JE,JF,JG,JH,JI,JJ,JK,JL,JM,JN,JO,JP,stillI,IOp.kind,JQ,JR,JS,JT,JU,JV,JW,JX,JY,JZ,Y0,Y1,Y2,Y3,Y4,Y5,Y6,Y7,Y8,Y9,Ya,Yb,Yc,Yd,Ye,Yf,Yg,Yh,Yi,Yj,Yk,Yl,Ym,Yn,ial,Yo,Yp,Yq,Yr,Ys,Yt,Yu,Yv,ires,iresL,ires1,Yw,Yx,Yy,Yz,YA,YB,bin2,YC,YD,YE,YF,YG,YH,YI,YJ,YK,YL,YM,YN,YO,YP,YQ,YR,un1,shOk,eqL,eq1,fillL,putAt,IHeap.load1,IHeap.loadL,IHeap.storeL,YS,YT,YU,YV,YW,YX,YY,YZ,B0,B1,B2,B3,B4,B5,B6,B7,B8,B9,Ba,Bb,Bc,Bd,Be,Bf,Bg,Bh,Bi,Bj,Bk,Bl,Bm, c_slices_Insert_api_Use_api_Use, boundsI, natI, hx0, lenOfI, f1, a1]
      exact hK2 _ (H.le_alloc _) rfl (by rw [YS, if_pos rfl])
  · have hilt : i < n := by omega
    have hcl : cp * 4 ≤ L.length := hroom.resolve_left (by omega)
    have hieI : ¬ (i : Int) = (n : Int) := by omega
    have w1 : IntKind.i64.wrap ((n : Int) + 1) = (n : Int) + 1 := wrap64 (by omega) (by omega)
    have w2 : IntKind.i64.wrap ((i : Int) + 1) = (i : Int) + 1 := wrap64 (by omega) (by omega)
    have q1 : (0 : Int) ≤ (n : Int) + 1 := by omega
    have q2 : (0 : Int) ≤ (i : Int) + 1 := by omega
    have t1 : ((n : Int) + 1).toNat = n + 1 := by omega
    have t2 : ((i : Int) + 1).toNat = i + 1 := by omega
    have hLn : n * 4 ≤ L.length := by omega
    have hLA : (L.take A.length) = A := by
      have := congrArg (List.take A.length) hL
      rwa [List.take_take, Nat.min_eq_left (by omega), List.take_left] at this
    have hLB : (L.drop (i * 4)).take ((n - i) * 4) = B := by
      have := congrArg (List.drop A.length) hL
      rw [List.drop_left, List.drop_take, Nat.add_sub_cancel_left, hA, hB] at this
      exact this
    have hBn : 0 < (n - i) * 4 := by omega
    have hn1' : ∀ x ∈ new, one1 x = true := List.all_eq_true.1 hn1
    have hnn : ¬ new = [] := by intro e; rw [e] at hn; simp at hn
    have hBnn : ¬ B = [] := by intro e; rw [e] at hB; simp at hB; omega
    have hB1 : B.all one1 = true := by rw [List.all_append, Bool.and_eq_true] at hone; exact hone.2
    have hB1' : ∀ x ∈ B, one1 x = true := List.all_eq_true.1 hB1
    by_cases hr : n + 1 ≤ cp
    · have hrI : ¬ (cp : Int) < (n : Int) + 1 := by omega
      have s60 : sliceI H 4 (some ⟨b, 0, none⟩) n cp 0 (n + 1) none = some (.slice (some ⟨b, 0, none⟩) (n + 1) cp) := by
        unfold sliceI
        rw [if_pos hcu, if_pos (by simp; omega)]
        simp only [Option.getD_none, Nat.sub_zero]
        rw [if_neg (by omega)]
        simp [Addr.add]
      have sI : ∀ (X : IHeap) (k : Nat), k ≤ n → sliceI X 4 (some ⟨b, 0, none⟩) (n + 1) cp k (n + 1) none = some (.slice (some ⟨b, k * 4, none⟩) (n + 1 - k) (cp - k)) := by
        intro X k hk
        unfold sliceI
        rw [if_pos hcu, if_pos (by simp; omega)]
        simp only [Option.getD_none]
        rw [if_neg (by omega)]
        simp only [addr_add, Nat.zero_add]
      have s66 := sI H (i + 1) (by omega)
      have s76 := sI H i (by omega)
      have e1 : n + 1 - (i + 1) = n - i := by omega
      rw [e1] at s66
      have ii : i ≤ n + 1 := by omega
      have ii2 : i + 1 ≤ n + 1 := by omega
      have m1 : Nat.min (n + 1 - i) (n - i) = n - i := Nat.min_eq_right (by omega)
      have m2 : Nat.min 1 (n + 1 - i) = 1 := Nat.min_eq_left (by omega)
      have m1' : min (n + 1 - i) (n - i) = n - i := Nat.min_eq_right (by omega)
      have m2' : min 1 (n + 1 - i) = 1 := Nat.min_eq_left (by omega)
      have fB : firstI H 4 (n - i) (.slice (some ⟨b, i * 4, none⟩) (n + 1 - i) (cp - i)) = some B := by
        simp only [firstI, IHeap.loadL, hb]
        rw [if_neg (by omega), if_pos (by omega), hLB]
      have hBl : ¬ B.length = 0 := by omega
      have hnl0 : ¬ new.length = 0 := by omega
      obtain ⟨L1, hL1⟩ : ∃ L1, L1 = putAt L ((i + 1) * 4) B := ⟨_, rfl⟩
      have l1 : L1.length = L.length := by rw [hL1]; exact put_len (by omega)
      have st1 : H.storeL b ((i + 1) * 4) B = some (H.set b (.cells L1 false)) := by
        simp only [IHeap.storeL, hb]
        rw [if_pos ⟨by omega, hB1⟩, hL1]
      obtain ⟨H1, hH1⟩ : ∃ X : IHeap, X = H.set b (.cells L1 false) := ⟨_, rfl⟩
      rw [← hH1] at st1
      have g1 : H1.get b = some (.cells L1 false) := by rw [hH1, YT, if_pos rfl]
      have gv : H1.get vb = some (.cells new false) := by rw [hH1, YT, if_neg hne]; exact hv
      have f2 : firstI H1 4 1 (.slice (some ⟨vb, 0, none⟩) 1 1) = some new := by simp [firstI, IHeap.loadL, gv, hn, List.take_of_length_le]
      have s80 := sI H1 i (by omega)
      obtain ⟨L2, hL2⟩ : ∃ L2, L2 = putAt L1 (i * 4) new := ⟨_, rfl⟩
      have st2 : H1.storeL b (i * 4) new = some (H1.set b (.cells L2 false)) := by
        simp only [IHeap.storeL, g1]
        rw [if_pos ⟨by omega, hn1⟩, hL2]
      simp -implicitDefEqProofs [J0,J1,J2,J3,J4,J5,J6,J7,J8,J9,Ja,Jb,Jc,Jd,Je,Jf,Jg,Jh,Ji,Jj,Jk,Jl,Jm,Jn,Jo,Jp,Jq,Jr,Js,Jt,Ju,Jv,Jw,Jx,Jy,Jz,JA,JB,JC,JD,JE,JF,JG,JH,JI,JJ,JK,JL,JM,JN,JO,JP,stillI,IOp.kind,JQ,JR,JS,JT,JU,JV,JW,JX,JY,JZ,Y0,Y1,Y2,Y3,Y4,Y5,Y6,Y7,Y8,Y9,Ya,Yb,Yc,Yd,Ye,Yf,Yg,Yh,Yi,Yj,Yk,Yl,Ym,Yn,ial,Yo,Yp,Yq,Yr,Ys,Yt,Yu,Yv,ires,iresL,ires1,Yw,Yx,Yy,Yz,YA,YB,bin2,YC,YD,YE,YF,YG,YH,YI,YJ,YK,YL,YM,YN,YO,YP,YQ,YR,un1,shOk,eqL,eq1,fillL,putAt,IHeap.load1,IHeap.loadL,IHeap.storeL,YS,YT,YU,YV,YW,YX,YY,YZ,B0,B1,B2,B3,B4,B5,B6,B7,B8,B9,Ba,Bb,Bc,Bd,Be,Bf,Bg,Bh,Bi,Bj,Bk,Bl,Bm, c_slices_Insert_api_Use_api_Use, boundsI, natI, hin, hx0, lenOfI, hie, hieI, w1, w2, hcu, hrI, q1, q2, t1, t2, s60, s66, ii, ii2]
      refine call_of (hO _ _ _ _ _ _ _ _ _ _ _ _ hne (by omega) (by omega) hv hb (by omega) (by intro e; rw [e] at hcl; simp at hcl; omega) ?_)
      have k1 : (i + 1) * 4 + B.length ≤ L.length := by omega
      have k2 : i * 4 + new.length ≤ L1.length := by omega
      have fo1 : List.take ((i + 1) * 4) L ++ (B ++ List.drop ((i + 1) * 4 + B.length) L) = L1 := by rw [hL1, putAt, List.append_assoc]
      have fo2 : List.take (i * 4) L1 ++ (new ++ List.drop (i * 4 + new.length) L1) = L2 := by rw [hL2, putAt, List.append_assoc]
      simp -implicitDefEqProofs [J0,J1,J2,J3,J4,J5,J6,J7,J8,J9,Ja,Jb,Jc,Jd,Je,Jf,Jg,Jh,Ji,Jj,Jk,Jl,Jm,Jn,Jo,Jp,Jq,Jr,Js,Jt,Ju,Jv,Jw,Jx,Jy,Jz,JA,JB,JC,JD,JE,JF,JG,JH,JI,JJ,JK,JL,JM,JN,JO,JP,stillI,IOp.kind,JQ,JR,JS,JT,JU,JV,JW,JX,JY,JZ,Y0,Y1,Y2,Y3,Y4,Y5,Y6,Y7,Y8,Y9,Ya,Yb,Yc,Yd,Ye,Yf,Yg,Yh,Yi,Yj,Yk,Yl,Ym,Yn,ial,Yo,Yp,Yq,Yr,Ys,Yt,Yu,Yv,ires,iresL,ires1,Yw,Yx,Yy,Yz,YA,YB,bin2,YC,YD,YE,YF,YG,YH,YI,YJ,YK,YL,YM,YN,YO,YP,YQ,YR,un1,shOk,eqL,eq1,fillL,putAt,IHeap.load1,IHeap.loadL,IHeap.storeL,YS,YT,YU,YV,YW,YX,YY,YZ,B0,B1,B2,B3,B4,B5,B6,B7,B8,B9,Ba,Bb,Bc,Bd,Be,Bf,Bg,Bh,Bi,Bj,Bk,Bl,Bm, boundsI, natI, w2, q2, t2, s66, s76, ii, ii2, lenOfI, m1, m1', fB, hBnn, hb, k1, hB1, fo1, ← hH1, s80, m2, m2', f2, hnn, g1, k2, hn1, fo2, -List.all_eq_true]
      have nx : (H1.set b (.cells L2 false)).next = H.next := by rw [hH1]; rfl
      refine hK1 L2 _ hr (by rw [hL2, put_len (by omega), l1]) ?_ nx (by rw [YT, if_pos rfl]) fun x hx => by rw [YT, if_neg hx, hH1, YT, if_neg hx]
      have := put_mid (L := L) (A := A) (B := B) (new := new) hL (by omega)
      rw [hA, hn, hB, show i * 4 + 4 = (i + 1) * 4 by omega, ← hL1, ← hL2] at this
      rw [show (n + 1) * 4 = (i + 1) * 4 + (n - i) * 4 by omega]
      exact this
    · have hrI : (cp : Int) < (n : Int) + 1 := by omega
      have w3 : IntKind.i64.wrap ((n : Int) + 1 - (i : Int)) = (n : Int) + 1 - (i : Int) := wrap64 (by omega) (by omega)
      obtain ⟨kk, hkk⟩ : ∃ kk, kk = n + 1 - i := ⟨_, rfl⟩
      have c1 : (0 : Int) ≤ (n : Int) + 1 - (i : Int) := by omega
      have c2 : ((n : Int) + 1 - (i : Int)) * 32 ≤ 17592186044416 := by omega
      have c3 : (n : Int) + 1 - (i : Int) ≤ 17592186044416 := by omega
      have c4 : ((n : Int) + 1 - (i : Int)).toNat = kk := by omega
      have s34 : sliceI H 4 (some ⟨b, 0, none⟩) n cp 0 i none = some (.slice (some ⟨b, 0, none⟩) i cp) := by
        unfold sliceI
        rw [if_pos hcu, if_pos (by simp; omega)]
        simp only [Option.getD_none, Nat.sub_zero]
        rw [if_neg (by omega)]
        simp [Addr.add]
      obtain ⟨Z, hZ⟩ : ∃ Z, Z = (Builtin.zeroCells #[Value.int .i64 0, .int .i64 0, .int .i64 0, .int .i64 0] kk).toList := ⟨_, rfl⟩
      have hZl : Z.length = kk * 4 := by rw [hZ, Array.length_toList, zeroCells_size]; rfl
      have fA : firstI H 4 i (.slice (some ⟨b, 0, none⟩) i cp) = some A := by
        simp only [firstI, IHeap.loadL, hb]
        by_cases hz : i * 4 = 0
        · rw [if_pos hz]
          have : A = [] := List.length_eq_zero_iff.1 (by rw [hA]; exact hz)
          rw [this]
        · rw [if_neg hz, if_pos (by omega), List.drop_zero, ← hA, hLA]
      obtain ⟨H1, hH1⟩ : ∃ X : IHeap, X = H.alloc (.cells (A ++ Z) false) := ⟨_, rfl⟩
      have a1 : appendI H 4 32 (.slice (some ⟨b, 0, none⟩) i cp) kk Z = some (.slice (some ⟨H.next, 0, none⟩) (n + 1) (UNK + 4), H1) := by
        simp only [appendI, fA]
        rw [if_pos ⟨by omega, by omega, by omega, by omega, by omega⟩, if_neg (by omega), if_neg (by omega), if_pos hcu, hH1, show i + kk = n + 1 by omega]
      have g1 : H1.get H.next = some (.cells (A ++ Z) false) := by rw [hH1, YS, if_pos rfl]
      have gb1 : H1.get b = some (.cells L false) := by rw [hH1, YS, if_neg (by omega)]; exact hb
      have gv1 : H1.get vb = some (.cells new false) := by rw [hH1, YS, if_neg (by omega)]; exact hv
      have sG : ∀ (X : IHeap) (k : Nat), k ≤ n → sliceI X 4 (some ⟨H.next, 0, none⟩) (n + 1) (UNK + 4) k (n + 1) none = some (.slice (some ⟨H.next, k * 4, none⟩) (n + 1 - k) (UNK + 4)) := by
        intro X k hk
        unfold sliceI
        rw [if_neg (by omega)]
        simp
      have s43 := sG H1 i (by omega)
      have f1' : firstI H1 4 1 (.slice (some ⟨vb, 0, none⟩) 1 1) = some new := by simp [firstI, IHeap.loadL, gv1, hn, List.take_of_length_le]
      obtain ⟨L1, hL1⟩ : ∃ L1, L1 = putAt (A ++ Z) (i * 4) new := ⟨_, rfl⟩
      have l1 : L1.length = (n + 1) * 4 := by rw [hL1, put_len (by rw [List.length_append]; omega), List.length_append]; omega
      obtain ⟨H2, hH2⟩ : ∃ X : IHeap, X = H1.set H.next (.cells L1 false) := ⟨_, rfl⟩
      have st1 : H1.storeL H.next (i * 4) new = some H2 := by
        simp only [IHeap.storeL, g1]
        rw [if_pos ⟨by rw [List.length_append]; omega, hn1⟩, hH2, hL1]
      have g2 : H2.get H.next = some (.cells L1 false) := by rw [hH2, YT, if_pos rfl]
      have gb2 : H2.get b = some (.cells L false) := by rw [hH2, YT, if_neg (by omega)]; exact gb1
      have s50 := sG H2 (i + 1) (by omega)
      rw [show n + 1 - (i + 1) = n - i by omega] at s50
      have s53 : sliceI H2 4 (some ⟨b, 0, none⟩) n cp i n none = some (.slice (some ⟨b, i * 4, none⟩) (n - i) (cp - i)) := by
        unfold sliceI
        rw [if_pos hcu, if_pos (by simp; omega)]
        simp only [Option.getD_none]
        rw [if_neg (by omega)]
        simp only [addr_add, Nat.zero_add]
      have fB : firstI H2 4 (n - i) (.slice (some ⟨b, i * 4, none⟩) (n - i) (cp - i)) = some B := by
        simp only [firstI, IHeap.loadL, gb2]
        rw [if_neg (by omega), if_pos (by omega), hLB]
      obtain ⟨L2, hL2⟩ : ∃ L2, L2 = putAt L1 ((i + 1) * 4) B := ⟨_, rfl⟩
      have st2 : H2.storeL H.next ((i + 1) * 4) B = some (H2.set H.next (.cells L2 false)) := by
        simp only [IHeap.storeL, g2]
        rw [if_pos ⟨by omega, hB1⟩, hL2]
      have ii : i ≤ n + 1 := by omega
      have ii2 : i + 1 ≤ n + 1 := by omega
      have m1 : Nat.min (n - i) (n - i) = n - i := Nat.min_self _
      have m2 : Nat.min 1 (n + 1 - i) = 1 := Nat.min_eq_left (by omega)
      have m2' : min 1 (n + 1 - i) = 1 := Nat.min_eq_left (by omega)
      have hBl : ¬ B.length = 0 := by omega
      have hnl0 : ¬ new.length = 0 := by omega
      have hE : L2 = A ++ new ++ B := by
        have e1 : L1 = A ++ new ++ Z.drop 4 := by
          rw [hL1]
          unfold putAt
          rw [← hA, List.take_left, List.drop_append, List.drop_of_length_le (by omega), hn, Nat.add_sub_cancel_left]
          simp
        have l3 : L2.length = L1.length := by rw [hL2]; exact put_len (by omega)
        rw [hL2]
        unfold putAt
        have e2 : (i + 1) * 4 = (A ++ new).length := by rw [List.length_append]; omega
        rw [List.drop_of_length_le (by omega), List.append_nil, e2]
        conv => lhs; rw [e1]
        rw [List.take_left]
      have c1' : (i : Int) ≤ (n : Int) + 1 := by omega
      have hAZ : (A ++ Z).length = (n + 1) * 4 := by rw [List.length_append]; omega
      obtain ⟨Y, hY⟩ : ∃ Y, Y = A ++ Z := ⟨_, rfl⟩
      rw [← hY] at g1 hL1 hAZ
      have k1 : i * 4 + new.length ≤ Y.length := by omega
      have k2 : (i + 1) * 4 + B.length ≤ L1.length := by omega
      have fo1 : List.take (i * 4) Y ++ (new ++ List.drop (i * 4 + new.length) Y) = L1 := by rw [hL1, putAt, List.append_assoc]
      have fo2 : List.take ((i + 1) * 4) L1 ++ (B ++ List.drop ((i + 1) * 4 + B.length) L1) = L2 := by rw [hL2, putAt, List.append_assoc]
      simp -implicitDefEqProofs [J0,J1,J2,J3,J4,J5,J6,J7,J8,J9,Ja,Jb,Jc,Jd,Je,Jf,Jg,Jh,Ji,Jj,Jk,Jl,Jm,Jn,Jo,Jp,Jq,Jr,Js,Jt,Ju,Jv,Jw,Jx,Jy,Jz,JA,JB,JC,JD,JE,JF,JG,JH,JI,JJ,JK,JL,JM,JN,JO,JP,stillI,IOp.kind,JQ,JR,JS,JT,JU,JV,JW,JX,JY,JZ,Y0,Y1,Y2,Y3,Y4,Y5,Y6,Y7,Y8,Y9,Ya,Yb,Yc,Yd,Ye,Yf,Yg,Yh,Yi,Yj,Yk,Yl,Ym,Yn,ial,Yo,Yp,Yq,Yr,Ys,Yt,Yu,Yv,ires,iresL,ires1,Yw,Yx,Yy,Yz,YA,YB,bin2,YC,YD,YE,YF,YG,YH,YI,YJ,YK,YL,YM,YN,YO,YP,YQ,YR,un1,shOk,eqL,eq1,fillL,putAt,IHeap.load1,IHeap.loadL,IHeap.storeL,YS,YT,YU,YV,YW,YX,YY,YZ,B0,B1,B2,B3,B4,B5,B6,B7,B8,B9,Ba,Bb,Bc,Bd,Be,Bf,Bg,Bh,Bi,Bj,Bk,Bl,Bm, c_slices_Insert_api_Use_api_Use, boundsI, natI, hin, hx0, lenOfI, hie, hieI, w1, w2, w3, hcu, hrI, s34, c1, c1', c2, c3, c4, ← hZ, a1, s43, ii, q2, t2, m2, m2', f1', hnn, g1, k1, hn1, fo1, ← hH2, ii2, s50, s53, m1, fB, hBnn, g2, k2, hB1, fo2, -List.all_eq_true]
      refine hK2 _ (by rw [hH2, hH1]; exact ((H.le_alloc _).set (Nat.le_refl _) _).set (Nat.le_refl _) _) (by rw [hH2, hH1]; rfl) (by rw [YT, if_pos rfl, hE])

end
end Go.Proofs.YtdfjicnjcibdaaaI
