/- Who is in a group: its deeds. -/
import Derived.Test.YtkphglpmhebglaaMemW
namespace Go.Proofs.YtkphglpmhebglaaI
set_option linter.unusedSimpArgs false
set_option linter.unusedVariables false
open Go

/-- A group, where it stands. -/
structure IsM (H : IHeap) (p q1 q2 : Nat) (m : Mem) : Prop where
  lt : p < H.next
  ok : m.ok
  rep : ∃ cap v2, H.get p = some (.cells [.slice (some ⟨q1, 0, none⟩) m.L.length cap, v2, .int .i64 m.e, .int .i64 m.h, .bool m.f, .int .i64 m.g] false) ∧ ((cap < UNK ∧ m.L.length ≤ cap) ∨ cap = UNK + 1) ∧ Sp H q2 v2 m.S
  lt1 : q1 < H.next
  get1 : H.get q1 = some (.cells (m.L.map iV) false)
  n12 : q1 ≠ q2
  np2 : p ≠ q2
  np1 : p ≠ q1

theorem IsM.le {H H' : IHeap} {p q1 q2 : Nat} {m : Mem} (h : IsM H p q1 q2 m) (hl : H.le H') : IsM H' p q1 q2 m := by
  obtain ⟨cap, v2, h1, h2, h3⟩ := h.rep
  exact ⟨Nat.lt_of_lt_of_le h.lt hl.next, h.ok, ⟨cap, v2, (hl.get p h.lt).trans h1, h2, h3.le hl⟩, Nat.lt_of_lt_of_le h.lt1 hl.next, (hl.get q1 h.lt1).trans h.get1, h.n12, h.np2, h.np1⟩
theorem IsM.servers {H : IHeap} {p q1 q2 : Nat} {m : Mem} (h : IsM H p q1 q2 m) {cap : Nat} (hc : (cap < UNK ∧ m.L.length ≤ cap) ∨ cap = UNK + 1) : SlW H 1 (.slice (some ⟨q1, 0, none⟩) m.L.length cap) (m.L.map rowI) := by
  refine ⟨slr_ints h.lt1 h.get1 (by rw [List.drop_zero, List.take_of_length_le (by simp)]) (by simp), _, _, by rw [List.length_map], .inr ⟨_, _, rfl⟩, ?_⟩
  rcases hc with ⟨h1, h2⟩ | h1
  · exact .inl ⟨h1, by rw [List.length_map]; exact h2⟩
  · exact .inr ⟨h1, by simp⟩

section
variable (c : Ctx) (hc : HasMembers c) {H : IHeap} {K : Value → IHeap → Prop}

include hc in
theorem group_ok {L S : List Int} {u v : Value} (hu : SlW H 1 u (L.map rowI)) (hv : SlW H 1 v (S.map rowI)) (hS : S.length ≤ 1000000000)
    (hK : ∀ H', H.le H' → K (.bool (decide (2 ≤ L.length) && (decide (L.length ≤ 8) && apart (L ++ S)))) H') : c.C (c.F n_members_group) [u, v] H K := by
  refine c.enter hc.members_group rfl ?_
  have hu' := hu
  have hv' := hv
  obtain ⟨a, cap, rfl⟩ := hu.len
  obtain ⟨a2, cap2, rfl⟩ := hv.len
  simp only [List.length_map] at hu' hv' ⊢
  by_cases h2 : 2 ≤ L.length
  · have h2' : (2 : Int) ≤ (L.length : Int) := by omega
    by_cases h8 : L.length ≤ 8
    · have h8' : (L.length : Int) ≤ 8 := by omega
      simp -implicitDefEqProofs [J0,J1,J2,J3,J4,J5,J6,J7,J8,J9,Ja,Jb,Jc,Jd,Je,Jf,Jg,Jh,Ji,Jj,Jk,Jl,Jm,Jn,Jo,Jp,Jq,Jr,Js,Jt,Ju,Jv,Jw,Jx,Jy,Jz,JA,JB,JC,JD,JE,JF,JG,JH,JI,JJ,JK,JL,JM,JN,JO,JP,stillI,IOp.kind,JQ,JR,JS,JT,JU,JV,JW,JX,JY,JZ,Y0,Y1,Y2,Y3,Y4,Y5,Y6,Y7,Y8,Y9,Ya,Yb,Yc,Yd,Ye,Yf,Yg,Yh,Yi,Yj,Yk,Yl,Ym,Yn,ial,Yo,Yp,Yq,Yr,Ys,Yt,Yu,Yv,ires,iresL,ires1,Yw,Yx,Yy,Yz,YA,YB,bin2,YC,YD,YE,YF,YG,YH,YI,YJ,YK,YL,YM,YN,YO,YP,YQ,YR,un1,shOk,eqL,eq1,fillL,putAt,IHeap.load1,IHeap.loadL,IHeap.storeL,YS,YT,YU,YV,YW,YX,YY,YZ,B0,B1,B2,B3,B4,B5,B6,B7,B8,B9,Ba,Bb,Bc,Bd,Be,Bf,Bg,Bh,Bi,Bj,Bk,Bl,Bm, c_members_group, h2, h2', h8, h8', fillL, putAt]
      have hs : SlW (H.alloc (.cells [.slice a L.length cap, .slice a2 S.length cap2] false)) 1 (.slice (some ⟨H.next, 0, none⟩) 2 2) (([(.slice a L.length cap, L), (.slice a2 S.length cap2, S)] : List (Value × List Int)).map fun p => [p.1]) := by
        refine ⟨⟨_, 2, rfl, fun _ => ⟨H.next, 0, _, false, rfl, by simp [YU], by rw [YS, if_pos rfl], fun i r hr => ?_⟩⟩, _, _, rfl, .inr ⟨_, _, rfl⟩, .inl ⟨by simp [UNK], by simp⟩⟩
        match i, hr with
        | 0, hr => simp at hr; subst hr; simp
        | 1, hr => simp at hr; subst hr; simp
        | n + 2, hr => simp at hr
      refine call_of (apart_ok c hc hs (fun x hx => ?_) (by simp) (fun x hx => ?_) fun H1 h1 => ?_)
      · simp only [List.mem_cons, List.not_mem_nil, or_false] at hx
        rcases hx with rfl | rfl
        · exact hu'.le (H.le_alloc _)
        · exact hv'.le (H.le_alloc _)
      · simp only [List.mem_cons, List.not_mem_nil, or_false] at hx
        rcases hx with rfl | rfl
        · simp only; omega
        · exact hS
      · simp -implicitDefEqProofs [J0,J1,J2,J3,J4,J5,J6,J7,J8,J9,Ja,Jb,Jc,Jd,Je,Jf,Jg,Jh,Ji,Jj,Jk,Jl,Jm,Jn,Jo,Jp,Jq,Jr,Js,Jt,Ju,Jv,Jw,Jx,Jy,Jz,JA,JB,JC,JD,JE,JF,JG,JH,JI,JJ,JK,JL,JM,JN,JO,JP,stillI,IOp.kind,JQ,JR,JS,JT,JU,JV,JW,JX,JY,JZ,Y0,Y1,Y2,Y3,Y4,Y5,Y6,Y7,Y8,Y9,Ya,Yb,Yc,Yd,Ye,Yf,Yg,Yh,Yi,Yj,Yk,Yl,Ym,Yn,ial,Yo,Yp,Yq,Yr,Ys,Yt,Yu,Yv,ires,iresL,ires1,Yw,Yx,Yy,Yz,YA,YB,bin2,YC,YD,YE,YF,YG,YH,YI,YJ,YK,YL,YM,YN,YO,YP,YQ,YR,un1,shOk,eqL,eq1,fillL,putAt,IHeap.load1,IHeap.loadL,IHeap.storeL,YS,YT,YU,YV,YW,YX,YY,YZ,B0,B1,B2,B3,B4,B5,B6,B7,B8,B9,Ba,Bb,Bc,Bd,Be,Bf,Bg,Bh,Bi,Bj,Bk,Bl,Bm]
        have := hK H1 ((H.le_alloc _).trans h1)
        simpa [h2, h8] using this
    · have h8' : ¬ (L.length : Int) ≤ 8 := by omega
      simp -implicitDefEqProofs [J0,J1,J2,J3,J4,J5,J6,J7,J8,J9,Ja,Jb,Jc,Jd,Je,Jf,Jg,Jh,Ji,Jj,Jk,Jl,Jm,Jn,Jo,Jp,Jq,Jr,Js,Jt,Ju,Jv,Jw,Jx,Jy,Jz,JA,JB,JC,JD,JE,JF,JG,JH,JI,JJ,JK,JL,JM,JN,JO,JP,stillI,IOp.kind,JQ,JR,JS,JT,JU,JV,JW,JX,JY,JZ,Y0,Y1,Y2,Y3,Y4,Y5,Y6,Y7,Y8,Y9,Ya,Yb,Yc,Yd,Ye,Yf,Yg,Yh,Yi,Yj,Yk,Yl,Ym,Yn,ial,Yo,Yp,Yq,Yr,Ys,Yt,Yu,Yv,ires,iresL,ires1,Yw,Yx,Yy,Yz,YA,YB,bin2,YC,YD,YE,YF,YG,YH,YI,YJ,YK,YL,YM,YN,YO,YP,YQ,YR,un1,shOk,eqL,eq1,fillL,putAt,IHeap.load1,IHeap.loadL,IHeap.storeL,YS,YT,YU,YV,YW,YX,YY,YZ,B0,B1,B2,B3,B4,B5,B6,B7,B8,B9,Ba,Bb,Bc,Bd,Be,Bf,Bg,Bh,Bi,Bj,Bk,Bl,Bm, c_members_group, h2, h2', h8, h8']
      have := hK H (H.le_refl)
      simpa [h2, h8] using this
  · have h2' : ¬ (2 : Int) ≤ (L.length : Int) := by omega
    simp -implicitDefEqProofs [J0,J1,J2,J3,J4,J5,J6,J7,J8,J9,Ja,Jb,Jc,Jd,Je,Jf,Jg,Jh,Ji,Jj,Jk,Jl,Jm,Jn,Jo,Jp,Jq,Jr,Js,Jt,Ju,Jv,Jw,Jx,Jy,Jz,JA,JB,JC,JD,JE,JF,JG,JH,JI,JJ,JK,JL,JM,JN,JO,JP,stillI,IOp.kind,JQ,JR,JS,JT,JU,JV,JW,JX,JY,JZ,Y0,Y1,Y2,Y3,Y4,Y5,Y6,Y7,Y8,Y9,Ya,Yb,Yc,Yd,Ye,Yf,Yg,Yh,Yi,Yj,Yk,Yl,Ym,Yn,ial,Yo,Yp,Yq,Yr,Ys,Yt,Yu,Yv,ires,iresL,ires1,Yw,Yx,Yy,Yz,YA,YB,bin2,YC,YD,YE,YF,YG,YH,YI,YJ,YK,YL,YM,YN,YO,YP,YQ,YR,un1,shOk,eqL,eq1,fillL,putAt,IHeap.load1,IHeap.loadL,IHeap.storeL,YS,YT,YU,YV,YW,YX,YY,YZ,B0,B1,B2,B3,B4,B5,B6,B7,B8,B9,Ba,Bb,Bc,Bd,Be,Bf,Bg,Bh,Bi,Bj,Bk,Bl,Bm, c_members_group, h2, h2']
    have := hK H (H.le_refl)
    simpa [h2] using this

include hc in
theorem MNew_ok {L S : List Int} {u v : Value} (hu : SlW H 1 u (L.map rowI)) (hv : SlW H 1 v (S.map rowI)) (hL : L.length ≤ 1000000000) (hS : S.length ≤ 1000000000)
    (h0 : ∀ H', H.le H' → ¬ (2 ≤ L.length ∧ L.length ≤ 8 ∧ Apart (L ++ S)) → K (.pointer none) H')
    (h1 : 2 ≤ L.length → L.length ≤ 8 → Apart (L ++ S) → ∀ p q1 q2 H', H.next ≤ p → H.next ≤ q1 → H.next ≤ q2 → H.le H' → q2 < H'.next → IsM H' p q1 q2 ⟨L, S, 1, -1, false, -1⟩ → K (.pointer (some ⟨p, 0, none⟩)) H') :
    c.C (c.F n_members_New) [u, v] H K := by
  refine c.enter hc.members_New rfl ?_
  simp -implicitDefEqProofs [J0,J1,J2,J3,J4,J5,J6,J7,J8,J9,Ja,Jb,Jc,Jd,Je,Jf,Jg,Jh,Ji,Jj,Jk,Jl,Jm,Jn,Jo,Jp,Jq,Jr,Js,Jt,Ju,Jv,Jw,Jx,Jy,Jz,JA,JB,JC,JD,JE,JF,JG,JH,JI,JJ,JK,JL,JM,JN,JO,JP,stillI,IOp.kind,JQ,JR,JS,JT,JU,JV,JW,JX,JY,JZ,Y0,Y1,Y2,Y3,Y4,Y5,Y6,Y7,Y8,Y9,Ya,Yb,Yc,Yd,Ye,Yf,Yg,Yh,Yi,Yj,Yk,Yl,Ym,Yn,ial,Yo,Yp,Yq,Yr,Ys,Yt,Yu,Yv,ires,iresL,ires1,Yw,Yx,Yy,Yz,YA,YB,bin2,YC,YD,YE,YF,YG,YH,YI,YJ,YK,YL,YM,YN,YO,YP,YQ,YR,un1,shOk,eqL,eq1,fillL,putAt,IHeap.load1,IHeap.loadL,IHeap.storeL,YS,YT,YU,YV,YW,YX,YY,YZ,B0,B1,B2,B3,B4,B5,B6,B7,B8,B9,Ba,Bb,Bc,Bd,Be,Bf,Bg,Bh,Bi,Bj,Bk,Bl,Bm, c_members_New]
  refine call_of (group_ok c hc hu hv hS fun H1 k1 => ?_)
  by_cases hg : 2 ≤ L.length ∧ L.length ≤ 8 ∧ Apart (L ++ S)
  · obtain ⟨g1, g2, g3⟩ := hg
    have e : (decide (2 ≤ L.length) && (decide (L.length ≤ 8) && apart (L ++ S))) = true := by simp [g1, g2, (apart_iff _).2 g3]
    rw [e]
    simp -implicitDefEqProofs [J0,J1,J2,J3,J4,J5,J6,J7,J8,J9,Ja,Jb,Jc,Jd,Je,Jf,Jg,Jh,Ji,Jj,Jk,Jl,Jm,Jn,Jo,Jp,Jq,Jr,Js,Jt,Ju,Jv,Jw,Jx,Jy,Jz,JA,JB,JC,JD,JE,JF,JG,JH,JI,JJ,JK,JL,JM,JN,JO,JP,stillI,IOp.kind,JQ,JR,JS,JT,JU,JV,JW,JX,JY,JZ,Y0,Y1,Y2,Y3,Y4,Y5,Y6,Y7,Y8,Y9,Ya,Yb,Yc,Yd,Ye,Yf,Yg,Yh,Yi,Yj,Yk,Yl,Ym,Yn,ial,Yo,Yp,Yq,Yr,Ys,Yt,Yu,Yv,ires,iresL,ires1,Yw,Yx,Yy,Yz,YA,YB,bin2,YC,YD,YE,YF,YG,YH,YI,YJ,YK,YL,YM,YN,YO,YP,YQ,YR,un1,shOk,eqL,eq1,fillL,putAt,IHeap.load1,IHeap.loadL,IHeap.storeL,YS,YT,YU,YV,YW,YX,YY,YZ,B0,B1,B2,B3,B4,B5,B6,B7,B8,B9,Ba,Bb,Bc,Bd,Be,Bf,Bg,Bh,Bi,Bj,Bk,Bl,Bm]
    refine call_of (list_ok c hc (hu.le k1) (by omega) fun H2 k2 n2 t2 => ?_)
    simp -implicitDefEqProofs [J0,J1,J2,J3,J4,J5,J6,J7,J8,J9,Ja,Jb,Jc,Jd,Je,Jf,Jg,Jh,Ji,Jj,Jk,Jl,Jm,Jn,Jo,Jp,Jq,Jr,Js,Jt,Ju,Jv,Jw,Jx,Jy,Jz,JA,JB,JC,JD,JE,JF,JG,JH,JI,JJ,JK,JL,JM,JN,JO,JP,stillI,IOp.kind,JQ,JR,JS,JT,JU,JV,JW,JX,JY,JZ,Y0,Y1,Y2,Y3,Y4,Y5,Y6,Y7,Y8,Y9,Ya,Yb,Yc,Yd,Ye,Yf,Yg,Yh,Yi,Yj,Yk,Yl,Ym,Yn,ial,Yo,Yp,Yq,Yr,Ys,Yt,Yu,Yv,ires,iresL,ires1,Yw,Yx,Yy,Yz,YA,YB,bin2,YC,YD,YE,YF,YG,YH,YI,YJ,YK,YL,YM,YN,YO,YP,YQ,YR,un1,shOk,eqL,eq1,fillL,putAt,IHeap.load1,IHeap.loadL,IHeap.storeL,YS,YT,YU,YV,YW,YX,YY,YZ,B0,B1,B2,B3,B4,B5,B6,B7,B8,B9,Ba,Bb,Bc,Bd,Be,Bf,Bg,Bh,Bi,Bj,Bk,Bl,Bm]
    refine call_of (list_ok c hc (hv.le (k1.trans k2)) (by omega) fun H3 k3 n3 t3 => ?_)
    simp -implicitDefEqProofs [J0,J1,J2,J3,J4,J5,J6,J7,J8,J9,Ja,Jb,Jc,Jd,Je,Jf,Jg,Jh,Ji,Jj,Jk,Jl,Jm,Jn,Jo,Jp,Jq,Jr,Js,Jt,Ju,Jv,Jw,Jx,Jy,Jz,JA,JB,JC,JD,JE,JF,JG,JH,JI,JJ,JK,JL,JM,JN,JO,JP,stillI,IOp.kind,JQ,JR,JS,JT,JU,JV,JW,JX,JY,JZ,Y0,Y1,Y2,Y3,Y4,Y5,Y6,Y7,Y8,Y9,Ya,Yb,Yc,Yd,Ye,Yf,Yg,Yh,Yi,Yj,Yk,Yl,Ym,Yn,ial,Yo,Yp,Yq,Yr,Ys,Yt,Yu,Yv,ires,iresL,ires1,Yw,Yx,Yy,Yz,YA,YB,bin2,YC,YD,YE,YF,YG,YH,YI,YJ,YK,YL,YM,YN,YO,YP,YQ,YR,un1,shOk,eqL,eq1,fillL,putAt,IHeap.load1,IHeap.loadL,IHeap.storeL,YS,YT,YU,YV,YW,YX,YY,YZ,B0,B1,B2,B3,B4,B5,B6,B7,B8,B9,Ba,Bb,Bc,Bd,Be,Bf,Bg,Bh,Bi,Bj,Bk,Bl,Bm, fillL, putAt]
    have n1 := k1.next
    refine h1 g1 g2 g3 H3.next H1.next H2.next _ (by omega) (by omega) (by omega) (((k1.trans k2).trans k3).alloc _) (by simp only [YU]; omega) ⟨by simp [YU], ?_, ⟨L.length, .slice (some ⟨H2.next, 0, none⟩) S.length S.length, by rw [YS, if_pos rfl], .inl ⟨by unfold UNK; omega, Nat.le_refl _⟩, ?_⟩, by simp only [YU]; omega, ?_, by omega, by omega, by omega⟩
    · exact ⟨g1, g2, g3, by simp, by simp, by simp only; omega, by simp, by simp⟩
    · refine .inr ⟨0, S.map iV, false, by simp only [YU]; omega, ?_, ?_, by simp, .inl ⟨rfl, by show S.length < UNK; unfold UNK; omega⟩⟩
      · rw [YS, if_neg (by omega)]; exact t3
      · rw [List.drop_zero, List.take_of_length_le (by simp)]
    · rw [YS, if_neg (by omega), k3.get _ (by omega)]; exact t2
  · have e : (decide (2 ≤ L.length) && (decide (L.length ≤ 8) && apart (L ++ S))) = false := by
      rw [Bool.eq_false_iff]
      intro ht
      simp only [Bool.and_eq_true, decide_eq_true_eq] at ht
      exact hg ⟨ht.1, ht.2.1, (apart_iff _).1 ht.2.2⟩
    rw [e]
    simp -implicitDefEqProofs [J0,J1,J2,J3,J4,J5,J6,J7,J8,J9,Ja,Jb,Jc,Jd,Je,Jf,Jg,Jh,Ji,Jj,Jk,Jl,Jm,Jn,Jo,Jp,Jq,Jr,Js,Jt,Ju,Jv,Jw,Jx,Jy,Jz,JA,JB,JC,JD,JE,JF,JG,JH,JI,JJ,JK,JL,JM,JN,JO,JP,stillI,IOp.kind,JQ,JR,JS,JT,JU,JV,JW,JX,JY,JZ,Y0,Y1,Y2,Y3,Y4,Y5,Y6,Y7,Y8,Y9,Ya,Yb,Yc,Yd,Ye,Yf,Yg,Yh,Yi,Yj,Yk,Yl,Ym,Yn,ial,Yo,Yp,Yq,Yr,Ys,Yt,Yu,Yv,ires,iresL,ires1,Yw,Yx,Yy,Yz,YA,YB,bin2,YC,YD,YE,YF,YG,YH,YI,YJ,YK,YL,YM,YN,YO,YP,YQ,YR,un1,shOk,eqL,eq1,fillL,putAt,IHeap.load1,IHeap.loadL,IHeap.storeL,YS,YT,YU,YV,YW,YX,YY,YZ,B0,B1,B2,B3,B4,B5,B6,B7,B8,B9,Ba,Bb,Bc,Bd,Be,Bf,Bg,Bh,Bi,Bj,Bk,Bl,Bm]
    exact h0 _ k1 hg

include hc in
theorem MEpoch_ok {p q1 q2 : Nat} {m : Mem} (h : IsM H p q1 q2 m) (hK : K (.int .i64 m.e) H) : c.C (c.F n_members_Members_Epoch) [.pointer (some ⟨p, 0, none⟩)] H K := by
  refine c.enter hc.members_Members_Epoch rfl ?_
  obtain ⟨cap, v2, hg, _⟩ := h.rep
  simp -implicitDefEqProofs [J0,J1,J2,J3,J4,J5,J6,J7,J8,J9,Ja,Jb,Jc,Jd,Je,Jf,Jg,Jh,Ji,Jj,Jk,Jl,Jm,Jn,Jo,Jp,Jq,Jr,Js,Jt,Ju,Jv,Jw,Jx,Jy,Jz,JA,JB,JC,JD,JE,JF,JG,JH,JI,JJ,JK,JL,JM,JN,JO,JP,stillI,IOp.kind,JQ,JR,JS,JT,JU,JV,JW,JX,JY,JZ,Y0,Y1,Y2,Y3,Y4,Y5,Y6,Y7,Y8,Y9,Ya,Yb,Yc,Yd,Ye,Yf,Yg,Yh,Yi,Yj,Yk,Yl,Ym,Yn,ial,Yo,Yp,Yq,Yr,Ys,Yt,Yu,Yv,ires,iresL,ires1,Yw,Yx,Yy,Yz,YA,YB,bin2,YC,YD,YE,YF,YG,YH,YI,YJ,YK,YL,YM,YN,YO,YP,YQ,YR,un1,shOk,eqL,eq1,fillL,putAt,IHeap.load1,IHeap.loadL,IHeap.storeL,YS,YT,YU,YV,YW,YX,YY,YZ,B0,B1,B2,B3,B4,B5,B6,B7,B8,B9,Ba,Bb,Bc,Bd,Be,Bf,Bg,Bh,Bi,Bj,Bk,Bl,Bm, c_members_Members_Epoch, nilOf, hg]
  exact hK
include hc in
theorem MHole_ok {p q1 q2 : Nat} {m : Mem} (h : IsM H p q1 q2 m) (hK : K (.int .i64 m.h) H) : c.C (c.F n_members_Members_Hole) [.pointer (some ⟨p, 0, none⟩)] H K := by
  refine c.enter hc.members_Members_Hole rfl ?_
  obtain ⟨cap, v2, hg, _⟩ := h.rep
  simp -implicitDefEqProofs [J0,J1,J2,J3,J4,J5,J6,J7,J8,J9,Ja,Jb,Jc,Jd,Je,Jf,Jg,Jh,Ji,Jj,Jk,Jl,Jm,Jn,Jo,Jp,Jq,Jr,Js,Jt,Ju,Jv,Jw,Jx,Jy,Jz,JA,JB,JC,JD,JE,JF,JG,JH,JI,JJ,JK,JL,JM,JN,JO,JP,stillI,IOp.kind,JQ,JR,JS,JT,JU,JV,JW,JX,JY,JZ,Y0,Y1,Y2,Y3,Y4,Y5,Y6,Y7,Y8,Y9,Ya,Yb,Yc,Yd,Ye,Yf,Yg,Yh,Yi,Yj,Yk,Yl,Ym,Yn,ial,Yo,Yp,Yq,Yr,Ys,Yt,Yu,Yv,ires,iresL,ires1,Yw,Yx,Yy,Yz,YA,YB,bin2,YC,YD,YE,YF,YG,YH,YI,YJ,YK,YL,YM,YN,YO,YP,YQ,YR,un1,shOk,eqL,eq1,fillL,putAt,IHeap.load1,IHeap.loadL,IHeap.storeL,YS,YT,YU,YV,YW,YX,YY,YZ,B0,B1,B2,B3,B4,B5,B6,B7,B8,B9,Ba,Bb,Bc,Bd,Be,Bf,Bg,Bh,Bi,Bj,Bk,Bl,Bm, c_members_Members_Hole, nilOf, hg]
  exact hK
theorem tight_of {q : Nat} {l : List Int} (hq : q < H.next) (hg : H.get q = some (.cells (l.map iV) false)) (hl : l.length ≤ 1000000000) : SlW H 1 (.slice (some ⟨q, 0, none⟩) l.length l.length) (l.map rowI) :=
  ⟨slr_ints hq hg (by rw [List.drop_zero, List.take_of_length_le (by simp)]) (by simp), _, _, by rw [List.length_map], .inr ⟨_, _, rfl⟩, .inl ⟨by unfold UNK; omega, by rw [List.length_map]; exact Nat.le_refl _⟩⟩
include hc in
theorem MServers_ok {p q1 q2 : Nat} {m : Mem} (h : IsM H p q1 q2 m) (hK : ∀ v H', H.le H' → SlW H' 1 v (m.L.map rowI) → (∀ S : List Nat, (∀ b ∈ S, b < H.next) → Off v S) → K v H') : c.C (c.F n_members_Members_Servers) [.pointer (some ⟨p, 0, none⟩)] H K := by
  refine c.enter hc.members_Members_Servers rfl ?_
  obtain ⟨cap, v2, hg, hcap, _⟩ := h.rep
  have h8 := h.ok.eight
  simp -implicitDefEqProofs [J0,J1,J2,J3,J4,J5,J6,J7,J8,J9,Ja,Jb,Jc,Jd,Je,Jf,Jg,Jh,Ji,Jj,Jk,Jl,Jm,Jn,Jo,Jp,Jq,Jr,Js,Jt,Ju,Jv,Jw,Jx,Jy,Jz,JA,JB,JC,JD,JE,JF,JG,JH,JI,JJ,JK,JL,JM,JN,JO,JP,stillI,IOp.kind,JQ,JR,JS,JT,JU,JV,JW,JX,JY,JZ,Y0,Y1,Y2,Y3,Y4,Y5,Y6,Y7,Y8,Y9,Ya,Yb,Yc,Yd,Ye,Yf,Yg,Yh,Yi,Yj,Yk,Yl,Ym,Yn,ial,Yo,Yp,Yq,Yr,Ys,Yt,Yu,Yv,ires,iresL,ires1,Yw,Yx,Yy,Yz,YA,YB,bin2,YC,YD,YE,YF,YG,YH,YI,YJ,YK,YL,YM,YN,YO,YP,YQ,YR,un1,shOk,eqL,eq1,fillL,putAt,IHeap.load1,IHeap.loadL,IHeap.storeL,YS,YT,YU,YV,YW,YX,YY,YZ,B0,B1,B2,B3,B4,B5,B6,B7,B8,B9,Ba,Bb,Bc,Bd,Be,Bf,Bg,Bh,Bi,Bj,Bk,Bl,Bm, c_members_Members_Servers, nilOf, hg]
  refine call_of (list_ok c hc (h.servers hcap) (by omega) fun H2 k2 n2 t2 => ?_)
  simp -implicitDefEqProofs [J0,J1,J2,J3,J4,J5,J6,J7,J8,J9,Ja,Jb,Jc,Jd,Je,Jf,Jg,Jh,Ji,Jj,Jk,Jl,Jm,Jn,Jo,Jp,Jq,Jr,Js,Jt,Ju,Jv,Jw,Jx,Jy,Jz,JA,JB,JC,JD,JE,JF,JG,JH,JI,JJ,JK,JL,JM,JN,JO,JP,stillI,IOp.kind,JQ,JR,JS,JT,JU,JV,JW,JX,JY,JZ,Y0,Y1,Y2,Y3,Y4,Y5,Y6,Y7,Y8,Y9,Ya,Yb,Yc,Yd,Ye,Yf,Yg,Yh,Yi,Yj,Yk,Yl,Ym,Yn,ial,Yo,Yp,Yq,Yr,Ys,Yt,Yu,Yv,ires,iresL,ires1,Yw,Yx,Yy,Yz,YA,YB,bin2,YC,YD,YE,YF,YG,YH,YI,YJ,YK,YL,YM,YN,YO,YP,YQ,YR,un1,shOk,eqL,eq1,fillL,putAt,IHeap.load1,IHeap.loadL,IHeap.storeL,YS,YT,YU,YV,YW,YX,YY,YZ,B0,B1,B2,B3,B4,B5,B6,B7,B8,B9,Ba,Bb,Bc,Bd,Be,Bf,Bg,Bh,Bi,Bj,Bk,Bl,Bm]
  refine hK _ _ k2 (tight_of (by omega) t2 (by omega)) fun S hS b o n cc e hb => ?_
  simp only [Value.slice.injEq, Option.some.injEq, Addr.mk.injEq] at e
  have := hS b hb
  omega
include hc in
theorem MSpares_ok {p q1 q2 : Nat} {m : Mem} (h : IsM H p q1 q2 m) (hK : ∀ v H', H.le H' → SlW H' 1 v (m.S.map rowI) → (∀ S : List Nat, (∀ b ∈ S, b < H.next) → Off v S) → K v H') : c.C (c.F n_members_Members_Spares) [.pointer (some ⟨p, 0, none⟩)] H K := by
  refine c.enter hc.members_Members_Spares rfl ?_
  obtain ⟨cap, v2, hg, hcap, hsp⟩ := h.rep
  have h64 := h.ok.sl
  simp -implicitDefEqProofs [J0,J1,J2,J3,J4,J5,J6,J7,J8,J9,Ja,Jb,Jc,Jd,Je,Jf,Jg,Jh,Ji,Jj,Jk,Jl,Jm,Jn,Jo,Jp,Jq,Jr,Js,Jt,Ju,Jv,Jw,Jx,Jy,Jz,JA,JB,JC,JD,JE,JF,JG,JH,JI,JJ,JK,JL,JM,JN,JO,JP,stillI,IOp.kind,JQ,JR,JS,JT,JU,JV,JW,JX,JY,JZ,Y0,Y1,Y2,Y3,Y4,Y5,Y6,Y7,Y8,Y9,Ya,Yb,Yc,Yd,Ye,Yf,Yg,Yh,Yi,Yj,Yk,Yl,Ym,Yn,ial,Yo,Yp,Yq,Yr,Ys,Yt,Yu,Yv,ires,iresL,ires1,Yw,Yx,Yy,Yz,YA,YB,bin2,YC,YD,YE,YF,YG,YH,YI,YJ,YK,YL,YM,YN,YO,YP,YQ,YR,un1,shOk,eqL,eq1,fillL,putAt,IHeap.load1,IHeap.loadL,IHeap.storeL,YS,YT,YU,YV,YW,YX,YY,YZ,B0,B1,B2,B3,B4,B5,B6,B7,B8,B9,Ba,Bb,Bc,Bd,Be,Bf,Bg,Bh,Bi,Bj,Bk,Bl,Bm, c_members_Members_Spares, nilOf, hg]
  refine call_of (list_ok c hc hsp.slw (by omega) fun H2 k2 n2 t2 => ?_)
  simp -implicitDefEqProofs [J0,J1,J2,J3,J4,J5,J6,J7,J8,J9,Ja,Jb,Jc,Jd,Je,Jf,Jg,Jh,Ji,Jj,Jk,Jl,Jm,Jn,Jo,Jp,Jq,Jr,Js,Jt,Ju,Jv,Jw,Jx,Jy,Jz,JA,JB,JC,JD,JE,JF,JG,JH,JI,JJ,JK,JL,JM,JN,JO,JP,stillI,IOp.kind,JQ,JR,JS,JT,JU,JV,JW,JX,JY,JZ,Y0,Y1,Y2,Y3,Y4,Y5,Y6,Y7,Y8,Y9,Ya,Yb,Yc,Yd,Ye,Yf,Yg,Yh,Yi,Yj,Yk,Yl,Ym,Yn,ial,Yo,Yp,Yq,Yr,Ys,Yt,Yu,Yv,ires,iresL,ires1,Yw,Yx,Yy,Yz,YA,YB,bin2,YC,YD,YE,YF,YG,YH,YI,YJ,YK,YL,YM,YN,YO,YP,YQ,YR,un1,shOk,eqL,eq1,fillL,putAt,IHeap.load1,IHeap.loadL,IHeap.storeL,YS,YT,YU,YV,YW,YX,YY,YZ,B0,B1,B2,B3,B4,B5,B6,B7,B8,B9,Ba,Bb,Bc,Bd,Be,Bf,Bg,Bh,Bi,Bj,Bk,Bl,Bm]
  refine hK _ _ k2 (tight_of (by omega) t2 (by omega)) fun S hS b o n cc e hb => ?_
  simp only [Value.slice.injEq, Option.some.injEq, Addr.mk.injEq] at e
  have := hS b hb
  omega

include hc in
theorem MFail_ok {p q1 q2 : Nat} {m : Mem} {s e : Int} (h : IsM H p q1 q2 m) (hb : m.e < 4611686018427387904) (hK : ∀ H', IHeap.upd [p, q1, q2] H H' → H'.next = H.next → IsM H' p q1 q2 (m.fail s e).1 → K (.int .i64 (m.fail s e).2) H') :
    c.C (c.F n_members_Members_Fail) [.pointer (some ⟨p, 0, none⟩), .int .i64 s, .int .i64 e] H K := by
  refine c.enter hc.members_Members_Fail rfl ?_
  have hokf := h.ok.fail hb s e
  obtain ⟨cap, v2, hg, hcap, hsp⟩ := h.rep
  have h8 := h.ok.eight
  have hh1 := h.ok.h1
  have hep := h.ok.ep
  unfold Mem.fail at hK hokf
  simp -implicitDefEqProofs [J0,J1,J2,J3,J4,J5,J6,J7,J8,J9,Ja,Jb,Jc,Jd,Je,Jf,Jg,Jh,Ji,Jj,Jk,Jl,Jm,Jn,Jo,Jp,Jq,Jr,Js,Jt,Ju,Jv,Jw,Jx,Jy,Jz,JA,JB,JC,JD,JE,JF,JG,JH,JI,JJ,JK,JL,JM,JN,JO,JP,stillI,IOp.kind,JQ,JR,JS,JT,JU,JV,JW,JX,JY,JZ,Y0,Y1,Y2,Y3,Y4,Y5,Y6,Y7,Y8,Y9,Ya,Yb,Yc,Yd,Ye,Yf,Yg,Yh,Yi,Yj,Yk,Yl,Ym,Yn,ial,Yo,Yp,Yq,Yr,Ys,Yt,Yu,Yv,ires,iresL,ires1,Yw,Yx,Yy,Yz,YA,YB,bin2,YC,YD,YE,YF,YG,YH,YI,YJ,YK,YL,YM,YN,YO,YP,YQ,YR,un1,shOk,eqL,eq1,fillL,putAt,IHeap.load1,IHeap.loadL,IHeap.storeL,YS,YT,YU,YV,YW,YX,YY,YZ,B0,B1,B2,B3,B4,B5,B6,B7,B8,B9,Ba,Bb,Bc,Bd,Be,Bf,Bg,Bh,Bi,Bj,Bk,Bl,Bm, c_members_Members_Fail, nilOf, hg]
  refine call_of (Index_ok c hc (h.servers hcap) (by omega) ?_)
  by_cases ha : atI m.L s < 0
  · rw [if_pos ha] at hK
    simp -implicitDefEqProofs [J0,J1,J2,J3,J4,J5,J6,J7,J8,J9,Ja,Jb,Jc,Jd,Je,Jf,Jg,Jh,Ji,Jj,Jk,Jl,Jm,Jn,Jo,Jp,Jq,Jr,Js,Jt,Ju,Jv,Jw,Jx,Jy,Jz,JA,JB,JC,JD,JE,JF,JG,JH,JI,JJ,JK,JL,JM,JN,JO,JP,stillI,IOp.kind,JQ,JR,JS,JT,JU,JV,JW,JX,JY,JZ,Y0,Y1,Y2,Y3,Y4,Y5,Y6,Y7,Y8,Y9,Ya,Yb,Yc,Yd,Ye,Yf,Yg,Yh,Yi,Yj,Yk,Yl,Ym,Yn,ial,Yo,Yp,Yq,Yr,Ys,Yt,Yu,Yv,ires,iresL,ires1,Yw,Yx,Yy,Yz,YA,YB,bin2,YC,YD,YE,YF,YG,YH,YI,YJ,YK,YL,YM,YN,YO,YP,YQ,YR,un1,shOk,eqL,eq1,fillL,putAt,IHeap.load1,IHeap.loadL,IHeap.storeL,YS,YT,YU,YV,YW,YX,YY,YZ,B0,B1,B2,B3,B4,B5,B6,B7,B8,B9,Ba,Bb,Bc,Bd,Be,Bf,Bg,Bh,Bi,Bj,Bk,Bl,Bm, ha]
    exact hK _ (IHeap.upd_refl _ _) rfl h
  · rw [if_neg ha] at hK hokf
    by_cases hh : 0 ≤ m.h
    · rw [if_pos hh] at hK
      have hne : ¬ m.h = -1 := by omega
      simp -implicitDefEqProofs [J0,J1,J2,J3,J4,J5,J6,J7,J8,J9,Ja,Jb,Jc,Jd,Je,Jf,Jg,Jh,Ji,Jj,Jk,Jl,Jm,Jn,Jo,Jp,Jq,Jr,Js,Jt,Ju,Jv,Jw,Jx,Jy,Jz,JA,JB,JC,JD,JE,JF,JG,JH,JI,JJ,JK,JL,JM,JN,JO,JP,stillI,IOp.kind,JQ,JR,JS,JT,JU,JV,JW,JX,JY,JZ,Y0,Y1,Y2,Y3,Y4,Y5,Y6,Y7,Y8,Y9,Ya,Yb,Yc,Yd,Ye,Yf,Yg,Yh,Yi,Yj,Yk,Yl,Ym,Yn,ial,Yo,Yp,Yq,Yr,Ys,Yt,Yu,Yv,ires,iresL,ires1,Yw,Yx,Yy,Yz,YA,YB,bin2,YC,YD,YE,YF,YG,YH,YI,YJ,YK,YL,YM,YN,YO,YP,YQ,YR,un1,shOk,eqL,eq1,fillL,putAt,IHeap.load1,IHeap.loadL,IHeap.storeL,YS,YT,YU,YV,YW,YX,YY,YZ,B0,B1,B2,B3,B4,B5,B6,B7,B8,B9,Ba,Bb,Bc,Bd,Be,Bf,Bg,Bh,Bi,Bj,Bk,Bl,Bm, ha, hg, hne]
      exact hK _ (IHeap.upd_refl _ _) rfl h
    · rw [if_neg hh] at hK hokf
      have hne : m.h = -1 := by omega
      by_cases he : e = m.e
      · rw [if_neg (by simpa using he)] at hK hokf
        have hw : IntKind.i64.wrap (m.e + 1) = m.e + 1 := wrap64 (by omega) (by omega)
        simp -implicitDefEqProofs [J0,J1,J2,J3,J4,J5,J6,J7,J8,J9,Ja,Jb,Jc,Jd,Je,Jf,Jg,Jh,Ji,Jj,Jk,Jl,Jm,Jn,Jo,Jp,Jq,Jr,Js,Jt,Ju,Jv,Jw,Jx,Jy,Jz,JA,JB,JC,JD,JE,JF,JG,JH,JI,JJ,JK,JL,JM,JN,JO,JP,stillI,IOp.kind,JQ,JR,JS,JT,JU,JV,JW,JX,JY,JZ,Y0,Y1,Y2,Y3,Y4,Y5,Y6,Y7,Y8,Y9,Ya,Yb,Yc,Yd,Ye,Yf,Yg,Yh,Yi,Yj,Yk,Yl,Ym,Yn,ial,Yo,Yp,Yq,Yr,Ys,Yt,Yu,Yv,ires,iresL,ires1,Yw,Yx,Yy,Yz,YA,YB,bin2,YC,YD,YE,YF,YG,YH,YI,YJ,YK,YL,YM,YN,YO,YP,YQ,YR,un1,shOk,eqL,eq1,fillL,putAt,IHeap.load1,IHeap.loadL,IHeap.storeL,YS,YT,YU,YV,YW,YX,YY,YZ,B0,B1,B2,B3,B4,B5,B6,B7,B8,B9,Ba,Bb,Bc,Bd,Be,Bf,Bg,Bh,Bi,Bj,Bk,Bl,Bm, ha, hg, hne, he, hw]
        have n1 := h.np1
        have n2 := h.np2
        refine hK _ (((((IHeap.upd_refl _ H).set (.inr (by simp)) _).set (.inr (by simp)) _).set (.inr (by simp)) _).set (.inr (by simp)) _) rfl ⟨h.lt, hokf, ⟨cap, v2, by rw [YT, if_pos rfl], hcap, ?_⟩, h.lt1, ?_, h.n12, h.np2, h.np1⟩
        · refine hsp.same (Nat.le_refl _) ?_
          simp -implicitDefEqProofs [J0,J1,J2,J3,J4,J5,J6,J7,J8,J9,Ja,Jb,Jc,Jd,Je,Jf,Jg,Jh,Ji,Jj,Jk,Jl,Jm,Jn,Jo,Jp,Jq,Jr,Js,Jt,Ju,Jv,Jw,Jx,Jy,Jz,JA,JB,JC,JD,JE,JF,JG,JH,JI,JJ,JK,JL,JM,JN,JO,JP,stillI,IOp.kind,JQ,JR,JS,JT,JU,JV,JW,JX,JY,JZ,Y0,Y1,Y2,Y3,Y4,Y5,Y6,Y7,Y8,Y9,Ya,Yb,Yc,Yd,Ye,Yf,Yg,Yh,Yi,Yj,Yk,Yl,Ym,Yn,ial,Yo,Yp,Yq,Yr,Ys,Yt,Yu,Yv,ires,iresL,ires1,Yw,Yx,Yy,Yz,YA,YB,bin2,YC,YD,YE,YF,YG,YH,YI,YJ,YK,YL,YM,YN,YO,YP,YQ,YR,un1,shOk,eqL,eq1,fillL,putAt,IHeap.load1,IHeap.loadL,IHeap.storeL,YS,YT,YU,YV,YW,YX,YY,YZ,B0,B1,B2,B3,B4,B5,B6,B7,B8,B9,Ba,Bb,Bc,Bd,Be,Bf,Bg,Bh,Bi,Bj,Bk,Bl,Bm, Ne.symm n2]
        · simp -implicitDefEqProofs [J0,J1,J2,J3,J4,J5,J6,J7,J8,J9,Ja,Jb,Jc,Jd,Je,Jf,Jg,Jh,Ji,Jj,Jk,Jl,Jm,Jn,Jo,Jp,Jq,Jr,Js,Jt,Ju,Jv,Jw,Jx,Jy,Jz,JA,JB,JC,JD,JE,JF,JG,JH,JI,JJ,JK,JL,JM,JN,JO,JP,stillI,IOp.kind,JQ,JR,JS,JT,JU,JV,JW,JX,JY,JZ,Y0,Y1,Y2,Y3,Y4,Y5,Y6,Y7,Y8,Y9,Ya,Yb,Yc,Yd,Ye,Yf,Yg,Yh,Yi,Yj,Yk,Yl,Ym,Yn,ial,Yo,Yp,Yq,Yr,Ys,Yt,Yu,Yv,ires,iresL,ires1,Yw,Yx,Yy,Yz,YA,YB,bin2,YC,YD,YE,YF,YG,YH,YI,YJ,YK,YL,YM,YN,YO,YP,YQ,YR,un1,shOk,eqL,eq1,fillL,putAt,IHeap.load1,IHeap.loadL,IHeap.storeL,YS,YT,YU,YV,YW,YX,YY,YZ,B0,B1,B2,B3,B4,B5,B6,B7,B8,B9,Ba,Bb,Bc,Bd,Be,Bf,Bg,Bh,Bi,Bj,Bk,Bl,Bm, Ne.symm n1]
          exact h.get1
      · rw [if_pos he] at hK
        simp -implicitDefEqProofs [J0,J1,J2,J3,J4,J5,J6,J7,J8,J9,Ja,Jb,Jc,Jd,Je,Jf,Jg,Jh,Ji,Jj,Jk,Jl,Jm,Jn,Jo,Jp,Jq,Jr,Js,Jt,Ju,Jv,Jw,Jx,Jy,Jz,JA,JB,JC,JD,JE,JF,JG,JH,JI,JJ,JK,JL,JM,JN,JO,JP,stillI,IOp.kind,JQ,JR,JS,JT,JU,JV,JW,JX,JY,JZ,Y0,Y1,Y2,Y3,Y4,Y5,Y6,Y7,Y8,Y9,Ya,Yb,Yc,Yd,Ye,Yf,Yg,Yh,Yi,Yj,Yk,Yl,Ym,Yn,ial,Yo,Yp,Yq,Yr,Ys,Yt,Yu,Yv,ires,iresL,ires1,Yw,Yx,Yy,Yz,YA,YB,bin2,YC,YD,YE,YF,YG,YH,YI,YJ,YK,YL,YM,YN,YO,YP,YQ,YR,un1,shOk,eqL,eq1,fillL,putAt,IHeap.load1,IHeap.loadL,IHeap.storeL,YS,YT,YU,YV,YW,YX,YY,YZ,B0,B1,B2,B3,B4,B5,B6,B7,B8,B9,Ba,Bb,Bc,Bd,Be,Bf,Bg,Bh,Bi,Bj,Bk,Bl,Bm, ha, hg, hne, he]
        exact hK _ (IHeap.upd_refl _ _) rfl h

include hc in
theorem MDone_ok {p q1 q2 : Nat} {m : Mem} {e : Int} (h : IsM H p q1 q2 m) (hb : m.e < 4611686018427387904) (hK : ∀ H', IHeap.upd [p, q1, q2] H H' → H'.next = H.next → IsM H' p q1 q2 (m.done e).1 → K (.int .i64 (m.done e).2) H') :
    c.C (c.F n_members_Members_Done) [.pointer (some ⟨p, 0, none⟩), .int .i64 e] H K := by
  refine c.enter hc.members_Members_Done rfl ?_
  have hokf := h.ok.done hb e
  obtain ⟨cap, v2, hg, hcap, hsp⟩ := h.rep
  have hep := h.ok.ep
  have hfh := h.ok.fh
  unfold Mem.done at hK hokf
  by_cases he : e = m.e
  · rw [if_neg (by simpa using he)] at hK hokf
    by_cases hf : m.f = true
    · have hno : ¬ (m.h < 0 ∨ m.f = false) := by have := hfh hf; simp [hf]; omega
      rw [if_neg hno] at hK hokf
      have hw : IntKind.i64.wrap (m.e + 1) = m.e + 1 := wrap64 (by omega) (by omega)
      simp -implicitDefEqProofs [J0,J1,J2,J3,J4,J5,J6,J7,J8,J9,Ja,Jb,Jc,Jd,Je,Jf,Jg,Jh,Ji,Jj,Jk,Jl,Jm,Jn,Jo,Jp,Jq,Jr,Js,Jt,Ju,Jv,Jw,Jx,Jy,Jz,JA,JB,JC,JD,JE,JF,JG,JH,JI,JJ,JK,JL,JM,JN,JO,JP,stillI,IOp.kind,JQ,JR,JS,JT,JU,JV,JW,JX,JY,JZ,Y0,Y1,Y2,Y3,Y4,Y5,Y6,Y7,Y8,Y9,Ya,Yb,Yc,Yd,Ye,Yf,Yg,Yh,Yi,Yj,Yk,Yl,Ym,Yn,ial,Yo,Yp,Yq,Yr,Ys,Yt,Yu,Yv,ires,iresL,ires1,Yw,Yx,Yy,Yz,YA,YB,bin2,YC,YD,YE,YF,YG,YH,YI,YJ,YK,YL,YM,YN,YO,YP,YQ,YR,un1,shOk,eqL,eq1,fillL,putAt,IHeap.load1,IHeap.loadL,IHeap.storeL,YS,YT,YU,YV,YW,YX,YY,YZ,B0,B1,B2,B3,B4,B5,B6,B7,B8,B9,Ba,Bb,Bc,Bd,Be,Bf,Bg,Bh,Bi,Bj,Bk,Bl,Bm, c_members_Members_Done, nilOf, hg, he, hf, hw]
      have n1 := h.np1
      have n2 := h.np2
      refine hK _ (((((IHeap.upd_refl _ H).set (.inr (by simp)) _).set (.inr (by simp)) _).set (.inr (by simp)) _).set (.inr (by simp)) _) rfl ⟨h.lt, hokf, ⟨cap, v2, by rw [YT, if_pos rfl], hcap, ?_⟩, h.lt1, ?_, h.n12, h.np2, h.np1⟩
      · refine hsp.same (Nat.le_refl _) ?_
        simp -implicitDefEqProofs [J0,J1,J2,J3,J4,J5,J6,J7,J8,J9,Ja,Jb,Jc,Jd,Je,Jf,Jg,Jh,Ji,Jj,Jk,Jl,Jm,Jn,Jo,Jp,Jq,Jr,Js,Jt,Ju,Jv,Jw,Jx,Jy,Jz,JA,JB,JC,JD,JE,JF,JG,JH,JI,JJ,JK,JL,JM,JN,JO,JP,stillI,IOp.kind,JQ,JR,JS,JT,JU,JV,JW,JX,JY,JZ,Y0,Y1,Y2,Y3,Y4,Y5,Y6,Y7,Y8,Y9,Ya,Yb,Yc,Yd,Ye,Yf,Yg,Yh,Yi,Yj,Yk,Yl,Ym,Yn,ial,Yo,Yp,Yq,Yr,Ys,Yt,Yu,Yv,ires,iresL,ires1,Yw,Yx,Yy,Yz,YA,YB,bin2,YC,YD,YE,YF,YG,YH,YI,YJ,YK,YL,YM,YN,YO,YP,YQ,YR,un1,shOk,eqL,eq1,fillL,putAt,IHeap.load1,IHeap.loadL,IHeap.storeL,YS,YT,YU,YV,YW,YX,YY,YZ,B0,B1,B2,B3,B4,B5,B6,B7,B8,B9,Ba,Bb,Bc,Bd,Be,Bf,Bg,Bh,Bi,Bj,Bk,Bl,Bm, Ne.symm n2]
      · simp -implicitDefEqProofs [J0,J1,J2,J3,J4,J5,J6,J7,J8,J9,Ja,Jb,Jc,Jd,Je,Jf,Jg,Jh,Ji,Jj,Jk,Jl,Jm,Jn,Jo,Jp,Jq,Jr,Js,Jt,Ju,Jv,Jw,Jx,Jy,Jz,JA,JB,JC,JD,JE,JF,JG,JH,JI,JJ,JK,JL,JM,JN,JO,JP,stillI,IOp.kind,JQ,JR,JS,JT,JU,JV,JW,JX,JY,JZ,Y0,Y1,Y2,Y3,Y4,Y5,Y6,Y7,Y8,Y9,Ya,Yb,Yc,Yd,Ye,Yf,Yg,Yh,Yi,Yj,Yk,Yl,Ym,Yn,ial,Yo,Yp,Yq,Yr,Ys,Yt,Yu,Yv,ires,iresL,ires1,Yw,Yx,Yy,Yz,YA,YB,bin2,YC,YD,YE,YF,YG,YH,YI,YJ,YK,YL,YM,YN,YO,YP,YQ,YR,un1,shOk,eqL,eq1,fillL,putAt,IHeap.load1,IHeap.loadL,IHeap.storeL,YS,YT,YU,YV,YW,YX,YY,YZ,B0,B1,B2,B3,B4,B5,B6,B7,B8,B9,Ba,Bb,Bc,Bd,Be,Bf,Bg,Bh,Bi,Bj,Bk,Bl,Bm, Ne.symm n1]
        exact h.get1
    · have hf' : m.f = false := by simpa using hf
      rw [if_pos (.inr hf')] at hK
      simp -implicitDefEqProofs [J0,J1,J2,J3,J4,J5,J6,J7,J8,J9,Ja,Jb,Jc,Jd,Je,Jf,Jg,Jh,Ji,Jj,Jk,Jl,Jm,Jn,Jo,Jp,Jq,Jr,Js,Jt,Ju,Jv,Jw,Jx,Jy,Jz,JA,JB,JC,JD,JE,JF,JG,JH,JI,JJ,JK,JL,JM,JN,JO,JP,stillI,IOp.kind,JQ,JR,JS,JT,JU,JV,JW,JX,JY,JZ,Y0,Y1,Y2,Y3,Y4,Y5,Y6,Y7,Y8,Y9,Ya,Yb,Yc,Yd,Ye,Yf,Yg,Yh,Yi,Yj,Yk,Yl,Ym,Yn,ial,Yo,Yp,Yq,Yr,Ys,Yt,Yu,Yv,ires,iresL,ires1,Yw,Yx,Yy,Yz,YA,YB,bin2,YC,YD,YE,YF,YG,YH,YI,YJ,YK,YL,YM,YN,YO,YP,YQ,YR,un1,shOk,eqL,eq1,fillL,putAt,IHeap.load1,IHeap.loadL,IHeap.storeL,YS,YT,YU,YV,YW,YX,YY,YZ,B0,B1,B2,B3,B4,B5,B6,B7,B8,B9,Ba,Bb,Bc,Bd,Be,Bf,Bg,Bh,Bi,Bj,Bk,Bl,Bm, c_members_Members_Done, nilOf, hg, he, hf']
      exact hK _ (IHeap.upd_refl _ _) rfl h
  · rw [if_pos he] at hK
    simp -implicitDefEqProofs [J0,J1,J2,J3,J4,J5,J6,J7,J8,J9,Ja,Jb,Jc,Jd,Je,Jf,Jg,Jh,Ji,Jj,Jk,Jl,Jm,Jn,Jo,Jp,Jq,Jr,Js,Jt,Ju,Jv,Jw,Jx,Jy,Jz,JA,JB,JC,JD,JE,JF,JG,JH,JI,JJ,JK,JL,JM,JN,JO,JP,stillI,IOp.kind,JQ,JR,JS,JT,JU,JV,JW,JX,JY,JZ,Y0,Y1,Y2,Y3,Y4,Y5,Y6,Y7,Y8,Y9,Ya,Yb,Yc,Yd,Ye,Yf,Yg,Yh,Yi,Yj,Yk,Yl,Ym,Yn,ial,Yo,Yp,Yq,Yr,Ys,Yt,Yu,Yv,ires,iresL,ires1,Yw,Yx,Yy,Yz,YA,YB,bin2,YC,YD,YE,YF,YG,YH,YI,YJ,YK,YL,YM,YN,YO,YP,YQ,YR,un1,shOk,eqL,eq1,fillL,putAt,IHeap.load1,IHeap.loadL,IHeap.storeL,YS,YT,YU,YV,YW,YX,YY,YZ,B0,B1,B2,B3,B4,B5,B6,B7,B8,B9,Ba,Bb,Bc,Bd,Be,Bf,Bg,Bh,Bi,Bj,Bk,Bl,Bm, c_members_Members_Done, nilOf, hg, he]
    exact hK _ (IHeap.upd_refl _ _) rfl h

theorem putAt_iV {L : List Int} {i : Nat} (hi : i < L.length) (s : Int) : putAt (L.map iV) i [.int .i64 s] = (L.set i s).map iV := by
  rw [List.set_eq_take_append_cons_drop, if_pos hi]
  simp [putAt, List.map_take, List.map_drop, iV]

include hc in
theorem MSwap_ok {p q1 q2 : Nat} {m : Mem} {e : Int} (h : IsM H p q1 q2 m) (hb : m.e < 4611686018427387904) (hK : ∀ H', IHeap.upd [p, q1, q2] H H' → H'.next = H.next → IsM H' p q1 q2 (m.swap e).1 → K (.tuple #[.int .i64 (m.swap e).2.1, .int .i64 (m.swap e).2.2]) H') :
    c.C (c.F n_members_Members_Swap) [.pointer (some ⟨p, 0, none⟩), .int .i64 e] H K := by
  refine c.enter hc.members_Members_Swap rfl ?_
  have hokf := h.ok.swap hb e
  obtain ⟨cap, v2, hg, hcap, hsp⟩ := h.rep
  have hep := h.ok.ep
  have hh1 := h.ok.h1
  have hh2 := h.ok.h2
  have h64 := h.ok.sl
  have h8 := h.ok.eight
  unfold Mem.swap at hK hokf
  have hsp' := hsp
  obtain ⟨a, cap2, rfl⟩ := hsp.slw.len
  simp only [List.length_map] at hg hsp hsp'
  cases hS : m.S with
  | nil =>
    rw [hS] at hK hg
    simp only at hK
    simp -implicitDefEqProofs [J0,J1,J2,J3,J4,J5,J6,J7,J8,J9,Ja,Jb,Jc,Jd,Je,Jf,Jg,Jh,Ji,Jj,Jk,Jl,Jm,Jn,Jo,Jp,Jq,Jr,Js,Jt,Ju,Jv,Jw,Jx,Jy,Jz,JA,JB,JC,JD,JE,JF,JG,JH,JI,JJ,JK,JL,JM,JN,JO,JP,stillI,IOp.kind,JQ,JR,JS,JT,JU,JV,JW,JX,JY,JZ,Y0,Y1,Y2,Y3,Y4,Y5,Y6,Y7,Y8,Y9,Ya,Yb,Yc,Yd,Ye,Yf,Yg,Yh,Yi,Yj,Yk,Yl,Ym,Yn,ial,Yo,Yp,Yq,Yr,Ys,Yt,Yu,Yv,ires,iresL,ires1,Yw,Yx,Yy,Yz,YA,YB,bin2,YC,YD,YE,YF,YG,YH,YI,YJ,YK,YL,YM,YN,YO,YP,YQ,YR,un1,shOk,eqL,eq1,fillL,putAt,IHeap.load1,IHeap.loadL,IHeap.storeL,YS,YT,YU,YV,YW,YX,YY,YZ,B0,B1,B2,B3,B4,B5,B6,B7,B8,B9,Ba,Bb,Bc,Bd,Be,Bf,Bg,Bh,Bi,Bj,Bk,Bl,Bm, c_members_Members_Swap, nilOf, hg]
    exact hK _ (IHeap.upd_refl _ _) rfl h
  | cons s r =>
    rw [hS] at hK hg hsp hokf h64
    simp only at hK hokf
    simp only [List.length_cons] at hg hsp
    have hz : ¬ ((r.length : Int) + 1 = 0) := by omega
    have hz' : (0 : Int) < (r.length : Int) + 1 := by omega
    by_cases he : e = m.e
    · rw [if_neg (by simpa using he)] at hK hokf
      by_cases hbad : m.h < 0 ∨ m.f = true
      · rw [if_pos hbad] at hK
        by_cases hh : m.h = -1
        · simp -implicitDefEqProofs [J0,J1,J2,J3,J4,J5,J6,J7,J8,J9,Ja,Jb,Jc,Jd,Je,Jf,Jg,Jh,Ji,Jj,Jk,Jl,Jm,Jn,Jo,Jp,Jq,Jr,Js,Jt,Ju,Jv,Jw,Jx,Jy,Jz,JA,JB,JC,JD,JE,JF,JG,JH,JI,JJ,JK,JL,JM,JN,JO,JP,stillI,IOp.kind,JQ,JR,JS,JT,JU,JV,JW,JX,JY,JZ,Y0,Y1,Y2,Y3,Y4,Y5,Y6,Y7,Y8,Y9,Ya,Yb,Yc,Yd,Ye,Yf,Yg,Yh,Yi,Yj,Yk,Yl,Ym,Yn,ial,Yo,Yp,Yq,Yr,Ys,Yt,Yu,Yv,ires,iresL,ires1,Yw,Yx,Yy,Yz,YA,YB,bin2,YC,YD,YE,YF,YG,YH,YI,YJ,YK,YL,YM,YN,YO,YP,YQ,YR,un1,shOk,eqL,eq1,fillL,putAt,IHeap.load1,IHeap.loadL,IHeap.storeL,YS,YT,YU,YV,YW,YX,YY,YZ,B0,B1,B2,B3,B4,B5,B6,B7,B8,B9,Ba,Bb,Bc,Bd,Be,Bf,Bg,Bh,Bi,Bj,Bk,Bl,Bm, c_members_Members_Swap, nilOf, hg, hz, he, hh]
          exact hK _ (IHeap.upd_refl _ _) rfl h
        · have hf : m.f = true := hbad.resolve_left (by omega)
          simp -implicitDefEqProofs [J0,J1,J2,J3,J4,J5,J6,J7,J8,J9,Ja,Jb,Jc,Jd,Je,Jf,Jg,Jh,Ji,Jj,Jk,Jl,Jm,Jn,Jo,Jp,Jq,Jr,Js,Jt,Ju,Jv,Jw,Jx,Jy,Jz,JA,JB,JC,JD,JE,JF,JG,JH,JI,JJ,JK,JL,JM,JN,JO,JP,stillI,IOp.kind,JQ,JR,JS,JT,JU,JV,JW,JX,JY,JZ,Y0,Y1,Y2,Y3,Y4,Y5,Y6,Y7,Y8,Y9,Ya,Yb,Yc,Yd,Ye,Yf,Yg,Yh,Yi,Yj,Yk,Yl,Ym,Yn,ial,Yo,Yp,Yq,Yr,Ys,Yt,Yu,Yv,ires,iresL,ires1,Yw,Yx,Yy,Yz,YA,YB,bin2,YC,YD,YE,YF,YG,YH,YI,YJ,YK,YL,YM,YN,YO,YP,YQ,YR,un1,shOk,eqL,eq1,fillL,putAt,IHeap.load1,IHeap.loadL,IHeap.storeL,YS,YT,YU,YV,YW,YX,YY,YZ,B0,B1,B2,B3,B4,B5,B6,B7,B8,B9,Ba,Bb,Bc,Bd,Be,Bf,Bg,Bh,Bi,Bj,Bk,Bl,Bm, c_members_Members_Swap, nilOf, hg, hz, he, hh, hf]
          exact hK _ (IHeap.upd_refl _ _) rfl h
      · rw [if_neg hbad] at hK hokf
        have hh : ¬ m.h = -1 := by omega
        have hh0 : 0 ≤ m.h := by omega
        have hf : m.f = false := by
          have : ¬ m.f = true := fun hx => hbad (.inr hx)
          simpa using this
        have hw : IntKind.i64.wrap (m.e + 1) = m.e + 1 := wrap64 (by omega) (by omega)
        obtain ⟨v', hsl, hspt⟩ := Sp.tail hsp
        have hspt' := hspt
        obtain ⟨a3, cap3, rfl⟩ := hspt'.slw.len
        simp only [List.length_map] at hsl hspt
        obtain ⟨o, cp, cs, ro, e1, hbn, hget, hat⟩ := hsp.head
        simp only [Value.slice.injEq] at e1
        obtain ⟨rfl, -, rfl⟩ := e1
        have n1 := h.np1
        have n2 := h.np2
        have hq1 := h.get1
        have hht : m.h.toNat < m.L.length := by omega
        have hst : m.h.toNat + 1 ≤ m.L.length := by omega
        have hput := putAt_iV hht s
        simp -implicitDefEqProofs [J0,J1,J2,J3,J4,J5,J6,J7,J8,J9,Ja,Jb,Jc,Jd,Je,Jf,Jg,Jh,Ji,Jj,Jk,Jl,Jm,Jn,Jo,Jp,Jq,Jr,Js,Jt,Ju,Jv,Jw,Jx,Jy,Jz,JA,JB,JC,JD,JE,JF,JG,JH,JI,JJ,JK,JL,JM,JN,JO,JP,stillI,IOp.kind,JQ,JR,JS,JT,JU,JV,JW,JX,JY,JZ,Y0,Y1,Y2,Y3,Y4,Y5,Y6,Y7,Y8,Y9,Ya,Yb,Yc,Yd,Ye,Yf,Yg,Yh,Yi,Yj,Yk,Yl,Ym,Yn,ial,Yo,Yp,Yq,Yr,Ys,Yt,Yu,Yv,ires,iresL,ires1,Yw,Yx,Yy,Yz,YA,YB,bin2,YC,YD,YE,YF,YG,YH,YI,YJ,YK,YL,YM,YN,YO,YP,YQ,YR,un1,shOk,eqL,eq1,fillL,putAt,IHeap.load1,IHeap.loadL,IHeap.storeL,YS,YT,YU,YV,YW,YX,YY,YZ,B0,B1,B2,B3,B4,B5,B6,B7,B8,B9,Ba,Bb,Bc,Bd,Be,Bf,Bg,Bh,Bi,Bj,Bk,Bl,Bm, c_members_Members_Swap, nilOf, hg, hz, hz', he, hh, hf, hw, hget, hat, boundsI, natI, hsl, hh0, hh2, hq1, n1, Ne.symm n1, hst, Ne.symm n2]
        refine hK _ (((((IHeap.upd_refl _ H).set (.inr (by simp)) _).set (.inr (by simp)) _).set (.inr (by simp)) _).set (.inr (by simp)) _) rfl ⟨h.lt, hokf, ⟨cap, .slice a3 r.length cap3, ?_, by simpa using hcap, ?_⟩, h.lt1, ?_, h.n12, h.np2, h.np1⟩
        · rw [YT, if_pos rfl]; simp
        · refine hspt.same (Nat.le_refl _) ?_
          simp -implicitDefEqProofs [J0,J1,J2,J3,J4,J5,J6,J7,J8,J9,Ja,Jb,Jc,Jd,Je,Jf,Jg,Jh,Ji,Jj,Jk,Jl,Jm,Jn,Jo,Jp,Jq,Jr,Js,Jt,Ju,Jv,Jw,Jx,Jy,Jz,JA,JB,JC,JD,JE,JF,JG,JH,JI,JJ,JK,JL,JM,JN,JO,JP,stillI,IOp.kind,JQ,JR,JS,JT,JU,JV,JW,JX,JY,JZ,Y0,Y1,Y2,Y3,Y4,Y5,Y6,Y7,Y8,Y9,Ya,Yb,Yc,Yd,Ye,Yf,Yg,Yh,Yi,Yj,Yk,Yl,Ym,Yn,ial,Yo,Yp,Yq,Yr,Ys,Yt,Yu,Yv,ires,iresL,ires1,Yw,Yx,Yy,Yz,YA,YB,bin2,YC,YD,YE,YF,YG,YH,YI,YJ,YK,YL,YM,YN,YO,YP,YQ,YR,un1,shOk,eqL,eq1,fillL,putAt,IHeap.load1,IHeap.loadL,IHeap.storeL,YS,YT,YU,YV,YW,YX,YY,YZ,B0,B1,B2,B3,B4,B5,B6,B7,B8,B9,Ba,Bb,Bc,Bd,Be,Bf,Bg,Bh,Bi,Bj,Bk,Bl,Bm, Ne.symm n2, Ne.symm h.n12]
        · simp -implicitDefEqProofs [J0,J1,J2,J3,J4,J5,J6,J7,J8,J9,Ja,Jb,Jc,Jd,Je,Jf,Jg,Jh,Ji,Jj,Jk,Jl,Jm,Jn,Jo,Jp,Jq,Jr,Js,Jt,Ju,Jv,Jw,Jx,Jy,Jz,JA,JB,JC,JD,JE,JF,JG,JH,JI,JJ,JK,JL,JM,JN,JO,JP,stillI,IOp.kind,JQ,JR,JS,JT,JU,JV,JW,JX,JY,JZ,Y0,Y1,Y2,Y3,Y4,Y5,Y6,Y7,Y8,Y9,Ya,Yb,Yc,Yd,Ye,Yf,Yg,Yh,Yi,Yj,Yk,Yl,Ym,Yn,ial,Yo,Yp,Yq,Yr,Ys,Yt,Yu,Yv,ires,iresL,ires1,Yw,Yx,Yy,Yz,YA,YB,bin2,YC,YD,YE,YF,YG,YH,YI,YJ,YK,YL,YM,YN,YO,YP,YQ,YR,un1,shOk,eqL,eq1,fillL,putAt,IHeap.load1,IHeap.loadL,IHeap.storeL,YS,YT,YU,YV,YW,YX,YY,YZ,B0,B1,B2,B3,B4,B5,B6,B7,B8,B9,Ba,Bb,Bc,Bd,Be,Bf,Bg,Bh,Bi,Bj,Bk,Bl,Bm, Ne.symm n1]
          have : putAt (List.map iV m.L) m.h.toNat [.int .i64 s] = List.take m.h.toNat (List.map iV m.L) ++ Value.int .i64 s :: List.drop (m.h.toNat + 1) (List.map iV m.L) := by simp [putAt]
          rw [← this, hput]; simp [List.map_set]
    · rw [if_pos he] at hK
      simp -implicitDefEqProofs [J0,J1,J2,J3,J4,J5,J6,J7,J8,J9,Ja,Jb,Jc,Jd,Je,Jf,Jg,Jh,Ji,Jj,Jk,Jl,Jm,Jn,Jo,Jp,Jq,Jr,Js,Jt,Ju,Jv,Jw,Jx,Jy,Jz,JA,JB,JC,JD,JE,JF,JG,JH,JI,JJ,JK,JL,JM,JN,JO,JP,stillI,IOp.kind,JQ,JR,JS,JT,JU,JV,JW,JX,JY,JZ,Y0,Y1,Y2,Y3,Y4,Y5,Y6,Y7,Y8,Y9,Ya,Yb,Yc,Yd,Ye,Yf,Yg,Yh,Yi,Yj,Yk,Yl,Ym,Yn,ial,Yo,Yp,Yq,Yr,Ys,Yt,Yu,Yv,ires,iresL,ires1,Yw,Yx,Yy,Yz,YA,YB,bin2,YC,YD,YE,YF,YG,YH,YI,YJ,YK,YL,YM,YN,YO,YP,YQ,YR,un1,shOk,eqL,eq1,fillL,putAt,IHeap.load1,IHeap.loadL,IHeap.storeL,YS,YT,YU,YV,YW,YX,YY,YZ,B0,B1,B2,B3,B4,B5,B6,B7,B8,B9,Ba,Bb,Bc,Bd,Be,Bf,Bg,Bh,Bi,Bj,Bk,Bl,Bm, c_members_Members_Swap, nilOf, hg, hz, he]
      exact hK _ (IHeap.upd_refl _ _) rfl h

/-- A list of lists, just made. -/
theorem made_of {ls : List (Value × List Int)} {b : Nat} (hb : b < H.next) (hg : H.get b = some (.cells (ls.map (·.1)) false)) (hl : ls.length ≤ 1000) : SlW H 1 (.slice (some ⟨b, 0, none⟩) ls.length ls.length) (ls.map fun p => [p.1]) := by
  refine ⟨⟨_, ls.length, by rw [List.length_map], fun _ => ⟨b, 0, _, false, rfl, hb, hg, fun i r hr => ?_⟩⟩, _, _, by rw [List.length_map], .inr ⟨_, _, rfl⟩, .inl ⟨by unfold UNK; omega, by rw [List.length_map]; exact Nat.le_refl _⟩⟩
  obtain ⟨hi, hri⟩ := List.getElem?_eq_some_iff.1 hr
  simp only [List.length_map] at hi
  simp only [List.getElem_map] at hri
  subst hri
  refine ⟨rfl, ?_, by simp; omega⟩
  rw [Nat.mul_one, Nat.zero_add, List.drop_eq_getElem_cons (by simpa using hi)]
  simp
theorem one_of {b : Nat} {x : Int} (hb : b < H.next) (hg : H.get b = some (.cells [.int .i64 x] false)) : SlW H 1 (.slice (some ⟨b, 0, none⟩) 1 1) ([x].map rowI) := tight_of (l := [x]) hb hg (by simp)

include hc in
theorem MAdd_ok {p q1 q2 : Nat} {m : Mem} {s : Int} (h : IsM H p q1 q2 m) (hK : ∀ q2' H', IHeap.upd [p, q1, q2] H H' → (q2' = q2 ∨ (H.next ≤ q2' ∧ q2' < H'.next)) → IsM H' p q1 q2' (m.add s).1 → K (.int .i64 (m.add s).2) H') :
    c.C (c.F n_members_Members_Add) [.pointer (some ⟨p, 0, none⟩), .int .i64 s] H K := by
  refine c.enter hc.members_Members_Add rfl ?_
  have hoka := h.ok.add s
  obtain ⟨cap, v2, hg, hcap, hsp⟩ := h.rep
  have h64 := h.ok.sl
  have h8 := h.ok.eight
  have hpl := h.lt
  have hq1l := h.lt1
  unfold Mem.add at hK hoka
  simp -implicitDefEqProofs [J0,J1,J2,J3,J4,J5,J6,J7,J8,J9,Ja,Jb,Jc,Jd,Je,Jf,Jg,Jh,Ji,Jj,Jk,Jl,Jm,Jn,Jo,Jp,Jq,Jr,Js,Jt,Ju,Jv,Jw,Jx,Jy,Jz,JA,JB,JC,JD,JE,JF,JG,JH,JI,JJ,JK,JL,JM,JN,JO,JP,stillI,IOp.kind,JQ,JR,JS,JT,JU,JV,JW,JX,JY,JZ,Y0,Y1,Y2,Y3,Y4,Y5,Y6,Y7,Y8,Y9,Ya,Yb,Yc,Yd,Ye,Yf,Yg,Yh,Yi,Yj,Yk,Yl,Ym,Yn,ial,Yo,Yp,Yq,Yr,Ys,Yt,Yu,Yv,ires,iresL,ires1,Yw,Yx,Yy,Yz,YA,YB,bin2,YC,YD,YE,YF,YG,YH,YI,YJ,YK,YL,YM,YN,YO,YP,YQ,YR,un1,shOk,eqL,eq1,fillL,putAt,IHeap.load1,IHeap.loadL,IHeap.storeL,YS,YT,YU,YV,YW,YX,YY,YZ,B0,B1,B2,B3,B4,B5,B6,B7,B8,B9,Ba,Bb,Bc,Bd,Be,Bf,Bg,Bh,Bi,Bj,Bk,Bl,Bm, c_members_Members_Add, nilOf]
  obtain ⟨HA, hHA⟩ : ∃ HA : IHeap, HA = (H.alloc (.cells [.int .i64 s] false)).alloc (.cells [.slice (some ⟨H.next, 0, none⟩) 1 1] false) := ⟨_, rfl⟩
  rw [← hHA]
  have leA : H.le HA := by rw [hHA]; exact (H.le_alloc _).alloc _
  have gA0 : HA.get H.next = some (.cells [.int .i64 s] false) := by rw [hHA]; simp -implicitDefEqProofs [J0,J1,J2,J3,J4,J5,J6,J7,J8,J9,Ja,Jb,Jc,Jd,Je,Jf,Jg,Jh,Ji,Jj,Jk,Jl,Jm,Jn,Jo,Jp,Jq,Jr,Js,Jt,Ju,Jv,Jw,Jx,Jy,Jz,JA,JB,JC,JD,JE,JF,JG,JH,JI,JJ,JK,JL,JM,JN,JO,JP,stillI,IOp.kind,JQ,JR,JS,JT,JU,JV,JW,JX,JY,JZ,Y0,Y1,Y2,Y3,Y4,Y5,Y6,Y7,Y8,Y9,Ya,Yb,Yc,Yd,Ye,Yf,Yg,Yh,Yi,Yj,Yk,Yl,Ym,Yn,ial,Yo,Yp,Yq,Yr,Ys,Yt,Yu,Yv,ires,iresL,ires1,Yw,Yx,Yy,Yz,YA,YB,bin2,YC,YD,YE,YF,YG,YH,YI,YJ,YK,YL,YM,YN,YO,YP,YQ,YR,un1,shOk,eqL,eq1,fillL,putAt,IHeap.load1,IHeap.loadL,IHeap.storeL,YS,YT,YU,YV,YW,YX,YY,YZ,B0,B1,B2,B3,B4,B5,B6,B7,B8,B9,Ba,Bb,Bc,Bd,Be,Bf,Bg,Bh,Bi,Bj,Bk,Bl,Bm]
  have gA1 : HA.get (H.next + 1) = some (.cells [.slice (some ⟨H.next, 0, none⟩) 1 1] false) := by rw [hHA]; simp -implicitDefEqProofs [J0,J1,J2,J3,J4,J5,J6,J7,J8,J9,Ja,Jb,Jc,Jd,Je,Jf,Jg,Jh,Ji,Jj,Jk,Jl,Jm,Jn,Jo,Jp,Jq,Jr,Js,Jt,Ju,Jv,Jw,Jx,Jy,Jz,JA,JB,JC,JD,JE,JF,JG,JH,JI,JJ,JK,JL,JM,JN,JO,JP,stillI,IOp.kind,JQ,JR,JS,JT,JU,JV,JW,JX,JY,JZ,Y0,Y1,Y2,Y3,Y4,Y5,Y6,Y7,Y8,Y9,Ya,Yb,Yc,Yd,Ye,Yf,Yg,Yh,Yi,Yj,Yk,Yl,Ym,Yn,ial,Yo,Yp,Yq,Yr,Ys,Yt,Yu,Yv,ires,iresL,ires1,Yw,Yx,Yy,Yz,YA,YB,bin2,YC,YD,YE,YF,YG,YH,YI,YJ,YK,YL,YM,YN,YO,YP,YQ,YR,un1,shOk,eqL,eq1,fillL,putAt,IHeap.load1,IHeap.loadL,IHeap.storeL,YS,YT,YU,YV,YW,YX,YY,YZ,B0,B1,B2,B3,B4,B5,B6,B7,B8,B9,Ba,Bb,Bc,Bd,Be,Bf,Bg,Bh,Bi,Bj,Bk,Bl,Bm]
  have nA : HA.next = H.next + 1 + 1 := by rw [hHA]; rfl
  refine call_of (apart_ok c hc (parts := [(.slice (some ⟨H.next, 0, none⟩) 1 1, [s])]) (made_of (ls := [(.slice (some ⟨H.next, 0, none⟩) 1 1, [s])]) (by omega) gA1 (by simp only [List.length_singleton]; omega)) (fun x hx => ?_) (by simp only [List.length_singleton]; omega) (fun x hx => ?_) fun H1 k1 => ?_)
  · simp only [List.mem_cons, List.not_mem_nil, or_false] at hx
    subst hx
    exact one_of (by omega) gA0
  · simp only [List.mem_cons, List.not_mem_nil, or_false] at hx
    subst hx; simp
  · have n1 := k1.next
    have le1 : H.le H1 := leA.trans k1
    by_cases hbad : s < 0 ∨ 63 < s
    · have e : apart [s] = false := by
        rw [Bool.eq_false_iff]
        intro ht
        have := ((apart_iff _).1 ht).1 s (by simp)
        omega
      rw [if_pos hbad] at hK
      simp -implicitDefEqProofs [J0,J1,J2,J3,J4,J5,J6,J7,J8,J9,Ja,Jb,Jc,Jd,Je,Jf,Jg,Jh,Ji,Jj,Jk,Jl,Jm,Jn,Jo,Jp,Jq,Jr,Js,Jt,Ju,Jv,Jw,Jx,Jy,Jz,JA,JB,JC,JD,JE,JF,JG,JH,JI,JJ,JK,JL,JM,JN,JO,JP,stillI,IOp.kind,JQ,JR,JS,JT,JU,JV,JW,JX,JY,JZ,Y0,Y1,Y2,Y3,Y4,Y5,Y6,Y7,Y8,Y9,Ya,Yb,Yc,Yd,Ye,Yf,Yg,Yh,Yi,Yj,Yk,Yl,Ym,Yn,ial,Yo,Yp,Yq,Yr,Ys,Yt,Yu,Yv,ires,iresL,ires1,Yw,Yx,Yy,Yz,YA,YB,bin2,YC,YD,YE,YF,YG,YH,YI,YJ,YK,YL,YM,YN,YO,YP,YQ,YR,un1,shOk,eqL,eq1,fillL,putAt,IHeap.load1,IHeap.loadL,IHeap.storeL,YS,YT,YU,YV,YW,YX,YY,YZ,B0,B1,B2,B3,B4,B5,B6,B7,B8,B9,Ba,Bb,Bc,Bd,Be,Bf,Bg,Bh,Bi,Bj,Bk,Bl,Bm, e]
      exact hK q2 _ (le1.upd _) (.inl rfl) (h.le le1)
    · have e : apart [s] = true := (apart_iff _).2 ⟨fun x hx => by simp at hx; subst hx; omega, by simp⟩
      rw [if_neg hbad] at hK hoka
      have hM1 := h.le le1
      obtain ⟨cap', v2', hg1, hcap', hsp1⟩ := hM1.rep
      have hpn : p ≠ H1.next := by omega
      have hpn2 : p ≠ H1.next + 1 := by omega
      have hcapv : ∃ a c2, v2' = .slice a m.S.length c2 := by
        obtain ⟨a, c2, e⟩ := hsp1.slw.len
        rw [List.length_map] at e
        exact ⟨a, c2, e⟩
      obtain ⟨a2, c2, rfl⟩ := hcapv
      simp -implicitDefEqProofs [J0,J1,J2,J3,J4,J5,J6,J7,J8,J9,Ja,Jb,Jc,Jd,Je,Jf,Jg,Jh,Ji,Jj,Jk,Jl,Jm,Jn,Jo,Jp,Jq,Jr,Js,Jt,Ju,Jv,Jw,Jx,Jy,Jz,JA,JB,JC,JD,JE,JF,JG,JH,JI,JJ,JK,JL,JM,JN,JO,JP,stillI,IOp.kind,JQ,JR,JS,JT,JU,JV,JW,JX,JY,JZ,Y0,Y1,Y2,Y3,Y4,Y5,Y6,Y7,Y8,Y9,Ya,Yb,Yc,Yd,Ye,Yf,Yg,Yh,Yi,Yj,Yk,Yl,Ym,Yn,ial,Yo,Yp,Yq,Yr,Ys,Yt,Yu,Yv,ires,iresL,ires1,Yw,Yx,Yy,Yz,YA,YB,bin2,YC,YD,YE,YF,YG,YH,YI,YJ,YK,YL,YM,YN,YO,YP,YQ,YR,un1,shOk,eqL,eq1,fillL,putAt,IHeap.load1,IHeap.loadL,IHeap.storeL,YS,YT,YU,YV,YW,YX,YY,YZ,B0,B1,B2,B3,B4,B5,B6,B7,B8,B9,Ba,Bb,Bc,Bd,Be,Bf,Bg,Bh,Bi,Bj,Bk,Bl,Bm, e, hg1, hpn, hpn2, fillL, putAt]
      obtain ⟨HB, hHB⟩ : ∃ HB : IHeap, HB = ((H1.alloc (.cells [.int .i64 s] false)).alloc (.cells [.slice (some ⟨q1, 0, none⟩) m.L.length cap', .slice a2 m.S.length c2, .slice (some ⟨H1.next, 0, none⟩) 1 1] false)) := ⟨_, rfl⟩
      rw [← hHB]
      have leB : H1.le HB := by rw [hHB]; exact (H1.le_alloc _).alloc _
      have gB0 : HB.get H1.next = some (.cells [.int .i64 s] false) := by rw [hHB]; simp -implicitDefEqProofs [J0,J1,J2,J3,J4,J5,J6,J7,J8,J9,Ja,Jb,Jc,Jd,Je,Jf,Jg,Jh,Ji,Jj,Jk,Jl,Jm,Jn,Jo,Jp,Jq,Jr,Js,Jt,Ju,Jv,Jw,Jx,Jy,Jz,JA,JB,JC,JD,JE,JF,JG,JH,JI,JJ,JK,JL,JM,JN,JO,JP,stillI,IOp.kind,JQ,JR,JS,JT,JU,JV,JW,JX,JY,JZ,Y0,Y1,Y2,Y3,Y4,Y5,Y6,Y7,Y8,Y9,Ya,Yb,Yc,Yd,Ye,Yf,Yg,Yh,Yi,Yj,Yk,Yl,Ym,Yn,ial,Yo,Yp,Yq,Yr,Ys,Yt,Yu,Yv,ires,iresL,ires1,Yw,Yx,Yy,Yz,YA,YB,bin2,YC,YD,YE,YF,YG,YH,YI,YJ,YK,YL,YM,YN,YO,YP,YQ,YR,un1,shOk,eqL,eq1,fillL,putAt,IHeap.load1,IHeap.loadL,IHeap.storeL,YS,YT,YU,YV,YW,YX,YY,YZ,B0,B1,B2,B3,B4,B5,B6,B7,B8,B9,Ba,Bb,Bc,Bd,Be,Bf,Bg,Bh,Bi,Bj,Bk,Bl,Bm]
      have gB1 : HB.get (H1.next + 1) = some (.cells [.slice (some ⟨q1, 0, none⟩) m.L.length cap', .slice a2 m.S.length c2, .slice (some ⟨H1.next, 0, none⟩) 1 1] false) := by rw [hHB]; simp -implicitDefEqProofs [J0,J1,J2,J3,J4,J5,J6,J7,J8,J9,Ja,Jb,Jc,Jd,Je,Jf,Jg,Jh,Ji,Jj,Jk,Jl,Jm,Jn,Jo,Jp,Jq,Jr,Js,Jt,Ju,Jv,Jw,Jx,Jy,Jz,JA,JB,JC,JD,JE,JF,JG,JH,JI,JJ,JK,JL,JM,JN,JO,JP,stillI,IOp.kind,JQ,JR,JS,JT,JU,JV,JW,JX,JY,JZ,Y0,Y1,Y2,Y3,Y4,Y5,Y6,Y7,Y8,Y9,Ya,Yb,Yc,Yd,Ye,Yf,Yg,Yh,Yi,Yj,Yk,Yl,Ym,Yn,ial,Yo,Yp,Yq,Yr,Ys,Yt,Yu,Yv,ires,iresL,ires1,Yw,Yx,Yy,Yz,YA,YB,bin2,YC,YD,YE,YF,YG,YH,YI,YJ,YK,YL,YM,YN,YO,YP,YQ,YR,un1,shOk,eqL,eq1,fillL,putAt,IHeap.load1,IHeap.loadL,IHeap.storeL,YS,YT,YU,YV,YW,YX,YY,YZ,B0,B1,B2,B3,B4,B5,B6,B7,B8,B9,Ba,Bb,Bc,Bd,Be,Bf,Bg,Bh,Bi,Bj,Bk,Bl,Bm]
      have nB : HB.next = H1.next + 1 + 1 := by rw [hHB]; rfl
      refine dcall_of c.mono (apart_ok c hc (parts := [(.slice (some ⟨q1, 0, none⟩) m.L.length cap', m.L), (.slice a2 m.S.length c2, m.S), (.slice (some ⟨H1.next, 0, none⟩) 1 1, [s])]) (made_of (ls := [(.slice (some ⟨q1, 0, none⟩) m.L.length cap', m.L), (.slice a2 m.S.length c2, m.S), (.slice (some ⟨H1.next, 0, none⟩) 1 1, [s])]) (by omega) gB1 (by simp only [List.length_cons, List.length_nil]; omega)) (fun x hx => ?_) (by simp only [List.length_cons, List.length_nil]; omega) (fun x hx => ?_) fun H2 k2 => ?_)
      · simp only [List.mem_cons, List.not_mem_nil, or_false] at hx
        rcases hx with rfl | rfl | rfl
        · exact (hM1.le leB).servers hcap'
        · exact (hsp1.le leB).slw
        · exact one_of (by omega) gB0
      · simp only [List.mem_cons, List.not_mem_nil, or_false] at hx
        rcases hx with rfl | rfl | rfl
        · simp only; omega
        · simp only; omega
        · simp only [List.length_singleton]; omega
      · have le2 : H.le H2 := (le1.trans leB).trans k2
        have hM2 := h.le le2
        have hap : apart ([(Value.slice (some ⟨q1, 0, none⟩) m.L.length cap', m.L), (.slice a2 m.S.length c2, m.S), (.slice (some ⟨H1.next, 0, none⟩) 1 1, [s])].map (·.2)).flatten = decide (s ∉ m.L ∧ s ∉ m.S) := by
          have e2 : ([(Value.slice (some ⟨q1, 0, none⟩) m.L.length cap', m.L), (.slice a2 m.S.length c2, m.S), (.slice (some ⟨H1.next, 0, none⟩) 1 1, [s])].map (·.2)).flatten = (m.L ++ m.S) ++ [s] := by simp
          rw [e2]
          by_cases hm : s ∉ m.L ∧ s ∉ m.S
          · rw [decide_eq_true hm]
            exact (apart_iff _).2 (apart_snoc.2 ⟨h.ok.ap, by omega, by omega, by simp [hm]⟩)
          · rw [decide_eq_false hm, Bool.eq_false_iff]
            intro ht
            have := (apart_snoc.1 ((apart_iff _).1 ht)).2.2.2
            simp only [List.mem_append, not_or] at this
            exact hm this
        rw [hap]
        by_cases hm : s ∉ m.L ∧ s ∉ m.S
        · rw [decide_eq_true hm]
          obtain ⟨cap3, v3, hg2, hcap3, hsp2⟩ := hM2.rep
          by_cases hgn : s = m.g
          · rw [if_pos (.inr (.inr hgn))] at hK
            simp -implicitDefEqProofs [J0,J1,J2,J3,J4,J5,J6,J7,J8,J9,Ja,Jb,Jc,Jd,Je,Jf,Jg,Jh,Ji,Jj,Jk,Jl,Jm,Jn,Jo,Jp,Jq,Jr,Js,Jt,Ju,Jv,Jw,Jx,Jy,Jz,JA,JB,JC,JD,JE,JF,JG,JH,JI,JJ,JK,JL,JM,JN,JO,JP,stillI,IOp.kind,JQ,JR,JS,JT,JU,JV,JW,JX,JY,JZ,Y0,Y1,Y2,Y3,Y4,Y5,Y6,Y7,Y8,Y9,Ya,Yb,Yc,Yd,Ye,Yf,Yg,Yh,Yi,Yj,Yk,Yl,Ym,Yn,ial,Yo,Yp,Yq,Yr,Ys,Yt,Yu,Yv,ires,iresL,ires1,Yw,Yx,Yy,Yz,YA,YB,bin2,YC,YD,YE,YF,YG,YH,YI,YJ,YK,YL,YM,YN,YO,YP,YQ,YR,un1,shOk,eqL,eq1,fillL,putAt,IHeap.load1,IHeap.loadL,IHeap.storeL,YS,YT,YU,YV,YW,YX,YY,YZ,B0,B1,B2,B3,B4,B5,B6,B7,B8,B9,Ba,Bb,Bc,Bd,Be,Bf,Bg,Bh,Bi,Bj,Bk,Bl,Bm, stillI, hg2, hgn]
            exact hK q2 _ (le2.upd _) (.inl rfl) hM2
          · have hno : ¬ (0 ≤ atI m.L s ∨ 0 ≤ atI m.S s ∨ s = m.g) := by
              have a1 := atI_neg.2 hm.1
              have a2 := atI_neg.2 hm.2
              omega
            rw [if_neg hno] at hK hoka
            simp -implicitDefEqProofs [J0,J1,J2,J3,J4,J5,J6,J7,J8,J9,Ja,Jb,Jc,Jd,Je,Jf,Jg,Jh,Ji,Jj,Jk,Jl,Jm,Jn,Jo,Jp,Jq,Jr,Js,Jt,Ju,Jv,Jw,Jx,Jy,Jz,JA,JB,JC,JD,JE,JF,JG,JH,JI,JJ,JK,JL,JM,JN,JO,JP,stillI,IOp.kind,JQ,JR,JS,JT,JU,JV,JW,JX,JY,JZ,Y0,Y1,Y2,Y3,Y4,Y5,Y6,Y7,Y8,Y9,Ya,Yb,Yc,Yd,Ye,Yf,Yg,Yh,Yi,Yj,Yk,Yl,Ym,Yn,ial,Yo,Yp,Yq,Yr,Ys,Yt,Yu,Yv,ires,iresL,ires1,Yw,Yx,Yy,Yz,YA,YB,bin2,YC,YD,YE,YF,YG,YH,YI,YJ,YK,YL,YM,YN,YO,YP,YQ,YR,un1,shOk,eqL,eq1,fillL,putAt,IHeap.load1,IHeap.loadL,IHeap.storeL,YS,YT,YU,YV,YW,YX,YY,YZ,B0,B1,B2,B3,B4,B5,B6,B7,B8,B9,Ba,Bb,Bc,Bd,Be,Bf,Bg,Bh,Bi,Bj,Bk,Bl,Bm, stillI, hg2, hgn, lenOfI, firstI, IHeap.loadL]
            have hsp3 := hsp2.le (H2.le_alloc (.cells [.int .i64 s] false))
            obtain ⟨v4, H3, e3, s3, u3, l3⟩ := hsp3.append (by omega) s
            simp only [YU] at l3
            have n2 := le2.next
            have hp2 : p < H2.next := by omega
            have hg3 : H3.get p = _ := (u3.get p (by simp only [YU]; omega) (by have := h.np2; simpa using this)).trans ((YS _ _ _).trans ((if_neg (by omega)).trans hg2))
            obtain ⟨a4, c4, rfl⟩ := s3.slw.len
            simp only [List.length_map] at e3 s3
            simp -implicitDefEqProofs [J0,J1,J2,J3,J4,J5,J6,J7,J8,J9,Ja,Jb,Jc,Jd,Je,Jf,Jg,Jh,Ji,Jj,Jk,Jl,Jm,Jn,Jo,Jp,Jq,Jr,Js,Jt,Ju,Jv,Jw,Jx,Jy,Jz,JA,JB,JC,JD,JE,JF,JG,JH,JI,JJ,JK,JL,JM,JN,JO,JP,stillI,IOp.kind,JQ,JR,JS,JT,JU,JV,JW,JX,JY,JZ,Y0,Y1,Y2,Y3,Y4,Y5,Y6,Y7,Y8,Y9,Ya,Yb,Yc,Yd,Ye,Yf,Yg,Yh,Yi,Yj,Yk,Yl,Ym,Yn,ial,Yo,Yp,Yq,Yr,Ys,Yt,Yu,Yv,ires,iresL,ires1,Yw,Yx,Yy,Yz,YA,YB,bin2,YC,YD,YE,YF,YG,YH,YI,YJ,YK,YL,YM,YN,YO,YP,YQ,YR,un1,shOk,eqL,eq1,fillL,putAt,IHeap.load1,IHeap.loadL,IHeap.storeL,YS,YT,YU,YV,YW,YX,YY,YZ,B0,B1,B2,B3,B4,B5,B6,B7,B8,B9,Ba,Bb,Bc,Bd,Be,Bf,Bg,Bh,Bi,Bj,Bk,Bl,Bm, e3, hg3]
            have n3 := u3.next
            simp only [YU] at n3 s3
            have hq : H2.next ≠ q1 := by omega
            have hq1' : H3.get q1 = some (.cells (m.L.map iV) false) := (u3.get q1 (by simp only [YU]; omega) (by have := h.n12; simpa using this)).trans ((YS _ _ _).trans ((if_neg (by omega)).trans hM2.get1))
            refine hK (H2.next + 1) _ ?_ (.inr ⟨by omega, by simp only [YV]; omega⟩) ⟨by simp only [YV]; omega, hoka, ⟨cap3, _, by rw [YT, if_pos rfl]; simp, hcap3, s3.same (by simp [YV]) (by rw [YT, if_neg (by omega)])⟩, by simp only [YV]; omega, by rw [YT, if_neg (Ne.symm h.np1)]; exact hq1', by omega, by omega, h.np1⟩
            have u4 : IHeap.upd [p, q1, q2] H H3 := by
              have w1 : IHeap.upd [q2] H H3 := (le2.alloc _).updTrans u3
              exact ⟨w1.next, fun b hb hs => w1.get b hb (by simp at hs ⊢; exact hs.2.2)⟩
            exact u4.set (.inr (by simp)) _
        · rw [decide_eq_false hm]
          have hyes : 0 ≤ atI m.L s ∨ 0 ≤ atI m.S s ∨ s = m.g := by
            by_cases h1 : s ∈ m.L
            · obtain ⟨i, _, e1, _⟩ := atI_mem h1
              left; omega
            · by_cases h2 : s ∈ m.S
              · obtain ⟨i, _, e1, _⟩ := atI_mem h2
                right; left; omega
              · exact absurd ⟨h1, h2⟩ hm
          rw [if_pos hyes] at hK
          simp -implicitDefEqProofs [J0,J1,J2,J3,J4,J5,J6,J7,J8,J9,Ja,Jb,Jc,Jd,Je,Jf,Jg,Jh,Ji,Jj,Jk,Jl,Jm,Jn,Jo,Jp,Jq,Jr,Js,Jt,Ju,Jv,Jw,Jx,Jy,Jz,JA,JB,JC,JD,JE,JF,JG,JH,JI,JJ,JK,JL,JM,JN,JO,JP,stillI,IOp.kind,JQ,JR,JS,JT,JU,JV,JW,JX,JY,JZ,Y0,Y1,Y2,Y3,Y4,Y5,Y6,Y7,Y8,Y9,Ya,Yb,Yc,Yd,Ye,Yf,Yg,Yh,Yi,Yj,Yk,Yl,Ym,Yn,ial,Yo,Yp,Yq,Yr,Ys,Yt,Yu,Yv,ires,iresL,ires1,Yw,Yx,Yy,Yz,YA,YB,bin2,YC,YD,YE,YF,YG,YH,YI,YJ,YK,YL,YM,YN,YO,YP,YQ,YR,un1,shOk,eqL,eq1,fillL,putAt,IHeap.load1,IHeap.loadL,IHeap.storeL,YS,YT,YU,YV,YW,YX,YY,YZ,B0,B1,B2,B3,B4,B5,B6,B7,B8,B9,Ba,Bb,Bc,Bd,Be,Bf,Bg,Bh,Bi,Bj,Bk,Bl,Bm, stillI]
          exact hK q2 _ (le2.upd _) (.inl rfl) hM2

end
end Go.Proofs.YtkphglpmhebglaaI
