/- Who is in a group: any deed of both. -/
import Derived.Test.YtkphglpmhebglaaMemL
namespace Go.Proofs.YtkphglpmhebglaaI
set_option linter.unusedSimpArgs false
set_option linter.unusedVariables false
open Go

section
variable (c : Ctx) (hc : HasMembers c) (hR : HasRef23 c) (hT : HasLaw23 c) {H : IHeap} {K : Value → IHeap → Prop}

include hT in
theorem doN_ok23 {S : List Nat} {p q1 q2 : Nat} {v : Value} {m : Mem} {d : DM} (hM : IsM H p q1 q2 m) (hq2 : q2 < H.next) (hv : RM H (p :: q1 :: q2 :: S) v m) (h0 : ¬ d.k = 0) (h1 : ¬ d.k = 1) (h2 : ¬ d.k = 2) (h3 : ¬ d.k = 3)
    (hK : ∀ v' H', H.le H' → RM H' (p :: q1 :: q2 :: S) v' m → K (.tuple #[v', .bool true]) H') :
    c.C (c.F n_hurdlelaw23_do) [.pointer (some ⟨p, 0, none⟩), v, dmV d] H K := by
  refine c.enter hT.hurdlelaw23_do rfl ?_
  have hv0 := hv
  obtain ⟨v1, v2, rfl, w1, w2, o1, o2⟩ := hv
  obtain ⟨a1, c1, rfl⟩ := w1.len
  obtain ⟨a2, c2, rfl⟩ := w2.len
  simp only [List.length_map] at hv0 w1 w2 o1 o2
  obtain ⟨k, a, b, now⟩ := d
  simp only at h0 h1 h2 h3
  obtain ⟨HA, hHA⟩ : ∃ HA : IHeap, HA = ((H.alloc (.cells [.slice a1 m.L.length c1, .slice a2 m.S.length c2, .int .i64 m.e, .int .i64 m.h, .bool m.f, .int .i64 m.g] false)).alloc (.cells [.int .i64 k, .int .i64 a, .int .i64 b, .bool now] false)).alloc (.cells [.slice none 0 0, .slice none 0 0, .int .i64 0, .int .i64 0, .bool false, .int .i64 0] false) := ⟨_, rfl⟩
  have kA : H.le HA := by rw [hHA]; exact ((H.le_alloc _).alloc _).alloc _
  have nA : HA.next = H.next + 1 + 1 + 1 := by rw [hHA]; rfl
  have gA : HA.get (H.next + 1 + 1) = some (.cells [.slice none 0 0, .slice none 0 0, .int .i64 0, .int .i64 0, .bool false, .int .i64 0] false) := by rw [hHA, YS, if_pos (by simp only [YU])]
  have gC : HA.get (H.next + 1) = some (.cells [.int .i64 k, .int .i64 a, .int .i64 b, .bool now] false) := by rw [hHA, YS, if_neg (by simp only [YU]; omega), YS, if_pos (by simp only [YU])]
  have gB : HA.get H.next = some (.cells [.slice a1 m.L.length c1, .slice a2 m.S.length c2, .int .i64 m.e, .int .i64 m.h, .bool m.f, .int .i64 m.g] false) := by rw [hHA, YS, if_neg (by simp only [YU]; omega), YS, if_neg (by simp only [YU]; omega), YS, if_pos rfl]
  have kB : ∀ x, H.le (HA.set (H.next + 1 + 1) x) := fun x => kA.set (by omega) _
  by_cases hk : k < 3
  · cases now
    all_goals
      simp -implicitDefEqProofs [J0,J1,J2,J3,J4,J5,J6,J7,J8,J9,Ja,Jb,Jc,Jd,Je,Jf,Jg,Jh,Ji,Jj,Jk,Jl,Jm,Jn,Jo,Jp,Jq,Jr,Js,Jt,Ju,Jv,Jw,Jx,Jy,Jz,JA,JB,JC,JD,JE,JF,JG,JH,JI,JJ,JK,JL,JM,JN,JO,JP,stillI,IOp.kind,JQ,JR,JS,JT,JU,JV,JW,JX,JY,JZ,Y0,Y1,Y2,Y3,Y4,Y5,Y6,Y7,Y8,Y9,Ya,Yb,Yc,Yd,Ye,Yf,Yg,Yh,Yi,Yj,Yk,Yl,Ym,Yn,ial,Yo,Yp,Yq,Yr,Ys,Yt,Yu,Yv,ires,iresL,ires1,Yw,Yx,Yy,Yz,YA,YB,bin2,YC,YD,YE,YF,YG,YH,YI,YJ,YK,YL,YM,YN,YO,YP,YQ,YR,un1,shOk,eqL,eq1,fillL,putAt,IHeap.load1,IHeap.loadL,IHeap.storeL,YS,YT,YU,YV,YW,YX,YY,YZ,B0,B1,B2,B3,B4,B5,B6,B7,B8,B9,Ba,Bb,Bc,Bd,Be,Bf,Bg,Bh,Bi,Bj,Bk,Bl,Bm, c_hurdlelaw23_do, dmV, ← hHA, gA, gB, gC, h0, h1, h2, h3, hk]
      exact hK _ _ (kB _) (hv0.le (kB _))
  · cases now
    all_goals
      simp -implicitDefEqProofs [J0,J1,J2,J3,J4,J5,J6,J7,J8,J9,Ja,Jb,Jc,Jd,Je,Jf,Jg,Jh,Ji,Jj,Jk,Jl,Jm,Jn,Jo,Jp,Jq,Jr,Js,Jt,Ju,Jv,Jw,Jx,Jy,Jz,JA,JB,JC,JD,JE,JF,JG,JH,JI,JJ,JK,JL,JM,JN,JO,JP,stillI,IOp.kind,JQ,JR,JS,JT,JU,JV,JW,JX,JY,JZ,Y0,Y1,Y2,Y3,Y4,Y5,Y6,Y7,Y8,Y9,Ya,Yb,Yc,Yd,Ye,Yf,Yg,Yh,Yi,Yj,Yk,Yl,Ym,Yn,ial,Yo,Yp,Yq,Yr,Ys,Yt,Yu,Yv,ires,iresL,ires1,Yw,Yx,Yy,Yz,YA,YB,bin2,YC,YD,YE,YF,YG,YH,YI,YJ,YK,YL,YM,YN,YO,YP,YQ,YR,un1,shOk,eqL,eq1,fillL,putAt,IHeap.load1,IHeap.loadL,IHeap.storeL,YS,YT,YU,YV,YW,YX,YY,YZ,B0,B1,B2,B3,B4,B5,B6,B7,B8,B9,Ba,Bb,Bc,Bd,Be,Bf,Bg,Bh,Bi,Bj,Bk,Bl,Bm, c_hurdlelaw23_do, dmV, ← hHA, gA, gB, gC, h0, h1, h2, h3, hk]
      exact hK _ _ (kB _) (hv0.le (kB _))

include hc hR hT in
theorem do_ok23 {S : List Nat} {p q1 q2 : Nat} {v : Value} {m : Mem} {d : DM} (hM : IsM H p q1 q2 m) (hq2 : q2 < H.next) (hSl : ∀ b ∈ S, b < H.next) (hv : RM H (p :: q1 :: q2 :: S) v m) (hb : m.e < 4611686018427387904)
    (hK : ∀ q2' v' H', IHeap.upd [p, q1, q2] H H' → (q2' = q2 ∨ H.next ≤ q2') → q2' < H'.next → IsM H' p q1 q2' (m.deed d) → RM H' (p :: q1 :: q2' :: S) v' (m.deed d) → K (.tuple #[v', .bool true]) H') :
    c.C (c.F n_hurdlelaw23_do) [.pointer (some ⟨p, 0, none⟩), v, dmV d] H K := by
  by_cases h0 : d.k = 0
  · obtain ⟨k, a, b, now⟩ := d
    simp only at h0; subst h0
    exact do0_ok23 c hc hR hT hM hq2 hSl hv hb hK
  · by_cases h1 : d.k = 1
    · obtain ⟨k, a, b, now⟩ := d
      simp only at h1; subst h1
      exact do1_ok23 c hc hR hT hM hq2 hSl hv hb hK
    · by_cases h2 : d.k = 2
      · obtain ⟨k, a, b, now⟩ := d
        simp only at h2; subst h2
        exact do2_ok23 c hc hR hT hM hq2 hSl hv hb hK
      · by_cases h3 : d.k = 3
        · obtain ⟨k, a, b, now⟩ := d
          simp only at h3; subst h3
          exact do3_ok23 c hc hR hT hM hq2 hSl hv hb hK
        · have e : m.deed d = m := by simp [Mem.deed, h0, h1, h2, h3]
          rw [e] at hK
          exact doN_ok23 c hT hM hq2 hv h0 h1 h2 h3 fun v' H' hl r => hK q2 v' H' (hl.upd _) (.inl rfl) (Nat.lt_of_lt_of_le hq2 hl.next) (hM.le hl) r

end
end Go.Proofs.YtkphglpmhebglaaI
