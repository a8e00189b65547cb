/- Segments: what stays while deeds are done; the chapter's example; scores; none. -/
import Derived.Test.YtdfjicnjcibdaaaUseJ
import Derived.Test.YtdfjicnjcibdaaaPartLaw26
namespace Go.Proofs.YtdfjicnjcibdaaaI
set_option linter.unusedSimpArgs false
set_option linter.unusedVariables false
open Go

/-- Segments that has none of S. -/
def StT (S : Nat → Prop) (H : IHeap) (p : Nat) (L : List UseD) : Prop := (∀ b, S b → b < H.next) ∧ ¬ S p ∧ ∃ q, IsT H p q L ∧ ¬ S q
theorem StT.sub {S S' : Nat → Prop} {H : IHeap} {p : Nat} {L : List UseD} (h : StT S H p L) (hs : ∀ b, S' b → S b) : StT S' H p L := by
  obtain ⟨a, b, q, c, d⟩ := h
  exact ⟨fun x hx => a x (hs x hx), fun hx => b (hs p hx), q, c, fun hx => d (hs q hx)⟩
theorem StT.grow {S : Nat → Prop} {H H' : IHeap} {p : Nat} {L : List UseD} (h : StT S H p L) (hl : H.le H') : StT (fun b => S b ∨ (H.next ≤ b ∧ b < H'.next)) H' p L := by
  obtain ⟨a, b, q, c, d⟩ := h
  have hn := hl.next
  have hp := c.lt
  refine ⟨fun x hx => ?_, fun hx => ?_, ?_⟩
  · rcases hx with hx | hx
    · have := a x hx; omega
    · exact hx.2
  · rcases hx with hx | hx
    · exact b hx
    · omega
  · by_cases hq : q < H.next
    · refine ⟨q, c.le hl, fun hx => ?_⟩
      rcases hx with hx | hx
      · exact d hx
      · omega
    · refine ⟨H'.next, ?_, fun hx => ?_⟩
      · obtain ⟨u, g1, g2⟩ := c.rep
        have g3 : VS H H'.next u (L.map rowT) := by
          rcases g2 with g2 | ⟨cs, g2, _⟩
          · exact .inl g2
          · exact absurd g2 hq
        have c' : IsT H p H'.next L := ⟨c.lt, by omega, ⟨u, g1, g3⟩, c.sorted⟩
        exact c'.le hl
      · rcases hx with hx | hx
        · have := a _ hx; omega
        · omega
theorem StT.le {S : Nat → Prop} {H H' : IHeap} {p : Nat} {L : List UseD} (h : StT S H p L) (hl : H.le H') : StT S H' p L := (h.grow hl).sub fun b hb => .inl hb
theorem StT.sorted {S : Nat → Prop} {H : IHeap} {p : Nat} {L : List UseD} (h : StT S H p L) : SortedT L := h.2.2.elim fun _ h => h.1.sorted
theorem StT.kept {S : Nat → Prop} {H H' : IHeap} {p q : Nat} {L : List UseD} (h : StT S H p L) (hq : ¬ S q) (hu : IHeap.upd [p, q] H H') : keptS S H H' :=
  ⟨hu.next, fun b hb => hu.get b (h.1 b hb) fun hm => by
    simp only [List.mem_cons, List.not_mem_nil, or_false] at hm
    rcases hm with e | e
    · exact h.2.1 (e ▸ hb)
    · exact hq (e ▸ hb)⟩


section
variable (c : Ctx) (hc : HasUse c) (hE : IsErr c) (hI : InsOkT c) (hR : HasRef26 c) (h01 : HasRef01 c) (hT : HasLaw26 c) {H : IHeap} {K : Value → IHeap → Prop}

include hc in
theorem New_t {S : Nat → Prop} (hS : ∀ b, S b → b < H.next) (hK : ∀ H', H.le H' → H.next < H'.next → StT S H' H.next [] → K (.pointer (some ⟨H.next, 0, none⟩)) H') : c.C (c.F n_usage_New) [] H K := by
  refine TNew_ok c hc fun H' k i => hK H' k (i (H.next + 1) (by omega)).lt ?_
  have hn := k.next
  have hlt := (i (H.next + 1) (by omega)).lt
  exact ⟨fun b hb => by have := hS b hb; omega, fun hb => by have := hS _ hb; omega, H'.next, i _ (by omega), fun hb => by have := hS _ hb; omega⟩
include hc hE hI in
theorem Add_t {S : Nat → Prop} {p : Nat} {L : List UseD} {x : UseD} (h : StT S H p L) (hl : L.length ≤ 1000000)
    (hK : ∀ H', keptS S H H' → StT S H' p (addT L x).1 → K (.int .i64 (addT L x).2) H') : c.C (c.F n_usage_Usage_Add) [.pointer (some ⟨p, 0, none⟩), .int .i64 x.seg, .int .i64 x.size, .int .i64 x.live, .int .i64 x.born] H K := by
  have h' := h
  obtain ⟨x, y, q, i, z⟩ := h'
  refine TAdd_ok c hc hE hI i hl fun q' H' u hq i' => hK H' (h.kept z u) ⟨fun b hb => Nat.lt_of_lt_of_le (x b hb) u.next, y, q', i', fun hb => ?_⟩
  rcases hq with rfl | hq
  · exact z hb
  · have := x _ hb; omega
include hc hE in
theorem Dead_t {S : Nat → Prop} {p : Nat} {L : List UseD} {s n : Int} (h : StT S H p L) (hl : L.length ≤ 1000000) (ho : ∀ e ∈ L, okT e)
    (hK : ∀ H', keptS S H H' → StT S H' p (deadT L s n).1 → K (.int .i64 (deadT L s n).2) H') : c.C (c.F n_usage_Usage_Dead) [.pointer (some ⟨p, 0, none⟩), .int .i64 s, .int .i64 n] H K := by
  have h' := h
  obtain ⟨x, y, q, i, z⟩ := h'
  exact TDead_ok c hc hE i hl ho fun H' u i' => hK H' (h.kept z u) ⟨fun b hb => Nat.lt_of_lt_of_le (x b hb) u.next, y, q, i', z⟩
include hc in
theorem Drop_t {S : Nat → Prop} {p : Nat} {L : List UseD} {s : Int} (h : StT S H p L) (hl : L.length ≤ 1000000)
    (hK : ∀ H', keptS S H H' → StT S H' p (dropT L s).1 → K (.bool (dropT L s).2) H') : c.C (c.F n_usage_Usage_Drop) [.pointer (some ⟨p, 0, none⟩), .int .i64 s] H K := by
  have h' := h
  obtain ⟨x, y, q, i, z⟩ := h'
  exact TDrop_ok c hc i hl fun H' u i' => hK H' (h.kept z u) ⟨fun b hb => Nat.lt_of_lt_of_le (x b hb) u.next, y, q, i', z⟩
include hc in
theorem Pick_t {S : Nat → Prop} {p : Nat} {L : List UseD} {now : Int} (h : StT S H p L) (hl : L.length ≤ 1000000) (hnow : now < 9223372036854775808)
    (hK : ∀ H', H.le H' → K (.tuple #[.int .i64 (pickV (pickT L now)).1, .bool (pickV (pickT L now)).2]) H') : c.C (c.F n_usage_Usage_Pick) [.pointer (some ⟨p, 0, none⟩), .int .i64 now] H K :=
  h.2.2.elim fun _ h => TPick_ok c hc h.1 hl hnow hK
include hc in
theorem Live_t {S : Nat → Prop} {p : Nat} {L : List UseD} (h : StT S H p L) (hl : L.length ≤ 1000000) (ho : ∀ e ∈ L, okT e) (hK : ∀ H', H.le H' → K (.int .i64 (liveT L)) H') : c.C (c.F n_usage_Usage_Live) [.pointer (some ⟨p, 0, none⟩)] H K :=
  h.2.2.elim fun _ h => TLive_ok c hc h.1 hl ho hK
include hc in
theorem Empty_t {S : Nat → Prop} {p : Nat} {L : List UseD} (h : StT S H p L) (hl : L.length ≤ 1000000) (hK : ∀ v H', H.le H' → Grow H' H.next 1 v ((emptyT L).map rowI) → K v H') : c.C (c.F n_usage_Usage_Empty) [.pointer (some ⟨p, 0, none⟩)] H K :=
  h.2.2.elim fun _ h => TEmpty_ok c hc h.1 hl hK
include hc in
theorem All_t {S : Nat → Prop} {p : Nat} {L : List UseD} (h : StT S H p L) (hl : L.length ≤ 1000000) (hK : ∀ v' H', H.le H' → SlW H' 4 v' (L.map rowT) → Fresh H.next v' → K v' H') : c.C (c.F n_usage_Usage_All) [.pointer (some ⟨p, 0, none⟩)] H K :=
  h.2.2.elim fun _ h => TAll_ok c hc h.1 hl hK

omit H K in
theorem okX (a b e d : Int) (h : mayT ⟨a, b, e, d⟩ = true) (h1 : 0 ≤ a) (h2 : a < 4096) : okT ⟨a, b, e, d⟩ := ⟨h, h1, h2⟩

include hc hE hI h01 hT in
theorem awake26 (hK : ∀ H', K (.bool true) H') : c.C (c.F n_hurdlelaw26_awake) [] H K := by
  refine c.enter hT.hurdlelaw26_awake rfl ?_
  have e1 : addT [] ⟨3, 100, 50, 1⟩ = ([⟨3, 100, 50, 1⟩], 0) := by decide
  have e2 : addT [⟨3, 100, 50, 1⟩] ⟨3, 1, 1, 1⟩ = ([⟨3, 100, 50, 1⟩], 6) := by decide
  have e3 : addT [⟨3, 100, 50, 1⟩] ⟨4, 100, 0, 5⟩ = ([⟨3, 100, 50, 1⟩, ⟨4, 100, 0, 5⟩], 0) := by decide
  have e4 : pickV (pickT [⟨3, 100, 50, 1⟩, ⟨4, 100, 0, 5⟩] 10) = (4, true) := by decide
  have e5 : deadT [⟨3, 100, 50, 1⟩, ⟨4, 100, 0, 5⟩] 3 51 = ([⟨3, 100, 50, 1⟩, ⟨4, 100, 0, 5⟩], 2) := by decide
  have e6 : deadT [⟨3, 100, 50, 1⟩, ⟨4, 100, 0, 5⟩] 3 50 = ([⟨3, 100, 0, 1⟩, ⟨4, 100, 0, 5⟩], 0) := by decide
  have e7 : emptyT [⟨3, 100, 0, 1⟩, ⟨4, 100, 0, 5⟩] = [3, 4] := by decide
  have e8 : liveT [⟨3, 100, 0, 1⟩, ⟨4, 100, 0, 5⟩] = 0 := by decide
  have e9 : dropT [⟨3, 100, 0, 1⟩, ⟨4, 100, 0, 5⟩] 3 = ([⟨4, 100, 0, 5⟩], true) := by decide
  have e10 : dropT [⟨4, 100, 0, 5⟩] 3 = ([⟨4, 100, 0, 5⟩], false) := by decide
  have e11 : scoreT ⟨0, 100, 50, 1⟩ 10 = 3333 := by decide
  have o3 : ∀ e ∈ [(⟨3, 100, 50, 1⟩ : UseD), ⟨4, 100, 0, 5⟩], okT e := by
    intro e he
    simp only [List.mem_cons, List.not_mem_nil, or_false] at he
    rcases he with rfl | rfl <;> exact ⟨by decide, by decide, by decide⟩
  have o6 : ∀ e ∈ [(⟨3, 100, 0, 1⟩ : UseD), ⟨4, 100, 0, 5⟩], okT e := by
    intro e he
    simp only [List.mem_cons, List.not_mem_nil, or_false] at he
    rcases he with rfl | rfl <;> exact ⟨by decide, by decide, by decide⟩
  simp -implicitDefEqProofs [J0,J1,J2,J3,J4,J5,J6,J7,J8,J9,Ja,Jb,Jc,Jd,Je,Jf,Jg,Jh,Ji,Jj,Jk,Jl,Jm,Jn,Jo,Jp,Jq,Jr,Js,Jt,Ju,Jv,Jw,Jx,Jy,Jz,JA,JB,JC,JD,JE,JF,JG,JH,JI,JJ,JK,JL,JM,JN,JO,JP,stillI,IOp.kind,JQ,JR,JS,JT,JU,JV,JW,JX,JY,JZ,Y0,Y1,Y2,Y3,Y4,Y5,Y6,Y7,Y8,Y9,Ya,Yb,Yc,Yd,Ye,Yf,Yg,Yh,Yi,Yj,Yk,Yl,Ym,Yn,ial,Yo,Yp,Yq,Yr,Ys,Yt,Yu,Yv,ires,iresL,ires1,Yw,Yx,Yy,Yz,YA,YB,bin2,YC,YD,YE,YF,YG,YH,YI,YJ,YK,YL,YM,YN,YO,YP,YQ,YR,un1,shOk,eqL,eq1,fillL,putAt,IHeap.load1,IHeap.loadL,IHeap.storeL,YS,YT,YU,YV,YW,YX,YY,YZ,B0,B1,B2,B3,B4,B5,B6,B7,B8,B9,Ba,Bb,Bc,Bd,Be,Bf,Bg,Bh,Bi,Bj,Bk,Bl,Bm, c_hurdlelaw26_awake]
  refine call_of (New_t c hc (S := fun _ => False) (by simp) fun H1 k1 n1 s1 => ?_)
  obtain ⟨p, hp⟩ : ∃ p, p = H.next := ⟨_, rfl⟩
  rw [← hp] at s1 ⊢
  simp -implicitDefEqProofs [J0,J1,J2,J3,J4,J5,J6,J7,J8,J9,Ja,Jb,Jc,Jd,Je,Jf,Jg,Jh,Ji,Jj,Jk,Jl,Jm,Jn,Jo,Jp,Jq,Jr,Js,Jt,Ju,Jv,Jw,Jx,Jy,Jz,JA,JB,JC,JD,JE,JF,JG,JH,JI,JJ,JK,JL,JM,JN,JO,JP,stillI,IOp.kind,JQ,JR,JS,JT,JU,JV,JW,JX,JY,JZ,Y0,Y1,Y2,Y3,Y4,Y5,Y6,Y7,Y8,Y9,Ya,Yb,Yc,Yd,Ye,Yf,Yg,Yh,Yi,Yj,Yk,Yl,Ym,Yn,ial,Yo,Yp,Yq,Yr,Ys,Yt,Yu,Yv,ires,iresL,ires1,Yw,Yx,Yy,Yz,YA,YB,bin2,YC,YD,YE,YF,YG,YH,YI,YJ,YK,YL,YM,YN,YO,YP,YQ,YR,un1,shOk,eqL,eq1,fillL,putAt,IHeap.load1,IHeap.loadL,IHeap.storeL,YS,YT,YU,YV,YW,YX,YY,YZ,B0,B1,B2,B3,B4,B5,B6,B7,B8,B9,Ba,Bb,Bc,Bd,Be,Bf,Bg,Bh,Bi,Bj,Bk,Bl,Bm, nilOf]
  refine call_of (Add_t c hc hE hI (x := ⟨3, 100, 50, 1⟩) s1 (by simp) fun H2 k2 s2 => ?_)
  rw [e1] at s2 ⊢
  simp -implicitDefEqProofs [J0,J1,J2,J3,J4,J5,J6,J7,J8,J9,Ja,Jb,Jc,Jd,Je,Jf,Jg,Jh,Ji,Jj,Jk,Jl,Jm,Jn,Jo,Jp,Jq,Jr,Js,Jt,Ju,Jv,Jw,Jx,Jy,Jz,JA,JB,JC,JD,JE,JF,JG,JH,JI,JJ,JK,JL,JM,JN,JO,JP,stillI,IOp.kind,JQ,JR,JS,JT,JU,JV,JW,JX,JY,JZ,Y0,Y1,Y2,Y3,Y4,Y5,Y6,Y7,Y8,Y9,Ya,Yb,Yc,Yd,Ye,Yf,Yg,Yh,Yi,Yj,Yk,Yl,Ym,Yn,ial,Yo,Yp,Yq,Yr,Ys,Yt,Yu,Yv,ires,iresL,ires1,Yw,Yx,Yy,Yz,YA,YB,bin2,YC,YD,YE,YF,YG,YH,YI,YJ,YK,YL,YM,YN,YO,YP,YQ,YR,un1,shOk,eqL,eq1,fillL,putAt,IHeap.load1,IHeap.loadL,IHeap.storeL,YS,YT,YU,YV,YW,YX,YY,YZ,B0,B1,B2,B3,B4,B5,B6,B7,B8,B9,Ba,Bb,Bc,Bd,Be,Bf,Bg,Bh,Bi,Bj,Bk,Bl,Bm]
  refine call_of (Add_t c hc hE hI (x := ⟨3, 1, 1, 1⟩) s2 (by simp) fun H3 k3 s3 => ?_)
  rw [e2] at s3 ⊢
  simp -implicitDefEqProofs [J0,J1,J2,J3,J4,J5,J6,J7,J8,J9,Ja,Jb,Jc,Jd,Je,Jf,Jg,Jh,Ji,Jj,Jk,Jl,Jm,Jn,Jo,Jp,Jq,Jr,Js,Jt,Ju,Jv,Jw,Jx,Jy,Jz,JA,JB,JC,JD,JE,JF,JG,JH,JI,JJ,JK,JL,JM,JN,JO,JP,stillI,IOp.kind,JQ,JR,JS,JT,JU,JV,JW,JX,JY,JZ,Y0,Y1,Y2,Y3,Y4,Y5,Y6,Y7,Y8,Y9,Ya,Yb,Yc,Yd,Ye,Yf,Yg,Yh,Yi,Yj,Yk,Yl,Ym,Yn,ial,Yo,Yp,Yq,Yr,Ys,Yt,Yu,Yv,ires,iresL,ires1,Yw,Yx,Yy,Yz,YA,YB,bin2,YC,YD,YE,YF,YG,YH,YI,YJ,YK,YL,YM,YN,YO,YP,YQ,YR,un1,shOk,eqL,eq1,fillL,putAt,IHeap.load1,IHeap.loadL,IHeap.storeL,YS,YT,YU,YV,YW,YX,YY,YZ,B0,B1,B2,B3,B4,B5,B6,B7,B8,B9,Ba,Bb,Bc,Bd,Be,Bf,Bg,Bh,Bi,Bj,Bk,Bl,Bm]
  refine call_of (Add_t c hc hE hI (x := ⟨4, 100, 0, 5⟩) s3 (by simp) fun H4 k4 s4 => ?_)
  rw [e3] at s4 ⊢
  simp -implicitDefEqProofs [J0,J1,J2,J3,J4,J5,J6,J7,J8,J9,Ja,Jb,Jc,Jd,Je,Jf,Jg,Jh,Ji,Jj,Jk,Jl,Jm,Jn,Jo,Jp,Jq,Jr,Js,Jt,Ju,Jv,Jw,Jx,Jy,Jz,JA,JB,JC,JD,JE,JF,JG,JH,JI,JJ,JK,JL,JM,JN,JO,JP,stillI,IOp.kind,JQ,JR,JS,JT,JU,JV,JW,JX,JY,JZ,Y0,Y1,Y2,Y3,Y4,Y5,Y6,Y7,Y8,Y9,Ya,Yb,Yc,Yd,Ye,Yf,Yg,Yh,Yi,Yj,Yk,Yl,Ym,Yn,ial,Yo,Yp,Yq,Yr,Ys,Yt,Yu,Yv,ires,iresL,ires1,Yw,Yx,Yy,Yz,YA,YB,bin2,YC,YD,YE,YF,YG,YH,YI,YJ,YK,YL,YM,YN,YO,YP,YQ,YR,un1,shOk,eqL,eq1,fillL,putAt,IHeap.load1,IHeap.loadL,IHeap.storeL,YS,YT,YU,YV,YW,YX,YY,YZ,B0,B1,B2,B3,B4,B5,B6,B7,B8,B9,Ba,Bb,Bc,Bd,Be,Bf,Bg,Bh,Bi,Bj,Bk,Bl,Bm]
  refine call_of (Pick_t c hc (now := 10) s4 (by simp) (by omega) fun H5 k5 => ?_)
  rw [e4]
  simp -implicitDefEqProofs [J0,J1,J2,J3,J4,J5,J6,J7,J8,J9,Ja,Jb,Jc,Jd,Je,Jf,Jg,Jh,Ji,Jj,Jk,Jl,Jm,Jn,Jo,Jp,Jq,Jr,Js,Jt,Ju,Jv,Jw,Jx,Jy,Jz,JA,JB,JC,JD,JE,JF,JG,JH,JI,JJ,JK,JL,JM,JN,JO,JP,stillI,IOp.kind,JQ,JR,JS,JT,JU,JV,JW,JX,JY,JZ,Y0,Y1,Y2,Y3,Y4,Y5,Y6,Y7,Y8,Y9,Ya,Yb,Yc,Yd,Ye,Yf,Yg,Yh,Yi,Yj,Yk,Yl,Ym,Yn,ial,Yo,Yp,Yq,Yr,Ys,Yt,Yu,Yv,ires,iresL,ires1,Yw,Yx,Yy,Yz,YA,YB,bin2,YC,YD,YE,YF,YG,YH,YI,YJ,YK,YL,YM,YN,YO,YP,YQ,YR,un1,shOk,eqL,eq1,fillL,putAt,IHeap.load1,IHeap.loadL,IHeap.storeL,YS,YT,YU,YV,YW,YX,YY,YZ,B0,B1,B2,B3,B4,B5,B6,B7,B8,B9,Ba,Bb,Bc,Bd,Be,Bf,Bg,Bh,Bi,Bj,Bk,Bl,Bm]
  refine call_of (Dead_t c hc hE (s := 3) (n := 51) (s4.le k5) (by simp) o3 fun H6 k6 s6 => ?_)
  rw [e5] at s6 ⊢
  simp -implicitDefEqProofs [J0,J1,J2,J3,J4,J5,J6,J7,J8,J9,Ja,Jb,Jc,Jd,Je,Jf,Jg,Jh,Ji,Jj,Jk,Jl,Jm,Jn,Jo,Jp,Jq,Jr,Js,Jt,Ju,Jv,Jw,Jx,Jy,Jz,JA,JB,JC,JD,JE,JF,JG,JH,JI,JJ,JK,JL,JM,JN,JO,JP,stillI,IOp.kind,JQ,JR,JS,JT,JU,JV,JW,JX,JY,JZ,Y0,Y1,Y2,Y3,Y4,Y5,Y6,Y7,Y8,Y9,Ya,Yb,Yc,Yd,Ye,Yf,Yg,Yh,Yi,Yj,Yk,Yl,Ym,Yn,ial,Yo,Yp,Yq,Yr,Ys,Yt,Yu,Yv,ires,iresL,ires1,Yw,Yx,Yy,Yz,YA,YB,bin2,YC,YD,YE,YF,YG,YH,YI,YJ,YK,YL,YM,YN,YO,YP,YQ,YR,un1,shOk,eqL,eq1,fillL,putAt,IHeap.load1,IHeap.loadL,IHeap.storeL,YS,YT,YU,YV,YW,YX,YY,YZ,B0,B1,B2,B3,B4,B5,B6,B7,B8,B9,Ba,Bb,Bc,Bd,Be,Bf,Bg,Bh,Bi,Bj,Bk,Bl,Bm]
  refine call_of (Dead_t c hc hE (s := 3) (n := 50) s6 (by simp) o3 fun H7 k7 s7 => ?_)
  rw [e6] at s7 ⊢
  simp -implicitDefEqProofs [J0,J1,J2,J3,J4,J5,J6,J7,J8,J9,Ja,Jb,Jc,Jd,Je,Jf,Jg,Jh,Ji,Jj,Jk,Jl,Jm,Jn,Jo,Jp,Jq,Jr,Js,Jt,Ju,Jv,Jw,Jx,Jy,Jz,JA,JB,JC,JD,JE,JF,JG,JH,JI,JJ,JK,JL,JM,JN,JO,JP,stillI,IOp.kind,JQ,JR,JS,JT,JU,JV,JW,JX,JY,JZ,Y0,Y1,Y2,Y3,Y4,Y5,Y6,Y7,Y8,Y9,Ya,Yb,Yc,Yd,Ye,Yf,Yg,Yh,Yi,Yj,Yk,Yl,Ym,Yn,ial,Yo,Yp,Yq,Yr,Ys,Yt,Yu,Yv,ires,iresL,ires1,Yw,Yx,Yy,Yz,YA,YB,bin2,YC,YD,YE,YF,YG,YH,YI,YJ,YK,YL,YM,YN,YO,YP,YQ,YR,un1,shOk,eqL,eq1,fillL,putAt,IHeap.load1,IHeap.loadL,IHeap.storeL,YS,YT,YU,YV,YW,YX,YY,YZ,B0,B1,B2,B3,B4,B5,B6,B7,B8,B9,Ba,Bb,Bc,Bd,Be,Bf,Bg,Bh,Bi,Bj,Bk,Bl,Bm]
  refine call_of (Empty_t c hc s7 (by simp) fun v8 H8 k8 g8 => ?_)
  rw [e7] at g8
  obtain ⟨H9, hH9⟩ : ∃ X : IHeap, X = H8.alloc (.cells [.int .i64 3, .int .i64 4] false) := ⟨_, rfl⟩
  have k9 : H8.le H9 := by rw [hH9]; exact H8.le_alloc _
  have g9 : H9.get H8.next = some (.cells [.int .i64 3, .int .i64 4] false) := by rw [hH9, YS, if_pos rfl]
  have sl9 : SlR H9 1 (.slice (some ⟨H8.next, 0, none⟩) 2 2) ([3, 4].map rowI) := by
    refine ⟨_, _, rfl, fun _ => ⟨H8.next, 0, _, _, rfl, by rw [hH9]; exact Nat.lt_succ_self _, g9, fun i r hr => ?_⟩⟩
    match i, hr with
    | 0, hr => simp [rowI] at hr; subst hr; exact ⟨rfl, rfl, by simp⟩
    | 1, hr => simp [rowI] at hr; subst hr; exact ⟨rfl, rfl, by simp⟩
    | i + 2, hr => simp at hr
  simp -implicitDefEqProofs [J0,J1,J2,J3,J4,J5,J6,J7,J8,J9,Ja,Jb,Jc,Jd,Je,Jf,Jg,Jh,Ji,Jj,Jk,Jl,Jm,Jn,Jo,Jp,Jq,Jr,Js,Jt,Ju,Jv,Jw,Jx,Jy,Jz,JA,JB,JC,JD,JE,JF,JG,JH,JI,JJ,JK,JL,JM,JN,JO,JP,stillI,IOp.kind,JQ,JR,JS,JT,JU,JV,JW,JX,JY,JZ,Y0,Y1,Y2,Y3,Y4,Y5,Y6,Y7,Y8,Y9,Ya,Yb,Yc,Yd,Ye,Yf,Yg,Yh,Yi,Yj,Yk,Yl,Ym,Yn,ial,Yo,Yp,Yq,Yr,Ys,Yt,Yu,Yv,ires,iresL,ires1,Yw,Yx,Yy,Yz,YA,YB,bin2,YC,YD,YE,YF,YG,YH,YI,YJ,YK,YL,YM,YN,YO,YP,YQ,YR,un1,shOk,eqL,eq1,fillL,putAt,IHeap.load1,IHeap.loadL,IHeap.storeL,YS,YT,YU,YV,YW,YX,YY,YZ,B0,B1,B2,B3,B4,B5,B6,B7,B8,B9,Ba,Bb,Bc,Bd,Be,Bf,Bg,Bh,Bi,Bj,Bk,Bl,Bm, ← hH9]
  refine call_of (refInts01_ok c h01 (g8.le k9).slr sl9 (by simp) ?_)
  simp -implicitDefEqProofs [J0,J1,J2,J3,J4,J5,J6,J7,J8,J9,Ja,Jb,Jc,Jd,Je,Jf,Jg,Jh,Ji,Jj,Jk,Jl,Jm,Jn,Jo,Jp,Jq,Jr,Js,Jt,Ju,Jv,Jw,Jx,Jy,Jz,JA,JB,JC,JD,JE,JF,JG,JH,JI,JJ,JK,JL,JM,JN,JO,JP,stillI,IOp.kind,JQ,JR,JS,JT,JU,JV,JW,JX,JY,JZ,Y0,Y1,Y2,Y3,Y4,Y5,Y6,Y7,Y8,Y9,Ya,Yb,Yc,Yd,Ye,Yf,Yg,Yh,Yi,Yj,Yk,Yl,Ym,Yn,ial,Yo,Yp,Yq,Yr,Ys,Yt,Yu,Yv,ires,iresL,ires1,Yw,Yx,Yy,Yz,YA,YB,bin2,YC,YD,YE,YF,YG,YH,YI,YJ,YK,YL,YM,YN,YO,YP,YQ,YR,un1,shOk,eqL,eq1,fillL,putAt,IHeap.load1,IHeap.loadL,IHeap.storeL,YS,YT,YU,YV,YW,YX,YY,YZ,B0,B1,B2,B3,B4,B5,B6,B7,B8,B9,Ba,Bb,Bc,Bd,Be,Bf,Bg,Bh,Bi,Bj,Bk,Bl,Bm]
  refine call_of (Live_t c hc ((s7.le k8).le k9) (by simp) o6 fun H10 k10 => ?_)
  rw [e8]
  simp -implicitDefEqProofs [J0,J1,J2,J3,J4,J5,J6,J7,J8,J9,Ja,Jb,Jc,Jd,Je,Jf,Jg,Jh,Ji,Jj,Jk,Jl,Jm,Jn,Jo,Jp,Jq,Jr,Js,Jt,Ju,Jv,Jw,Jx,Jy,Jz,JA,JB,JC,JD,JE,JF,JG,JH,JI,JJ,JK,JL,JM,JN,JO,JP,stillI,IOp.kind,JQ,JR,JS,JT,JU,JV,JW,JX,JY,JZ,Y0,Y1,Y2,Y3,Y4,Y5,Y6,Y7,Y8,Y9,Ya,Yb,Yc,Yd,Ye,Yf,Yg,Yh,Yi,Yj,Yk,Yl,Ym,Yn,ial,Yo,Yp,Yq,Yr,Ys,Yt,Yu,Yv,ires,iresL,ires1,Yw,Yx,Yy,Yz,YA,YB,bin2,YC,YD,YE,YF,YG,YH,YI,YJ,YK,YL,YM,YN,YO,YP,YQ,YR,un1,shOk,eqL,eq1,fillL,putAt,IHeap.load1,IHeap.loadL,IHeap.storeL,YS,YT,YU,YV,YW,YX,YY,YZ,B0,B1,B2,B3,B4,B5,B6,B7,B8,B9,Ba,Bb,Bc,Bd,Be,Bf,Bg,Bh,Bi,Bj,Bk,Bl,Bm]
  refine call_of (Drop_t c hc (s := 3) (((s7.le k8).le k9).le k10) (by simp) fun H11 k11 s11 => ?_)
  rw [e9] at s11 ⊢
  simp -implicitDefEqProofs [J0,J1,J2,J3,J4,J5,J6,J7,J8,J9,Ja,Jb,Jc,Jd,Je,Jf,Jg,Jh,Ji,Jj,Jk,Jl,Jm,Jn,Jo,Jp,Jq,Jr,Js,Jt,Ju,Jv,Jw,Jx,Jy,Jz,JA,JB,JC,JD,JE,JF,JG,JH,JI,JJ,JK,JL,JM,JN,JO,JP,stillI,IOp.kind,JQ,JR,JS,JT,JU,JV,JW,JX,JY,JZ,Y0,Y1,Y2,Y3,Y4,Y5,Y6,Y7,Y8,Y9,Ya,Yb,Yc,Yd,Ye,Yf,Yg,Yh,Yi,Yj,Yk,Yl,Ym,Yn,ial,Yo,Yp,Yq,Yr,Ys,Yt,Yu,Yv,ires,iresL,ires1,Yw,Yx,Yy,Yz,YA,YB,bin2,YC,YD,YE,YF,YG,YH,YI,YJ,YK,YL,YM,YN,YO,YP,YQ,YR,un1,shOk,eqL,eq1,fillL,putAt,IHeap.load1,IHeap.loadL,IHeap.storeL,YS,YT,YU,YV,YW,YX,YY,YZ,B0,B1,B2,B3,B4,B5,B6,B7,B8,B9,Ba,Bb,Bc,Bd,Be,Bf,Bg,Bh,Bi,Bj,Bk,Bl,Bm]
  refine call_of (Drop_t c hc (s := 3) s11 (by simp) fun H12 k12 s12 => ?_)
  rw [e10] at s12 ⊢
  simp -implicitDefEqProofs [J0,J1,J2,J3,J4,J5,J6,J7,J8,J9,Ja,Jb,Jc,Jd,Je,Jf,Jg,Jh,Ji,Jj,Jk,Jl,Jm,Jn,Jo,Jp,Jq,Jr,Js,Jt,Ju,Jv,Jw,Jx,Jy,Jz,JA,JB,JC,JD,JE,JF,JG,JH,JI,JJ,JK,JL,JM,JN,JO,JP,stillI,IOp.kind,JQ,JR,JS,JT,JU,JV,JW,JX,JY,JZ,Y0,Y1,Y2,Y3,Y4,Y5,Y6,Y7,Y8,Y9,Ya,Yb,Yc,Yd,Ye,Yf,Yg,Yh,Yi,Yj,Yk,Yl,Ym,Yn,ial,Yo,Yp,Yq,Yr,Ys,Yt,Yu,Yv,ires,iresL,ires1,Yw,Yx,Yy,Yz,YA,YB,bin2,YC,YD,YE,YF,YG,YH,YI,YJ,YK,YL,YM,YN,YO,YP,YQ,YR,un1,shOk,eqL,eq1,fillL,putAt,IHeap.load1,IHeap.loadL,IHeap.storeL,YS,YT,YU,YV,YW,YX,YY,YZ,B0,B1,B2,B3,B4,B5,B6,B7,B8,B9,Ba,Bb,Bc,Bd,Be,Bf,Bg,Bh,Bi,Bj,Bk,Bl,Bm]
  refine call_of (TScore_ok c hc (x := ⟨0, 100, 50, 1⟩) (now := 10) (by omega) fun H13 k13 => ?_)
  rw [e11]
  simp -implicitDefEqProofs [J0,J1,J2,J3,J4,J5,J6,J7,J8,J9,Ja,Jb,Jc,Jd,Je,Jf,Jg,Jh,Ji,Jj,Jk,Jl,Jm,Jn,Jo,Jp,Jq,Jr,Js,Jt,Ju,Jv,Jw,Jx,Jy,Jz,JA,JB,JC,JD,JE,JF,JG,JH,JI,JJ,JK,JL,JM,JN,JO,JP,stillI,IOp.kind,JQ,JR,JS,JT,JU,JV,JW,JX,JY,JZ,Y0,Y1,Y2,Y3,Y4,Y5,Y6,Y7,Y8,Y9,Ya,Yb,Yc,Yd,Ye,Yf,Yg,Yh,Yi,Yj,Yk,Yl,Ym,Yn,ial,Yo,Yp,Yq,Yr,Ys,Yt,Yu,Yv,ires,iresL,ires1,Yw,Yx,Yy,Yz,YA,YB,bin2,YC,YD,YE,YF,YG,YH,YI,YJ,YK,YL,YM,YN,YO,YP,YQ,YR,un1,shOk,eqL,eq1,fillL,putAt,IHeap.load1,IHeap.loadL,IHeap.storeL,YS,YT,YU,YV,YW,YX,YY,YZ,B0,B1,B2,B3,B4,B5,B6,B7,B8,B9,Ba,Bb,Bc,Bd,Be,Bf,Bg,Bh,Bi,Bj,Bk,Bl,Bm]
  exact hK _

end
end Go.Proofs.YtdfjicnjcibdaaaI
