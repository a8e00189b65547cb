/- Who is in a group: what each function does. -/
import Derived.Test.YtkphglpmhebglaaMemS
import Derived.Test.YtkphglpmhebglaaPartLaw23
namespace Go.Proofs.YtkphglpmhebglaaI
set_option linter.unusedSimpArgs false
set_option linter.unusedVariables false
open Go

def iV (n : Int) : Value := .int .i64 n
theorem flat_rowI : ∀ l : List Int, (l.map rowI).flatten = l.map iV
  | [] => rfl
  | x :: l => by rw [List.map_cons, List.flatten_cons, flat_rowI l]; rfl
theorem all_rowI (l : List Int) : (l.map rowI).flatten.all one1 = true := by
  rw [flat_rowI, List.all_eq_true]
  intro x hx
  obtain ⟨n, _, rfl⟩ := List.mem_map.1 hx
  rfl
theorem take_iV {cs : List Value} {o : Nat} {l : List Int} (h : (cs.drop o).take l.length = l.map iV) {i : Nat} (hi : i < l.length) : cs[o + i]? = some (.int .i64 l[i]) := by
  have : ((cs.drop o).take l.length)[i]? = some (iV l[i]) := by rw [h]; simp [hi]
  rw [List.getElem?_take, if_pos hi, List.getElem?_drop] at this
  exact this

/-- Spares, in an object. -/
def Sp (H : IHeap) (q : Nat) (v : Value) (l : List Int) : Prop :=
  (l = [] ∧ v = .slice none 0 0) ∨ ∃ o cs ro, q < H.next ∧ H.get q = some (.cells cs ro) ∧ (cs.drop o).take l.length = l.map iV ∧ o + l.length ≤ cs.length ∧
    ((v = .slice (some ⟨q, o, none⟩) l.length l.length ∧ l.length < UNK) ∨ (v = .slice (some ⟨q, o, none⟩) l.length (UNK + 1) ∧ ro = false ∧ o + l.length = cs.length))

theorem slr_ints {H : IHeap} {q o cap : Nat} {cs : List Value} {ro : Bool} {l : List Int} (hq : q < H.next) (hg : H.get q = some (.cells cs ro)) (ht : (cs.drop o).take l.length = l.map iV) (hb : o + l.length ≤ cs.length) : SlR H 1 (.slice (some ⟨q, o, none⟩) l.length cap) (l.map rowI) := by
  refine ⟨_, cap, by rw [List.length_map], fun _ => ⟨q, o, cs, ro, rfl, hq, hg, fun i r hr => ?_⟩⟩
  obtain ⟨hi, hri⟩ := List.getElem?_eq_some_iff.1 hr
  simp only [List.length_map] at hi
  simp only [List.getElem_map] at hri
  subst hri
  have := take_iV ht hi
  refine ⟨rfl, ?_, by omega⟩
  rw [Nat.mul_one]
  obtain ⟨h1, h2⟩ := List.getElem?_eq_some_iff.1 this
  rw [List.drop_eq_getElem_cons h1, h2]; rfl

theorem Sp.slw {H : IHeap} {q : Nat} {v : Value} {l : List Int} (h : Sp H q v l) : SlW H 1 v (l.map rowI) := by
  rcases h with ⟨rfl, rfl⟩ | ⟨o, cs, ro, h1, h2, h3, h4, ⟨rfl, h5⟩ | ⟨rfl, h5, h6⟩⟩
  · exact SlW.nil H 1
  · exact ⟨slr_ints h1 h2 h3 h4, _, _, by rw [List.length_map], .inr ⟨_, _, rfl⟩, .inl ⟨h5, by rw [List.length_map]; exact Nat.le_refl _⟩⟩
  · exact ⟨slr_ints h1 h2 h3 h4, _, _, by rw [List.length_map], .inr ⟨_, _, rfl⟩, .inr ⟨rfl, by simp⟩⟩
theorem Sp.same {H H' : IHeap} {q : Nat} {v : Value} {l : List Int} (h : Sp H q v l) (hn : H.next ≤ H'.next) (hg : H'.get q = H.get q) : Sp H' q v l := by
  rcases h with h | ⟨o, cs, ro, h1, h2, h3, h4, h5⟩
  · exact .inl h
  · exact .inr ⟨o, cs, ro, by omega, hg.trans h2, h3, h4, h5⟩
theorem Sp.le {H H' : IHeap} {q : Nat} {v : Value} {l : List Int} (h : Sp H q v l) (hl : H.le H') : Sp H' q v l := by
  rcases h with h | ⟨o, cs, ro, h1, h2, h3, h4, h5⟩
  · exact .inl h
  · exact .inr ⟨o, cs, ro, by have := hl.next; omega, (hl.get q h1).trans h2, h3, h4, h5⟩
theorem Sp.tail {H : IHeap} {q n cap : Nat} {a : Option Addr} {s : Int} {l : List Int} (h : Sp H q (.slice a n cap) (s :: l)) : ∃ v', sliceI H 1 a n cap 1 n none = some v' ∧ Sp H q v' l := by
  rcases h with ⟨h, _⟩ | ⟨o, cs, ro, h1, h2, h3, h4, h5⟩
  · cases h
  · have ht : (cs.drop (o + 1)).take l.length = l.map iV := by
      rw [List.length_cons, List.map_cons] at h3
      have : (cs.drop (o + 1)).take l.length = (((cs.drop o).take (l.length + 1)).drop 1) := by
        rw [List.drop_take, List.drop_drop]; simp
      rw [this, h3]; rfl
    simp only [List.length_cons] at h4 h5
    rcases h5 with ⟨e, h5⟩ | ⟨e, h5, h6⟩
    · simp only [Value.slice.injEq] at e
      obtain ⟨rfl, rfl, rfl⟩ := e
      by_cases hl : l = []
      · subst hl
        refine ⟨.slice (some ⟨q, o, none⟩) 0 0, ?_, .inr ⟨o, cs, ro, h1, h2, by simp, by simp; omega, .inl ⟨rfl, by simp [UNK]⟩⟩⟩
        simp [sliceI, UNK]
      · have hp : 0 < l.length := List.length_pos_iff.2 hl
        refine ⟨.slice (some ⟨q, o + 1, none⟩) l.length l.length, ?_, .inr ⟨o + 1, cs, ro, h1, h2, ht, by omega, .inl ⟨rfl, by omega⟩⟩⟩
        simp only [sliceI, h5, if_true, Option.getD_none, Nat.le_refl, and_self, Nat.add_sub_cancel]
        rw [if_neg (by omega), addr_add, Nat.one_mul]
    · simp only [Value.slice.injEq] at e
      obtain ⟨rfl, rfl, rfl⟩ := e
      have hU : ¬ (UNK + 1 < UNK) := by omega
      refine ⟨.slice (some ⟨q, o + 1, none⟩) l.length (UNK + 1), ?_, .inr ⟨o + 1, cs, ro, h1, h2, ht, by omega, .inr ⟨rfl, h5, by omega⟩⟩⟩
      simp [sliceI, hU]
theorem Sp.head {H : IHeap} {q : Nat} {v : Value} {s : Int} {l : List Int} (h : Sp H q v (s :: l)) : ∃ o cap cs ro, v = .slice (some ⟨q, o, none⟩) (l.length + 1) cap ∧ q < H.next ∧ H.get q = some (.cells cs ro) ∧ cs[o]? = some (.int .i64 s) := by
  rcases h with ⟨h, _⟩ | ⟨o, cs, ro, h1, h2, h3, h4, h5⟩
  · cases h
  · have := take_iV h3 (i := 0) (by simp)
    simp only [Nat.add_zero, List.getElem_cons_zero] at this
    rcases h5 with ⟨rfl, _⟩ | ⟨rfl, _⟩
    · exact ⟨o, _, cs, ro, rfl, h1, h2, this⟩
    · exact ⟨o, _, cs, ro, rfl, h1, h2, this⟩
theorem Sp.append {H : IHeap} {q : Nat} {v : Value} {l : List Int} (h : Sp H q v l) (hl : l.length ≤ 1000000) (x : Int) :
    ∃ v' H', appendI H 1 8 v 1 [.int .i64 x] = some (v', H') ∧ Sp H' H.next v' (l ++ [x]) ∧ IHeap.upd [q] H H' ∧ H.next < H'.next := by
  have hb : (l.length + 1) * 8 ≤ 17592186044416 ∧ l.length + 1 ≤ 17592186044416 := by omega
  have fin : ∀ H', H'.get H.next = some (.cells (l.map iV ++ [.int .i64 x]) false) → H.next < H'.next → Sp H' H.next (.slice (some ⟨H.next, 0, none⟩) (l.length + 1) (UNK + 1)) (l ++ [x]) := by
    intro H' hg hn
    refine .inr ⟨0, _, false, hn, hg, ?_, by simp, .inr ⟨by simp, rfl, by simp⟩⟩
    rw [List.drop_zero, List.take_of_length_le (by simp)]; simp [iV]
  rcases h with ⟨rfl, rfl⟩ | ⟨o, cs, ro, h1, h2, h3, h4, ⟨rfl, h5⟩ | ⟨rfl, h5, h6⟩⟩
  · refine ⟨_, H.alloc (.cells [.int .i64 x] false), ?_, fin _ (by simp [YS]) (by simp [YU]), (H.le_alloc _).upd _, by simp [YU]⟩
    simp [appendI]
  · refine ⟨_, H.alloc (.cells (l.map iV ++ [.int .i64 x]) false), ?_, fin _ (by simp [YS]) (by simp [YU]), (H.le_alloc _).upd _, by simp [YU]⟩
    have hf : firstI H 1 l.length (.slice (some ⟨q, o, none⟩) l.length l.length) = some (l.map iV) := by
      simp only [firstI, IHeap.loadL, h2, Nat.mul_one]
      by_cases hz : l.length = 0
      · rw [if_pos hz]; simp [List.length_eq_zero_iff.1 hz]
      · rw [if_neg hz, if_pos h4, h3]
    simp only [appendI]
    rw [if_pos ⟨hb.1, hb.2, by omega, by omega, rfl⟩, if_neg (by omega), if_neg (by omega)]
    simp only [hf, h5, if_true]
  · subst h5
    refine ⟨_, (H.set q .dead).alloc (.cells (l.map iV ++ [.int .i64 x]) false), ?_, fin _ (by simp [YS, YV]) (by simp [YU, YV]), ((IHeap.upd_refl _ H).set (.inr (by simp)) _).alloc _, by simp [YU, YV]⟩
    have hf : firstI H 1 l.length (.slice (some ⟨q, o, none⟩) l.length (UNK + 1)) = some (l.map iV) := by
      simp only [firstI, IHeap.loadL, h2, Nat.mul_one]
      by_cases hz : l.length = 0
      · rw [if_pos hz]; simp [List.length_eq_zero_iff.1 hz]
      · rw [if_neg hz, if_pos h4, h3]
    have hU : ¬ (UNK + 1 < UNK) := by omega
    simp only [appendI]
    rw [if_pos ⟨hb.1, hb.2, by omega, by omega, rfl⟩, if_neg (by omega), if_neg (fun h => hU h.1)]
    simp only [hf, if_neg hU, if_true, h2]
    rw [if_pos (by rfl), if_neg (by omega), if_pos (by omega)]

section
variable (c : Ctx) (hc : HasMembers c) {H : IHeap} {K : Value → IHeap → Prop}
include hc

theorem list_ok {l : List Int} {u : Value} (hs : SlW H 1 u (l.map rowI)) (hl : l.length ≤ 1000000000) (hK : ∀ H', H.le H' → H'.next = H.next + 1 → H'.get H.next = some (.cells (l.map iV) false) → K (.slice (some ⟨H.next, 0, none⟩) l.length l.length) H') : c.C (c.F n_members_list) [u] H K := by
  refine c.enter hc.members_list rfl ?_
  have hs' := hs
  obtain ⟨a, cap, rfl⟩ := hs.len
  simp only [List.length_map] at hs' ⊢
  have b1 : (0 : Int) ≤ (l.length : Int) ∧ (l.length : Int) ≤ 17592186044416 ∧ (l.length : Int) * 8 ≤ 17592186044416 := by omega
  simp -implicitDefEqProofs [J0,J1,J2,J3,J4,J5,J6,J7,J8,J9,Ja,Jb,Jc,Jd,Je,Jf,Jg,Jh,Ji,Jj,Jk,Jl,Jm,Jn,Jo,Jp,Jq,Jr,Js,Jt,Ju,Jv,Jw,Jx,Jy,Jz,JA,JB,JC,JD,JE,JF,JG,JH,JI,JJ,JK,JL,JM,JN,JO,JP,stillI,IOp.kind,JQ,JR,JS,JT,JU,JV,JW,JX,JY,JZ,Y0,Y1,Y2,Y3,Y4,Y5,Y6,Y7,Y8,Y9,Ya,Yb,Yc,Yd,Ye,Yf,Yg,Yh,Yi,Yj,Yk,Yl,Ym,Yn,ial,Yo,Yp,Yq,Yr,Ys,Yt,Yu,Yv,ires,iresL,ires1,Yw,Yx,Yy,Yz,YA,YB,bin2,YC,YD,YE,YF,YG,YH,YI,YJ,YK,YL,YM,YN,YO,YP,YQ,YR,un1,shOk,eqL,eq1,fillL,putAt,IHeap.load1,IHeap.loadL,IHeap.storeL,YS,YT,YU,YV,YW,YX,YY,YZ,B0,B1,B2,B3,B4,B5,B6,B7,B8,B9,Ba,Bb,Bc,Bd,Be,Bf,Bg,Bh,Bi,Bj,Bk,Bl,Bm, c_members_list, b1, lenOfI, Nat.min_self]
  have hf := (hs'.le (H.le_alloc (.cells (List.map (fun x => [Value.int .i64 0][x % 1]?.getD default) (List.range l.length)) false))).first (by omega)
  rw [flat_rowI, List.length_map] at hf
  cases l with
  | nil =>
    simp only [List.length_nil, List.range_zero, List.map_nil] at hf
    simp -implicitDefEqProofs [J0,J1,J2,J3,J4,J5,J6,J7,J8,J9,Ja,Jb,Jc,Jd,Je,Jf,Jg,Jh,Ji,Jj,Jk,Jl,Jm,Jn,Jo,Jp,Jq,Jr,Js,Jt,Ju,Jv,Jw,Jx,Jy,Jz,JA,JB,JC,JD,JE,JF,JG,JH,JI,JJ,JK,JL,JM,JN,JO,JP,stillI,IOp.kind,JQ,JR,JS,JT,JU,JV,JW,JX,JY,JZ,Y0,Y1,Y2,Y3,Y4,Y5,Y6,Y7,Y8,Y9,Ya,Yb,Yc,Yd,Ye,Yf,Yg,Yh,Yi,Yj,Yk,Yl,Ym,Yn,ial,Yo,Yp,Yq,Yr,Ys,Yt,Yu,Yv,ires,iresL,ires1,Yw,Yx,Yy,Yz,YA,YB,bin2,YC,YD,YE,YF,YG,YH,YI,YJ,YK,YL,YM,YN,YO,YP,YQ,YR,un1,shOk,eqL,eq1,fillL,putAt,IHeap.load1,IHeap.loadL,IHeap.storeL,YS,YT,YU,YV,YW,YX,YY,YZ,B0,B1,B2,B3,B4,B5,B6,B7,B8,B9,Ba,Bb,Bc,Bd,Be,Bf,Bg,Bh,Bi,Bj,Bk,Bl,Bm, hf]
    exact hK (H.alloc (.cells [] false)) (H.le_alloc _) rfl (by simp [YS])
  | cons x l =>
    have hone : ∀ v ∈ (x :: l).map iV, one1 v = true := by
      intro v hv
      obtain ⟨n, _, rfl⟩ := List.mem_map.1 hv
      rfl
    obtain ⟨cs, hcs⟩ : ∃ cs, cs = (x :: l).map iV := ⟨_, rfl⟩
    rw [← hcs] at hf hone hK
    have hlen : cs.length = (x :: l).length := by rw [hcs, List.length_map]
    have hne : cs ≠ [] := by rw [hcs]; simp
    have hle : cs.length ≤ (x :: l).length := by omega
    simp only [List.length_cons] at hf hle
    have hall := eq_true hone
    simp -implicitDefEqProofs [J0,J1,J2,J3,J4,J5,J6,J7,J8,J9,Ja,Jb,Jc,Jd,Je,Jf,Jg,Jh,Ji,Jj,Jk,Jl,Jm,Jn,Jo,Jp,Jq,Jr,Js,Jt,Ju,Jv,Jw,Jx,Jy,Jz,JA,JB,JC,JD,JE,JF,JG,JH,JI,JJ,JK,JL,JM,JN,JO,JP,stillI,IOp.kind,JQ,JR,JS,JT,JU,JV,JW,JX,JY,JZ,Y0,Y1,Y2,Y3,Y4,Y5,Y6,Y7,Y8,Y9,Ya,Yb,Yc,Yd,Ye,Yf,Yg,Yh,Yi,Yj,Yk,Yl,Ym,Yn,ial,Yo,Yp,Yq,Yr,Ys,Yt,Yu,Yv,ires,iresL,ires1,Yw,Yx,Yy,Yz,YA,YB,bin2,YC,YD,YE,YF,YG,YH,YI,YJ,YK,YL,YM,YN,YO,YP,YQ,YR,un1,shOk,eqL,eq1,fillL,putAt,IHeap.load1,IHeap.loadL,IHeap.storeL,YS,YT,YU,YV,YW,YX,YY,YZ,B0,B1,B2,B3,B4,B5,B6,B7,B8,B9,Ba,Bb,Bc,Bd,Be,Bf,Bg,Bh,Bi,Bj,Bk,Bl,Bm, hf, hne, hle, hall]
    have hd : List.drop cs.length (List.map (fun x => [Value.int .i64 0][x % 1]?.getD default) (List.range (l.length + 1))) = [] := List.drop_eq_nil_of_le (by simp [hlen])
    rw [hd, List.append_nil]
    refine hK ((H.alloc (.cells (List.map (fun x => [Value.int .i64 0][x % 1]?.getD default) (List.range (l.length + 1))) false)).set H.next (.cells cs false)) ((H.le_alloc _).set (Nat.le_refl _) _) rfl ?_
    rw [YT, if_pos rfl]

omit hc in
theorem atI_step {l : List Int} {n : Int} {i : Nat} (hi : i < l.length) (hf : ∀ j (hj : j < i), l[j]'(by omega) ≠ n) (h : l[i] ≠ n) : ∀ j (hj : j < i + 1), l[j]'(by omega) ≠ n := by
  intro j hj
  by_cases he : j = i
  · subst he; exact h
  · exact hf j (by omega)
omit hc in
theorem atI_all {l : List Int} {n : Int} (hf : ∀ j (hj : j < l.length), l[j] ≠ n) : atI l n = -1 := by
  refine atI_none fun hm => ?_
  obtain ⟨i, hi, e⟩ := List.getElem_of_mem hm
  exact hf i hi e

theorem Index_ok {l : List Int} {u : Value} {n : Int} (hs : SlW H 1 u (l.map rowI)) (hl : l.length ≤ 1000000000) (hK : K (.int .i64 (atI l n)) H) : c.C (c.F n_slices_Index_int_int) [u, .int .i64 n] H K := by
  refine c.enter hc.slices_Index_int_int rfl ?_
  have hs' := hs.1
  obtain ⟨a, cap, rfl⟩ := hs.len
  simp only [List.length_map] at hs' ⊢
  simp -implicitDefEqProofs [J0,J1,J2,J3,J4,J5,J6,J7,J8,J9,Ja,Jb,Jc,Jd,Je,Jf,Jg,Jh,Ji,Jj,Jk,Jl,Jm,Jn,Jo,Jp,Jq,Jr,Js,Jt,Ju,Jv,Jw,Jx,Jy,Jz,JA,JB,JC,JD,JE,JF,JG,JH,JI,JJ,JK,JL,JM,JN,JO,JP,stillI,IOp.kind,JQ,JR,JS,JT,JU,JV,JW,JX,JY,JZ,Y0,Y1,Y2,Y3,Y4,Y5,Y6,Y7,Y8,Y9,Ya,Yb,Yc,Yd,Ye,Yf,Yg,Yh,Yi,Yj,Yk,Yl,Ym,Yn,ial,Yo,Yp,Yq,Yr,Ys,Yt,Yu,Yv,ires,iresL,ires1,Yw,Yx,Yy,Yz,YA,YB,bin2,YC,YD,YE,YF,YG,YH,YI,YJ,YK,YL,YM,YN,YO,YP,YQ,YR,un1,shOk,eqL,eq1,fillL,putAt,IHeap.load1,IHeap.loadL,IHeap.storeL,YS,YT,YU,YV,YW,YX,YY,YZ,B0,B1,B2,B3,B4,B5,B6,B7,B8,B9,Ba,Bb,Bc,Bd,Be,Bf,Bg,Bh,Bi,Bj,Bk,Bl,Bm, c_slices_Index_int_int]
  refine loop_nat c.mono (fun k T H' => ∃ i : Nat, ∃ hi : i ≤ l.length, k = l.length - i ∧ T 0 = .slice a l.length cap ∧ T 1 = .int .i64 n ∧ T 7 = .int .i64 l.length ∧ T 8 = .int .i64 i ∧ H' = H ∧ ∀ j (hj : j < i), l[j]'(by omega) ≠ n) l.length ?_ ?_
  · refine ⟨0, by omega, rfl, ?_⟩
    simp -implicitDefEqProofs [J0,J1,J2,J3,J4,J5,J6,J7,J8,J9,Ja,Jb,Jc,Jd,Je,Jf,Jg,Jh,Ji,Jj,Jk,Jl,Jm,Jn,Jo,Jp,Jq,Jr,Js,Jt,Ju,Jv,Jw,Jx,Jy,Jz,JA,JB,JC,JD,JE,JF,JG,JH,JI,JJ,JK,JL,JM,JN,JO,JP,stillI,IOp.kind,JQ,JR,JS,JT,JU,JV,JW,JX,JY,JZ,Y0,Y1,Y2,Y3,Y4,Y5,Y6,Y7,Y8,Y9,Ya,Yb,Yc,Yd,Ye,Yf,Yg,Yh,Yi,Yj,Yk,Yl,Ym,Yn,ial,Yo,Yp,Yq,Yr,Ys,Yt,Yu,Yv,ires,iresL,ires1,Yw,Yx,Yy,Yz,YA,YB,bin2,YC,YD,YE,YF,YG,YH,YI,YJ,YK,YL,YM,YN,YO,YP,YQ,YR,un1,shOk,eqL,eq1,fillL,putAt,IHeap.load1,IHeap.loadL,IHeap.storeL,YS,YT,YU,YV,YW,YX,YY,YZ,B0,B1,B2,B3,B4,B5,B6,B7,B8,B9,Ba,Bb,Bc,Bd,Be,Bf,Bg,Bh,Bi,Bj,Bk,Bl,Bm]
  · rintro k T H' ⟨i, hi, rfl, t0, t1, t7, t8, rfl, hf⟩
    by_cases hil : i < l.length
    · have hil' : (i : Int) < (l.length : Int) := by omega
      obtain ⟨b, o, cp, cs, ro, e1, hb, hget, hat⟩ := hs'.at1 (i := i) (x := .int .i64 l[i]) (by simp [hil, rowI])
      simp only [Value.slice.injEq] at e1
      obtain ⟨rfl, -, rfl⟩ := e1
      have hw : IntKind.i64.wrap ((i : Int) + 1) = (i : Int) + 1 := wrap64 (by omega) (by omega)
      by_cases hx : l[i] = n
      · have hx' : n = l[i] := hx.symm
        rw [atI_first hil hx hf] at hK
        simp -implicitDefEqProofs [J0,J1,J2,J3,J4,J5,J6,J7,J8,J9,Ja,Jb,Jc,Jd,Je,Jf,Jg,Jh,Ji,Jj,Jk,Jl,Jm,Jn,Jo,Jp,Jq,Jr,Js,Jt,Ju,Jv,Jw,Jx,Jy,Jz,JA,JB,JC,JD,JE,JF,JG,JH,JI,JJ,JK,JL,JM,JN,JO,JP,stillI,IOp.kind,JQ,JR,JS,JT,JU,JV,JW,JX,JY,JZ,Y0,Y1,Y2,Y3,Y4,Y5,Y6,Y7,Y8,Y9,Ya,Yb,Yc,Yd,Ye,Yf,Yg,Yh,Yi,Yj,Yk,Yl,Ym,Yn,ial,Yo,Yp,Yq,Yr,Ys,Yt,Yu,Yv,ires,iresL,ires1,Yw,Yx,Yy,Yz,YA,YB,bin2,YC,YD,YE,YF,YG,YH,YI,YJ,YK,YL,YM,YN,YO,YP,YQ,YR,un1,shOk,eqL,eq1,fillL,putAt,IHeap.load1,IHeap.loadL,IHeap.storeL,YS,YT,YU,YV,YW,YX,YY,YZ,B0,B1,B2,B3,B4,B5,B6,B7,B8,B9,Ba,Bb,Bc,Bd,Be,Bf,Bg,Bh,Bi,Bj,Bk,Bl,Bm, t0, t1, t7, t8, hil, hil', hget, hat, hx']
        exact hK
      · have hx' : ¬ n = l[i] := fun h => hx h.symm
        simp -implicitDefEqProofs [J0,J1,J2,J3,J4,J5,J6,J7,J8,J9,Ja,Jb,Jc,Jd,Je,Jf,Jg,Jh,Ji,Jj,Jk,Jl,Jm,Jn,Jo,Jp,Jq,Jr,Js,Jt,Ju,Jv,Jw,Jx,Jy,Jz,JA,JB,JC,JD,JE,JF,JG,JH,JI,JJ,JK,JL,JM,JN,JO,JP,stillI,IOp.kind,JQ,JR,JS,JT,JU,JV,JW,JX,JY,JZ,Y0,Y1,Y2,Y3,Y4,Y5,Y6,Y7,Y8,Y9,Ya,Yb,Yc,Yd,Ye,Yf,Yg,Yh,Yi,Yj,Yk,Yl,Ym,Yn,ial,Yo,Yp,Yq,Yr,Ys,Yt,Yu,Yv,ires,iresL,ires1,Yw,Yx,Yy,Yz,YA,YB,bin2,YC,YD,YE,YF,YG,YH,YI,YJ,YK,YL,YM,YN,YO,YP,YQ,YR,un1,shOk,eqL,eq1,fillL,putAt,IHeap.load1,IHeap.loadL,IHeap.storeL,YS,YT,YU,YV,YW,YX,YY,YZ,B0,B1,B2,B3,B4,B5,B6,B7,B8,B9,Ba,Bb,Bc,Bd,Be,Bf,Bg,Bh,Bi,Bj,Bk,Bl,Bm, t0, t1, t7, t8, hil, hil', hget, hat, hx', hw]
        exact ⟨l.length - (i + 1), by omega, i + 1, rfl, by simp, by omega, atI_step hil hf hx⟩
    · have hil' : ¬ (i : Int) < (l.length : Int) := by omega
      simp -implicitDefEqProofs [J0,J1,J2,J3,J4,J5,J6,J7,J8,J9,Ja,Jb,Jc,Jd,Je,Jf,Jg,Jh,Ji,Jj,Jk,Jl,Jm,Jn,Jo,Jp,Jq,Jr,Js,Jt,Ju,Jv,Jw,Jx,Jy,Jz,JA,JB,JC,JD,JE,JF,JG,JH,JI,JJ,JK,JL,JM,JN,JO,JP,stillI,IOp.kind,JQ,JR,JS,JT,JU,JV,JW,JX,JY,JZ,Y0,Y1,Y2,Y3,Y4,Y5,Y6,Y7,Y8,Y9,Ya,Yb,Yc,Yd,Ye,Yf,Yg,Yh,Yi,Yj,Yk,Yl,Ym,Yn,ial,Yo,Yp,Yq,Yr,Ys,Yt,Yu,Yv,ires,iresL,ires1,Yw,Yx,Yy,Yz,YA,YB,bin2,YC,YD,YE,YF,YG,YH,YI,YJ,YK,YL,YM,YN,YO,YP,YQ,YR,un1,shOk,eqL,eq1,fillL,putAt,IHeap.load1,IHeap.loadL,IHeap.storeL,YS,YT,YU,YV,YW,YX,YY,YZ,B0,B1,B2,B3,B4,B5,B6,B7,B8,B9,Ba,Bb,Bc,Bd,Be,Bf,Bg,Bh,Bi,Bj,Bk,Bl,Bm, t0, t1, t7, t8, hil, hil']
      rw [atI_all fun j hj => hf j (by omega)] at hK
      exact hK

omit hc in
theorem take_map_flat {α : Type} {l : List α} {f : α → List Int} {i : Nat} (hi : i < l.length) : ((l.take (i + 1)).map f).flatten = ((l.take i).map f).flatten ++ f l[i] := by
  rw [List.take_add_one, List.getElem?_eq_getElem hi]
  simp only [List.map_append, List.flatten_append, Option.toList_some, List.map_cons, List.map_nil, List.flatten_cons, List.flatten_nil, List.append_nil]

omit hc in
def SeenOk (cs : List Value) (dn : List Int) : Prop := cs.length = 64 ∧ ∀ n : Nat, n < 64 → cs[n]? = some (.bool (decide ((n : Int) ∈ dn)))
omit hc in
def upto (parts : List (Value × List Int)) (i : Nat) : List Int := ((parts.take i).map (·.2)).flatten
omit hc in
theorem SeenOk.put {cs : List Value} {dn : List Int} (h : SeenOk cs dn) {x : Int} (h0 : 0 ≤ x) (h1 : x < 64) : SeenOk (putAt cs x.toNat [.bool true]) (dn ++ [x]) := by
  obtain ⟨hl, hs⟩ := h
  have e : putAt cs x.toNat [.bool true] = cs.set x.toNat (.bool true) := by
    rw [List.set_eq_take_append_cons_drop, if_pos (by omega)]
    simp [putAt]
  rw [e]
  refine ⟨by simp [hl], fun n hn => ?_⟩
  rw [List.getElem?_set]
  by_cases hx : x.toNat = n
  · rw [if_pos hx, if_pos (by omega)]
    have : (n : Int) = x := by omega
    simp [this]
  · rw [if_neg hx, hs n hn]
    have : ¬ (n : Int) = x := by omega
    simp [this]

theorem apart_ok {u : Value} {parts : List (Value × List Int)} (hs : SlW H 1 u (parts.map fun p => [p.1])) (hp : ∀ p ∈ parts, SlW H 1 p.1 (p.2.map rowI)) (hl : parts.length ≤ 1000000) (hll : ∀ p ∈ parts, p.2.length ≤ 1000000000)
    (hK : ∀ H', H.le H' → K (.bool (apart (parts.map (·.2)).flatten)) H') : c.C (c.F n_members_apart) [u] H K := by
  refine c.enter hc.members_apart rfl ?_
  have hs' := hs.1
  obtain ⟨a, cap, rfl⟩ := hs.len
  simp only [List.length_map] at hs' ⊢
  simp -implicitDefEqProofs [J0,J1,J2,J3,J4,J5,J6,J7,J8,J9,Ja,Jb,Jc,Jd,Je,Jf,Jg,Jh,Ji,Jj,Jk,Jl,Jm,Jn,Jo,Jp,Jq,Jr,Js,Jt,Ju,Jv,Jw,Jx,Jy,Jz,JA,JB,JC,JD,JE,JF,JG,JH,JI,JJ,JK,JL,JM,JN,JO,JP,stillI,IOp.kind,JQ,JR,JS,JT,JU,JV,JW,JX,JY,JZ,Y0,Y1,Y2,Y3,Y4,Y5,Y6,Y7,Y8,Y9,Ya,Yb,Yc,Yd,Ye,Yf,Yg,Yh,Yi,Yj,Yk,Yl,Ym,Yn,ial,Yo,Yp,Yq,Yr,Ys,Yt,Yu,Yv,ires,iresL,ires1,Yw,Yx,Yy,Yz,YA,YB,bin2,YC,YD,YE,YF,YG,YH,YI,YJ,YK,YL,YM,YN,YO,YP,YQ,YR,un1,shOk,eqL,eq1,fillL,putAt,IHeap.load1,IHeap.loadL,IHeap.storeL,YS,YT,YU,YV,YW,YX,YY,YZ,B0,B1,B2,B3,B4,B5,B6,B7,B8,B9,Ba,Bb,Bc,Bd,Be,Bf,Bg,Bh,Bi,Bj,Bk,Bl,Bm, c_members_apart]
  refine loop_nat c.mono (fun k T H' => ∃ (i : Nat) (cs : List Value), i ≤ parts.length ∧ k = parts.length - i ∧ T 3 = .pointer (some ⟨H.next, 0, none⟩) ∧ T 8 = .slice a parts.length cap ∧ T 9 = .int .i64 parts.length ∧ T 10 = .int .i64 i ∧ H.le H' ∧ H.next < H'.next ∧
    H'.get H.next = some (.cells cs false) ∧ SeenOk cs (upto parts i) ∧ Apart (upto parts i)) parts.length ?_ ?_
  · refine ⟨0, List.replicate 64 (.bool false), by omega, rfl, ?_⟩
    simp -implicitDefEqProofs [J0,J1,J2,J3,J4,J5,J6,J7,J8,J9,Ja,Jb,Jc,Jd,Je,Jf,Jg,Jh,Ji,Jj,Jk,Jl,Jm,Jn,Jo,Jp,Jq,Jr,Js,Jt,Ju,Jv,Jw,Jx,Jy,Jz,JA,JB,JC,JD,JE,JF,JG,JH,JI,JJ,JK,JL,JM,JN,JO,JP,stillI,IOp.kind,JQ,JR,JS,JT,JU,JV,JW,JX,JY,JZ,Y0,Y1,Y2,Y3,Y4,Y5,Y6,Y7,Y8,Y9,Ya,Yb,Yc,Yd,Ye,Yf,Yg,Yh,Yi,Yj,Yk,Yl,Ym,Yn,ial,Yo,Yp,Yq,Yr,Ys,Yt,Yu,Yv,ires,iresL,ires1,Yw,Yx,Yy,Yz,YA,YB,bin2,YC,YD,YE,YF,YG,YH,YI,YJ,YK,YL,YM,YN,YO,YP,YQ,YR,un1,shOk,eqL,eq1,fillL,putAt,IHeap.load1,IHeap.loadL,IHeap.storeL,YS,YT,YU,YV,YW,YX,YY,YZ,B0,B1,B2,B3,B4,B5,B6,B7,B8,B9,Ba,Bb,Bc,Bd,Be,Bf,Bg,Bh,Bi,Bj,Bk,Bl,Bm]
    refine ⟨H.le_alloc _, ?_, by simp [Apart, upto]⟩
    have : SeenOk (List.replicate 64 (.bool false)) (upto parts 0) := ⟨by simp, fun n hn => by rw [List.getElem?_replicate, if_pos hn]; simp [upto]⟩
    exact this
  · rintro k T H' ⟨i, cs, hi, rfl, t3, t8, t9, t10, hle, hn, hg, hcs, hap⟩
    by_cases hil : i < parts.length
    · have hil' : (i : Int) < (parts.length : Int) := by omega
      obtain ⟨b, o, cp, cs0, ro, e1, hb, hget, hat⟩ := hs'.at1 (i := i) (x := parts[i].1) (by simp [hil])
      simp only [Value.slice.injEq] at e1
      obtain ⟨rfl, -, rfl⟩ := e1
      have hget' := (hle.get b hb).trans hget
      have hpi := hp parts[i] (by simp)
      have hli := hll parts[i] (by simp)
      obtain ⟨v, hv⟩ : ∃ v, v = parts[i].1 := ⟨_, rfl⟩
      obtain ⟨l, hl2⟩ : ∃ l, l = parts[i].2 := ⟨_, rfl⟩
      rw [← hv, ← hl2] at hpi
      rw [← hl2] at hli
      rw [← hv] at hat
      have hpi' := hpi.1
      obtain ⟨a2, cap2, rfl⟩ := hpi.len
      simp only [List.length_map] at hpi' hat
      have hwi : IntKind.i64.wrap ((i : Int) + 1) = (i : Int) + 1 := wrap64 (by omega) (by omega)
      have hnext : upto parts (i + 1) = upto parts i ++ l := by unfold upto; rw [take_map_flat hil, hl2]
      obtain ⟨dn, hdn⟩ : ∃ dn, dn = upto parts i := ⟨_, rfl⟩
      rw [← hdn] at hnext hap hcs
      have hall : ∃ rest, (parts.map (·.2)).flatten = dn ++ l ++ rest := by
        refine ⟨((parts.drop (i + 1)).map (·.2)).flatten, ?_⟩
        rw [← hnext]; unfold upto; rw [← List.flatten_append, ← List.map_append, List.take_append_drop]
      obtain ⟨rest, hall⟩ := hall
      simp -implicitDefEqProofs [J0,J1,J2,J3,J4,J5,J6,J7,J8,J9,Ja,Jb,Jc,Jd,Je,Jf,Jg,Jh,Ji,Jj,Jk,Jl,Jm,Jn,Jo,Jp,Jq,Jr,Js,Jt,Ju,Jv,Jw,Jx,Jy,Jz,JA,JB,JC,JD,JE,JF,JG,JH,JI,JJ,JK,JL,JM,JN,JO,JP,stillI,IOp.kind,JQ,JR,JS,JT,JU,JV,JW,JX,JY,JZ,Y0,Y1,Y2,Y3,Y4,Y5,Y6,Y7,Y8,Y9,Ya,Yb,Yc,Yd,Ye,Yf,Yg,Yh,Yi,Yj,Yk,Yl,Ym,Yn,ial,Yo,Yp,Yq,Yr,Ys,Yt,Yu,Yv,ires,iresL,ires1,Yw,Yx,Yy,Yz,YA,YB,bin2,YC,YD,YE,YF,YG,YH,YI,YJ,YK,YL,YM,YN,YO,YP,YQ,YR,un1,shOk,eqL,eq1,fillL,putAt,IHeap.load1,IHeap.loadL,IHeap.storeL,YS,YT,YU,YV,YW,YX,YY,YZ,B0,B1,B2,B3,B4,B5,B6,B7,B8,B9,Ba,Bb,Bc,Bd,Be,Bf,Bg,Bh,Bi,Bj,Bk,Bl,Bm, t3, t8, t9, t10, hil, hil', hget', hat]
      refine loop_nat c.mono (fun k T H1 => ∃ (j : Nat) (cs : List Value), j ≤ l.length ∧ k = l.length - j ∧ T 3 = .pointer (some ⟨H.next, 0, none⟩) ∧ T 8 = .slice (some ⟨b, o, none⟩) parts.length cap ∧ T 9 = .int .i64 parts.length ∧ T 10 = .int .i64 i ∧ T 14 = .slice a2 l.length cap2 ∧ T 15 = .int .i64 l.length ∧ T 16 = .int .i64 j ∧
        H.le H1 ∧ H.next < H1.next ∧ H1.get H.next = some (.cells cs false) ∧ SeenOk cs (dn ++ l.take j) ∧ Apart (dn ++ l.take j)) l.length ?_ ?_
      · refine ⟨0, cs, by omega, rfl, ?_⟩
        simp -implicitDefEqProofs [J0,J1,J2,J3,J4,J5,J6,J7,J8,J9,Ja,Jb,Jc,Jd,Je,Jf,Jg,Jh,Ji,Jj,Jk,Jl,Jm,Jn,Jo,Jp,Jq,Jr,Js,Jt,Ju,Jv,Jw,Jx,Jy,Jz,JA,JB,JC,JD,JE,JF,JG,JH,JI,JJ,JK,JL,JM,JN,JO,JP,stillI,IOp.kind,JQ,JR,JS,JT,JU,JV,JW,JX,JY,JZ,Y0,Y1,Y2,Y3,Y4,Y5,Y6,Y7,Y8,Y9,Ya,Yb,Yc,Yd,Ye,Yf,Yg,Yh,Yi,Yj,Yk,Yl,Ym,Yn,ial,Yo,Yp,Yq,Yr,Ys,Yt,Yu,Yv,ires,iresL,ires1,Yw,Yx,Yy,Yz,YA,YB,bin2,YC,YD,YE,YF,YG,YH,YI,YJ,YK,YL,YM,YN,YO,YP,YQ,YR,un1,shOk,eqL,eq1,fillL,putAt,IHeap.load1,IHeap.loadL,IHeap.storeL,YS,YT,YU,YV,YW,YX,YY,YZ,B0,B1,B2,B3,B4,B5,B6,B7,B8,B9,Ba,Bb,Bc,Bd,Be,Bf,Bg,Bh,Bi,Bj,Bk,Bl,Bm, t3, t8, t9, t10]
        exact ⟨hle, hn, hg, hcs, hap⟩
      · rintro k T H1 ⟨j, cs, hj, rfl, t3, t8, t9, t10, t14, t15, t16, hle, hn, hg, hcs, hap⟩
        have hcl := hcs.1
        by_cases hjl : j < l.length
        · have hjl' : (j : Int) < (l.length : Int) := by omega
          obtain ⟨b2, o2, cp2, cs2, ro2, e2, hb2, hget2, hat2⟩ := hpi'.at1 (i := j) (x := .int .i64 l[j]) (by simp [hjl, rowI])
          simp only [Value.slice.injEq] at e2
          obtain ⟨rfl, -, rfl⟩ := e2
          have hget2' := (hle.get b2 hb2).trans hget2
          have hwj : IntKind.i64.wrap ((j : Int) + 1) = (j : Int) + 1 := wrap64 (by omega) (by omega)
          have htk : l.take (j + 1) = l.take j ++ [l[j]] := by rw [List.take_add_one, List.getElem?_eq_getElem hjl]; rfl
          obtain ⟨x, hx⟩ : ∃ x, x = l[j] := ⟨_, rfl⟩
          rw [← hx] at hat2 htk
          have hbad : ¬ (0 ≤ x ∧ x < 64 ∧ x ∉ dn ++ l.take j) → apart (parts.map (·.2)).flatten = false := by
            intro hb
            rw [Bool.eq_false_iff]
            intro ht
            have h1 := (apart_iff _).1 ht
            rw [hall] at h1
            have h2 := h1.left
            have h3 : dn ++ l = (dn ++ l.take (j + 1)) ++ l.drop (j + 1) := by rw [List.append_assoc, List.take_append_drop]
            rw [h3] at h2
            have h4 := h2.left
            rw [htk, ← List.append_assoc, apart_snoc] at h4
            exact hb h4.2
          by_cases hx0 : x < 0
          · rw [hbad (by omega)] at hK
            simp -implicitDefEqProofs [J0,J1,J2,J3,J4,J5,J6,J7,J8,J9,Ja,Jb,Jc,Jd,Je,Jf,Jg,Jh,Ji,Jj,Jk,Jl,Jm,Jn,Jo,Jp,Jq,Jr,Js,Jt,Ju,Jv,Jw,Jx,Jy,Jz,JA,JB,JC,JD,JE,JF,JG,JH,JI,JJ,JK,JL,JM,JN,JO,JP,stillI,IOp.kind,JQ,JR,JS,JT,JU,JV,JW,JX,JY,JZ,Y0,Y1,Y2,Y3,Y4,Y5,Y6,Y7,Y8,Y9,Ya,Yb,Yc,Yd,Ye,Yf,Yg,Yh,Yi,Yj,Yk,Yl,Ym,Yn,ial,Yo,Yp,Yq,Yr,Ys,Yt,Yu,Yv,ires,iresL,ires1,Yw,Yx,Yy,Yz,YA,YB,bin2,YC,YD,YE,YF,YG,YH,YI,YJ,YK,YL,YM,YN,YO,YP,YQ,YR,un1,shOk,eqL,eq1,fillL,putAt,IHeap.load1,IHeap.loadL,IHeap.storeL,YS,YT,YU,YV,YW,YX,YY,YZ,B0,B1,B2,B3,B4,B5,B6,B7,B8,B9,Ba,Bb,Bc,Bd,Be,Bf,Bg,Bh,Bi,Bj,Bk,Bl,Bm, t3, t8, t9, t10, t14, t15, t16, hjl, hjl', hget2', hat2, hx0]
            exact hK _ hle
          · by_cases hx1 : 64 ≤ x
            · rw [hbad (by omega)] at hK
              simp -implicitDefEqProofs [J0,J1,J2,J3,J4,J5,J6,J7,J8,J9,Ja,Jb,Jc,Jd,Je,Jf,Jg,Jh,Ji,Jj,Jk,Jl,Jm,Jn,Jo,Jp,Jq,Jr,Js,Jt,Ju,Jv,Jw,Jx,Jy,Jz,JA,JB,JC,JD,JE,JF,JG,JH,JI,JJ,JK,JL,JM,JN,JO,JP,stillI,IOp.kind,JQ,JR,JS,JT,JU,JV,JW,JX,JY,JZ,Y0,Y1,Y2,Y3,Y4,Y5,Y6,Y7,Y8,Y9,Ya,Yb,Yc,Yd,Ye,Yf,Yg,Yh,Yi,Yj,Yk,Yl,Ym,Yn,ial,Yo,Yp,Yq,Yr,Ys,Yt,Yu,Yv,ires,iresL,ires1,Yw,Yx,Yy,Yz,YA,YB,bin2,YC,YD,YE,YF,YG,YH,YI,YJ,YK,YL,YM,YN,YO,YP,YQ,YR,un1,shOk,eqL,eq1,fillL,putAt,IHeap.load1,IHeap.loadL,IHeap.storeL,YS,YT,YU,YV,YW,YX,YY,YZ,B0,B1,B2,B3,B4,B5,B6,B7,B8,B9,Ba,Bb,Bc,Bd,Be,Bf,Bg,Bh,Bi,Bj,Bk,Bl,Bm, t3, t8, t9, t10, t14, t15, t16, hjl, hjl', hget2', hat2, hx0, hx1]
              exact hK _ hle
            · have hx0' : 0 ≤ x := by omega
              have hx1' : x < 64 := by omega
              have hc := hcs.2 x.toNat (by omega)
              have hxt : ((x.toNat : Nat) : Int) = x := by omega
              rw [hxt] at hc
              by_cases hm : x ∈ dn ++ l.take j
              · rw [hbad (fun h => h.2.2 hm)] at hK
                rw [decide_eq_true hm] at hc
                simp -implicitDefEqProofs [J0,J1,J2,J3,J4,J5,J6,J7,J8,J9,Ja,Jb,Jc,Jd,Je,Jf,Jg,Jh,Ji,Jj,Jk,Jl,Jm,Jn,Jo,Jp,Jq,Jr,Js,Jt,Ju,Jv,Jw,Jx,Jy,Jz,JA,JB,JC,JD,JE,JF,JG,JH,JI,JJ,JK,JL,JM,JN,JO,JP,stillI,IOp.kind,JQ,JR,JS,JT,JU,JV,JW,JX,JY,JZ,Y0,Y1,Y2,Y3,Y4,Y5,Y6,Y7,Y8,Y9,Ya,Yb,Yc,Yd,Ye,Yf,Yg,Yh,Yi,Yj,Yk,Yl,Ym,Yn,ial,Yo,Yp,Yq,Yr,Ys,Yt,Yu,Yv,ires,iresL,ires1,Yw,Yx,Yy,Yz,YA,YB,bin2,YC,YD,YE,YF,YG,YH,YI,YJ,YK,YL,YM,YN,YO,YP,YQ,YR,un1,shOk,eqL,eq1,fillL,putAt,IHeap.load1,IHeap.loadL,IHeap.storeL,YS,YT,YU,YV,YW,YX,YY,YZ,B0,B1,B2,B3,B4,B5,B6,B7,B8,B9,Ba,Bb,Bc,Bd,Be,Bf,Bg,Bh,Bi,Bj,Bk,Bl,Bm, t3, t8, t9, t10, t14, t15, t16, hjl, hjl', hget2', hat2, hx0, hx1, hx0', hx1', hg, hc]
                exact hK _ hle
              · rw [decide_eq_false hm] at hc
                have hxl : x.toNat + 1 ≤ cs.length := by omega
                obtain ⟨hxl', hc2⟩ := List.getElem?_eq_some_iff.1 hc
                simp -implicitDefEqProofs [J0,J1,J2,J3,J4,J5,J6,J7,J8,J9,Ja,Jb,Jc,Jd,Je,Jf,Jg,Jh,Ji,Jj,Jk,Jl,Jm,Jn,Jo,Jp,Jq,Jr,Js,Jt,Ju,Jv,Jw,Jx,Jy,Jz,JA,JB,JC,JD,JE,JF,JG,JH,JI,JJ,JK,JL,JM,JN,JO,JP,stillI,IOp.kind,JQ,JR,JS,JT,JU,JV,JW,JX,JY,JZ,Y0,Y1,Y2,Y3,Y4,Y5,Y6,Y7,Y8,Y9,Ya,Yb,Yc,Yd,Ye,Yf,Yg,Yh,Yi,Yj,Yk,Yl,Ym,Yn,ial,Yo,Yp,Yq,Yr,Ys,Yt,Yu,Yv,ires,iresL,ires1,Yw,Yx,Yy,Yz,YA,YB,bin2,YC,YD,YE,YF,YG,YH,YI,YJ,YK,YL,YM,YN,YO,YP,YQ,YR,un1,shOk,eqL,eq1,fillL,putAt,IHeap.load1,IHeap.loadL,IHeap.storeL,YS,YT,YU,YV,YW,YX,YY,YZ,B0,B1,B2,B3,B4,B5,B6,B7,B8,B9,Ba,Bb,Bc,Bd,Be,Bf,Bg,Bh,Bi,Bj,Bk,Bl,Bm, t3, t8, t9, t10, t14, t15, t16, hjl, hjl', hget2', hat2, hx0, hx1, hx0', hx1', hg, hc, hc2, hxl, hxl', hwj]
                have hput := hcs.put hx0' hx1'
                rw [List.append_assoc, ← htk] at hput
                refine ⟨l.length - (j + 1), by omega, j + 1, by omega, rfl, by simp, hle.set (Nat.le_refl _) _, hn, by simpa [putAt] using hput, ?_⟩
                rw [htk, ← List.append_assoc, apart_snoc]
                exact ⟨hap, hx0', hx1', hm⟩
        · have hje : j = l.length := by omega
          subst hje
          rw [List.take_length] at hap hcs
          simp -implicitDefEqProofs [J0,J1,J2,J3,J4,J5,J6,J7,J8,J9,Ja,Jb,Jc,Jd,Je,Jf,Jg,Jh,Ji,Jj,Jk,Jl,Jm,Jn,Jo,Jp,Jq,Jr,Js,Jt,Ju,Jv,Jw,Jx,Jy,Jz,JA,JB,JC,JD,JE,JF,JG,JH,JI,JJ,JK,JL,JM,JN,JO,JP,stillI,IOp.kind,JQ,JR,JS,JT,JU,JV,JW,JX,JY,JZ,Y0,Y1,Y2,Y3,Y4,Y5,Y6,Y7,Y8,Y9,Ya,Yb,Yc,Yd,Ye,Yf,Yg,Yh,Yi,Yj,Yk,Yl,Ym,Yn,ial,Yo,Yp,Yq,Yr,Ys,Yt,Yu,Yv,ires,iresL,ires1,Yw,Yx,Yy,Yz,YA,YB,bin2,YC,YD,YE,YF,YG,YH,YI,YJ,YK,YL,YM,YN,YO,YP,YQ,YR,un1,shOk,eqL,eq1,fillL,putAt,IHeap.load1,IHeap.loadL,IHeap.storeL,YS,YT,YU,YV,YW,YX,YY,YZ,B0,B1,B2,B3,B4,B5,B6,B7,B8,B9,Ba,Bb,Bc,Bd,Be,Bf,Bg,Bh,Bi,Bj,Bk,Bl,Bm, t3, t8, t9, t10, t14, t15, t16, hwi]
          exact ⟨parts.length - (i + 1), by omega, i + 1, by omega, rfl, by simp, hle, hn, cs, hg, by rw [hnext]; exact hcs, by rw [hnext]; exact hap⟩
    · have hie : i = parts.length := by omega
      subst hie
      simp -implicitDefEqProofs [J0,J1,J2,J3,J4,J5,J6,J7,J8,J9,Ja,Jb,Jc,Jd,Je,Jf,Jg,Jh,Ji,Jj,Jk,Jl,Jm,Jn,Jo,Jp,Jq,Jr,Js,Jt,Ju,Jv,Jw,Jx,Jy,Jz,JA,JB,JC,JD,JE,JF,JG,JH,JI,JJ,JK,JL,JM,JN,JO,JP,stillI,IOp.kind,JQ,JR,JS,JT,JU,JV,JW,JX,JY,JZ,Y0,Y1,Y2,Y3,Y4,Y5,Y6,Y7,Y8,Y9,Ya,Yb,Yc,Yd,Ye,Yf,Yg,Yh,Yi,Yj,Yk,Yl,Ym,Yn,ial,Yo,Yp,Yq,Yr,Ys,Yt,Yu,Yv,ires,iresL,ires1,Yw,Yx,Yy,Yz,YA,YB,bin2,YC,YD,YE,YF,YG,YH,YI,YJ,YK,YL,YM,YN,YO,YP,YQ,YR,un1,shOk,eqL,eq1,fillL,putAt,IHeap.load1,IHeap.loadL,IHeap.storeL,YS,YT,YU,YV,YW,YX,YY,YZ,B0,B1,B2,B3,B4,B5,B6,B7,B8,B9,Ba,Bb,Bc,Bd,Be,Bf,Bg,Bh,Bi,Bj,Bk,Bl,Bm, t3, t8, t9, t10]
      have e : upto parts parts.length = (parts.map (·.2)).flatten := by unfold upto; rw [List.take_length]
      rw [e] at hap
      have := (apart_iff _).2 hap
      rw [this] at hK
      exact hK _ hle

end
end Go.Proofs.YtkphglpmhebglaaI
