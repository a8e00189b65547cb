/- Directories: what stays while deeds are done; the chapter's example; one that is none. -/
import Derived.Test.YtfegliplajdgmaaDirP
import Derived.Test.YtfegliplajdgmaaPartLaw37
import Derived.Test.YtfegliplajdgmaaRef01D
namespace Go.Proofs.YtfegliplajdgmaaI
set_option linter.unusedSimpArgs false
set_option linter.unusedVariables false
open Go

/-- A directory that has none of S. -/
def StD (S : Nat → Prop) (H : IHeap) (p : Nat) (L : List EntD) : Prop := (∀ b, S b → b < H.next) ∧ ¬ S p ∧ ∃ q, IsD H p q L ∧ ¬ S q
theorem StD.sub {S S' : Nat → Prop} {H : IHeap} {p : Nat} {L : List EntD} (h : StD S H p L) (hs : ∀ b, S' b → S b) : StD S' H p L := by
  obtain ⟨a, b, q, c, d⟩ := h
  exact ⟨fun x hx => a x (hs x hx), fun hx => b (hs p hx), q, c, fun hx => d (hs q hx)⟩
theorem StD.grow {S : Nat → Prop} {H H' : IHeap} {p : Nat} {L : List EntD} (h : StD S H p L) (hl : H.le H') : StD (fun b => S b ∨ (H.next ≤ b ∧ b < H'.next)) H' p L := by
  obtain ⟨a, b, q, c, d⟩ := h
  have hn := hl.next
  have hp := c.lt
  refine ⟨fun x hx => ?_, fun hx => ?_, ?_⟩
  · rcases hx with hx | hx
    · have := a x hx; omega
    · exact hx.2
  · rcases hx with hx | hx
    · exact b hx
    · omega
  · by_cases hq : q < H.next
    · refine ⟨q, c.le hl, fun hx => ?_⟩
      rcases hx with hx | hx
      · exact d hx
      · omega
    · refine ⟨H'.next, ?_, fun hx => ?_⟩
      · obtain ⟨u, g1, g2⟩ := c.rep
        have g3 : VS H H'.next u (L.map rowE) := by
          rcases g2 with g2 | ⟨cs, g2, _⟩
          · exact .inl g2
          · exact absurd g2 hq
        have c' : IsD H p H'.next L := ⟨c.lt, by omega, ⟨u, g1, g3⟩, c.sorted⟩
        exact c'.le hl
      · rcases hx with hx | hx
        · have := a _ hx; omega
        · omega
theorem StD.le {S : Nat → Prop} {H H' : IHeap} {p : Nat} {L : List EntD} (h : StD S H p L) (hl : H.le H') : StD S H' p L := (h.grow hl).sub fun b hb => .inl hb
theorem StD.sorted {S : Nat → Prop} {H : IHeap} {p : Nat} {L : List EntD} (h : StD S H p L) : SortedE L := h.2.2.elim fun _ h => h.1.sorted
theorem StD.kept {S : Nat → Prop} {H H' : IHeap} {p q : Nat} {L : List EntD} (h : StD S H p L) (hq : ¬ S q) (hu : IHeap.upd [p, q] H H') : keptS S H H' :=
  ⟨hu.next, fun b hb => hu.get b (h.1 b hb) fun hm => by
    simp only [List.mem_cons, List.not_mem_nil, or_false] at hm
    rcases hm with e | e
    · exact h.2.1 (e ▸ hb)
    · exact hq (e ▸ hb)⟩

structure DeedE where
  k : Int
  ino : Int
  nm : List UInt8
def rowDE (d : DeedE) : List Value := [.int .i64 d.k, .int .i64 d.ino, strV d.nm]
def deedE (L : List EntD) (d : DeedE) : List EntD := if d.k = 0 then (addE L d.nm d.ino).1 else (remE L d.nm).1
theorem deedE_ok {L : List EntD} (hs : SortedE L) (ho : ∀ e ∈ L, okE e) (d : DeedE) : SortedE (deedE L d) ∧ (∀ e ∈ deedE L d, okE e) ∧ (deedE L d).length ≤ L.length + 1 := by
  unfold deedE
  split
  · exact addE_ok hs ho
  · obtain ⟨a, b, c⟩ := remE_ok (s := d.nm) hs ho
    exact ⟨a, b, by omega⟩

section
variable (c : Ctx) (hc : HasDirs c) (hC : HasCodec c) (hX : IdxOk c) (hI : InsOk2 c) (hT : HasLaw37 c) {H : IHeap} {K : Value → IHeap → Prop}

include hc in
theorem New_d {S : Nat → Prop} (hS : ∀ b, S b → b < H.next) (hK : ∀ H', H.le H' → H.next < H'.next → StD S H' H.next [] → K (.pointer (some ⟨H.next, 0, none⟩)) H') : c.C (c.F n_dirs_New) [] H K := by
  refine DNew_ok c hc fun H' k i => hK H' k (i (H.next + 1) (by omega)).lt ?_
  have hn := k.next
  have hlt := (i (H.next + 1) (by omega)).lt
  exact ⟨fun b hb => by have := hS b hb; omega, fun hb => by have := hS _ hb; omega, H'.next, i _ (by omega), fun hb => by have := hS _ hb; omega⟩
include hc hX hI in
theorem Add_d {S : Nat → Prop} {p : Nat} {L : List EntD} {s : List UInt8} {ino : Int} (h : StD S H p L) (hl : L.length ≤ 1000000) (hsl : s.length ≤ 1000000)
    (hK : ∀ H', keptS S H H' → StD S H' p (addE L s ino).1 → K (.int .i64 (addE L s ino).2) H') : c.C (c.F n_dirs_Dir_Add) [.pointer (some ⟨p, 0, none⟩), strV s, .int .i64 ino] H K := by
  have h' := h
  obtain ⟨x, y, q, i, z⟩ := h'
  refine DAdd_ok c hc hX hI i hl hsl fun q' H' u hq i' => hK H' (h.kept z u) ⟨fun b hb => Nat.lt_of_lt_of_le (x b hb) u.next, y, q', i', fun hb => ?_⟩
  rcases hq with rfl | hq
  · exact z hb
  · have := x _ hb; omega
include hc in
theorem Remove_d {S : Nat → Prop} {p : Nat} {L : List EntD} {s : List UInt8} (h : StD S H p L) (hl : L.length ≤ 1000000)
    (hK : ∀ H', keptS S H H' → StD S H' p (remE L s).1 → K (.tuple #[.int .i64 (remE L s).2.1, .int .i64 (remE L s).2.2]) H') : c.C (c.F n_dirs_Dir_Remove) [.pointer (some ⟨p, 0, none⟩), strV s] H K := by
  have h' := h
  obtain ⟨x, y, q, i, z⟩ := h'
  exact DRemove_ok c hc i hl fun H' u i' => hK H' (h.kept z u) ⟨fun b hb => Nat.lt_of_lt_of_le (x b hb) u.next, y, q, i', z⟩
include hc in
theorem Look_d {S : Nat → Prop} {p : Nat} {L : List EntD} {s : List UInt8} (h : StD S H p L) (hl : L.length ≤ 1000000)
    (hK : ∀ H', H.le H' → K (.tuple #[.int .i64 (lookE L s).1, .int .i64 (lookE L s).2]) H') : c.C (c.F n_dirs_Dir_Look) [.pointer (some ⟨p, 0, none⟩), strV s] H K :=
  h.2.2.elim fun _ h => DLook_ok c hc h.1 hl hK
include hc in
theorem Len_d {S : Nat → Prop} {p : Nat} {L : List EntD} (h : StD S H p L) (hK : K (.int .i64 (L.length : Nat)) H) : c.C (c.F n_dirs_Dir_Len) [.pointer (some ⟨p, 0, none⟩)] H K :=
  h.2.2.elim fun _ h => DLen_ok c hc h.1 hK
include hc in
theorem List_d {S : Nat → Prop} {p : Nat} {L : List EntD} (h : StD S H p L) (hl : L.length ≤ 1000000)
    (hK : ∀ v H', H.le H' → Grow H' H.next 1 v (L.map fun e => rowS e.nm) → K v H') : c.C (c.F n_dirs_Dir_List) [.pointer (some ⟨p, 0, none⟩)] H K :=
  h.2.2.elim fun _ h => DList_ok c hc h.1 hl hK
include hc hC in
theorem Text_d {S : Nat → Prop} {p : Nat} {L : List EntD} (h : StD S H p L) (hl : L.length ≤ 1000000) (hok : ∀ e ∈ L, okE e) (hfit : (textE L).length ≤ 65536)
    (hK : ∀ H', H.le H' → K (strV (textE L)) H') : c.C (c.F n_dirs_Dir_Text) [.pointer (some ⟨p, 0, none⟩)] H K :=
  h.2.2.elim fun _ h => DText_ok c hc hC h.1 hl hok hfit hK

include hT in
theorem few_ok37 {u : Value} {l : List DeedE} (hu : SlR H 3 u (l.map rowDE)) (h0 : K (.bool false) H) (h1 : l.length ≤ 80 → (∀ d ∈ l, d.nm.length ≤ 300) → K (.bool true) H) :
    c.C (c.F n_hurdlelaw37_few) [u] H K := by
  refine c.enter hT.hurdlelaw37_few rfl ?_
  have hu' := hu
  obtain ⟨a, cap, rfl, _⟩ := hu
  simp only [List.length_map] at hu' ⊢
  by_cases h80 : 80 < l.length
  · have h80' : (80 : Int) < (l.length : Int) := by omega
    simp -implicitDefEqProofs [J0,J1,J2,J3,J4,J5,J6,J7,J8,J9,Ja,Jb,Jc,Jd,Je,Jf,Jg,Jh,Ji,Jj,Jk,Jl,Jm,Jn,Jo,Jp,Jq,Jr,Js,Jt,Ju,Jv,Jw,Jx,Jy,Jz,JA,JB,JC,JD,JE,JF,JG,JH,JI,JJ,JK,JL,JM,JN,JO,JP,stillI,IOp.kind,JQ,JR,JS,JT,JU,JV,JW,JX,JY,JZ,Y0,Y1,Y2,Y3,Y4,Y5,Y6,Y7,Y8,Y9,Ya,Yb,Yc,Yd,Ye,Yf,Yg,Yh,Yi,Yj,Yk,Yl,Ym,Yn,ial,Yo,Yp,Yq,Yr,Ys,Yt,Yu,Yv,ires,iresL,ires1,Yw,Yx,Yy,Yz,YA,YB,bin2,YC,YD,YE,YF,YG,YH,YI,YJ,YK,YL,YM,YN,YO,YP,YQ,YR,un1,shOk,eqL,eq1,fillL,putAt,IHeap.load1,IHeap.loadL,IHeap.storeL,YS,YT,YU,YV,YW,YX,YY,YZ,B0,B1,B2,B3,B4,B5,B6,B7,B8,B9,Ba,Bb,Bc,Bd,Be,Bf,Bg,Bh,Bi,Bj,Bk,Bl,Bm, c_hurdlelaw37_few, h80, h80']
    exact h0
  · have h80' : ¬ (80 : Int) < (l.length : Int) := by omega
    simp -implicitDefEqProofs [J0,J1,J2,J3,J4,J5,J6,J7,J8,J9,Ja,Jb,Jc,Jd,Je,Jf,Jg,Jh,Ji,Jj,Jk,Jl,Jm,Jn,Jo,Jp,Jq,Jr,Js,Jt,Ju,Jv,Jw,Jx,Jy,Jz,JA,JB,JC,JD,JE,JF,JG,JH,JI,JJ,JK,JL,JM,JN,JO,JP,stillI,IOp.kind,JQ,JR,JS,JT,JU,JV,JW,JX,JY,JZ,Y0,Y1,Y2,Y3,Y4,Y5,Y6,Y7,Y8,Y9,Ya,Yb,Yc,Yd,Ye,Yf,Yg,Yh,Yi,Yj,Yk,Yl,Ym,Yn,ial,Yo,Yp,Yq,Yr,Ys,Yt,Yu,Yv,ires,iresL,ires1,Yw,Yx,Yy,Yz,YA,YB,bin2,YC,YD,YE,YF,YG,YH,YI,YJ,YK,YL,YM,YN,YO,YP,YQ,YR,un1,shOk,eqL,eq1,fillL,putAt,IHeap.load1,IHeap.loadL,IHeap.storeL,YS,YT,YU,YV,YW,YX,YY,YZ,B0,B1,B2,B3,B4,B5,B6,B7,B8,B9,Ba,Bb,Bc,Bd,Be,Bf,Bg,Bh,Bi,Bj,Bk,Bl,Bm, c_hurdlelaw37_few, h80, h80']
    refine loop_nat c.mono (fun k T H' => ∃ i : Nat, i ≤ l.length ∧ k = l.length - i ∧ T 0 = .slice a l.length cap ∧ T 3 = .int .i64 i ∧ H' = H ∧ ∀ d ∈ l.take i, d.nm.length ≤ 300) l.length ?_ ?_
    · refine ⟨0, by omega, rfl, ?_⟩
      simp -implicitDefEqProofs [J0,J1,J2,J3,J4,J5,J6,J7,J8,J9,Ja,Jb,Jc,Jd,Je,Jf,Jg,Jh,Ji,Jj,Jk,Jl,Jm,Jn,Jo,Jp,Jq,Jr,Js,Jt,Ju,Jv,Jw,Jx,Jy,Jz,JA,JB,JC,JD,JE,JF,JG,JH,JI,JJ,JK,JL,JM,JN,JO,JP,stillI,IOp.kind,JQ,JR,JS,JT,JU,JV,JW,JX,JY,JZ,Y0,Y1,Y2,Y3,Y4,Y5,Y6,Y7,Y8,Y9,Ya,Yb,Yc,Yd,Ye,Yf,Yg,Yh,Yi,Yj,Yk,Yl,Ym,Yn,ial,Yo,Yp,Yq,Yr,Ys,Yt,Yu,Yv,ires,iresL,ires1,Yw,Yx,Yy,Yz,YA,YB,bin2,YC,YD,YE,YF,YG,YH,YI,YJ,YK,YL,YM,YN,YO,YP,YQ,YR,un1,shOk,eqL,eq1,fillL,putAt,IHeap.load1,IHeap.loadL,IHeap.storeL,YS,YT,YU,YV,YW,YX,YY,YZ,B0,B1,B2,B3,B4,B5,B6,B7,B8,B9,Ba,Bb,Bc,Bd,Be,Bf,Bg,Bh,Bi,Bj,Bk,Bl,Bm]
    · rintro k T H' ⟨i, hi, rfl, t0, t3, rfl, hall⟩
      by_cases hil : i < l.length
      · have hil' : (i : Int) < (l.length : Int) := by omega
        obtain ⟨d, hd⟩ : ∃ d, l[i]? = some d := ⟨_, List.getElem?_eq_getElem hil⟩
        obtain ⟨b, o, cp, cs, ro, ea, hb, hget, hrl, hrow, hbd⟩ := hu'.at (i := i) (r := rowDE d) (by simp [hd])
        rw [List.length_map] at ea
        simp only [Value.slice.injEq] at ea
        obtain ⟨rfl, -, rfl⟩ := ea
        have hw : IntKind.i64.wrap ((i : Int) + 1) = (i : Int) + 1 := wrap64 (by omega) (by omega)
        have r2 := row_get2 hrow 2 (by omega)
        simp only [rowDE, List.getElem?_cons_succ, List.getElem?_cons_zero, strV] at r2
        by_cases h20 : (300 : Int) < (d.nm.length : Int)
        · have h21 : 300 < d.nm.length := by omega
          simp -implicitDefEqProofs [J0,J1,J2,J3,J4,J5,J6,J7,J8,J9,Ja,Jb,Jc,Jd,Je,Jf,Jg,Jh,Ji,Jj,Jk,Jl,Jm,Jn,Jo,Jp,Jq,Jr,Js,Jt,Ju,Jv,Jw,Jx,Jy,Jz,JA,JB,JC,JD,JE,JF,JG,JH,JI,JJ,JK,JL,JM,JN,JO,JP,stillI,IOp.kind,JQ,JR,JS,JT,JU,JV,JW,JX,JY,JZ,Y0,Y1,Y2,Y3,Y4,Y5,Y6,Y7,Y8,Y9,Ya,Yb,Yc,Yd,Ye,Yf,Yg,Yh,Yi,Yj,Yk,Yl,Ym,Yn,ial,Yo,Yp,Yq,Yr,Ys,Yt,Yu,Yv,ires,iresL,ires1,Yw,Yx,Yy,Yz,YA,YB,bin2,YC,YD,YE,YF,YG,YH,YI,YJ,YK,YL,YM,YN,YO,YP,YQ,YR,un1,shOk,eqL,eq1,fillL,putAt,IHeap.load1,IHeap.loadL,IHeap.storeL,YS,YT,YU,YV,YW,YX,YY,YZ,B0,B1,B2,B3,B4,B5,B6,B7,B8,B9,Ba,Bb,Bc,Bd,Be,Bf,Bg,Bh,Bi,Bj,Bk,Bl,Bm, t0, t3, hil, hil', hget, r2, h20, h21]
          exact h0
        · have h21 : ¬ 300 < d.nm.length := by omega
          simp -implicitDefEqProofs [J0,J1,J2,J3,J4,J5,J6,J7,J8,J9,Ja,Jb,Jc,Jd,Je,Jf,Jg,Jh,Ji,Jj,Jk,Jl,Jm,Jn,Jo,Jp,Jq,Jr,Js,Jt,Ju,Jv,Jw,Jx,Jy,Jz,JA,JB,JC,JD,JE,JF,JG,JH,JI,JJ,JK,JL,JM,JN,JO,JP,stillI,IOp.kind,JQ,JR,JS,JT,JU,JV,JW,JX,JY,JZ,Y0,Y1,Y2,Y3,Y4,Y5,Y6,Y7,Y8,Y9,Ya,Yb,Yc,Yd,Ye,Yf,Yg,Yh,Yi,Yj,Yk,Yl,Ym,Yn,ial,Yo,Yp,Yq,Yr,Ys,Yt,Yu,Yv,ires,iresL,ires1,Yw,Yx,Yy,Yz,YA,YB,bin2,YC,YD,YE,YF,YG,YH,YI,YJ,YK,YL,YM,YN,YO,YP,YQ,YR,un1,shOk,eqL,eq1,fillL,putAt,IHeap.load1,IHeap.loadL,IHeap.storeL,YS,YT,YU,YV,YW,YX,YY,YZ,B0,B1,B2,B3,B4,B5,B6,B7,B8,B9,Ba,Bb,Bc,Bd,Be,Bf,Bg,Bh,Bi,Bj,Bk,Bl,Bm, t0, t3, hil, hil', hget, r2, h20, h21, hw]
          refine ⟨l.length - (i + 1), by omega, i + 1, by omega, rfl, by simp, fun e he => ?_⟩
          rw [List.take_add_one, hd] at he
          simp only [Option.toList_some, List.mem_append, List.mem_singleton] at he
          rcases he with he | rfl
          · exact hall e he
          · omega
      · have hil' : ¬ (i : Int) < (l.length : Int) := by omega
        rw [List.take_of_length_le (by omega)] at hall
        simp -implicitDefEqProofs [J0,J1,J2,J3,J4,J5,J6,J7,J8,J9,Ja,Jb,Jc,Jd,Je,Jf,Jg,Jh,Ji,Jj,Jk,Jl,Jm,Jn,Jo,Jp,Jq,Jr,Js,Jt,Ju,Jv,Jw,Jx,Jy,Jz,JA,JB,JC,JD,JE,JF,JG,JH,JI,JJ,JK,JL,JM,JN,JO,JP,stillI,IOp.kind,JQ,JR,JS,JT,JU,JV,JW,JX,JY,JZ,Y0,Y1,Y2,Y3,Y4,Y5,Y6,Y7,Y8,Y9,Ya,Yb,Yc,Yd,Ye,Yf,Yg,Yh,Yi,Yj,Yk,Yl,Ym,Yn,ial,Yo,Yp,Yq,Yr,Ys,Yt,Yu,Yv,ires,iresL,ires1,Yw,Yx,Yy,Yz,YA,YB,bin2,YC,YD,YE,YF,YG,YH,YI,YJ,YK,YL,YM,YN,YO,YP,YQ,YR,un1,shOk,eqL,eq1,fillL,putAt,IHeap.load1,IHeap.loadL,IHeap.storeL,YS,YT,YU,YV,YW,YX,YY,YZ,B0,B1,B2,B3,B4,B5,B6,B7,B8,B9,Ba,Bb,Bc,Bd,Be,Bf,Bg,Bh,Bi,Bj,Bk,Bl,Bm, t0, t3, hil, hil']
        exact h1 (by omega) hall

include hc hC hX hI hT in
theorem awake37 (hK : ∀ H', K (.bool true) H') : c.C (c.F n_hurdlelaw37_awake) [] H K := by
  refine c.enter hT.hurdlelaw37_awake rfl ?_
  have e1 : addE [] [97] 5 = ([⟨[97], 5⟩], 0) := by decide
  have e2 : addE [⟨[97], 5⟩] [97] 6 = ([⟨[97], 5⟩], 6) := by decide
  have e3 : addE [⟨[97], 5⟩] [47] 5 = ([⟨[97], 5⟩], 15) := by decide
  have e4 : lookE [⟨[97], 5⟩] [97] = (5, 0) := by decide
  have e5 : remE [⟨[97], 5⟩] [97] = ([], 5, 0) := by decide
  have e6 : nameB [97, 46] = true := by decide
  have e7 : nameB [46, 46] = false := by decide
  have e8 : nameB [] = false := by decide
  have hok : ∀ e ∈ [(⟨[97], 5⟩ : EntD)], okE e := by
    intro e he
    simp only [List.mem_singleton] at he
    subst he
    exact ⟨by decide, by decide, by decide⟩
  have hso : SortedE [(⟨[97], 5⟩ : EntD)] := by simp [SortedE]
  have hfit : (textE [(⟨[97], 5⟩ : EntD)]).length ≤ 65536 := by
    have h1 := textE_len hok
    have h2 := encI_len (n := (([(⟨[97], 5⟩ : EntD)].length : Nat) : Int)) (by simp) (by simp)
    have h3 : [(⟨[97], 5⟩ : EntD)].length = 1 := rfl
    unfold textE
    rw [List.length_append]
    rw [h3] at h1
    omega
  have hre := readE_text hso hok (by simp)
  have hsl : (textE [(⟨[97], 5⟩ : EntD)]).length ≤ 1000000 := by omega
  simp -implicitDefEqProofs [J0,J1,J2,J3,J4,J5,J6,J7,J8,J9,Ja,Jb,Jc,Jd,Je,Jf,Jg,Jh,Ji,Jj,Jk,Jl,Jm,Jn,Jo,Jp,Jq,Jr,Js,Jt,Ju,Jv,Jw,Jx,Jy,Jz,JA,JB,JC,JD,JE,JF,JG,JH,JI,JJ,JK,JL,JM,JN,JO,JP,stillI,IOp.kind,JQ,JR,JS,JT,JU,JV,JW,JX,JY,JZ,Y0,Y1,Y2,Y3,Y4,Y5,Y6,Y7,Y8,Y9,Ya,Yb,Yc,Yd,Ye,Yf,Yg,Yh,Yi,Yj,Yk,Yl,Ym,Yn,ial,Yo,Yp,Yq,Yr,Ys,Yt,Yu,Yv,ires,iresL,ires1,Yw,Yx,Yy,Yz,YA,YB,bin2,YC,YD,YE,YF,YG,YH,YI,YJ,YK,YL,YM,YN,YO,YP,YQ,YR,un1,shOk,eqL,eq1,fillL,putAt,IHeap.load1,IHeap.loadL,IHeap.storeL,YS,YT,YU,YV,YW,YX,YY,YZ,B0,B1,B2,B3,B4,B5,B6,B7,B8,B9,Ba,Bb,Bc,Bd,Be,Bf,Bg,Bh,Bi,Bj,Bk,Bl,Bm, c_hurdlelaw37_awake]
  refine call_of (New_d c hc (S := fun _ => False) (by simp) fun H1 k1 n1 s1 => ?_)
  obtain ⟨p, hp⟩ : ∃ p, p = H.next := ⟨_, rfl⟩
  rw [← hp] at s1 ⊢
  simp -implicitDefEqProofs [J0,J1,J2,J3,J4,J5,J6,J7,J8,J9,Ja,Jb,Jc,Jd,Je,Jf,Jg,Jh,Ji,Jj,Jk,Jl,Jm,Jn,Jo,Jp,Jq,Jr,Js,Jt,Ju,Jv,Jw,Jx,Jy,Jz,JA,JB,JC,JD,JE,JF,JG,JH,JI,JJ,JK,JL,JM,JN,JO,JP,stillI,IOp.kind,JQ,JR,JS,JT,JU,JV,JW,JX,JY,JZ,Y0,Y1,Y2,Y3,Y4,Y5,Y6,Y7,Y8,Y9,Ya,Yb,Yc,Yd,Ye,Yf,Yg,Yh,Yi,Yj,Yk,Yl,Ym,Yn,ial,Yo,Yp,Yq,Yr,Ys,Yt,Yu,Yv,ires,iresL,ires1,Yw,Yx,Yy,Yz,YA,YB,bin2,YC,YD,YE,YF,YG,YH,YI,YJ,YK,YL,YM,YN,YO,YP,YQ,YR,un1,shOk,eqL,eq1,fillL,putAt,IHeap.load1,IHeap.loadL,IHeap.storeL,YS,YT,YU,YV,YW,YX,YY,YZ,B0,B1,B2,B3,B4,B5,B6,B7,B8,B9,Ba,Bb,Bc,Bd,Be,Bf,Bg,Bh,Bi,Bj,Bk,Bl,Bm, nilOf]
  refine call_of (Add_d c hc hX hI (s := [97]) (ino := 5) s1 (by simp) (by simp) fun H2 k2 s2 => ?_)
  rw [e1] at s2 ⊢
  simp -implicitDefEqProofs [J0,J1,J2,J3,J4,J5,J6,J7,J8,J9,Ja,Jb,Jc,Jd,Je,Jf,Jg,Jh,Ji,Jj,Jk,Jl,Jm,Jn,Jo,Jp,Jq,Jr,Js,Jt,Ju,Jv,Jw,Jx,Jy,Jz,JA,JB,JC,JD,JE,JF,JG,JH,JI,JJ,JK,JL,JM,JN,JO,JP,stillI,IOp.kind,JQ,JR,JS,JT,JU,JV,JW,JX,JY,JZ,Y0,Y1,Y2,Y3,Y4,Y5,Y6,Y7,Y8,Y9,Ya,Yb,Yc,Yd,Ye,Yf,Yg,Yh,Yi,Yj,Yk,Yl,Ym,Yn,ial,Yo,Yp,Yq,Yr,Ys,Yt,Yu,Yv,ires,iresL,ires1,Yw,Yx,Yy,Yz,YA,YB,bin2,YC,YD,YE,YF,YG,YH,YI,YJ,YK,YL,YM,YN,YO,YP,YQ,YR,un1,shOk,eqL,eq1,fillL,putAt,IHeap.load1,IHeap.loadL,IHeap.storeL,YS,YT,YU,YV,YW,YX,YY,YZ,B0,B1,B2,B3,B4,B5,B6,B7,B8,B9,Ba,Bb,Bc,Bd,Be,Bf,Bg,Bh,Bi,Bj,Bk,Bl,Bm]
  refine call_of (Add_d c hc hX hI (s := [97]) (ino := 6) s2 (by simp) (by simp) fun H3 k3 s3 => ?_)
  rw [e2] at s3 ⊢
  simp -implicitDefEqProofs [J0,J1,J2,J3,J4,J5,J6,J7,J8,J9,Ja,Jb,Jc,Jd,Je,Jf,Jg,Jh,Ji,Jj,Jk,Jl,Jm,Jn,Jo,Jp,Jq,Jr,Js,Jt,Ju,Jv,Jw,Jx,Jy,Jz,JA,JB,JC,JD,JE,JF,JG,JH,JI,JJ,JK,JL,JM,JN,JO,JP,stillI,IOp.kind,JQ,JR,JS,JT,JU,JV,JW,JX,JY,JZ,Y0,Y1,Y2,Y3,Y4,Y5,Y6,Y7,Y8,Y9,Ya,Yb,Yc,Yd,Ye,Yf,Yg,Yh,Yi,Yj,Yk,Yl,Ym,Yn,ial,Yo,Yp,Yq,Yr,Ys,Yt,Yu,Yv,ires,iresL,ires1,Yw,Yx,Yy,Yz,YA,YB,bin2,YC,YD,YE,YF,YG,YH,YI,YJ,YK,YL,YM,YN,YO,YP,YQ,YR,un1,shOk,eqL,eq1,fillL,putAt,IHeap.load1,IHeap.loadL,IHeap.storeL,YS,YT,YU,YV,YW,YX,YY,YZ,B0,B1,B2,B3,B4,B5,B6,B7,B8,B9,Ba,Bb,Bc,Bd,Be,Bf,Bg,Bh,Bi,Bj,Bk,Bl,Bm]
  refine call_of (Add_d c hc hX hI (s := [47]) (ino := 5) s3 (by simp) (by simp) fun H4 k4 s4 => ?_)
  rw [e3] at s4 ⊢
  simp -implicitDefEqProofs [J0,J1,J2,J3,J4,J5,J6,J7,J8,J9,Ja,Jb,Jc,Jd,Je,Jf,Jg,Jh,Ji,Jj,Jk,Jl,Jm,Jn,Jo,Jp,Jq,Jr,Js,Jt,Ju,Jv,Jw,Jx,Jy,Jz,JA,JB,JC,JD,JE,JF,JG,JH,JI,JJ,JK,JL,JM,JN,JO,JP,stillI,IOp.kind,JQ,JR,JS,JT,JU,JV,JW,JX,JY,JZ,Y0,Y1,Y2,Y3,Y4,Y5,Y6,Y7,Y8,Y9,Ya,Yb,Yc,Yd,Ye,Yf,Yg,Yh,Yi,Yj,Yk,Yl,Ym,Yn,ial,Yo,Yp,Yq,Yr,Ys,Yt,Yu,Yv,ires,iresL,ires1,Yw,Yx,Yy,Yz,YA,YB,bin2,YC,YD,YE,YF,YG,YH,YI,YJ,YK,YL,YM,YN,YO,YP,YQ,YR,un1,shOk,eqL,eq1,fillL,putAt,IHeap.load1,IHeap.loadL,IHeap.storeL,YS,YT,YU,YV,YW,YX,YY,YZ,B0,B1,B2,B3,B4,B5,B6,B7,B8,B9,Ba,Bb,Bc,Bd,Be,Bf,Bg,Bh,Bi,Bj,Bk,Bl,Bm]
  refine call_of (Look_d c hc (s := [97]) s4 (by simp) fun H5 k5 => ?_)
  rw [e4]
  simp -implicitDefEqProofs [J0,J1,J2,J3,J4,J5,J6,J7,J8,J9,Ja,Jb,Jc,Jd,Je,Jf,Jg,Jh,Ji,Jj,Jk,Jl,Jm,Jn,Jo,Jp,Jq,Jr,Js,Jt,Ju,Jv,Jw,Jx,Jy,Jz,JA,JB,JC,JD,JE,JF,JG,JH,JI,JJ,JK,JL,JM,JN,JO,JP,stillI,IOp.kind,JQ,JR,JS,JT,JU,JV,JW,JX,JY,JZ,Y0,Y1,Y2,Y3,Y4,Y5,Y6,Y7,Y8,Y9,Ya,Yb,Yc,Yd,Ye,Yf,Yg,Yh,Yi,Yj,Yk,Yl,Ym,Yn,ial,Yo,Yp,Yq,Yr,Ys,Yt,Yu,Yv,ires,iresL,ires1,Yw,Yx,Yy,Yz,YA,YB,bin2,YC,YD,YE,YF,YG,YH,YI,YJ,YK,YL,YM,YN,YO,YP,YQ,YR,un1,shOk,eqL,eq1,fillL,putAt,IHeap.load1,IHeap.loadL,IHeap.storeL,YS,YT,YU,YV,YW,YX,YY,YZ,B0,B1,B2,B3,B4,B5,B6,B7,B8,B9,Ba,Bb,Bc,Bd,Be,Bf,Bg,Bh,Bi,Bj,Bk,Bl,Bm]
  refine call_of (Text_d c hc hC (s4.le k5) (by simp) hok hfit fun H6 k6 => ?_)
  have s6 := (s4.le k5).le k6
  simp -implicitDefEqProofs [J0,J1,J2,J3,J4,J5,J6,J7,J8,J9,Ja,Jb,Jc,Jd,Je,Jf,Jg,Jh,Ji,Jj,Jk,Jl,Jm,Jn,Jo,Jp,Jq,Jr,Js,Jt,Ju,Jv,Jw,Jx,Jy,Jz,JA,JB,JC,JD,JE,JF,JG,JH,JI,JJ,JK,JL,JM,JN,JO,JP,stillI,IOp.kind,JQ,JR,JS,JT,JU,JV,JW,JX,JY,JZ,Y0,Y1,Y2,Y3,Y4,Y5,Y6,Y7,Y8,Y9,Ya,Yb,Yc,Yd,Ye,Yf,Yg,Yh,Yi,Yj,Yk,Yl,Ym,Yn,ial,Yo,Yp,Yq,Yr,Ys,Yt,Yu,Yv,ires,iresL,ires1,Yw,Yx,Yy,Yz,YA,YB,bin2,YC,YD,YE,YF,YG,YH,YI,YJ,YK,YL,YM,YN,YO,YP,YQ,YR,un1,shOk,eqL,eq1,fillL,putAt,IHeap.load1,IHeap.loadL,IHeap.storeL,YS,YT,YU,YV,YW,YX,YY,YZ,B0,B1,B2,B3,B4,B5,B6,B7,B8,B9,Ba,Bb,Bc,Bd,Be,Bf,Bg,Bh,Bi,Bj,Bk,Bl,Bm]
  refine call_of (DRead_ok c hc hC hX hI hsl (fun h => by rw [hre] at h; cases h) fun L p2 q2 H7 hL k7 hp2 hq2 _ _ i7 => ?_)
  rw [hre] at hL
  injection hL with hL
  subst hL
  have hq7 : q2 < H7.next := by
    obtain ⟨u, _, g2⟩ := i7.rep
    rcases g2 with ⟨h, _⟩ | ⟨_, h, _⟩
    · cases h
    · exact h
  have s7 := s6.grow k7
  simp -implicitDefEqProofs [J0,J1,J2,J3,J4,J5,J6,J7,J8,J9,Ja,Jb,Jc,Jd,Je,Jf,Jg,Jh,Ji,Jj,Jk,Jl,Jm,Jn,Jo,Jp,Jq,Jr,Js,Jt,Ju,Jv,Jw,Jx,Jy,Jz,JA,JB,JC,JD,JE,JF,JG,JH,JI,JJ,JK,JL,JM,JN,JO,JP,stillI,IOp.kind,JQ,JR,JS,JT,JU,JV,JW,JX,JY,JZ,Y0,Y1,Y2,Y3,Y4,Y5,Y6,Y7,Y8,Y9,Ya,Yb,Yc,Yd,Ye,Yf,Yg,Yh,Yi,Yj,Yk,Yl,Ym,Yn,ial,Yo,Yp,Yq,Yr,Ys,Yt,Yu,Yv,ires,iresL,ires1,Yw,Yx,Yy,Yz,YA,YB,bin2,YC,YD,YE,YF,YG,YH,YI,YJ,YK,YL,YM,YN,YO,YP,YQ,YR,un1,shOk,eqL,eq1,fillL,putAt,IHeap.load1,IHeap.loadL,IHeap.storeL,YS,YT,YU,YV,YW,YX,YY,YZ,B0,B1,B2,B3,B4,B5,B6,B7,B8,B9,Ba,Bb,Bc,Bd,Be,Bf,Bg,Bh,Bi,Bj,Bk,Bl,Bm]
  refine call_of (Remove_d c hc (s := [97]) s7 (by simp) fun H8 k8 s8 => ?_)
  rw [e5] at s8 ⊢
  have i8 : StD (fun _ => False) H8 p2 [⟨[97], 5⟩] := by
    refine ⟨by simp, by simp, q2, ?_, by simp⟩
    obtain ⟨u, g1, g2⟩ := i7.rep
    have gp := k8.2 p2 (.inr ⟨hp2, i7.lt⟩)
    have gq := k8.2 q2 (.inr ⟨hq2, hq7⟩)
    refine ⟨Nat.lt_of_lt_of_le i7.lt k8.1, i7.ne, ⟨u, gp.trans g1, ?_⟩, i7.sorted⟩
    rcases g2 with g2 | ⟨cs, x1, x2, x3, x4, x5⟩
    · exact .inl g2
    · exact .inr ⟨cs, Nat.lt_of_lt_of_le x1 k8.1, x2, gq.trans x3, x4, x5⟩
  simp -implicitDefEqProofs [J0,J1,J2,J3,J4,J5,J6,J7,J8,J9,Ja,Jb,Jc,Jd,Je,Jf,Jg,Jh,Ji,Jj,Jk,Jl,Jm,Jn,Jo,Jp,Jq,Jr,Js,Jt,Ju,Jv,Jw,Jx,Jy,Jz,JA,JB,JC,JD,JE,JF,JG,JH,JI,JJ,JK,JL,JM,JN,JO,JP,stillI,IOp.kind,JQ,JR,JS,JT,JU,JV,JW,JX,JY,JZ,Y0,Y1,Y2,Y3,Y4,Y5,Y6,Y7,Y8,Y9,Ya,Yb,Yc,Yd,Ye,Yf,Yg,Yh,Yi,Yj,Yk,Yl,Ym,Yn,ial,Yo,Yp,Yq,Yr,Ys,Yt,Yu,Yv,ires,iresL,ires1,Yw,Yx,Yy,Yz,YA,YB,bin2,YC,YD,YE,YF,YG,YH,YI,YJ,YK,YL,YM,YN,YO,YP,YQ,YR,un1,shOk,eqL,eq1,fillL,putAt,IHeap.load1,IHeap.loadL,IHeap.storeL,YS,YT,YU,YV,YW,YX,YY,YZ,B0,B1,B2,B3,B4,B5,B6,B7,B8,B9,Ba,Bb,Bc,Bd,Be,Bf,Bg,Bh,Bi,Bj,Bk,Bl,Bm]
  refine call_of (Len_d c hc i8 ?_)
  simp -implicitDefEqProofs [J0,J1,J2,J3,J4,J5,J6,J7,J8,J9,Ja,Jb,Jc,Jd,Je,Jf,Jg,Jh,Ji,Jj,Jk,Jl,Jm,Jn,Jo,Jp,Jq,Jr,Js,Jt,Ju,Jv,Jw,Jx,Jy,Jz,JA,JB,JC,JD,JE,JF,JG,JH,JI,JJ,JK,JL,JM,JN,JO,JP,stillI,IOp.kind,JQ,JR,JS,JT,JU,JV,JW,JX,JY,JZ,Y0,Y1,Y2,Y3,Y4,Y5,Y6,Y7,Y8,Y9,Ya,Yb,Yc,Yd,Ye,Yf,Yg,Yh,Yi,Yj,Yk,Yl,Ym,Yn,ial,Yo,Yp,Yq,Yr,Ys,Yt,Yu,Yv,ires,iresL,ires1,Yw,Yx,Yy,Yz,YA,YB,bin2,YC,YD,YE,YF,YG,YH,YI,YJ,YK,YL,YM,YN,YO,YP,YQ,YR,un1,shOk,eqL,eq1,fillL,putAt,IHeap.load1,IHeap.loadL,IHeap.storeL,YS,YT,YU,YV,YW,YX,YY,YZ,B0,B1,B2,B3,B4,B5,B6,B7,B8,B9,Ba,Bb,Bc,Bd,Be,Bf,Bg,Bh,Bi,Bj,Bk,Bl,Bm]
  refine call_of (Len_d c hc s8 ?_)
  simp -implicitDefEqProofs [J0,J1,J2,J3,J4,J5,J6,J7,J8,J9,Ja,Jb,Jc,Jd,Je,Jf,Jg,Jh,Ji,Jj,Jk,Jl,Jm,Jn,Jo,Jp,Jq,Jr,Js,Jt,Ju,Jv,Jw,Jx,Jy,Jz,JA,JB,JC,JD,JE,JF,JG,JH,JI,JJ,JK,JL,JM,JN,JO,JP,stillI,IOp.kind,JQ,JR,JS,JT,JU,JV,JW,JX,JY,JZ,Y0,Y1,Y2,Y3,Y4,Y5,Y6,Y7,Y8,Y9,Ya,Yb,Yc,Yd,Ye,Yf,Yg,Yh,Yi,Yj,Yk,Yl,Ym,Yn,ial,Yo,Yp,Yq,Yr,Ys,Yt,Yu,Yv,ires,iresL,ires1,Yw,Yx,Yy,Yz,YA,YB,bin2,YC,YD,YE,YF,YG,YH,YI,YJ,YK,YL,YM,YN,YO,YP,YQ,YR,un1,shOk,eqL,eq1,fillL,putAt,IHeap.load1,IHeap.loadL,IHeap.storeL,YS,YT,YU,YV,YW,YX,YY,YZ,B0,B1,B2,B3,B4,B5,B6,B7,B8,B9,Ba,Bb,Bc,Bd,Be,Bf,Bg,Bh,Bi,Bj,Bk,Bl,Bm]
  refine call_of (DName_ok c hc hX (s := [97, 46]) (by simp) ?_)
  rw [e6]
  simp -implicitDefEqProofs [J0,J1,J2,J3,J4,J5,J6,J7,J8,J9,Ja,Jb,Jc,Jd,Je,Jf,Jg,Jh,Ji,Jj,Jk,Jl,Jm,Jn,Jo,Jp,Jq,Jr,Js,Jt,Ju,Jv,Jw,Jx,Jy,Jz,JA,JB,JC,JD,JE,JF,JG,JH,JI,JJ,JK,JL,JM,JN,JO,JP,stillI,IOp.kind,JQ,JR,JS,JT,JU,JV,JW,JX,JY,JZ,Y0,Y1,Y2,Y3,Y4,Y5,Y6,Y7,Y8,Y9,Ya,Yb,Yc,Yd,Ye,Yf,Yg,Yh,Yi,Yj,Yk,Yl,Ym,Yn,ial,Yo,Yp,Yq,Yr,Ys,Yt,Yu,Yv,ires,iresL,ires1,Yw,Yx,Yy,Yz,YA,YB,bin2,YC,YD,YE,YF,YG,YH,YI,YJ,YK,YL,YM,YN,YO,YP,YQ,YR,un1,shOk,eqL,eq1,fillL,putAt,IHeap.load1,IHeap.loadL,IHeap.storeL,YS,YT,YU,YV,YW,YX,YY,YZ,B0,B1,B2,B3,B4,B5,B6,B7,B8,B9,Ba,Bb,Bc,Bd,Be,Bf,Bg,Bh,Bi,Bj,Bk,Bl,Bm]
  refine call_of (DName_ok c hc hX (s := [46, 46]) (by simp) ?_)
  rw [e7]
  simp -implicitDefEqProofs [J0,J1,J2,J3,J4,J5,J6,J7,J8,J9,Ja,Jb,Jc,Jd,Je,Jf,Jg,Jh,Ji,Jj,Jk,Jl,Jm,Jn,Jo,Jp,Jq,Jr,Js,Jt,Ju,Jv,Jw,Jx,Jy,Jz,JA,JB,JC,JD,JE,JF,JG,JH,JI,JJ,JK,JL,JM,JN,JO,JP,stillI,IOp.kind,JQ,JR,JS,JT,JU,JV,JW,JX,JY,JZ,Y0,Y1,Y2,Y3,Y4,Y5,Y6,Y7,Y8,Y9,Ya,Yb,Yc,Yd,Ye,Yf,Yg,Yh,Yi,Yj,Yk,Yl,Ym,Yn,ial,Yo,Yp,Yq,Yr,Ys,Yt,Yu,Yv,ires,iresL,ires1,Yw,Yx,Yy,Yz,YA,YB,bin2,YC,YD,YE,YF,YG,YH,YI,YJ,YK,YL,YM,YN,YO,YP,YQ,YR,un1,shOk,eqL,eq1,fillL,putAt,IHeap.load1,IHeap.loadL,IHeap.storeL,YS,YT,YU,YV,YW,YX,YY,YZ,B0,B1,B2,B3,B4,B5,B6,B7,B8,B9,Ba,Bb,Bc,Bd,Be,Bf,Bg,Bh,Bi,Bj,Bk,Bl,Bm]
  refine call_of (DName_ok c hc hX (s := []) (by simp) ?_)
  rw [e8]
  simp -implicitDefEqProofs [J0,J1,J2,J3,J4,J5,J6,J7,J8,J9,Ja,Jb,Jc,Jd,Je,Jf,Jg,Jh,Ji,Jj,Jk,Jl,Jm,Jn,Jo,Jp,Jq,Jr,Js,Jt,Ju,Jv,Jw,Jx,Jy,Jz,JA,JB,JC,JD,JE,JF,JG,JH,JI,JJ,JK,JL,JM,JN,JO,JP,stillI,IOp.kind,JQ,JR,JS,JT,JU,JV,JW,JX,JY,JZ,Y0,Y1,Y2,Y3,Y4,Y5,Y6,Y7,Y8,Y9,Ya,Yb,Yc,Yd,Ye,Yf,Yg,Yh,Yi,Yj,Yk,Yl,Ym,Yn,ial,Yo,Yp,Yq,Yr,Ys,Yt,Yu,Yv,ires,iresL,ires1,Yw,Yx,Yy,Yz,YA,YB,bin2,YC,YD,YE,YF,YG,YH,YI,YJ,YK,YL,YM,YN,YO,YP,YQ,YR,un1,shOk,eqL,eq1,fillL,putAt,IHeap.load1,IHeap.loadL,IHeap.storeL,YS,YT,YU,YV,YW,YX,YY,YZ,B0,B1,B2,B3,B4,B5,B6,B7,B8,B9,Ba,Bb,Bc,Bd,Be,Bf,Bg,Bh,Bi,Bj,Bk,Bl,Bm]
  exact hK _

end
end Go.Proofs.YtfegliplajdgmaaI
