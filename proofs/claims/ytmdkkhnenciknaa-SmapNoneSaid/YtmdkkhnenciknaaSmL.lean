/- Stripes that are known: the document's deeds, what is freed. -/
import Derived.Test.YtmdkkhnenciknaaSmK
namespace Go.Proofs.YtmdkkhnenciknaaI
set_option linter.unusedSimpArgs false
set_option linter.unusedVariables false
open Go

def midS (f : St → St) (L : List St) (i : Nat) : List St := (L.take i).map f ++ L.drop i
theorem stsum (L : List St) (f : St → St) (i : Nat) (hi : i ≤ L.length) : (midS f L i).length = L.length := by
  unfold midS
  simp only [List.length_append, List.length_map, List.length_take, List.length_drop]; omega
theorem stget (L : List St) (f : St → St) (i : Nat) {x : St} (hx : L[i]? = some x) : (midS f L i)[i]? = some x := by
  unfold midS
  have hi := (List.getElem?_eq_some_iff.1 hx).1
  rw [List.getElem?_append_right (by simp; omega)]
  simp only [List.length_map, List.length_take, Nat.min_eq_left (Nat.le_of_lt hi), Nat.sub_self, List.getElem?_drop, Nat.add_zero]
  exact hx
theorem stset (L : List St) (f : St → St) (i : Nat) {x : St} (hx : L[i]? = some x) : (midS f L i).set i (f x) = midS f L (i + 1) := by
  unfold midS
  have hi := (List.getElem?_eq_some_iff.1 hx).1
  have hd : L.drop i = x :: L.drop (i + 1) := by
    rw [List.drop_eq_getElem_cons hi]
    have := (List.getElem?_eq_some_iff.1 hx).2
    rw [this]
  rw [hd, List.set_append_right _ _ (by simp; omega)]
  have e : i - ((L.take i).map f).length = 0 := by simp; omega
  rw [e, List.set_cons_zero, List.take_add_one, hx]
  simp
theorem stsame (L : List St) (f : St → St) (i : Nat) {x : St} (hx : L[i]? = some x) (hf : f x = x) : midS f L i = midS f L (i + 1) := by
  rw [← stset L f i hx, hf]
  refine List.ext_getElem? fun k => ?_
  rw [List.getElem?_set]
  by_cases hk : i = k
  · subst hk
    rw [if_pos rfl, stget L f i hx, if_pos (by rw [stsum L f i (Nat.le_of_lt (List.getElem?_eq_some_iff.1 hx).1)]; exact (List.getElem?_eq_some_iff.1 hx).1)]
  · rw [if_neg hk]

/-- What a slice that is appended to holds, and where. -/
def OutS (H : IHeap) (Q : List Nat) (v : Value) (l : List Int) : Prop :=
  (Q = [] ∧ l = [] ∧ v = .slice none 0 0) ∨ (∃ q, Q = [q] ∧ q < H.next ∧ l ≠ [] ∧ v = .slice (some ⟨q, 0, none⟩) l.length (UNK + 1) ∧ H.get q = some (.cells (l.map iV) false))
theorem OutS.lt {H : IHeap} {Q : List Nat} {v : Value} {l : List Int} (h : OutS H Q v l) : ∀ b ∈ Q, b < H.next := by
  rcases h with ⟨rfl, _⟩ | ⟨q, rfl, h1, _⟩
  · simp
  · intro b hb
    simp only [List.mem_singleton] at hb
    omega
theorem OutS.upd {H H' : IHeap} {S Q : List Nat} {v : Value} {l : List Int} (h : OutS H Q v l) (hu : IHeap.upd S H H') (hs : ∀ b ∈ Q, b ∉ S) : OutS H' Q v l := by
  rcases h with h | ⟨q, rfl, h1, h2, h3, h4⟩
  · exact .inl h
  · exact .inr ⟨q, rfl, Nat.lt_of_lt_of_le h1 hu.next, h2, h3, (hu.get q h1 (hs q (by simp))).trans h4⟩
theorem OutS.le {H H' : IHeap} {Q : List Nat} {v : Value} {l : List Int} (h : OutS H Q v l) (hu : H.le H') : OutS H' Q v l := h.upd (hu.upd []) (by simp)
theorem OutS.slw {H : IHeap} {Q : List Nat} {v : Value} {l : List Int} (h : OutS H Q v l) : SlW H 1 v (l.map rowI) := by
  rcases h with ⟨_, rfl, rfl⟩ | ⟨q, _, h1, _, rfl, h4⟩
  · exact SlW.nil H 1
  · exact ⟨slr_ints h1 h4 (by rw [List.drop_zero, List.take_of_length_le (by simp)]) (by simp), _, _, by rw [List.length_map], .inr ⟨_, _, rfl⟩, .inr ⟨rfl, by simp⟩⟩
theorem OutS.far {H : IHeap} {S Q : List Nat} {v : Value} {l : List Int} (h : OutS H Q v l) {n : Nat} (hQ : ∀ b ∈ Q, n ≤ b) (hS : ∀ b ∈ S, b < n) : Far H v S := by
  intro b o m cc e
  rcases h with ⟨_, _, rfl⟩ | ⟨q, rfl, h1, _, rfl, _⟩
  · simp at e
  · simp only [Value.slice.injEq, Option.some.injEq, Addr.mk.injEq] at e
    obtain ⟨⟨rfl, _⟩, _⟩ := e
    exact ⟨fun hm => by have := hS _ hm; have := hQ q (by simp); omega, h1⟩
theorem OutS.push {H : IHeap} {Q : List Nat} {v : Value} {l : List Int} {x : Int} (h : OutS H Q v l) (hl : l.length ≤ 1000000) :
    ∃ H', appendI H 1 8 v 1 [.int .i64 x] = some (.slice (some ⟨H.next, 0, none⟩) (l.length + 1) (UNK + 1), H') ∧ OutS H' [H.next] (.slice (some ⟨H.next, 0, none⟩) (l.length + 1) (UNK + 1)) (l ++ [x]) ∧ IHeap.upd Q H H' := by
  rcases h with ⟨rfl, rfl, rfl⟩ | ⟨q, rfl, h1, h2, rfl, h4⟩
  · obtain ⟨H', e, g, n, u, z⟩ := push_ok (H := H) (q := H.next) (size := 1) (bytes := 8) (u := .slice none 0 0) (rows := []) (new := [.int .i64 x]) (.inl ⟨rfl, rfl⟩) (by simp) (by omega) (by omega) rfl rfl (by simp) (by simp)
    exact ⟨H', e, .inr ⟨_, rfl, by omega, by simp, rfl, by simpa [iV] using g⟩, (z rfl).upd _⟩
  · obtain ⟨H', e, g, n, u, z⟩ := push_ok (H := H) (q := q) (size := 1) (bytes := 8) (u := .slice (some ⟨q, 0, none⟩) l.length (UNK + 1)) (rows := l.map rowI) (new := [.int .i64 x]) (.inr ⟨by simpa using h2, by simp, by rw [flat_rowI]; exact h4⟩) (by intro r hr; obtain ⟨y, _, rfl⟩ := List.mem_map.1 hr; rfl) (by omega) (by omega) rfl rfl (by simp; omega) (by simp; omega)
    rw [List.length_map] at e
    refine ⟨H', e, .inr ⟨_, rfl, by omega, by simp, by simp, ?_⟩, u⟩
    rw [g, List.flatten_append, flat_rowI]
    simp [iV]
theorem upd_more {S S' : List Nat} {H H' : IHeap} (h : IHeap.upd S H H') (hs : ∀ b ∈ S, b ∈ S') : IHeap.upd S' H H' := ⟨h.next, fun b hb hn => h.get b hb fun hm => hn (hs b hm)⟩
/-- The list and what is appended to, off each other. -/
def DropI (n : Nat) (H : IHeap) (S : List Nat) (v w : Value) (M : List St) (out : List Int) : Prop := ∃ Q, (∀ b ∈ Q, n ≤ b) ∧ RS H (Q ++ S) v M ∧ OutS H Q w out

section
variable (c : Ctx) (hR : HasRef24 c) (h23 : HasRef23 c) (h01 : HasRef01 c) {H : IHeap} {K : Value → IHeap → Prop}

include hR in
theorem RFree_ok {S : List Nat} {u : Value} {L : List St} {id : Int} (h : RS H S u L) (hl : L.length ≤ 4096) (hS : ∀ b ∈ S, b < H.next)
    (hK : ∀ v' H', H.le H' → RS H' S v' (SFree L id).1 → K (.tuple #[v', .int .i64 (SFree L id).2]) H') : c.C (c.F n_hurdleref24_Free) [u, .int .i64 id] H K := by
  refine c.enter hR.hurdleref24_Free rfl ?_
  unfold SFree at hK
  simp -implicitDefEqProofs [J0,J1,J2,J3,J4,J5,J6,J7,J8,J9,Ja,Jb,Jc,Jd,Je,Jf,Jg,Jh,Ji,Jj,Jk,Jl,Jm,Jn,Jo,Jp,Jq,Jr,Js,Jt,Ju,Jv,Jw,Jx,Jy,Jz,JA,JB,JC,JD,JE,JF,JG,JH,JI,JJ,JK,JL,JM,JN,JO,JP,stillI,IOp.kind,JQ,JR,JS,JT,JU,JV,JW,JX,JY,JZ,Y0,Y1,Y2,Y3,Y4,Y5,Y6,Y7,Y8,Y9,Ya,Yb,Yc,Yd,Ye,Yf,Yg,Yh,Yi,Yj,Yk,Yl,Ym,Yn,ial,Yo,Yp,Yq,Yr,Ys,Yt,Yu,Yv,ires,iresL,ires1,Yw,Yx,Yy,Yz,YA,YB,bin2,YC,YD,YE,YF,YG,YH,YI,YJ,YK,YL,YM,YN,YO,YP,YQ,YR,un1,shOk,eqL,eq1,fillL,putAt,IHeap.load1,IHeap.loadL,IHeap.storeL,YS,YT,YU,YV,YW,YX,YY,YZ,B0,B1,B2,B3,B4,B5,B6,B7,B8,B9,Ba,Bb,Bc,Bd,Be,Bf,Bg,Bh,Bi,Bj,Bk,Bl,Bm, c_hurdleref24_Free]
  refine call_of (Rknown_ok c hR h hl ?_)
  cases hg : getS L id with
  | none =>
    rw [hg] at hK
    simp -implicitDefEqProofs [J0,J1,J2,J3,J4,J5,J6,J7,J8,J9,Ja,Jb,Jc,Jd,Je,Jf,Jg,Jh,Ji,Jj,Jk,Jl,Jm,Jn,Jo,Jp,Jq,Jr,Js,Jt,Ju,Jv,Jw,Jx,Jy,Jz,JA,JB,JC,JD,JE,JF,JG,JH,JI,JJ,JK,JL,JM,JN,JO,JP,stillI,IOp.kind,JQ,JR,JS,JT,JU,JV,JW,JX,JY,JZ,Y0,Y1,Y2,Y3,Y4,Y5,Y6,Y7,Y8,Y9,Ya,Yb,Yc,Yd,Ye,Yf,Yg,Yh,Yi,Yj,Yk,Yl,Ym,Yn,ial,Yo,Yp,Yq,Yr,Ys,Yt,Yu,Yv,ires,iresL,ires1,Yw,Yx,Yy,Yz,YA,YB,bin2,YC,YD,YE,YF,YG,YH,YI,YJ,YK,YL,YM,YN,YO,YP,YQ,YR,un1,shOk,eqL,eq1,fillL,putAt,IHeap.load1,IHeap.loadL,IHeap.storeL,YS,YT,YU,YV,YW,YX,YY,YZ,B0,B1,B2,B3,B4,B5,B6,B7,B8,B9,Ba,Bb,Bc,Bd,Be,Bf,Bg,Bh,Bi,Bj,Bk,Bl,Bm, Option.isSome_none]
    exact hK _ _ (IHeap.le_refl _) h
  | some x =>
    rw [hg] at hK
    simp only at hK
    obtain ⟨i0, i1, hx⟩ := getS_some hg
    obtain ⟨b, o, cp, cs, ro, v, e, hb, hget, hrow, hbd, _, _, _⟩ := h.at hx
    subst e
    have r1 := row_get hrow 1 (by omega)
    simp only [rowSt, List.getElem?_cons_succ, List.getElem?_cons_zero] at r1
    have hi' : id < (L.length : Int) := by omega
    have eid : ((id.toNat : Nat) : Int) = id := by omega
    by_cases hs : x.st = 3
    · rw [if_pos hs] at hK
      simp -implicitDefEqProofs [J0,J1,J2,J3,J4,J5,J6,J7,J8,J9,Ja,Jb,Jc,Jd,Je,Jf,Jg,Jh,Ji,Jj,Jk,Jl,Jm,Jn,Jo,Jp,Jq,Jr,Js,Jt,Ju,Jv,Jw,Jx,Jy,Jz,JA,JB,JC,JD,JE,JF,JG,JH,JI,JJ,JK,JL,JM,JN,JO,JP,stillI,IOp.kind,JQ,JR,JS,JT,JU,JV,JW,JX,JY,JZ,Y0,Y1,Y2,Y3,Y4,Y5,Y6,Y7,Y8,Y9,Ya,Yb,Yc,Yd,Ye,Yf,Yg,Yh,Yi,Yj,Yk,Yl,Ym,Yn,ial,Yo,Yp,Yq,Yr,Ys,Yt,Yu,Yv,ires,iresL,ires1,Yw,Yx,Yy,Yz,YA,YB,bin2,YC,YD,YE,YF,YG,YH,YI,YJ,YK,YL,YM,YN,YO,YP,YQ,YR,un1,shOk,eqL,eq1,fillL,putAt,IHeap.load1,IHeap.loadL,IHeap.storeL,YS,YT,YU,YV,YW,YX,YY,YZ,B0,B1,B2,B3,B4,B5,B6,B7,B8,B9,Ba,Bb,Bc,Bd,Be,Bf,Bg,Bh,Bi,Bj,Bk,Bl,Bm, Option.isSome_some, i0, hi', hget, r1, hs]
      exact hK _ _ (IHeap.le_refl _) h
    · rw [if_neg hs] at hK
      have hst := fun (K2 : Value → IHeap → Prop) hk => Rstate_ok c hR (to := 3) (K := K2) h hl hS hx hk
      rw [eid] at hst
      simp -implicitDefEqProofs [J0,J1,J2,J3,J4,J5,J6,J7,J8,J9,Ja,Jb,Jc,Jd,Je,Jf,Jg,Jh,Ji,Jj,Jk,Jl,Jm,Jn,Jo,Jp,Jq,Jr,Js,Jt,Ju,Jv,Jw,Jx,Jy,Jz,JA,JB,JC,JD,JE,JF,JG,JH,JI,JJ,JK,JL,JM,JN,JO,JP,stillI,IOp.kind,JQ,JR,JS,JT,JU,JV,JW,JX,JY,JZ,Y0,Y1,Y2,Y3,Y4,Y5,Y6,Y7,Y8,Y9,Ya,Yb,Yc,Yd,Ye,Yf,Yg,Yh,Yi,Yj,Yk,Yl,Ym,Yn,ial,Yo,Yp,Yq,Yr,Ys,Yt,Yu,Yv,ires,iresL,ires1,Yw,Yx,Yy,Yz,YA,YB,bin2,YC,YD,YE,YF,YG,YH,YI,YJ,YK,YL,YM,YN,YO,YP,YQ,YR,un1,shOk,eqL,eq1,fillL,putAt,IHeap.load1,IHeap.loadL,IHeap.storeL,YS,YT,YU,YV,YW,YX,YY,YZ,B0,B1,B2,B3,B4,B5,B6,B7,B8,B9,Ba,Bb,Bc,Bd,Be,Bf,Bg,Bh,Bi,Bj,Bk,Bl,Bm, Option.isSome_some, i0, hi', hget, r1, hs]
      refine call_of (hst _ fun v' H' hle hrs => ?_)
      simp -implicitDefEqProofs [J0,J1,J2,J3,J4,J5,J6,J7,J8,J9,Ja,Jb,Jc,Jd,Je,Jf,Jg,Jh,Ji,Jj,Jk,Jl,Jm,Jn,Jo,Jp,Jq,Jr,Js,Jt,Ju,Jv,Jw,Jx,Jy,Jz,JA,JB,JC,JD,JE,JF,JG,JH,JI,JJ,JK,JL,JM,JN,JO,JP,stillI,IOp.kind,JQ,JR,JS,JT,JU,JV,JW,JX,JY,JZ,Y0,Y1,Y2,Y3,Y4,Y5,Y6,Y7,Y8,Y9,Ya,Yb,Yc,Yd,Ye,Yf,Yg,Yh,Yi,Yj,Yk,Yl,Ym,Yn,ial,Yo,Yp,Yq,Yr,Ys,Yt,Yu,Yv,ires,iresL,ires1,Yw,Yx,Yy,Yz,YA,YB,bin2,YC,YD,YE,YF,YG,YH,YI,YJ,YK,YL,YM,YN,YO,YP,YQ,YR,un1,shOk,eqL,eq1,fillL,putAt,IHeap.load1,IHeap.loadL,IHeap.storeL,YS,YT,YU,YV,YW,YX,YY,YZ,B0,B1,B2,B3,B4,B5,B6,B7,B8,B9,Ba,Bb,Bc,Bd,Be,Bf,Bg,Bh,Bi,Bj,Bk,Bl,Bm]
      exact hK _ _ hle hrs

include hR in
theorem RDrop_ok {S : List Nat} {u : Value} {L : List St} {ow : Int} (h : RS H S u L) (hl : L.length ≤ 4096) (hS : ∀ b ∈ S, b < H.next)
    (hK : ∀ v' w H', H.le H' → RS H' S v' (SDrop L ow).1 → SlW H' 1 w ((SDrop L ow).2.map rowI) → Far H' w S → K (.tuple #[v', w]) H') : c.C (c.F n_hurdleref24_Drop) [u, .int .i64 ow] H K := by
  refine c.enter hR.hurdleref24_Drop rfl ?_
  simp -implicitDefEqProofs [J0,J1,J2,J3,J4,J5,J6,J7,J8,J9,Ja,Jb,Jc,Jd,Je,Jf,Jg,Jh,Ji,Jj,Jk,Jl,Jm,Jn,Jo,Jp,Jq,Jr,Js,Jt,Ju,Jv,Jw,Jx,Jy,Jz,JA,JB,JC,JD,JE,JF,JG,JH,JI,JJ,JK,JL,JM,JN,JO,JP,stillI,IOp.kind,JQ,JR,JS,JT,JU,JV,JW,JX,JY,JZ,Y0,Y1,Y2,Y3,Y4,Y5,Y6,Y7,Y8,Y9,Ya,Yb,Yc,Yd,Ye,Yf,Yg,Yh,Yi,Yj,Yk,Yl,Ym,Yn,ial,Yo,Yp,Yq,Yr,Ys,Yt,Yu,Yv,ires,iresL,ires1,Yw,Yx,Yy,Yz,YA,YB,bin2,YC,YD,YE,YF,YG,YH,YI,YJ,YK,YL,YM,YN,YO,YP,YQ,YR,un1,shOk,eqL,eq1,fillL,putAt,IHeap.load1,IHeap.loadL,IHeap.storeL,YS,YT,YU,YV,YW,YX,YY,YZ,B0,B1,B2,B3,B4,B5,B6,B7,B8,B9,Ba,Bb,Bc,Bd,Be,Bf,Bg,Bh,Bi,Bj,Bk,Bl,Bm, c_hurdleref24_Drop]
  refine loop_nat c.mono (fun k T H' => ∃ i : Nat, i ≤ L.length ∧ k = L.length - i ∧ T 1 = .int .i64 ow ∧ T 7 = .int .i64 i ∧ H.le H' ∧ DropI H.next H' S (T 0) (T 6) (midS (freeS ow) L i) (wh (isOf ow) 0 (L.take i))) L.length ?_ ?_
  · refine ⟨0, by omega, rfl, ?_⟩
    simp -implicitDefEqProofs [J0,J1,J2,J3,J4,J5,J6,J7,J8,J9,Ja,Jb,Jc,Jd,Je,Jf,Jg,Jh,Ji,Jj,Jk,Jl,Jm,Jn,Jo,Jp,Jq,Jr,Js,Jt,Ju,Jv,Jw,Jx,Jy,Jz,JA,JB,JC,JD,JE,JF,JG,JH,JI,JJ,JK,JL,JM,JN,JO,JP,stillI,IOp.kind,JQ,JR,JS,JT,JU,JV,JW,JX,JY,JZ,Y0,Y1,Y2,Y3,Y4,Y5,Y6,Y7,Y8,Y9,Ya,Yb,Yc,Yd,Ye,Yf,Yg,Yh,Yi,Yj,Yk,Yl,Ym,Yn,ial,Yo,Yp,Yq,Yr,Ys,Yt,Yu,Yv,ires,iresL,ires1,Yw,Yx,Yy,Yz,YA,YB,bin2,YC,YD,YE,YF,YG,YH,YI,YJ,YK,YL,YM,YN,YO,YP,YQ,YR,un1,shOk,eqL,eq1,fillL,putAt,IHeap.load1,IHeap.loadL,IHeap.storeL,YS,YT,YU,YV,YW,YX,YY,YZ,B0,B1,B2,B3,B4,B5,B6,B7,B8,B9,Ba,Bb,Bc,Bd,Be,Bf,Bg,Bh,Bi,Bj,Bk,Bl,Bm]
    exact ⟨IHeap.le_refl _, [], by simp, by simpa [midS] using h, by simp [wh, OutS]⟩
  · rintro k T H' ⟨i, hi, rfl, t1, t7, hle, Q, hQn, hrs, hgr⟩
    have hMl := stsum L (freeS ow) i hi
    have nn := hle.next
    have hQ := hgr.lt
    have hS' : ∀ b ∈ Q ++ S, b < H'.next := fun b hb => by
      rcases List.mem_append.1 hb with h1 | h1
      · exact hQ b h1
      · have := hS b h1; omega
    by_cases hil : i < L.length
    · have hil' : (i : Int) < (L.length : Int) := by omega
      have hx : L[i]? = some L[i] := List.getElem?_eq_getElem hil
      obtain ⟨x, hxe⟩ : ∃ x, x = L[i] := ⟨_, rfl⟩
      rw [← hxe] at hx
      have hMx := stget L (freeS ow) i hx
      have hset := stset L (freeS ow) i hx
      have hsame := stsame L (freeS ow) i hx
      obtain ⟨M, hM⟩ : ∃ M, M = midS (freeS ow) L i := ⟨_, rfl⟩
      rw [← hM] at hMl hMx hrs hset hsame
      obtain ⟨b, o, cp, cs, ro, v, t0, hb, hget, hrow, hbd, _, _, _⟩ := hrs.at hMx
      rw [hMl] at t0
      have r1 := row_get hrow 1 (by omega)
      have r2 := row_get hrow 2 (by omega)
      simp only [rowSt, List.getElem?_cons_succ, List.getElem?_cons_zero] at r1 r2
      have hw : IntKind.i64.wrap ((i : Int) + 1) = (i : Int) + 1 := wrap64 (by omega) (by omega)
      have htk : L.take (i + 1) = L.take i ++ [x] := by rw [List.take_add_one, hx]; rfl
      have hwl := wh_le (isOf ow) (L.take i) 0
      have hsn := wh_snoc (isOf ow) (L.take i) 0 x
      rw [← htk, Nat.zero_add, List.length_take, Nat.min_eq_left hi] at hsn
      rw [List.length_take] at hwl
      obtain ⟨out, hout⟩ : ∃ out, out = wh (isOf ow) 0 (L.take i) := ⟨_, rfl⟩
      rw [← hout] at hgr hwl hsn
      by_cases hs : x.ow = ow
      · by_cases hst : x.st = 1
        · rw [if_pos (by simp [isOf, hs, hst])] at hsn
          have hfx : freeS ow x = { x with st := 3 } := by simp [freeS, isOf, hs, hst]
          rw [hfx] at hset
          rw [t0] at hrs
          simp -implicitDefEqProofs [J0,J1,J2,J3,J4,J5,J6,J7,J8,J9,Ja,Jb,Jc,Jd,Je,Jf,Jg,Jh,Ji,Jj,Jk,Jl,Jm,Jn,Jo,Jp,Jq,Jr,Js,Jt,Ju,Jv,Jw,Jx,Jy,Jz,JA,JB,JC,JD,JE,JF,JG,JH,JI,JJ,JK,JL,JM,JN,JO,JP,stillI,IOp.kind,JQ,JR,JS,JT,JU,JV,JW,JX,JY,JZ,Y0,Y1,Y2,Y3,Y4,Y5,Y6,Y7,Y8,Y9,Ya,Yb,Yc,Yd,Ye,Yf,Yg,Yh,Yi,Yj,Yk,Yl,Ym,Yn,ial,Yo,Yp,Yq,Yr,Ys,Yt,Yu,Yv,ires,iresL,ires1,Yw,Yx,Yy,Yz,YA,YB,bin2,YC,YD,YE,YF,YG,YH,YI,YJ,YK,YL,YM,YN,YO,YP,YQ,YR,un1,shOk,eqL,eq1,fillL,putAt,IHeap.load1,IHeap.loadL,IHeap.storeL,YS,YT,YU,YV,YW,YX,YY,YZ,B0,B1,B2,B3,B4,B5,B6,B7,B8,B9,Ba,Bb,Bc,Bd,Be,Bf,Bg,Bh,Bi,Bj,Bk,Bl,Bm, t0, t1, t7, hil, hil', hget, r1, r2, hs, hst]
          refine call_of (Rstate_ok c hR (to := 3) hrs (by omega) hS' hMx fun v2 H2 hle2 hrs2 => ?_)
          rw [hset] at hrs2
          have kC := H2.le_alloc (.cells [.int .i64 i] false)
          obtain ⟨HC, hHC⟩ : ∃ X : IHeap, X = H2.alloc (.cells [.int .i64 i] false) := ⟨_, rfl⟩
          rw [← hHC] at kC
          have gC : HC.get H2.next = some (.cells [.int .i64 i] false) := by rw [hHC, YS, if_pos rfl]
          have f1 : firstI HC 1 1 (.slice (some ⟨H2.next, 0, none⟩) 1 1) = some [.int .i64 i] := by simp [firstI, IHeap.loadL, gC]
          obtain ⟨H4, e4, gr4, u4⟩ := ((hgr.le hle2).le kC).push (x := (i : Int)) (by omega)
          obtain ⟨a6, c6, t6⟩ := hgr.slw.len
          rw [List.length_map] at t6
          rw [t6] at e4
          rw [← hsn] at gr4
          simp -implicitDefEqProofs [J0,J1,J2,J3,J4,J5,J6,J7,J8,J9,Ja,Jb,Jc,Jd,Je,Jf,Jg,Jh,Ji,Jj,Jk,Jl,Jm,Jn,Jo,Jp,Jq,Jr,Js,Jt,Ju,Jv,Jw,Jx,Jy,Jz,JA,JB,JC,JD,JE,JF,JG,JH,JI,JJ,JK,JL,JM,JN,JO,JP,stillI,IOp.kind,JQ,JR,JS,JT,JU,JV,JW,JX,JY,JZ,Y0,Y1,Y2,Y3,Y4,Y5,Y6,Y7,Y8,Y9,Ya,Yb,Yc,Yd,Ye,Yf,Yg,Yh,Yi,Yj,Yk,Yl,Ym,Yn,ial,Yo,Yp,Yq,Yr,Ys,Yt,Yu,Yv,ires,iresL,ires1,Yw,Yx,Yy,Yz,YA,YB,bin2,YC,YD,YE,YF,YG,YH,YI,YJ,YK,YL,YM,YN,YO,YP,YQ,YR,un1,shOk,eqL,eq1,fillL,putAt,IHeap.load1,IHeap.loadL,IHeap.storeL,YS,YT,YU,YV,YW,YX,YY,YZ,B0,B1,B2,B3,B4,B5,B6,B7,B8,B9,Ba,Bb,Bc,Bd,Be,Bf,Bg,Bh,Bi,Bj,Bk,Bl,Bm, t1, t6, t7, ← hHC, hil, hil', lenOfI, f1, e4, hw]
          have k4 := ((hrs2.le kC).step (upd_more u4 (S' := Q ++ S) fun b hb => by simp [hb]) (S' := [HC.next] ++ S) fun b hb => by
            simp only [List.mem_append, List.mem_singleton] at hb ⊢
            rcases hb with rfl | hb
            · exact .inr (Nat.le_refl _)
            · exact .inl (.inr hb))
          refine ⟨L.length - (i + 1), by omega, i + 1, by omega, rfl, by simp, (hle.trans (hle2.trans kC)).updLe u4 hQn, [HC.next], ?_, k4, gr4⟩
          intro b hb
          simp only [List.mem_singleton] at hb
          have := hle2.next; have := kC.next; omega
        · rw [if_neg (by simp [isOf, hst]), List.append_nil] at hsn
          have := hsame (by simp [freeS, isOf, hst])
          simp -implicitDefEqProofs [J0,J1,J2,J3,J4,J5,J6,J7,J8,J9,Ja,Jb,Jc,Jd,Je,Jf,Jg,Jh,Ji,Jj,Jk,Jl,Jm,Jn,Jo,Jp,Jq,Jr,Js,Jt,Ju,Jv,Jw,Jx,Jy,Jz,JA,JB,JC,JD,JE,JF,JG,JH,JI,JJ,JK,JL,JM,JN,JO,JP,stillI,IOp.kind,JQ,JR,JS,JT,JU,JV,JW,JX,JY,JZ,Y0,Y1,Y2,Y3,Y4,Y5,Y6,Y7,Y8,Y9,Ya,Yb,Yc,Yd,Ye,Yf,Yg,Yh,Yi,Yj,Yk,Yl,Ym,Yn,ial,Yo,Yp,Yq,Yr,Ys,Yt,Yu,Yv,ires,iresL,ires1,Yw,Yx,Yy,Yz,YA,YB,bin2,YC,YD,YE,YF,YG,YH,YI,YJ,YK,YL,YM,YN,YO,YP,YQ,YR,un1,shOk,eqL,eq1,fillL,putAt,IHeap.load1,IHeap.loadL,IHeap.storeL,YS,YT,YU,YV,YW,YX,YY,YZ,B0,B1,B2,B3,B4,B5,B6,B7,B8,B9,Ba,Bb,Bc,Bd,Be,Bf,Bg,Bh,Bi,Bj,Bk,Bl,Bm, t0, t1, t7, hil, hil', hget, r1, r2, hs, hst, hw]
          refine ⟨L.length - (i + 1), by omega, i + 1, by omega, rfl, by simp, hle, Q, hQn, ?_, by rw [hsn]; exact hgr⟩
          rw [← this, ← t0]; exact hrs
      · rw [if_neg (by simp [isOf, hs]), List.append_nil] at hsn
        have := hsame (by simp [freeS, isOf, hs])
        simp -implicitDefEqProofs [J0,J1,J2,J3,J4,J5,J6,J7,J8,J9,Ja,Jb,Jc,Jd,Je,Jf,Jg,Jh,Ji,Jj,Jk,Jl,Jm,Jn,Jo,Jp,Jq,Jr,Js,Jt,Ju,Jv,Jw,Jx,Jy,Jz,JA,JB,JC,JD,JE,JF,JG,JH,JI,JJ,JK,JL,JM,JN,JO,JP,stillI,IOp.kind,JQ,JR,JS,JT,JU,JV,JW,JX,JY,JZ,Y0,Y1,Y2,Y3,Y4,Y5,Y6,Y7,Y8,Y9,Ya,Yb,Yc,Yd,Ye,Yf,Yg,Yh,Yi,Yj,Yk,Yl,Ym,Yn,ial,Yo,Yp,Yq,Yr,Ys,Yt,Yu,Yv,ires,iresL,ires1,Yw,Yx,Yy,Yz,YA,YB,bin2,YC,YD,YE,YF,YG,YH,YI,YJ,YK,YL,YM,YN,YO,YP,YQ,YR,un1,shOk,eqL,eq1,fillL,putAt,IHeap.load1,IHeap.loadL,IHeap.storeL,YS,YT,YU,YV,YW,YX,YY,YZ,B0,B1,B2,B3,B4,B5,B6,B7,B8,B9,Ba,Bb,Bc,Bd,Be,Bf,Bg,Bh,Bi,Bj,Bk,Bl,Bm, t0, t1, t7, hil, hil', hget, r1, r2, hs, hw]
        refine ⟨L.length - (i + 1), by omega, i + 1, by omega, rfl, by simp, hle, Q, hQn, ?_, by rw [hsn]; exact hgr⟩
        rw [← this, ← t0]; exact hrs
    · have hil' : ¬ (i : Int) < (L.length : Int) := by omega
      obtain ⟨a, cp, t0⟩ := hrs.lenv
      rw [hMl] at t0
      rw [List.take_of_length_le (by omega)] at hgr
      rw [midS, List.take_of_length_le (by omega), List.drop_of_length_le (by omega), List.append_nil, t0] at hrs
      simp -implicitDefEqProofs [J0,J1,J2,J3,J4,J5,J6,J7,J8,J9,Ja,Jb,Jc,Jd,Je,Jf,Jg,Jh,Ji,Jj,Jk,Jl,Jm,Jn,Jo,Jp,Jq,Jr,Js,Jt,Ju,Jv,Jw,Jx,Jy,Jz,JA,JB,JC,JD,JE,JF,JG,JH,JI,JJ,JK,JL,JM,JN,JO,JP,stillI,IOp.kind,JQ,JR,JS,JT,JU,JV,JW,JX,JY,JZ,Y0,Y1,Y2,Y3,Y4,Y5,Y6,Y7,Y8,Y9,Ya,Yb,Yc,Yd,Ye,Yf,Yg,Yh,Yi,Yj,Yk,Yl,Ym,Yn,ial,Yo,Yp,Yq,Yr,Ys,Yt,Yu,Yv,ires,iresL,ires1,Yw,Yx,Yy,Yz,YA,YB,bin2,YC,YD,YE,YF,YG,YH,YI,YJ,YK,YL,YM,YN,YO,YP,YQ,YR,un1,shOk,eqL,eq1,fillL,putAt,IHeap.load1,IHeap.loadL,IHeap.storeL,YS,YT,YU,YV,YW,YX,YY,YZ,B0,B1,B2,B3,B4,B5,B6,B7,B8,B9,Ba,Bb,Bc,Bd,Be,Bf,Bg,Bh,Bi,Bj,Bk,Bl,Bm, t0, t1, t7, hil, hil']
      exact hK _ _ _ hle (hrs.more fun b hb => .inl (by simp [hb])) hgr.slw (hgr.far hQn hS)

end
end Go.Proofs.YtmdkkhnenciknaaI
