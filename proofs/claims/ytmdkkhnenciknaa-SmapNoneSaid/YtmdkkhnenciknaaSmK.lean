/- Stripes that are known: the document's deeds. -/
import Derived.Test.YtmdkkhnenciknaaSmJ
namespace Go.Proofs.YtmdkkhnenciknaaI
set_option linter.unusedSimpArgs false
set_option linter.unusedVariables false
open Go

theorem modify_get {α : Type} (l : List α) (i k : Nat) (f : α → α) : (l.modify i f)[k]? = if i = k then l[k]?.map f else l[k]? := by
  rw [List.getElem?_modify]
  cases l[k]? <;> split <;> simp_all
theorem RSr.mod {H H' : IHeap} {S : List Nat} {u : Value} {rows : List (List Value)} {L : List St} {B blk i j : Nat} {x y : St} {w : Value} (h : RSr H S u rows L) (hx : L[i]? = some x) (hle : H.le H')
    (hy : ∀ v, SlW H 1 v (x.sv.map rowI) → Far H v S → ∃ v', (rowSt i x v).set j w = rowSt i y v' ∧ SlW H' 1 v' (y.sv.map rowI) ∧ Far H' v' S)
    (hb : B ≤ blk) (hbn : blk < H'.next) (hg : H'.get blk = some (.cells (rows.modify i fun r => r.set j w).flatten false)) (hS : ∀ b ∈ S, b < B) : RS H' S (.slice (some ⟨blk, 0, none⟩) L.length (UNK + 6)) (L.set i y) := by
  obtain ⟨v0, e0, s0, f0⟩ := h.row i x hx
  obtain ⟨v', e1, s1, f1⟩ := hy v0 s0 f0
  have hi := (List.getElem?_eq_some_iff.1 hx).1
  have own : Own H' B 6 (.slice (some ⟨blk, 0, none⟩) L.length (UNK + 6)) (rows.modify i fun r => r.set j w) := by
    refine ⟨fun r hr => ?_, blk, hb, hbn, by rw [List.length_modify, h.len], hg⟩
    obtain ⟨k, hk, e⟩ := List.getElem_of_mem hr
    have e' : (rows.modify i fun r => r.set j w)[k]? = some r := by rw [List.getElem?_eq_getElem hk, e]
    rw [modify_get] at e'
    cases hq : rows[k]? with
    | none => rw [hq] at e'; simp at e'
    | some r0 =>
      rw [hq] at e'
      have h6 := h.all.2 r0 (List.mem_of_getElem? hq)
      by_cases hik : i = k
      · rw [if_pos hik] at e'; simp only [Option.map_some, Option.some.injEq] at e'; rw [← e', List.length_set, h6]
      · rw [if_neg hik] at e'; simp only [Option.some.injEq] at e'; rw [← e', h6]
  refine ⟨_, own.slw, fun b o n cc e => ?_, by rw [List.length_modify, List.length_set, h.len], fun k z hz => ?_⟩
  · simp only [Value.slice.injEq, Option.some.injEq, Addr.mk.injEq] at e
    obtain ⟨⟨rfl, _⟩, _⟩ := e
    exact ⟨fun hm => by have := hS _ hm; omega, hbn⟩
  · rw [modify_get]
    rw [List.getElem?_set] at hz
    by_cases hik : i = k
    · subst hik
      rw [if_pos rfl, if_pos hi] at hz
      injection hz with hz
      subst hz
      rw [if_pos rfl, e0]
      exact ⟨v', by simp [e1], s1, f1⟩
    · rw [if_neg hik] at hz
      obtain ⟨v, q1, q2, q3⟩ := h.row k z hz
      rw [if_neg hik, q1]
      exact ⟨v, rfl, q2.le hle, q3.le hle.next⟩

section
variable (c : Ctx) (hR : HasRef24 c) (h23 : HasRef23 c) (h01 : HasRef01 c) {H : IHeap} {K : Value → IHeap → Prop}

include hR in
theorem Rstate_ok {S : List Nat} {u : Value} {L : List St} {i : Nat} {x : St} {to : Int} (h : RS H S u L) (hl : L.length ≤ 4096) (hS : ∀ b ∈ S, b < H.next) (hx : L[i]? = some x)
    (hK : ∀ v' H', H.le H' → RS H' S v' (L.set i { x with st := to }) → K v' H') : c.C (c.F n_hurdleref24_state) [u, .int .i64 i, .int .i64 to] H K := by
  refine c.enter hR.hurdleref24_state rfl ?_
  obtain ⟨a, cap, hu⟩ := h.lenv
  obtain ⟨rows, hr⟩ := h
  have hi := (List.getElem?_eq_some_iff.1 hx).1
  have hi' : (i : Int) < (L.length : Int) := by omega
  obtain ⟨f1, v1, H1, e1, g1, k1⟩ := hr.copy hl (B := H.next) (Nat.le_refl _)
  obtain ⟨blk, hb, hbn, rfl, hg⟩ : ∃ blk, H.next ≤ blk ∧ blk < H1.next ∧ v1 = .slice (some ⟨blk, 0, none⟩) L.length (UNK + 6) ∧ H1.get blk = some (.cells rows.flatten false) := by
    rcases g1 with ⟨e, _⟩ | ⟨_, blk, q1, q2, q3, q4⟩
    · have := hr.len; rw [e] at this; simp at this; omega
    · exact ⟨blk, q1, q2, by rw [q3, hr.len], q4⟩
  have k1l := k1.le (Nat.le_refl _)
  obtain ⟨cs, hcs⟩ : ∃ cs, cs = rows.flatten := ⟨_, rfl⟩
  have hfl := flat_len rows 6 hr.all.2
  have hbd : i * 6 + 1 + 1 ≤ cs.length := by rw [hcs, hfl, hr.len]; omega
  have hset : List.take (i * 6 + 1) cs ++ Value.int .i64 to :: List.drop (i * 6 + 1 + 1) cs = (rows.modify i fun r => r.set 1 (.int .i64 to)).flatten := by
    rw [← flat_set rows i 1 _ hr.all.2 (by omega), ← hcs, List.set_eq_take_append_cons_drop, if_pos (by omega)]
  rw [← hcs] at hg f1 e1
  rw [hu] at f1 ⊢
  simp -implicitDefEqProofs [J0,J1,J2,J3,J4,J5,J6,J7,J8,J9,Ja,Jb,Jc,Jd,Je,Jf,Jg,Jh,Ji,Jj,Jk,Jl,Jm,Jn,Jo,Jp,Jq,Jr,Js,Jt,Ju,Jv,Jw,Jx,Jy,Jz,JA,JB,JC,JD,JE,JF,JG,JH,JI,JJ,JK,JL,JM,JN,JO,JP,stillI,IOp.kind,JQ,JR,JS,JT,JU,JV,JW,JX,JY,JZ,Y0,Y1,Y2,Y3,Y4,Y5,Y6,Y7,Y8,Y9,Ya,Yb,Yc,Yd,Ye,Yf,Yg,Yh,Yi,Yj,Yk,Yl,Ym,Yn,ial,Yo,Yp,Yq,Yr,Ys,Yt,Yu,Yv,ires,iresL,ires1,Yw,Yx,Yy,Yz,YA,YB,bin2,YC,YD,YE,YF,YG,YH,YI,YJ,YK,YL,YM,YN,YO,YP,YQ,YR,un1,shOk,eqL,eq1,fillL,putAt,IHeap.load1,IHeap.loadL,IHeap.storeL,YS,YT,YU,YV,YW,YX,YY,YZ,B0,B1,B2,B3,B4,B5,B6,B7,B8,B9,Ba,Bb,Bc,Bd,Be,Bf,Bg,Bh,Bi,Bj,Bk,Bl,Bm, c_hurdleref24_state, lenOfI, f1, e1, hi, hi', hg, hbd, hset]
  refine hK _ _ (k1l.set hb _) (hr.mod hx (k1l.set hb _) (fun v s f => ⟨v, rfl, s.le (k1l.set hb _), f.le (k1l.set hb _).next⟩) hb (by simp only [YV]; exact hbn) (by rw [YT, if_pos rfl]) hS)

include hR in
theorem RCommit_ok {S : List Nat} {u : Value} {L : List St} {id ow : Int} (h : RS H S u L) (hl : L.length ≤ 4096) (hS : ∀ b ∈ S, b < H.next)
    (hK : ∀ v' H', H.le H' → RS H' S v' (SCommit L id ow).1 → K (.tuple #[v', .int .i64 (SCommit L id ow).2]) H') : c.C (c.F n_hurdleref24_Commit) [u, .int .i64 id, .int .i64 ow] H K := by
  refine c.enter hR.hurdleref24_Commit rfl ?_
  unfold SCommit at hK
  simp -implicitDefEqProofs [J0,J1,J2,J3,J4,J5,J6,J7,J8,J9,Ja,Jb,Jc,Jd,Je,Jf,Jg,Jh,Ji,Jj,Jk,Jl,Jm,Jn,Jo,Jp,Jq,Jr,Js,Jt,Ju,Jv,Jw,Jx,Jy,Jz,JA,JB,JC,JD,JE,JF,JG,JH,JI,JJ,JK,JL,JM,JN,JO,JP,stillI,IOp.kind,JQ,JR,JS,JT,JU,JV,JW,JX,JY,JZ,Y0,Y1,Y2,Y3,Y4,Y5,Y6,Y7,Y8,Y9,Ya,Yb,Yc,Yd,Ye,Yf,Yg,Yh,Yi,Yj,Yk,Yl,Ym,Yn,ial,Yo,Yp,Yq,Yr,Ys,Yt,Yu,Yv,ires,iresL,ires1,Yw,Yx,Yy,Yz,YA,YB,bin2,YC,YD,YE,YF,YG,YH,YI,YJ,YK,YL,YM,YN,YO,YP,YQ,YR,un1,shOk,eqL,eq1,fillL,putAt,IHeap.load1,IHeap.loadL,IHeap.storeL,YS,YT,YU,YV,YW,YX,YY,YZ,B0,B1,B2,B3,B4,B5,B6,B7,B8,B9,Ba,Bb,Bc,Bd,Be,Bf,Bg,Bh,Bi,Bj,Bk,Bl,Bm, c_hurdleref24_Commit]
  refine call_of (Rknown_ok c hR h hl ?_)
  cases hg : getS L id with
  | none =>
    rw [hg] at hK
    simp -implicitDefEqProofs [J0,J1,J2,J3,J4,J5,J6,J7,J8,J9,Ja,Jb,Jc,Jd,Je,Jf,Jg,Jh,Ji,Jj,Jk,Jl,Jm,Jn,Jo,Jp,Jq,Jr,Js,Jt,Ju,Jv,Jw,Jx,Jy,Jz,JA,JB,JC,JD,JE,JF,JG,JH,JI,JJ,JK,JL,JM,JN,JO,JP,stillI,IOp.kind,JQ,JR,JS,JT,JU,JV,JW,JX,JY,JZ,Y0,Y1,Y2,Y3,Y4,Y5,Y6,Y7,Y8,Y9,Ya,Yb,Yc,Yd,Ye,Yf,Yg,Yh,Yi,Yj,Yk,Yl,Ym,Yn,ial,Yo,Yp,Yq,Yr,Ys,Yt,Yu,Yv,ires,iresL,ires1,Yw,Yx,Yy,Yz,YA,YB,bin2,YC,YD,YE,YF,YG,YH,YI,YJ,YK,YL,YM,YN,YO,YP,YQ,YR,un1,shOk,eqL,eq1,fillL,putAt,IHeap.load1,IHeap.loadL,IHeap.storeL,YS,YT,YU,YV,YW,YX,YY,YZ,B0,B1,B2,B3,B4,B5,B6,B7,B8,B9,Ba,Bb,Bc,Bd,Be,Bf,Bg,Bh,Bi,Bj,Bk,Bl,Bm, Option.isSome_none]
    exact hK _ _ (IHeap.le_refl _) h
  | some x =>
    rw [hg] at hK
    simp only at hK
    obtain ⟨i0, i1, hx⟩ := getS_some hg
    obtain ⟨b, o, cp, cs, ro, v, e, hb, hget, hrow, hbd, _, _, _⟩ := h.at hx
    subst e
    have r1 := row_get hrow 1 (by omega)
    have r2 := row_get hrow 2 (by omega)
    simp only [rowSt, List.getElem?_cons_succ, List.getElem?_cons_zero] at r1 r2
    have hi' : id < (L.length : Int) := by omega
    have eid : ((id.toNat : Nat) : Int) = id := by omega
    by_cases hs : x.st = 1
    · by_cases hw : x.ow = ow
      · subst hw
        rw [if_neg (by simp [hs])] at hK
        have hst := fun (K2 : Value → IHeap → Prop) hk => Rstate_ok c hR (to := 2) (K := K2) h hl hS hx hk
        rw [eid] at hst
        simp -implicitDefEqProofs [J0,J1,J2,J3,J4,J5,J6,J7,J8,J9,Ja,Jb,Jc,Jd,Je,Jf,Jg,Jh,Ji,Jj,Jk,Jl,Jm,Jn,Jo,Jp,Jq,Jr,Js,Jt,Ju,Jv,Jw,Jx,Jy,Jz,JA,JB,JC,JD,JE,JF,JG,JH,JI,JJ,JK,JL,JM,JN,JO,JP,stillI,IOp.kind,JQ,JR,JS,JT,JU,JV,JW,JX,JY,JZ,Y0,Y1,Y2,Y3,Y4,Y5,Y6,Y7,Y8,Y9,Ya,Yb,Yc,Yd,Ye,Yf,Yg,Yh,Yi,Yj,Yk,Yl,Ym,Yn,ial,Yo,Yp,Yq,Yr,Ys,Yt,Yu,Yv,ires,iresL,ires1,Yw,Yx,Yy,Yz,YA,YB,bin2,YC,YD,YE,YF,YG,YH,YI,YJ,YK,YL,YM,YN,YO,YP,YQ,YR,un1,shOk,eqL,eq1,fillL,putAt,IHeap.load1,IHeap.loadL,IHeap.storeL,YS,YT,YU,YV,YW,YX,YY,YZ,B0,B1,B2,B3,B4,B5,B6,B7,B8,B9,Ba,Bb,Bc,Bd,Be,Bf,Bg,Bh,Bi,Bj,Bk,Bl,Bm, Option.isSome_some, i0, hi', hget, r1, r2, hs]
        refine call_of (hst _ fun v' H' hle hrs => ?_)
        simp -implicitDefEqProofs [J0,J1,J2,J3,J4,J5,J6,J7,J8,J9,Ja,Jb,Jc,Jd,Je,Jf,Jg,Jh,Ji,Jj,Jk,Jl,Jm,Jn,Jo,Jp,Jq,Jr,Js,Jt,Ju,Jv,Jw,Jx,Jy,Jz,JA,JB,JC,JD,JE,JF,JG,JH,JI,JJ,JK,JL,JM,JN,JO,JP,stillI,IOp.kind,JQ,JR,JS,JT,JU,JV,JW,JX,JY,JZ,Y0,Y1,Y2,Y3,Y4,Y5,Y6,Y7,Y8,Y9,Ya,Yb,Yc,Yd,Ye,Yf,Yg,Yh,Yi,Yj,Yk,Yl,Ym,Yn,ial,Yo,Yp,Yq,Yr,Ys,Yt,Yu,Yv,ires,iresL,ires1,Yw,Yx,Yy,Yz,YA,YB,bin2,YC,YD,YE,YF,YG,YH,YI,YJ,YK,YL,YM,YN,YO,YP,YQ,YR,un1,shOk,eqL,eq1,fillL,putAt,IHeap.load1,IHeap.loadL,IHeap.storeL,YS,YT,YU,YV,YW,YX,YY,YZ,B0,B1,B2,B3,B4,B5,B6,B7,B8,B9,Ba,Bb,Bc,Bd,Be,Bf,Bg,Bh,Bi,Bj,Bk,Bl,Bm]
        exact hK _ _ hle hrs
      · rw [if_pos (by simp [hw])] at hK
        simp -implicitDefEqProofs [J0,J1,J2,J3,J4,J5,J6,J7,J8,J9,Ja,Jb,Jc,Jd,Je,Jf,Jg,Jh,Ji,Jj,Jk,Jl,Jm,Jn,Jo,Jp,Jq,Jr,Js,Jt,Ju,Jv,Jw,Jx,Jy,Jz,JA,JB,JC,JD,JE,JF,JG,JH,JI,JJ,JK,JL,JM,JN,JO,JP,stillI,IOp.kind,JQ,JR,JS,JT,JU,JV,JW,JX,JY,JZ,Y0,Y1,Y2,Y3,Y4,Y5,Y6,Y7,Y8,Y9,Ya,Yb,Yc,Yd,Ye,Yf,Yg,Yh,Yi,Yj,Yk,Yl,Ym,Yn,ial,Yo,Yp,Yq,Yr,Ys,Yt,Yu,Yv,ires,iresL,ires1,Yw,Yx,Yy,Yz,YA,YB,bin2,YC,YD,YE,YF,YG,YH,YI,YJ,YK,YL,YM,YN,YO,YP,YQ,YR,un1,shOk,eqL,eq1,fillL,putAt,IHeap.load1,IHeap.loadL,IHeap.storeL,YS,YT,YU,YV,YW,YX,YY,YZ,B0,B1,B2,B3,B4,B5,B6,B7,B8,B9,Ba,Bb,Bc,Bd,Be,Bf,Bg,Bh,Bi,Bj,Bk,Bl,Bm, Option.isSome_some, i0, hi', hget, r1, r2, hs, hw]
        exact hK _ _ (IHeap.le_refl _) h
    · rw [if_pos (by simp [hs])] at hK
      simp -implicitDefEqProofs [J0,J1,J2,J3,J4,J5,J6,J7,J8,J9,Ja,Jb,Jc,Jd,Je,Jf,Jg,Jh,Ji,Jj,Jk,Jl,Jm,Jn,Jo,Jp,Jq,Jr,Js,Jt,Ju,Jv,Jw,Jx,Jy,Jz,JA,JB,JC,JD,JE,JF,JG,JH,JI,JJ,JK,JL,JM,JN,JO,JP,stillI,IOp.kind,JQ,JR,JS,JT,JU,JV,JW,JX,JY,JZ,Y0,Y1,Y2,Y3,Y4,Y5,Y6,Y7,Y8,Y9,Ya,Yb,Yc,Yd,Ye,Yf,Yg,Yh,Yi,Yj,Yk,Yl,Ym,Yn,ial,Yo,Yp,Yq,Yr,Ys,Yt,Yu,Yv,ires,iresL,ires1,Yw,Yx,Yy,Yz,YA,YB,bin2,YC,YD,YE,YF,YG,YH,YI,YJ,YK,YL,YM,YN,YO,YP,YQ,YR,un1,shOk,eqL,eq1,fillL,putAt,IHeap.load1,IHeap.loadL,IHeap.storeL,YS,YT,YU,YV,YW,YX,YY,YZ,B0,B1,B2,B3,B4,B5,B6,B7,B8,B9,Ba,Bb,Bc,Bd,Be,Bf,Bg,Bh,Bi,Bj,Bk,Bl,Bm, Option.isSome_some, i0, hi', hget, r1, hs]
      exact hK _ _ (IHeap.le_refl _) h

end
end Go.Proofs.YtmdkkhnenciknaaI
