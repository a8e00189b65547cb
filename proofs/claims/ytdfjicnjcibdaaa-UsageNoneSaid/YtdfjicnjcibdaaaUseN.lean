/- Segments: the one that is cleaned is the best. -/
import Derived.Test.YtdfjicnjcibdaaaUseM
namespace Go.Proofs.YtdfjicnjcibdaaaI
set_option linter.unusedSimpArgs false
set_option linter.unusedVariables false
open Go

def bestAt (L : List UseD) (now : Int) (i : Nat) : Option UseD → Prop
  | none => ∀ j x, j < i → L[j]? = some x → x.live = x.size
  | some y => ∃ m, m < i ∧ L[m]? = some y ∧ y.live ≠ y.size ∧ ∀ j x, j < i → L[j]? = some x → x.live ≠ x.size → scoreT x now ≤ scoreT y now ∧ (scoreT x now = scoreT y now → m ≤ j)
theorem pickT_best (L : List UseD) (now : Int) : ∀ i, i ≤ L.length → bestAt L now i (pickT (L.take i) now)
  | 0, _ => by
    show bestAt L now 0 none
    intro j x h; omega
  | i + 1, hi => by
    have ih := pickT_best L now i (by omega)
    obtain ⟨x, hx⟩ : ∃ x, L[i]? = some x := ⟨_, List.getElem?_eq_getElem (by omega)⟩
    have htk : L.take (i + 1) = L.take i ++ [x] := by rw [List.take_add_one, hx]; rfl
    rw [htk, pickT_snoc]
    have last : ∀ j z, j < i + 1 → L[j]? = some z → j < i ∨ (j = i ∧ z = x) := fun j z hj hz => by
      by_cases e : j = i
      · subst e; rw [hx] at hz; exact .inr ⟨rfl, (Option.some.inj hz).symm⟩
      · exact .inl (by omega)
    unfold betterT
    by_cases he : x.live = x.size
    · rw [if_pos he]
      cases hp : pickT (L.take i) now with
      | none =>
        rw [hp] at ih
        intro j z hj hz
        rcases last j z hj hz with h | ⟨_, rfl⟩
        · exact ih j z h hz
        · exact he
      | some y =>
        rw [hp] at ih
        obtain ⟨m, m1, m2, m3, m4⟩ := ih
        refine ⟨m, by omega, m2, m3, fun j z hj hz hn => ?_⟩
        rcases last j z hj hz with h | ⟨_, rfl⟩
        · exact m4 j z h hz hn
        · exact absurd he hn
    · rw [if_neg he]
      cases hp : pickT (L.take i) now with
      | none =>
        rw [hp] at ih
        refine ⟨i, by omega, hx, he, fun j z hj hz hn => ?_⟩
        rcases last j z hj hz with h | ⟨rfl, rfl⟩
        · exact absurd (ih j z h hz) hn
        · exact ⟨Int.le_refl _, fun _ => Nat.le_refl _⟩
      | some y =>
        rw [hp] at ih
        obtain ⟨m, m1, m2, m3, m4⟩ := ih
        simp only
        by_cases hs : scoreT y now < scoreT x now
        · rw [if_pos hs]
          refine ⟨i, by omega, hx, he, fun j z hj hz hn => ?_⟩
          rcases last j z hj hz with h | ⟨rfl, rfl⟩
          · have := (m4 j z h hz hn).1
            exact ⟨by omega, fun e => by omega⟩
          · exact ⟨Int.le_refl _, fun _ => Nat.le_refl _⟩
        · rw [if_neg hs]
          refine ⟨m, by omega, m2, m3, fun j z hj hz hn => ?_⟩
          rcases last j z hj hz with h | ⟨rfl, rfl⟩
          · exact m4 j z h hz hn
          · exact ⟨by omega, fun _ => by omega⟩
theorem sortedT_at {L : List UseD} (hs : SortedT L) {i j : Nat} {x y : UseD} (hx : L[i]? = some x) (hy : L[j]? = some y) (hij : i ≤ j) : x.seg ≤ y.seg ∧ (x.seg = y.seg → i = j) := by
  obtain ⟨h1, h2⟩ := List.getElem?_eq_some_iff.1 hx
  obtain ⟨h3, h4⟩ := List.getElem?_eq_some_iff.1 hy
  by_cases e : i = j
  · subst e; rw [hx] at hy; rw [Option.some.inj hy]; exact ⟨Int.le_refl _, fun _ => rfl⟩
  · have := List.pairwise_iff_getElem.1 hs i j h1 h3 (by omega)
    rw [h2, h4] at this
    exact ⟨by omega, fun k => by omega⟩
theorem sortedT_uniq {L : List UseD} (hs : SortedT L) {i j : Nat} {x y : UseD} (hx : L[i]? = some x) (hy : L[j]? = some y) (h : x.seg = y.seg) : x = y := by
  have : i = j := by
    by_cases hij : i ≤ j
    · exact (sortedT_at hs hx hy hij).2 h
    · exact ((sortedT_at hs hy hx (by omega)).2 h.symm).symm
  subst this
  rw [hx] at hy; exact Option.some.inj hy
def anyT (L : List UseD) : Bool := L.any fun x => !decide (x.live = x.size)
theorem anyT_snoc (L : List UseD) (x : UseD) : anyT (L ++ [x]) = (anyT L || !decide (x.live = x.size)) := by simp [anyT]
theorem pickT_any (L : List UseD) (now : Int) : (pickV (pickT L now)).2 = anyT L := by
  have h := pickT_best L now L.length (Nat.le_refl _)
  rw [List.take_length] at h
  cases hp : pickT L now with
  | none =>
    rw [hp] at h
    have : anyT L = false := by
      unfold anyT
      rw [List.any_eq_false]
      intro x hx
      obtain ⟨j, hj⟩ := List.getElem?_of_mem hx
      obtain ⟨h1, _⟩ := List.getElem?_eq_some_iff.1 hj
      simp [h j x h1 hj]
    rw [this]; rfl
  | some y =>
    rw [hp] at h
    obtain ⟨m, m1, m2, m3, m4⟩ := h
    have : anyT L = true := by
      unfold anyT
      rw [List.any_eq_true]
      exact ⟨y, List.mem_of_getElem? m2, by simp [m3]⟩
    rw [this]; rfl
/-- What the law asks of each one. -/
theorem best_law {L : List UseD} {now : Int} (hs : SortedT L) {i : Nat} {x : UseD} (hx : L[i]? = some x) :
    (x.live = x.size → (pickV (pickT L now)).2 = true → (pickV (pickT L now)).1 ≠ x.seg) ∧
    (x.live ≠ x.size → ∀ (k : Nat) (z : UseD), L[k]? = some z → z.seg = (pickV (pickT L now)).1 → scoreT x now ≤ scoreT z now ∧ (scoreT x now = scoreT z now → (pickV (pickT L now)).1 ≤ x.seg)) := by
  have h := pickT_best L now L.length (Nat.le_refl _)
  rw [List.take_length] at h
  obtain ⟨hi, _⟩ := List.getElem?_eq_some_iff.1 hx
  cases hp : pickT L now with
  | none =>
    rw [hp] at h
    refine ⟨fun _ h2 => by simp [pickV] at h2, fun h2 => ?_⟩
    exact absurd (h i x hi hx) h2
  | some y =>
    rw [hp] at h
    obtain ⟨m, m1, m2, m3, m4⟩ := h
    refine ⟨fun h2 _ h3 => ?_, fun h2 k z hz h3 => ?_⟩
    · have := sortedT_uniq hs m2 hx h3
      subst this
      exact m3 h2
    · have := sortedT_uniq hs hz m2 h3
      subst this
      obtain ⟨a, b⟩ := m4 i x hi hx h2
      exact ⟨a, fun e => (sortedT_at hs m2 hx (b e)).1⟩

def PlB (B i : Nat) (H' : IHeap) : Prop := ∃ L : List UseD, L.length ≤ i ∧ (∀ e ∈ L, okT e) ∧ StT (fun b => b < B) H' B L
section
variable (c : Ctx) (hc : HasUse c) (hE : IsErr c) (hI : InsOkT c) (hT : HasLaw26 c) (hA : ∀ H K, (∀ H', K (.bool true) H') → c.C (c.F n_hurdlelaw26_awake) [] H K) {H : IHeap} {K : Value → IHeap → Prop}

include hc hE hI hT hA in
theorem best_ok26 {l : List DeedU} {u : Value} {now : Int} (hnow : now < 9223372036854775808) (hu : SlR H 6 u (l.map rowDU)) (hK : ∀ H', K (.bool true) H') :
    c.C (c.F n_hurdlelaw26_UsageBest) [u, .int .i64 now] H K := by
  refine c.enter hT.hurdlelaw26_UsageBest rfl ?_
  have hu' := hu
  obtain ⟨a, cap, rfl, _⟩ := hu'
  simp only [List.length_map] at hu ⊢
  by_cases h80 : 80 < l.length
  · have h80' : (80 : Int) < (l.length : Int) := by omega
    simp -implicitDefEqProofs [J0,J1,J2,J3,J4,J5,J6,J7,J8,J9,Ja,Jb,Jc,Jd,Je,Jf,Jg,Jh,Ji,Jj,Jk,Jl,Jm,Jn,Jo,Jp,Jq,Jr,Js,Jt,Ju,Jv,Jw,Jx,Jy,Jz,JA,JB,JC,JD,JE,JF,JG,JH,JI,JJ,JK,JL,JM,JN,JO,JP,stillI,IOp.kind,JQ,JR,JS,JT,JU,JV,JW,JX,JY,JZ,Y0,Y1,Y2,Y3,Y4,Y5,Y6,Y7,Y8,Y9,Ya,Yb,Yc,Yd,Ye,Yf,Yg,Yh,Yi,Yj,Yk,Yl,Ym,Yn,ial,Yo,Yp,Yq,Yr,Ys,Yt,Yu,Yv,ires,iresL,ires1,Yw,Yx,Yy,Yz,YA,YB,bin2,YC,YD,YE,YF,YG,YH,YI,YJ,YK,YL,YM,YN,YO,YP,YQ,YR,un1,shOk,eqL,eq1,fillL,putAt,IHeap.load1,IHeap.loadL,IHeap.storeL,YS,YT,YU,YV,YW,YX,YY,YZ,B0,B1,B2,B3,B4,B5,B6,B7,B8,B9,Ba,Bb,Bc,Bd,Be,Bf,Bg,Bh,Bi,Bj,Bk,Bl,Bm, c_hurdlelaw26_UsageBest, h80, h80']
    refine call_of (hA _ _ fun H' => ?_)
    simp -implicitDefEqProofs [J0,J1,J2,J3,J4,J5,J6,J7,J8,J9,Ja,Jb,Jc,Jd,Je,Jf,Jg,Jh,Ji,Jj,Jk,Jl,Jm,Jn,Jo,Jp,Jq,Jr,Js,Jt,Ju,Jv,Jw,Jx,Jy,Jz,JA,JB,JC,JD,JE,JF,JG,JH,JI,JJ,JK,JL,JM,JN,JO,JP,stillI,IOp.kind,JQ,JR,JS,JT,JU,JV,JW,JX,JY,JZ,Y0,Y1,Y2,Y3,Y4,Y5,Y6,Y7,Y8,Y9,Ya,Yb,Yc,Yd,Ye,Yf,Yg,Yh,Yi,Yj,Yk,Yl,Ym,Yn,ial,Yo,Yp,Yq,Yr,Ys,Yt,Yu,Yv,ires,iresL,ires1,Yw,Yx,Yy,Yz,YA,YB,bin2,YC,YD,YE,YF,YG,YH,YI,YJ,YK,YL,YM,YN,YO,YP,YQ,YR,un1,shOk,eqL,eq1,fillL,putAt,IHeap.load1,IHeap.loadL,IHeap.storeL,YS,YT,YU,YV,YW,YX,YY,YZ,B0,B1,B2,B3,B4,B5,B6,B7,B8,B9,Ba,Bb,Bc,Bd,Be,Bf,Bg,Bh,Bi,Bj,Bk,Bl,Bm]
    exact hK _
  · have h80' : ¬ (80 : Int) < (l.length : Int) := by omega
    simp -implicitDefEqProofs [J0,J1,J2,J3,J4,J5,J6,J7,J8,J9,Ja,Jb,Jc,Jd,Je,Jf,Jg,Jh,Ji,Jj,Jk,Jl,Jm,Jn,Jo,Jp,Jq,Jr,Js,Jt,Ju,Jv,Jw,Jx,Jy,Jz,JA,JB,JC,JD,JE,JF,JG,JH,JI,JJ,JK,JL,JM,JN,JO,JP,stillI,IOp.kind,JQ,JR,JS,JT,JU,JV,JW,JX,JY,JZ,Y0,Y1,Y2,Y3,Y4,Y5,Y6,Y7,Y8,Y9,Ya,Yb,Yc,Yd,Ye,Yf,Yg,Yh,Yi,Yj,Yk,Yl,Ym,Yn,ial,Yo,Yp,Yq,Yr,Ys,Yt,Yu,Yv,ires,iresL,ires1,Yw,Yx,Yy,Yz,YA,YB,bin2,YC,YD,YE,YF,YG,YH,YI,YJ,YK,YL,YM,YN,YO,YP,YQ,YR,un1,shOk,eqL,eq1,fillL,putAt,IHeap.load1,IHeap.loadL,IHeap.storeL,YS,YT,YU,YV,YW,YX,YY,YZ,B0,B1,B2,B3,B4,B5,B6,B7,B8,B9,Ba,Bb,Bc,Bd,Be,Bf,Bg,Bh,Bi,Bj,Bk,Bl,Bm, c_hurdlelaw26_UsageBest, h80, h80']
    refine call_of (New_t c hc (S := fun b => b < H.next) (fun _ h => h) fun H1 k1 n1 s1 => ?_)
    simp -implicitDefEqProofs [J0,J1,J2,J3,J4,J5,J6,J7,J8,J9,Ja,Jb,Jc,Jd,Je,Jf,Jg,Jh,Ji,Jj,Jk,Jl,Jm,Jn,Jo,Jp,Jq,Jr,Js,Jt,Ju,Jv,Jw,Jx,Jy,Jz,JA,JB,JC,JD,JE,JF,JG,JH,JI,JJ,JK,JL,JM,JN,JO,JP,stillI,IOp.kind,JQ,JR,JS,JT,JU,JV,JW,JX,JY,JZ,Y0,Y1,Y2,Y3,Y4,Y5,Y6,Y7,Y8,Y9,Ya,Yb,Yc,Yd,Ye,Yf,Yg,Yh,Yi,Yj,Yk,Yl,Ym,Yn,ial,Yo,Yp,Yq,Yr,Ys,Yt,Yu,Yv,ires,iresL,ires1,Yw,Yx,Yy,Yz,YA,YB,bin2,YC,YD,YE,YF,YG,YH,YI,YJ,YK,YL,YM,YN,YO,YP,YQ,YR,un1,shOk,eqL,eq1,fillL,putAt,IHeap.load1,IHeap.loadL,IHeap.storeL,YS,YT,YU,YV,YW,YX,YY,YZ,B0,B1,B2,B3,B4,B5,B6,B7,B8,B9,Ba,Bb,Bc,Bd,Be,Bf,Bg,Bh,Bi,Bj,Bk,Bl,Bm]
    refine loop_nat c.mono (fun k T H' => ∃ i : Nat, i ≤ l.length ∧ k = l.length - i ∧ T 0 = .slice a l.length cap ∧ T 1 = .int .i64 now ∧ T 5 = .pointer (some ⟨H.next, 0, none⟩) ∧ T 6 = .int .i64 i ∧ H.le H' ∧ PlB H.next i H') l.length ?_ ?_
    · refine ⟨0, by omega, rfl, ?_⟩
      simp -implicitDefEqProofs [J0,J1,J2,J3,J4,J5,J6,J7,J8,J9,Ja,Jb,Jc,Jd,Je,Jf,Jg,Jh,Ji,Jj,Jk,Jl,Jm,Jn,Jo,Jp,Jq,Jr,Js,Jt,Ju,Jv,Jw,Jx,Jy,Jz,JA,JB,JC,JD,JE,JF,JG,JH,JI,JJ,JK,JL,JM,JN,JO,JP,stillI,IOp.kind,JQ,JR,JS,JT,JU,JV,JW,JX,JY,JZ,Y0,Y1,Y2,Y3,Y4,Y5,Y6,Y7,Y8,Y9,Ya,Yb,Yc,Yd,Ye,Yf,Yg,Yh,Yi,Yj,Yk,Yl,Ym,Yn,ial,Yo,Yp,Yq,Yr,Ys,Yt,Yu,Yv,ires,iresL,ires1,Yw,Yx,Yy,Yz,YA,YB,bin2,YC,YD,YE,YF,YG,YH,YI,YJ,YK,YL,YM,YN,YO,YP,YQ,YR,un1,shOk,eqL,eq1,fillL,putAt,IHeap.load1,IHeap.loadL,IHeap.storeL,YS,YT,YU,YV,YW,YX,YY,YZ,B0,B1,B2,B3,B4,B5,B6,B7,B8,B9,Ba,Bb,Bc,Bd,Be,Bf,Bg,Bh,Bi,Bj,Bk,Bl,Bm]
      exact ⟨k1, [], Nat.le_refl _, by simp, s1⟩
    · rintro k T H' ⟨i, hi, rfl, t0, t1, t5, t6, hle, L, hLl, hok, hst⟩
      by_cases hil : i < l.length
      · have hil' : (i : Int) < (l.length : Int) := by omega
        obtain ⟨d, hd⟩ : ∃ d, l[i]? = some d := ⟨_, List.getElem?_eq_getElem hil⟩
        obtain ⟨b, o, cp, cs, ro, ea, hb, hget, hrl, hrow, hbd⟩ := hu.at (i := i) (r := rowDU d) (by simp [hd])
        rw [List.length_map] at ea
        simp only [Value.slice.injEq] at ea
        obtain ⟨rfl, -, rfl⟩ := ea
        have hw : IntKind.i64.wrap ((i : Int) + 1) = (i : Int) + 1 := wrap64 (by omega) (by omega)
        have nH := hle.next
        have hget' := (hle.get b hb).trans hget
        have r0 := row_getT hrow 0 (by omega)
        have r1 := row_getT hrow 1 (by omega)
        have r4 : (cs.drop (o + i * 6 + 2)).take 4 = rowT d.x := by
          have := congrArg (fun z => z.drop 2) hrow
          simp only [List.drop_take, List.drop_drop] at this
          exact this
        simp only [rowDU, List.getElem?_cons_zero, List.getElem?_cons_succ, Nat.add_zero] at r0 r1
        simp only [rowT] at r4
        have hbd4 : o + i * 6 + 2 + 4 ≤ cs.length := by omega
        obtain ⟨HV, hHV⟩ : ∃ X : IHeap, X = (H'.alloc (.cells [.int .i64 0, .int .i64 0, .int .i64 0, .int .i64 0] false)).set H'.next (.cells [.int .i64 d.x.seg, .int .i64 d.x.size, .int .i64 d.x.live, .int .i64 d.x.born] false) := ⟨_, rfl⟩
        have kV : H'.le HV := by rw [hHV]; exact (H'.le_alloc _).set (Nat.le_refl _) _
        have nV : HV.next = H'.next + 1 := by rw [hHV]; rfl
        have gV : HV.get H'.next = some (.cells [.int .i64 d.x.seg, .int .i64 d.x.size, .int .i64 d.x.live, .int .i64 d.x.born] false) := by rw [hHV, YT, if_pos rfl]
        have hgetV := (kV.get b (by omega)).trans hget'
        obtain ⟨hokA, hlenA⟩ := addT_ok (x := d.x) hok
        have hstV := hst.grow kV
        obtain ⟨L2, hL2⟩ : ∃ L2, L2 = (addT L d.x).1 := ⟨_, rfl⟩
        have hAdd := fun K2 hk => Add_t c hc hE hI (x := d.x) (K := K2) hstV (by omega) hk
        rw [← hL2] at hokA hlenA hAdd
        obtain ⟨er, her⟩ : ∃ er, er = (addT L d.x).2 := ⟨_, rfl⟩
        rw [← her] at hAdd
        simp -implicitDefEqProofs [J0,J1,J2,J3,J4,J5,J6,J7,J8,J9,Ja,Jb,Jc,Jd,Je,Jf,Jg,Jh,Ji,Jj,Jk,Jl,Jm,Jn,Jo,Jp,Jq,Jr,Js,Jt,Ju,Jv,Jw,Jx,Jy,Jz,JA,JB,JC,JD,JE,JF,JG,JH,JI,JJ,JK,JL,JM,JN,JO,JP,stillI,IOp.kind,JQ,JR,JS,JT,JU,JV,JW,JX,JY,JZ,Y0,Y1,Y2,Y3,Y4,Y5,Y6,Y7,Y8,Y9,Ya,Yb,Yc,Yd,Ye,Yf,Yg,Yh,Yi,Yj,Yk,Yl,Ym,Yn,ial,Yo,Yp,Yq,Yr,Ys,Yt,Yu,Yv,ires,iresL,ires1,Yw,Yx,Yy,Yz,YA,YB,bin2,YC,YD,YE,YF,YG,YH,YI,YJ,YK,YL,YM,YN,YO,YP,YQ,YR,un1,shOk,eqL,eq1,fillL,putAt,IHeap.load1,IHeap.loadL,IHeap.storeL,YS,YT,YU,YV,YW,YX,YY,YZ,B0,B1,B2,B3,B4,B5,B6,B7,B8,B9,Ba,Bb,Bc,Bd,Be,Bf,Bg,Bh,Bi,Bj,Bk,Bl,Bm, t0, t1, t5, t6, hil, hil', hget', r4, hbd4, ← hHV, gV]
        refine call_of (hAdd _ fun H2 k2 st2 => ?_)
        have g2 := (k2.2 H'.next (.inr (by omega))).trans gV
        have hget2 := (k2.2 b (.inl hb)).trans hgetV
        have hDead := fun K2 hk => Dead_t c hc hE (s := d.x.seg) (n := d.b) (K := K2) st2 (by omega) hokA hk
        obtain ⟨_, hokD, hlenD⟩ := deadT_ok (s := d.x.seg) (n := d.b) st2.sorted hokA
        obtain ⟨L3, hL3⟩ : ∃ L3, L3 = (deadT L2 d.x.seg d.b).1 := ⟨_, rfl⟩
        obtain ⟨er3, her3⟩ : ∃ er, er = (deadT L2 d.x.seg d.b).2 := ⟨_, rfl⟩
        rw [← hL3, ← her3] at hDead
        rw [← hL3] at hokD hlenD
        simp -implicitDefEqProofs [J0,J1,J2,J3,J4,J5,J6,J7,J8,J9,Ja,Jb,Jc,Jd,Je,Jf,Jg,Jh,Ji,Jj,Jk,Jl,Jm,Jn,Jo,Jp,Jq,Jr,Js,Jt,Ju,Jv,Jw,Jx,Jy,Jz,JA,JB,JC,JD,JE,JF,JG,JH,JI,JJ,JK,JL,JM,JN,JO,JP,stillI,IOp.kind,JQ,JR,JS,JT,JU,JV,JW,JX,JY,JZ,Y0,Y1,Y2,Y3,Y4,Y5,Y6,Y7,Y8,Y9,Ya,Yb,Yc,Yd,Ye,Yf,Yg,Yh,Yi,Yj,Yk,Yl,Ym,Yn,ial,Yo,Yp,Yq,Yr,Ys,Yt,Yu,Yv,ires,iresL,ires1,Yw,Yx,Yy,Yz,YA,YB,bin2,YC,YD,YE,YF,YG,YH,YI,YJ,YK,YL,YM,YN,YO,YP,YQ,YR,un1,shOk,eqL,eq1,fillL,putAt,IHeap.load1,IHeap.loadL,IHeap.storeL,YS,YT,YU,YV,YW,YX,YY,YZ,B0,B1,B2,B3,B4,B5,B6,B7,B8,B9,Ba,Bb,Bc,Bd,Be,Bf,Bg,Bh,Bi,Bj,Bk,Bl,Bm, t0, t1, t5, t6, hil, hil', g2, hget2, r1]
        refine dcall_of c.mono (hDead _ fun H3 k3 st3 => ?_)
        simp -implicitDefEqProofs [J0,J1,J2,J3,J4,J5,J6,J7,J8,J9,Ja,Jb,Jc,Jd,Je,Jf,Jg,Jh,Ji,Jj,Jk,Jl,Jm,Jn,Jo,Jp,Jq,Jr,Js,Jt,Ju,Jv,Jw,Jx,Jy,Jz,JA,JB,JC,JD,JE,JF,JG,JH,JI,JJ,JK,JL,JM,JN,JO,JP,stillI,IOp.kind,JQ,JR,JS,JT,JU,JV,JW,JX,JY,JZ,Y0,Y1,Y2,Y3,Y4,Y5,Y6,Y7,Y8,Y9,Ya,Yb,Yc,Yd,Ye,Yf,Yg,Yh,Yi,Yj,Yk,Yl,Ym,Yn,ial,Yo,Yp,Yq,Yr,Ys,Yt,Yu,Yv,ires,iresL,ires1,Yw,Yx,Yy,Yz,YA,YB,bin2,YC,YD,YE,YF,YG,YH,YI,YJ,YK,YL,YM,YN,YO,YP,YQ,YR,un1,shOk,eqL,eq1,fillL,putAt,IHeap.load1,IHeap.loadL,IHeap.storeL,YS,YT,YU,YV,YW,YX,YY,YZ,B0,B1,B2,B3,B4,B5,B6,B7,B8,B9,Ba,Bb,Bc,Bd,Be,Bf,Bg,Bh,Bi,Bj,Bk,Bl,Bm, t0, t1, t5, t6, hw]
        refine ⟨l.length - (i + 1), by omega, i + 1, by omega, rfl, by simp, ?_, L3, by omega, hokD, st3.sub fun b hb => .inl hb⟩
        exact ((((hle.trans kV).keep (Nat.le_refl _)).trans ⟨k2.1, fun y hy => k2.2 y (.inl hy)⟩).trans ⟨k3.1, fun y hy => k3.2 y (.inl hy)⟩).le (Nat.le_refl _)
      · have hil' : ¬ (i : Int) < (l.length : Int) := by omega
        simp -implicitDefEqProofs [J0,J1,J2,J3,J4,J5,J6,J7,J8,J9,Ja,Jb,Jc,Jd,Je,Jf,Jg,Jh,Ji,Jj,Jk,Jl,Jm,Jn,Jo,Jp,Jq,Jr,Js,Jt,Ju,Jv,Jw,Jx,Jy,Jz,JA,JB,JC,JD,JE,JF,JG,JH,JI,JJ,JK,JL,JM,JN,JO,JP,stillI,IOp.kind,JQ,JR,JS,JT,JU,JV,JW,JX,JY,JZ,Y0,Y1,Y2,Y3,Y4,Y5,Y6,Y7,Y8,Y9,Ya,Yb,Yc,Yd,Ye,Yf,Yg,Yh,Yi,Yj,Yk,Yl,Ym,Yn,ial,Yo,Yp,Yq,Yr,Ys,Yt,Yu,Yv,ires,iresL,ires1,Yw,Yx,Yy,Yz,YA,YB,bin2,YC,YD,YE,YF,YG,YH,YI,YJ,YK,YL,YM,YN,YO,YP,YQ,YR,un1,shOk,eqL,eq1,fillL,putAt,IHeap.load1,IHeap.loadL,IHeap.storeL,YS,YT,YU,YV,YW,YX,YY,YZ,B0,B1,B2,B3,B4,B5,B6,B7,B8,B9,Ba,Bb,Bc,Bd,Be,Bf,Bg,Bh,Bi,Bj,Bk,Bl,Bm, t0, t1, t5, t6, hil, hil']
        refine call_of (All_t c hc hst (by omega) fun w5 H5 k5 s5 _ => ?_)
        have st5 := hst.le k5
        have hso := hst.sorted
        have hbl := fun {i x} (hx : L[i]? = some x) => best_law (now := now) hso hx
        have hany := pickT_any L now
        simp -implicitDefEqProofs [J0,J1,J2,J3,J4,J5,J6,J7,J8,J9,Ja,Jb,Jc,Jd,Je,Jf,Jg,Jh,Ji,Jj,Jk,Jl,Jm,Jn,Jo,Jp,Jq,Jr,Js,Jt,Ju,Jv,Jw,Jx,Jy,Jz,JA,JB,JC,JD,JE,JF,JG,JH,JI,JJ,JK,JL,JM,JN,JO,JP,stillI,IOp.kind,JQ,JR,JS,JT,JU,JV,JW,JX,JY,JZ,Y0,Y1,Y2,Y3,Y4,Y5,Y6,Y7,Y8,Y9,Ya,Yb,Yc,Yd,Ye,Yf,Yg,Yh,Yi,Yj,Yk,Yl,Ym,Yn,ial,Yo,Yp,Yq,Yr,Ys,Yt,Yu,Yv,ires,iresL,ires1,Yw,Yx,Yy,Yz,YA,YB,bin2,YC,YD,YE,YF,YG,YH,YI,YJ,YK,YL,YM,YN,YO,YP,YQ,YR,un1,shOk,eqL,eq1,fillL,putAt,IHeap.load1,IHeap.loadL,IHeap.storeL,YS,YT,YU,YV,YW,YX,YY,YZ,B0,B1,B2,B3,B4,B5,B6,B7,B8,B9,Ba,Bb,Bc,Bd,Be,Bf,Bg,Bh,Bi,Bj,Bk,Bl,Bm, t1, t5]
        refine call_of (Pick_t c hc (now := now) st5 (by omega) hnow fun H6 k6 => ?_)
        obtain ⟨s, hs⟩ : ∃ s, s = (pickV (pickT L now)).1 := ⟨_, rfl⟩
        obtain ⟨ok, hok2⟩ : ∃ s, s = (pickV (pickT L now)).2 := ⟨_, rfl⟩
        rw [← hok2] at hany
        simp only [← hs, ← hok2] at hbl ⊢
        obtain ⟨a5, cap5, rfl⟩ := s5.len
        have su := (s5.le k6).1
        rw [List.length_map] at su ⊢
        simp -implicitDefEqProofs [J0,J1,J2,J3,J4,J5,J6,J7,J8,J9,Ja,Jb,Jc,Jd,Je,Jf,Jg,Jh,Ji,Jj,Jk,Jl,Jm,Jn,Jo,Jp,Jq,Jr,Js,Jt,Ju,Jv,Jw,Jx,Jy,Jz,JA,JB,JC,JD,JE,JF,JG,JH,JI,JJ,JK,JL,JM,JN,JO,JP,stillI,IOp.kind,JQ,JR,JS,JT,JU,JV,JW,JX,JY,JZ,Y0,Y1,Y2,Y3,Y4,Y5,Y6,Y7,Y8,Y9,Ya,Yb,Yc,Yd,Ye,Yf,Yg,Yh,Yi,Yj,Yk,Yl,Ym,Yn,ial,Yo,Yp,Yq,Yr,Ys,Yt,Yu,Yv,ires,iresL,ires1,Yw,Yx,Yy,Yz,YA,YB,bin2,YC,YD,YE,YF,YG,YH,YI,YJ,YK,YL,YM,YN,YO,YP,YQ,YR,un1,shOk,eqL,eq1,fillL,putAt,IHeap.load1,IHeap.loadL,IHeap.storeL,YS,YT,YU,YV,YW,YX,YY,YZ,B0,B1,B2,B3,B4,B5,B6,B7,B8,B9,Ba,Bb,Bc,Bd,Be,Bf,Bg,Bh,Bi,Bj,Bk,Bl,Bm, t1]
        refine loop_nat c.mono (fun k T H' => ∃ i : Nat, i ≤ L.length ∧ k = L.length - i ∧ T 1 = .int .i64 now ∧ T 8 = .slice a5 L.length cap5 ∧ T 9 = .int .i64 s ∧ T 10 = .bool ok ∧ T 11 = .bool (anyT (L.take i)) ∧ T 12 = .int .i64 i ∧ H6.le H') L.length ?_ ?_
        · refine ⟨0, by omega, rfl, ?_⟩
          simp -implicitDefEqProofs [J0,J1,J2,J3,J4,J5,J6,J7,J8,J9,Ja,Jb,Jc,Jd,Je,Jf,Jg,Jh,Ji,Jj,Jk,Jl,Jm,Jn,Jo,Jp,Jq,Jr,Js,Jt,Ju,Jv,Jw,Jx,Jy,Jz,JA,JB,JC,JD,JE,JF,JG,JH,JI,JJ,JK,JL,JM,JN,JO,JP,stillI,IOp.kind,JQ,JR,JS,JT,JU,JV,JW,JX,JY,JZ,Y0,Y1,Y2,Y3,Y4,Y5,Y6,Y7,Y8,Y9,Ya,Yb,Yc,Yd,Ye,Yf,Yg,Yh,Yi,Yj,Yk,Yl,Ym,Yn,ial,Yo,Yp,Yq,Yr,Ys,Yt,Yu,Yv,ires,iresL,ires1,Yw,Yx,Yy,Yz,YA,YB,bin2,YC,YD,YE,YF,YG,YH,YI,YJ,YK,YL,YM,YN,YO,YP,YQ,YR,un1,shOk,eqL,eq1,fillL,putAt,IHeap.load1,IHeap.loadL,IHeap.storeL,YS,YT,YU,YV,YW,YX,YY,YZ,B0,B1,B2,B3,B4,B5,B6,B7,B8,B9,Ba,Bb,Bc,Bd,Be,Bf,Bg,Bh,Bi,Bj,Bk,Bl,Bm, t1]
          exact ⟨rfl, IHeap.le_refl _⟩
        · rintro k T H' ⟨i, hi, rfl, t1, t8, t9, t10, t11, t12, hle⟩
          by_cases hil : i < L.length
          · have hil' : (i : Int) < (L.length : Int) := by omega
            have hw : IntKind.i64.wrap ((i : Int) + 1) = (i : Int) + 1 := wrap64 (by omega) (by omega)
            obtain ⟨x, hx⟩ : ∃ x, L[i]? = some x := ⟨_, List.getElem?_eq_getElem hil⟩
            obtain ⟨b, o, cp, cs, ro, ea, hb, hget, hrl, hrow, hbd⟩ := su.at (i := i) (r := rowT x) (by simp [hx])
            rw [List.length_map] at ea
            simp only [Value.slice.injEq] at ea
            obtain ⟨rfl, -, rfl⟩ := ea
            have hget' := (hle.get b hb).trans hget
            have x0 := row_getT hrow 0 (by omega)
            have x1 := row_getT hrow 1 (by omega)
            have x2 := row_getT hrow 2 (by omega)
            simp only [rowT, List.getElem?_cons_zero, List.getElem?_cons_succ, Nat.add_zero] at x0 x1 x2
            simp only [rowT] at hrow
            have htk : L.take (i + 1) = L.take i ++ [x] := by rw [List.take_add_one, hx]; rfl
            have hsn := anyT_snoc (L.take i) x
            rw [← htk] at hsn
            obtain ⟨bl1, bl2⟩ := hbl hx
            by_cases he : x.live = x.size
            · have hsn' : anyT (L.take (i + 1)) = anyT (L.take i) := by rw [hsn]; simp [he]
              cases ok with
              | false =>
                simp -implicitDefEqProofs [J0,J1,J2,J3,J4,J5,J6,J7,J8,J9,Ja,Jb,Jc,Jd,Je,Jf,Jg,Jh,Ji,Jj,Jk,Jl,Jm,Jn,Jo,Jp,Jq,Jr,Js,Jt,Ju,Jv,Jw,Jx,Jy,Jz,JA,JB,JC,JD,JE,JF,JG,JH,JI,JJ,JK,JL,JM,JN,JO,JP,stillI,IOp.kind,JQ,JR,JS,JT,JU,JV,JW,JX,JY,JZ,Y0,Y1,Y2,Y3,Y4,Y5,Y6,Y7,Y8,Y9,Ya,Yb,Yc,Yd,Ye,Yf,Yg,Yh,Yi,Yj,Yk,Yl,Ym,Yn,ial,Yo,Yp,Yq,Yr,Ys,Yt,Yu,Yv,ires,iresL,ires1,Yw,Yx,Yy,Yz,YA,YB,bin2,YC,YD,YE,YF,YG,YH,YI,YJ,YK,YL,YM,YN,YO,YP,YQ,YR,un1,shOk,eqL,eq1,fillL,putAt,IHeap.load1,IHeap.loadL,IHeap.storeL,YS,YT,YU,YV,YW,YX,YY,YZ,B0,B1,B2,B3,B4,B5,B6,B7,B8,B9,Ba,Bb,Bc,Bd,Be,Bf,Bg,Bh,Bi,Bj,Bk,Bl,Bm, t1, t8, t9, t10, t11, t12, hil, hil', hget', x0, x1, x2, he, hw]
                exact ⟨L.length - (i + 1), by omega, i + 1, by omega, rfl, hsn'.symm, by simp, hle⟩
              | true =>
                have hne : ¬ s = x.seg := bl1 he rfl
                simp -implicitDefEqProofs [J0,J1,J2,J3,J4,J5,J6,J7,J8,J9,Ja,Jb,Jc,Jd,Je,Jf,Jg,Jh,Ji,Jj,Jk,Jl,Jm,Jn,Jo,Jp,Jq,Jr,Js,Jt,Ju,Jv,Jw,Jx,Jy,Jz,JA,JB,JC,JD,JE,JF,JG,JH,JI,JJ,JK,JL,JM,JN,JO,JP,stillI,IOp.kind,JQ,JR,JS,JT,JU,JV,JW,JX,JY,JZ,Y0,Y1,Y2,Y3,Y4,Y5,Y6,Y7,Y8,Y9,Ya,Yb,Yc,Yd,Ye,Yf,Yg,Yh,Yi,Yj,Yk,Yl,Ym,Yn,ial,Yo,Yp,Yq,Yr,Ys,Yt,Yu,Yv,ires,iresL,ires1,Yw,Yx,Yy,Yz,YA,YB,bin2,YC,YD,YE,YF,YG,YH,YI,YJ,YK,YL,YM,YN,YO,YP,YQ,YR,un1,shOk,eqL,eq1,fillL,putAt,IHeap.load1,IHeap.loadL,IHeap.storeL,YS,YT,YU,YV,YW,YX,YY,YZ,B0,B1,B2,B3,B4,B5,B6,B7,B8,B9,Ba,Bb,Bc,Bd,Be,Bf,Bg,Bh,Bi,Bj,Bk,Bl,Bm, t1, t8, t9, t10, t11, t12, hil, hil', hget', x0, x1, x2, he, hne, hw]
                exact ⟨L.length - (i + 1), by omega, i + 1, by omega, rfl, hsn'.symm, by simp, hle⟩
            · have hsn' : anyT (L.take (i + 1)) = true := by rw [hsn]; simp [he]
              have bl3 := bl2 he
              simp -implicitDefEqProofs [J0,J1,J2,J3,J4,J5,J6,J7,J8,J9,Ja,Jb,Jc,Jd,Je,Jf,Jg,Jh,Ji,Jj,Jk,Jl,Jm,Jn,Jo,Jp,Jq,Jr,Js,Jt,Ju,Jv,Jw,Jx,Jy,Jz,JA,JB,JC,JD,JE,JF,JG,JH,JI,JJ,JK,JL,JM,JN,JO,JP,stillI,IOp.kind,JQ,JR,JS,JT,JU,JV,JW,JX,JY,JZ,Y0,Y1,Y2,Y3,Y4,Y5,Y6,Y7,Y8,Y9,Ya,Yb,Yc,Yd,Ye,Yf,Yg,Yh,Yi,Yj,Yk,Yl,Ym,Yn,ial,Yo,Yp,Yq,Yr,Ys,Yt,Yu,Yv,ires,iresL,ires1,Yw,Yx,Yy,Yz,YA,YB,bin2,YC,YD,YE,YF,YG,YH,YI,YJ,YK,YL,YM,YN,YO,YP,YQ,YR,un1,shOk,eqL,eq1,fillL,putAt,IHeap.load1,IHeap.loadL,IHeap.storeL,YS,YT,YU,YV,YW,YX,YY,YZ,B0,B1,B2,B3,B4,B5,B6,B7,B8,B9,Ba,Bb,Bc,Bd,Be,Bf,Bg,Bh,Bi,Bj,Bk,Bl,Bm, t1, t8, t9, t10, t11, t12, hil, hil', hget', x0, x1, x2, he]
              refine loop_nat c.mono (fun k2 T' H2 => ∃ k : Nat, k ≤ L.length ∧ k2 = L.length - k ∧ T' 1 = .int .i64 now ∧ T' 8 = .slice (some ⟨b, o, none⟩) L.length cap5 ∧ T' 9 = .int .i64 s ∧ T' 10 = .bool ok ∧ T' 11 = .bool true ∧ T' 12 = .int .i64 i ∧ T' 13 = .int .i64 k ∧ H6.le H2) L.length ?_ ?_
              · refine ⟨0, by omega, rfl, ?_⟩
                simp -implicitDefEqProofs [J0,J1,J2,J3,J4,J5,J6,J7,J8,J9,Ja,Jb,Jc,Jd,Je,Jf,Jg,Jh,Ji,Jj,Jk,Jl,Jm,Jn,Jo,Jp,Jq,Jr,Js,Jt,Ju,Jv,Jw,Jx,Jy,Jz,JA,JB,JC,JD,JE,JF,JG,JH,JI,JJ,JK,JL,JM,JN,JO,JP,stillI,IOp.kind,JQ,JR,JS,JT,JU,JV,JW,JX,JY,JZ,Y0,Y1,Y2,Y3,Y4,Y5,Y6,Y7,Y8,Y9,Ya,Yb,Yc,Yd,Ye,Yf,Yg,Yh,Yi,Yj,Yk,Yl,Ym,Yn,ial,Yo,Yp,Yq,Yr,Ys,Yt,Yu,Yv,ires,iresL,ires1,Yw,Yx,Yy,Yz,YA,YB,bin2,YC,YD,YE,YF,YG,YH,YI,YJ,YK,YL,YM,YN,YO,YP,YQ,YR,un1,shOk,eqL,eq1,fillL,putAt,IHeap.load1,IHeap.loadL,IHeap.storeL,YS,YT,YU,YV,YW,YX,YY,YZ,B0,B1,B2,B3,B4,B5,B6,B7,B8,B9,Ba,Bb,Bc,Bd,Be,Bf,Bg,Bh,Bi,Bj,Bk,Bl,Bm, t1, t8, t9, t10, t12]
                exact hle
              · rintro k2 T' H2 ⟨k, hk, rfl, t1, t8, t9, t10, t11, t12, t13, hle2⟩
                by_cases hkl : k < L.length
                · have hkl' : (k : Int) < (L.length : Int) := by omega
                  have hw2 : IntKind.i64.wrap ((k : Int) + 1) = (k : Int) + 1 := wrap64 (by omega) (by omega)
                  obtain ⟨z, hz⟩ : ∃ z, L[k]? = some z := ⟨_, List.getElem?_eq_getElem hkl⟩
                  obtain ⟨b', o', cp', cs', ro', ea, hb', hgetz, hrl', hrowz, hbdz⟩ := su.at (i := k) (r := rowT z) (by simp [hz])
                  rw [List.length_map] at ea
                  simp only [Value.slice.injEq, Option.some.injEq, Addr.mk.injEq] at ea
                  obtain ⟨⟨rfl, rfl, -⟩, -, -⟩ := ea
                  rw [hget, Option.some.injEq, IObj.cells.injEq] at hgetz
                  obtain ⟨rfl, rfl⟩ := hgetz
                  have hget2 := (hle2.get b hb).trans hget
                  have z0 := row_getT hrowz 0 (by omega)
                  simp only [rowT, List.getElem?_cons_zero, List.getElem?_cons_succ, Nat.add_zero] at z0
                  simp only [rowT] at hrowz
                  have bl4 := bl3 k z hz
                  by_cases hzs : z.seg = s
                  · obtain ⟨hle3, hlt3⟩ := bl4 hzs
                    have hgt : ¬ scoreT z now < scoreT x now := by omega
                    have sx := fun {A : IHeap} (K2 : Value → IHeap → Prop) hk => TScore_ok c hc (H := A) (K := K2) (x := x) hnow hk
                    have sz := fun {A : IHeap} (K2 : Value → IHeap → Prop) hk => TScore_ok c hc (H := A) (K := K2) (x := z) hnow hk
                    obtain ⟨Sx, hSx⟩ : ∃ S, S = scoreT x now := ⟨_, rfl⟩
                    obtain ⟨Sz, hSz⟩ : ∃ S, S = scoreT z now := ⟨_, rfl⟩
                    rw [← hSx] at sx hle3 hlt3 hgt
                    rw [← hSz] at sz hle3 hlt3 hgt
                    simp only [uV, hzs] at sx sz
                    simp -implicitDefEqProofs [J0,J1,J2,J3,J4,J5,J6,J7,J8,J9,Ja,Jb,Jc,Jd,Je,Jf,Jg,Jh,Ji,Jj,Jk,Jl,Jm,Jn,Jo,Jp,Jq,Jr,Js,Jt,Ju,Jv,Jw,Jx,Jy,Jz,JA,JB,JC,JD,JE,JF,JG,JH,JI,JJ,JK,JL,JM,JN,JO,JP,stillI,IOp.kind,JQ,JR,JS,JT,JU,JV,JW,JX,JY,JZ,Y0,Y1,Y2,Y3,Y4,Y5,Y6,Y7,Y8,Y9,Ya,Yb,Yc,Yd,Ye,Yf,Yg,Yh,Yi,Yj,Yk,Yl,Ym,Yn,ial,Yo,Yp,Yq,Yr,Ys,Yt,Yu,Yv,ires,iresL,ires1,Yw,Yx,Yy,Yz,YA,YB,bin2,YC,YD,YE,YF,YG,YH,YI,YJ,YK,YL,YM,YN,YO,YP,YQ,YR,un1,shOk,eqL,eq1,fillL,putAt,IHeap.load1,IHeap.loadL,IHeap.storeL,YS,YT,YU,YV,YW,YX,YY,YZ,B0,B1,B2,B3,B4,B5,B6,B7,B8,B9,Ba,Bb,Bc,Bd,Be,Bf,Bg,Bh,Bi,Bj,Bk,Bl,Bm, t1, t8, t9, t10, t11, t12, t13, hil, hil', hkl, hkl', hget2, x0, z0, hzs, hrow, hrowz, hbd, hbdz]
                    refine dcall_of c.mono (sx _ fun H7 k7 => ?_)
                    have hget7 := (k7.get b (by have := hle2.next; omega)).trans hget2
                    simp -implicitDefEqProofs [J0,J1,J2,J3,J4,J5,J6,J7,J8,J9,Ja,Jb,Jc,Jd,Je,Jf,Jg,Jh,Ji,Jj,Jk,Jl,Jm,Jn,Jo,Jp,Jq,Jr,Js,Jt,Ju,Jv,Jw,Jx,Jy,Jz,JA,JB,JC,JD,JE,JF,JG,JH,JI,JJ,JK,JL,JM,JN,JO,JP,stillI,IOp.kind,JQ,JR,JS,JT,JU,JV,JW,JX,JY,JZ,Y0,Y1,Y2,Y3,Y4,Y5,Y6,Y7,Y8,Y9,Ya,Yb,Yc,Yd,Ye,Yf,Yg,Yh,Yi,Yj,Yk,Yl,Ym,Yn,ial,Yo,Yp,Yq,Yr,Ys,Yt,Yu,Yv,ires,iresL,ires1,Yw,Yx,Yy,Yz,YA,YB,bin2,YC,YD,YE,YF,YG,YH,YI,YJ,YK,YL,YM,YN,YO,YP,YQ,YR,un1,shOk,eqL,eq1,fillL,putAt,IHeap.load1,IHeap.loadL,IHeap.storeL,YS,YT,YU,YV,YW,YX,YY,YZ,B0,B1,B2,B3,B4,B5,B6,B7,B8,B9,Ba,Bb,Bc,Bd,Be,Bf,Bg,Bh,Bi,Bj,Bk,Bl,Bm, t1, t8, t9, t10, t11, t12, t13, hil, hil', hkl, hkl', hget7, x0, z0, hzs, hrow, hrowz, hbd, hbdz, stillI]
                    refine dcall_of c.mono (sz _ fun H8 k8 => ?_)
                    have hget8 := (k8.get b (by have := hle2.next; have := k7.next; omega)).trans hget7
                    simp -implicitDefEqProofs [J0,J1,J2,J3,J4,J5,J6,J7,J8,J9,Ja,Jb,Jc,Jd,Je,Jf,Jg,Jh,Ji,Jj,Jk,Jl,Jm,Jn,Jo,Jp,Jq,Jr,Js,Jt,Ju,Jv,Jw,Jx,Jy,Jz,JA,JB,JC,JD,JE,JF,JG,JH,JI,JJ,JK,JL,JM,JN,JO,JP,stillI,IOp.kind,JQ,JR,JS,JT,JU,JV,JW,JX,JY,JZ,Y0,Y1,Y2,Y3,Y4,Y5,Y6,Y7,Y8,Y9,Ya,Yb,Yc,Yd,Ye,Yf,Yg,Yh,Yi,Yj,Yk,Yl,Ym,Yn,ial,Yo,Yp,Yq,Yr,Ys,Yt,Yu,Yv,ires,iresL,ires1,Yw,Yx,Yy,Yz,YA,YB,bin2,YC,YD,YE,YF,YG,YH,YI,YJ,YK,YL,YM,YN,YO,YP,YQ,YR,un1,shOk,eqL,eq1,fillL,putAt,IHeap.load1,IHeap.loadL,IHeap.storeL,YS,YT,YU,YV,YW,YX,YY,YZ,B0,B1,B2,B3,B4,B5,B6,B7,B8,B9,Ba,Bb,Bc,Bd,Be,Bf,Bg,Bh,Bi,Bj,Bk,Bl,Bm, t1, t8, t9, t10, t11, t12, t13, hil, hil', hkl, hkl', hget8, x0, z0, hzs, hrow, hrowz, hbd, hbdz, hgt, stillI]
                    refine dcall_of c.mono (sx _ fun H9 k9 => ?_)
                    have hget9 := (k9.get b (by have := hle2.next; have := k7.next; have := k8.next; omega)).trans hget8
                    simp -implicitDefEqProofs [J0,J1,J2,J3,J4,J5,J6,J7,J8,J9,Ja,Jb,Jc,Jd,Je,Jf,Jg,Jh,Ji,Jj,Jk,Jl,Jm,Jn,Jo,Jp,Jq,Jr,Js,Jt,Ju,Jv,Jw,Jx,Jy,Jz,JA,JB,JC,JD,JE,JF,JG,JH,JI,JJ,JK,JL,JM,JN,JO,JP,stillI,IOp.kind,JQ,JR,JS,JT,JU,JV,JW,JX,JY,JZ,Y0,Y1,Y2,Y3,Y4,Y5,Y6,Y7,Y8,Y9,Ya,Yb,Yc,Yd,Ye,Yf,Yg,Yh,Yi,Yj,Yk,Yl,Ym,Yn,ial,Yo,Yp,Yq,Yr,Ys,Yt,Yu,Yv,ires,iresL,ires1,Yw,Yx,Yy,Yz,YA,YB,bin2,YC,YD,YE,YF,YG,YH,YI,YJ,YK,YL,YM,YN,YO,YP,YQ,YR,un1,shOk,eqL,eq1,fillL,putAt,IHeap.load1,IHeap.loadL,IHeap.storeL,YS,YT,YU,YV,YW,YX,YY,YZ,B0,B1,B2,B3,B4,B5,B6,B7,B8,B9,Ba,Bb,Bc,Bd,Be,Bf,Bg,Bh,Bi,Bj,Bk,Bl,Bm, t1, t8, t9, t10, t11, t12, t13, hil, hil', hkl, hkl', hget9, x0, z0, hzs, hrow, hrowz, hbd, hbdz, stillI]
                    refine dcall_of c.mono (sz _ fun HX kX => ?_)
                    have hgetX := (kX.get b (by have := hle2.next; have := k7.next; have := k8.next; have := k9.next; omega)).trans hget9
                    have hleX := (((hle2.trans k7).trans k8).trans k9).trans kX
                    by_cases hxz : Sx = Sz
                    · have hlt4 : ¬ x.seg < s := by have := hlt3 hxz; omega
                      simp -implicitDefEqProofs [J0,J1,J2,J3,J4,J5,J6,J7,J8,J9,Ja,Jb,Jc,Jd,Je,Jf,Jg,Jh,Ji,Jj,Jk,Jl,Jm,Jn,Jo,Jp,Jq,Jr,Js,Jt,Ju,Jv,Jw,Jx,Jy,Jz,JA,JB,JC,JD,JE,JF,JG,JH,JI,JJ,JK,JL,JM,JN,JO,JP,stillI,IOp.kind,JQ,JR,JS,JT,JU,JV,JW,JX,JY,JZ,Y0,Y1,Y2,Y3,Y4,Y5,Y6,Y7,Y8,Y9,Ya,Yb,Yc,Yd,Ye,Yf,Yg,Yh,Yi,Yj,Yk,Yl,Ym,Yn,ial,Yo,Yp,Yq,Yr,Ys,Yt,Yu,Yv,ires,iresL,ires1,Yw,Yx,Yy,Yz,YA,YB,bin2,YC,YD,YE,YF,YG,YH,YI,YJ,YK,YL,YM,YN,YO,YP,YQ,YR,un1,shOk,eqL,eq1,fillL,putAt,IHeap.load1,IHeap.loadL,IHeap.storeL,YS,YT,YU,YV,YW,YX,YY,YZ,B0,B1,B2,B3,B4,B5,B6,B7,B8,B9,Ba,Bb,Bc,Bd,Be,Bf,Bg,Bh,Bi,Bj,Bk,Bl,Bm, t1, t8, t9, t10, t11, t12, t13, hil, hil', hkl, hkl', hgetX, x0, z0, hzs, hrow, hrowz, hbd, hbdz, hxz, hlt4, hw2, stillI]
                      exact ⟨L.length - (k + 1), by omega, k + 1, by omega, rfl, by simp, hleX⟩
                    · simp -implicitDefEqProofs [J0,J1,J2,J3,J4,J5,J6,J7,J8,J9,Ja,Jb,Jc,Jd,Je,Jf,Jg,Jh,Ji,Jj,Jk,Jl,Jm,Jn,Jo,Jp,Jq,Jr,Js,Jt,Ju,Jv,Jw,Jx,Jy,Jz,JA,JB,JC,JD,JE,JF,JG,JH,JI,JJ,JK,JL,JM,JN,JO,JP,stillI,IOp.kind,JQ,JR,JS,JT,JU,JV,JW,JX,JY,JZ,Y0,Y1,Y2,Y3,Y4,Y5,Y6,Y7,Y8,Y9,Ya,Yb,Yc,Yd,Ye,Yf,Yg,Yh,Yi,Yj,Yk,Yl,Ym,Yn,ial,Yo,Yp,Yq,Yr,Ys,Yt,Yu,Yv,ires,iresL,ires1,Yw,Yx,Yy,Yz,YA,YB,bin2,YC,YD,YE,YF,YG,YH,YI,YJ,YK,YL,YM,YN,YO,YP,YQ,YR,un1,shOk,eqL,eq1,fillL,putAt,IHeap.load1,IHeap.loadL,IHeap.storeL,YS,YT,YU,YV,YW,YX,YY,YZ,B0,B1,B2,B3,B4,B5,B6,B7,B8,B9,Ba,Bb,Bc,Bd,Be,Bf,Bg,Bh,Bi,Bj,Bk,Bl,Bm, t1, t8, t9, t10, t11, t12, t13, hil, hil', hkl, hkl', hgetX, x0, z0, hzs, hrow, hrowz, hbd, hbdz, hxz, hw2, stillI]
                      exact ⟨L.length - (k + 1), by omega, k + 1, by omega, rfl, by simp, hleX⟩
                  · simp -implicitDefEqProofs [J0,J1,J2,J3,J4,J5,J6,J7,J8,J9,Ja,Jb,Jc,Jd,Je,Jf,Jg,Jh,Ji,Jj,Jk,Jl,Jm,Jn,Jo,Jp,Jq,Jr,Js,Jt,Ju,Jv,Jw,Jx,Jy,Jz,JA,JB,JC,JD,JE,JF,JG,JH,JI,JJ,JK,JL,JM,JN,JO,JP,stillI,IOp.kind,JQ,JR,JS,JT,JU,JV,JW,JX,JY,JZ,Y0,Y1,Y2,Y3,Y4,Y5,Y6,Y7,Y8,Y9,Ya,Yb,Yc,Yd,Ye,Yf,Yg,Yh,Yi,Yj,Yk,Yl,Ym,Yn,ial,Yo,Yp,Yq,Yr,Ys,Yt,Yu,Yv,ires,iresL,ires1,Yw,Yx,Yy,Yz,YA,YB,bin2,YC,YD,YE,YF,YG,YH,YI,YJ,YK,YL,YM,YN,YO,YP,YQ,YR,un1,shOk,eqL,eq1,fillL,putAt,IHeap.load1,IHeap.loadL,IHeap.storeL,YS,YT,YU,YV,YW,YX,YY,YZ,B0,B1,B2,B3,B4,B5,B6,B7,B8,B9,Ba,Bb,Bc,Bd,Be,Bf,Bg,Bh,Bi,Bj,Bk,Bl,Bm, t1, t8, t9, t10, t11, t12, t13, hil, hil', hkl, hkl', hget2, x0, z0, hzs, hrow, hrowz, hbd, hbdz, hw2]
                    exact ⟨L.length - (k + 1), by omega, k + 1, by omega, rfl, by simp, hle2⟩
                · have hkl' : ¬ (k : Int) < (L.length : Int) := by omega
                  simp -implicitDefEqProofs [J0,J1,J2,J3,J4,J5,J6,J7,J8,J9,Ja,Jb,Jc,Jd,Je,Jf,Jg,Jh,Ji,Jj,Jk,Jl,Jm,Jn,Jo,Jp,Jq,Jr,Js,Jt,Ju,Jv,Jw,Jx,Jy,Jz,JA,JB,JC,JD,JE,JF,JG,JH,JI,JJ,JK,JL,JM,JN,JO,JP,stillI,IOp.kind,JQ,JR,JS,JT,JU,JV,JW,JX,JY,JZ,Y0,Y1,Y2,Y3,Y4,Y5,Y6,Y7,Y8,Y9,Ya,Yb,Yc,Yd,Ye,Yf,Yg,Yh,Yi,Yj,Yk,Yl,Ym,Yn,ial,Yo,Yp,Yq,Yr,Ys,Yt,Yu,Yv,ires,iresL,ires1,Yw,Yx,Yy,Yz,YA,YB,bin2,YC,YD,YE,YF,YG,YH,YI,YJ,YK,YL,YM,YN,YO,YP,YQ,YR,un1,shOk,eqL,eq1,fillL,putAt,IHeap.load1,IHeap.loadL,IHeap.storeL,YS,YT,YU,YV,YW,YX,YY,YZ,B0,B1,B2,B3,B4,B5,B6,B7,B8,B9,Ba,Bb,Bc,Bd,Be,Bf,Bg,Bh,Bi,Bj,Bk,Bl,Bm, t1, t8, t9, t10, t11, t12, t13, hkl, hkl', hw]
                  exact ⟨L.length - (i + 1), by omega, i + 1, by omega, rfl, hsn', by simp, hle2⟩
          · have hil' : ¬ (i : Int) < (L.length : Int) := by omega
            rw [List.take_of_length_le (by omega), ← hany] at t11
            simp -implicitDefEqProofs [J0,J1,J2,J3,J4,J5,J6,J7,J8,J9,Ja,Jb,Jc,Jd,Je,Jf,Jg,Jh,Ji,Jj,Jk,Jl,Jm,Jn,Jo,Jp,Jq,Jr,Js,Jt,Ju,Jv,Jw,Jx,Jy,Jz,JA,JB,JC,JD,JE,JF,JG,JH,JI,JJ,JK,JL,JM,JN,JO,JP,stillI,IOp.kind,JQ,JR,JS,JT,JU,JV,JW,JX,JY,JZ,Y0,Y1,Y2,Y3,Y4,Y5,Y6,Y7,Y8,Y9,Ya,Yb,Yc,Yd,Ye,Yf,Yg,Yh,Yi,Yj,Yk,Yl,Ym,Yn,ial,Yo,Yp,Yq,Yr,Ys,Yt,Yu,Yv,ires,iresL,ires1,Yw,Yx,Yy,Yz,YA,YB,bin2,YC,YD,YE,YF,YG,YH,YI,YJ,YK,YL,YM,YN,YO,YP,YQ,YR,un1,shOk,eqL,eq1,fillL,putAt,IHeap.load1,IHeap.loadL,IHeap.storeL,YS,YT,YU,YV,YW,YX,YY,YZ,B0,B1,B2,B3,B4,B5,B6,B7,B8,B9,Ba,Bb,Bc,Bd,Be,Bf,Bg,Bh,Bi,Bj,Bk,Bl,Bm, t1, t8, t9, t10, t11, t12, hil, hil']
            refine call_of (hA _ _ fun H' => ?_)
            simp -implicitDefEqProofs [J0,J1,J2,J3,J4,J5,J6,J7,J8,J9,Ja,Jb,Jc,Jd,Je,Jf,Jg,Jh,Ji,Jj,Jk,Jl,Jm,Jn,Jo,Jp,Jq,Jr,Js,Jt,Ju,Jv,Jw,Jx,Jy,Jz,JA,JB,JC,JD,JE,JF,JG,JH,JI,JJ,JK,JL,JM,JN,JO,JP,stillI,IOp.kind,JQ,JR,JS,JT,JU,JV,JW,JX,JY,JZ,Y0,Y1,Y2,Y3,Y4,Y5,Y6,Y7,Y8,Y9,Ya,Yb,Yc,Yd,Ye,Yf,Yg,Yh,Yi,Yj,Yk,Yl,Ym,Yn,ial,Yo,Yp,Yq,Yr,Ys,Yt,Yu,Yv,ires,iresL,ires1,Yw,Yx,Yy,Yz,YA,YB,bin2,YC,YD,YE,YF,YG,YH,YI,YJ,YK,YL,YM,YN,YO,YP,YQ,YR,un1,shOk,eqL,eq1,fillL,putAt,IHeap.load1,IHeap.loadL,IHeap.storeL,YS,YT,YU,YV,YW,YX,YY,YZ,B0,B1,B2,B3,B4,B5,B6,B7,B8,B9,Ba,Bb,Bc,Bd,Be,Bf,Bg,Bh,Bi,Bj,Bk,Bl,Bm]
            exact hK _

end
end Go.Proofs.YtdfjicnjcibdaaaI
