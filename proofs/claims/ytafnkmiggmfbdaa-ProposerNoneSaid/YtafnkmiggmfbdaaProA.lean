/- Who proposes: how it stands in the heap; what each function does (first part). -/
import Derived.Test.YtafnkmiggmfbdaaFrame
import Derived.Test.YtafnkmiggmfbdaaRangeM
import Derived.Test.YtafnkmiggmfbdaaVotes
import Derived.Test.YtafnkmiggmfbdaaBalB
import Derived.Test.YtafnkmiggmfbdaaBalD
import Derived.Test.YtafnkmiggmfbdaaPartProp
namespace Go.Proofs.YtafnkmiggmfbdaaI
set_option linter.unusedSimpArgs false
set_option linter.unusedVariables false
open Go

structure Pro where
  n : Int
  me : Int
  ba : Int
  bn : Int
  does : Int
  fr : Int
  next : Int
  filled : Bool
  who : Nat → Bool
  best : Int → Option VoteD
def who7 (w : Nat → Bool) : List Value := [.bool (w 0), .bool (w 1), .bool (w 2), .bool (w 3), .bool (w 4), .bool (w 5), .bool (w 6)]
def cellsP (P : Pro) (mv : Value) : List Value :=
  .int .i64 P.n :: .int .i64 P.me :: .int .i64 P.ba :: .int .i64 P.bn :: .int .i64 P.does :: .int .i64 P.fr :: .int .i64 P.next :: .bool P.filled :: (who7 P.who ++ [mv])
def setW (w : Nat → Bool) (i : Nat) : Nat → Bool := fun j => if j = i then true else w j

def Pro.setBal (P : Pro) (x y : Int) : Pro := { P with ba := x, bn := y }
def Pro.setDoes (P : Pro) (x : Int) : Pro := { P with does := x }
def Pro.setNext (P : Pro) (x : Int) : Pro := { P with next := x }
def Pro.setFilled (P : Pro) (b : Bool) : Pro := { P with filled := b }
def Pro.setBest (P : Pro) (v : VoteD) : Pro := { P with best := fun s => if v.slot = s then some v else P.best s }
def Pro.setWho (P : Pro) (i : Nat) : Pro := { P with who := setW P.who i }
theorem who_at (P : Pro) (mv : Value) (i : Nat) (hi : i < 7) : (cellsP P mv)[8 + i]? = some (.bool (P.who i)) := by
  match i, hi with
  | 0, _ => rfl
  | 1, _ => rfl
  | 2, _ => rfl
  | 3, _ => rfl
  | 4, _ => rfl
  | 5, _ => rfl
  | 6, _ => rfl
theorem who_put (P : Pro) (mv : Value) (i : Nat) (hi : i < 7) : putAt (cellsP P mv) (8 + i) [.bool true] = cellsP (P.setWho i) mv := by
  match i, hi with
  | 0, _ => rfl
  | 1, _ => rfl
  | 2, _ => rfl
  | 3, _ => rfl
  | 4, _ => rfl
  | 5, _ => rfl
  | 6, _ => rfl
theorem who_seven (P : Pro) (mv : Value) : ((cellsP P mv).drop 8).take 7 = who7 P.who := rfl
theorem who_get (w : Nat → Bool) (i : Nat) (hi : i < 7) : (who7 w)[i]? = some (.bool (w i)) := by
  match i, hi with
  | 0, _ => rfl
  | 1, _ => rfl
  | 2, _ => rfl
  | 3, _ => rfl
  | 4, _ => rfl
  | 5, _ => rfl
  | 6, _ => rfl
theorem cellsP_len (P : Pro) (mv : Value) : (cellsP P mv).length = 16 := rfl

section
variable (P : Pro) (mv : Value) (x : Int) (y : Int) (b : Bool)
theorem cP0 : (cellsP P mv)[0]? = some (.int .i64 P.n) := rfl
theorem cQ0 {h : 0 < (cellsP P mv).length} : (cellsP P mv)[0]'h = .int .i64 P.n := rfl
theorem cP1 : (cellsP P mv)[1]? = some (.int .i64 P.me) := rfl
theorem cQ1 {h : 1 < (cellsP P mv).length} : (cellsP P mv)[1]'h = .int .i64 P.me := rfl
theorem cP2 : List.take 2 (List.drop 2 (cellsP P mv)) = [.int .i64 P.ba, .int .i64 P.bn] := rfl
theorem cP4 : (cellsP P mv)[4]? = some (.int .i64 P.does) := rfl
theorem cQ4 {h : 4 < (cellsP P mv).length} : (cellsP P mv)[4]'h = .int .i64 P.does := rfl
theorem cP5 : (cellsP P mv)[5]? = some (.int .i64 P.fr) := rfl
theorem cQ5 {h : 5 < (cellsP P mv).length} : (cellsP P mv)[5]'h = .int .i64 P.fr := rfl
theorem cP6 : (cellsP P mv)[6]? = some (.int .i64 P.next) := rfl
theorem cQ6 {h : 6 < (cellsP P mv).length} : (cellsP P mv)[6]'h = .int .i64 P.next := rfl
theorem cP7 : (cellsP P mv)[7]? = some (.bool P.filled) := rfl
theorem cQ7 {h : 7 < (cellsP P mv).length} : (cellsP P mv)[7]'h = .bool P.filled := rfl
theorem cP15 : (cellsP P mv)[15]? = some (mv) := rfl
theorem cQ15 {h : 15 < (cellsP P mv).length} : (cellsP P mv)[15]'h = mv := rfl
theorem cPlen : (cellsP P mv).length = 16 := rfl
theorem tP2 : List.take 2 (cellsP P mv) ++ Value.int .i64 x :: Value.int .i64 y :: List.drop 4 (cellsP P mv) = cellsP (P.setBal x y) mv := rfl
theorem tP4 : List.take 4 (cellsP P mv) ++ Value.int .i64 x :: List.drop 5 (cellsP P mv) = cellsP (P.setDoes x) mv := rfl
theorem tP6 : List.take 6 (cellsP P mv) ++ Value.int .i64 x :: List.drop 7 (cellsP P mv) = cellsP (P.setNext x) mv := rfl
theorem tP7 : List.take 7 (cellsP P mv) ++ Value.bool b :: List.drop 8 (cellsP P mv) = cellsP (P.setFilled b) mv := rfl
end

/-- How it stands; B: its blocks. -/
structure IsP (B : Nat → Prop) (H : IHeap) (p : Nat) (P : Pro) : Prop where
  lt : ∀ b, B b → b < H.next
  own : B p
  rep : ∃ mv, H.get p = some (.cells (cellsP P mv) false) ∧ ((mv = .map none ∧ P.best = (fun _ => none) ∧ P.does = 0) ∨ ∃ r, mv = .map (some r) ∧ B r ∧ IsMap H r kI vV P.best)
theorem IsP.fr {B C : Nat → Prop} {H H' : IHeap} {p : Nat} {P : Pro} (h : IsP B H p P) (k : Fr C H H') (hd : ∀ b, B b → ¬ C b) : IsP B H' p P := by
  obtain ⟨h1, h2, mv, h3, h4⟩ := h
  have hp := h1 p h2
  refine ⟨fun b hb => Nat.lt_of_lt_of_le (h1 b hb) k.next, h2, mv, (k.get p hp (hd p h2)).trans h3, h4.imp id ?_⟩
  rintro ⟨r, e, hr, hm⟩
  exact ⟨r, e, hr, hm.same k.next (k.get r (h1 r hr) (hd r hr))⟩
theorem IsP.le {B : Nat → Prop} {H H' : IHeap} {p : Nat} {P : Pro} (h : IsP B H p P) (k : H.le H') : IsP B H' p P := h.fr (k.fr fun _ => False) fun _ _ h => h

def Pro.ok (P : Pro) : Prop := quorumI P.n ≠ 0 ∧ 0 ≤ P.me ∧ P.me < P.n ∧ 0 ≤ P.fr ∧ P.fr ≤ P.next ∧ P.next ≤ 1024 ∧ (0 ≤ P.does ∧ P.does ≤ 2) ∧
  ∀ s v, P.best s = some v → v.slot = s ∧ P.fr ≤ s ∧ s < P.next ∧ validB v.a v.n = true ∧ v.val.size ≤ 4096
theorem quorumI_ne {n : Int} (h : quorumI n ≠ 0) : 1 ≤ n ∧ n ≤ 7 ∧ 1 ≤ quorumI n ∧ quorumI n ≤ n := by
  unfold quorumI at h ⊢
  by_cases hc : n < 1 ∨ 7 < n
  · rw [if_pos hc] at h; exact absurd rfl h
  · rw [if_neg hc]
    have h1 : 1 ≤ n := by omega
    have h2 : n ≤ 7 := by omega
    have : n = 1 ∨ n = 2 ∨ n = 3 ∨ n = 4 ∨ n = 5 ∨ n = 6 ∨ n = 7 := by omega
    rcases this with rfl | rfl | rfl | rfl | rfl | rfl | rfl <;> decide

def Pro.new (n me : Int) : Pro := ⟨n, me, 0, 0, 0, 0, 0, false, fun _ => false, fun _ => none⟩
def Pro.lead (P : Pro) (a n fr : Int) : Pro × (Int × Int) × Int :=
  if validB a n = false ∨ fr < 0 ∨ 1024 ≤ fr then (P, (0, 0), 1)
  else if 2147483647 ≤ (maxL [(a, n), (P.ba, P.bn)]).1 then (P, (0, 0), 5)
  else ({ Pro.new P.n P.me with ba := (nextB (maxL [(a, n), (P.ba, P.bn)]).1 P.me).1, bn := (nextB (maxL [(a, n), (P.ba, P.bn)]).1 P.me).2, does := 1, fr := fr, next := fr }, nextB (maxL [(a, n), (P.ba, P.bn)]).1 P.me, 0)
/-- Is a vote counted? -/
def Pro.takes (P : Pro) (v : VoteD) : Bool := decide (P.fr ≤ v.slot) && (decide (v.slot < 1024) && (validB v.a v.n && decide (v.val.size ≤ 4096)))
def better (o : Option VoteD) (v : VoteD) : Bool := match o with
  | none => true
  | some w => decide (0 < cmpB v.a v.n w.a w.n)
def Pro.count (P : Pro) (v : VoteD) : Pro :=
  if P.takes v then (if better (P.best v.slot) v then (P.setNext (if v.slot + 1 > P.next then v.slot + 1 else P.next)).setBest v else P.setNext (if v.slot + 1 > P.next then v.slot + 1 else P.next)) else P
def cntW (w : Nat → Bool) : Nat → Nat
  | 0 => 0
  | k + 1 => cntW w k + if w k then 1 else 0
def Pro.promise (P : Pro) (fr a n : Int) (l : List VoteD) : Pro × Bool :=
  if P.does ≠ 1 ∨ fr < 0 ∨ P.n ≤ fr ∨ ¬ (a = P.ba ∧ n = P.bn) ∨ P.who fr.toNat = true then (P, false)
  else if (cntW (setW P.who fr.toNat) 7 : Int) < quorumI P.n then (l.foldl Pro.count (P.setWho fr.toNat), false)
  else ((l.foldl Pro.count (P.setWho fr.toNat)).setDoes 2, true)
def Pro.propose (P : Pro) (s : ByteArray) : Pro × Int :=
  if 4096 < s.size then (P, 2) else if 1024 ≤ P.next then (P, 5) else if P.does ≠ 2 then (P, 16) else (P.setNext (P.next + 1), 0)
def Pro.step (P : Pro) (a n : Int) : Pro × Bool :=
  if validB a n = false ∨ cmpB a n P.ba P.bn ≤ 0 then (P, false) else ((P.setBal a n).setDoes 0, true)
def IsEnd (P : Pro) (e : Int) : Prop := P.fr ≤ e ∧ (∀ s v, P.best s = some v → s < e) ∧ (e = P.fr ∨ ∃ v, P.best (e - 1) = some v)
theorem IsEnd.uniq {P : Pro} {a b : Int} (h : IsEnd P a) (k : IsEnd P b) : a = b := by
  obtain ⟨h1, h2, h3⟩ := h
  obtain ⟨k1, k2, k3⟩ := k
  rcases h3 with h3 | ⟨v, h3⟩
  · rcases k3 with k3 | ⟨w, k3⟩
    · omega
    · have := h2 _ _ k3; omega
  · have := k2 _ _ h3
    rcases k3 with k3 | ⟨w, k3⟩
    · omega
    · have := h2 _ _ k3; omega
def noS : ByteArray := ⟨#[]⟩
def valOf (o : Option VoteD) : ByteArray := match o with
  | some v => v.val
  | none => noS
def filledL (P : Pro) (s : Int) : Nat → List VoteD
  | 0 => []
  | k + 1 => ⟨s, P.ba, P.bn, valOf (P.best s)⟩ :: filledL P (s + 1) k
/-- What it fills. -/
def Pro.fill (P : Pro) (e : Int) : List VoteD := filledL P P.fr (e - P.fr).toNat

structure ProT (c : Ctx) : Prop where
  key : c.P.underlying (c.Ty 2) = some (.int .i64)

section
variable (c : Ctx) (hA : HasBalA c) (hB : HasBalB c) (hD : HasBalD c) (hc : HasProp c) (hT : ProT c) {H : IHeap} {K : Value → IHeap → Prop} {B : Nat → Prop} {p : Nat} {P : Pro}

include hB hc in
theorem PNew_ok {n me : Int} (h0 : (quorumI n = 0 ∨ me < 0 ∨ n ≤ me) → K (.pointer none) H) (hK : quorumI n ≠ 0 → 0 ≤ me → me < n → ∀ p B H', H.le H' → (∀ b, B b → H.next ≤ b) → IsP B H' p (Pro.new n me) → K (.pointer (some ⟨p, 0, none⟩)) H') :
    c.C (c.F n_proposer_New) [.int .i64 n, .int .i64 me] H K := by
  refine c.enter hc.proposer_New rfl ?_
  simp -implicitDefEqProofs [J0,J1,J2,J3,J4,J5,J6,J7,J8,J9,Ja,Jb,Jc,Jd,Je,Jf,Jg,Jh,Ji,Jj,Jk,Jl,Jm,Jn,Jo,Jp,Jq,Jr,Js,Jt,Ju,Jv,Jw,Jx,Jy,Jz,JA,JB,JC,JD,JE,JF,JG,JH,JI,JJ,JK,JL,JM,JN,JO,JP,JQ,JR,JS,stillI,IOp.kind,JT,JU,JV,JW,JX,JY,JZ,Y0,Y1,Y2,Y3,Y4,Y5,Y6,Y7,Y8,Y9,Ya,Yb,Yc,Yd,Ye,Yf,Yg,Yh,Yi,Yj,Yk,Yl,Ym,Yn,Yo,Yp,Yq,ial,Yr,Ys,Yt,Yu,Yv,Yw,Yx,Yy,ires,iresL,ires1,Yz,YA,YB,YC,YD,YE,bin2,YF,YG,YH,YI,YJ,YK,YL,YM,YN,YO,YP,YQ,YR,YS,YT,YU,un1,shOk,eqL,eq1,fillL,putAt,IHeap.load1,IHeap.loadL,IHeap.storeL,YV,YW,YX,YY,YZ,B0,B1,B2,B3,B4,B5,B6,B7,B8,B9,Ba,Bb,Bc,Bd,Be,Bf,Bg,Bh,Bi,Bj,Bk,Bl,Bm,Bn,Bo,Bp, c_proposer_New]
  refine call_of (Quorum_ok c hB ?_)
  by_cases h1 : quorumI n = 0
  · simp -implicitDefEqProofs [J0,J1,J2,J3,J4,J5,J6,J7,J8,J9,Ja,Jb,Jc,Jd,Je,Jf,Jg,Jh,Ji,Jj,Jk,Jl,Jm,Jn,Jo,Jp,Jq,Jr,Js,Jt,Ju,Jv,Jw,Jx,Jy,Jz,JA,JB,JC,JD,JE,JF,JG,JH,JI,JJ,JK,JL,JM,JN,JO,JP,JQ,JR,JS,stillI,IOp.kind,JT,JU,JV,JW,JX,JY,JZ,Y0,Y1,Y2,Y3,Y4,Y5,Y6,Y7,Y8,Y9,Ya,Yb,Yc,Yd,Ye,Yf,Yg,Yh,Yi,Yj,Yk,Yl,Ym,Yn,Yo,Yp,Yq,ial,Yr,Ys,Yt,Yu,Yv,Yw,Yx,Yy,ires,iresL,ires1,Yz,YA,YB,YC,YD,YE,bin2,YF,YG,YH,YI,YJ,YK,YL,YM,YN,YO,YP,YQ,YR,YS,YT,YU,un1,shOk,eqL,eq1,fillL,putAt,IHeap.load1,IHeap.loadL,IHeap.storeL,YV,YW,YX,YY,YZ,B0,B1,B2,B3,B4,B5,B6,B7,B8,B9,Ba,Bb,Bc,Bd,Be,Bf,Bg,Bh,Bi,Bj,Bk,Bl,Bm,Bn,Bo,Bp, h1]
    exact h0 (.inl h1)
  · by_cases h2 : me < 0
    · simp -implicitDefEqProofs [J0,J1,J2,J3,J4,J5,J6,J7,J8,J9,Ja,Jb,Jc,Jd,Je,Jf,Jg,Jh,Ji,Jj,Jk,Jl,Jm,Jn,Jo,Jp,Jq,Jr,Js,Jt,Ju,Jv,Jw,Jx,Jy,Jz,JA,JB,JC,JD,JE,JF,JG,JH,JI,JJ,JK,JL,JM,JN,JO,JP,JQ,JR,JS,stillI,IOp.kind,JT,JU,JV,JW,JX,JY,JZ,Y0,Y1,Y2,Y3,Y4,Y5,Y6,Y7,Y8,Y9,Ya,Yb,Yc,Yd,Ye,Yf,Yg,Yh,Yi,Yj,Yk,Yl,Ym,Yn,Yo,Yp,Yq,ial,Yr,Ys,Yt,Yu,Yv,Yw,Yx,Yy,ires,iresL,ires1,Yz,YA,YB,YC,YD,YE,bin2,YF,YG,YH,YI,YJ,YK,YL,YM,YN,YO,YP,YQ,YR,YS,YT,YU,un1,shOk,eqL,eq1,fillL,putAt,IHeap.load1,IHeap.loadL,IHeap.storeL,YV,YW,YX,YY,YZ,B0,B1,B2,B3,B4,B5,B6,B7,B8,B9,Ba,Bb,Bc,Bd,Be,Bf,Bg,Bh,Bi,Bj,Bk,Bl,Bm,Bn,Bo,Bp, h1, h2]
      exact h0 (.inr (.inl h2))
    · by_cases h3 : n ≤ me
      · simp -implicitDefEqProofs [J0,J1,J2,J3,J4,J5,J6,J7,J8,J9,Ja,Jb,Jc,Jd,Je,Jf,Jg,Jh,Ji,Jj,Jk,Jl,Jm,Jn,Jo,Jp,Jq,Jr,Js,Jt,Ju,Jv,Jw,Jx,Jy,Jz,JA,JB,JC,JD,JE,JF,JG,JH,JI,JJ,JK,JL,JM,JN,JO,JP,JQ,JR,JS,stillI,IOp.kind,JT,JU,JV,JW,JX,JY,JZ,Y0,Y1,Y2,Y3,Y4,Y5,Y6,Y7,Y8,Y9,Ya,Yb,Yc,Yd,Ye,Yf,Yg,Yh,Yi,Yj,Yk,Yl,Ym,Yn,Yo,Yp,Yq,ial,Yr,Ys,Yt,Yu,Yv,Yw,Yx,Yy,ires,iresL,ires1,Yz,YA,YB,YC,YD,YE,bin2,YF,YG,YH,YI,YJ,YK,YL,YM,YN,YO,YP,YQ,YR,YS,YT,YU,un1,shOk,eqL,eq1,fillL,putAt,IHeap.load1,IHeap.loadL,IHeap.storeL,YV,YW,YX,YY,YZ,B0,B1,B2,B3,B4,B5,B6,B7,B8,B9,Ba,Bb,Bc,Bd,Be,Bf,Bg,Bh,Bi,Bj,Bk,Bl,Bm,Bn,Bo,Bp, h1, h2, h3]
        exact h0 (.inr (.inr h3))
      · simp -implicitDefEqProofs [J0,J1,J2,J3,J4,J5,J6,J7,J8,J9,Ja,Jb,Jc,Jd,Je,Jf,Jg,Jh,Ji,Jj,Jk,Jl,Jm,Jn,Jo,Jp,Jq,Jr,Js,Jt,Ju,Jv,Jw,Jx,Jy,Jz,JA,JB,JC,JD,JE,JF,JG,JH,JI,JJ,JK,JL,JM,JN,JO,JP,JQ,JR,JS,stillI,IOp.kind,JT,JU,JV,JW,JX,JY,JZ,Y0,Y1,Y2,Y3,Y4,Y5,Y6,Y7,Y8,Y9,Ya,Yb,Yc,Yd,Ye,Yf,Yg,Yh,Yi,Yj,Yk,Yl,Ym,Yn,Yo,Yp,Yq,ial,Yr,Ys,Yt,Yu,Yv,Yw,Yx,Yy,ires,iresL,ires1,Yz,YA,YB,YC,YD,YE,bin2,YF,YG,YH,YI,YJ,YK,YL,YM,YN,YO,YP,YQ,YR,YS,YT,YU,un1,shOk,eqL,eq1,fillL,putAt,IHeap.load1,IHeap.loadL,IHeap.storeL,YV,YW,YX,YY,YZ,B0,B1,B2,B3,B4,B5,B6,B7,B8,B9,Ba,Bb,Bc,Bd,Be,Bf,Bg,Bh,Bi,Bj,Bk,Bl,Bm,Bn,Bo,Bp, h1, h2, h3]
        refine hK h1 (by omega) (by omega) H.next (fun b => b = H.next) _ (H.le_alloc _) (fun b hb => by omega) ⟨fun b hb => by rw [YX]; omega, rfl, .map none, ?_, .inl ⟨rfl, rfl, rfl⟩⟩
        rw [YV, if_pos rfl]
        rfl

include hc in
theorem PLeads_ok (h : IsP B H p P) (hK : K (.bool (decide (P.does = 2))) H) : c.C (c.F n_proposer_Proposer_Leads) [.pointer (some ⟨p, 0, none⟩)] H K := by
  refine c.enter hc.proposer_Proposer_Leads rfl ?_
  obtain ⟨mv, g, _⟩ := h.rep
  simp -implicitDefEqProofs [J0,J1,J2,J3,J4,J5,J6,J7,J8,J9,Ja,Jb,Jc,Jd,Je,Jf,Jg,Jh,Ji,Jj,Jk,Jl,Jm,Jn,Jo,Jp,Jq,Jr,Js,Jt,Ju,Jv,Jw,Jx,Jy,Jz,JA,JB,JC,JD,JE,JF,JG,JH,JI,JJ,JK,JL,JM,JN,JO,JP,JQ,JR,JS,stillI,IOp.kind,JT,JU,JV,JW,JX,JY,JZ,Y0,Y1,Y2,Y3,Y4,Y5,Y6,Y7,Y8,Y9,Ya,Yb,Yc,Yd,Ye,Yf,Yg,Yh,Yi,Yj,Yk,Yl,Ym,Yn,Yo,Yp,Yq,ial,Yr,Ys,Yt,Yu,Yv,Yw,Yx,Yy,ires,iresL,ires1,Yz,YA,YB,YC,YD,YE,bin2,YF,YG,YH,YI,YJ,YK,YL,YM,YN,YO,YP,YQ,YR,YS,YT,YU,un1,shOk,eqL,eq1,fillL,putAt,IHeap.load1,IHeap.loadL,IHeap.storeL,YV,YW,YX,YY,YZ,B0,B1,B2,B3,B4,B5,B6,B7,B8,B9,Ba,Bb,Bc,Bd,Be,Bf,Bg,Bh,Bi,Bj,Bk,Bl,Bm,Bn,Bo,Bp, c_proposer_Proposer_Leads, g, cellsP, nilOf]
  exact hK
include hc in
theorem PLeads_none (hK : K (.bool false) H) : c.C (c.F n_proposer_Proposer_Leads) [.pointer none] H K := by
  refine c.enter hc.proposer_Proposer_Leads rfl ?_
  simp -implicitDefEqProofs [J0,J1,J2,J3,J4,J5,J6,J7,J8,J9,Ja,Jb,Jc,Jd,Je,Jf,Jg,Jh,Ji,Jj,Jk,Jl,Jm,Jn,Jo,Jp,Jq,Jr,Js,Jt,Ju,Jv,Jw,Jx,Jy,Jz,JA,JB,JC,JD,JE,JF,JG,JH,JI,JJ,JK,JL,JM,JN,JO,JP,JQ,JR,JS,stillI,IOp.kind,JT,JU,JV,JW,JX,JY,JZ,Y0,Y1,Y2,Y3,Y4,Y5,Y6,Y7,Y8,Y9,Ya,Yb,Yc,Yd,Ye,Yf,Yg,Yh,Yi,Yj,Yk,Yl,Ym,Yn,Yo,Yp,Yq,ial,Yr,Ys,Yt,Yu,Yv,Yw,Yx,Yy,ires,iresL,ires1,Yz,YA,YB,YC,YD,YE,bin2,YF,YG,YH,YI,YJ,YK,YL,YM,YN,YO,YP,YQ,YR,YS,YT,YU,un1,shOk,eqL,eq1,fillL,putAt,IHeap.load1,IHeap.loadL,IHeap.storeL,YV,YW,YX,YY,YZ,B0,B1,B2,B3,B4,B5,B6,B7,B8,B9,Ba,Bb,Bc,Bd,Be,Bf,Bg,Bh,Bi,Bj,Bk,Bl,Bm,Bn,Bo,Bp, c_proposer_Proposer_Leads, nilOf]
  exact hK
include hc in
theorem PNext_ok (h : IsP B H p P) (hK : K (.int .i64 P.next) H) : c.C (c.F n_proposer_Proposer_Next) [.pointer (some ⟨p, 0, none⟩)] H K := by
  refine c.enter hc.proposer_Proposer_Next rfl ?_
  obtain ⟨mv, g, _⟩ := h.rep
  simp -implicitDefEqProofs [J0,J1,J2,J3,J4,J5,J6,J7,J8,J9,Ja,Jb,Jc,Jd,Je,Jf,Jg,Jh,Ji,Jj,Jk,Jl,Jm,Jn,Jo,Jp,Jq,Jr,Js,Jt,Ju,Jv,Jw,Jx,Jy,Jz,JA,JB,JC,JD,JE,JF,JG,JH,JI,JJ,JK,JL,JM,JN,JO,JP,JQ,JR,JS,stillI,IOp.kind,JT,JU,JV,JW,JX,JY,JZ,Y0,Y1,Y2,Y3,Y4,Y5,Y6,Y7,Y8,Y9,Ya,Yb,Yc,Yd,Ye,Yf,Yg,Yh,Yi,Yj,Yk,Yl,Ym,Yn,Yo,Yp,Yq,ial,Yr,Ys,Yt,Yu,Yv,Yw,Yx,Yy,ires,iresL,ires1,Yz,YA,YB,YC,YD,YE,bin2,YF,YG,YH,YI,YJ,YK,YL,YM,YN,YO,YP,YQ,YR,YS,YT,YU,un1,shOk,eqL,eq1,fillL,putAt,IHeap.load1,IHeap.loadL,IHeap.storeL,YV,YW,YX,YY,YZ,B0,B1,B2,B3,B4,B5,B6,B7,B8,B9,Ba,Bb,Bc,Bd,Be,Bf,Bg,Bh,Bi,Bj,Bk,Bl,Bm,Bn,Bo,Bp, c_proposer_Proposer_Next, g, cellsP, nilOf]
  exact hK
include hc in
theorem Pvote_ok {s : Int} {x : ByteArray} (h : IsP B H p P) (hK : ∀ H', H.le H' → K (vV ⟨s, P.ba, P.bn, x⟩) H') : c.C (c.F n_proposer_Proposer_vote) [.pointer (some ⟨p, 0, none⟩), .int .i64 s, .string x] H K := by
  refine c.enter hc.proposer_Proposer_vote rfl ?_
  obtain ⟨mv, g, _⟩ := h.rep
  have hp := h.lt p h.own
  have e1 : ¬ p = H.next := by omega
  simp -implicitDefEqProofs [J0,J1,J2,J3,J4,J5,J6,J7,J8,J9,Ja,Jb,Jc,Jd,Je,Jf,Jg,Jh,Ji,Jj,Jk,Jl,Jm,Jn,Jo,Jp,Jq,Jr,Js,Jt,Ju,Jv,Jw,Jx,Jy,Jz,JA,JB,JC,JD,JE,JF,JG,JH,JI,JJ,JK,JL,JM,JN,JO,JP,JQ,JR,JS,stillI,IOp.kind,JT,JU,JV,JW,JX,JY,JZ,Y0,Y1,Y2,Y3,Y4,Y5,Y6,Y7,Y8,Y9,Ya,Yb,Yc,Yd,Ye,Yf,Yg,Yh,Yi,Yj,Yk,Yl,Ym,Yn,Yo,Yp,Yq,ial,Yr,Ys,Yt,Yu,Yv,Yw,Yx,Yy,ires,iresL,ires1,Yz,YA,YB,YC,YD,YE,bin2,YF,YG,YH,YI,YJ,YK,YL,YM,YN,YO,YP,YQ,YR,YS,YT,YU,un1,shOk,eqL,eq1,fillL,putAt,IHeap.load1,IHeap.loadL,IHeap.storeL,YV,YW,YX,YY,YZ,B0,B1,B2,B3,B4,B5,B6,B7,B8,B9,Ba,Bb,Bc,Bd,Be,Bf,Bg,Bh,Bi,Bj,Bk,Bl,Bm,Bn,Bo,Bp, c_proposer_Proposer_vote, g, cellsP, e1]
  exact hK _ ((H.le_alloc _).set (Nat.le_refl _) _)
end
end Go.Proofs.YtafnkmiggmfbdaaI
