/- What managers agree on: how it stands in the heap. / Where inodes stand: what each function does. / Who may write: what each function does. / slices.Insert, of a call's entries: what it does to an own slice, from some place on. / Calls that are done once: what each function does. / Calls that are done once: taken, put. -/
import Derived.Test.YtndndcdblfejnaaGreatRMgH
import Derived.Test.YtndndcdblfejnaaGreatRMaps
import Derived.Test.YtndndcdblfejnaaGreatRFarM
import Derived.Test.YtndndcdblfejnaaGreatRSmDM
import Derived.Test.YtndndcdblfejnaaGreatRInsV3
import Derived.Test.YtndndcdblfejnaaGreatRUseFM
namespace Go.Proofs.YtndndcdblfejnaaGreatRI
set_option linter.unusedSimpArgs false
set_option linter.unusedVariables false
open Go

/-- What is new besides. -/
def Gw (B : Nat → Prop) (H H' : IHeap) (b : Nat) : Prop := B b ∨ (H.next ≤ b ∧ b < H'.next)

/-! ### a group -/
structure GrB (B : Nat → Prop) (H : IHeap) (p : Nat) (m : Mem) : Prop where
  lt : ∀ b, B b → b < H.next
  own : B p
  rep : ∃ q1 q2, B q1 ∧ B q2 ∧ IsM H p q1 q2 m
theorem GrB.fr {B C : Nat → Prop} {H H' : IHeap} {p : Nat} {m : Mem} (h : GrB B H p m) (k : Fr C H H') (hd : ∀ b, B b → ¬ C b) : GrB B H' p m := by
  obtain ⟨h1, h2, q1, q2, b1, b2, i⟩ := h
  have hn := k.next
  have g := fun b hb => k.get b (h1 b hb) (hd b hb)
  obtain ⟨cap, v2, g1, g2, g3⟩ := i.rep
  exact ⟨fun b hb => Nat.lt_of_lt_of_le (h1 b hb) hn, h2, q1, q2, b1, b2, Nat.lt_of_lt_of_le i.lt hn, i.ok, ⟨cap, v2, (g p h2).trans g1, g2, g3.same hn (g q2 b2)⟩, Nat.lt_of_lt_of_le i.lt1 hn, (g q1 b1).trans i.get1, i.n12, i.np2, i.np1⟩
theorem GrB.weak {B B' : Nat → Prop} {H : IHeap} {p : Nat} {m : Mem} (h : GrB B H p m) (hb : ∀ b, B b → B' b) (hl : ∀ b, B' b → b < H.next) : GrB B' H p m := by
  obtain ⟨h1, h2, q1, q2, b1, b2, i⟩ := h
  exact ⟨hl, hb p h2, q1, q2, hb _ b1, hb _ b2, i⟩
theorem GrB.ok {B : Nat → Prop} {H : IHeap} {p : Nat} {m : Mem} (h : GrB B H p m) : m.ok := by obtain ⟨_, _, q1, q2, b1, b2, i⟩ := h; exact i.ok

/-! ### stripes -/
structure StB (B : Nat → Prop) (H : IHeap) (p : Nat) (L : List St) : Prop where
  lt : ∀ b, B b → b < H.next
  own : B p
  rep : ∃ q bs, (∀ b ∈ foot p q bs L, B b) ∧ IsS H p q bs L
theorem StB.fr {B C : Nat → Prop} {H H' : IHeap} {p : Nat} {L : List St} (h : StB B H p L) (k : Fr C H H') (hd : ∀ b, B b → ¬ C b) : StB B H' p L := by
  obtain ⟨h1, h2, q, bs, hf, i⟩ := h
  have hn := k.next
  have g := fun b hb => k.get b (h1 b hb) (hd b hb)
  have bq : B q := hf q (q_foot p q bs L)
  have bb : ∀ i, i < L.length → B (bs i) := fun i hi => hf _ (mem_foot.2 (.inr (.inr ⟨i, hi, rfl⟩)))
  obtain ⟨u, g1, g2⟩ := i.rep
  refine ⟨fun b hb => Nat.lt_of_lt_of_le (h1 b hb) hn, h2, q, bs, hf, Nat.lt_of_lt_of_le i.lt hn, Nat.lt_of_lt_of_le i.ltq hn, ⟨u, (g p h2).trans g1, g2.imp id fun z => ⟨z.1, z.2.1, z.2.2.1, (g q bq).trans z.2.2.2⟩⟩, i.ok, i.len, fun j x hx => ?_, i.inj⟩
  obtain ⟨b1, b2, b3⟩ := i.bl j x hx
  exact ⟨Nat.lt_of_lt_of_le b1 hn, (g _ (bb j (List.getElem?_eq_some_iff.1 hx).1)).trans b2, b3⟩
theorem StB.weak {B B' : Nat → Prop} {H : IHeap} {p : Nat} {L : List St} (h : StB B H p L) (hb : ∀ b, B b → B' b) (hl : ∀ b, B' b → b < H.next) : StB B' H p L := by
  obtain ⟨h1, h2, q, bs, hf, i⟩ := h
  exact ⟨hl, hb p h2, q, bs, fun b hm => hb b (hf b hm), i⟩

/-! ### segments -/
theorem IsT.far {H : IHeap} {p q : Nat} {L : List UseD} (h : IsT H p q L) (hq : H.next ≤ q) (q' : Nat) (hn : p ≠ q') : IsT H p q' L := by
  obtain ⟨h1, h2, ⟨u, g1, g2⟩, h4⟩ := h
  refine ⟨h1, hn, ⟨u, g1, ?_⟩, h4⟩
  rcases g2 with g2 | ⟨cs, g2, _⟩
  · exact .inl g2
  · omega
structure UsB (B : Nat → Prop) (H : IHeap) (p : Nat) (L : List UseD) : Prop where
  lt : ∀ b, B b → b < H.next
  own : B p
  rep : ∃ q, IsT H p q L ∧ (B q ∨ H.next ≤ q)
theorem UsB.fr {B C : Nat → Prop} {H H' : IHeap} {p : Nat} {L : List UseD} (h : UsB B H p L) (k : Fr C H H') (hd : ∀ b, B b → ¬ C b) : UsB B H' p L := by
  obtain ⟨h1, h2, q, h3, h4⟩ := h
  have hn := k.next
  refine ⟨fun b hb => Nat.lt_of_lt_of_le (h1 b hb) k.next, h2, ?_⟩
  have hp := h1 p h2
  obtain ⟨q', i', hq'⟩ : ∃ q', IsT H p q' L ∧ (B q' ∨ H'.next ≤ q') := by
    rcases h4 with h4 | h4
    · exact ⟨q, h3, .inl h4⟩
    · exact ⟨H'.next, h3.far h4 _ (by omega), .inr (Nat.le_refl _)⟩
  refine ⟨q', ?_, hq'⟩
  obtain ⟨a1, a2, ⟨u, g1, g2⟩, a4⟩ := i'
  refine ⟨Nat.lt_of_lt_of_le a1 hn, a2, ⟨u, (k.get p hp (hd p h2)).trans g1, ?_⟩, a4⟩
  rcases g2 with g2 | ⟨cs, g2, g3, g4, g5⟩
  · exact .inl g2
  · have : B q' := hq'.resolve_right (by omega)
    exact .inr ⟨cs, by omega, g3, (k.get q' g2 (hd q' this)).trans g4, g5⟩
theorem UsB.weak {B B' : Nat → Prop} {H : IHeap} {p : Nat} {L : List UseD} (h : UsB B H p L) (hb : ∀ b, B b → B' b) (hl : ∀ b, B' b → b < H.next) : UsB B' H p L := by
  obtain ⟨h1, h2, q, h3, h4⟩ := h
  exact ⟨hl, hb p h2, q, h3, h4.imp (hb q) id⟩

/-! ### where inodes stand -/
structure ImB (B : Nat → Prop) (H : IHeap) (p : Nat) (I : Im) : Prop where
  lt : ∀ b, B b → b < H.next
  own : B p
  rep : ∃ cs, H.get p = some (.cells cs false) ∧ cs.length = 1024 ∧ ∀ i : Nat, i < 256 → (cs.drop (i * 4)).take 4 = spotL (I i)
theorem ImB.fr {B C : Nat → Prop} {H H' : IHeap} {p : Nat} {I : Im} (h : ImB B H p I) (k : Fr C H H') (hd : ∀ b, B b → ¬ C b) : ImB B H' p I := by
  obtain ⟨h1, h2, cs, h3, h4⟩ := h
  exact ⟨fun b hb => Nat.lt_of_lt_of_le (h1 b hb) k.next, h2, cs, (k.get p (h1 p h2) (hd p h2)).trans h3, h4⟩
theorem ImB.weak {B B' : Nat → Prop} {H : IHeap} {p : Nat} {I : Im} (h : ImB B H p I) (hb : ∀ b, B b → B' b) (hl : ∀ b, B' b → b < H.next) : ImB B' H p I := ⟨hl, hb p h.own, h.rep⟩

/-! ### leases -/
def kI (n : Int) : Value := .int .i64 n
theorem keyOf_int {P : Program} {t : TypeId} {k : IntKind} (hu : P.underlying t = some (.int k)) : KeyOf P t kI := by
  refine ⟨fun a b => ?_, fun e a => ?_, fun _ => rfl, fun a => ?_⟩
  · refine sameNow_eq hu ?_
    simp only [kI, Instr.sameNow, if_true]
    by_cases h : a = b <;> simp [h]
  · rw [show (10000 : Nat) = 9999 + 1 from rfl]
    unfold Instr.checkKey
    rw [pureRun_bind', pureRun_under hu]
    rfl
  · simp [kI, Instr.sameBits]
structure LeB (B : Nat → Prop) (H : IHeap) (p : Nat) (L : Les) : Prop where
  lt : ∀ b, B b → b < H.next
  own : B p
  rep : ∃ r, B r ∧ H.get p = some (.cells [.map (some r), .int .i64 L.tok] false) ∧ IsMap H r kI leaseV L.m
theorem LeB.fr {B C : Nat → Prop} {H H' : IHeap} {p : Nat} {L : Les} (h : LeB B H p L) (k : Fr C H H') (hd : ∀ b, B b → ¬ C b) : LeB B H' p L := by
  obtain ⟨h1, h2, r, h3, h4, h5⟩ := h
  have g := fun b hb => k.get b (h1 b hb) (hd b hb)
  exact ⟨fun b hb => Nat.lt_of_lt_of_le (h1 b hb) k.next, h2, r, h3, (g p h2).trans h4, h5.same k.next (g r h3)⟩
theorem LeB.weak {B B' : Nat → Prop} {H : IHeap} {p : Nat} {L : Les} (h : LeB B H p L) (hb : ∀ b, B b → B' b) (hl : ∀ b, B' b → b < H.next) : LeB B' H p L := by
  obtain ⟨h1, h2, r, h3, h4, h5⟩ := h
  exact ⟨hl, hb p h2, r, hb r h3, h4, h5⟩

/-! ### calls that are done once -/
/-- A client's calls: an own slice, from some place on. -/
def VE (H : IHeap) (q : Nat) (v : Value) (l : List Ent) : Prop := ∃ cs o, q < H.next ∧ v = .slice (some ⟨q, o, none⟩) l.length (UNK + 3) ∧ H.get q = some (.cells cs false) ∧ (cs.drop o).take (l.length * 3) = (l.map entL).flatten ∧ o + l.length * 3 ≤ cs.length
theorem VE.same {H H' : IHeap} {q : Nat} {v : Value} {l : List Ent} (h : VE H q v l) (hn : H.next ≤ H'.next) (hg : H'.get q = H.get q) : VE H' q v l := by
  obtain ⟨cs, o, a, b, c, d⟩ := h
  exact ⟨cs, o, Nat.lt_of_lt_of_le a hn, b, hg.trans c, d⟩
structure ReB (B : Nat → Prop) (H : IHeap) (p : Nat) (R : Rps) : Prop where
  lt : ∀ b, B b → b < H.next
  own : B p
  rep : ∃ (r : Nat) (m : Int → Option Value) (q : Int → Nat), B r ∧ H.get p = some (.cells [.int .i64 4, .map (some r)] false) ∧ IsMap H r kI (fun v => v) m ∧ (∀ k, m k = none → R k = []) ∧
    (∀ k v, m k = some v → VE H (q k) v (R k) ∧ B (q k) ∧ q k ≠ p) ∧ ∀ k k' v v', m k = some v → m k' = some v' → q k = q k' → k = k'
  ok : ∀ k, SortedE (R k) ∧ (R k).length ≤ 4 ∧ ∀ x ∈ R k, 0 ≤ x.id ∧ x.id < 2147483648
theorem ReB.fr {B C : Nat → Prop} {H H' : IHeap} {p : Nat} {R : Rps} (h : ReB B H p R) (k : Fr C H H') (hd : ∀ b, B b → ¬ C b) : ReB B H' p R := by
  obtain ⟨h1, h2, ⟨r, m, q, h3, h4, h5, h6, h7, h8⟩, h9⟩ := h
  have g := fun b hb => k.get b (h1 b hb) (hd b hb)
  exact ⟨fun b hb => Nat.lt_of_lt_of_le (h1 b hb) k.next, h2, ⟨r, m, q, h3, (g p h2).trans h4, h5.same k.next (g r h3), h6, fun k' v hv => by
    obtain ⟨a, b, d⟩ := h7 k' v hv
    exact ⟨a.same k.next (g _ b), b, d⟩, h8⟩, h9⟩
theorem ReB.weak {B B' : Nat → Prop} {H : IHeap} {p : Nat} {R : Rps} (h : ReB B H p R) (hb : ∀ b, B b → B' b) (hl : ∀ b, B' b → b < H.next) : ReB B' H p R := by
  obtain ⟨h1, h2, ⟨r, m, q, h3, h4, h5, h6, h7, h8⟩, h9⟩ := h
  exact ⟨hl, hb p h2, ⟨r, m, q, hb r h3, h4, h5, h6, fun k' v hv => by
    obtain ⟨a, b, d⟩ := h7 k' v hv
    exact ⟨a, hb _ b, d⟩, h8⟩, h9⟩

/-! ### a manager: each block has the label of whose it is -/
structure IsMg (w : Nat → Nat) (H : IHeap) (p : Nat) (S : Mst) : Prop where
  lt : ∀ b, w b ≠ 0 → b < H.next
  own : w p = 1
  rep : ∃ pg ps pi pu pl pr, H.get p = some (.cells [.pointer (some ⟨pg, 0, none⟩), .pointer (some ⟨ps, 0, none⟩), .pointer (some ⟨pi, 0, none⟩), .pointer (some ⟨pu, 0, none⟩), .pointer (some ⟨pl, 0, none⟩), .pointer (some ⟨pr, 0, none⟩), .int .i64 S.gone] false) ∧
    GrB (fun b => w b = 2) H pg S.g ∧ StB (fun b => w b = 3) H ps S.s ∧ ImB (fun b => w b = 4) H pi S.i ∧ UsB (fun b => w b = 5) H pu S.u ∧ LeB (fun b => w b = 6) H pl S.l ∧ ReB (fun b => w b = 7) H pr S.r

/-- What is new has label k. -/
def nw (w : Nat → Nat) (k : Nat) (H H' : IHeap) (b : Nat) : Nat := if H.next ≤ b ∧ b < H'.next then k else w b
theorem nw_old {w : Nat → Nat} {k : Nat} {H H' : IHeap} {b : Nat} (h : b < H.next) : nw w k H H' b = w b := if_neg (by omega)
theorem nw_oth {w : Nat → Nat} {k j : Nat} {H H' : IHeap} {b : Nat} (hl : ∀ b, w b ≠ 0 → b < H.next) (hj : j ≠ 0) (hb : w b = j) : nw w k H H' b = j := by
  rw [nw_old (hl b (by omega))]; exact hb
theorem nw_lt {w : Nat → Nat} {k : Nat} {H H' : IHeap} (hn : H.next ≤ H'.next) (hl : ∀ b, w b ≠ 0 → b < H.next) : ∀ b, nw w k H H' b ≠ 0 → b < H'.next := fun b hb => by
  unfold nw at hb
  split at hb
  · omega
  · have := hl b hb; omega
theorem nw_gw {w : Nat → Nat} {k : Nat} {H H' : IHeap} {b : Nat} (hl : ∀ b, w b ≠ 0 → b < H.next) (hk : k ≠ 0) (h : Gw (fun b => w b = k) H H' b) : nw w k H H' b = k := by
  rcases h with h | h
  · exact nw_oth hl hk h
  · exact if_pos h

end Go.Proofs.YtndndcdblfejnaaGreatRI
namespace Go.Proofs.YtndndcdblfejnaaGreatRI
attribute [local simp] J0 J1 J2 J3 J4 J5 J6 J7 J8 J9 Ja Jb Jc Jd Je Jf Jg Jh Ji Jj Jk Jl Jm Jn Jo Jp Jq Jr Js Jt Ju Jv Jw Jx Jy Jz JA JB JC JD JE JF JG JH JI JJ JK JL JM JN JO JP JQ JR JS stillI IOp.kind JT JU JV JW JX JY JZ Y0 Y1 Y2 Y3 Y4 Y5 Y6 Y7 Y8 Y9 Ya Yb Yc Yd Ye Yf Yg Yh Yi Yj Yk Yl Ym Yn Yo Yp Yq ial Yr Ys Yt Yu Yv Yw Yx Yy ires iresL ires1 Yz YA YB YC YD YE bin2 YF YG YH YI YJ YK YL YM YN YO YP YQ YR YS YT YU un1 shOk eqL eq1 fillL putAt IHeap.load1 IHeap.loadL IHeap.storeL YV YW YX YY YZ B0 B1 B2 B3 B4 B5 B6 B7 B8 B9 Ba Bb Bc Bd Be Bf Bg Bh Bi Bj Bk Bl Bm Bn Bo Bp
set_option linter.unusedSimpArgs false
set_option linter.unusedVariables false
open Go

theorem mayIn_iff {i : Int} : mayIn i = true ↔ 1 ≤ i ∧ i < 256 := by simp [mayIn]
theorem Gw.self {B : Nat → Prop} {H H' : IHeap} {b : Nat} (h : B b) : Gw B H H' b := .inl h
theorem Gw.lt {B : Nat → Prop} {H H' : IHeap} (hl : ∀ b, B b → b < H.next) (hn : H.next ≤ H'.next) : ∀ b, Gw B H H' b → b < H'.next := fun b hb => by
  rcases hb with hb | hb
  · exact Nat.lt_of_lt_of_le (hl b hb) hn
  · exact hb.2
/-- One cell of an inode's place. -/
theorem ImB.cell {B : Nat → Prop} {H : IHeap} {p : Nat} {I : Im} (h : ImB B H p I) {i : Nat} (hi : i < 256) : ∃ cs, H.get p = some (.cells cs false) ∧ cs.length = 1024 ∧ (cs.drop (i * 4)).take 4 = spotL (I i) ∧ cs[i * 4]? = some (.int .i64 (I i).seg) ∧ cs[i * 4 + 1]? = some (.int .i64 (I i).fr) ∧ cs[i * 4 + 2]? = some (.int .i64 (I i).le) ∧ cs[i * 4 + 3]? = some (.int .i64 (I i).ver) := by
  obtain ⟨cs, h1, h2, h3⟩ := h.rep
  have := h3 i hi
  exact ⟨cs, h1, h2, this, row_at this 0 (by omega), row_at this 1 (by omega), row_at this 2 (by omega), row_at this 3 (by omega)⟩
theorem ImB.put {B : Nat → Prop} {H : IHeap} {p : Nat} {I : Im} (h : ImB B H p I) {cs : List Value} (hg : H.get p = some (.cells cs false)) {i : Nat} (hi : i < 256) (x : SpotD) {H' : IHeap} (hn : H.next ≤ H'.next) (hl : ∀ b, B b → b < H'.next)
    (hg' : H'.get p = some (.cells (putAt cs (i * 4) (spotL x)) false)) : ImB B H' p (fun k => if k = (i : Int) then x else I k) := by
  obtain ⟨cs', h1, h2, h3⟩ := h.rep
  rw [hg] at h1
  simp only [Option.some.injEq, IObj.cells.injEq, and_true] at h1
  subst h1
  have hsl : (spotL x).length = 4 := rfl
  refine ⟨hl, h.own, _, hg', ?_, fun j hj => ?_⟩
  · unfold putAt
    simp only [List.length_append, List.length_take, List.length_drop, hsl]; omega
  · unfold putAt
    rw [hsl]
    by_cases hji : j = i
    · subst hji
      rw [if_pos rfl, List.append_assoc, List.drop_append, List.drop_of_length_le (by rw [List.length_take]; omega), List.length_take, Nat.min_eq_left (by omega), Nat.sub_self, List.drop_zero, List.nil_append, List.take_left' hsl]
    · rw [if_neg (by omega)]
      rw [← h3 j hj]
      apply List.ext_getElem?
      intro k
      rw [List.getElem?_take, List.getElem?_take]
      split
      · rw [List.getElem?_drop, List.getElem?_drop]
        by_cases hlt : j < i
        · rw [List.append_assoc, List.getElem?_append_left (by rw [List.length_take]; omega), List.getElem?_take, if_pos (by omega)]
        · rw [List.getElem?_append_right (by simp only [List.length_append, List.length_take, hsl]; omega), List.getElem?_drop]
          congr 1
          simp only [List.length_append, List.length_take, hsl]; omega
      · rfl
section
variable (c : Ctx) (hc : HasImap28 c) {H : IHeap} {K : Value → IHeap → Prop}
include hc

theorem INew_ok (hK : ∀ H', H.le H' → H.next < H'.next → ImB (Gw (fun _ => False) H H') H' H.next (fun _ => spot0) → K (.pointer (some ⟨H.next, 0, none⟩)) H') : c.C (c.F n_imap_New) [] H K := by
  refine c.enter hc.imap_New rfl ?_
  obtain ⟨z, hz⟩ : ∃ z, z = List.replicate 1024 (Value.int .i64 0) := ⟨_, rfl⟩
  unfold c_imap_New
  rw [← hz]
  simp -implicitDefEqProofs []
  refine hK _ (H.le_alloc _) (by simp [YX]) ⟨fun b hb => ?_, .inr ⟨Nat.le_refl _, by simp [YX]⟩, _, by rw [YV, if_pos rfl], by rw [hz, List.length_replicate], fun i hi => ?_⟩
  · rcases hb with hb | hb
    · exact hb.elim
    · exact hb.2
  · rw [hz, List.drop_replicate, List.take_replicate, Nat.min_eq_left (by omega)]; rfl
theorem Imay_ok {i : Int} (hK : K (.bool (mayIn i)) H) : c.C (c.F n_imap_may) [.int .i64 i] H K := by
  refine c.enter hc.imap_may rfl ?_
  have e : mayIn i = (decide (1 ≤ i) && decide (i < 256)) := rfl
  by_cases h1 : 1 ≤ i
  · simp -implicitDefEqProofs [c_imap_may, h1]
    rw [e] at hK; simpa [h1] using hK
  · simp -implicitDefEqProofs [c_imap_may, h1]
    rw [e] at hK; simpa [h1] using hK
theorem Ispot_ok {x : SpotD} (hK : ∀ H', H.le H' → K (.bool (maySp x)) H') : c.C (c.F n_imap_spot) [spotV x] H K := by
  refine c.enter hc.imap_spot rfl ?_
  unfold spotV
  unfold maySp at hK
  by_cases h1 : 0 ≤ x.seg
  · by_cases h2 : x.seg < 4096
    · by_cases h3 : 0 ≤ x.fr
      · by_cases h4 : x.fr ≤ 65536
        · by_cases h5 : 0 ≤ x.le
          · simp -implicitDefEqProofs [c_imap_spot, h1, h2, h3, h4, h5]
            simp only [h1, h2, h3, h4, h5, decide_true, Bool.true_and] at hK
            exact hK _ (by (repeat' first | exact IHeap.le_refl _ | assumption | apply IHeap.le.alloc | (refine IHeap.le.set ?_ (by (try simp only [YX, YY]); omega) _) | (refine IHeap.le.trans ?_ (by assumption))))
          · simp -implicitDefEqProofs [c_imap_spot, h1, h2, h3, h4, h5]
            simp only [h1, h2, h3, h4, h5, decide_true, decide_false, Bool.true_and, Bool.false_and] at hK
            exact hK _ (by (repeat' first | exact IHeap.le_refl _ | assumption | apply IHeap.le.alloc | (refine IHeap.le.set ?_ (by (try simp only [YX, YY]); omega) _) | (refine IHeap.le.trans ?_ (by assumption))))
        · simp -implicitDefEqProofs [c_imap_spot, h1, h2, h3, h4]
          simp only [h1, h2, h3, h4, decide_true, decide_false, Bool.true_and, Bool.false_and] at hK
          exact hK _ (by (repeat' first | exact IHeap.le_refl _ | assumption | apply IHeap.le.alloc | (refine IHeap.le.set ?_ (by (try simp only [YX, YY]); omega) _) | (refine IHeap.le.trans ?_ (by assumption))))
      · simp -implicitDefEqProofs [c_imap_spot, h1, h2, h3]
        simp only [h1, h2, h3, decide_true, decide_false, Bool.true_and, Bool.false_and] at hK
        exact hK _ (by (repeat' first | exact IHeap.le_refl _ | assumption | apply IHeap.le.alloc | (refine IHeap.le.set ?_ (by (try simp only [YX, YY]); omega) _) | (refine IHeap.le.trans ?_ (by assumption))))
    · simp -implicitDefEqProofs [c_imap_spot, h1, h2]
      simp only [h1, h2, decide_true, decide_false, Bool.true_and, Bool.false_and] at hK
      exact hK _ (by (repeat' first | exact IHeap.le_refl _ | assumption | apply IHeap.le.alloc | (refine IHeap.le.set ?_ (by (try simp only [YX, YY]); omega) _) | (refine IHeap.le.trans ?_ (by assumption))))
  · simp -implicitDefEqProofs [c_imap_spot, h1]
    simp only [h1, decide_true, decide_false, Bool.true_and, Bool.false_and] at hK
    exact hK _ (by (repeat' first | exact IHeap.le_refl _ | assumption | apply IHeap.le.alloc | (refine IHeap.le.set ?_ (by (try simp only [YX, YY]); omega) _) | (refine IHeap.le.trans ?_ (by assumption))))
theorem IGet_ok {B : Nat → Prop} {p : Nat} {I : Im} {i : Int} (h : ImB B H p I) (hK : ∀ H', H.le H' → K (.tuple #[spotV (imGet I i).1, .bool (imGet I i).2]) H') : c.C (c.F n_imap_Map_Get) [.pointer (some ⟨p, 0, none⟩), .int .i64 i] H K := by
  refine c.enter hc.imap_Map_Get rfl ?_
  unfold imGet at hK
  have hp := h.lt p h.own
  simp -implicitDefEqProofs [c_imap_Map_Get, nilOf]
  refine call_of (Imay_ok c hc ?_)
  cases hm : mayIn i with
  | false =>
    rw [if_pos (.inl hm)] at hK
    simp -implicitDefEqProofs []
    exact hK _ (by (repeat' first | exact IHeap.le_refl _ | assumption | apply IHeap.le.alloc | (refine IHeap.le.set ?_ (by (try simp only [YX, YY]); omega) _) | (refine IHeap.le.trans ?_ (by assumption))))
  | true =>
    have hi := mayIn_iff.1 hm
    obtain ⟨n, rfl⟩ : ∃ n : Nat, i = n := ⟨i.toNat, by omega⟩
    obtain ⟨cs, g1, g2, g3, g4, g5, g6, g7⟩ := h.cell (i := n) (by omega)
    have hne : p ≠ H.next := by omega
    have hlt : n < 256 := by omega
    have hltI : (n : Int) < 256 := hi.2
    by_cases hv : (I n).ver = 0
    · rw [if_pos (.inr hv)] at hK
      simp -implicitDefEqProofs [hlt, hltI, g1, g7, hne, hv]
      exact hK _ (by (repeat' first | exact IHeap.le_refl _ | assumption | apply IHeap.le.alloc | (refine IHeap.le.set ?_ (by (try simp only [YX, YY]); omega) _) | (refine IHeap.le.trans ?_ (by assumption))))
    · rw [if_neg (by simp [hm, hv])] at hK
      have hl4 : n * 4 + 4 ≤ cs.length := by omega
      simp -implicitDefEqProofs [hlt, hltI, g1, g7, hne, hv, hl4, g3, spotL]
      exact hK _ (by (repeat' first | exact IHeap.le_refl _ | assumption | apply IHeap.le.alloc | (refine IHeap.le.set ?_ (by (try simp only [YX, YY]); omega) _) | (refine IHeap.le.trans ?_ (by assumption))))
theorem IMove_ok {B : Nat → Prop} {p : Nat} {I : Im} {i v : Int} {x : SpotD} (h : ImB B H p I) (hb : ∀ k, 0 ≤ (I k).ver ∧ (I k).ver ≤ 1000000000)
    (hK : ∀ H', Fr B H H' → ImB B H' p (imMove I i v x).1 → K (.tuple #[.int .i64 (imMove I i v x).2.1, .int .i64 (imMove I i v x).2.2]) H') : c.C (c.F n_imap_Map_Move) [.pointer (some ⟨p, 0, none⟩), .int .i64 i, .int .i64 v, spotV x] H K := by
  refine c.enter hc.imap_Map_Move rfl ?_
  unfold imMove at hK
  have hp := h.lt p h.own
  have bx : H.le (H.alloc (.cells (spotL x) false)) := H.le_alloc _
  simp -implicitDefEqProofs [c_imap_Map_Move, nilOf, spotV]
  refine call_of (Imay_ok c hc ?_)
  cases hm : mayIn i with
  | false =>
    rw [if_pos (.inl hm)] at hK
    simp -implicitDefEqProofs []
    exact hK _ (bx.fr B) (h.fr (bx.fr fun _ => False) fun _ _ h => h)
  | true =>
    have hi := mayIn_iff.1 hm
    obtain ⟨n, rfl⟩ : ∃ n : Nat, i = n := ⟨i.toNat, by omega⟩
    obtain ⟨cs, g1, g2, g3, g4, g5, g6, g7⟩ := h.cell (i := n) (by omega)
    have hne : p ≠ H.next := by omega
    have hne' : H.next ≠ p := by omega
    have hlt : n < 256 := by omega
    have hltI : (n : Int) < 256 := hi.2
    simp -implicitDefEqProofs []
    refine call_of (Ispot_ok c hc fun H1 k1 => ?_)
    have f1 := (bx.trans k1).fr B
    have h1 := h.fr ((bx.trans k1).fr fun _ => False) fun _ _ h => h
    have a1 : H1.get p = some (.cells cs false) := ((bx.trans k1).get p hp).trans g1
    have a2 : H1.get H.next = some (.cells (spotL x) false) := (k1.get H.next (by simp [YX])).trans (by rw [YV, if_pos rfl]; rfl)
    cases hs : maySp x with
    | false =>
      rw [if_pos (.inr hs)] at hK
      simp -implicitDefEqProofs []
      exact hK _ f1 h1
    | true =>
      rw [if_neg (by simp [hm, hs])] at hK
      by_cases hv : (I n).ver = v
      · rw [if_neg (by simp [hv])] at hK
        have hl4 : n * 4 + 4 ≤ cs.length := by omega
        have hbv := hb n
        have hw : IntKind.i64.wrap (v + 1) = v + 1 := wrap64 (by omega) (by omega)
        have hp1 : p < H1.next := Nat.lt_of_lt_of_le hp (bx.trans k1).next
        obtain ⟨A, hA⟩ : ∃ A, A = putAt cs (n * 4) [.int .i64 x.seg, .int .i64 x.fr, .int .i64 x.le, .int .i64 x.ver] := ⟨_, rfl⟩
        have lA : A.length = 1024 := by rw [hA]; unfold putAt; simp; omega
        obtain ⟨A2, hA2⟩ : ∃ A2, A2 = putAt A (n * 4 + 3) [.int .i64 (v + 1)] := ⟨_, rfl⟩
        have lA2 : A2.length = 1024 := by rw [hA2]; unfold putAt; simp; omega
        have eA2 : A2 = putAt cs (n * 4) (spotL { x with ver := v + 1 }) := by
          rw [hA2, hA]
          unfold putAt spotL
          simp only [List.length_cons, List.length_nil, Nat.zero_add]
          obtain ⟨X, hX⟩ : ∃ X, X = List.take (n * 4) cs := ⟨_, rfl⟩
          have t1 : X.length = n * 4 := by rw [hX, List.length_take]; omega
          rw [← hX, ← t1]
          have q : ∀ k, X.length + k - X.length = k := fun k => by omega
          have r : ∀ k, List.drop (X.length + k) X = [] := fun k => List.drop_of_length_le (by omega)
          have u : ∀ k, List.take (X.length + k) X = X := fun k => List.take_of_length_le (by omega)
          simp [List.take_append, List.drop_append, Nat.add_assoc, q, r, u]
        have gv : A2[n * 4 + 3]? = some (.int .i64 (v + 1)) := by
          have : (putAt A (n * 4 + 3) [Value.int .i64 (v + 1)]) = A.set (n * 4 + 3) (.int .i64 (v + 1)) := putAt_one (by omega)
          rw [hA2, this, List.getElem?_set_self (by omega)]
        have hl1 : n * 4 + 3 + 1 ≤ 1024 := by omega
        simp -implicitDefEqProofs [hlt, hltI, a1, a2, g7, hne, hne', hv, hl4, spotL, -putAt, ← hA, lA, ← hA2, lA2, gv, hw, hl1]
        obtain ⟨H2, hH2⟩ : ∃ X : IHeap, X = (H1.set p (.cells A false)).set p (.cells A2 false) := ⟨_, rfl⟩
        rw [← hH2]
        have fs : Fr B H H2 := by rw [hH2]; exact (f1.set (.inl h.own) _).set (.inl h.own) _
        refine hK _ fs (h1.put a1 (by omega) _ (by rw [hH2]; simp [YY]) (fun b hb => Nat.lt_of_lt_of_le (h.lt b hb) fs.next) ?_)
        rw [hH2, YW, if_pos rfl, eA2]
      · rw [if_pos hv] at hK
        simp -implicitDefEqProofs [hlt, hltI, a1, a2, g7, hne, hne', hv, spotL]
        exact hK _ f1 h1
end
end Go.Proofs.YtndndcdblfejnaaGreatRI
namespace Go.Proofs.YtndndcdblfejnaaGreatRI
attribute [local simp] J0 J1 J2 J3 J4 J5 J6 J7 J8 J9 Ja Jb Jc Jd Je Jf Jg Jh Ji Jj Jk Jl Jm Jn Jo Jp Jq Jr Js Jt Ju Jv Jw Jx Jy Jz JA JB JC JD JE JF JG JH JI JJ JK JL JM JN JO JP JQ JR JS stillI IOp.kind JT JU JV JW JX JY JZ Y0 Y1 Y2 Y3 Y4 Y5 Y6 Y7 Y8 Y9 Ya Yb Yc Yd Ye Yf Yg Yh Yi Yj Yk Yl Ym Yn Yo Yp Yq ial Yr Ys Yt Yu Yv Yw Yx Yy ires iresL ires1 Yz YA YB YC YD YE bin2 YF YG YH YI YJ YK YL YM YN YO YP YQ YR YS YT YU un1 shOk eqL eq1 fillL putAt IHeap.load1 IHeap.loadL IHeap.storeL YV YW YX YY YZ B0 B1 B2 B3 B4 B5 B6 B7 B8 B9 Ba Bb Bc Bd Be Bf Bg Bh Bi Bj Bk Bl Bm Bn Bo Bp
set_option linter.unusedSimpArgs false
set_option linter.unusedVariables false
open Go

theorem mayLe_iff {i cl now tk : Int} : mayLe i cl now tk = true ↔ 1 ≤ i ∧ i < 256 ∧ 0 ≤ cl ∧ cl < 16 ∧ 0 ≤ now ∧ now ≤ 1099511627776 ∧ 1 ≤ tk ∧ tk ≤ 1000000 := by simp [mayLe]
section
variable (c : Ctx) (hc : HasImap28 c) (hT : KeyOf c.P (c.Ty 2) kI) {H : IHeap} {K : Value → IHeap → Prop}

include hc in
theorem LeNew_ok (hK : ∀ p H', H.le H' → H.next ≤ p → LeB (Gw (fun _ => False) H H') H' p ⟨fun _ => none, 0⟩ → K (.pointer (some ⟨p, 0, none⟩)) H') : c.C (c.F n_lease_New) [] H K := by
  refine c.enter hc.lease_New rfl ?_
  simp -implicitDefEqProofs [c_lease_New]
  refine hK _ _ ((H.le_alloc _).trans (IHeap.le_alloc _ _)) (by simp [YX]) ⟨fun b hb => ?_, .inr ⟨by simp [YX], by simp [YX]⟩, H.next, .inr ⟨by simp, by simp [YX]; omega⟩, by simp [YV, YX], (IsMap.new H kI leaseV).le (IHeap.le_alloc _ _)⟩
  rcases hb with hb | hb
  · exact hb.elim
  · exact hb.2
include hc hT in
theorem LeGrant_ok {B : Nat → Prop} {p : Nat} {L : Les} {i cl now tk : Int} (h : LeB B H p L) (hb : 0 ≤ L.tok ∧ L.tok ≤ 1000000000) (hu : ∀ k x, L.m k = some x → 0 ≤ x.un ∧ x.un ≤ 1099512627776)
    (hK : ∀ H', Fr B H H' → LeB B H' p (leGrant L i cl now tk).1 → K (.tuple #[leaseV (leGrant L i cl now tk).2.1, .int .i64 (leGrant L i cl now tk).2.2]) H') : c.C (c.F n_lease_Leases_Grant) [.pointer (some ⟨p, 0, none⟩), .int .i64 i, .int .i64 cl, .int .i64 now, .int .i64 tk] H K := by
  refine c.enter hc.lease_Leases_Grant rfl ?_
  have hp := h.lt p h.own
  have bx := H.le_alloc (.cells [.int .i64 0, .int .i64 0, .int .i64 0, .int .i64 0] false)
  have f0 := bx.fr B
  have h0 := h.fr (bx.fr fun _ => False) fun _ _ h => h
  obtain ⟨r, br, g1, g2⟩ := h0.rep
  have hne : p ≠ H.next := by omega
  have hne' : H.next ≠ p := by omega
  have hpr : p ≠ r := g2.ne_cells g1
  have hrl := h.lt r br
  obtain ⟨H0, hH0⟩ : ∃ X : IHeap, X = H.alloc (.cells [.int .i64 0, .int .i64 0, .int .i64 0, .int .i64 0] false) := ⟨_, rfl⟩
  have n0 : H0.next = H.next + 1 := by rw [hH0]; rfl
  have g0 : H0.get H.next = some (.cells [.int .i64 0, .int .i64 0, .int .i64 0, .int .i64 0] false) := by rw [hH0, YV, if_pos rfl]
  rw [← hH0] at bx f0 h0 g1 g2
  have bad : mayLe i cl now tk = false → ∀ H', H.le H' → K (.tuple #[leaseV lease0, .int .i64 1]) H' := fun hm H' hl => by
    unfold leGrant at hK
    rw [if_pos hm] at hK
    exact hK _ (hl.fr B) (h.fr (hl.fr fun _ => False) fun _ _ h => h)
  have key : mayLe i cl now tk = true ∨ mayLe i cl now tk = false := by cases mayLe i cl now tk <;> simp
  have e : mayLe i cl now tk = (decide (1 ≤ i) && (decide (i < 256) && (decide (0 ≤ cl) && (decide (cl < 16) && (decide (0 ≤ now) && (decide (now ≤ 1099511627776) && (decide (1 ≤ tk) && decide (tk ≤ 1000000)))))))) := rfl
  unfold leaseV at bad
  unfold lease0 at bad
  by_cases a1 : i < 1
  · simp -implicitDefEqProofs [c_lease_Leases_Grant, nilOf, a1]
    exact bad (by rw [e]; simp; omega) _ (by (repeat' first | exact IHeap.le_refl _ | assumption | apply IHeap.le.alloc | (refine IHeap.le.set ?_ (by (try simp only [YX, YY]); omega) _) | (refine IHeap.le.trans ?_ (by assumption))))
  by_cases a2 : 256 ≤ i
  · simp -implicitDefEqProofs [c_lease_Leases_Grant, nilOf, a1, a2]
    exact bad (by rw [e]; simp; omega) _ (by (repeat' first | exact IHeap.le_refl _ | assumption | apply IHeap.le.alloc | (refine IHeap.le.set ?_ (by (try simp only [YX, YY]); omega) _) | (refine IHeap.le.trans ?_ (by assumption))))
  by_cases a3 : cl < 0
  · simp -implicitDefEqProofs [c_lease_Leases_Grant, nilOf, a1, a2, a3]
    exact bad (by rw [e]; simp; omega) _ (by (repeat' first | exact IHeap.le_refl _ | assumption | apply IHeap.le.alloc | (refine IHeap.le.set ?_ (by (try simp only [YX, YY]); omega) _) | (refine IHeap.le.trans ?_ (by assumption))))
  by_cases a4 : 16 ≤ cl
  · simp -implicitDefEqProofs [c_lease_Leases_Grant, nilOf, a1, a2, a3, a4]
    exact bad (by rw [e]; simp; omega) _ (by (repeat' first | exact IHeap.le_refl _ | assumption | apply IHeap.le.alloc | (refine IHeap.le.set ?_ (by (try simp only [YX, YY]); omega) _) | (refine IHeap.le.trans ?_ (by assumption))))
  by_cases a5 : now < 0
  · simp -implicitDefEqProofs [c_lease_Leases_Grant, nilOf, a1, a2, a3, a4, a5]
    exact bad (by rw [e]; simp; omega) _ (by (repeat' first | exact IHeap.le_refl _ | assumption | apply IHeap.le.alloc | (refine IHeap.le.set ?_ (by (try simp only [YX, YY]); omega) _) | (refine IHeap.le.trans ?_ (by assumption))))
  by_cases a6 : 1099511627776 < now
  · simp -implicitDefEqProofs [c_lease_Leases_Grant, nilOf, a1, a2, a3, a4, a5, a6]
    exact bad (by rw [e]; simp; omega) _ (by (repeat' first | exact IHeap.le_refl _ | assumption | apply IHeap.le.alloc | (refine IHeap.le.set ?_ (by (try simp only [YX, YY]); omega) _) | (refine IHeap.le.trans ?_ (by assumption))))
  by_cases a7 : tk < 1
  · simp -implicitDefEqProofs [c_lease_Leases_Grant, nilOf, a1, a2, a3, a4, a5, a6, a7]
    exact bad (by rw [e]; simp; omega) _ (by (repeat' first | exact IHeap.le_refl _ | assumption | apply IHeap.le.alloc | (refine IHeap.le.set ?_ (by (try simp only [YX, YY]); omega) _) | (refine IHeap.le.trans ?_ (by assumption))))
  by_cases a8 : 1000000 < tk
  · simp -implicitDefEqProofs [c_lease_Leases_Grant, nilOf, a1, a2, a3, a4, a5, a6, a7, a8]
    exact bad (by rw [e]; simp; omega) _ (by (repeat' first | exact IHeap.le_refl _ | assumption | apply IHeap.le.alloc | (refine IHeap.le.set ?_ (by (try simp only [YX, YY]); omega) _) | (refine IHeap.le.trans ?_ (by assumption))))
  have hm : mayLe i cl now tk = true := mayLe_iff.2 ⟨by omega, by omega, by omega, by omega, by omega, by omega, by omega, by omega⟩
  unfold leGrant at hK
  rw [if_neg (by rw [hm]; simp)] at hK
  have hw : IntKind.i64.wrap (now + tk) = now + tk := wrap64 (by omega) (by omega)
  have hw1 : IntKind.i64.wrap (L.tok + 1) = L.tok + 1 := wrap64 (by omega) (by omega)
  obtain ⟨x, hx⟩ : ∃ x, x = (L.m i).getD lease0 := ⟨_, rfl⟩
  rw [← hx] at hK
  have hlk : lookR c.P H0 (c.Ty 2) (.agg #[.int .i64 0, .int .i64 0, .int .i64 0, .int .i64 0]) false (.map (some r)) (.int .i64 i) = some (leaseV x) := by
    have := g2.look hT i (.agg #[.int .i64 0, .int .i64 0, .int .i64 0, .int .i64 0]) false
    simp only [kI] at this
    rw [this, hx]
    cases L.m i <;> rfl
  simp only [leaseV] at hlk
  have hxu : 0 ≤ x.un ∧ x.un ≤ 1099512627776 := by
    rw [hx]
    cases hq : L.m i with
    | none => simp [lease0]
    | some y => exact hu i y hq
  obtain ⟨HB, hHB⟩ : ∃ X : IHeap, X = (H0.alloc (.cells [.int .i64 0, .int .i64 0, .int .i64 0, .int .i64 0] false)).set (H.next + 1) (.cells [.int .i64 x.ino, .int .i64 x.cl, .int .i64 x.un, .int .i64 x.tk] false) := ⟨_, rfl⟩
  have kB : H0.le HB := by rw [hHB]; exact (H0.le_alloc _).set (by omega) _
  have nB : HB.next = H.next + 2 := by rw [hHB, YY, YX]; omega
  have gx : HB.get (H.next + 1) = some (.cells [.int .i64 x.ino, .int .i64 x.cl, .int .i64 x.un, .int .i64 x.tk] false) := by rw [hHB, YW, if_pos rfl]
  have gz : HB.get H.next = some (.cells [.int .i64 0, .int .i64 0, .int .i64 0, .int .i64 0] false) := (kB.get _ (by omega)).trans g0
  have gp : HB.get p = some (.cells [.map (some r), .int .i64 L.tok] false) := (kB.get _ (by omega)).trans g1
  have gm : IsMap HB r kI leaseV L.m := g2.le kB
  have fB : Fr B H HB := f0.trans_le kB
  have hne2 : p ≠ H.next + 1 := by omega
  have hne3 : H.next + 1 ≠ p := by omega
  have hne4 : H.next + 1 ≠ r := by omega
  have hne5 : H.next ≠ r := by omega
  have hrp : r ≠ p := fun e => hpr e.symm
  simp -implicitDefEqProofs [c_lease_Leases_Grant, nilOf, a1, a2, a3, a4, a5, a6, a7, a8, ← hH0, n0, g1, hlk, hw, ← hHB, -J5]
  by_cases b1 : x.un ≤ now
  · rw [if_pos b1] at hK
    obtain ⟨HD, hHD⟩ : ∃ X : IHeap, X = (HB.set p (.cells [.map (some r), .int .i64 (L.tok + 1)] false)).set (H.next + 1) (.cells [.int .i64 i, .int .i64 cl, .int .i64 (now + tk), .int .i64 (L.tok + 1)] false) := ⟨_, rfl⟩
    have gm2 : IsMap HD r kI leaseV L.m := gm.same (by rw [hHD]; simp [YY]) (by rw [hHD, YW, if_neg (fun e => hne4 e.symm), YW, if_neg hrp])
    obtain ⟨o, e1, e2⟩ := gm2.put hT i ⟨i, cl, now + tk, L.tok + 1⟩
    simp only [kI, leaseV] at e1
    have d1 : HD.get p = some (.cells [.map (some r), .int .i64 (L.tok + 1)] false) := by rw [hHD, YW, if_neg hne2, YW, if_pos rfl]
    have d2 : HD.get (H.next + 1) = some (.cells [.int .i64 i, .int .i64 cl, .int .i64 (now + tk), .int .i64 (L.tok + 1)] false) := by rw [hHD, YW, if_pos rfl]
    have d3 : HD.get H.next = some (.cells [.int .i64 0, .int .i64 0, .int .i64 0, .int .i64 0] false) := by rw [hHD, YW, if_neg (by omega), YW, if_neg hne', gz]
    have fD : Fr B H HD := by rw [hHD]; exact (fB.set (.inl h.own) _).set (.inr (by omega)) _
    simp -implicitDefEqProofs [b1, gx, gp, hne, hne', hne2, hne3, hpr, n0, hw1, ← hHD, d1, d2, d3, e1, hne4, hne5]
    have fE := (fD.set (.inl br) o).set (i := H.next) (.inr (Nat.le_refl _)) (.cells [.int .i64 i, .int .i64 cl, .int .i64 (now + tk), .int .i64 (L.tok + 1)] false)
    refine hK _ fE ⟨fun b hb => Nat.lt_of_lt_of_le (h.lt b hb) fE.next, h.own, r, br, ?_, e2.same (by simp [YY]) (by rw [YW, if_neg (fun e => hne5 e.symm)])⟩
    rw [YW, if_neg hne, YW, if_neg hpr, d1]
  rw [if_neg b1] at hK
  by_cases b2 : x.cl = cl
  · subst b2
    rw [if_neg (by simp)] at hK
    obtain ⟨HD, hHD⟩ : ∃ X : IHeap, X = HB.set (H.next + 1) (.cells [.int .i64 x.ino, .int .i64 x.cl, .int .i64 (if x.un < now + tk then now + tk else x.un), .int .i64 x.tk] false) := ⟨_, rfl⟩
    have gm2 : IsMap HD r kI leaseV L.m := gm.same (by rw [hHD]; simp [YY]) (by rw [hHD, YW, if_neg (fun e => hne4 e.symm)])
    obtain ⟨o, e1, e2⟩ := gm2.put hT i { x with un := if x.un < now + tk then now + tk else x.un }
    simp only [kI, leaseV] at e1
    have d1 : HD.get p = some (.cells [.map (some r), .int .i64 L.tok] false) := by rw [hHD, YW, if_neg hne2, gp]
    have d2 : HD.get (H.next + 1) = some (.cells [.int .i64 x.ino, .int .i64 x.cl, .int .i64 (if x.un < now + tk then now + tk else x.un), .int .i64 x.tk] false) := by rw [hHD, YW, if_pos rfl]
    have d3 : HD.get H.next = some (.cells [.int .i64 0, .int .i64 0, .int .i64 0, .int .i64 0] false) := by rw [hHD, YW, if_neg (by omega), gz]
    have fD : Fr B H HD := by rw [hHD]; exact fB.set (.inr (by omega)) _
    simp -implicitDefEqProofs [b1, gx, gp, hne, hne', hne2, hne3, hpr, n0, ← hHD, d1, d2, d3, e1, hne4, hne5]
    have fE := (fD.set (.inl br) o).set (i := H.next) (.inr (Nat.le_refl _)) (.cells [.int .i64 x.ino, .int .i64 x.cl, .int .i64 (if x.un < now + tk then now + tk else x.un), .int .i64 x.tk] false)
    simp only [leaseV] at hK
    refine hK _ fE ⟨fun b hb => Nat.lt_of_lt_of_le (h.lt b hb) fE.next, h.own, r, br, ?_, e2.same (by simp [YY]) (by rw [YW, if_neg (fun e => hne5 e.symm)])⟩
    rw [YW, if_neg hne, YW, if_neg hpr, d1]
  · rw [if_pos b2] at hK
    simp -implicitDefEqProofs [b1, b2, n0, gx, gz]
    have kH := (bx.trans kB).set (Nat.le_refl _) (.cells [.int .i64 0, .int .i64 0, .int .i64 0, .int .i64 0] false)
    exact hK _ (kH.fr B) (h.fr (kH.fr fun _ => False) fun _ _ h => h)
include hc hT in
theorem LeDrop_ok {B : Nat → Prop} {p : Nat} {L : Les} {i cl tk : Int} (h : LeB B H p L)
    (hK : ∀ H', Fr B H H' → LeB B H' p (leDrop L i cl tk).1 → K (.int .i64 (leDrop L i cl tk).2) H') : c.C (c.F n_lease_Leases_Drop) [.pointer (some ⟨p, 0, none⟩), .int .i64 i, .int .i64 cl, .int .i64 tk] H K := by
  refine c.enter hc.lease_Leases_Drop rfl ?_
  have hp := h.lt p h.own
  obtain ⟨r, br, g1, g2⟩ := h.rep
  have hpr : p ≠ r := g2.ne_cells g1
  have hrp : r ≠ p := fun e => hpr e.symm
  have hrl := h.lt r br
  have hlk : ∀ z, lookR c.P H (c.Ty 2) z true (.map (some r)) (.int .i64 i) = some (match L.m i with | some x => .tuple #[leaseV x, .bool true] | none => .tuple #[z, .bool false]) := fun z => by
    have := g2.look hT i z true
    simp only [kI] at this
    rw [this]
    cases L.m i <;> rfl
  unfold leDrop at hK
  cases hx : L.m i with
  | none =>
    simp only [hx] at hK hlk
    simp -implicitDefEqProofs [c_lease_Leases_Drop, nilOf, g1, hlk]
    have k1 : H.le ((H.alloc (.cells [.int .i64 0, .int .i64 0, .int .i64 0, .int .i64 0] false)).set H.next (.cells [.int .i64 0, .int .i64 0, .int .i64 0, .int .i64 0] false)) := (H.le_alloc _).set (Nat.le_refl _) _
    exact hK _ (k1.fr B) (h.fr (k1.fr fun _ => False) fun _ _ h => h)
  | some x =>
    simp only [hx, leaseV] at hK hlk
    obtain ⟨HB, hHB⟩ : ∃ X : IHeap, X = (H.alloc (.cells [.int .i64 0, .int .i64 0, .int .i64 0, .int .i64 0] false)).set H.next (.cells [.int .i64 x.ino, .int .i64 x.cl, .int .i64 x.un, .int .i64 x.tk] false) := ⟨_, rfl⟩
    have kB : H.le HB := by rw [hHB]; exact (H.le_alloc _).set (Nat.le_refl _) _
    have gx : HB.get H.next = some (.cells [.int .i64 x.ino, .int .i64 x.cl, .int .i64 x.un, .int .i64 x.tk] false) := by rw [hHB, YW, if_pos rfl]
    have gp : HB.get p = some (.cells [.map (some r), .int .i64 L.tok] false) := (kB.get _ hp).trans g1
    have gm : IsMap HB r kI leaseV L.m := g2.le kB
    by_cases hq : x = ⟨i, cl, x.un, tk⟩
    · rw [if_pos hq] at hK
      have q1 : x.ino = i := congrArg LeaseD.ino hq
      have q2 : x.cl = cl := congrArg LeaseD.cl hq
      have q3 : x.tk = tk := congrArg LeaseD.tk hq
      obtain ⟨o, e1, e2⟩ := gm.del hT i
      simp only [kI] at e1
      clear hq
      subst q1 q2 q3
      simp -implicitDefEqProofs [c_lease_Leases_Drop, nilOf, g1, hlk, ← hHB, gx, gp, e1, hpr]
      have fE := (kB.fr B).set (.inl br) o
      refine hK _ fE ⟨fun b hb => Nat.lt_of_lt_of_le (h.lt b hb) fE.next, h.own, r, br, ?_, e2⟩
      rw [YW, if_neg hpr, gp]
    · rw [if_neg hq] at hK
      have hne : ¬ (x.ino = i ∧ x.cl = cl ∧ x.tk = tk) := fun e => hq (by cases x; simp at e ⊢; exact e)
      have hne2 : (!decide (x.ino = i) || (!decide (x.cl = cl) || !decide (x.tk = tk))) = true := by
        by_cases z1 : x.ino = i <;> by_cases z2 : x.cl = cl <;> by_cases z3 : x.tk = tk <;> simp_all
      simp -implicitDefEqProofs [c_lease_Leases_Drop, nilOf, g1, hlk, ← hHB, gx, gp, hne2]
      exact hK _ (kB.fr B) (h.fr (kB.fr fun _ => False) fun _ _ h => h)
end
end Go.Proofs.YtndndcdblfejnaaGreatRI
namespace Go.Proofs.YtndndcdblfejnaaGreatRI
set_option linter.unusedSimpArgs false
set_option linter.unusedVariables false
open Go

/-- What slices.Insert does. -/
def InsOkE (c : Ctx) : Prop := ∀ (H : IHeap) (K : Value → IHeap → Prop) (q vb i : Nat) (u : Value) (L : List Ent) (x : Ent), (VE H q u L ∨ (L = [] ∧ u = .slice none 0 0)) →
  H.get vb = some (.cells (entL x) false) → vb < H.next → vb ≠ q → i ≤ L.length → L.length ≤ 1000000 →
  (∀ q' H', IHeap.upd [q] H H' → H.next ≤ q' → VE H' q' (.slice (some ⟨q', 0, none⟩) (L.length + 1) (UNK + 3)) (L.take i ++ x :: L.drop i) → K (.slice (some ⟨q', 0, none⟩) (L.length + 1) (UNK + 3)) H') →
  c.C (c.F n_slices_Insert_replies_entry_replies_entry) [u, .int .i64 i, .slice (some ⟨vb, 0, none⟩) 1 1] H K
theorem ents_len (L : List Ent) : ((L.map entL).flatten).length = L.length * 3 := by
  induction L with
  | nil => rfl
  | cons x L ih => rw [List.map_cons, List.flatten_cons, List.length_append, ih, List.length_cons]; show 3 + _ = _; omega
theorem ents_one (L : List Ent) : ((L.map entL).flatten).all one1 = true := by
  rw [List.all_eq_true]
  intro x hx
  obtain ⟨r, hr, hx⟩ := List.mem_flatten.1 hx
  obtain ⟨v, _, rfl⟩ := List.mem_map.1 hr
  simp only [entL, List.mem_cons, List.not_mem_nil, or_false] at hx
  rcases hx with rfl | rfl | rfl <;> rfl

section
variable (c c0 : Ctx) (hc : HasRepl28 c0) (hO : ∀ (H : IHeap) (K : Value → IHeap → Prop) (b1 o1 n1 c1 b2 o2 n2 c2 : Nat) (cs1 cs2 : List Value), b1 ≠ b2 → 0 < n1 → 0 < n2 → H.get b1 = some (.cells cs1 false) → H.get b2 = some (.cells cs2 false) → o1 ≤ cs1.length → cs2 ≠ [] → K (.bool false) H →
  c0.C (c0.F 383) [.slice (some ⟨b1, o1, none⟩) n1 c1, .slice (some ⟨b2, o2, none⟩) n2 c2] H K)
  (hX : ∀ (s : Value) (r : List Value) (H : IHeap) (K : Value → IHeap → Prop), Reveal H 3 s (fun u H0 => Rebase H0 u fun t H1 => c0.C (c0.F n_slices_Insert_replies_entry_replies_entry) (t :: r) H1 fun v H2 => Hide H2 3 v K) → c.C (c.F n_slices_Insert_replies_entry_replies_entry) (s :: r) H K)

include hc hO hX in
theorem InsE_ok : InsOkE c := by
  intro H K q vb i u L x hu hv hvl hne hi hl hK
  refine hX u _ H K ?_
  have hlen : (L.take i ++ x :: L.drop i).length = L.length + 1 := by simp; omega
  have hflat : ((L.take i ++ x :: L.drop i).map entL).flatten = ((L.take i).map entL).flatten ++ entL x ++ ((L.drop i).map entL).flatten := by rw [List.map_append, List.map_cons, List.flatten_append, List.flatten_cons, List.append_assoc]
  have hspl : (L.map entL).flatten = ((L.take i).map entL).flatten ++ ((L.drop i).map entL).flatten := by rw [← List.flatten_append, ← List.map_append, List.take_append_drop]
  have hA : (((L.take i).map entL).flatten).length = i * 3 := by rw [ents_len, List.length_take]; omega
  have hB : (((L.drop i).map entL).flatten).length = (L.length - i) * 3 := by rw [ents_len, List.length_drop]
  have hn : (entL x).length = 3 := rfl
  have hn1 : (entL x).all one1 = true := rfl
  have hall : (((L.take i).map entL).flatten ++ entL x ++ ((L.drop i).map entL).flatten).length = (L.length + 1) * 3 := by simp only [List.length_append]; omega
  rcases hu with ⟨cs, o, hq, rfl, hg, hcs, hcl⟩ | ⟨rfl, rfl⟩
  · refine .inr ⟨q, o, L.length, cs, rfl, hg, fun cp junk hcp hcu hroom => .inr ⟨H.next, o, L.length, cp, cs ++ junk, rfl, hcu, by rw [YV, YY, if_pos rfl], by rw [List.length_append]; omega, ?_⟩⟩
    obtain ⟨HR, hHR⟩ : ∃ X : IHeap, X = (((H.set q .dead).alloc (.cells (cs ++ junk) false)).set H.next .dead).alloc (.cells ((cs ++ junk).drop o) false) := ⟨_, rfl⟩
    have hR : ∀ y, y < H.next → y ≠ q → HR.get y = H.get y := fun y h1 h2 => by
      rw [hHR, YV, YY, YX, YY, if_neg (by omega), YW, if_neg (by omega), YV, YY, if_neg (by omega), YW, if_neg h2]
    have hRn : HR.next = H.next + 2 := by rw [hHR]; rfl
    have hRg : HR.get (H.next + 1) = some (.cells ((cs ++ junk).drop o) false) := by rw [hHR, YV, YY, YX, YY, if_pos rfl]
    have hL0 : ((cs ++ junk).drop o).take (L.length * 3) = (L.map entL).flatten := by
      rw [← hcs, List.drop_append_of_le_length (by omega), List.take_append_of_le_length (by rw [List.length_drop]; omega)]
    show c0.C _ (.slice (some ⟨H.next + 1, 0, none⟩) L.length cp :: _) _ _
    rw [← hHR]
    refine Ins_knownE c0 hc hO (A := ((L.take i).map entL).flatten) (B := ((L.drop i).map entL).flatten) hRg ((hR vb hvl hne).trans hv) (by omega) (by omega) (by omega) hn hn1 hA hB hi hl hcp hcu ?_ (hroom.imp id fun h => by rw [List.length_drop]; omega) (by rw [← hspl]; exact ents_one L) (fun L' H' hr hL1 hL2 hnx hgb hoth => ?_) (fun H' hle hnx hgn => ?_)
    · rw [← hspl, ← hL0, hA, hB, show i * 3 + (L.length - i) * 3 = L.length * 3 by omega]
    · rw [List.length_drop] at hL1
      have hcl2 : o + cp * 3 ≤ (cs ++ junk).length := hroom.resolve_left (by omega)
      refine .inr ⟨H.next + 1, 0, L.length + 1, cp, L', rfl, hcu, hgb, hr, by omega, ?_⟩
      rw [hnx, hRn]
      refine hK (H.next + 2) _ ⟨by simp only [YX, YY]; omega, fun y h1 h2 => ?_⟩ (by omega) ⟨_, 0, by simp only [YX, YY]; omega, by rw [hlen], by rw [YV, YY, if_pos (by omega)], ?_, ?_⟩
      · simp only [List.mem_singleton] at h2
        rw [YV, YY, if_neg (by omega), YW, if_neg (by omega), hoth y (by omega), hR y h1 h2]
      · rw [hlen, List.drop_zero, List.drop_zero, List.take_take, Nat.min_self, hL2, hflat]
      · rw [hlen, List.drop_zero, hL2, hall]; omega
    · rw [hRn] at hgn ⊢
      refine .inl (hK (H.next + 2) H' ⟨by have := hle.next; omega, fun y h1 h2 => ?_⟩ (by omega) ⟨_, 0, by omega, by rw [hlen], hgn, ?_, ?_⟩)
      · simp only [List.mem_singleton] at h2
        rw [hle.get y (by omega), hR y h1 h2]
      · rw [hlen, hflat, List.drop_zero, List.take_of_length_le (by omega)]
      · rw [hlen, hall]; omega
  · refine .inl ⟨rfl, .inl ?_⟩
    have hi0 : i = 0 := by simpa using hi
    subst hi0
    refine Ins_nilE c0 hc hv hn (.inl (hK H.next _ ((H.le_alloc _).upd _) (Nat.le_refl _) ⟨entL x, 0, by simp [YX], rfl, by rw [YV, if_pos rfl], by simp [hn, List.take_of_length_le], by simp [hn]⟩))

end
end Go.Proofs.YtndndcdblfejnaaGreatRI
namespace Go.Proofs.YtndndcdblfejnaaGreatRI
attribute [local simp] J0 J1 J2 J3 J4 J5 J6 J7 J8 J9 Ja Jb Jc Jd Je Jf Jg Jh Ji Jj Jk Jl Jm Jn Jo Jp Jq Jr Js Jt Ju Jv Jw Jx Jy Jz JA JB JC JD JE JF JG JH JI JJ JK JL JM JN JO JP JQ JR JS stillI IOp.kind JT JU JV JW JX JY JZ Y0 Y1 Y2 Y3 Y4 Y5 Y6 Y7 Y8 Y9 Ya Yb Yc Yd Ye Yf Yg Yh Yi Yj Yk Yl Ym Yn Yo Yp Yq ial Yr Ys Yt Yu Yv Yw Yx Yy ires iresL ires1 Yz YA YB YC YD YE bin2 YF YG YH YI YJ YK YL YM YN YO YP YQ YR YS YT YU un1 shOk eqL eq1 fillL putAt IHeap.load1 IHeap.loadL IHeap.storeL YV YW YX YY YZ B0 B1 B2 B3 B4 B5 B6 B7 B8 B9 Ba Bb Bc Bd Be Bf Bg Bh Bi Bj Bk Bl Bm Bn Bo Bp
set_option linter.unusedSimpArgs false
set_option linter.unusedVariables false
open Go

def thereE (L : List Ent) (s : Int) : Bool := match L[posE s L]? with | some v => decide (v.id = s) | none => false
theorem thereE_true {L : List Ent} {s : Int} (h : thereE L s = true) : ∃ x, atE L s = some x ∧ L[posE s L]? = some x ∧ posE s L < L.length := by
  unfold thereE at h
  cases hq : L[posE s L]? with
  | none => rw [hq] at h; cases h
  | some x =>
    rw [hq] at h
    simp only [decide_eq_true_eq] at h
    exact ⟨x, by simp [atE, hq, h], rfl, (List.getElem?_eq_some_iff.1 hq).1⟩
theorem thereE_false {L : List Ent} {s : Int} (h : thereE L s = false) : atE L s = none := by
  unfold thereE at h
  unfold atE
  cases hq : L[posE s L]? with
  | none => rfl
  | some x =>
    rw [hq] at h
    simp only [decide_eq_false_iff_not] at h
    simp [h]
theorem VE.slr {H : IHeap} {q : Nat} {v : Value} {L : List Ent} (h : VE H q v L) : SlR H 3 v (L.map entL) := by
  obtain ⟨cs, o, a, rfl, c, d, e⟩ := h
  refine ⟨_, _, by rw [List.length_map], fun _ => ⟨q, o, cs, false, rfl, a, c, fun i r hr => ?_⟩⟩
  have h3 : ∀ r ∈ L.map entL, r.length = 3 := fun r hr => by obtain ⟨v, _, rfl⟩ := List.mem_map.1 hr; rfl
  obtain ⟨f1, f2⟩ := flat_row (L.map entL) 3 i r h3 hr
  have hfl := ents_len L
  refine ⟨h3 r (List.mem_of_getElem? hr), ?_, by omega⟩
  rw [← f1, ← d, List.drop_take, List.take_take, List.drop_drop, Nat.min_eq_left (by omega)]
theorem SlR.nil3 (H : IHeap) : SlR H 3 (.slice none 0 0) (([] : List Ent).map entL) := (SlW.nil H 3).1

section
variable (c : Ctx) (hc : HasRepl28 c) {H : IHeap} {K : Value → IHeap → Prop}
include hc

theorem Emay_ok {cl id : Int} (hK : K (.bool (mayE cl id)) H) : c.C (c.F n_replies_may) [.int .i64 cl, .int .i64 id] H K := by
  refine c.enter hc.replies_may rfl ?_
  unfold mayE at hK
  by_cases h1 : 0 ≤ cl
  · by_cases h2 : cl < 64
    · by_cases h3 : 0 ≤ id
      · simp -implicitDefEqProofs [c_replies_may, h1, h2, h3]
        simpa [h1, h2, h3] using hK
      · simp -implicitDefEqProofs [c_replies_may, h1, h2, h3]
        simpa [h1, h2, h3] using hK
    · simp -implicitDefEqProofs [c_replies_may, h1, h2]
      simpa [h1, h2] using hK
  · simp -implicitDefEqProofs [c_replies_may, h1]
    simpa [h1] using hK
theorem EfindF_ok {v : Ent} {s : Int} (hv : 0 ≤ v.id ∧ v.id < 2147483648) (hs : 0 ≤ s ∧ s < 2147483648) (hK : ∀ H', H.le H' → K (.int .i64 (v.id - s)) H') : c.C (c.F n_replies_Replies_find_F1) [.agg #[.int .i64 v.id, .bool v.busy, strV v.re], .int .i64 s] H K := by
  refine c.enter hc.replies_Replies_find_F1 rfl ?_
  have kA : ∀ y, H.le (H.alloc y) := fun y => H.le_alloc y
  have hw : IntKind.i64.wrap (v.id - s) = v.id - s := wrap64 (by omega) (by omega)
  simp -implicitDefEqProofs [c_replies_Replies_find_F1, hw, strV]
  exact hK _ (kA _)

theorem Esearch_ok {u : Value} {L : List Ent} {s : Int} (hu : SlR H 3 u (L.map entL)) (hs : SortedE L) (hl : L.length ≤ 1000000) (hb : ∀ x ∈ L, 0 ≤ x.id ∧ x.id < 2147483648) (hs0 : 0 ≤ s ∧ s < 2147483648) (hK : ∀ H', H.le H' → K (.tuple #[.int .i64 (posE s L : Nat), .bool (thereE L s)]) H') :
    c.C (c.F n_slices_BinarySearchFunc_replies_entry_replies_entry_int) [u, .int .i64 s, .func (.func (c.F n_replies_Replies_find_F1)) #[] #[]] H K := by
  refine c.enter hc.slices_BinarySearchFunc_replies_entry_replies_entry_int rfl ?_
  have hu' := hu
  obtain ⟨a, cap, rfl, _⟩ := hu
  simp only [List.length_map] at hu' ⊢
  have hple := posE_le s L
  have kk : ∀ {P : Prop}, (0 : Int) ≤ 1 := by omega
  simp -implicitDefEqProofs [c_slices_BinarySearchFunc_replies_entry_replies_entry_int]
  refine loop_nat c.mono (fun k T H' => ∃ lo hi : Nat, lo ≤ hi ∧ lo ≤ posE s L ∧ posE s L ≤ hi ∧ hi ≤ L.length ∧ k = hi - lo ∧ T 0 = .slice a L.length cap ∧ T 1 = .int .i64 s ∧ T 2 = .func (.func (c.F n_replies_Replies_find_F1)) #[] #[] ∧ T 8 = .int .i64 L.length ∧ T 9 = .int .i64 lo ∧ T 10 = .int .i64 hi ∧ H.le H') L.length ?_ ?_
  · refine ⟨0, L.length, by omega, by omega, by omega, by omega, by omega, ?_⟩
    simp -implicitDefEqProofs []
    exact IHeap.le_refl _
  · rintro k T H' ⟨lo, hi, h1, h2, h3, h4, rfl, t0, t1, t2, t8, t9, t10, hle⟩
    by_cases hlh : lo < hi
    · have hlhI : (lo : Int) < (hi : Int) := by omega
      obtain ⟨mid, hmid⟩ : ∃ mid, mid = (lo + hi) / 2 := ⟨_, rfl⟩
      have hm1 : lo ≤ mid := by omega
      have hm2 : mid < hi := by omega
      have hmL : mid < L.length := by omega
      have hmI : (mid : Int) < (L.length : Int) := by omega
      have w1 : IntKind.i64.wrap ((lo : Int) + (hi : Int)) = ((lo + hi : Nat) : Int) := by rw [wrap64 (by omega) (by omega)]; omega
      have w2 : IntKind.u64.wrap ((lo + hi : Nat) : Int) = ((lo + hi : Nat) : Int) := wrapUT (by omega) (by omega)
      have w3 : shrW .u64 ((lo + hi : Nat) : Int) 1 = (mid : Int) := by rw [shrUT, hmid]
      have w4 : IntKind.i64.wrap (mid : Int) = (mid : Int) := wrap64 (by omega) (by omega)
      have w5 : IntKind.i64.wrap ((mid : Int) + 1) = (mid : Int) + 1 := wrap64 (by omega) (by omega)
      obtain ⟨sm, hsm⟩ : ∃ sm, sm = ((lo + hi : Nat) : Int) := ⟨_, rfl⟩
      rw [← hsm] at w1 w2 w3
      have hx : L[mid]? = some L[mid] := List.getElem?_eq_getElem hmL
      obtain ⟨v, hv⟩ : ∃ v, v = L[mid] := ⟨_, rfl⟩
      rw [← hv] at hx
      obtain ⟨b, o, cp, cs, ro, ea, hbl, hget, hrl, hrow, hbd⟩ := hu'.at (i := mid) (r := entL v) (by simp [hx])
      rw [List.length_map] at ea
      simp only [Value.slice.injEq] at ea
      obtain ⟨rfl, -, rfl⟩ := ea
      simp only [entL] at hrow
      have hget' := (hle.get b hbl).trans hget
      simp -implicitDefEqProofs [t0, t1, t2, t8, t9, t10, hlh, hlhI, w1, w2, w3, w4, hmL, hmI, hget', hrow, hbd]
      refine call_of (EfindF_ok c hc (v := v) (s := s) (hb v (List.mem_of_getElem? hx)) hs0 fun H2 k2 => ?_)
      by_cases hc1 : v.id < s
      · have hz : v.id - s < 0 := by omega
        have hgt : mid < posE s L := by
          refine Classical.byContradiction fun hn => ?_
          have := posE_ge (s := s) hs (i := mid) (by omega) hx
          omega
        simp -implicitDefEqProofs [t0, t1, t2, t8, t9, t10, w5, hz]
        exact ⟨hi - (mid + 1), by omega, mid + 1, hi, by omega, by omega, by omega, by omega, rfl, rfl, by simp, hle.trans k2⟩
      · have hz : ¬ v.id - s < 0 := by omega
        have hge : posE s L ≤ mid := by
          refine Classical.byContradiction fun hn => ?_
          have := posE_lt (s := s) (L := L) (i := mid) (by omega) hx
          omega
        simp -implicitDefEqProofs [t0, t1, t2, t8, t9, t10, hz]
        exact ⟨mid - lo, by omega, lo, mid, by omega, by omega, by omega, by omega, rfl, rfl, by simp, hle.trans k2⟩
    · have hlhI : ¬ (lo : Int) < (hi : Int) := by omega
      have hlp : lo = posE s L := by omega
      subst hlp
      by_cases hpl : posE s L < L.length
      · have hpI : (posE s L : Int) < (L.length : Int) := by omega
        have hx : L[posE s L]? = some L[posE s L] := List.getElem?_eq_getElem hpl
        obtain ⟨v, hv⟩ : ∃ v, v = L[posE s L] := ⟨_, rfl⟩
        rw [← hv] at hx
        have hth : thereE L s = decide (v.id = s) := by simp [thereE, hx]
        rw [hth] at hK
        obtain ⟨b, o, cp, cs, ro, ea, hbl, hget, hrl, hrow, hbd⟩ := hu'.at (i := posE s L) (r := entL v) (by simp [hx])
        rw [List.length_map] at ea
        simp only [Value.slice.injEq] at ea
        obtain ⟨rfl, -, rfl⟩ := ea
        simp only [entL] at hrow
        have hget' := (hle.get b hbl).trans hget
        simp -implicitDefEqProofs [t0, t1, t2, t8, t9, t10, hlh, hlhI, hpl, hpI, hget', hrow, hbd]
        refine call_of (EfindF_ok c hc (v := v) (s := s) (hb v (List.mem_of_getElem? hx)) hs0 fun H2 k2 => ?_)
        have hge := posE_ge (s := s) hs (Nat.le_refl _) hx
        by_cases hc2 : s < v.id
        · have hne : ¬ v.id = s := by omega
          have hz : ¬ v.id - s = 0 := by omega
          rw [decide_eq_false hne] at hK
          simp -implicitDefEqProofs [hz]
          exact hK _ (hle.trans k2)
        · have hne : v.id = s := by omega
          have hz : v.id - s = 0 := by omega
          rw [decide_eq_true hne] at hK
          simp -implicitDefEqProofs [hz]
          exact hK _ (hle.trans k2)
      · have hpI : ¬ (posE s L : Int) < (L.length : Int) := by omega
        have hth : thereE L s = false := by simp [thereE, List.getElem?_eq_none (Nat.le_of_not_lt hpl)]
        rw [hth] at hK
        simp -implicitDefEqProofs [t0, t1, t2, t8, t9, t10, hlh, hlhI, hpl, hpI]
        exact hK _ hle


theorem ReNew_ok (hK : ∀ p H', H.le H' → H.next ≤ p → ReB (Gw (fun _ => False) H H') H' p (fun _ => []) → K (.pointer (some ⟨p, 0, none⟩)) H') : c.C (c.F n_replies_New) [.int .i64 4] H K := by
  refine c.enter hc.replies_New rfl ?_
  simp -implicitDefEqProofs [c_replies_New]
  refine hK _ _ ((H.le_alloc _).trans (IHeap.le_alloc _ _)) (by simp [YX]) ⟨fun b hb => ?_, .inr ⟨by simp [YX], by simp [YX]⟩, ⟨H.next, fun _ => none, fun _ => 0, .inr ⟨by simp, by simp [YX]; omega⟩, by simp [YV, YX], (IsMap.new H kI (fun v : Value => v)).le (IHeap.le_alloc _ _), fun _ _ => rfl, by simp, by simp⟩, fun k => ⟨List.Pairwise.nil, by simp, by simp⟩⟩
  rcases hb with hb | hb
  · exact hb.elim
  · exact hb.2
end
end Go.Proofs.YtndndcdblfejnaaGreatRI
namespace Go.Proofs.YtndndcdblfejnaaGreatRI
attribute [local simp] J0 J1 J2 J3 J4 J5 J6 J7 J8 J9 Ja Jb Jc Jd Je Jf Jg Jh Ji Jj Jk Jl Jm Jn Jo Jp Jq Jr Js Jt Ju Jv Jw Jx Jy Jz JA JB JC JD JE JF JG JH JI JJ JK JL JM JN JO JP JQ JR JS stillI IOp.kind JT JU JV JW JX JY JZ Y0 Y1 Y2 Y3 Y4 Y5 Y6 Y7 Y8 Y9 Ya Yb Yc Yd Ye Yf Yg Yh Yi Yj Yk Yl Ym Yn Yo Yp Yq ial Yr Ys Yt Yu Yv Yw Yx Yy ires iresL ires1 Yz YA YB YC YD YE bin2 YF YG YH YI YJ YK YL YM YN YO YP YQ YR YS YT YU un1 shOk eqL eq1 fillL putAt IHeap.load1 IHeap.loadL IHeap.storeL YV YW YX YY YZ B0 B1 B2 B3 B4 B5 B6 B7 B8 B9 Ba Bb Bc Bd Be Bf Bg Bh Bi Bj Bk Bl Bm Bn Bo Bp
set_option linter.unusedSimpArgs false
set_option linter.unusedVariables false
open Go

theorem VE.drop {H : IHeap} {q o n : Nat} {L : List Ent} (h : VE H q (.slice (some ⟨q, o, none⟩) n (UNK + 3)) L) {k : Nat} (hk : k ≤ L.length) : VE H q (.slice (some ⟨q, o + k * 3, none⟩) (L.length - k) (UNK + 3)) (L.drop k) := by
  obtain ⟨cs, o', a, e, b, c, d⟩ := h
  simp only [Value.slice.injEq, Option.some.injEq, Addr.mk.injEq, true_and, and_true] at e
  obtain ⟨rfl, rfl⟩ := e
  refine ⟨cs, o + k * 3, a, by rw [List.length_drop], b, ?_, by rw [List.length_drop]; omega⟩
  have := congrArg (List.drop (k * 3)) c
  rw [List.drop_take, List.drop_drop] at this
  rw [List.length_drop, show (L.length - k) * 3 = L.length * 3 - k * 3 by omega, this]
  have e2 := ents_len (L.take k)
  rw [List.length_take, Nat.min_eq_left hk] at e2
  conv => lhs; rw [← List.take_append_drop k L, List.map_append, List.flatten_append]
  rw [← e2, List.drop_left]
theorem VE.at {H : IHeap} {q : Nat} {v : Value} {L : List Ent} (h : VE H q v L) {i : Nat} {x : Ent} (hx : L[i]? = some x) : ∃ cs o, v = .slice (some ⟨q, o, none⟩) L.length (UNK + 3) ∧ H.get q = some (.cells cs false) ∧ cs[o + i * 3]? = some (.int .i64 x.id) ∧ cs[o + i * 3 + 1]? = some (.bool x.busy) ∧ cs[o + i * 3 + 2]? = some (strV x.re) ∧ o + i * 3 + 3 ≤ cs.length ∧ q < H.next := by
  obtain ⟨cs, o, a, e, b, c, d⟩ := h
  have hi := (List.getElem?_eq_some_iff.1 hx).1
  have h3 : ∀ r ∈ L.map entL, r.length = 3 := fun r hr => by obtain ⟨v, _, rfl⟩ := List.mem_map.1 hr; rfl
  obtain ⟨f1, f2⟩ := flat_row (L.map entL) 3 i (entL x) h3 (by rw [List.getElem?_map, hx]; rfl)
  have hfl := ents_len L
  have key : (cs.drop (o + i * 3)).take 3 = entL x := by rw [← f1, ← c, List.drop_take, List.take_take, List.drop_drop, Nat.min_eq_left (by omega)]
  have r0 := row_at key 0 (by omega)
  have r1 := row_at key 1 (by omega)
  have r2 := row_at key 2 (by omega)
  exact ⟨cs, o, e, b, r0, r1, r2, by omega, a⟩
theorem VE.put {H H' : IHeap} {q o n : Nat} {cs : List Value} {L : List Ent} (h : VE H q (.slice (some ⟨q, o, none⟩) n (UNK + 3)) L) (hg : H.get q = some (.cells cs false)) {i : Nat} (hi : i < L.length) (y : Ent) (hn : H.next ≤ H'.next)
    (hg' : H'.get q = some (.cells (putAt cs (o + i * 3) (entL y)) false)) : VE H' q (.slice (some ⟨q, o, none⟩) n (UNK + 3)) (L.set i y) := by
  obtain ⟨cs', o', a, e, b, c, d⟩ := h
  simp only [Value.slice.injEq, Option.some.injEq, Addr.mk.injEq, true_and, and_true] at e
  obtain ⟨rfl, rfl⟩ := e
  rw [hg] at b
  simp only [Option.some.injEq, IObj.cells.injEq, and_true] at b
  subst b
  have h3 : (entL y).length = 3 := rfl
  refine ⟨_, o, by omega, by rw [List.length_set], hg', ?_, ?_⟩
  · have e1 : (putAt cs (o + i * 3) (entL y)).drop o = putAt (cs.drop o) (i * 3) (entL y) := by
      unfold putAt
      rw [List.append_assoc, List.append_assoc, List.drop_append_of_le_length (by rw [List.length_take]; omega), List.drop_take, List.drop_drop, show o + i * 3 - o = i * 3 by omega, h3, show o + (i * 3 + 3) = o + i * 3 + 3 by omega]
    rw [e1, List.length_set]
    have t1 := congrArg (List.take (i * 3)) c
    have t2 := congrArg (List.drop ((i + 1) * 3)) c
    have l1 := ents_len (L.take i)
    have l2 := ents_len (L.take (i + 1))
    rw [List.length_take, Nat.min_eq_left (by omega)] at l1 l2
    have s1 : (L.map entL).flatten = ((L.take i).map entL).flatten ++ ((L.drop i).map entL).flatten := by rw [← List.flatten_append, ← List.map_append, List.take_append_drop]
    have s2 : (L.map entL).flatten = ((L.take (i + 1)).map entL).flatten ++ ((L.drop (i + 1)).map entL).flatten := by rw [← List.flatten_append, ← List.map_append, List.take_append_drop]
    rw [List.take_take, Nat.min_eq_left (by omega), s1, ← l1, List.take_left, l1] at t1
    rw [List.drop_take, s2, ← l2, List.drop_left, l2] at t2
    rw [List.set_eq_take_append_cons_drop, if_pos hi, List.map_append, List.map_cons, List.flatten_append, List.flatten_cons]
    unfold putAt
    have lA : (((L.take i).map entL).flatten ++ entL y).length = (i + 1) * 3 := by rw [List.length_append, l1, h3]; omega
    rw [t1, h3, show i * 3 + 3 = (i + 1) * 3 by omega, List.take_append, lA, List.take_of_length_le (by omega), t2, List.append_assoc]
  · unfold putAt
    simp only [List.length_append, List.length_take, List.length_drop, h3, List.length_set]; omega

/-- A client's calls, as the map has them. -/
theorem ReB.look {B : Nat → Prop} {H : IHeap} {p : Nat} {R : Rps} (h : ReB B H p R) (cl : Int) : ∃ (r : Nat) (m : Int → Option Value) (q : Int → Nat) (u : Value), B r ∧ p ≠ r ∧ H.get p = some (.cells [.int .i64 4, .map (some r)] false) ∧ IsMap H r kI (fun v => v) m ∧ (∀ k, m k = none → R k = []) ∧
    (∀ k v, m k = some v → VE H (q k) v (R k) ∧ B (q k) ∧ q k ≠ p) ∧ (∀ k k' v v', m k = some v → m k' = some v' → q k = q k' → k = k') ∧ u = (m cl).getD (.slice none 0 0) ∧ SlR H 3 u ((R cl).map entL) := by
  obtain ⟨r, m, q, h3, h4, h5, h6, h7, h8⟩ := h.rep
  refine ⟨r, m, q, _, h3, h5.ne_cells h4, h4, h5, h6, h7, h8, rfl, ?_⟩
  cases hm : m cl with
  | none => rw [h6 cl hm]; exact SlR.nil3 H
  | some v => exact (h7 cl v hm).1.slr

section
variable (c : Ctx) (hc : HasRepl28 c) (hT : KeyOf c.P (c.Ty 2) kI) {H : IHeap} {K : Value → IHeap → Prop}

theorem look_of {r : Nat} {m : Int → Option Value} (h : IsMap H r kI (fun v : Value => v) m) (hT : KeyOf c.P (c.Ty 2) kI) (cl : Int) : lookR c.P H (c.Ty 2) (.slice none 0 0) false (.map (some r)) (.int .i64 cl) = some ((m cl).getD (.slice none 0 0)) := by
  have := h.look hT cl (.slice none 0 0) false
  simp only [kI] at this
  rw [this]
  cases m cl <;> rfl
include hc hT in
theorem Efind_ok {B : Nat → Prop} {p : Nat} {R : Rps} {cl id : Int} (h : ReB B H p R) (hi : 0 ≤ id ∧ id < 2147483648) (hK : ∀ H', H.le H' → K (.tuple #[.int .i64 (posE id (R cl) : Nat), .bool (thereE (R cl) id)]) H') :
    c.C (c.F n_replies_Replies_find) [.pointer (some ⟨p, 0, none⟩), .int .i64 cl, .int .i64 id] H K := by
  refine c.enter hc.replies_Replies_find rfl ?_
  obtain ⟨r, m, q, u, h1, h2, h3, h4, h5, h6, h7, h8, h9⟩ := h.look cl
  obtain ⟨o1, o2, o3⟩ := h.ok cl
  have hlk := look_of c h4 hT cl
  rw [← h8] at hlk
  simp -implicitDefEqProofs [c_replies_Replies_find, h3, hlk]
  refine call_of (Esearch_ok c hc h9 o1 (by omega) o3 hi fun H' hl => ?_)
  simp -implicitDefEqProofs []
  exact hK _ hl
end
end Go.Proofs.YtndndcdblfejnaaGreatRI
