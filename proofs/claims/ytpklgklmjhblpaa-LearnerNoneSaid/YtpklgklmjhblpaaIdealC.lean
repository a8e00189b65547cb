/- How an ideal value and heap stand to the model's: a renaming of ids to places in blocks. -/
import Derived.Test.YtpklgklmjhblpaaIdealB
namespace Go.Proofs.YtpklgklmjhblpaaI
set_option linter.unusedSimpArgs false
set_option linter.unusedVariables false
open Go

structure Ren where
  dom : Nat → Prop
  blk : Nat → Nat
  base : Nat → Nat
  size : Nat → Nat
  len : Nat → Nat

mutual
inductive VR (R : Ren) : Value → Value → Prop
  | bool (b) : VR R (.bool b) (.bool b)
  | int (k n) : VR R (.int k n) (.int k n)
  | float (k n) : VR R (.float k n) (.float k n)
  | complex (k n m) : VR R (.complex k n m) (.complex k n m)
  | string (s) : VR R (.string s) (.string s)
  | ptrNil : VR R (.pointer none) (.pointer none)
  | ptr (b o) : R.dom b → VR R (.pointer (some ⟨b, o, none⟩)) (.pointer (some ⟨R.blk b, R.base b + o, none⟩))
  | sliceNil : VR R (.slice none 0 0) (.slice none 0 0)
  | sliceEx (b o len c) : R.dom b → c < UNK → VR R (.slice (some ⟨b, o, none⟩) len c) (.slice (some ⟨R.blk b, R.base b + o, none⟩) len c)
  | sliceGr (b o len c e) : R.dom b → 0 < e → len ≤ c → R.len b ≤ o + c * e → R.base b + o + c * e ≤ R.size b →
      VR R (.slice (some ⟨b, o, none⟩) len (UNK + e)) (.slice (some ⟨R.blk b, R.base b + o, none⟩) len c)
  | sliceEm (b o e a) : R.dom b → 0 < e → R.len b ≤ o → VR R (.slice (some ⟨b, o, none⟩) 0 (UNK + e)) (.slice (some a) 0 0)
  | sliceZ (b o a) : R.dom b → VR R (.slice (some ⟨b, o, none⟩) 0 0) (.slice (some a) 0 0)
  | mapNil : VR R (.map none) (.map none)
  | map (r) : R.dom r → VR R (.map (some r)) (.map (some (R.blk r)))
  | nilFunc : VR R .nilFunc .nilFunc
  | func (f a b a' b') : VRs R a.toList a'.toList → VRs R b.toList b'.toList → VR R (.func (.func f) a b) (.func (.func f) a' b')
  | nilIface : VR R .nilIface .nilIface
  | iface (t v v') : VR R v v' → VR R (.iface t v) (.iface t v')
  | agg (a a') : VRs R a.toList a'.toList → VR R (.agg a) (.agg a')
  | tuple (a a') : VRs R a.toList a'.toList → VR R (.tuple a) (.tuple a')
inductive VRs (R : Ren) : List Value → List Value → Prop
  | nil : VRs R [] []
  | cons {v v' l l'} : VR R v v' → VRs R l l' → VRs R (v :: l) (v' :: l')
end

/-- R' says of R's ids what R says. -/
structure Ren.le (R R' : Ren) : Prop where
  dom : ∀ b, R.dom b → R'.dom b
  blk : ∀ b, R.dom b → R'.blk b = R.blk b
  base : ∀ b, R.dom b → R'.base b = R.base b
  size : ∀ b, R.dom b → R'.size b = R.size b
  len : ∀ b, R.dom b → R'.len b = R.len b

theorem Ren.le_refl (R : Ren) : R.le R := ⟨fun _ h => h, fun _ _ => rfl, fun _ _ => rfl, fun _ _ => rfl, fun _ _ => rfl⟩
theorem Ren.le.trans {A B C : Ren} (h : A.le B) (k : B.le C) : A.le C :=
  ⟨fun b hb => k.dom b (h.dom b hb), fun b hb => (k.blk b (h.dom b hb)).trans (h.blk b hb), fun b hb => (k.base b (h.dom b hb)).trans (h.base b hb),
   fun b hb => (k.size b (h.dom b hb)).trans (h.size b hb), fun b hb => (k.len b (h.dom b hb)).trans (h.len b hb)⟩

mutual
theorem VR.mono {R R' : Ren} (h : R.le R') : ∀ {v v' : Value}, VR R v v' → VR R' v v'
  | _, _, .bool b => .bool b
  | _, _, .int k n => .int k n
  | _, _, .float k n => .float k n
  | _, _, .complex k n m => .complex k n m
  | _, _, .string s => .string s
  | _, _, .ptrNil => .ptrNil
  | _, _, .ptr b o hb => by rw [← h.blk b hb, ← h.base b hb]; exact .ptr b o (h.dom b hb)
  | _, _, .sliceNil => .sliceNil
  | _, _, .sliceEx b o len c hb hc => by rw [← h.blk b hb, ← h.base b hb]; exact .sliceEx b o len c (h.dom b hb) hc
  | _, _, .sliceGr b o len c e hb he hl h1 h2 => by
      rw [← h.len b hb] at h1; rw [← h.base b hb, ← h.size b hb] at h2
      rw [← h.blk b hb, ← h.base b hb]; exact .sliceGr b o len c e (h.dom b hb) he hl h1 h2
  | _, _, .sliceEm b o e a hb he h1 => .sliceEm b o e a (h.dom b hb) he (by rw [h.len b hb]; exact h1)
  | _, _, .sliceZ b o a hb => .sliceZ b o a (h.dom b hb)
  | _, _, .mapNil => .mapNil
  | _, _, .map r hr => by rw [← h.blk r hr]; exact .map r (h.dom r hr)
  | _, _, .nilFunc => .nilFunc
  | _, _, .func f a b a' b' h1 h2 => .func f a b a' b' (VRs.mono h h1) (VRs.mono h h2)
  | _, _, .nilIface => .nilIface
  | _, _, .iface t v v' h1 => .iface t v v' (VR.mono h h1)
  | _, _, .agg a a' h1 => .agg a a' (VRs.mono h h1)
  | _, _, .tuple a a' h1 => .tuple a a' (VRs.mono h h1)
theorem VRs.mono {R R' : Ren} (h : R.le R') : ∀ {l l' : List Value}, VRs R l l' → VRs R' l l'
  | _, _, .nil => .nil
  | _, _, .cons h1 h2 => .cons (VR.mono h h1) (VRs.mono h h2)
end

theorem VRs.length {R : Ren} : ∀ {l l' : List Value}, VRs R l l' → l.length = l'.length
  | _, _, .nil => rfl
  | _, _, .cons _ h => by simp [VRs.length h]

theorem VRs.get {R : Ren} : ∀ {l l' : List Value}, VRs R l l' → ∀ (i : Nat) (v : Value), l[i]? = some v → ∃ v', l'[i]? = some v' ∧ VR R v v'
  | _, _, .nil, i, v, h => by simp at h
  | _, _, .cons (v := u) (v' := u') hu hs, i, v, h => by
    cases i with
    | zero => simp at h; subst h; exact ⟨u', by simp, hu⟩
    | succ i => simpa using VRs.get hs i v (by simpa using h)

theorem VRs.of_get {R : Ren} : ∀ {l l' : List Value}, l.length = l'.length → (∀ (i : Nat) (v : Value), l[i]? = some v → ∃ v', l'[i]? = some v' ∧ VR R v v') → VRs R l l'
  | [], [], _, _ => .nil
  | [], _ :: _, h, _ => by simp at h
  | _ :: _, [], h, _ => by simp at h
  | v :: l, v' :: l', h, hg => by
    refine .cons ?_ (VRs.of_get (by simpa using h) fun i u hu => by simpa using hg (i + 1) u (by simpa using hu))
    obtain ⟨u', hu', hr⟩ := hg 0 v (by simp)
    simp at hu'; subst hu'; exact hr

theorem VRs.append {R : Ren} {b b' : List Value} (h2 : VRs R b b') : ∀ {a a' : List Value}, VRs R a a' → VRs R (a ++ b) (a' ++ b')
  | _, _, .nil => h2
  | _, _, .cons h hs => .cons h (VRs.append h2 hs)

theorem VRs.take {R : Ren} : ∀ {l l' : List Value}, VRs R l l' → ∀ n, VRs R (l.take n) (l'.take n)
  | _, _, .nil, n => by simp; exact .nil
  | _, _, .cons h hs, 0 => by simp; exact .nil
  | _, _, .cons h hs, n + 1 => by simp; exact .cons h (VRs.take hs n)

theorem VRs.drop {R : Ren} : ∀ {l l' : List Value}, VRs R l l' → ∀ n, VRs R (l.drop n) (l'.drop n)
  | _, _, .nil, n => by simp; exact .nil
  | _, _, .cons h hs, 0 => by simp; exact .cons h hs
  | _, _, .cons h hs, n + 1 => by simp; exact VRs.drop hs n

theorem VRs.putAt {R : Ren} {l l' vs vs' : List Value} (h : VRs R l l') (hv : VRs R vs vs') (o : Nat) : VRs R (putAt l o vs) (putAt l' o vs') := by
  unfold Go.Proofs.YtpklgklmjhblpaaI.putAt
  rw [hv.length]
  exact VRs.append (h.drop _) (VRs.append hv (h.take _))

theorem VRs.map {R : Ren} {α : Type} {f g : α → Value} : ∀ (l : List α), (∀ x ∈ l, VR R (f x) (g x)) → VRs R (l.map f) (l.map g)
  | [], _ => .nil
  | x :: l, h => .cons (h x (by simp)) (VRs.map l fun y hy => h y (by simp [hy]))

theorem VR.of_scal1 (R : Ren) {v : Value} (h : scal1 v = true) : VR R v v := by
  cases v <;> first | (simp [scal1] at h; done) | constructor
theorem VRs.of_scal1 (R : Ren) : ∀ {l : List Value}, l.all scal1 = true → VRs R l l
  | [], _ => .nil
  | v :: l, h => by
    simp only [List.all_cons, Bool.and_eq_true] at h
    exact .cons (VR.of_scal1 R h.1) (VRs.of_scal1 R h.2)
theorem VR.of_scal (R : Ren) {v : Value} (h : scal v = true) : VR R v v := by
  cases v <;> first | exact VR.of_scal1 R h | exact .agg _ _ (VRs.of_scal1 R h)

theorem VR.scal1_eq {R : Ren} {v v' : Value} (h : VR R v v') (hs : scal1 v = true) : v' = v := by
  cases h <;> first | rfl | (simp [scal1] at hs; done)
theorem VRs.scal1_eq {R : Ren} : ∀ {l l' : List Value}, VRs R l l' → l.all scal1 = true → l' = l
  | _, _, .nil, _ => rfl
  | _, _, .cons h hs, hl => by
    simp only [List.all_cons, Bool.and_eq_true] at hl
    rw [VR.scal1_eq h hl.1, VRs.scal1_eq hs hl.2]
theorem VR.scal_eq {R : Ren} {v v' : Value} (h : VR R v v') (hs : scal v = true) : v' = v := by
  cases h <;> first | rfl | (simp [scal, scal1] at hs; done) | skip
  rename_i a a' hl
  have := VRs.scal1_eq hl hs
  cases a; cases a'; simp_all

theorem VR.of_groundS (R : Ren) {v : Value} (h : groundS v = true) : VR R v v := by
  unfold groundS at h
  split at h <;> first | constructor | exact VR.of_scal1 R h | skip
  rename_i vs
  simp at h
  subst h
  exact .nil
theorem VRs.of_groundS (R : Ren) : ∀ {l : List Value}, l.all groundS = true → VRs R l l
  | [], _ => .nil
  | v :: l, h => by
    simp only [List.all_cons, Bool.and_eq_true] at h
    exact .cons (VR.of_groundS R h.1) (VRs.of_groundS R h.2)
theorem VR.of_ground (R : Ren) {v : Value} (h : groundV v = true) : VR R v v := by
  unfold groundV at h
  split at h
  · exact .agg _ _ (VRs.of_groundS R h)
  · exact VR.of_groundS R h

/-- The cells of a value. -/
theorem VR.cells {R : Ren} {v v' : Value} (h : VR R v v') : VRs R v.cells.toList v'.cells.toList := by
  have h' := h
  cases h with
  | agg a a' h1 => exact h1
  | _ => exact .cons h' .nil

theorem VR.one {R : Ren} {v v' : Value} (h : VR R v v') : one1 v' = one1 v := by cases h <;> rfl
theorem VRs.one {R : Ren} : ∀ {l l' : List Value}, VRs R l l' → l'.all one1 = l.all one1
  | _, _, .nil => rfl
  | _, _, .cons h hs => by simp [VR.one h, VRs.one hs]

structure ERel (R : Ren) (e e' : MapEntry) : Prop where
  key : VR R e.key e'.key
  val : VR R e.val e'.val
  born : e'.born = e.born
inductive ERels (R : Ren) : List MapEntry → List MapEntry → Prop
  | nil : ERels R [] []
  | cons {e e' l l'} : ERel R e e' → ERels R l l' → ERels R (e :: l) (e' :: l')

theorem ERel.mono {R R' : Ren} (h : R.le R') {e e' : MapEntry} (k : ERel R e e') : ERel R' e e' := ⟨k.key.mono h, k.val.mono h, k.born⟩
theorem ERels.mono {R R' : Ren} (h : R.le R') : ∀ {l l' : List MapEntry}, ERels R l l' → ERels R' l l'
  | _, _, .nil => .nil
  | _, _, .cons h1 h2 => .cons (h1.mono h) (ERels.mono h h2)
theorem ERels.length {R : Ren} : ∀ {l l' : List MapEntry}, ERels R l l' → l.length = l'.length
  | _, _, .nil => rfl
  | _, _, .cons _ h => by simp [ERels.length h]
theorem ERels.get {R : Ren} : ∀ {l l' : List MapEntry}, ERels R l l' → ∀ (i : Nat) (v : MapEntry), l[i]? = some v → ∃ v', l'[i]? = some v' ∧ ERel R v v'
  | _, _, .nil, i, v, h => by simp at h
  | _, _, .cons (e := u) (e' := u') hu hs, i, v, h => by
    cases i with
    | zero => simp at h; subst h; exact ⟨u', by simp, hu⟩
    | succ i => simpa using ERels.get hs i v (by simpa using h)
theorem ERels.append {R : Ren} {b b' : List MapEntry} (h2 : ERels R b b') : ∀ {a a' : List MapEntry}, ERels R a a' → ERels R (a ++ b) (a' ++ b')
  | _, _, .nil => h2
  | _, _, .cons h hs => .cons h (ERels.append h2 hs)
theorem ERels.modify {R : Ren} {f f' : MapEntry → MapEntry} (hf : ∀ e e', ERel R e e' → ERel R (f e) (f' e')) : ∀ {l l' : List MapEntry}, ERels R l l' → ∀ i, ERels R (l.modify i f) (l'.modify i f')
  | _, _, .nil, i => by simp; exact .nil
  | _, _, .cons h hs, 0 => by simp; exact .cons (hf _ _ h) hs
  | _, _, .cons h hs, i + 1 => by simp; exact .cons h (ERels.modify hf hs i)
theorem ERels.erase {R : Ren} : ∀ {l l' : List MapEntry}, ERels R l l' → ∀ i, ERels R (l.eraseIdx i) (l'.eraseIdx i)
  | _, _, .nil, i => by simp; exact .nil
  | _, _, .cons h hs, 0 => by simp; exact hs
  | _, _, .cons h hs, i + 1 => by simp; exact .cons h (ERels.erase hs i)

/-- Is there something at an id that may be read? -/
def live (H : IHeap) (b : Nat) : Prop := match H.get b with
  | some .dead | none => False
  | some _ => True
/-- .. that may be turned? -/
def liveRW (H : IHeap) (b : Nat) : Prop := match H.get b with
  | some (.cells _ true) | some .dead | none => False
  | some _ => True

def ObjRel (R : Ren) (o : Option IObj) (b : Nat) (w : World) : Prop :=
  match o with
  | some (.cells cs ro) => cs.length = R.len b ∧ R.base b + cs.length ≤ R.size b ∧ ∃ arr t fr, w.heap[R.blk b]? = some (.cells arr t fr) ∧ arr.size = R.size b ∧
      VRs R cs ((arr.toList.drop (R.base b)).take cs.length) ∧ (ro = false → ∀ j, R.base b ≤ j → j < R.size b → ¬ (fr.1 ≤ j ∧ j < fr.2))
  | some (.map es clock) => ∃ es' : Array MapEntry, w.heap[R.blk b]? = some (.map es' clock) ∧ ERels R es es'.toList
  | some (.iter _) => False
  | some .dead => True
  | none => False

structure Sim (R : Ren) (H : IHeap) (w : World) : Prop where
  lt : ∀ b, R.dom b → b < H.next
  obj : ∀ b, R.dom b → ObjRel R (H.get b) b w
  inj : ∀ b c, R.dom b → R.dom c → live H b → live H c → (liveRW H b ∨ liveRW H c) → R.blk b = R.blk c → b = c
  wf : ∀ b, H.next ≤ b → H.get b = none

/-- What has become of heap and world. -/
structure Ext (R : Ren) (H : IHeap) (w : World) (R' : Ren) (H' : IHeap) (w' : World) : Prop where
  le : R.le R'
  next : H.next ≤ H'.next
  new : ∀ b, R'.dom b → R.dom b ∨ H.next ≤ b
  far : ∀ b, b < H.next → ¬ R.dom b → H'.get b = H.get b
  ro : ∀ b cs, H.get b = some (.cells cs true) → b < H.next → H'.get b = some (.cells cs true)
  frame : ∀ k, k < w.heap.size → (∀ b, R.dom b → liveRW H b → R.blk b ≠ k) → w'.heap[k]? = w.heap[k]?
  own : ∀ b, R'.dom b → liveRW H' b → w.heap.size ≤ R'.blk b ∨ ∃ c, R.dom c ∧ liveRW H c ∧ R.blk c = R'.blk b
  size : w.heap.size ≤ w'.heap.size
  os : w'.os = w.os
  tape : w'.tape = w.tape
  output : w'.output = w.output

theorem live_of_liveRW {H : IHeap} {b : Nat} (h : liveRW H b) : live H b := by
  unfold liveRW at h; unfold live
  split at h <;> simp_all

theorem Sim.blk_lt {R : Ren} {H : IHeap} {w : World} (h : Sim R H w) {b : Nat} (hb : R.dom b) (hl : live H b) : R.blk b < w.heap.size := by
  have ho := h.obj b hb
  unfold live at hl
  unfold ObjRel at ho
  cases hg : H.get b with
  | none => simp [hg] at hl
  | some o =>
    rw [hg] at ho hl
    cases o with
    | cells cs ro =>
      obtain ⟨_, _, arr, t, fr, hw, _⟩ := ho
      exact (Array.getElem?_eq_some_iff.1 hw).1
    | map es clock =>
      obtain ⟨es', hw, _⟩ := ho
      exact (Array.getElem?_eq_some_iff.1 hw).1
    | iter o => exact ho.elim
    | dead => simp at hl

theorem Ext.refl (R : Ren) (H : IHeap) (w : World) : Ext R H w R H w :=
  ⟨R.le_refl, Nat.le_refl _, fun _ h => .inl h, fun _ _ _ => rfl, fun _ _ h _ => h, fun _ _ _ => rfl, fun b hb hl => .inr ⟨b, hb, hl, rfl⟩, Nat.le_refl _, rfl, rfl, rfl⟩

theorem Ext.trans {R R' R'' : Ren} {H H' H'' : IHeap} {w w' w'' : World} (h : Ext R H w R' H' w') (k : Ext R' H' w' R'' H'' w'') : Ext R H w R'' H'' w'' where
  le := h.le.trans k.le
  next := Nat.le_trans h.next k.next
  new := fun b hb => by
    rcases k.new b hb with h1 | h1
    · exact h.new b h1
    · exact .inr (Nat.le_trans h.next h1)
  far := fun b hb hn => by
    have hb' : ¬ R'.dom b := fun hd => (h.new b hd).elim hn (fun h1 => by omega)
    rw [k.far b (Nat.lt_of_lt_of_le hb h.next) hb', h.far b hb hn]
  ro := fun b cs hg hb => k.ro b cs (h.ro b cs hg hb) (Nat.lt_of_lt_of_le hb h.next)
  frame := fun i hi hn => by
    rw [k.frame i (Nat.lt_of_lt_of_le hi h.size) ?_, h.frame i hi hn]
    intro b hb hl he
    rcases h.own b hb hl with h1 | ⟨c, hc, hlc, hec⟩
    · omega
    · exact hn c hc hlc (hec.trans he)
  own := fun b hb hl => by
    rcases k.own b hb hl with h1 | ⟨c, hc, hlc, hec⟩
    · exact .inl (Nat.le_trans h.size h1)
    · rcases h.own c hc hlc with h1 | ⟨d, hd, hld, hed⟩
      · exact .inl (hec ▸ h1)
      · exact .inr ⟨d, hd, hld, hed.trans hec⟩
  size := Nat.le_trans h.size k.size
  os := k.os.trans h.os
  tape := k.tape.trans h.tape
  output := k.output.trans h.output

/-- The drawn number alone has turned. -/
theorem Sim.drawn {R : Ren} {H : IHeap} {w : World} (h : Sim R H w) (n : Nat) : Sim R H { w with drawn := n } := ⟨h.lt, fun b hb => h.obj b hb, h.inj, h.wf⟩
theorem Ext.drawn {R R' : Ren} {H H' : IHeap} {w w' : World} {n : Nat} (h : Ext R H { w with drawn := n } R' H' w') : Ext R H w R' H' w' :=
  ⟨h.le, h.next, h.new, h.far, h.ro, h.frame, h.own, h.size, h.os, h.tape, h.output⟩

/-- Of the slots: each as the ideal one. -/
structure TRel (n : Nat) (R : Ren) (T : Env) (tmps : Array Value) : Prop where
  size : tmps.size = n
  get : ∀ t, VR R (T t) (tmps.getD t undef)

theorem VR.undef (R : Ren) : VR R undef undef := .tuple _ _ .nil

theorem TRel.mono {n : Nat} {R R' : Ren} {T : Env} {tmps : Array Value} (h : R.le R') (k : TRel n R T tmps) : TRel n R' T tmps := ⟨k.size, fun t => (k.get t).mono h⟩

theorem TRel.put {n : Nat} {R : Ren} {T : Env} {a : Act} (k : TRel n R T a.tmps) {d : Option Nat} (hd : ∀ x, d = some x → x < n) {v v' : Value} (hv : VR R v v') :
    TRel n R (T.put d v) (a.put d v').tmps := by
  cases d with
  | none => exact k
  | some x =>
    have hx := hd x rfl
    refine ⟨by simp [Act.put, k.size], fun t => ?_⟩
    show VR R (if t = x then v else T t) _
    by_cases h : t = x
    · subst h
      have : t < a.tmps.size := by rw [k.size]; exact hx
      simp [Act.put, this]
      exact hv
    · have hne : x ≠ t := fun e => h e.symm
      have h1 := k.get t
      simp [Act.put, h, Array.getElem?_setIfInBounds_ne hne] at h1 ⊢
      exact h1

theorem put_defers (a : Act) (d : Option Nat) (v : Value) : (a.put d v).defers = a.defers := by cases d <;> rfl

theorem ev_rel {n : Nat} {R : Ren} {T : Env} {a : Act} (k : TRel n R T a.tmps) {x : Operand} (hx : okO x = true) : VR R (ev T x) (a.eval x) := by
  cases x with
  | tmp t => exact k.get t
  | const v => exact VR.of_ground R hx
  | global g => simp [okO] at hx
  | func f => exact .func f _ _ _ _ .nil .nil

theorem evs_rel {n : Nat} {R : Ren} {T : Env} {a : Act} (k : TRel n R T a.tmps) : ∀ {l : List Operand}, okOs l = true → VRs R (l.map (ev T)) (l.map a.eval)
  | [], _ => .nil
  | x :: l, h => by
    simp only [okOs, List.all_cons, Bool.and_eq_true] at h
    exact .cons (ev_rel k h.1) (evs_rel k h.2)

end Go.Proofs.YtpklgklmjhblpaaI
