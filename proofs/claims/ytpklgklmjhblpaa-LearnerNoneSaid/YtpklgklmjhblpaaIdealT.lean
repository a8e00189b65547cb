/- Plain operations in the place of the model's, where the types allow it. -/
import Derived.Test.YtpklgklmjhblpaaIdealS
import Derived.Laws.StructEq
namespace Go.Proofs.YtpklgklmjhblpaaI
set_option linter.unusedSimpArgs false
set_option linter.unusedVariables false
open Go

def kindsFs (P : Program) (K : TypeId → Option (List KS)) : List Field → Nat → Option (List KS)
  | [], _ => some []
  | f :: fs, off => match K f.type with
    | some r =>
      if f.name ≠ "_" ∧ f.offset = off ∧ ((aggT P f.type = some true ∧ sizeT P f.type = some r.length) ∨ (aggT P f.type = some false ∧ r.length = 1)) then (kindsFs P K fs (off + r.length)).map (r ++ ·) else none
    | none => none

/-- The kinds of a type's cells; none where it is no plain one. -/
def kindsT (P : Program) : Nat → TypeId → Option (List KS)
  | 0, _ => none
  | n + 1, t => match P.underlying t with
    | some .bool => some [.b]
    | some (.int k) => some [.i k]
    | some .string => some [.s]
    | some (.struct fs) => if P.stoodInHeld t = true then none else kindsFs P (kindsT P n) fs.toList 0
    | _ => none

def refOp (P : Program) : IOp → IOp
  | .raw (.binOp op t x y yt) ty => match P.underlying t with
    | some (.int _) | some .string => .bin op x y
    | some .bool => match op with
      | .eql => .eqv false [] x y
      | .neq => .eqv true [] x y
      | _ => .raw (.binOp op t x y yt) ty
    | some (.struct _) => match kindsT P 20 t, P.eqGuardType P.depth t, op with
      | some (k :: sh), false, .eql => .eqv false (k :: sh) x y
      | some (k :: sh), false, .neq => .eqv true (k :: sh) x y
      | _, _, _ => .raw (.binOp op t x y yt) ty
    | _ => .raw (.binOp op t x y yt) ty
  | .raw (.unOp op _ x) _ => .un op x
  | .raw (.convert s d x) ty => match P.underlying s, P.underlying d with
    | some (.int _), some (.int k) => .conv k x
    | _, _ => .raw (.convert s d x) ty
  | .raw (.call ⟨.builtin b, args, tys⟩) ty => match b, args.toList, tys.toList with
    | .len, [x], [t] => match P.underlying t with
      | some .string => .strLen x
      | _ => .raw (.call ⟨.builtin b, args, tys⟩) ty
    | .max, [x, y], _ => .mxn true x y
    | .min, [x, y], _ => .mxn false x y
    | _, _, _ => .raw (.call ⟨.builtin b, args, tys⟩) ty
  | .raw (.index t x i) ty => match P.underlying t with
    | some .string => .strIdx x i
    | _ => .raw (.index t x i) ty
  | .raw (.slice t x lo hi none) ty => match P.underlying t with
    | some .string => .strSl x lo hi
    | _ => .raw (.slice t x lo hi none) ty
  | .raw (.panic _) _ => .never
  | o => o

theorem pureRun_some {α : Type} {P : Program} {s : Sem α} {a : α} (h : pureRun P s = some a) {β : Type} (f : α → Sem β) : pureRun P (s >>= f) = pureRun P (f a) := by rw [pureRun_bind', h]; rfl

section
variable {P : Program} {T : Env} {H : IHeap}

theorem raw_ok {o : Op} {ty : TypeId} {v : Value} (ho : ∀ x ∈ o.operands.toList, scal (ev T x) = true) (hr : pureRun P (execOp (ev T) ⟨none, o, ty, "", #[], none⟩) = some (.value v)) (hv : scal v = true) :
    ird P T H (.raw o ty) = some v := by
  have hall : o.operands.toList.all (fun x => scal (ev T x)) = true := List.all_eq_true.2 ho
  simp only [ird, hall, if_true, hr, hv]

theorem dec_data (a b : ByteArray) : decide (a.data.toList = b.data.toList) = decide (a = b) := by
  have : (a.data.toList = b.data.toList) ↔ a = b := by
    constructor
    · intro h
      obtain ⟨⟨x⟩⟩ := a
      obtain ⟨⟨y⟩⟩ := b
      simp at h; rw [h]
    · rintro rfl; rfl
  simp [this]

theorem str_append (a b : ByteArray) : (Value.string (a ++ b)) = strV (a.data.toList ++ b.data.toList) := by
  unfold strV
  congr 1

theorem bin_sound {op : BinOp} {t yt ty : TypeId} {x y : Operand} {v : Value} (h : bin2 op (ev T x) (ev T y) = some v) :
    ird P T H (.raw (.binOp op t x y yt) ty) = some v := by
  generalize hx : ev T x = vx at h
  generalize hy : ev T y = vy at h
  have hs : scal vx = true → scal vy = true → ∀ z ∈ (Op.binOp op t x y yt).operands.toList, scal (ev T z) = true := by
    intro h1 h2 z hz
    simp [Op.operands] at hz
    rcases hz with rfl | rfl
    · rw [hx]; exact h1
    · rw [hy]; exact h2
  unfold bin2 at h
  split at h
  · rename_i k a k' b
    have hg : pureRun P (eqGuard op t x y (.int k a) (.int k' b)) = some () := by cases op <;> rfl
    refine raw_ok (hs rfl rfl) ?_ ?_
    · simp only [execOp, hx, hy]
      rw [pureRun_bind', pureRun_some hg]
      cases op <;> simp only [] at h <;> first
        | (split at h
           · rename_i hk; subst hk
             simp only [int2, Option.some.injEq] at h
             first
               | (subst h; simp [binOp, Op.intArith, Op.intBits, Op.intCmp, pureRun, pure, Sem.pure] <;> (first | rfl | (congr 1; simp) | skip); done)
               | (split at h
                  · cases h
                  · rename_i h0; injection h with h; subst h; simp [binOp, Op.intDiv, h0, pureRun, pure]; done)
               | (subst h; simp only [binOp, Op.intArith, Op.intBits, Op.intCmp, ne_eq, not_true_eq_false, if_false]; rfl)
           · cases h)
        | (simp only [shf2] at h
           split at h
           · cases h
           · rename_i h0; simp at h; subst h; simp [binOp, Op.shift, h0, pureRun, pure]; done)
    · cases op <;> simp only [int2, shf2] at h <;> (repeat' split at h) <;> first | (injection h with h; subst h; rfl) | cases h
  · rename_i a b
    have hg : pureRun P (eqGuard op t x y (.string a) (.string b)) = some () := by cases op <;> rfl
    refine raw_ok (hs rfl rfl) ?_ ?_
    · simp only [execOp, hx, hy]
      rw [pureRun_bind', pureRun_some hg]
      have e1 : (a.toList == b.toList) = decide (a.data.toList = b.data.toList) := by rw [ByteArray.toList_eq, ByteArray.toList_eq]; rw [Bool.eq_iff_iff]; simp
      have hb : ∀ u, str2 op a.data.toList b.data.toList = some u → pureRun P (binOp op t (.string a) (.string b)) = some u := by
        intro u hu
        cases op <;> simp only [str2] at hu <;> first
          | (injection hu with hu; subst hu; simp only [binOp, Op.stringOp, e1]; simp [ByteArray.toList_eq, pureRun, pure]; done)
          | (split at hu
             · cases hu
             · rename_i h0
               injection hu with hu; subst hu
               simp only [binOp, Op.stringOp]
               have h1 : ¬ (((a.size + b.size : Nat) : Int) > IntKind.i64.max) := by simpa using h0
               rw [if_neg h1, str_append]; rfl)
          | cases hu
      rw [hb _ h]; rfl
    · cases op <;> simp only [str2] at h <;> (repeat' split at h) <;> first | (injection h with h; subst h; rfl) | cases h
  · cases h

/-! ### Equality -/

theorem bool_sound {neg : Bool} {t yt ty : TypeId} {x y : Operand} {v : Value} (ht : P.underlying t = some .bool) (h : ird P T H (.eqv neg [] x y) = some v) :
    ird P T H (.raw (.binOp (if neg then .neq else .eql) t x y yt) ty) = some v := by
  simp only [ird] at h
  generalize hx : ev T x = vx at h
  generalize hy : ev T y = vy at h
  split at h
  · simp at h
  · rename_i a b
    simp at h
    subst h
    refine raw_ok ?_ ?_ rfl
    · intro z hz
      simp [Op.operands] at hz
      rcases hz with rfl | rfl
      · rw [hx]; rfl
      · rw [hy]; rfl
    · have he : pureRun P (Op.equal t (.bool a) (.bool b)) = some (a == b) := by
        unfold Op.equal Op.maxDepth
        rw [Op.equalIn, pureRun_some (pureRun_under ht)]
        rfl
      simp only [execOp, hx, hy]
      cases neg
      · have hg : pureRun P (eqGuard .eql t x y (.bool a) (.bool b)) = some () := rfl
        simp only [Bool.false_eq_true, if_false]
        rw [pureRun_bind', pureRun_some hg]
        simp only [binOp]
        rw [pureRun_some he]
        simp [pureRun, pure]
      · have hg : pureRun P (eqGuard .neq t x y (.bool a) (.bool b)) = some () := rfl
        simp only [if_true]
        rw [pureRun_bind', pureRun_some hg]
        simp only [binOp]
        rw [pureRun_some he]
        simp [pureRun, pure]
  · cases h

theorem pure_equalIn_struct {d : Nat} {t : TypeId} {fs : Array Field} {xs ys : Array Value} (ht : P.underlying t = some (.struct fs)) (hp : P.stoodInHeld t = false) :
    pureRun P (Op.equalIn (d + 1) t (.agg xs) (.agg ys)) = pureRun P (Op.eqFields d xs ys fs.toList) := by
  simp only [Op.equalIn]
  rw [pureRun_some (pureRun_under ht)]
  simp only []
  have hpr : pureRun P program = some P := rfl
  rw [pureRun_bind', hpr]
  simp only [Option.bind_some, hp, Bool.false_eq_true, if_false]
  rw [← Array.forIn_toList]
  generalize fs.toList = l
  clear ht
  induction l with
  | nil => simp [Op.eqFields, pureRun_bind', pureRun_pure]
  | cons f l ih =>
    simp only [List.forIn_cons, Op.eqFields]
    split
    · simp only [bind_assoc]
      rw [pureRun_bind', pureRun_bind']
      congr 1
      funext a
      rw [pureRun_bind', pureRun_bind']
      congr 1
      funext b
      rw [pureRun_bind', pureRun_bind']
      congr 1
      funext r
      cases r
      · simp [pureRun_pure]
      · simp only [Bool.not_true, Bool.false_eq_true, if_false, pure_bind]
        exact ih
    · simp only [pure_bind]
      exact ih

theorem shOk_length : ∀ {sh : List KS} {l : List Value}, shOk sh l = true → l.length = sh.length
  | [], [], _ => rfl
  | [], _ :: _, h => by simp [shOk] at h
  | k :: sh, [], h => by cases k <;> simp [shOk] at h
  | k :: sh, v :: l, h => by
    have : shOk sh l = true := by
      cases k <;> cases v <;> simp [shOk] at h <;> first | exact h | exact h.2
    simp [shOk_length this]

theorem shOk_append : ∀ {a b : List KS} {l : List Value}, shOk (a ++ b) l = true → ∃ x y, l = x ++ y ∧ shOk a x = true ∧ shOk b y = true
  | [], b, l, h => ⟨[], l, rfl, rfl, h⟩
  | k :: a, b, [], h => by cases k <;> simp [shOk] at h
  | k :: a, b, v :: l, h => by
    have hsub : shOk (a ++ b) l = true ∧ ∀ z, shOk a z = true → shOk (k :: a) (v :: z) = true := by
      cases k <;> cases v <;> simp [shOk] at h ⊢ <;> first | exact h | exact ⟨h.2, fun z hz => ⟨h.1, hz⟩⟩ | exact ⟨h, fun z hz => hz⟩
    obtain ⟨x, y, rfl, h1, h2⟩ := shOk_append hsub.1
    exact ⟨v :: x, y, rfl, hsub.2 x h1, h2⟩

theorem eqL_append : ∀ {a c b d : List Value}, a.length = c.length → eqL (a ++ b) (c ++ d) = (eqL a c && eqL b d)
  | [], [], _, _, _ => by simp [eqL]
  | [], _ :: _, _, _, h => by simp at h
  | _ :: _, [], _, _, h => by simp at h
  | x :: a, y :: c, b, d, h => by simp [eqL, eqL_append (a := a) (c := c) (by simpa using h), Bool.and_assoc]

theorem pureRun_isAgg {t : TypeId} {b : Bool} (h : aggT P t = some b) : pureRun P (isAgg t) = some b := by
  unfold aggT at h
  cases hu : P.underlying t with
  | none => simp [hu] at h
  | some d =>
    unfold isAgg
    rw [pureRun_some (pureRun_under hu)]
    cases d <;> simp [hu] at h <;> subst h <;> rfl

theorem pureRun_sizeOf {t : TypeId} {n : Nat} (h : sizeT P t = some n) : pureRun P (sizeOf t) = some n := by
  unfold sizeT at h
  cases hi : P.info? t with
  | none => simp [hi] at h
  | some i =>
    simp [hi] at h
    unfold sizeOf typeInfo
    simp only [bind_assoc]
    have hpr : pureRun P program = some P := rfl
    rw [pureRun_bind', hpr]
    simp only [Option.bind_some, hi]
    subst h
    rfl

theorem eq_kinds : ∀ (n : Nat) (t : TypeId) (sh : List KS), kindsT P n t = some sh → ∀ D, n ≤ D → ∀ cx cy : List Value, shOk sh cx = true → shOk sh cy = true →
    (aggT P t = some true → pureRun P (Op.equalIn D t (.agg cx.toArray) (.agg cy.toArray)) = some (eqL cx cy)) ∧
    (aggT P t = some false → ∀ vx vy, cx = [vx] → cy = [vy] → pureRun P (Op.equalIn D t vx vy) = some (eqL cx cy)) := by
  intro n
  induction n with
  | zero => intro t sh h; simp [kindsT] at h
  | succ n ih =>
    intro t sh h D hD cx cy hx hy
    obtain ⟨d, rfl⟩ : ∃ d, D = d + 1 := ⟨D - 1, by omega⟩
    simp only [kindsT] at h
    split at h
    · rename_i hu
      injection h with h; subst h
      refine ⟨fun ha => by simp [aggT, hu] at ha, fun _ vx vy h1 h2 => ?_⟩
      subst h1; subst h2
      cases vx <;> simp [shOk] at hx
      cases vy <;> simp [shOk] at hy
      simp only [Op.equalIn]
      rw [pureRun_some (pureRun_under hu)]
      simp [eqL, eq1, pureRun, pure]
    · rename_i k hu
      injection h with h; subst h
      refine ⟨fun ha => by simp [aggT, hu] at ha, fun _ vx vy h1 h2 => ?_⟩
      subst h1; subst h2
      cases vx <;> simp [shOk] at hx
      cases vy <;> simp [shOk] at hy
      subst hx; subst hy
      simp only [Op.equalIn]
      rw [pureRun_some (pureRun_under hu)]
      simp [eqL, eq1, pureRun, pure]
      rfl
    · rename_i hu
      injection h with h; subst h
      refine ⟨fun ha => by simp [aggT, hu] at ha, fun _ vx vy h1 h2 => ?_⟩
      subst h1; subst h2
      cases vx <;> simp [shOk] at hx
      cases vy <;> simp [shOk] at hy
      rename_i a b
      simp only [Op.equalIn]
      rw [pureRun_some (pureRun_under hu)]
      have : (a == b) = decide (a = b) := by
        rw [beq_toListBytes, ByteArray.toList_eq, ByteArray.toList_eq, ← dec_data, Bool.eq_iff_iff]; simp
      simp [eqL, eq1, pureRun, pure, this]
    · rename_i fs hu
      split at h
      · cases h
      rename_i hst
      have hst : P.stoodInHeld t = false := by simpa using hst
      refine ⟨fun _ => ?_, fun ha => by simp [aggT, hu] at ha⟩
      rw [pure_equalIn_struct hu hst]
      have key : ∀ (l : List Field) (off : Nat) (s : List KS), kindsFs P (kindsT P n) l off = some s → ∀ px py ux uy : List Value, px.length = off → py.length = off → shOk s ux = true → shOk s uy = true →
          pureRun P (Op.eqFields d (px ++ ux).toArray (py ++ uy).toArray l) = some (eqL ux uy) := by
        intro l
        induction l with
        | nil =>
          intro off s hs px py ux uy _ _ h1 h2
          simp only [kindsFs, Option.some.injEq] at hs
          subst hs
          have := shOk_length h1; have := shOk_length h2
          cases ux <;> cases uy <;> simp_all [Op.eqFields, eqL, pureRun_pure]
        | cons f l ihl =>
          intro off s hs px py ux uy hpx hpy h1 h2
          simp only [kindsFs] at hs
          split at hs
          case h_2 => cases hs
          rename_i r hr
          split at hs
          case isFalse => cases hs
          rename_i hcond
          obtain ⟨hn, hoff, hag⟩ := hcond
          simp only [Option.map_eq_some_iff] at hs
          obtain ⟨s', hs', rfl⟩ := hs
          obtain ⟨x1, x2, rfl, k1, k2⟩ := shOk_append h1
          obtain ⟨y1, y2, rfl, m1, m2⟩ := shOk_append h2
          have lx := shOk_length k1
          have ly := shOk_length m1
          have hrest := ihl (off + r.length) s' hs' (px ++ x1) (py ++ y1) x2 y2 (by simp [hpx, lx]) (by simp [hpy, ly]) k2 m2
          simp only [List.append_assoc] at hrest
          rw [eqL_append (lx.trans ly.symm)]
          simp only [Op.eqFields, if_pos hn]
          have hk := ih f.type r hr d (by omega) x1 y1 k1 m1
          have fin : ∀ va vb, pureRun P (part f.type (px ++ (x1 ++ x2)).toArray f.offset) = some va → pureRun P (part f.type (py ++ (y1 ++ y2)).toArray f.offset) = some vb → pureRun P (Op.equalIn d f.type va vb) = some (eqL x1 y1) →
              pureRun P (part f.type (px ++ (x1 ++ x2)).toArray f.offset >>= fun a => part f.type (py ++ (y1 ++ y2)).toArray f.offset >>= fun b => Op.equalIn d f.type a b >>= fun r => if (!r) = true then pure false else Op.eqFields d (px ++ (x1 ++ x2)).toArray (py ++ (y1 ++ y2)).toArray l) = some (eqL x1 y1 && eqL x2 y2) := by
            intro va vb e1 e2 e3
            rw [pureRun_some e1, pureRun_some e2, pureRun_some e3]
            cases eqL x1 y1
            · simp [pureRun_pure]
            · simpa using hrest
          rcases hag with ⟨ha, hsz⟩ | ⟨ha, hl1⟩
          · refine fin (.agg x1.toArray) (.agg y1.toArray) ?_ ?_ (hk.1 ha)
            · unfold part
              rw [pureRun_some (pureRun_isAgg ha)]
              simp only [if_true]
              rw [pureRun_some (pureRun_sizeOf hsz), hoff, ← hpx, ← lx]
              simp [pureRun, pure]
            · unfold part
              rw [pureRun_some (pureRun_isAgg ha)]
              simp only [if_true]
              rw [pureRun_some (pureRun_sizeOf hsz), hoff, ← hpy, ← ly]
              simp [pureRun, pure]
          · match x1, lx, y1, ly with
            | [va], _, [vb], _ =>
              refine fin va vb ?_ ?_ (hk.2 ha va vb rfl rfl)
              · unfold part
                rw [pureRun_some (pureRun_isAgg ha), hoff, ← hpx]
                simp [pureRun, pure]
              · unfold part
                rw [pureRun_some (pureRun_isAgg ha), hoff, ← hpy]
                simp [pureRun, pure]
            | [], l1, _, _ => simp [hl1] at l1
            | _ :: _ :: _, l1, _, _ => simp [hl1] at l1
            | [_], _, [], l1 => simp [hl1] at l1
            | [_], _, _ :: _ :: _, l1 => simp [hl1] at l1
      exact key fs.toList 0 sh h [] [] cx cy rfl rfl hx hy
    · cases h

theorem scal1_shOk : ∀ {sh : List KS} {l : List Value}, shOk sh l = true → l.all scal1 = true
  | [], [], _ => rfl
  | [], _ :: _, h => by simp [shOk] at h
  | k :: sh, [], h => by cases k <;> simp [shOk] at h
  | k :: sh, v :: l, h => by
    have : scal1 v = true ∧ shOk sh l = true := by
      cases k <;> cases v <;> simp [shOk] at h <;> first | exact ⟨rfl, h⟩ | exact ⟨rfl, h.2⟩
    simp [this.1, scal1_shOk this.2]

theorem eqv_sound {neg : Bool} {t yt ty : TypeId} {x y : Operand} {v : Value} {sh : List KS} {fs : Array Field} (hu : P.underlying t = some (.struct fs)) (hk : kindsT P 20 t = some sh) (hg : P.eqGuardType P.depth t = false) (hne : sh ≠ [])
    (h : ird P T H (.eqv neg sh x y) = some v) : ird P T H (.raw (.binOp (if neg then .neq else .eql) t x y yt) ty) = some v := by
  simp only [ird] at h
  generalize hx : ev T x = vx at h
  generalize hy : ev T y = vy at h
  split at h
  · rename_i a b
    split at h
    case isFalse => cases h
    rename_i hc
    injection h with h
    subst h
    refine raw_ok ?_ ?_ rfl
    · intro z hz
      simp [Op.operands] at hz
      rcases hz with rfl | rfl
      · rw [hx]; exact scal1_shOk hc.2.1
      · rw [hy]; exact scal1_shOk hc.2.2
    · have ha : aggT P t = some true := by simp [aggT, hu]
      have he : pureRun P (Op.equal t (.agg a) (.agg b)) = some (eqL a.toList b.toList) := by
        unfold Op.equal Op.maxDepth
        exact (eq_kinds 20 t sh hk 10000 (by omega) a.toList b.toList hc.2.1 hc.2.2).1 ha
      have hgd : ∀ op, pureRun P (eqGuard op t x y (.agg a) (.agg b)) = some () := by
        intro op
        have hpr : pureRun P program = some P := rfl
        cases op <;> simp [eqGuard, pureRun_bind', hpr, hg, pureRun_pure]
      simp only [execOp, hx, hy]
      cases neg
      · simp only [Bool.false_eq_true, if_false]
        rw [pureRun_bind', pureRun_some (hgd _)]
        simp only [binOp]
        rw [pureRun_some he]
        simp [pureRun, pure]
      · simp only [if_true]
        rw [pureRun_bind', pureRun_some (hgd _)]
        simp only [binOp]
        rw [pureRun_some he]
        simp [pureRun, pure]
  · simp [hne] at h
  · cases h

theorem un_sound {op : UnOp} {t ty : TypeId} {x : Operand} {v : Value} (h : ird P T H (.un op x) = some v) : ird P T H (.raw (.unOp op t x) ty) = some v := by
  simp only [ird] at h
  generalize hx : ev T x = vx at h
  unfold un1 at h
  have hs : scal vx = true → ∀ z ∈ (Op.unOp op t x).operands.toList, scal (ev T z) = true := by
    intro h1 z hz
    simp [Op.operands] at hz
    subst hz; rw [hx]; exact h1
  split at h
  · injection h with h; subst h
    exact raw_ok (hs rfl) (by simp only [execOp, hx]; rfl) rfl
  · injection h with h; subst h
    exact raw_ok (hs rfl) (by simp only [execOp, hx]; rfl) rfl
  · simp only [int2, Option.some.injEq] at h; subst h
    exact raw_ok (hs rfl) (by simp only [execOp, hx]; rfl) rfl
  · cases h

theorem conv_sound {s d ty : TypeId} {k k0 : IntKind} {x : Operand} {v : Value} (hs : P.underlying s = some (.int k0)) (hd : P.underlying d = some (.int k)) (h : ird P T H (.conv k x) = some v) : ird P T H (.raw (.convert s d x) ty) = some v := by
  simp only [ird] at h
  split at h
  · rename_i kk n hx
    injection h with h; subst h
    refine raw_ok (by intro z hz; simp [Op.operands] at hz; subst hz; rw [hx]; rfl) ?_ rfl
    simp only [execOp, hx, convert]
    rw [pureRun_bind', pureRun_some (pureRun_under hs), pureRun_some (pureRun_under hd)]
    rfl
  · cases h

theorem strLen_sound {t ty : TypeId} {x : Operand} {args : Array Operand} {tys : Array TypeId} {v : Value} (ht : P.underlying t = some .string) (ha : args.toList = [x]) (hy : tys.toList = [t]) (h : ird P T H (.strLen x) = some v) :
    ird P T H (.raw (.call ⟨.builtin .len, args, tys⟩) ty) = some v := by
  obtain rfl : args = #[x] := by cases args; simp_all
  obtain rfl : tys = #[t] := by cases tys; simp_all
  simp only [ird] at h
  split at h
  · rename_i s hx
    injection h with h; subst h
    refine raw_ok (by intro z hz; simp [Op.operands, Call.operands] at hz; subst hz; rw [hx]; rfl) ?_ rfl
    have e : execOp (ev T) ⟨none, .call ⟨.builtin .len, #[x], #[t]⟩, ty, "", #[], none⟩ = (do pure (.value (← Builtin.len_ #[t] ty #[ev T x]))) := by
      simp [execOp, resolve, invoke, builtin]
    rw [e, hx]
    unfold Builtin.len_
    rw [pureRun_bind']
    simp only [List.getElem?_toArray, List.getElem?_cons_zero]
    rw [pureRun_some (pureRun_under ht)]
    rfl
  · cases h

theorem mxn_sound {mx : Bool} {ty : TypeId} {x y : Operand} {args : Array Operand} {tys : Array TypeId} {v : Value} (ha : args.toList = [x, y]) (h : ird P T H (.mxn mx x y) = some v) :
    ird P T H (.raw (.call ⟨.builtin (if mx then .max else .min), args, tys⟩) ty) = some v := by
  obtain rfl : args = #[x, y] := by cases args; simp_all
  simp only [ird] at h
  split at h
  · rename_i k a k' b hx hy
    injection h with h; subst h
    refine raw_ok (by intro z hz; simp [Op.operands, Call.operands] at hz; rcases hz with rfl | rfl; rw [hx]; rfl; rw [hy]; rfl) ?_ rfl
    cases mx
    · have e : execOp (ev T) ⟨none, .call ⟨.builtin .min, #[x, y], tys⟩, ty, "", #[], none⟩ = (do pure (.value (← Builtin.min_ tys ty #[ev T x, ev T y]))) := by
        simp [execOp, resolve, invoke, builtin]
      simp only [Bool.false_eq_true, if_false]
      rw [e, hx, hy]; rfl
    · have e : execOp (ev T) ⟨none, .call ⟨.builtin .max, #[x, y], tys⟩, ty, "", #[], none⟩ = (do pure (.value (← Builtin.max_ tys ty #[ev T x, ev T y]))) := by
        simp [execOp, resolve, invoke, builtin]
      simp only [if_true]
      rw [e, hx, hy]; rfl
  · cases h

theorem strIdx_sound {t ty : TypeId} {x i : Operand} {v : Value} (ht : P.underlying t = some .string) (h : ird P T H (.strIdx x i) = some v) : ird P T H (.raw (.index t x i) ty) = some v := by
  simp only [ird] at h
  split at h
  · rename_i s k j hx hi
    split at h
    · rename_i hj
      simp only [Option.map_eq_some_iff] at h
      obtain ⟨b, hb, rfl⟩ := h
      refine raw_ok (by intro z hz; simp [Op.operands] at hz; rcases hz with rfl | rfl; rw [hx]; rfl; rw [hi]; rfl) ?_ rfl
      have hb' : s[j.toNat]? = some b := by
        have hlt : j.toNat < s.data.toList.length := (List.getElem?_eq_some_iff.1 hb).1
        have e : s[j.toNat]? = s.data.toList[j.toNat]? := by
          simp only [getElem?_def]
          have h1 : j.toNat < s.size := by simpa using hlt
          simp [h1, hlt]
          rfl
        rw [e, hb]
      simp only [execOp, hx, hi, Instr.index]
      have hii : pureRun P (asIntOf (.int k j)) = some (k, j) := rfl
      rw [pureRun_bind', pureRun_some hii]
      simp only []
      rw [pureRun_some (pureRun_under ht)]
      simp only [hj, if_true, hb']
      rfl
    · cases h
  · cases h

theorem extract_data (s : ByteArray) (l h : Nat) : (Value.string (s.extract l h)) = strV ((s.data.toList.drop l).take (h - l)) := by
  unfold strV
  congr 1
  apply ByteArray.ext
  rw [ByteArray.data_extract]
  obtain ⟨⟨d⟩⟩ := s
  simp

theorem bound_ok {T : Env} {x : Operand} {n y : Nat} {code : BoundsCode} (h : natI T x = some n) (hy : n ≤ y) : pureRun P (Instr.sliceBound (ev T x) y code) = some n := by
  unfold natI at h
  split at h
  · rename_i k i hx
    split at h
    · rename_i h0
      injection h with h
      rw [hx]
      unfold Instr.sliceBound
      have hii : pureRun P (asIntOf (.int k i)) = some (k, i) := rfl
      rw [pureRun_some hii]
      simp only []
      rw [if_pos ⟨h0, by omega⟩, h]; rfl
    · cases h
  · cases h

theorem strSl_sound {t ty : TypeId} {x : Operand} {lo hi : Option Operand} {v : Value} (ht : P.underlying t = some .string) (h : ird P T H (.strSl x lo hi) = some v) : ird P T H (.raw (.slice t x lo hi none) ty) = some v := by
  simp only [ird] at h
  split at h
  · rename_i s hx
    split at h
    · rename_i l hh m hb
      split at h
      · rename_i hle
        injection h with h; subst h
        unfold boundsI at hb
        simp only [Option.isSome_none, Bool.false_eq_true, if_false] at hb
        have hnat : ∀ y n, natI T y = some n → scal (ev T y) = true := by
          intro y n hy
          unfold natI at hy
          split at hy
          · rename_i hq; rw [hq]; rfl
          · cases hy
        have hsize : s.data.toList.length = s.size := by simp
        rw [hsize] at hb hle
        have hcase : ∀ (A B : Option Nat), (match some (none : Option Nat), B, A with | some m, some h, some l => if l ≤ h ∧ h ≤ m.getD h then some (l, h, m) else none | _, _, _ => none) = some (l, hh, m) → A = some l ∧ B = some hh ∧ l ≤ hh := by
          intro A B hq
          cases A <;> cases B <;> simp at hq
          obtain ⟨h1, h2, h3, _⟩ := hq
          subst h2; subst h3
          exact ⟨rfl, rfl, h1⟩
        obtain ⟨h1, h2, h3⟩ := hcase _ _ hb
        clear hb
        have hrun : pureRun P (Instr.slice t (ev T x) (lo.map (ev T)) (hi.map (ev T)) none) = some (.string (s.extract l hh)) := by
          unfold Instr.slice
          rw [hx, pureRun_some (pureRun_under ht)]
          simp only [Option.isSome_none, Bool.false_eq_true, if_false]
          have hbd : pureRun P (Instr.sliceBounds false s.size s.size (lo.map (ev T)) (hi.map (ev T)) none) = some (l, hh, s.size) := by
            unfold Instr.sliceBounds
            simp only [pure_bind]
            cases hi with
            | none =>
              simp only [Option.some.injEq] at h2
              subst h2
              cases lo with
              | none => simp only [Option.some.injEq] at h1; subst h1; rfl
              | some y =>
                simp only [Option.map_some, Option.map_none, pure_bind]
                rw [pureRun_some (bound_ok h1 h3)]; rfl
            | some z =>
              simp only [Option.map_some, pure_bind]
              rw [pureRun_some (bound_ok h2 hle)]
              cases lo with
              | none => simp only [Option.some.injEq] at h1; subst h1; rfl
              | some y =>
                simp only [Option.map_some]
                rw [pureRun_some (bound_ok h1 h3)]; rfl
          rw [pureRun_some hbd]
          rfl
        refine raw_ok ?_ ?_ rfl
        · intro z hz
          cases lo <;> cases hi <;> simp [Op.operands] at hz <;> first
            | (subst hz; rw [hx]; rfl)
            | (rcases hz with rfl | rfl
               · rw [hx]; rfl
               · first | exact hnat _ _ h1 | exact hnat _ _ h2)
            | (rcases hz with rfl | rfl | rfl
               · rw [hx]; rfl
               · exact hnat _ _ h1
               · exact hnat _ _ h2)
        · have e : pureRun P (execOp (ev T) ⟨none, .slice t x lo hi none, ty, "", #[], none⟩) = pureRun P (do pure (.value (← Instr.slice t (ev T x) (lo.map (ev T)) (hi.map (ev T)) none)) : Sem Next) := by
            simp only [execOp, Option.map_none]
            rw [pureRun_bind', pureRun_bind']
            congr 1
            unfold Instr.sliceAt
            rw [pureRun_some (pureRun_under ht)]
          rw [e, pureRun_some hrun, extract_data]; rfl
      · cases h
    · cases h
  · cases h

end
end Go.Proofs.YtpklgklmjhblpaaI
