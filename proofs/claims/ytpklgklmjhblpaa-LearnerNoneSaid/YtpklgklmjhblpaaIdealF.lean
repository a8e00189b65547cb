/- Each operation that turns nothing yields in the model what it yields in the ideal heap. -/
import Derived.Test.YtpklgklmjhblpaaIdealE
namespace Go.Proofs.YtpklgklmjhblpaaI
set_option linter.unusedSimpArgs false
set_option linter.unusedVariables false
open Go

section
variable {P : Program} {n : Nat} {R : Ren} {H : IHeap} {w : World} {T : Env} {a : Act}

theorem bytes_run (P : Program) (w : World) : ∀ (l : List Value) (l8 : List UInt8) (acc : ByteArray), bytesL l = some l8 →
    (forIn l acc (fun (c : Value) (r : ByteArray) => (match c with
      | .int .u8 n => do
        let s := r.push (UInt8.ofNat n.toNat)
        pure (ForInStep.yield s)
      | _ => stuck "bytesToString: byte expected" : Sem (ForInStep ByteArray)))).run P w = .ok ⟨acc.data ++ l8.toArray⟩ w
  | [], l8, acc, h => by
    simp only [bytesL, Option.some.injEq] at h
    subst h
    simp
  | v :: l, l8, acc, h => by
    unfold bytesL at h
    split at h
    · rename_i h1; cases h1
    · rename_i k r hv
      injection hv with h1 h2
      subst h1; subst h2
      cases hr : bytesL l with
      | none => simp [hr] at h
      | some r8 =>
        simp only [hr, Option.map_some, Option.some.injEq] at h
        subst h
        simp only [List.forIn_cons, Sem.run_bind, Sem.run_pure, Result.andThen_ok]
        rw [bytes_run P w l r8 _ hr]
        simp [ByteArray.push]
    · cases h

theorem bytesL_rel : ∀ {l l' : List Value} {b : List UInt8}, VRs R l l' → bytesL l = some b → bytesL l' = some b
  | _, _, _, .nil, h => h
  | _, _, b, .cons (v := v) (v' := v') (l := l) (l' := l') hv hs, h => by
    unfold bytesL at h
    split at h
    · rename_i h1; cases h1
    · rename_i k r he
      injection he with h1 h2
      subst h1; subst h2
      rw [hv.int_inv]
      cases hr : bytesL l with
      | none => rw [hr] at h; simp at h
      | some r8 => simp only [bytesL]; rw [bytesL_rel hs hr]; rw [hr] at h; exact h
    · cases h

theorem isNone_rel {v v' : Value} {k : Nat} {b : Bool} (hv : VR R v v') (h : nilOf k v = some b) : nilOf k v' = some b := by
  rcases k with _ | _ | _ | _ | _ | k <;> cases hv <;> first | exact h | (simp [nilOf] at h ⊢; exact h)

theorem nil_run {t : TypeId} {d : TypeDesc} {c x : Value} {k : Nat} {b : Bool} (hu : P.underlying t = some d) (hk : nilKind d c = some k) (hx : nilOf k x = some b) (w : World) :
    (Op.equal t x c).run P w = .ok b w := by
  unfold Op.equal Op.maxDepth
  rw [show (10000 : Nat) = 9999 + 1 from rfl]
  unfold Op.equalIn
  simp only [Sem.run_bind, run_under hu, Result.andThen_ok]
  unfold nilKind at hk
  split at hk <;> simp at hk <;> subst hk <;> unfold nilOf at hx <;> split at hx <;> simp_all <;> (try subst_vars) <;> first
    | rfl
    | (rename_i a _; cases a <;> rfl)
    | skip
  all_goals (first | rfl | (rename_i a _ _ _; cases a <;> rfl) | (rename_i a _ _; cases a <;> rfl) | (rename_i a; cases a <;> rfl))

theorem nil_guard {t : TypeId} {d : TypeDesc} {c v : Value} {k : Nat} {b : Bool} {op : BinOp} {x : Operand} (hk : nilKind d c = some k) (hx : nilOf k v = some b) (w : World) :
    (eqGuard op t x (.const c) v c).run P w = .ok () w := by
  unfold nilKind at hk
  split at hk <;> simp at hk <;> subst hk <;> unfold nilOf at hx <;> split at hx <;> simp_all <;> cases op <;> first | rfl | (cases x <;> rfl)

theorem binOp_eql_nil {t : TypeId} {c u : Value} {k : Nat} {b : Bool} (hx : nilOf k u = some b) : binOp .eql t u c = (do pure (.bool (← Op.equal t u c))) := by
  unfold nilOf at hx; split at hx <;> first | rfl | cases hx
theorem binOp_neq_nil {t : TypeId} {c u : Value} {k : Nat} {b : Bool} (hx : nilOf k u = some b) : binOp .neq t u c = (do pure (.bool (!(← Op.equal t u c)))) := by
  unfold nilOf at hx; split at hx <;> first | rfl | cases hx

theorem sim_eq {dst : Option Tmp} {t yt ty : TypeId} {x y : Operand} {pos : String} {after : Array Edge} {g : Option (Nat × Bool)} {op : BinOp} {neg : Bool} {v : Value}
    (hop : (op = .eql ∧ neg = false) ∨ (op = .neq ∧ neg = true)) (hT : TRel n R T a.tmps) (hok : okOs (Op.binOp op t x y yt).operands.toList = true)
    (h : ird P T H (compEq P (.binOp op t x y yt) ty neg t x y) = some v) (w : World) :
    ∃ v', (execOp a.eval ⟨dst, .binOp op t x y yt, ty, pos, after, g⟩).run P w = .ok (.value v') w ∧ VR R v v' := by
  unfold compEq at h
  split at h
  · rename_i x' _ _ _ d c hu
    split at h
    · rename_i k hk
      simp only [ird] at h
      cases hx : nilOf k (ev T x') with
      | none => rw [hx] at h; simp at h
      | some b =>
        rw [hx] at h
        simp only [Option.map_some, Option.some.injEq] at h
        subst h
        have hox : okO x' = true := okOs_mem hok (by simp [Op.operands])
        have hx' := isNone_rel (ev_rel hT hox) hx
        refine ⟨.bool (b != neg), ?_, .bool _⟩
        have he : a.eval (.const c) = c := rfl
        simp only [execOp, Sem.run_bind, he]
        rw [nil_guard hk hx']
        simp only [Result.andThen_ok]
        rcases hop with ⟨rfl, rfl⟩ | ⟨rfl, rfl⟩
        · rw [binOp_eql_nil hx']
          simp [nil_run hu hk hx']
        · rw [binOp_neq_nil hx']
          simp [nil_run hu hk hx']
    · exact sim_raw (o := ⟨dst, .binOp op t x' (.const c) yt, ty, pos, after, g⟩) hT (by intro _ _; simp) hok h w
  · exact sim_raw (o := ⟨dst, .binOp op t _ _ yt, ty, pos, after, g⟩) hT (by intro _ _; simp) hok h w

/-- The entries of a map. -/
theorem entries_rel {mv : Value} {es : List MapEntry} (hS : Sim R H w)
    (hes : entriesI H mv = some es) {mv' : Value} (hm : VR R mv mv') :
    (mv = .map none ∧ mv' = .map none ∧ es = []) ∨ ∃ (r : Nat) (cl : Nat) (es' : Array MapEntry), mv = .map (some r) ∧ mv' = .map (some (R.blk r)) ∧ R.dom r ∧ H.get r = some (.map es cl) ∧ w.heap[R.blk r]? = some (.map es' cl) ∧ ERels R es es'.toList := by
  unfold entriesI at hes
  split at hes
  · simp only [Option.some.injEq] at hes
    subst hes
    cases hm
    exact .inl ⟨rfl, rfl, rfl⟩
  · split at hes
    · rename_i r _ es0 cl hg
      injection hes with hes
      subst hes
      cases hm with
      | map _ hr =>
        have ho := hS.obj _ hr
        rw [hg] at ho
        obtain ⟨es', hw, hrel⟩ := ho
        exact .inr ⟨_, cl, es', rfl, rfl, hr, hg, hw, hrel⟩
    · cases hes
  · cases hes

theorem ERels.isEmpty {es : List MapEntry} {es' : Array MapEntry} (h : ERels R es es'.toList) : es'.isEmpty = es.isEmpty := by
  have := h.length
  cases es with
  | nil => simp only [List.length_nil, Array.length_toList] at this; simp [Array.isEmpty, ← this]
  | cons x xs => simp only [List.length_cons, Array.length_toList] at this; simp [Array.isEmpty, ← this]

theorem sim_lookup {dst : Option Tmp} {t ty : TypeId} {m k : Operand} {ok : Bool} {pos : String} {after : Array Edge} {g : Option (Nat × Bool)} {v zero : Value} {kt e : TypeId}
    (hS : Sim R H w) (hT : TRel n R T a.tmps) (hu : P.underlying t = some (.map kt e)) (hz : zeroT P e = some zero) (hom : okO m = true) (hok : okO k = true)
    (h : ird P T H (.lookup kt zero ok m k) = some v) :
    ∃ v', (execOp a.eval ⟨dst, .lookup t m k ok, ty, pos, after, g⟩).run P w = .ok (.value v') w ∧ VR R v v' := by
  simp only [ird] at h
  split at h
  · rename_i es hes
    split at h
    · rename_i hko
      obtain ⟨hk1, hk2, hk3, hk4, d, hd⟩ := keyOk_spec hko
      have hkk : a.eval k = ev T k := (ev_rel hT hok).scal_eq hk1
      have hent := entries_rel hS hes (ev_rel hT hom)
      have hzr := run_zeroT hz w
      -- what is found, once the entries are there
      have hfin : ∀ es' : Array MapEntry, ERels R es es'.toList → ∃ v', (do
          Instr.checkKey es'.isEmpty 10000 kt (a.eval k)
          match ← Instr.findKey kt (a.eval k) es'.toList with
          | some (_, v) => do
            let (v, b) ← pure (v, true)
            pure (if ok then .tuple #[v, .bool b] else v)
          | none => do
            let z ← zeroValue e
            let (v, b) ← pure (z, false)
            pure (if ok then .tuple #[v, .bool b] else v) : Sem Value).run P w = .ok v' w ∧ VR R v v' := by
        intro es' hrel
        split at h
        · rename_i i hfi
          obtain ⟨h1, h2⟩ := find_rel (P := P) (w := w) hd hrel hk2 hfi
          split at h
          · rename_i en hen
            obtain ⟨en', hen', her⟩ := hrel.get i en hen
            injection h with h
            subst h
            refine ⟨if ok then .tuple #[en'.val, .bool true] else en'.val, ?_, ?_⟩
            · simp only [Sem.run_bind]
              rw [hrel.isEmpty, hkk, hk3]
              simp only [Result.andThen_ok]
              rw [h1]
              simp only [Option.bind_some, hen', Option.map_some, Result.andThen_ok]
              rfl
            · cases ok
              · exact her.val
              · exact .tuple _ _ (.cons her.val (.cons (.bool _) .nil))
          · cases h
        · rename_i hfi
          obtain ⟨h1, h2⟩ := find_rel (P := P) (w := w) hd hrel hk2 hfi
          injection h with h
          subst h
          refine ⟨if ok then .tuple #[zero, .bool false] else zero, ?_, ?_⟩
          · simp only [Sem.run_bind]
            rw [hrel.isEmpty, hkk, hk3]
            simp only [Result.andThen_ok]
            rw [h1]
            simp only [Option.bind_none, Result.andThen_ok, Sem.run_bind, hzr.1]
            rfl
          · have hg := VR.of_ground R hzr.2
            cases ok
            · exact hg
            · exact .tuple _ _ (.cons hg (.cons (.bool _) .nil))
        · cases h
      simp only [execOp]
      unfold Instr.lookup
      rcases hent with ⟨_, h2, rfl⟩ | ⟨r, cl, es', _, h2, _, _, h5, h6⟩
      · obtain ⟨v', h1, h3⟩ := hfin #[] .nil
        refine ⟨v', ?_, h3⟩
        simp only [Sem.run_bind, run_under hu, Result.andThen_ok, h2, pure_bind] at h1 ⊢
        exact (congrArg (fun r : Result Value => r.andThen fun a w' => (pure (Next.value a) : Sem Next).run P w') h1).trans rfl
      · obtain ⟨v', h1, h3⟩ := hfin es' h6
        refine ⟨v', ?_, h3⟩
        simp only [Sem.run_bind, run_under hu, Result.andThen_ok, h2, run_getMap P h5, pure_bind] at h1 ⊢
        exact (congrArg (fun r : Result Value => r.andThen fun a w' => (pure (Next.value a) : Sem Next).run P w') h1).trans rfl
    · cases h
  · cases h

end
end Go.Proofs.YtpklgklmjhblpaaI
