/- A law's arguments: what is read of them, in the ideal heap. -/
import Derived.Test.YtpklgklmjhblpaaIdealU
import Derived.WalkKit
import Derived.ProofKit
import Derived.OpenShut
import Derived.ShutString
import Derived.ChangeOld
import Derived.Below
import Derived.Carry
import Derived.ChangeCalls
import Derived.SizedLaws
namespace Go.Proofs.YtpklgklmjhblpaaI
set_option linter.unusedSimpArgs false
set_option linter.unusedVariables false
open Go

/-- What a cell shows. -/
inductive D where
  | b (x : Bool)
  | i (k : IntKind) (n : Int)
  | s (x : ByteArray)
  | nil
  | sl (len : Nat) (es : List (List D))

/-- A cell's shape. -/
inductive Sh where
  | b
  | i (k : IntKind)
  | s
  | sl (bytes size : Nat) (e : List Sh)

mutual
def okD : Sh → D → Prop
  | .b, .b _ => True
  | .i k, .i k' n => k' = k ∧ (Lit.int k n).wf = true
  | .s, .s x => x.size ≤ reachBytes
  | .sl _ _ _, .nil => True
  | .sl bytes size e, .sl len es => len ≤ es.length ∧ es.length * bytes ≤ reachBytes ∧ es.length ≤ maxLen ∧ ∀ d ∈ es, d.length = size ∧ okDs e d
  | _, _ => False
def okDs : List Sh → List D → Prop
  | [], [] => True
  | q :: ss, d :: ds => okD q d ∧ okDs ss ds
  | _, _ => False
end

/-- A value that shows something. -/
inductive Rep (H : IHeap) : Value → D → Prop
  | b (x) : Rep H (.bool x) (.b x)
  | i (k n) : Rep H (.int k n) (.i k n)
  | s (x) : Rep H (.string x) (.s x)
  | nil : Rep H (.slice none 0 0) .nil
  | z (id o) : Rep H (.slice (some ⟨id, o, none⟩) 0 0) (.sl 0 [])
  | sl (id len es vs) : es ≠ [] → es.length < UNK → H.get id = some (.cells vs true) → vs.length = es.flatten.length → (∀ (j : Nat) v d, vs[j]? = some v → es.flatten[j]? = some d → Rep H v d) →
      Rep H (.slice (some ⟨id, 0, none⟩) len es.length) (.sl len es)

def Reps (H : IHeap) (vs : List Value) (ds : List D) : Prop := vs.length = ds.length ∧ ∀ (j : Nat) v d, vs[j]? = some v → ds[j]? = some d → Rep H v d

theorem Rep.mono {H H' : IHeap} (hs : H.sub H') {v : Value} {d : D} (h : Rep H v d) : Rep H' v d := by
  induction h with
  | b x => exact .b x
  | i k n => exact .i k n
  | s x => exact .s x
  | nil => exact .nil
  | z id o => exact .z id o
  | sl id len es vs h1 h2 h3 h4 _ ih => exact .sl id len es vs h1 h2 (hs _ _ h3) h4 ih

theorem Reps.mono {H H' : IHeap} (hs : H.sub H') {vs : List Value} {ds : List D} (h : Reps H vs ds) : Reps H' vs ds := ⟨h.1, fun j v d h1 h2 => (h.2 j v d h1 h2).mono hs⟩
theorem Reps.nil (H : IHeap) : Reps H [] [] := ⟨rfl, by simp⟩
theorem Reps.one {H : IHeap} {v : Value} {d : D} (h : Rep H v d) : Reps H [v] [d] := ⟨rfl, fun j u e h1 h2 => by
  cases j with
  | zero => simp at h1 h2; subst h1; subst h2; exact h
  | succ j => simp at h1⟩
theorem Reps.append {H : IHeap} {vs us : List Value} {ds es : List D} (h : Reps H vs ds) (k : Reps H us es) : Reps H (vs ++ us) (ds ++ es) := by
  refine ⟨by simp [h.1, k.1], fun j v d h1 h2 => ?_⟩
  by_cases hj : j < vs.length
  · rw [List.getElem?_append_left hj] at h1
    rw [List.getElem?_append_left (by rw [← h.1]; exact hj)] at h2
    exact h.2 j v d h1 h2
  · rw [List.getElem?_append_right (by omega)] at h1
    rw [List.getElem?_append_right (by rw [← h.1]; omega), ← h.1] at h2
    exact k.2 _ v d h1 h2

theorem okDs_append : ∀ {a b : List Sh} {x y : List D}, okDs a x → okDs b y → okDs (a ++ b) (x ++ y)
  | [], _, [], _, _, h => h
  | [], _, _ :: _, _, h, _ => by simp [okDs] at h
  | _ :: _, _, [], _, h, _ => by simp [okDs] at h
  | _ :: a, b, d :: x, y, h, k => by
    simp only [okDs, List.cons_append] at h ⊢
    exact ⟨h.1, okDs_append h.2 k⟩

theorem okDs_length : ∀ {a : List Sh} {x : List D}, okDs a x → x.length = a.length
  | [], [], _ => rfl
  | [], _ :: _, h => by simp [okDs] at h
  | _ :: _, [], h => by simp [okDs] at h
  | _ :: _, _ :: _, h => by simp only [okDs] at h; simp [okDs_length h.2]

def shFs (P : Program) (K : TypeId → Option (List Sh)) : List Field → Nat → Option (List Sh)
  | [], _ => some []
  | f :: fs, off => match K f.type with
    | some r => if f.offset = off ∧ P.cellsOf f.type = r.length then (shFs P K fs (off + r.length)).map (r ++ ·) else none
    | none => none

/-- The shapes of a type's cells. -/
def shT (P : Program) : Nat → TypeId → Option (List Sh)
  | 0, _ => none
  | n + 1, t => match P.underlying t with
    | some .bool => some [.b]
    | some (.int k) => some [.i k]
    | some .string => some [.s]
    | some (.slice e) => match shT P n e with
      | some l => if P.cellsOf e = l.length ∧ 0 < l.length then some [.sl (P.bytesOf e) l.length l] else none
      | none => none
    | some (.struct fs) => match shFs P (shT P n) fs.toList 0 with
      | some l => if P.cellsOf t = l.length then some l else none
      | none => none
    | _ => none

/-- All that is laid is read alone. -/
structure Laid (R : Ren) (H : IHeap) (w : World) : Prop where
  sim : Sim R H w
  ro : ∀ b, ¬ liveRW H b

section
variable {w : World} {R : Ren} {H : IHeap}

theorem alloc_sub (hS : Sim R H w) (o : IObj) : H.sub (H.alloc o) := by
  intro b q hb
  have hlt : b < H.next := by
    rcases Nat.lt_or_ge b H.next with h | h
    · exact h
    · rw [hS.wf b h] at hb; cases hb
  rw [alloc_get_lt H o hlt]; exact hb

theorem Laid.add (h : Laid R H w) {blk base size len : Nat} {o : IObj} (ho : ObjRel (R.addAt H.next blk base size len) (some o) H.next w) (hro : ¬ liveRW (H.alloc o) H.next) : Laid (R.addAt H.next blk base size len) (H.alloc o) w := by
  have hnd : ¬ R.dom H.next := fun hd => Nat.lt_irrefl _ (h.sim.lt _ hd)
  have hle : R.le (R.addAt H.next blk base size len) := Ren.addAt_le hnd
  have hrw : ∀ b, ¬ liveRW (H.alloc o) b := by
    intro b hb
    by_cases hbn : b = H.next
    · subst hbn; exact hro hb
    · refine h.ro b ?_
      unfold liveRW at hb ⊢
      have : (H.alloc o).get b = H.get b := by show (if b = H.next then some o else H.get b) = _; rw [if_neg hbn]
      rw [this] at hb; exact hb
  refine ⟨⟨?_, ?_, fun b c _ _ _ _ hor => (hor.elim (hrw b) (hrw c)).elim, ?_⟩, hrw⟩
  · rintro b (hb | rfl)
    · exact Nat.lt_succ_of_lt (h.sim.lt b hb)
    · exact Nat.lt_succ_self _
  · rintro b hb
    by_cases hbn : b = H.next
    · subst hbn; rw [alloc_get]; exact ho
    · have hb' := hb.resolve_right hbn
      have : (H.alloc o).get b = H.get b := by show (if b = H.next then some o else H.get b) = _; rw [if_neg hbn]
      rw [this]
      exact (h.sim.obj b hb').move hle hb' fun _ hx => hx
  · intro b hb
    have hb' : H.next + 1 ≤ b := hb
    show (if b = H.next then some o else H.get b) = _
    rw [if_neg (by omega)]; exact h.sim.wf b (by omega)

end

/-- What has been laid of cells. -/
def Lays (w : World) (R : Ren) (H : IHeap) (cs : List Value) (P : List D → Prop) : Prop :=
  ∃ R' H' vs ds, R.le R' ∧ H.sub H' ∧ Laid R' H' w ∧ VRs R' vs cs ∧ Reps H' vs ds ∧ P ds

theorem IHeap.sub_trans {A B C : IHeap} (h : A.sub B) (k : B.sub C) : A.sub C := fun b o hb => k b o (h b o hb)

section
variable {Hd : Type} {enc : TypeId × Value → Hd} {P : Program} {w : World}

theorem weightsAll_mem {e : TypeId} : ∀ {l : List (DataW Hd)} {d : DataW Hd}, d ∈ l → ∀ x ∈ d.weights P e, x ∈ DataW.weightsAll P e l
  | [], _, h, _, _ => by simp at h
  | a :: l, d, h, x, hx => by
    simp only [DataW.weightsAll]
    rcases List.mem_cons.1 h with rfl | h
    · exact List.mem_append_left _ hx
    · exact List.mem_append_right _ (weightsAll_mem h x hx)

theorem lay_cells : ∀ (n : Nat) (t : TypeId) (cs : List Value) (x : DataW Hd × List MemPlace) (m : Nat) (sh : List Sh), DataW.trod enc P w 0 (fun _ => true) true n t cs = some x → shT P m t = some sh →
    (∀ y ∈ x.1.weights P t, y ≤ reachBytes) → ∀ R H, Laid R H w → Lays w R H cs (okDs sh) := by
  intro n
  induction n with
  | zero => intro t cs x m sh h; simp [DataW.trod] at h
  | succ n ih =>
    intro t cs x m sh h hsh hw R H hL
    cases m with
    | zero => simp [shT] at hsh
    | succ m =>
      simp only [shT] at hsh
      split at hsh
      · rename_i hu
        injection hsh with hsh; subst hsh
        obtain ⟨b, rfl, _⟩ := DataW.trod_bool hu h
        exact ⟨R, H, [.bool b], [.b b], R.le_refl, fun _ _ h => h, hL, .cons (.bool b) .nil, Reps.one (.b b), by simp [okDs, okD]⟩
      · rename_i k hu
        injection hsh with hsh; subst hsh
        obtain ⟨z, rfl, _, hz⟩ := DataW.trod_int hu h
        exact ⟨R, H, [.int k z], [.i k z], R.le_refl, fun _ _ h => h, hL, .cons (.int k z) .nil, Reps.one (.i k z), by simp [okDs, okD, hz]⟩
      · rename_i hu
        injection hsh with hsh; subst hsh
        obtain ⟨s, rfl, rfl, hs⟩ := DataW.trod_string hu h
        refine ⟨R, H, [.string s], [.s s], R.le_refl, fun _ _ h => h, hL, .cons (.string s) .nil, Reps.one (.s s), ?_⟩
        have := hw s.data.toList.length (by simp [DataW.weights])
        simp only [okDs, okD, and_true]
        simpa using this
      · -- a slice
        rename_i e hu
        split at hsh
        case h_2 => cases hsh
        rename_i l hl
        split at hsh
        case isFalse => cases hsh
        rename_i hcell
        injection hsh with hsh; subst hsh
        rcases DataW.trod_slice hu h with ⟨rfl, _⟩ | ⟨a, len, cap, elems, rest, n', hn, rfl, rfl, _, hlc, hcm, hel, hget, hsp, _⟩
        · exact ⟨R, H, [.slice none 0 0], [.nil], R.le_refl, fun _ _ h => h, hL, .cons .sliceNil .nil, Reps.one .nil, by simp [okDs, okD]⟩
        · injection hn with hn
          subst hn
          obtain ⟨hrl, hrest⟩ := hsp rfl
          have hwb : (elems.length + rest.length) * P.bytesOf e ≤ reachBytes := by
            refine hw _ ?_
            simp only [DataW.weights, hu, List.length_map]
            exact List.mem_cons_self ..
          by_cases hc0 : cap = 0
          · -- none
            subst hc0
            have hl0 : len = 0 := by omega
            subst hl0
            have hl2 := hL.add (blk := a.block) (base := 0) (size := 0) (len := 0) (o := .dead) trivial (by unfold liveRW; rw [alloc_get]; simp)
            refine ⟨_, _, [.slice (some ⟨H.next, 0, none⟩) 0 0], [.sl 0 []], Ren.addAt_le (fun hd => Nat.lt_irrefl _ (hL.sim.lt _ hd)), alloc_sub hL.sim _, hl2, .cons (.sliceZ _ _ _ (.inr rfl)) .nil, Reps.one (.z _ _), ?_⟩
            simp [okDs, okD]
          · have hone : ∀ i, i < cap → ∃ ci y, w.cells? 0 (a.add (i * P.cellsOf e)) (P.cellsOf e) = some ci ∧ DataW.trod enc P w 0 (fun _ => true) true n e ci = some y ∧ ∀ z ∈ y.1.weights P e, z ≤ reachBytes := by
              intro i hi
              by_cases hil : i < len
              · have h1 := hget i hil
                have h2 : elems[i]? = some elems[i] := by simp [hel, hil]
                rw [h2] at h1
                rw [Option.bind_eq_some_iff] at h1
                obtain ⟨ci, h3, h4⟩ := h1
                refine ⟨ci, _, h3, h4, fun z hz => hw z ?_⟩
                simp only [DataW.weights, hu]
                exact List.mem_cons_of_mem _ (List.mem_append_left _ (weightsAll_mem (List.mem_map.2 ⟨_, List.getElem_mem _, rfl⟩) z hz))
              · have h1 := hrest (i - len) (by omega)
                rw [show len + (i - len) = i by omega] at h1
                have h2 : rest[i - len]? = some (rest[i - len]'(by omega)) := by simp
                rw [h2] at h1
                rw [Option.bind_eq_some_iff] at h1
                obtain ⟨ci, h3, h4⟩ := h1
                refine ⟨ci, _, h3, h4, fun z hz => hw z ?_⟩
                simp only [DataW.weights, hu]
                exact List.mem_cons_of_mem _ (List.mem_append_right _ (weightsAll_mem (List.mem_map.2 ⟨_, List.getElem_mem _, rfl⟩) z hz))
            -- the block
            have hsz : 0 < P.cellsOf e := by omega
            obtain ⟨blk, off, spot⟩ := a
            have hc0' : ∃ c t fr, w.heap[blk]? = some (.cells c t fr) ∧ spot = none := by
              obtain ⟨ci, y, h1, _⟩ := hone 0 (by omega)
              obtain ⟨_, h2, h3⟩ := World.cells?_some h1
              have h4 := h3 0 hsz
              have h5 : ci[0]? = some (ci[0]'(by omega)) := by simp
              rw [h5] at h4
              simp only [Nat.zero_mul, Addr.add, if_true, World.cell?] at h4
              split at h4
              · rename_i c t fr hb
                refine ⟨c, t, fr, hb, ?_⟩
                cases spot with
                | none => rfl
                | some q => simp at h4
              · cases h4
            obtain ⟨c, t, fr, hblk, rfl⟩ := hc0'
            have hadd : ∀ p q : Nat, (Addr.add (Addr.add ⟨blk, off, none⟩ p) q) = ⟨blk, off + p + q, none⟩ := by
              intro p q
              unfold Addr.add
              by_cases hp : p = 0 <;> by_cases hq : q = 0 <;> simp [hp, hq]
            have hci : ∀ i ci, w.cells? 0 (Addr.add ⟨blk, off, none⟩ (i * P.cellsOf e)) (P.cellsOf e) = some ci → ci = ((c.toList.drop off).drop (i * P.cellsOf e)).take (P.cellsOf e) ∧ off + i * P.cellsOf e + P.cellsOf e ≤ c.size := by
              intro i ci h1
              obtain ⟨_, h2, h3⟩ := World.cells?_some h1
              have h4 : ∀ j, j < P.cellsOf e → c[off + i * P.cellsOf e + j]? = ci[j]? := by
                intro j hj
                rw [← h3 j hj, hadd]
                simp [World.cell?, hblk]
              constructor
              · apply List.ext_getElem?
                intro j
                by_cases hj : j < P.cellsOf e
                · rw [← h4 j hj, List.getElem?_take, if_pos hj, List.getElem?_drop, List.getElem?_drop]
                  simp [Nat.add_assoc]
                · rw [List.getElem?_eq_none (by omega), List.getElem?_eq_none (by simp; omega)]
              · have h5 := h4 (P.cellsOf e - 1) (by omega)
                have h6 : ci[P.cellsOf e - 1]? = some (ci[P.cellsOf e - 1]'(by omega)) := by simp
                rw [h6] at h5
                have := (Array.getElem?_eq_some_iff.1 h5).1
                omega
            have many : ∀ k, k ≤ cap → ∃ R' H' vs es, R.le R' ∧ H.sub H' ∧ Laid R' H' w ∧ VRs R' vs ((c.toList.drop off).take (k * P.cellsOf e)) ∧ Reps H' vs (List.flatten es) ∧ es.length = k ∧ ∀ d ∈ es, d.length = l.length ∧ okDs l d := by
              intro k
              induction k with
              | zero => intro _; exact ⟨R, H, [], [], R.le_refl, fun _ _ h => h, hL, by simp; exact .nil, Reps.nil H, rfl, by simp⟩
              | succ k ihk =>
                intro hk
                obtain ⟨R1, H1, vs, es, a1, a2, a3, a4, a5, a6, a7⟩ := ihk (by omega)
                obtain ⟨ci, y, h1, h2, h3⟩ := hone k (by omega)
                obtain ⟨R2, H2, us, ds, b1, b2, b3, b4, b5, b6⟩ := ih e ci y m l h2 hl h3 R1 H1 a3
                have hcc := (hci k ci h1).1
                refine ⟨R2, H2, vs ++ us, es ++ [ds], a1.trans b1, IHeap.sub_trans a2 b2, b3, ?_, ?_, by simp [a6], ?_⟩
                · rw [Nat.add_mul, Nat.one_mul, List.take_add, ← hcc]
                  exact VRs.append b4 (a4.mono b1)
                · simp only [List.flatten_append, List.flatten_cons, List.flatten_nil, List.append_nil]
                  exact (a5.mono b2).append b5
                · intro d hd
                  rcases List.mem_append.1 hd with hd | hd
                  · exact a7 d hd
                  · simp at hd; subst hd; exact ⟨okDs_length b6, b6⟩
            obtain ⟨R1, H1, vs, es, a1, a2, a3, a4, a5, a6, a7⟩ := many cap (Nat.le_refl _)
            have hend : off + cap * P.cellsOf e ≤ c.size := by
              obtain ⟨ci, y, h1, _⟩ := hone (cap - 1) (by omega)
              have := (hci _ ci h1).2
              have h2 : (cap - 1) * P.cellsOf e + P.cellsOf e = cap * P.cellsOf e := by
                rw [← Nat.succ_mul]; congr 1; omega
              omega
            have hvl : vs.length = cap * P.cellsOf e := by
              rw [a4.length]; simp; omega
            have hobj : ObjRel (R1.addAt H1.next blk off c.size (cap * P.cellsOf e)) (some (.cells vs true)) H1.next w := by
              have hnd : ¬ R1.dom H1.next := fun hd => Nat.lt_irrefl _ (a3.sim.lt _ hd)
              refine ⟨by simp [Ren.addAt, hvl], by simp [Ren.addAt, hvl]; omega, c, t, fr, by simpa [Ren.addAt] using hblk, by simp [Ren.addAt], ?_, by simp⟩
              have : (R1.addAt H1.next blk off c.size (cap * P.cellsOf e)).base H1.next = off := by simp [Ren.addAt]
              rw [this, hvl]
              exact a4.mono (Ren.addAt_le hnd)
            have hl2 := a3.add hobj (by unfold liveRW; rw [alloc_get]; simp)
            have hnd : ¬ R1.dom H1.next := fun hd => Nat.lt_irrefl _ (a3.sim.lt _ hd)
            have hunk : cap < UNK := by have : maxLen = 9223372036854775807 := rfl; unfold UNK; omega
            refine ⟨_, _, [.slice (some ⟨H1.next, 0, none⟩) len cap], [.sl len es], a1.trans (Ren.addAt_le hnd), IHeap.sub_trans a2 (alloc_sub a3.sim _), hl2, .cons ?_ .nil, Reps.one ?_, ?_⟩
            · have := VR.sliceEx (R := R1.addAt H1.next blk off c.size (cap * P.cellsOf e)) H1.next 0 len cap (.inr rfl) hunk
              simpa [Ren.addAt] using this
            · rw [← a6]
              have a5' := a5.mono (alloc_sub a3.sim (.cells vs true))
              refine .sl H1.next len es vs (by intro he; rw [he] at a6; simp at a6; omega) (by omega) (alloc_get _ _) a5'.1 a5'.2
            · simp only [okDs, okD, and_true]
              refine ⟨by omega, ?_, by omega, ?_⟩
              · rw [a6]
                have : elems.length + rest.length = cap := by omega
                rw [this] at hwb; exact hwb
              · intro d hd; exact a7 d hd
      · -- a struct
        rename_i fs hu
        split at hsh
        case h_2 => cases hsh
        rename_i l hl
        split at hsh
        case isFalse => cases hsh
        rename_i hcell
        injection hsh with hsh; subst hsh
        obtain ⟨xs, n', hn, rfl, hlen, hxl, hget⟩ := DataW.trod_struct hu h
        injection hn with hn
        subst hn
        have key : ∀ (fl : List Field) (off : Nat) (q : List Sh) (ys : List (DataW Hd × List MemPlace)), shFs P (shT P m) fl off = some q → ys.length = fl.length →
            (∀ (i : Nat) (f : Field), fl[i]? = some f → DataW.trod enc P w 0 (fun _ => true) true n f.type ((cs.drop f.offset).take (P.cellsOf f.type)) = ys[i]?) →
            (∀ z ∈ DataW.weightsEach P (fl.map (·.type)) (ys.map (·.1)), z ≤ reachBytes) → ∀ R H, Laid R H w → Lays w R H ((cs.drop off).take q.length) (okDs q) := by
          intro fl
          induction fl with
          | nil =>
            intro off q ys hq hyl _ _ R H hL
            simp only [shFs, Option.some.injEq] at hq
            subst hq
            exact ⟨R, H, [], [], R.le_refl, fun _ _ h => h, hL, by simp; exact .nil, Reps.nil H, by simp [okDs]⟩
          | cons f fl ihf =>
            intro off q ys hq hyl hg hww R H hL
            simp only [shFs] at hq
            split at hq
            case h_2 => cases hq
            rename_i r hr
            split at hq
            case isFalse => cases hq
            rename_i hcond
            simp only [Option.map_eq_some_iff] at hq
            obtain ⟨q', hq', rfl⟩ := hq
            cases ys with
            | nil => simp at hyl
            | cons y ys =>
              have h1 := hg 0 f (by simp)
              simp only [List.getElem?_cons_zero] at h1
              simp only [List.map_cons, DataW.weightsEach] at hww
              obtain ⟨R1, H1, vs, ds, a1, a2, a3, a4, a5, a6⟩ := ih f.type _ y m r h1 hr (fun z hz => hww z (List.mem_append_left _ hz)) R H hL
              obtain ⟨R2, H2, us, es, b1, b2, b3, b4, b5, b6⟩ := ihf (off + r.length) q' ys hq' (by simpa using hyl) (fun i g hi => by simpa using hg (i + 1) g (by simpa using hi)) (fun z hz => hww z (List.mem_append_right _ hz)) R1 H1 a3
              refine ⟨R2, H2, vs ++ us, ds ++ es, a1.trans b1, IHeap.sub_trans a2 b2, b3, ?_, (a5.mono b2).append b5, okDs_append a6 b6⟩
              rw [List.length_append, List.take_add, List.drop_drop]
              rw [hcond.1, hcond.2] at a4
              exact VRs.append b4 (a4.mono b1)
        have := key fs.toList 0 l xs hl (by simpa using hxl) (fun i f hi => hget i f (by simpa using hi)) (by
          intro z hz
          refine hw z ?_
          simp only [DataW.weights, hu]
          exact hz) R H hL
        rw [List.drop_zero, List.take_of_length_le (by omega)] at this
        exact this
      · cases hsh

/-! ### All arguments -/

def ArgRep (H : IHeap) (agg : Bool) (v : Value) (ds : List D) : Prop := match agg with
  | true => ∃ us, v = .agg us ∧ Reps H us.toList ds
  | false => Reps H [v] ds

def ArgsOk (H : IHeap) : List (Bool × List Sh) → List Value → List (List D) → Prop
  | [], [], [] => True
  | (a, sh) :: r, v :: vs, d :: dss => ArgRep H a v d ∧ okDs sh d ∧ ArgsOk H r vs dss
  | _, _, _ => False

theorem ArgRep.mono {H H' : IHeap} (hs : H.sub H') {a : Bool} {v : Value} {ds : List D} (h : ArgRep H a v ds) : ArgRep H' a v ds := by
  cases a with
  | true => obtain ⟨us, h1, h2⟩ := h; exact ⟨us, h1, h2.mono hs⟩
  | false => exact Reps.mono hs h

theorem ArgsOk.mono {H H' : IHeap} (hs : H.sub H') : ∀ {p : List (Bool × List Sh)} {vs : List Value} {dss : List (List D)}, ArgsOk H p vs dss → ArgsOk H' p vs dss
  | [], [], [], _ => trivial
  | (_, _) :: _, _ :: _, _ :: _, h => ⟨h.1.mono hs, h.2.1, ArgsOk.mono hs h.2.2⟩
  | [], _ :: _, _, h => h.elim
  | [], [], _ :: _, h => h.elim
  | _ :: _, [], _, h => h.elim
  | _ :: _, _ :: _, [], h => h.elim

def parsT (P : Program) : List TypeId → Option (List (Bool × List Sh))
  | [] => some []
  | t :: ts => match aggT P t, shT P 20 t, parsT P ts with
    | some a, some sh, some r => some ((a, sh) :: r)
    | _, _, _ => none

theorem lay_args {base : Nat} : ∀ (ts : List TypeId) (vs : List Value) (ds : List (DataW Hd)) (p : List MemPlace) (pars : List (Bool × List Sh)), DataW.TrodAll enc P w 0 (fun _ => true) true ts vs ds p → parsT P ts = some pars →
    (∀ (j : Nat) t v, ts[j]? = some t → vs[j]? = some v → Value.okWide P w .any base t v) → (∀ z ∈ DataW.weightsEach P ts ds, z ≤ reachBytes) → ∀ R H, Laid R H w →
    ∃ R' H' us dss, R.le R' ∧ H.sub H' ∧ Laid R' H' w ∧ VRs R' us vs ∧ ArgsOk H' pars us dss
  | [], vs, ds, p, pars, h, hp, _, _, R, H, hL => by
    obtain ⟨rfl, rfl, _⟩ := Go.ChangeShapes.trodAll_nil h
    simp only [parsT, Option.some.injEq] at hp
    subst hp
    exact ⟨R, H, [], [], R.le_refl, fun _ _ h => h, hL, .nil, trivial⟩
  | t :: ts, vs, ds, p, pars, h, hp, hv, hw, R, H, hL => by
    obtain ⟨v, vs, d, ds, a, b, rfl, rfl, rfl, h1, h2⟩ := Go.ChangeShapes.trodAll_cons h
    simp only [parsT] at hp
    split at hp
    case h_2 => cases hp
    rename_i ag sh r hag hsh hr
    injection hp with hp
    subst hp
    simp only [DataW.weightsEach] at hw
    obtain ⟨fuel, hf⟩ := h1
    obtain ⟨R1, H1, us, es, a1, a2, a3, a4, a5, a6⟩ := lay_cells fuel t _ _ 20 sh hf hsh (fun z hz => hw z (List.mem_append_left _ hz)) R H hL
    obtain ⟨R2, H2, vs', dss, b1, b2, b3, b4, b5⟩ := lay_args ts vs ds b r h2 hr (fun j t v hj hj' => hv (j + 1) t v (by simpa using hj) (by simpa using hj')) (fun z hz => hw z (List.mem_append_right _ hz)) R1 H1 a3
    have hok := hv 0 t v (by simp) (by simp)
    unfold Value.okWide at hok
    unfold aggT at hag
    have hcase : (ag = true ∧ ∃ cs, v = .agg cs) ∨ (ag = false ∧ v.cells.toList = [v]) := by
      have hone : v.cells.toList.length = 1 → (∀ cs, v ≠ .agg cs) → v.cells.toList = [v] := by
        intro _ hne
        cases v <;> first | rfl | exact absurd rfl (hne _)
      cases hu : P.underlying t with
      | none => rw [hu] at hag; simp at hag
      | some dsc =>
        rw [hu] at hag hok
        cases dsc <;> simp at hag <;> subst hag <;> first
          | (obtain ⟨cs, hcs, _⟩ := hok; exact .inl ⟨rfl, cs, hcs⟩)
          | (refine .inr ⟨rfl, ?_⟩
             cases v <;> first
               | rfl
               | (exfalso; simp only [shT, hu] at hsh; cases hsh; done)
               | (exfalso; simp only [Cell.okWide, hu, Cell.ok] at hok; done)
               | (exfalso; simp only [Cell.okWide, hu, Cell.ok] at hok; exact hok))
    rcases hcase with ⟨rfl, cs, rfl⟩ | ⟨rfl, hcs⟩
    · exact ⟨R2, H2, .agg us.toArray :: vs', es :: dss, a1.trans b1, IHeap.sub_trans a2 b2, b3, .cons (.agg _ _ (by simpa [Value.cells] using a4.mono b1)) b4, ⟨⟨us.toArray, rfl, by simpa using a5.mono b2⟩, a6, b5⟩⟩
    · rw [hcs] at a4
      cases a4 with
      | cons h3 h4 =>
        cases h4
        exact ⟨R2, H2, _ :: vs', es :: dss, a1.trans b1, IHeap.sub_trans a2 b2, b3, .cons (h3.mono b1) b4, ⟨a5.mono b2, a6, b5⟩⟩

theorem below_all {W W' : World} (hl : laidOutB P = true) (hb : RowKit.Below W.heap.size W W') : ∀ {ts : List TypeId} {vs : List Value} {ds : List (DataW Hd)} {p : List MemPlace}, ts.all (fun t => P.readableRec t && decide (t < P.types.size)) = true →
    DataW.TrodAll enc P W 0 (fun _ => true) true ts vs ds p → DataW.TrodAll enc P W' 0 (fun b => decide (b < W.heap.size)) true ts vs ds p
  | [], vs, ds, p, _, h => by
    obtain ⟨rfl, rfl, rfl⟩ := Go.ChangeShapes.trodAll_nil h
    exact rfl
  | t :: ts, vs, ds, p, ha, h => by
    obtain ⟨v, vs, d, ds, a, b, rfl, rfl, rfl, h1, h2⟩ := Go.ChangeShapes.trodAll_cons h
    simp only [List.all_cons, Bool.and_eq_true, decide_eq_true_eq] at ha
    refine ⟨a, b, ?_, below_all hl hb (by simpa using ha.2) h2, rfl⟩
    have h1' := h1
    obtain ⟨m, hm⟩ := h1
    exact RowKit.Below.trod hl ha.1.1 ha.1.2 h1' hb (DataW.trod_lt m _ _ _ hm)

end

def emptyH : IHeap := ⟨fun _ => none, 0⟩
def emptyR : Ren := ⟨fun _ => False, fun _ => 0, fun _ => 0, fun _ => 0, fun _ => 0⟩
theorem laid_empty (w : World) : Laid emptyR emptyH w :=
  ⟨⟨fun _ h => h.elim, fun _ h => h.elim, fun _ _ h => h.elim, fun _ _ => rfl⟩, fun _ h => h⟩

/-- A law is proved where its ideal walk is. -/
theorem law_lifted {C : Checked} {f : FuncId} {fn : Func} {s : ChangeSpec} {CC : CallT} {pars : List (Bool × List Sh)} {rt : TypeId} (own : ownKnob C.prog.godebug = none) (hinit : C.prog.inits.idxOf? f = none) (hfn : C.prog.funcs[f]? = some fn)
    (hlaid : laidOutB C.prog = true) (hpars : parsT C.prog fn.params.toList = some pars) (hread : fn.params.toList.all (fun t => C.prog.readableRec t && decide (t < C.prog.types.size)) = true)
    (hres : fn.resultTypes = #[rt]) (hrt : C.prog.underlying rt = some .bool) (hvars : s.vars = []) (hs : ∀ (Hd : Type) (ds : List (DataW Hd)), ds.length = fn.params.toList.length → s.fn Hd ds = { results := [.lit (.bool true)], args := ds })
    (hC : CSim C.prog CC) (key : ∀ H vs dss, (∀ b, ¬ liveRW H b) → (∀ b, H.next ≤ b → H.get b = none) → ArgsOk H pars vs dss → CC f vs H (fun r _ => r = .bool true))
    {os : Os} (started : os.Started) {Hd : Type} {enc : TypeId × Value → Hd}
    (witness : ∃ (w : World) (tape : Tape) (i : Input), w.os = os ∧ (w.forCall tape i).Shaped C.prog ∧ i.vars = [] ∧ Input.okWide C.prog (w.forCall tape i) .any w.heap.size f i ∧
      s.pre6 enc C.prog fn [] false (w.forCall tape i).memory i.args ∧ Assume.holds {} C.prog (lone (Frame.enter C.prog f i.args .normal) [] (w.forCall tape i))) :
    ReturnsInHanded {} C os f .any (s.pre6 enc C.prog fn [] false) (s.post enc C.prog fn false true false false) := by
  refine returnsInHanded_of_change_sized (C := C) own started hinit hfn witness ?_
  intro W base args ds gs before hval hW _ hsz _
  have hW' := hW
  obtain ⟨p, q, hA, hV, rfl, hfz, hnd⟩ := hW
  rw [hvars] at hV
  obtain ⟨rfl, rfl⟩ := Go.ChangeShapes.trodVars_none hV
  have hlen := Go.trodAll_length hA
  have hwt : ∀ z ∈ DataW.weightsEach C.prog fn.params.toList ds, z ≤ reachBytes := by
    intro z hz
    have e : s.plain.varTypes C.prog = [] := by unfold DataSpec.varTypes ChangeSpec.plain; simp [hvars]
    rw [e, List.append_nil, List.append_nil] at hsz
    simpa using List.all_eq_true.1 hsz z hz
  obtain ⟨R', H', us, dss, _, _, hL, hvs, hok⟩ := lay_args (base := base) fn.params.toList args.toList ds p pars hA hpars (fun j t v h1 h2 => hval j t v (by simpa using h1) (by simpa using h2)) hwt emptyR emptyH (laid_empty W)
  obtain ⟨_, hcall⟩ := hC f us H' _ (key H' us dss hL.ro hL.sim.wf hok)
  refine (hcall R' W args hL.sim hvs).mono fun e W' he => ?_
  obtain ⟨r, r', R2, H2, rfl, rfl, hvr, hsim, hext⟩ := he
  have hr : r' = .bool true := by cases hvr; rfl
  subst hr
  have bel : RowKit.Below W.heap.size W W' := ⟨hext.os, hext.tape, hext.output, hext.size, fun k hk => hext.frame k hk fun b _ hb => (hL.ro b hb).elim⟩
  have hds : (ds ++ ([] : List (DataW Hd))).length = fn.params.toList.length := by simpa using hlen.2
  refine ⟨_, rfl, ds, [], p ++ [], [], p, [], hW', ?_, ?_, ?_, bel.frame _, fun h => by cases h⟩
  · rw [hs Hd _ hds, hres]
    exact Go.ChangeShapes.trodAll_mk1 (Go.RowKit.shut_bool hrt true)
  · rw [hs Hd _ hds, List.append_nil]
    exact below_all hlaid bel hread hA
  · rw [hs Hd _ hds, hvars]
    exact rfl

end Go.Proofs.YtpklgklmjhblpaaI
