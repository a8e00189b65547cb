/- Walking through ideal code: contexts, heaps that grow, and the words for simp. -/
import Derived.Test.YtpklgklmjhblpaaIdealV
namespace Go.Proofs.YtpklgklmjhblpaaI
set_option linter.unusedSimpArgs false
set_option linter.unusedVariables false
open Go

/-- A program, what is known of it, and the numbers of functions and types under names of our own. -/
structure Ctx where
  P : Program
  IP : FuncId → Option IFunc
  X : CallT
  F : Nat → FuncId
  Ty : Nat → TypeId
  hX : LeC X X

def Ctx.C (c : Ctx) : CallT := ICall c.P c.IP c.X
theorem Ctx.mono (c : Ctx) : LeC c.C c.C := ICall.mono c.hX

/-- What holds where a function ends. -/
def retR (rs : List IRes) (K : Value → IHeap → Prop) : Exit → Env → IHeap → Prop
  | .ret, T, H | .normal, T, H => ∃ r, ires T H rs = some r ∧ K r H
  | _, _, _ => False
theorem retR_eq (g : IFunc) (K : Value → IHeap → Prop) : retPost g K = retR g.results K := by funext e T H; cases e <;> rfl

theorem Ctx.enter (c : Ctx) {f : FuncId} {g : IFunc} (h : c.IP f = some g) {args : List Value} {H : IHeap} {K : Value → IHeap → Prop} (hn : Nat.ble args.length g.ntmps = true) (hb : iwp c.P c.C g.body (retR g.results K) (envOf args) H) : c.C f args H K :=
  ICall.fold c.hX h ⟨Nat.le_of_ble_eq_true hn, by rw [retR_eq]; exact hb⟩

/-- It has grown, and all else is as it was. -/
structure IHeap.le (H H' : IHeap) : Prop where
  next : H.next ≤ H'.next
  get : ∀ b, b < H.next → H'.get b = H.get b

/-- But for these. -/
structure IHeap.upd (S : List Nat) (H H' : IHeap) : Prop where
  next : H.next ≤ H'.next
  get : ∀ b, b < H.next → b ∉ S → H'.get b = H.get b

theorem IHeap.le_refl (H : IHeap) : H.le H := ⟨Nat.le_refl _, fun _ _ => rfl⟩
theorem IHeap.le.trans {A B C : IHeap} (h : A.le B) (k : B.le C) : A.le C := ⟨Nat.le_trans h.next k.next, fun b hb => (k.get b (Nat.lt_of_lt_of_le hb h.next)).trans (h.get b hb)⟩
theorem IHeap.le_alloc (H : IHeap) (o : IObj) : H.le (H.alloc o) := ⟨Nat.le_succ _, fun b hb => alloc_get_lt H o hb⟩
theorem IHeap.le.alloc {A B : IHeap} (h : A.le B) (o : IObj) : A.le (B.alloc o) := h.trans (B.le_alloc o)
theorem IHeap.le.set {A B : IHeap} (h : A.le B) {i : Nat} (hi : A.next ≤ i) (o : IObj) : A.le (B.set i o) := ⟨h.next, fun b hb => by
  show (if b = i then some o else B.get b) = _
  rw [if_neg (by omega)]; exact h.get b hb⟩
theorem IHeap.upd_refl (S : List Nat) (H : IHeap) : IHeap.upd S H H := ⟨Nat.le_refl _, fun _ _ _ => rfl⟩
theorem IHeap.le.upd {A B : IHeap} (h : A.le B) (S : List Nat) : IHeap.upd S A B := ⟨h.next, fun b hb _ => h.get b hb⟩
theorem IHeap.upd.alloc {S : List Nat} {A B : IHeap} (h : IHeap.upd S A B) (o : IObj) : IHeap.upd S A (B.alloc o) :=
  ⟨Nat.le_trans h.next (Nat.le_succ _), fun b hb hs => by rw [alloc_get_lt B o (Nat.lt_of_lt_of_le hb h.next)]; exact h.get b hb hs⟩
theorem IHeap.upd.set {S : List Nat} {A B : IHeap} (h : IHeap.upd S A B) {i : Nat} (hi : A.next ≤ i ∨ i ∈ S) (o : IObj) : IHeap.upd S A (B.set i o) := ⟨h.next, fun b hb hs => by
  show (if b = i then some o else B.get b) = _
  rw [if_neg (by rintro rfl; rcases hi with hi | hi; omega; exact hs hi)]; exact h.get b hb hs⟩

theorem alloc_next (H : IHeap) (o : IObj) : (H.alloc o).next = H.next + 1 := rfl
theorem set_next (H : IHeap) (i : Nat) (o : IObj) : (H.set i o).next = H.next := rfl
theorem get_alloc (H : IHeap) (o : IObj) (b : Nat) : (H.alloc o).get b = if b = H.next then some o else H.get b := rfl
theorem get_set (H : IHeap) (i : Nat) (o : IObj) (b : Nat) : (H.set i o).get b = if b = i then some o else H.get b := rfl
theorem put_get (T : Env) (d : Nat) (v : Value) (t : Nat) : (T.put (some d) v) t = if t = d then v else T t := rfl
theorem put_none (T : Env) (v : Value) : T.put none v = T := rfl
theorem ev_tmp (T : Env) (t : Nat) : ev T (.tmp t) = T t := rfl
theorem ev_const (T : Env) (v : Value) : ev T (.const v) = v := rfl
theorem ev_func (T : Env) (f : FuncId) : ev T (.func f) = .func (.func f) #[] #[] := rfl
theorem envOf_get (l : List Value) (t : Nat) : envOf l t = l.getD t undef := rfl

/-! ### The walk: each step under a name, what comes behind it as data -/

section
variable {P : Program} {C : CallT}

def runO (P : Program) (C : CallT) (r : Option Value) (d : Option Nat) (os : List IOper) (K : Env → IHeap → Prop) (T : Env) (H : IHeap) : Prop := ∃ v, r = some v ∧ iwpOps P C os K (T.put d v) H
def runA (P : Program) (C : CallT) (r : Option (IObj × (Nat → Value))) (d : Option Nat) (os : List IOper) (K : Env → IHeap → Prop) (T : Env) (H : IHeap) : Prop := ∃ x, r = some x ∧ iwpOps P C os K (T.put d (x.2 H.next)) (H.alloc x.1)
def runX (P : Program) (C : CallT) (r : Option (Value × IHeap)) (d : Option Nat) (os : List IOper) (K : Env → IHeap → Prop) (T : Env) : Prop := ∃ x, r = some x ∧ iwpOps P C os K (T.put d x.1) x.2
def callO (P : Program) (C : CallT) (f : FuncId) (args : List Value) (d : Option Nat) (os : List IOper) (K : Env → IHeap → Prop) (T : Env) (H : IHeap) : Prop := C f args H fun v H' => iwpOps P C os K (T.put d v) H'
def runF (P : Program) (C : CallT) (f : Value) (args : List Value) (d : Option Nat) (os : List IOper) (K : Env → IHeap → Prop) (T : Env) (H : IHeap) : Prop := match f with
  | .func (.func g) a b => callO P C g (a.toList ++ args ++ b.toList) d os K T H
  | _ => False
def runG (P : Program) (C : CallT) (b : Bool) (d : Option Nat) (o : IOp) (os : List IOper) (K : Env → IHeap → Prop) (T : Env) (H : IHeap) : Prop := match b with
  | true => iop P C T H o fun v H' => iwpOps P C os K (T.put d v) H'
  | false => iwpOps P C os K (T.put d undef) H
def runC (P : Program) (C : CallT) (v : Value) (a b : ICode) (Q : Exit → Env → IHeap → Prop) (T : Env) (H : IHeap) : Prop := match v with
  | .bool true => iwp P C a Q T H
  | .bool false => iwp P C b Q T H
  | _ => False
def retO (r : Option Value) (K : Value → IHeap → Prop) (H : IHeap) : Prop := ∃ v, r = some v ∧ K v H
def wantV (v : Value) (w : Bool) : Bool := match v with
  | .bool b => b == w
  | _ => false

variable {Q : Exit → Env → IHeap → Prop} {N K : Env → IHeap → Prop} {T : Env} {H : IHeap} {a b : ICode} {d : Option Nat} {o : IOp} {os : List IOper} {g : Option (Nat × Bool)}

theorem iwp_skip : iwp P C .skip Q T H = Q .normal T H := rfl
theorem iwp_ops {l : List IOper} : iwp P C (.ops l) Q T H = iwpOps P C l (Q .normal) T H := rfl
theorem iwp_draw {l : List (IOper × List IOper)} : iwp P C (.draw l) Q T H = iwpDraw P C l (Q .normal) T H := rfl
theorem iwp_seq : iwp P C (.seq a b) Q T H = iwp P C a (thenI (iwp P C b Q) Q) T H := rfl
theorem iwp_cond {c : Operand} : iwp P C (.cond c a b) Q T H = runC P C (ev T c) a b Q T H := rfl
theorem iwp_block {id : Nat} : iwp P C (.block id a) Q T H = iwp P C a (blockI id Q) T H := rfl
theorem iwp_exit {id : Nat} : iwp P C (.exit id) Q T H = Q (.exit id) T H := rfl
theorem iwp_ret : iwp P C .ret Q T H = Q .ret T H := rfl
theorem thenI_n : thenI N Q .normal T H = N T H := rfl
theorem thenI_r : thenI N Q .ret T H = Q .ret T H := rfl
theorem thenI_e {id : Nat} : thenI N Q (.exit id) T H = Q (.exit id) T H := rfl
theorem blockI_n {id : Nat} : blockI id Q .normal T H = Q .normal T H := rfl
theorem blockI_r {id : Nat} : blockI id Q .ret T H = Q .ret T H := rfl
theorem blockI_e {id id' : Nat} : blockI id Q (.exit id') T H = if id' = id then Q .normal T H else Q (.exit id') T H := rfl
theorem c_true : runC P C (.bool true) a b Q T H = iwp P C a Q T H := rfl
theorem c_false : runC P C (.bool false) a b Q T H = iwp P C b Q T H := rfl
theorem want_none : wantedI T none = true := rfl
theorem want_some {d : Nat} {w : Bool} : wantedI T (some (d, w)) = wantV (T d) w := rfl
theorem wantV_bool {b w : Bool} : wantV (.bool b) w = (b == w) := rfl
theorem wantV_undef {w : Bool} : wantV undef w = false := rfl
theorem w_nil : iwpOps P C [] K T H = K T H := rfl
theorem w_cons : iwpOps P C (⟨d, o, g⟩ :: os) K T H = runG P C (wantedI T g) d o os K T H := by unfold runG; rfl
theorem g_false : runG P C false d o os K T H = iwpOps P C os K (T.put d undef) H := rfl
def runK (P : Program) (C : CallT) (k : IKind) (d : Option Nat) (o : IOp) (os : List IOper) (K : Env → IHeap → Prop) (T : Env) (H : IHeap) : Prop := match k with
  | .rd => runO P C (ird P T H o) d os K T H
  | .al => runA P C (ial T o) d os K T H
  | .ac => runX P C (iact P T H o) d os K T
  | .ca => icall C T H (fun v H' => iwpOps P C os K (T.put d v) H') o
theorem g_true : runG P C true d o os K T H = runK P C o.kind d o os K T H := by unfold runG iop runK runO runA runX; simp only []; cases o.kind <;> rfl
theorem g_rd : runK P C .rd d o os K T H = runO P C (ird P T H o) d os K T H := rfl
theorem g_al : runK P C .al d o os K T H = runA P C (ial T o) d os K T H := rfl
theorem g_ac : runK P C .ac d o os K T H = runX P C (iact P T H o) d os K T := rfl
theorem g_call {f : FuncId} {args : List Operand} : runK P C .ca d (.call f args) os K T H = callO P C f (args.map (ev T)) d os K T H := rfl
theorem g_dyn {f : Operand} {args : List Operand} : runK P C .ca d (.callDyn f args) os K T H = runF P C (ev T f) (args.map (ev T)) d os K T H := by unfold runK runF; simp only [icall]; generalize ev T f = x; split <;> first | rfl | (split <;> simp_all)
theorem o_some {v : Value} : runO P C (some v) d os K T H = iwpOps P C os K (T.put d v) H := by simp [runO]
theorem a_some {x : IObj} {mk : Nat → Value} : runA P C (some (x, mk)) d os K T H = iwpOps P C os K (T.put d (mk H.next)) (H.alloc x) := by simp [runA]
theorem x_some {v : Value} {H' : IHeap} : runX P C (some (v, H')) d os K T = iwpOps P C os K (T.put d v) H' := by simp [runX]
theorem f_func {f : FuncId} {x y : Array Value} {args : List Value} : runF P C (.func (.func f) x y) args d os K T H = callO P C f (x.toList ++ args ++ y.toList) d os K T H := rfl
theorem ret_r {rs : List IRes} {K : Value → IHeap → Prop} : retR rs K .ret T H = retO (ires T H rs) K H := rfl
theorem ret_n {rs : List IRes} {K : Value → IHeap → Prop} : retR rs K .normal T H = retO (ires T H rs) K H := rfl
theorem retO_some {v : Value} {K : Value → IHeap → Prop} : retO (some v) K H = K v H := by simp [retO]
theorem call_of {f : FuncId} {args : List Value} (h : C f args H fun v H' => iwpOps P C os K (T.put d v) H') : callO P C f args d os K T H := h

/-! where the order is drawn -/

def dO (P : Program) (C : CallT) (r : Option Value) (d : Option Nat) (st : List IOper) (os : List (IOper × List IOper)) (K : Env → IHeap → Prop) (T : Env) (H : IHeap) : Prop := ∃ v, r = some v ∧ stillAll P (T.put d v) H st ∧ iwpDraw P C os K (T.put d v) H
def dA (P : Program) (C : CallT) (r : Option (IObj × (Nat → Value))) (d : Option Nat) (st : List IOper) (os : List (IOper × List IOper)) (K : Env → IHeap → Prop) (T : Env) (H : IHeap) : Prop := ∃ x, r = some x ∧ stillAll P (T.put d (x.2 H.next)) (H.alloc x.1) st ∧ iwpDraw P C os K (T.put d (x.2 H.next)) (H.alloc x.1)
def dX (P : Program) (C : CallT) (r : Option (Value × IHeap)) (d : Option Nat) (st : List IOper) (os : List (IOper × List IOper)) (K : Env → IHeap → Prop) (T : Env) : Prop := ∃ x, r = some x ∧ stillAll P (T.put d x.1) x.2 st ∧ iwpDraw P C os K (T.put d x.1) x.2
def dcallO (P : Program) (C : CallT) (f : FuncId) (args : List Value) (d : Option Nat) (st : List IOper) (os : List (IOper × List IOper)) (K : Env → IHeap → Prop) (T : Env) (H : IHeap) : Prop := C f args H fun v H' => match st with
  | [] => iwpDraw P C os K (T.put d v) H'
  | _ => stillAll P (T.put d v) H' st ∧ iwpDraw P C os K (T.put d v) H'
def dF (P : Program) (C : CallT) (f : Value) (args : List Value) (d : Option Nat) (st : List IOper) (os : List (IOper × List IOper)) (K : Env → IHeap → Prop) (T : Env) (H : IHeap) : Prop := match f with
  | .func (.func g) a b => dcallO P C g (a.toList ++ args ++ b.toList) d st os K T H
  | _ => False
def dG (P : Program) (C : CallT) (b : Bool) (d : Option Nat) (o : IOp) (st : List IOper) (os : List (IOper × List IOper)) (K : Env → IHeap → Prop) (T : Env) (H : IHeap) : Prop := match b with
  | true => iop P C T H o fun v H' => match st with
    | [] => iwpDraw P C os K (T.put d v) H'
    | _ => stillAll P (T.put d v) H' st ∧ iwpDraw P C os K (T.put d v) H'
  | false => iwpDraw P C os K (T.put d undef) H

variable {st : List IOper} {ds : List (IOper × List IOper)}
theorem still_and {T : Env} {p : Prop} : (match st with | [] => p | _ => stillAll P T H st ∧ p) = (stillAll P T H st ∧ p) := by cases st <;> simp [stillAll]
theorem d_nil : iwpDraw P C [] K T H = K T H := rfl
theorem d_cons : iwpDraw P C ((⟨d, o, g⟩, st) :: ds) K T H = dG P C (wantedI T g) d o st ds K T H := by unfold dG; rfl
theorem dg_false : dG P C false d o st ds K T H = iwpDraw P C ds K (T.put d undef) H := rfl
def dK (P : Program) (C : CallT) (k : IKind) (d : Option Nat) (o : IOp) (st : List IOper) (os : List (IOper × List IOper)) (K : Env → IHeap → Prop) (T : Env) (H : IHeap) : Prop := match k with
  | .rd => dO P C (ird P T H o) d st os K T H
  | .al => dA P C (ial T o) d st os K T H
  | .ac => dX P C (iact P T H o) d st os K T
  | .ca => icall C T H (fun v H' => match st with
    | [] => iwpDraw P C os K (T.put d v) H'
    | _ => stillAll P (T.put d v) H' st ∧ iwpDraw P C os K (T.put d v) H') o
theorem dg_true : dG P C true d o st ds K T H = dK P C o.kind d o st ds K T H := by unfold dG iop dK dO dA dX; simp only [still_and]; cases o.kind <;> rfl
theorem dg_rd : dK P C .rd d o st ds K T H = dO P C (ird P T H o) d st ds K T H := rfl
theorem dg_al : dK P C .al d o st ds K T H = dA P C (ial T o) d st ds K T H := rfl
theorem dg_ac : dK P C .ac d o st ds K T H = dX P C (iact P T H o) d st ds K T := rfl
theorem dg_call {f : FuncId} {args : List Operand} : dK P C .ca d (.call f args) st ds K T H = dcallO P C f (args.map (ev T)) d st ds K T H := rfl
theorem dg_dyn {f : Operand} {args : List Operand} : dK P C .ca d (.callDyn f args) st ds K T H = dF P C (ev T f) (args.map (ev T)) d st ds K T H := by unfold dK dF; simp only [icall]; generalize ev T f = x; split <;> first | rfl | (split <;> simp_all)
theorem do_some {v : Value} : dO P C (some v) d st ds K T H = (stillAll P (T.put d v) H st ∧ iwpDraw P C ds K (T.put d v) H) := by simp [dO]
theorem da_some {x : IObj} {mk : Nat → Value} : dA P C (some (x, mk)) d st ds K T H = (stillAll P (T.put d (mk H.next)) (H.alloc x) st ∧ iwpDraw P C ds K (T.put d (mk H.next)) (H.alloc x)) := by simp [dA]
theorem dx_some {v : Value} {H' : IHeap} : dX P C (some (v, H')) d st ds K T = (stillAll P (T.put d v) H' st ∧ iwpDraw P C ds K (T.put d v) H') := by simp [dX]
theorem df_func {f : FuncId} {x y : Array Value} {args : List Value} : dF P C (.func (.func f) x y) args d st ds K T H = dcallO P C f (x.toList ++ args ++ y.toList) d st ds K T H := rfl
theorem dcall_of {f : FuncId} {args : List Value} (hC : LeC C C) (h : C f args H fun v H' => stillAll P (T.put d v) H' st ∧ iwpDraw P C ds K (T.put d v) H') : dcallO P C f args d st ds K T H := by
  unfold dcallO
  refine hC _ _ _ _ _ (fun v H' k => ?_) h
  rw [still_and]; exact k
theorem still_nil : stillAll P T H [] = True := rfl
theorem still_one {o : IOper} : stillAll P T H [o] = stillI P T H o := rfl
theorem still_cons {o p : IOper} {os : List IOper} : stillAll P T H (o :: p :: os) = (stillI P T H o ∧ stillAll P T H (p :: os)) := rfl
end

end Go.Proofs.YtpklgklmjhblpaaI
