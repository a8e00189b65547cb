/- Plain laws that walks need: whole numbers, slices' rows. -/
import Derived.Test.YtpklgklmjhblpaaIdealW
namespace Go.Proofs.YtpklgklmjhblpaaI
set_option linter.unusedSimpArgs false
set_option linter.unusedVariables false
open Go

theorem wrap64 {n : Int} (h : -9223372036854775808 ≤ n) (k : n < 9223372036854775808) : IntKind.i64.wrap n = n := by
  have e1 : (2 ^ IntKind.i64.bits : Int) = 18446744073709551616 := by decide
  have e2 : (2 ^ (IntKind.i64.bits - 1) : Int) = 9223372036854775808 := by decide
  unfold IntKind.wrap
  simp only [e1, e2, IntKind.signed, Bool.true_and]
  by_cases hn : 0 ≤ n
  · have : n % 18446744073709551616 = n := by omega
    rw [this]
    simp only [ge_iff_le]
    rw [if_neg (by simp; omega)]
  · have : n % 18446744073709551616 = n + 18446744073709551616 := by omega
    rw [this, if_pos (by simp; omega)]
    omega

theorem wf64 {n : Int} (h : (Lit.int .i64 n).wf = true) : -9223372036854775808 ≤ n ∧ n < 9223372036854775808 := by
  simp only [Lit.wf, Bool.and_eq_true, decide_eq_true_eq] at h
  have e1 : IntKind.i64.min = -9223372036854775808 := by decide
  have e2 : IntKind.i64.max = 9223372036854775807 := by decide
  omega

/-- A slice of rows, each of so many cells. -/
def SlR (H : IHeap) (size : Nat) (v : Value) (rows : List (List Value)) : Prop :=
  ∃ a cap, v = .slice a rows.length cap ∧ (rows ≠ [] → ∃ b o cs ro, a = some ⟨b, o, none⟩ ∧ b < H.next ∧ H.get b = some (.cells cs ro) ∧
    ∀ i r, rows[i]? = some r → r.length = size ∧ (cs.drop (o + i * size)).take size = r ∧ o + i * size + size ≤ cs.length)

theorem SlR.le {H H' : IHeap} {size : Nat} {v : Value} {rows : List (List Value)} (h : SlR H size v rows) (hl : H.le H') : SlR H' size v rows := by
  obtain ⟨a, cap, h1, h2⟩ := h
  refine ⟨a, cap, h1, fun hne => ?_⟩
  obtain ⟨b, o, cs, ro, h3, h4, h5, h6⟩ := h2 hne
  exact ⟨b, o, cs, ro, h3, Nat.lt_of_lt_of_le h4 hl.next, by rw [hl.get b h4]; exact h5, h6⟩

/-- A part of a row. -/
theorem win {cs r : List Value} {p n : Nat} (h : (cs.drop p).take n = r) (k m : Nat) (hk : k + m ≤ n) : (cs.drop (p + k)).take m = (r.drop k).take m := by
  subst h
  rw [List.drop_take, List.take_take, List.drop_drop, Nat.min_eq_left (by omega)]

/-! ### bits, under names -/
def andW (k : IntKind) (a b : Int) : Int := k.wrap (BitVec.ofInt k.bits a &&& BitVec.ofInt k.bits b).toNat
def orW (k : IntKind) (a b : Int) : Int := k.wrap (BitVec.ofInt k.bits a ||| BitVec.ofInt k.bits b).toNat
def xorW (k : IntKind) (a b : Int) : Int := k.wrap (BitVec.ofInt k.bits a ^^^ BitVec.ofInt k.bits b).toNat
def shlW (k : IntKind) (a b : Int) : Int := k.wrap (a * 2 ^ min b.toNat k.bits)
def shrW (k : IntKind) (a b : Int) : Int := a.fdiv (2 ^ min b.toNat k.bits)
section
variable {k : IntKind} {a b : Int}
theorem i2add : int2 .add k a b = some (.int k (k.wrap (a + b))) := rfl
theorem i2sub : int2 .sub k a b = some (.int k (k.wrap (a - b))) := rfl
theorem i2mul : int2 .mul k a b = some (.int k (k.wrap (a * b))) := rfl
theorem i2quo : int2 .quo k a b = if b = 0 then none else some (.int k (k.wrap (a.tdiv b))) := rfl
theorem i2rem : int2 .rem k a b = if b = 0 then none else some (.int k (a.tmod b)) := rfl
theorem i2and : int2 .and k a b = some (.int k (andW k a b)) := rfl
theorem i2or : int2 .or k a b = some (.int k (orW k a b)) := rfl
theorem i2xor : int2 .xor k a b = some (.int k (xorW k a b)) := rfl
theorem i2eql : int2 .eql k a b = some (.bool (decide (a = b))) := rfl
theorem i2neq : int2 .neq k a b = some (.bool (decide (a ≠ b))) := rfl
theorem i2lss : int2 .lss k a b = some (.bool (decide (a < b))) := rfl
theorem i2leq : int2 .leq k a b = some (.bool (decide (a ≤ b))) := rfl
theorem i2gtr : int2 .gtr k a b = some (.bool (decide (b < a))) := rfl
theorem i2geq : int2 .geq k a b = some (.bool (decide (b ≤ a))) := rfl
theorem i2shl : shf2 .shl k a b = if b < 0 then none else some (.int k (shlW k a b)) := rfl
theorem i2shr : shf2 .shr k a b = if b < 0 then none else some (.int k (shrW k a b)) := rfl
end

/-! ### cells of values -/
section
variable {k : IntKind} {n : Int} {b : Bool} {fk : FloatKind} {x y : Nat} {s : ByteArray} {a : Option Addr} {r : Option Nat} {fn : Fn} {p q : Array Value} {t : TypeId} {v : Value} {l : List UInt8}
theorem one1_bool : one1 (.bool b) = true := rfl
theorem cells_bool : Value.cells (.bool b) = #[.bool b] := rfl
theorem one1_int : one1 (.int k n) = true := rfl
theorem cells_int : Value.cells (.int k n) = #[.int k n] := rfl
theorem one1_float : one1 (.float fk x) = true := rfl
theorem cells_float : Value.cells (.float fk x) = #[.float fk x] := rfl
theorem one1_complex : one1 (.complex fk x y) = true := rfl
theorem cells_complex : Value.cells (.complex fk x y) = #[.complex fk x y] := rfl
theorem one1_string : one1 (.string s) = true := rfl
theorem cells_string : Value.cells (.string s) = #[.string s] := rfl
theorem one1_pointer : one1 (.pointer a) = true := rfl
theorem cells_pointer : Value.cells (.pointer a) = #[.pointer a] := rfl
theorem one1_slice : one1 (.slice a x y) = true := rfl
theorem cells_slice : Value.cells (.slice a x y) = #[.slice a x y] := rfl
theorem one1_map : one1 (.map r) = true := rfl
theorem cells_map : Value.cells (.map r) = #[.map r] := rfl
theorem one1_func : one1 (.func fn p q) = true := rfl
theorem cells_func : Value.cells (.func fn p q) = #[.func fn p q] := rfl
theorem one1_nilFunc : one1 (.nilFunc) = true := rfl
theorem cells_nilFunc : Value.cells (.nilFunc) = #[.nilFunc] := rfl
theorem one1_iface : one1 (.iface t v) = true := rfl
theorem cells_iface : Value.cells (.iface t v) = #[.iface t v] := rfl
theorem one1_nilIface : one1 (.nilIface) = true := rfl
theorem cells_nilIface : Value.cells (.nilIface) = #[.nilIface] := rfl
theorem one1_strV : one1 (strV l) = true := rfl
theorem cells_strV : Value.cells (strV l) = #[strV l] := rfl
theorem cells_agg : Value.cells (.agg p) = p := rfl
end

/-! ### maps' operations, under names -/
def lookR (P : Program) (H : IHeap) (kt : TypeId) (zero : Value) (ok : Bool) (mv kv : Value) : Option Value :=
  match entriesI H mv with
    | some es =>
      if keyOk P kt kv es = true then
        match findI P kt kv es 0 with
        | some (some i) => match es[i]? with
          | some e => some (if ok then .tuple #[e.val, .bool true] else e.val)
          | none => none
        | some none => some (if ok then .tuple #[zero, .bool false] else zero)
        | none => none
      else none
    | none => none
def putR (P : Program) (H : IHeap) (kt : TypeId) (mv kv vv : Value) : Option (Value × IHeap) :=
  match mv with
    | .map (some r) => match H.get r with
      | some (.map es clock) =>
        if keyOk P kt kv es = true then
          match findI P kt kv es 0 with
          | some (some i) =>
            if Instr.sameBits 10000 (((es[i]?).map (·.key)).getD kv) kv = true then
              some (undef, H.set r (.map (es.modify i fun e => { e with key := kv, val := vv }) clock)) else none
          | some none => some (undef, H.set r (.map (es ++ [{ key := kv, val := vv, born := clock }]) (clock + 1)))
          | none => none
        else none
      | _ => none
    | _ => none
def delR (P : Program) (H : IHeap) (kt : TypeId) (mv kv : Value) : Option (Value × IHeap) :=
  match mv with
    | .map (some r) => match H.get r with
      | some (.map es clock) =>
        if keyOk P kt kv es = true then
          match findI P kt kv es 0 with
          | some (some i) => some (.tuple #[], H.set r (.map (es.eraseIdx i) clock))
          | some none => some (.tuple #[], H.set r (.map es clock))
          | none => none
        else none
      | _ => none
    | _ => none
theorem ird_lookup {P : Program} {T : Env} {H : IHeap} {kt : TypeId} {zero : Value} {ok : Bool} {m k : Operand} : ird P T H (.lookup kt zero ok m k) = lookR P H kt zero ok (ev T m) (ev T k) := rfl
theorem iact_put {P : Program} {T : Env} {H : IHeap} {kt : TypeId} {m k v : Operand} : iact P T H (.mapUpdate kt m k v) = putR P H kt (ev T m) (ev T k) (ev T v) := rfl
theorem iact_del {P : Program} {T : Env} {H : IHeap} {kt : TypeId} {m k : Operand} : iact P T H (.delete kt m k) = delR P H kt (ev T m) (ev T k) := rfl

end Go.Proofs.YtpklgklmjhblpaaI
