/- Ballots: the greatest. -/
import Derived.Test.YthjdkcncnkcfaaaBallotW
namespace Go.Proofs.YthjdkcncnkcfaaaI
set_option linter.unusedSimpArgs false
set_option linter.unusedVariables false
open Go

structure VoteD where
  slot : Int
  a : Int
  n : Int
  val : ByteArray

def rowB (b : Int × Int) : List Value := [.int .i64 b.1, .int .i64 b.2]
def rowV (v : VoteD) : List Value := [.int .i64 v.slot, .int .i64 v.a, .int .i64 v.n, .string v.val]
def vV (v : VoteD) : Value := .agg #[.int .i64 v.slot, .int .i64 v.a, .int .i64 v.n, .string v.val]
def cmpBB (x y : Int × Int) : Int := cmpB x.1 x.2 y.1 y.2
def cmpVV (x y : VoteD) : Int := cmpB x.a x.n y.a y.n

def maxBy {α : Type} (cmp : α → α → Int) : List α → α → α
  | [], m => m
  | r :: l, m => maxBy cmp l (if 0 < cmp r m then r else m)

theorem maxBy_append {α : Type} (cmp : α → α → Int) : ∀ (l l' : List α) (m : α), maxBy cmp (l ++ l') m = maxBy cmp l' (maxBy cmp l m)
  | [], _, _ => rfl
  | r :: l, l', m => maxBy_append cmp l l' _
theorem maxBy_take {α : Type} (cmp : α → α → Int) (l : List α) (m r : α) (i : Nat) (h : l[i]? = some r) : maxBy cmp (l.take (i + 1)) m = if 0 < cmp r (maxBy cmp (l.take i) m) then r else maxBy cmp (l.take i) m := by
  rw [List.take_add_one, h, maxBy_append]; rfl

section
variable (c : Ctx) (hc : HasBallot c) {H : IHeap} {K : Value → IHeap → Prop}
include hc

theorem MaxFuncB_ok {x : Int × Int} {l : List (Int × Int)} {v : Value} {g : FuncId} (hs : SlR H 2 v ((x :: l).map rowB)) (hl : l.length < 4611686018427387904)
    (hg : ∀ (p q : Int × Int) (H : IHeap) (K : Value → IHeap → Prop), (∀ H', H.le H' → K (.int .i64 (cmpBB p q)) H') → c.C g [vB p.1 p.2, vB q.1 q.2] H K)
    (hK : ∀ H', H.le H' → K (vB (maxBy cmpBB l x).1 (maxBy cmpBB l x).2) H') : c.C (c.F n_slices_MaxFunc_api_Ballot_api_Ballot) [v, .func (.func g) #[] #[]] H K := by
  refine c.enter hc.slices_MaxFunc_api_Ballot_api_Ballot rfl ?_
  obtain ⟨a, cap, rfl, h2⟩ := hs
  obtain ⟨b, o, cs, ro, rfl, hb, hget, hrow⟩ := h2 (by simp)
  have hlen : ((x :: l).map rowB).length = l.length + 1 := by simp
  rw [hlen]
  obtain ⟨_, r2, r3⟩ := hrow 0 (rowB x) (by simp)
  simp only [Nat.zero_mul, Nat.add_zero] at r2 r3
  have hbn : b ≠ H.next := by omega
  have hl1 : ¬ ((l.length : Int) + 1 < 1) := by omega
  have hl0 : (0 : Int) < (l.length : Int) + 1 := by omega
  simp -implicitDefEqProofs [iwp_skip, iwp_ops, iwp_draw, iwp_seq, iwp_cond, iwp_block, iwp_exit, iwp_ret, thenI_n, thenI_r, thenI_e, blockI_n, blockI_r, blockI_e, c_true, c_false, want_none, want_some, wantV_bool, wantV_undef, w_nil, w_cons, g_false, g_true, g_rd, g_al, g_ac, g_call, g_dyn, o_some, a_some, x_some, f_func, ret_r, ret_n, retO_some, d_nil, d_cons, dg_false, dg_true, dg_rd, dg_al, dg_ac, dg_call, dg_dyn, do_some, da_some, dx_some, df_func, still_nil, still_one, still_cons, stillI, IOp.kind, ird, ial, iact, ires, iresL, ires1, ev_tmp, ev_const, ev_func, put_get, put_none, envOf_get, bin2, int2, un1, shOk, eqL, eq1, fillL, putAt, IHeap.load1, IHeap.loadL, IHeap.storeL, get_alloc, get_set, alloc_next, set_next, Value.cells, one1, c_slices_MaxFunc_api_Ballot_api_Ballot, hl1, hl0, hbn, hget, r2, r3, rowB]
  refine loop_nat c.mono (fun n T H' => ∃ (i : Nat) (m : Int × Int), i ≤ l.length ∧ n = l.length - i ∧ m = maxBy cmpBB (l.take i) x ∧ T 0 = .slice (some ⟨b, o, none⟩) (l.length + 1) cap ∧ T 1 = .func (.func g) #[] #[] ∧
    T 4 = .pointer (some ⟨H.next, 0, none⟩) ∧ T 5 = .pointer (some ⟨H.next + 1, 0, none⟩) ∧ T 6 = .int .i64 (i + 1) ∧ H.next + 2 ≤ H'.next ∧ (∀ k, k < H.next → H'.get k = H.get k) ∧
    H'.get H.next = some (.cells [.int .i64 0, .int .i64 0] false) ∧ H'.get (H.next + 1) = some (.cells (rowB m) false)) l.length ?_ ?_
  · refine ⟨0, x, by omega, rfl, rfl, ?_⟩
    simp -implicitDefEqProofs [iwp_skip, iwp_ops, iwp_draw, iwp_seq, iwp_cond, iwp_block, iwp_exit, iwp_ret, thenI_n, thenI_r, thenI_e, blockI_n, blockI_r, blockI_e, c_true, c_false, want_none, want_some, wantV_bool, wantV_undef, w_nil, w_cons, g_false, g_true, g_rd, g_al, g_ac, g_call, g_dyn, o_some, a_some, x_some, f_func, ret_r, ret_n, retO_some, d_nil, d_cons, dg_false, dg_true, dg_rd, dg_al, dg_ac, dg_call, dg_dyn, do_some, da_some, dx_some, df_func, still_nil, still_one, still_cons, stillI, IOp.kind, ird, ial, iact, ires, iresL, ires1, ev_tmp, ev_const, ev_func, put_get, put_none, envOf_get, bin2, int2, un1, shOk, eqL, eq1, fillL, putAt, IHeap.load1, IHeap.loadL, IHeap.storeL, get_alloc, get_set, alloc_next, set_next, Value.cells, one1, rowB]
    intro k hk
    have e1 : k ≠ H.next := by omega
    have e2 : k ≠ H.next + 1 := by omega
    simp [e1, e2]
  · rintro n T H' ⟨i, m, hi, rfl, hm, t0, t1, t4, t5, t6, hn, hold, g4, g5⟩
    have hb' := hold b hb
    by_cases hil : i < l.length
    · have hc1 : (i : Int) + 1 < (l.length : Int) + 1 := by omega
      have hc0 : (0 : Int) ≤ (i : Int) + 1 := by omega
      have hct : ((i : Int) + 1).toNat = i + 1 := by omega
      obtain ⟨_, s2, s3⟩ := hrow (i + 1) (rowB l[i]) (by simp [hil])
      simp -implicitDefEqProofs [iwp_skip, iwp_ops, iwp_draw, iwp_seq, iwp_cond, iwp_block, iwp_exit, iwp_ret, thenI_n, thenI_r, thenI_e, blockI_n, blockI_r, blockI_e, c_true, c_false, want_none, want_some, wantV_bool, wantV_undef, w_nil, w_cons, g_false, g_true, g_rd, g_al, g_ac, g_call, g_dyn, o_some, a_some, x_some, f_func, ret_r, ret_n, retO_some, d_nil, d_cons, dg_false, dg_true, dg_rd, dg_al, dg_ac, dg_call, dg_dyn, do_some, da_some, dx_some, df_func, still_nil, still_one, still_cons, stillI, IOp.kind, ird, ial, iact, ires, iresL, ires1, ev_tmp, ev_const, ev_func, put_get, put_none, envOf_get, bin2, int2, un1, shOk, eqL, eq1, fillL, putAt, IHeap.load1, IHeap.loadL, IHeap.storeL, get_alloc, get_set, alloc_next, set_next, Value.cells, one1, t0, t1, t4, t5, t6, hc1, hc0, hct, hb', hget, s2, s3, g5, rowB]
      refine dcall_of c.mono (hg l[i] m _ _ fun H1 h1 => ?_)
      have k5 := (h1.get (H.next + 1) (by omega)).trans g5
      have k4 := (h1.get H.next (by omega)).trans g4
      have kb := (h1.get b (by omega)).trans hb'
      have hw : IntKind.i64.wrap ((i : Int) + 1 + 1) = (i : Int) + 1 + 1 := wrap64 (by omega) (by omega)
      have hmt := maxBy_take cmpBB l x l[i] i (by simp [hil])
      rw [← hm] at hmt
      by_cases hcmp : 0 < cmpBB l[i] m
      · simp -implicitDefEqProofs [iwp_skip, iwp_ops, iwp_draw, iwp_seq, iwp_cond, iwp_block, iwp_exit, iwp_ret, thenI_n, thenI_r, thenI_e, blockI_n, blockI_r, blockI_e, c_true, c_false, want_none, want_some, wantV_bool, wantV_undef, w_nil, w_cons, g_false, g_true, g_rd, g_al, g_ac, g_call, g_dyn, o_some, a_some, x_some, f_func, ret_r, ret_n, retO_some, d_nil, d_cons, dg_false, dg_true, dg_rd, dg_al, dg_ac, dg_call, dg_dyn, do_some, da_some, dx_some, df_func, still_nil, still_one, still_cons, stillI, IOp.kind, ird, ial, iact, ires, iresL, ires1, ev_tmp, ev_const, ev_func, put_get, put_none, envOf_get, bin2, int2, un1, shOk, eqL, eq1, fillL, putAt, IHeap.load1, IHeap.loadL, IHeap.storeL, get_alloc, get_set, alloc_next, set_next, Value.cells, one1, t0, t1, t4, t5, t6, hc1, hc0, hct, hb', hget, s2, s3, k5, k4, kb, rowB, hcmp, hw]
        refine ⟨l.length - (i + 1), by omega, i + 1, by omega, rfl, by simp, by have := h1.next; omega, fun k hk => ?_, ?_⟩
        · rw [if_neg (by omega), h1.get k (by omega), hold k hk]
        · rw [hmt, if_pos hcmp]; exact ⟨rfl, rfl⟩
      · simp -implicitDefEqProofs [iwp_skip, iwp_ops, iwp_draw, iwp_seq, iwp_cond, iwp_block, iwp_exit, iwp_ret, thenI_n, thenI_r, thenI_e, blockI_n, blockI_r, blockI_e, c_true, c_false, want_none, want_some, wantV_bool, wantV_undef, w_nil, w_cons, g_false, g_true, g_rd, g_al, g_ac, g_call, g_dyn, o_some, a_some, x_some, f_func, ret_r, ret_n, retO_some, d_nil, d_cons, dg_false, dg_true, dg_rd, dg_al, dg_ac, dg_call, dg_dyn, do_some, da_some, dx_some, df_func, still_nil, still_one, still_cons, stillI, IOp.kind, ird, ial, iact, ires, iresL, ires1, ev_tmp, ev_const, ev_func, put_get, put_none, envOf_get, bin2, int2, un1, shOk, eqL, eq1, fillL, putAt, IHeap.load1, IHeap.loadL, IHeap.storeL, get_alloc, get_set, alloc_next, set_next, Value.cells, one1, t0, t1, t4, t5, t6, hc1, hc0, hct, hb', hget, s2, s3, k5, k4, kb, rowB, hcmp, hw]
        refine ⟨l.length - (i + 1), by omega, i + 1, by omega, rfl, by simp, by have := h1.next; omega, fun k hk => ?_, ?_⟩
        · rw [h1.get k (by omega), hold k hk]
        · rw [hmt, if_neg hcmp]; exact ⟨rfl, rfl⟩
    · have hie : i = l.length := by omega
      subst hie
      rw [List.take_length] at hm
      simp -implicitDefEqProofs [iwp_skip, iwp_ops, iwp_draw, iwp_seq, iwp_cond, iwp_block, iwp_exit, iwp_ret, thenI_n, thenI_r, thenI_e, blockI_n, blockI_r, blockI_e, c_true, c_false, want_none, want_some, wantV_bool, wantV_undef, w_nil, w_cons, g_false, g_true, g_rd, g_al, g_ac, g_call, g_dyn, o_some, a_some, x_some, f_func, ret_r, ret_n, retO_some, d_nil, d_cons, dg_false, dg_true, dg_rd, dg_al, dg_ac, dg_call, dg_dyn, do_some, da_some, dx_some, df_func, still_nil, still_one, still_cons, stillI, IOp.kind, ird, ial, iact, ires, iresL, ires1, ev_tmp, ev_const, ev_func, put_get, put_none, envOf_get, bin2, int2, un1, shOk, eqL, eq1, fillL, putAt, IHeap.load1, IHeap.loadL, IHeap.storeL, get_alloc, get_set, alloc_next, set_next, Value.cells, one1, t0, t1, t4, t5, t6, g5, g4, rowB]
      rw [← hm] at hK
      refine hK _ ⟨by simp only [set_next]; omega, fun k hk => ?_⟩
      rw [get_set, if_neg (by omega)]; exact hold k hk

theorem greatest_ok {x : Int × Int} {l : List (Int × Int)} {v : Value} (hs : SlR H 2 v ((x :: l).map rowB)) (hl : l.length < 4611686018427387904) (hK : ∀ H', H.le H' → K (vB (maxBy cmpBB l x).1 (maxBy cmpBB l x).2) H') :
    c.C (c.F n_ballot_greatest) [v] H K := by
  refine c.enter hc.ballot_greatest rfl ?_
  simp -implicitDefEqProofs [iwp_skip, iwp_ops, iwp_draw, iwp_seq, iwp_cond, iwp_block, iwp_exit, iwp_ret, thenI_n, thenI_r, thenI_e, blockI_n, blockI_r, blockI_e, c_true, c_false, want_none, want_some, wantV_bool, wantV_undef, w_nil, w_cons, g_false, g_true, g_rd, g_al, g_ac, g_call, g_dyn, o_some, a_some, x_some, f_func, ret_r, ret_n, retO_some, d_nil, d_cons, dg_false, dg_true, dg_rd, dg_al, dg_ac, dg_call, dg_dyn, do_some, da_some, dx_some, df_func, still_nil, still_one, still_cons, stillI, IOp.kind, ird, ial, iact, ires, iresL, ires1, ev_tmp, ev_const, ev_func, put_get, put_none, envOf_get, bin2, int2, un1, shOk, eqL, eq1, fillL, putAt, IHeap.load1, IHeap.loadL, IHeap.storeL, get_alloc, get_set, alloc_next, set_next, Value.cells, one1, c_ballot_greatest]
  refine call_of (MaxFuncB_ok c hc (hs.le (H.le_alloc _)) hl (fun p q H K h => Cmp_ok c hc h) fun H1 h1 => ?_)
  have k2 := (h1.get H.next (by simp [alloc_next])).trans (alloc_get H _)
  simp -implicitDefEqProofs [iwp_skip, iwp_ops, iwp_draw, iwp_seq, iwp_cond, iwp_block, iwp_exit, iwp_ret, thenI_n, thenI_r, thenI_e, blockI_n, blockI_r, blockI_e, c_true, c_false, want_none, want_some, wantV_bool, wantV_undef, w_nil, w_cons, g_false, g_true, g_rd, g_al, g_ac, g_call, g_dyn, o_some, a_some, x_some, f_func, ret_r, ret_n, retO_some, d_nil, d_cons, dg_false, dg_true, dg_rd, dg_al, dg_ac, dg_call, dg_dyn, do_some, da_some, dx_some, df_func, still_nil, still_one, still_cons, stillI, IOp.kind, ird, ial, iact, ires, iresL, ires1, ev_tmp, ev_const, ev_func, put_get, put_none, envOf_get, bin2, int2, un1, shOk, eqL, eq1, fillL, putAt, IHeap.load1, IHeap.loadL, IHeap.storeL, get_alloc, get_set, alloc_next, set_next, Value.cells, one1, k2, vB]
  refine hK _ ⟨by have := h1.next; simp only [alloc_next] at this; simp only [set_next]; omega, fun k hk => ?_⟩
  rw [get_set, if_neg (by omega), h1.get k (by simp only [alloc_next]; omega), get_alloc, if_neg (by omega)]

def maxL (l : List (Int × Int)) : Int × Int := match l with
  | [] => (0, 0)
  | x :: l => maxBy cmpBB l x

omit hc in
theorem maxL_take (l : List (Int × Int)) (i : Nat) (r : Int × Int) (h : l[i]? = some r) : maxL (l.take (i + 1)) = if i = 0 ∨ 0 < cmpBB r (maxL (l.take i)) then r else maxL (l.take i) := by
  cases l with
  | nil => simp at h
  | cons x l =>
    cases i with
    | zero => simp at h; subst h; simp [maxL, maxBy]
    | succ i =>
      simp only [List.take_succ_cons, maxL]
      rw [maxBy_take cmpBB l x r i (by simpa using h)]
      simp

theorem Max_ok {l : List (Int × Int)} {v : Value} (hs : SlR H 2 v (l.map rowB)) (hl : l.length < 4611686018427387904) (hK : ∀ H', H.le H' → K (vB (maxL l).1 (maxL l).2) H') : c.C (c.F n_ballot_Max) [v] H K := by
  refine c.enter hc.ballot_Max rfl ?_
  cases l with
  | nil =>
    obtain ⟨a, cap, rfl, _⟩ := hs
    simp -implicitDefEqProofs [iwp_skip, iwp_ops, iwp_draw, iwp_seq, iwp_cond, iwp_block, iwp_exit, iwp_ret, thenI_n, thenI_r, thenI_e, blockI_n, blockI_r, blockI_e, c_true, c_false, want_none, want_some, wantV_bool, wantV_undef, w_nil, w_cons, g_false, g_true, g_rd, g_al, g_ac, g_call, g_dyn, o_some, a_some, x_some, f_func, ret_r, ret_n, retO_some, d_nil, d_cons, dg_false, dg_true, dg_rd, dg_al, dg_ac, dg_call, dg_dyn, do_some, da_some, dx_some, df_func, still_nil, still_one, still_cons, stillI, IOp.kind, ird, ial, iact, ires, iresL, ires1, ev_tmp, ev_const, ev_func, put_get, put_none, envOf_get, bin2, int2, un1, shOk, eqL, eq1, fillL, putAt, IHeap.load1, IHeap.loadL, IHeap.storeL, get_alloc, get_set, alloc_next, set_next, Value.cells, one1, c_ballot_Max]
    exact hK _ (by (repeat' first | exact IHeap.le_refl _ | assumption | apply IHeap.le.alloc | (refine IHeap.le.set ?_ (by (try simp only [alloc_next, set_next]); omega) _) | (refine IHeap.le.trans ?_ (by assumption))))
  | cons x l =>
    have hs' := hs
    obtain ⟨a, cap, rfl, _⟩ := hs
    have h0 : ((l.length : Int) + 1 = 0) = False := by simp; omega
    simp -implicitDefEqProofs [iwp_skip, iwp_ops, iwp_draw, iwp_seq, iwp_cond, iwp_block, iwp_exit, iwp_ret, thenI_n, thenI_r, thenI_e, blockI_n, blockI_r, blockI_e, c_true, c_false, want_none, want_some, wantV_bool, wantV_undef, w_nil, w_cons, g_false, g_true, g_rd, g_al, g_ac, g_call, g_dyn, o_some, a_some, x_some, f_func, ret_r, ret_n, retO_some, d_nil, d_cons, dg_false, dg_true, dg_rd, dg_al, dg_ac, dg_call, dg_dyn, do_some, da_some, dx_some, df_func, still_nil, still_one, still_cons, stillI, IOp.kind, ird, ial, iact, ires, iresL, ires1, ev_tmp, ev_const, ev_func, put_get, put_none, envOf_get, bin2, int2, un1, shOk, eqL, eq1, fillL, putAt, IHeap.load1, IHeap.loadL, IHeap.storeL, get_alloc, get_set, alloc_next, set_next, Value.cells, one1, c_ballot_Max, h0]
    refine call_of (greatest_ok c hc (by simpa using hs'.le (H.le_alloc _)) (by simp at hl; omega) fun H1 h1 => ?_)
    have k2 := (h1.get H.next (by simp [alloc_next])).trans (alloc_get H _)
    simp -implicitDefEqProofs [iwp_skip, iwp_ops, iwp_draw, iwp_seq, iwp_cond, iwp_block, iwp_exit, iwp_ret, thenI_n, thenI_r, thenI_e, blockI_n, blockI_r, blockI_e, c_true, c_false, want_none, want_some, wantV_bool, wantV_undef, w_nil, w_cons, g_false, g_true, g_rd, g_al, g_ac, g_call, g_dyn, o_some, a_some, x_some, f_func, ret_r, ret_n, retO_some, d_nil, d_cons, dg_false, dg_true, dg_rd, dg_al, dg_ac, dg_call, dg_dyn, do_some, da_some, dx_some, df_func, still_nil, still_one, still_cons, stillI, IOp.kind, ird, ial, iact, ires, iresL, ires1, ev_tmp, ev_const, ev_func, put_get, put_none, envOf_get, bin2, int2, un1, shOk, eqL, eq1, fillL, putAt, IHeap.load1, IHeap.loadL, IHeap.storeL, get_alloc, get_set, alloc_next, set_next, Value.cells, one1, k2, vB]
    refine hK _ ⟨by have := h1.next; simp only [alloc_next] at this; simp only [set_next]; omega, fun k hk => ?_⟩
    rw [get_set, if_neg (by omega), h1.get k (by simp only [alloc_next]; omega), get_alloc, if_neg (by omega)]

theorem refMax_ok {l : List (Int × Int)} {v : Value} (hs : SlR H 2 v (l.map rowB)) (hl : l.length < 4611686018427387904) (hK : ∀ H', H.le H' → K (vB (maxL l).1 (maxL l).2) H') : c.C (c.F n_hurdleref16_Max) [v] H K := by
  refine c.enter hc.hurdleref16_Max rfl ?_
  obtain ⟨a, cap, rfl, h2⟩ := hs
  have hlen : (l.map rowB).length = l.length := by simp
  rw [hlen]
  simp -implicitDefEqProofs [iwp_skip, iwp_ops, iwp_draw, iwp_seq, iwp_cond, iwp_block, iwp_exit, iwp_ret, thenI_n, thenI_r, thenI_e, blockI_n, blockI_r, blockI_e, c_true, c_false, want_none, want_some, wantV_bool, wantV_undef, w_nil, w_cons, g_false, g_true, g_rd, g_al, g_ac, g_call, g_dyn, o_some, a_some, x_some, f_func, ret_r, ret_n, retO_some, d_nil, d_cons, dg_false, dg_true, dg_rd, dg_al, dg_ac, dg_call, dg_dyn, do_some, da_some, dx_some, df_func, still_nil, still_one, still_cons, stillI, IOp.kind, ird, ial, iact, ires, iresL, ires1, ev_tmp, ev_const, ev_func, put_get, put_none, envOf_get, bin2, int2, un1, shOk, eqL, eq1, fillL, putAt, IHeap.load1, IHeap.loadL, IHeap.storeL, get_alloc, get_set, alloc_next, set_next, Value.cells, one1, c_hurdleref16_Max]
  refine loop_nat c.mono (fun n T H' => ∃ (i : Nat) (m : Int × Int), i ≤ l.length ∧ n = l.length - i ∧ m = maxL (l.take i) ∧ T 0 = .slice a l.length cap ∧
    T 2 = .pointer (some ⟨H.next, 0, none⟩) ∧ T 3 = .pointer (some ⟨H.next + 1, 0, none⟩) ∧ T 4 = .int .i64 i ∧ H.next + 2 ≤ H'.next ∧ (∀ k, k < H.next → H'.get k = H.get k) ∧
    H'.get H.next = some (.cells [.int .i64 0, .int .i64 0] false) ∧ H'.get (H.next + 1) = some (.cells (rowB m) false)) l.length ?_ ?_
  · refine ⟨0, (0, 0), by omega, rfl, rfl, ?_⟩
    simp -implicitDefEqProofs [iwp_skip, iwp_ops, iwp_draw, iwp_seq, iwp_cond, iwp_block, iwp_exit, iwp_ret, thenI_n, thenI_r, thenI_e, blockI_n, blockI_r, blockI_e, c_true, c_false, want_none, want_some, wantV_bool, wantV_undef, w_nil, w_cons, g_false, g_true, g_rd, g_al, g_ac, g_call, g_dyn, o_some, a_some, x_some, f_func, ret_r, ret_n, retO_some, d_nil, d_cons, dg_false, dg_true, dg_rd, dg_al, dg_ac, dg_call, dg_dyn, do_some, da_some, dx_some, df_func, still_nil, still_one, still_cons, stillI, IOp.kind, ird, ial, iact, ires, iresL, ires1, ev_tmp, ev_const, ev_func, put_get, put_none, envOf_get, bin2, int2, un1, shOk, eqL, eq1, fillL, putAt, IHeap.load1, IHeap.loadL, IHeap.storeL, get_alloc, get_set, alloc_next, set_next, Value.cells, one1, rowB]
    intro k hk
    have e1 : k ≠ H.next := by omega
    have e2 : k ≠ H.next + 1 := by omega
    simp [e1, e2]
  · rintro n T H' ⟨i, m, hi, rfl, hm, t0, t2, t3, t4, hn, hold, g4, g5⟩
    by_cases hil : i < l.length
    · obtain ⟨b, o, cs, ro, rfl, hb, hget, hrow⟩ := h2 (by intro h; simp at h; subst h; simp at hil)
      have hb' := hold b hb
      obtain ⟨_, s2, s3⟩ := hrow i (rowB l[i]) (by simp [hil])
      have hbn : b ≠ H.next + 1 := by omega
      have hw : IntKind.i64.wrap ((i : Int) + 1) = (i : Int) + 1 := wrap64 (by omega) (by omega)
      have hmt := maxL_take l i l[i] (by simp [hil])
      rw [← hm] at hmt
      by_cases hi0 : i = 0
      · rw [if_pos (.inl hi0)] at hmt
        subst hi0
        simp only [Nat.zero_mul, Nat.add_zero] at s2 s3
        simp -implicitDefEqProofs [iwp_skip, iwp_ops, iwp_draw, iwp_seq, iwp_cond, iwp_block, iwp_exit, iwp_ret, thenI_n, thenI_r, thenI_e, blockI_n, blockI_r, blockI_e, c_true, c_false, want_none, want_some, wantV_bool, wantV_undef, w_nil, w_cons, g_false, g_true, g_rd, g_al, g_ac, g_call, g_dyn, o_some, a_some, x_some, f_func, ret_r, ret_n, retO_some, d_nil, d_cons, dg_false, dg_true, dg_rd, dg_al, dg_ac, dg_call, dg_dyn, do_some, da_some, dx_some, df_func, still_nil, still_one, still_cons, stillI, IOp.kind, ird, ial, iact, ires, iresL, ires1, ev_tmp, ev_const, ev_func, put_get, put_none, envOf_get, bin2, int2, un1, shOk, eqL, eq1, fillL, putAt, IHeap.load1, IHeap.loadL, IHeap.storeL, get_alloc, get_set, alloc_next, set_next, Value.cells, one1, t0, t2, t3, t4, hil, hb', hget, s2, s3, g5, g4, rowB, hw]
        refine ⟨l.length - 1, by omega, 1, by omega, rfl, by decide, hn, fun k hk => ?_, ?_⟩
        · rw [if_neg (by omega), hold k hk]
        · have hmt1 : maxL (List.take 1 l) = l[0] := hmt
          rw [hmt1]; exact ⟨rfl, rfl⟩
      · simp -implicitDefEqProofs [iwp_skip, iwp_ops, iwp_draw, iwp_seq, iwp_cond, iwp_block, iwp_exit, iwp_ret, thenI_n, thenI_r, thenI_e, blockI_n, blockI_r, blockI_e, c_true, c_false, want_none, want_some, wantV_bool, wantV_undef, w_nil, w_cons, g_false, g_true, g_rd, g_al, g_ac, g_call, g_dyn, o_some, a_some, x_some, f_func, ret_r, ret_n, retO_some, d_nil, d_cons, dg_false, dg_true, dg_rd, dg_al, dg_ac, dg_call, dg_dyn, do_some, da_some, dx_some, df_func, still_nil, still_one, still_cons, stillI, IOp.kind, ird, ial, iact, ires, iresL, ires1, ev_tmp, ev_const, ev_func, put_get, put_none, envOf_get, bin2, int2, un1, shOk, eqL, eq1, fillL, putAt, IHeap.load1, IHeap.loadL, IHeap.storeL, get_alloc, get_set, alloc_next, set_next, Value.cells, one1, t0, t2, t3, t4, hil, hb', hget, s2, s3, g5, rowB, hi0]
        refine dcall_of c.mono (refCmp_ok c hc fun H1 h1 => ?_)
        have k5 := (h1.get (H.next + 1) (by omega)).trans g5
        have k4 := (h1.get H.next (by omega)).trans g4
        have kb := (h1.get b (by omega)).trans hb'
        by_cases hcmp : 0 < cmpB l[i].1 l[i].2 m.1 m.2
        · simp -implicitDefEqProofs [iwp_skip, iwp_ops, iwp_draw, iwp_seq, iwp_cond, iwp_block, iwp_exit, iwp_ret, thenI_n, thenI_r, thenI_e, blockI_n, blockI_r, blockI_e, c_true, c_false, want_none, want_some, wantV_bool, wantV_undef, w_nil, w_cons, g_false, g_true, g_rd, g_al, g_ac, g_call, g_dyn, o_some, a_some, x_some, f_func, ret_r, ret_n, retO_some, d_nil, d_cons, dg_false, dg_true, dg_rd, dg_al, dg_ac, dg_call, dg_dyn, do_some, da_some, dx_some, df_func, still_nil, still_one, still_cons, stillI, IOp.kind, ird, ial, iact, ires, iresL, ires1, ev_tmp, ev_const, ev_func, put_get, put_none, envOf_get, bin2, int2, un1, shOk, eqL, eq1, fillL, putAt, IHeap.load1, IHeap.loadL, IHeap.storeL, get_alloc, get_set, alloc_next, set_next, Value.cells, one1, t0, t2, t3, t4, hil, hb', hget, s2, s3, k5, k4, kb, rowB, hi0, hcmp, hw]
          rw [if_pos (.inr hcmp)] at hmt
          refine ⟨l.length - (i + 1), by omega, i + 1, by omega, rfl, by simp, by have := h1.next; omega, fun k hk => ?_, ?_⟩
          · rw [if_neg (by omega), h1.get k (by omega), hold k hk]
          · rw [hmt]; exact ⟨rfl, rfl⟩
        · simp -implicitDefEqProofs [iwp_skip, iwp_ops, iwp_draw, iwp_seq, iwp_cond, iwp_block, iwp_exit, iwp_ret, thenI_n, thenI_r, thenI_e, blockI_n, blockI_r, blockI_e, c_true, c_false, want_none, want_some, wantV_bool, wantV_undef, w_nil, w_cons, g_false, g_true, g_rd, g_al, g_ac, g_call, g_dyn, o_some, a_some, x_some, f_func, ret_r, ret_n, retO_some, d_nil, d_cons, dg_false, dg_true, dg_rd, dg_al, dg_ac, dg_call, dg_dyn, do_some, da_some, dx_some, df_func, still_nil, still_one, still_cons, stillI, IOp.kind, ird, ial, iact, ires, iresL, ires1, ev_tmp, ev_const, ev_func, put_get, put_none, envOf_get, bin2, int2, un1, shOk, eqL, eq1, fillL, putAt, IHeap.load1, IHeap.loadL, IHeap.storeL, get_alloc, get_set, alloc_next, set_next, Value.cells, one1, t0, t2, t3, t4, hil, hb', hget, s2, s3, k5, k4, kb, rowB, hi0, hcmp, hw]
          rw [if_neg (by rintro (h | h); exact hi0 h; exact hcmp h)] at hmt
          refine ⟨l.length - (i + 1), by omega, i + 1, by omega, rfl, by simp, by have := h1.next; omega, fun k hk => ?_, ?_⟩
          · rw [h1.get k (by omega), hold k hk]
          · rw [hmt]; exact ⟨rfl, rfl⟩
    · have hie : i = l.length := by omega
      subst hie
      rw [List.take_length] at hm
      simp -implicitDefEqProofs [iwp_skip, iwp_ops, iwp_draw, iwp_seq, iwp_cond, iwp_block, iwp_exit, iwp_ret, thenI_n, thenI_r, thenI_e, blockI_n, blockI_r, blockI_e, c_true, c_false, want_none, want_some, wantV_bool, wantV_undef, w_nil, w_cons, g_false, g_true, g_rd, g_al, g_ac, g_call, g_dyn, o_some, a_some, x_some, f_func, ret_r, ret_n, retO_some, d_nil, d_cons, dg_false, dg_true, dg_rd, dg_al, dg_ac, dg_call, dg_dyn, do_some, da_some, dx_some, df_func, still_nil, still_one, still_cons, stillI, IOp.kind, ird, ial, iact, ires, iresL, ires1, ev_tmp, ev_const, ev_func, put_get, put_none, envOf_get, bin2, int2, un1, shOk, eqL, eq1, fillL, putAt, IHeap.load1, IHeap.loadL, IHeap.storeL, get_alloc, get_set, alloc_next, set_next, Value.cells, one1, t0, t2, t3, t4, g5, g4, rowB]
      rw [← hm] at hK
      refine hK _ ⟨by simp only [set_next]; omega, fun k hk => ?_⟩
      rw [get_set, if_neg (by omega)]; exact hold k hk

def maxV (l : List VoteD) : VoteD := match l with
  | [] => ⟨0, 0, 0, ⟨#[]⟩⟩
  | x :: l => maxBy cmpVV l x
def pickV (l : List VoteD) : Value := .tuple #[vV (maxV l), .bool (decide (0 < l.length))]

theorem MaxFuncV_ok {x : VoteD} {l : List (VoteD)} {v : Value} {g : FuncId} (hs : SlR H 4 v ((x :: l).map rowV)) (hl : l.length < 4611686018427387904)
    (hg : ∀ (p q : VoteD) (H : IHeap) (K : Value → IHeap → Prop), (∀ H', H.le H' → K (.int .i64 (cmpVV p q)) H') → c.C g [vV p, vV q] H K)
    (hK : ∀ H', H.le H' → K (vV (maxBy cmpVV l x)) H') : c.C (c.F n_slices_MaxFunc_api_Vote_api_Vote) [v, .func (.func g) #[] #[]] H K := by
  refine c.enter hc.slices_MaxFunc_api_Vote_api_Vote rfl ?_
  obtain ⟨a, cap, rfl, h2⟩ := hs
  obtain ⟨b, o, cs, ro, rfl, hb, hget, hrow⟩ := h2 (by simp)
  have hlen : ((x :: l).map rowV).length = l.length + 1 := by simp
  rw [hlen]
  obtain ⟨_, r2, r3⟩ := hrow 0 (rowV x) (by simp)
  simp only [Nat.zero_mul, Nat.add_zero] at r2 r3
  have hbn : b ≠ H.next := by omega
  have hl1 : ¬ ((l.length : Int) + 1 < 1) := by omega
  have hl0 : (0 : Int) < (l.length : Int) + 1 := by omega
  simp -implicitDefEqProofs [iwp_skip, iwp_ops, iwp_draw, iwp_seq, iwp_cond, iwp_block, iwp_exit, iwp_ret, thenI_n, thenI_r, thenI_e, blockI_n, blockI_r, blockI_e, c_true, c_false, want_none, want_some, wantV_bool, wantV_undef, w_nil, w_cons, g_false, g_true, g_rd, g_al, g_ac, g_call, g_dyn, o_some, a_some, x_some, f_func, ret_r, ret_n, retO_some, d_nil, d_cons, dg_false, dg_true, dg_rd, dg_al, dg_ac, dg_call, dg_dyn, do_some, da_some, dx_some, df_func, still_nil, still_one, still_cons, stillI, IOp.kind, ird, ial, iact, ires, iresL, ires1, ev_tmp, ev_const, ev_func, put_get, put_none, envOf_get, bin2, int2, un1, shOk, eqL, eq1, fillL, putAt, IHeap.load1, IHeap.loadL, IHeap.storeL, get_alloc, get_set, alloc_next, set_next, Value.cells, one1, c_slices_MaxFunc_api_Vote_api_Vote, hl1, hl0, hbn, hget, r2, r3, rowV]
  refine loop_nat c.mono (fun n T H' => ∃ (i : Nat) (m : VoteD), i ≤ l.length ∧ n = l.length - i ∧ m = maxBy cmpVV (l.take i) x ∧ T 0 = .slice (some ⟨b, o, none⟩) (l.length + 1) cap ∧ T 1 = .func (.func g) #[] #[] ∧
    T 4 = .pointer (some ⟨H.next, 0, none⟩) ∧ T 5 = .pointer (some ⟨H.next + 1, 0, none⟩) ∧ T 6 = .int .i64 (i + 1) ∧ H.next + 2 ≤ H'.next ∧ (∀ k, k < H.next → H'.get k = H.get k) ∧
    H'.get H.next = some (.cells [.int .i64 0, .int .i64 0, .int .i64 0, .string ⟨#[]⟩] false) ∧ H'.get (H.next + 1) = some (.cells (rowV m) false)) l.length ?_ ?_
  · refine ⟨0, x, by omega, rfl, rfl, ?_⟩
    simp -implicitDefEqProofs [iwp_skip, iwp_ops, iwp_draw, iwp_seq, iwp_cond, iwp_block, iwp_exit, iwp_ret, thenI_n, thenI_r, thenI_e, blockI_n, blockI_r, blockI_e, c_true, c_false, want_none, want_some, wantV_bool, wantV_undef, w_nil, w_cons, g_false, g_true, g_rd, g_al, g_ac, g_call, g_dyn, o_some, a_some, x_some, f_func, ret_r, ret_n, retO_some, d_nil, d_cons, dg_false, dg_true, dg_rd, dg_al, dg_ac, dg_call, dg_dyn, do_some, da_some, dx_some, df_func, still_nil, still_one, still_cons, stillI, IOp.kind, ird, ial, iact, ires, iresL, ires1, ev_tmp, ev_const, ev_func, put_get, put_none, envOf_get, bin2, int2, un1, shOk, eqL, eq1, fillL, putAt, IHeap.load1, IHeap.loadL, IHeap.storeL, get_alloc, get_set, alloc_next, set_next, Value.cells, one1, rowV]
    intro k hk
    have e1 : k ≠ H.next := by omega
    have e2 : k ≠ H.next + 1 := by omega
    simp [e1, e2]
  · rintro n T H' ⟨i, m, hi, rfl, hm, t0, t1, t4, t5, t6, hn, hold, g4, g5⟩
    have hb' := hold b hb
    by_cases hil : i < l.length
    · have hc1 : (i : Int) + 1 < (l.length : Int) + 1 := by omega
      have hc0 : (0 : Int) ≤ (i : Int) + 1 := by omega
      have hct : ((i : Int) + 1).toNat = i + 1 := by omega
      obtain ⟨_, s2, s3⟩ := hrow (i + 1) (rowV l[i]) (by simp [hil])
      simp -implicitDefEqProofs [iwp_skip, iwp_ops, iwp_draw, iwp_seq, iwp_cond, iwp_block, iwp_exit, iwp_ret, thenI_n, thenI_r, thenI_e, blockI_n, blockI_r, blockI_e, c_true, c_false, want_none, want_some, wantV_bool, wantV_undef, w_nil, w_cons, g_false, g_true, g_rd, g_al, g_ac, g_call, g_dyn, o_some, a_some, x_some, f_func, ret_r, ret_n, retO_some, d_nil, d_cons, dg_false, dg_true, dg_rd, dg_al, dg_ac, dg_call, dg_dyn, do_some, da_some, dx_some, df_func, still_nil, still_one, still_cons, stillI, IOp.kind, ird, ial, iact, ires, iresL, ires1, ev_tmp, ev_const, ev_func, put_get, put_none, envOf_get, bin2, int2, un1, shOk, eqL, eq1, fillL, putAt, IHeap.load1, IHeap.loadL, IHeap.storeL, get_alloc, get_set, alloc_next, set_next, Value.cells, one1, t0, t1, t4, t5, t6, hc1, hc0, hct, hb', hget, s2, s3, g5, rowV]
      refine dcall_of c.mono (hg l[i] m _ _ fun H1 h1 => ?_)
      have k5 := (h1.get (H.next + 1) (by omega)).trans g5
      have k4 := (h1.get H.next (by omega)).trans g4
      have kb := (h1.get b (by omega)).trans hb'
      have hw : IntKind.i64.wrap ((i : Int) + 1 + 1) = (i : Int) + 1 + 1 := wrap64 (by omega) (by omega)
      have hmt := maxBy_take cmpVV l x l[i] i (by simp [hil])
      rw [← hm] at hmt
      by_cases hcmp : 0 < cmpVV l[i] m
      · simp -implicitDefEqProofs [iwp_skip, iwp_ops, iwp_draw, iwp_seq, iwp_cond, iwp_block, iwp_exit, iwp_ret, thenI_n, thenI_r, thenI_e, blockI_n, blockI_r, blockI_e, c_true, c_false, want_none, want_some, wantV_bool, wantV_undef, w_nil, w_cons, g_false, g_true, g_rd, g_al, g_ac, g_call, g_dyn, o_some, a_some, x_some, f_func, ret_r, ret_n, retO_some, d_nil, d_cons, dg_false, dg_true, dg_rd, dg_al, dg_ac, dg_call, dg_dyn, do_some, da_some, dx_some, df_func, still_nil, still_one, still_cons, stillI, IOp.kind, ird, ial, iact, ires, iresL, ires1, ev_tmp, ev_const, ev_func, put_get, put_none, envOf_get, bin2, int2, un1, shOk, eqL, eq1, fillL, putAt, IHeap.load1, IHeap.loadL, IHeap.storeL, get_alloc, get_set, alloc_next, set_next, Value.cells, one1, t0, t1, t4, t5, t6, hc1, hc0, hct, hb', hget, s2, s3, k5, k4, kb, rowV, hcmp, hw]
        refine ⟨l.length - (i + 1), by omega, i + 1, by omega, rfl, by simp, by have := h1.next; omega, fun k hk => ?_, ?_⟩
        · rw [if_neg (by omega), h1.get k (by omega), hold k hk]
        · rw [hmt, if_pos hcmp]; exact ⟨rfl, rfl, rfl, rfl⟩
      · simp -implicitDefEqProofs [iwp_skip, iwp_ops, iwp_draw, iwp_seq, iwp_cond, iwp_block, iwp_exit, iwp_ret, thenI_n, thenI_r, thenI_e, blockI_n, blockI_r, blockI_e, c_true, c_false, want_none, want_some, wantV_bool, wantV_undef, w_nil, w_cons, g_false, g_true, g_rd, g_al, g_ac, g_call, g_dyn, o_some, a_some, x_some, f_func, ret_r, ret_n, retO_some, d_nil, d_cons, dg_false, dg_true, dg_rd, dg_al, dg_ac, dg_call, dg_dyn, do_some, da_some, dx_some, df_func, still_nil, still_one, still_cons, stillI, IOp.kind, ird, ial, iact, ires, iresL, ires1, ev_tmp, ev_const, ev_func, put_get, put_none, envOf_get, bin2, int2, un1, shOk, eqL, eq1, fillL, putAt, IHeap.load1, IHeap.loadL, IHeap.storeL, get_alloc, get_set, alloc_next, set_next, Value.cells, one1, t0, t1, t4, t5, t6, hc1, hc0, hct, hb', hget, s2, s3, k5, k4, kb, rowV, hcmp, hw]
        refine ⟨l.length - (i + 1), by omega, i + 1, by omega, rfl, by simp, by have := h1.next; omega, fun k hk => ?_, ?_⟩
        · rw [h1.get k (by omega), hold k hk]
        · rw [hmt, if_neg hcmp]; exact ⟨rfl, rfl, rfl, rfl⟩
    · have hie : i = l.length := by omega
      subst hie
      rw [List.take_length] at hm
      simp -implicitDefEqProofs [iwp_skip, iwp_ops, iwp_draw, iwp_seq, iwp_cond, iwp_block, iwp_exit, iwp_ret, thenI_n, thenI_r, thenI_e, blockI_n, blockI_r, blockI_e, c_true, c_false, want_none, want_some, wantV_bool, wantV_undef, w_nil, w_cons, g_false, g_true, g_rd, g_al, g_ac, g_call, g_dyn, o_some, a_some, x_some, f_func, ret_r, ret_n, retO_some, d_nil, d_cons, dg_false, dg_true, dg_rd, dg_al, dg_ac, dg_call, dg_dyn, do_some, da_some, dx_some, df_func, still_nil, still_one, still_cons, stillI, IOp.kind, ird, ial, iact, ires, iresL, ires1, ev_tmp, ev_const, ev_func, put_get, put_none, envOf_get, bin2, int2, un1, shOk, eqL, eq1, fillL, putAt, IHeap.load1, IHeap.loadL, IHeap.storeL, get_alloc, get_set, alloc_next, set_next, Value.cells, one1, t0, t1, t4, t5, t6, g5, g4, rowV]
      rw [← hm] at hK
      refine hK _ ⟨by simp only [set_next]; omega, fun k hk => ?_⟩
      rw [get_set, if_neg (by omega)]; exact hold k hk

theorem PickF1_ok {p q : VoteD} (hK : ∀ H', H.le H' → K (.int .i64 (cmpVV p q)) H') : c.C (c.F n_ballot_Pick_F1) [vV p, vV q] H K := by
  refine c.enter hc.ballot_Pick_F1 rfl ?_
  simp -implicitDefEqProofs [iwp_skip, iwp_ops, iwp_draw, iwp_seq, iwp_cond, iwp_block, iwp_exit, iwp_ret, thenI_n, thenI_r, thenI_e, blockI_n, blockI_r, blockI_e, c_true, c_false, want_none, want_some, wantV_bool, wantV_undef, w_nil, w_cons, g_false, g_true, g_rd, g_al, g_ac, g_call, g_dyn, o_some, a_some, x_some, f_func, ret_r, ret_n, retO_some, d_nil, d_cons, dg_false, dg_true, dg_rd, dg_al, dg_ac, dg_call, dg_dyn, do_some, da_some, dx_some, df_func, still_nil, still_one, still_cons, stillI, IOp.kind, ird, ial, iact, ires, iresL, ires1, ev_tmp, ev_const, ev_func, put_get, put_none, envOf_get, bin2, int2, un1, shOk, eqL, eq1, fillL, putAt, IHeap.load1, IHeap.loadL, IHeap.storeL, get_alloc, get_set, alloc_next, set_next, Value.cells, one1, c_ballot_Pick_F1, vV]
  refine call_of (Cmp_ok c hc fun H1 h1 => ?_)
  simp -implicitDefEqProofs [iwp_skip, iwp_ops, iwp_draw, iwp_seq, iwp_cond, iwp_block, iwp_exit, iwp_ret, thenI_n, thenI_r, thenI_e, blockI_n, blockI_r, blockI_e, c_true, c_false, want_none, want_some, wantV_bool, wantV_undef, w_nil, w_cons, g_false, g_true, g_rd, g_al, g_ac, g_call, g_dyn, o_some, a_some, x_some, f_func, ret_r, ret_n, retO_some, d_nil, d_cons, dg_false, dg_true, dg_rd, dg_al, dg_ac, dg_call, dg_dyn, do_some, da_some, dx_some, df_func, still_nil, still_one, still_cons, stillI, IOp.kind, ird, ial, iact, ires, iresL, ires1, ev_tmp, ev_const, ev_func, put_get, put_none, envOf_get, bin2, int2, un1, shOk, eqL, eq1, fillL, putAt, IHeap.load1, IHeap.loadL, IHeap.storeL, get_alloc, get_set, alloc_next, set_next, Value.cells, one1]
  exact hK _ (by (repeat' first | exact IHeap.le_refl _ | assumption | apply IHeap.le.alloc | (refine IHeap.le.set ?_ (by (try simp only [alloc_next, set_next]); omega) _) | (refine IHeap.le.trans ?_ (by assumption))))

omit hc in
theorem maxV_take (l : List (VoteD)) (i : Nat) (r : VoteD) (h : l[i]? = some r) : maxV (l.take (i + 1)) = if i = 0 ∨ 0 < cmpVV r (maxV (l.take i)) then r else maxV (l.take i) := by
  cases l with
  | nil => simp at h
  | cons x l =>
    cases i with
    | zero => simp at h; subst h; simp [maxV, maxBy]
    | succ i =>
      simp only [List.take_succ_cons, maxV]
      rw [maxBy_take cmpVV l x r i (by simpa using h)]
      simp

theorem Pick_ok {l : List VoteD} {v : Value} (hs : SlR H 4 v (l.map rowV)) (hl : l.length < 4611686018427387904) (hK : ∀ H', H.le H' → K (pickV l) H') : c.C (c.F n_ballot_Pick) [v] H K := by
  refine c.enter hc.ballot_Pick rfl ?_
  unfold pickV maxV at hK
  cases l with
  | nil =>
    obtain ⟨a, cap, rfl, _⟩ := hs
    simp -implicitDefEqProofs [iwp_skip, iwp_ops, iwp_draw, iwp_seq, iwp_cond, iwp_block, iwp_exit, iwp_ret, thenI_n, thenI_r, thenI_e, blockI_n, blockI_r, blockI_e, c_true, c_false, want_none, want_some, wantV_bool, wantV_undef, w_nil, w_cons, g_false, g_true, g_rd, g_al, g_ac, g_call, g_dyn, o_some, a_some, x_some, f_func, ret_r, ret_n, retO_some, d_nil, d_cons, dg_false, dg_true, dg_rd, dg_al, dg_ac, dg_call, dg_dyn, do_some, da_some, dx_some, df_func, still_nil, still_one, still_cons, stillI, IOp.kind, ird, ial, iact, ires, iresL, ires1, ev_tmp, ev_const, ev_func, put_get, put_none, envOf_get, bin2, int2, un1, shOk, eqL, eq1, fillL, putAt, IHeap.load1, IHeap.loadL, IHeap.storeL, get_alloc, get_set, alloc_next, set_next, Value.cells, one1, c_ballot_Pick]
    exact hK _ (by (repeat' first | exact IHeap.le_refl _ | assumption | apply IHeap.le.alloc | (refine IHeap.le.set ?_ (by (try simp only [alloc_next, set_next]); omega) _) | (refine IHeap.le.trans ?_ (by assumption))))
  | cons x l =>
    have hs' := hs
    obtain ⟨a, cap, rfl, _⟩ := hs
    have h0 : ((l.length : Int) + 1 = 0) = False := by simp; omega
    simp -implicitDefEqProofs [iwp_skip, iwp_ops, iwp_draw, iwp_seq, iwp_cond, iwp_block, iwp_exit, iwp_ret, thenI_n, thenI_r, thenI_e, blockI_n, blockI_r, blockI_e, c_true, c_false, want_none, want_some, wantV_bool, wantV_undef, w_nil, w_cons, g_false, g_true, g_rd, g_al, g_ac, g_call, g_dyn, o_some, a_some, x_some, f_func, ret_r, ret_n, retO_some, d_nil, d_cons, dg_false, dg_true, dg_rd, dg_al, dg_ac, dg_call, dg_dyn, do_some, da_some, dx_some, df_func, still_nil, still_one, still_cons, stillI, IOp.kind, ird, ial, iact, ires, iresL, ires1, ev_tmp, ev_const, ev_func, put_get, put_none, envOf_get, bin2, int2, un1, shOk, eqL, eq1, fillL, putAt, IHeap.load1, IHeap.loadL, IHeap.storeL, get_alloc, get_set, alloc_next, set_next, Value.cells, one1, c_ballot_Pick, h0]
    refine call_of (MaxFuncV_ok c hc (by simpa using hs'.le (H.le_alloc _)) (by simp at hl; omega) (fun p q H K h => PickF1_ok c hc h) fun H1 h1 => ?_)
    have k2 := (h1.get H.next (by simp [alloc_next])).trans (alloc_get H _)
    simp -implicitDefEqProofs [iwp_skip, iwp_ops, iwp_draw, iwp_seq, iwp_cond, iwp_block, iwp_exit, iwp_ret, thenI_n, thenI_r, thenI_e, blockI_n, blockI_r, blockI_e, c_true, c_false, want_none, want_some, wantV_bool, wantV_undef, w_nil, w_cons, g_false, g_true, g_rd, g_al, g_ac, g_call, g_dyn, o_some, a_some, x_some, f_func, ret_r, ret_n, retO_some, d_nil, d_cons, dg_false, dg_true, dg_rd, dg_al, dg_ac, dg_call, dg_dyn, do_some, da_some, dx_some, df_func, still_nil, still_one, still_cons, stillI, IOp.kind, ird, ial, iact, ires, iresL, ires1, ev_tmp, ev_const, ev_func, put_get, put_none, envOf_get, bin2, int2, un1, shOk, eqL, eq1, fillL, putAt, IHeap.load1, IHeap.loadL, IHeap.storeL, get_alloc, get_set, alloc_next, set_next, Value.cells, one1, k2, vV]
    have h3 : (decide (0 < (x :: l).length)) = true := by simp
    rw [h3] at hK
    refine hK _ ⟨by have := h1.next; simp only [alloc_next] at this; simp only [set_next]; omega, fun k hk => ?_⟩
    rw [get_set, if_neg (by omega), h1.get k (by simp only [alloc_next]; omega), get_alloc, if_neg (by omega)]

theorem refPick_ok {l : List (VoteD)} {v : Value} (hs : SlR H 4 v (l.map rowV)) (hl : l.length < 4611686018427387904) (hK : ∀ H', H.le H' → K (pickV l) H') : c.C (c.F n_hurdleref16_Pick) [v] H K := by
  refine c.enter hc.hurdleref16_Pick rfl ?_
  obtain ⟨a, cap, rfl, h2⟩ := hs
  have hlen : (l.map rowV).length = l.length := by simp
  rw [hlen]
  simp -implicitDefEqProofs [iwp_skip, iwp_ops, iwp_draw, iwp_seq, iwp_cond, iwp_block, iwp_exit, iwp_ret, thenI_n, thenI_r, thenI_e, blockI_n, blockI_r, blockI_e, c_true, c_false, want_none, want_some, wantV_bool, wantV_undef, w_nil, w_cons, g_false, g_true, g_rd, g_al, g_ac, g_call, g_dyn, o_some, a_some, x_some, f_func, ret_r, ret_n, retO_some, d_nil, d_cons, dg_false, dg_true, dg_rd, dg_al, dg_ac, dg_call, dg_dyn, do_some, da_some, dx_some, df_func, still_nil, still_one, still_cons, stillI, IOp.kind, ird, ial, iact, ires, iresL, ires1, ev_tmp, ev_const, ev_func, put_get, put_none, envOf_get, bin2, int2, un1, shOk, eqL, eq1, fillL, putAt, IHeap.load1, IHeap.loadL, IHeap.storeL, get_alloc, get_set, alloc_next, set_next, Value.cells, one1, c_hurdleref16_Pick]
  refine loop_nat c.mono (fun n T H' => ∃ (i : Nat) (m : VoteD), i ≤ l.length ∧ n = l.length - i ∧ m = maxV (l.take i) ∧ T 0 = .slice a l.length cap ∧
    T 2 = .pointer (some ⟨H.next, 0, none⟩) ∧ T 4 = .pointer (some ⟨H.next + 1, 0, none⟩) ∧ T 5 = .int .i64 i ∧ H.next + 2 ≤ H'.next ∧ (∀ k, k < H.next → H'.get k = H.get k) ∧
    H'.get H.next = some (.cells [.int .i64 0, .int .i64 0, .int .i64 0, .string ⟨#[]⟩] false) ∧ H'.get (H.next + 1) = some (.cells (rowV m) false)) l.length ?_ ?_
  · refine ⟨0, ⟨0, 0, 0, ⟨#[]⟩⟩, by omega, rfl, rfl, ?_⟩
    simp -implicitDefEqProofs [iwp_skip, iwp_ops, iwp_draw, iwp_seq, iwp_cond, iwp_block, iwp_exit, iwp_ret, thenI_n, thenI_r, thenI_e, blockI_n, blockI_r, blockI_e, c_true, c_false, want_none, want_some, wantV_bool, wantV_undef, w_nil, w_cons, g_false, g_true, g_rd, g_al, g_ac, g_call, g_dyn, o_some, a_some, x_some, f_func, ret_r, ret_n, retO_some, d_nil, d_cons, dg_false, dg_true, dg_rd, dg_al, dg_ac, dg_call, dg_dyn, do_some, da_some, dx_some, df_func, still_nil, still_one, still_cons, stillI, IOp.kind, ird, ial, iact, ires, iresL, ires1, ev_tmp, ev_const, ev_func, put_get, put_none, envOf_get, bin2, int2, un1, shOk, eqL, eq1, fillL, putAt, IHeap.load1, IHeap.loadL, IHeap.storeL, get_alloc, get_set, alloc_next, set_next, Value.cells, one1, rowV]
    intro k hk
    have e1 : k ≠ H.next := by omega
    have e2 : k ≠ H.next + 1 := by omega
    simp [e1, e2]
  · rintro n T H' ⟨i, m, hi, rfl, hm, t0, t2, t4, t5, hn, hold, g4, g5⟩
    by_cases hil : i < l.length
    · obtain ⟨b, o, cs, ro, rfl, hb, hget, hrow⟩ := h2 (by intro h; simp at h; subst h; simp at hil)
      have hb' := hold b hb
      obtain ⟨_, s2, s3⟩ := hrow i (rowV l[i]) (by simp [hil])
      have hbn : b ≠ H.next + 1 := by omega
      have hw : IntKind.i64.wrap ((i : Int) + 1) = (i : Int) + 1 := wrap64 (by omega) (by omega)
      have hmt := maxV_take l i l[i] (by simp [hil])
      rw [← hm] at hmt
      by_cases hi0 : i = 0
      · rw [if_pos (.inl hi0)] at hmt
        subst hi0
        simp only [Nat.zero_mul, Nat.add_zero] at s2 s3
        simp -implicitDefEqProofs [iwp_skip, iwp_ops, iwp_draw, iwp_seq, iwp_cond, iwp_block, iwp_exit, iwp_ret, thenI_n, thenI_r, thenI_e, blockI_n, blockI_r, blockI_e, c_true, c_false, want_none, want_some, wantV_bool, wantV_undef, w_nil, w_cons, g_false, g_true, g_rd, g_al, g_ac, g_call, g_dyn, o_some, a_some, x_some, f_func, ret_r, ret_n, retO_some, d_nil, d_cons, dg_false, dg_true, dg_rd, dg_al, dg_ac, dg_call, dg_dyn, do_some, da_some, dx_some, df_func, still_nil, still_one, still_cons, stillI, IOp.kind, ird, ial, iact, ires, iresL, ires1, ev_tmp, ev_const, ev_func, put_get, put_none, envOf_get, bin2, int2, un1, shOk, eqL, eq1, fillL, putAt, IHeap.load1, IHeap.loadL, IHeap.storeL, get_alloc, get_set, alloc_next, set_next, Value.cells, one1, t0, t2, t4, t5, hil, hb', hget, s2, s3, g5, g4, rowV, hw]
        refine ⟨l.length - 1, by omega, 1, by omega, rfl, by decide, hn, fun k hk => ?_, ?_⟩
        · rw [if_neg (by omega), hold k hk]
        · have hmt1 : maxV (List.take 1 l) = l[0] := hmt
          rw [hmt1]; exact ⟨rfl, rfl, rfl, rfl⟩
      · simp -implicitDefEqProofs [iwp_skip, iwp_ops, iwp_draw, iwp_seq, iwp_cond, iwp_block, iwp_exit, iwp_ret, thenI_n, thenI_r, thenI_e, blockI_n, blockI_r, blockI_e, c_true, c_false, want_none, want_some, wantV_bool, wantV_undef, w_nil, w_cons, g_false, g_true, g_rd, g_al, g_ac, g_call, g_dyn, o_some, a_some, x_some, f_func, ret_r, ret_n, retO_some, d_nil, d_cons, dg_false, dg_true, dg_rd, dg_al, dg_ac, dg_call, dg_dyn, do_some, da_some, dx_some, df_func, still_nil, still_one, still_cons, stillI, IOp.kind, ird, ial, iact, ires, iresL, ires1, ev_tmp, ev_const, ev_func, put_get, put_none, envOf_get, bin2, int2, un1, shOk, eqL, eq1, fillL, putAt, IHeap.load1, IHeap.loadL, IHeap.storeL, get_alloc, get_set, alloc_next, set_next, Value.cells, one1, t0, t2, t4, t5, hil, hb', hget, s2, s3, g5, rowV, hi0]
        have s4 := win s2 1 2 (by omega)
        have s5 : o + i * 4 + 1 + 2 ≤ cs.length := by omega
        simp [rowV] at s4
        simp -implicitDefEqProofs [iwp_skip, iwp_ops, iwp_draw, iwp_seq, iwp_cond, iwp_block, iwp_exit, iwp_ret, thenI_n, thenI_r, thenI_e, blockI_n, blockI_r, blockI_e, c_true, c_false, want_none, want_some, wantV_bool, wantV_undef, w_nil, w_cons, g_false, g_true, g_rd, g_al, g_ac, g_call, g_dyn, o_some, a_some, x_some, f_func, ret_r, ret_n, retO_some, d_nil, d_cons, dg_false, dg_true, dg_rd, dg_al, dg_ac, dg_call, dg_dyn, do_some, da_some, dx_some, df_func, still_nil, still_one, still_cons, stillI, IOp.kind, ird, ial, iact, ires, iresL, ires1, ev_tmp, ev_const, ev_func, put_get, put_none, envOf_get, bin2, int2, un1, shOk, eqL, eq1, fillL, putAt, IHeap.load1, IHeap.loadL, IHeap.storeL, get_alloc, get_set, alloc_next, set_next, Value.cells, one1, s4, s5, t0, t2, t4, t5, g5, rowV]
        refine dcall_of c.mono (refCmp_ok c hc fun H1 h1 => ?_)
        have k5 := (h1.get (H.next + 1) (by omega)).trans g5
        have k4 := (h1.get H.next (by omega)).trans g4
        have kb := (h1.get b (by omega)).trans hb'
        by_cases hcmp : 0 < cmpB l[i].a l[i].n m.a m.n
        · simp -implicitDefEqProofs [iwp_skip, iwp_ops, iwp_draw, iwp_seq, iwp_cond, iwp_block, iwp_exit, iwp_ret, thenI_n, thenI_r, thenI_e, blockI_n, blockI_r, blockI_e, c_true, c_false, want_none, want_some, wantV_bool, wantV_undef, w_nil, w_cons, g_false, g_true, g_rd, g_al, g_ac, g_call, g_dyn, o_some, a_some, x_some, f_func, ret_r, ret_n, retO_some, d_nil, d_cons, dg_false, dg_true, dg_rd, dg_al, dg_ac, dg_call, dg_dyn, do_some, da_some, dx_some, df_func, still_nil, still_one, still_cons, stillI, IOp.kind, ird, ial, iact, ires, iresL, ires1, ev_tmp, ev_const, ev_func, put_get, put_none, envOf_get, bin2, int2, un1, shOk, eqL, eq1, fillL, putAt, IHeap.load1, IHeap.loadL, IHeap.storeL, get_alloc, get_set, alloc_next, set_next, Value.cells, one1, t0, t2, t4, t5, hil, hb', hget, s2, s3, k5, k4, kb, rowV, hi0, hcmp, hw]
          rw [if_pos (.inr hcmp)] at hmt
          refine ⟨l.length - (i + 1), by omega, i + 1, by omega, rfl, by simp, by have := h1.next; omega, fun k hk => ?_, ?_⟩
          · rw [if_neg (by omega), h1.get k (by omega), hold k hk]
          · rw [hmt]; exact ⟨rfl, rfl, rfl, rfl⟩
        · simp -implicitDefEqProofs [iwp_skip, iwp_ops, iwp_draw, iwp_seq, iwp_cond, iwp_block, iwp_exit, iwp_ret, thenI_n, thenI_r, thenI_e, blockI_n, blockI_r, blockI_e, c_true, c_false, want_none, want_some, wantV_bool, wantV_undef, w_nil, w_cons, g_false, g_true, g_rd, g_al, g_ac, g_call, g_dyn, o_some, a_some, x_some, f_func, ret_r, ret_n, retO_some, d_nil, d_cons, dg_false, dg_true, dg_rd, dg_al, dg_ac, dg_call, dg_dyn, do_some, da_some, dx_some, df_func, still_nil, still_one, still_cons, stillI, IOp.kind, ird, ial, iact, ires, iresL, ires1, ev_tmp, ev_const, ev_func, put_get, put_none, envOf_get, bin2, int2, un1, shOk, eqL, eq1, fillL, putAt, IHeap.load1, IHeap.loadL, IHeap.storeL, get_alloc, get_set, alloc_next, set_next, Value.cells, one1, t0, t2, t4, t5, hil, hb', hget, s2, s3, k5, k4, kb, rowV, hi0, hcmp, hw]
          rw [if_neg (by rintro (h | h); exact hi0 h; exact hcmp h)] at hmt
          refine ⟨l.length - (i + 1), by omega, i + 1, by omega, rfl, by simp, by have := h1.next; omega, fun k hk => ?_, ?_⟩
          · rw [h1.get k (by omega), hold k hk]
          · rw [hmt]; exact ⟨rfl, rfl, rfl, rfl⟩
    · have hie : i = l.length := by omega
      subst hie
      rw [List.take_length] at hm
      simp -implicitDefEqProofs [iwp_skip, iwp_ops, iwp_draw, iwp_seq, iwp_cond, iwp_block, iwp_exit, iwp_ret, thenI_n, thenI_r, thenI_e, blockI_n, blockI_r, blockI_e, c_true, c_false, want_none, want_some, wantV_bool, wantV_undef, w_nil, w_cons, g_false, g_true, g_rd, g_al, g_ac, g_call, g_dyn, o_some, a_some, x_some, f_func, ret_r, ret_n, retO_some, d_nil, d_cons, dg_false, dg_true, dg_rd, dg_al, dg_ac, dg_call, dg_dyn, do_some, da_some, dx_some, df_func, still_nil, still_one, still_cons, stillI, IOp.kind, ird, ial, iact, ires, iresL, ires1, ev_tmp, ev_const, ev_func, put_get, put_none, envOf_get, bin2, int2, un1, shOk, eqL, eq1, fillL, putAt, IHeap.load1, IHeap.loadL, IHeap.storeL, get_alloc, get_set, alloc_next, set_next, Value.cells, one1, t0, t2, t4, t5, g5, g4, rowV]
      unfold pickV vV at hK
      rw [← hm] at hK
      refine hK _ ⟨by simp only [set_next]; omega, fun k hk => ?_⟩
      rw [get_set, if_neg (by omega)]; exact hold k hk

end
end Go.Proofs.YthjdkcncnkcfaaaI
