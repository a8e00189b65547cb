/- PRINTED by gen.py: the seat's own numbers; the context; that it has the functions. -/
import Derived.Test.YtpklgklmjhblpaaRows
import Derived.KernelRfl
import Derived.Test.YtpklgklmjhblpaaLearner
import Derived.Test.YtpklgklmjhblpaaDecode
namespace Go.Proofs.YtpklgklmjhblpaaI
set_option linter.unusedSimpArgs false
set_option linter.unusedVariables false
open Go

def seatF : Nat → FuncId := fun i => [0, 26, 25, 24, 21, 20, 0, 18, 0, 0, 0, 0, 0, 0, 0, 0, 0, 0, 16, 0, 0, 0, 0, 0, 0, 0, 0, 0, 0, 0, 0, 0, 0, 0, 0, 0, 0, 0, 0, 0, 0, 0, 0, 0, 0, 0, 0, 0, 0, 0, 0, 0, 0, 0, 0, 0, 0, 0, 0, 0, 0, 0, 0, 0, 0, 0, 0, 0, 0, 0, 17, 0, 0, 0, 0, 0, 0, 0, 0, 0, 0, 8, 9, 10, 11, 12, 13, 14, 15, 19, 22, 23, 3, 4, 5, 6, 7, 0, 0, 0, 0, 0, 0, 0, 0, 0, 0, 0, 0, 0, 0, 0, 0, 0, 0, 0, 0, 0, 0, 0, 0, 0, 0, 0, 0, 0, 0, 0, 0, 0, 0, 0].getD i 0
def seatTy : Nat → TypeId := fun i => [0, 0, 3, 50, 54, 53].getD i 0
noncomputable def seatC : Ctx := ⟨Try.prog, compFunc2 Try.prog, closedX 7 (.bool true), seatF, seatTy, closedX_mono _ _⟩
theorem has_cmp_isNaN_int : seatC.IP (seatC.F 1) = some (c_cmp_isNaN_int seatC.F seatC.Ty) := by kernel_rfl
theorem has_cmp_Compare_int : seatC.IP (seatC.F 2) = some (c_cmp_Compare_int seatC.F seatC.Ty) := by kernel_rfl
theorem has_cmp_Or_int : seatC.IP (seatC.F 3) = some (c_cmp_Or_int seatC.F seatC.Ty) := by kernel_rfl
theorem has_ballot_Cmp : seatC.IP (seatC.F 4) = some (c_ballot_Cmp seatC.F seatC.Ty) := by kernel_rfl
theorem has_ballot_Valid : seatC.IP (seatC.F 5) = some (c_ballot_Valid seatC.F seatC.Ty) := by kernel_rfl
theorem seatHasBalA : HasBalA seatC := ⟨has_cmp_isNaN_int, has_cmp_Compare_int, has_cmp_Or_int, has_ballot_Cmp, has_ballot_Valid⟩
theorem has_ballot_Quorum : seatC.IP (seatC.F 7) = some (c_ballot_Quorum seatC.F seatC.Ty) := by kernel_rfl
theorem has_hurdleref16_Quorum : seatC.IP (seatC.F 18) = some (c_hurdleref16_Quorum seatC.F seatC.Ty) := by kernel_rfl
theorem seatHasBalB : HasBalB seatC := ⟨has_ballot_Quorum, has_hurdleref16_Quorum⟩
theorem has_learner_New : seatC.IP (seatC.F 81) = some (c_learner_New seatC.F seatC.Ty) := by kernel_rfl
theorem has_learner_Learner_Told : seatC.IP (seatC.F 82) = some (c_learner_Learner_Told seatC.F seatC.Ty) := by kernel_rfl
theorem has_learner_Learner_Hear : seatC.IP (seatC.F 83) = some (c_learner_Learner_Hear seatC.F seatC.Ty) := by kernel_rfl
theorem has_learner_Learner_Tell : seatC.IP (seatC.F 84) = some (c_learner_Learner_Tell seatC.F seatC.Ty) := by kernel_rfl
theorem has_learner_Learner_Trim : seatC.IP (seatC.F 85) = some (c_learner_Learner_Trim seatC.F seatC.Ty) := by kernel_rfl
theorem has_learner_Learner_Base : seatC.IP (seatC.F 86) = some (c_learner_Learner_Base seatC.F seatC.Ty) := by kernel_rfl
theorem has_learner_Learner_Log : seatC.IP (seatC.F 87) = some (c_learner_Learner_Log seatC.F seatC.Ty) := by kernel_rfl
theorem has_learner_Learner_Next : seatC.IP (seatC.F 88) = some (c_learner_Learner_Next seatC.F seatC.Ty) := by kernel_rfl
theorem has_learner_Learner_may : seatC.IP (seatC.F 89) = some (c_learner_Learner_may seatC.F seatC.Ty) := by kernel_rfl
theorem has_learner_Learner_tally : seatC.IP (seatC.F 90) = some (c_learner_Learner_tally seatC.F seatC.Ty) := by kernel_rfl
theorem has_learner_Learner_forget : seatC.IP (seatC.F 91) = some (c_learner_Learner_forget seatC.F seatC.Ty) := by kernel_rfl
theorem seatHasLearner : HasLearner seatC := ⟨has_learner_New, has_learner_Learner_Told, has_learner_Learner_Hear, has_learner_Learner_Tell, has_learner_Learner_Trim, has_learner_Learner_Base, has_learner_Learner_Log, has_learner_Learner_Next, has_learner_Learner_may, has_learner_Learner_tally, has_learner_Learner_forget⟩
theorem has_hurdlelaw20_LearnerStays : seatC.IP (seatC.F 92) = some (c_hurdlelaw20_LearnerStays seatC.F seatC.Ty) := by kernel_rfl
theorem has_hurdlelaw20_LearnerQuorum : seatC.IP (seatC.F 93) = some (c_hurdlelaw20_LearnerQuorum seatC.F seatC.Ty) := by kernel_rfl
theorem has_hurdlelaw20_LearnerNone : seatC.IP (seatC.F 94) = some (c_hurdlelaw20_LearnerNone seatC.F seatC.Ty) := by kernel_rfl
theorem has_hurdlelaw20_Few : seatC.IP (seatC.F 95) = some (c_hurdlelaw20_Few seatC.F seatC.Ty) := by kernel_rfl
theorem has_hurdlelaw20_awake : seatC.IP (seatC.F 96) = some (c_hurdlelaw20_awake seatC.F seatC.Ty) := by kernel_rfl
theorem seatHasLaw20 : HasLaw20 seatC := ⟨has_hurdlelaw20_LearnerStays, has_hurdlelaw20_LearnerQuorum, has_hurdlelaw20_LearnerNone, has_hurdlelaw20_Few, has_hurdlelaw20_awake⟩
theorem seatMixed : Try.prog.follows .mixedOrders = true := by kernel_rfl
theorem seatAwake : closedB Try.prog (compFunc2 Try.prog) 3000 7 (.bool true) = true := by kernel_rfl
theorem seatX : CSim Try.prog (closedX 7 (.bool true)) := closedX_sim seatMixed (fun _ _ h => h) rfl seatAwake
theorem seatSim : CSim Try.prog seatC.C := sim_call2 seatMixed (fun _ _ h => h) seatX (closedX_mono _ _)
theorem seatAw (H : IHeap) (K : Value → IHeap → Prop) (h : K (.bool true) H) : seatC.C (seatC.F n_hurdlelaw20_awake) [] H K := ICall.ext ⟨rfl, rfl, h⟩

/-- What an operation of two operands reads. -/
def rho (x y : Value) : Operand → Value
  | .tmp _ => x
  | _ => y
theorem exec_add {ρ : Operand → Value} {t ty : TypeId} {n : Nat} {k : Value} : execOp ρ ⟨none, .binOp .add t (.tmp n) (.const k) t, ty, "", #[], none⟩ = execOp (rho (ρ (.tmp n)) (ρ (.const k))) ⟨none, .binOp .add t (.tmp n) (.const k) t, ty, "", #[], none⟩ := rfl
theorem exec_real {ρ : Operand → Value} {t ty : TypeId} : execOp ρ ⟨none, .call ⟨.builtin .real, #[.tmp 65], #[t]⟩, ty, "", #[], none⟩ = (execOp (rho (ρ (.tmp 65)) (ρ (.tmp 65))) ⟨none, .call ⟨.builtin .real, #[.tmp 65], #[t]⟩, ty, "", #[], none⟩) := by kernel_rfl
theorem exec_conv {ρ : Operand → Value} {t u ty : TypeId} {n : Nat} : execOp ρ ⟨none, .convert t u (.tmp n), ty, "", #[], none⟩ = execOp (rho (ρ (.tmp n)) (ρ (.tmp n))) ⟨none, .convert t u (.tmp n), ty, "", #[], none⟩ := rfl
theorem seatKI : KeyOf seatC.P (seatC.Ty 2) kI := keyOf_int (k := .i64) (by kernel_rfl)
theorem seatKP : KeyOf seatC.P (seatC.Ty 3) kP := keyOf_pair (by kernel_rfl) (by kernel_rfl) (fun e a b => by kernel_rfl)
theorem seatLearnT : LearnT seatC := ⟨seatKI, seatKP⟩
set_option maxRecDepth 100000 in
theorem seatOne : ∀ a b : Nat, a ≤ 6 → b ≤ 6 → pureRun seatC.P (execOp (rho (cx a b) (.complex .f64 0 4607182418800017408)) ⟨none, .binOp .add (seatC.Ty 4) (.tmp 29) (.const (.complex .f64 0 4607182418800017408)) (seatC.Ty 4), seatC.Ty 4, "", #[], none⟩) = some (.value (cx a (b + 1))) := by
  intro a b ha hb
  rcases (by omega : a = 0 ∨ a = 1 ∨ a = 2 ∨ a = 3 ∨ a = 4 ∨ a = 5 ∨ a = 6) with rfl | rfl | rfl | rfl | rfl | rfl | rfl <;> rcases (by omega : b = 0 ∨ b = 1 ∨ b = 2 ∨ b = 3 ∨ b = 4 ∨ b = 5 ∨ b = 6) with rfl | rfl | rfl | rfl | rfl | rfl | rfl <;> kernel_rfl
set_option maxRecDepth 100000 in
theorem seatTwo : ∀ a b : Nat, a ≤ 6 → b ≤ 7 → pureRun seatC.P (execOp (rho (cx a b) (.complex .f64 4607182418800017408 0)) ⟨none, .binOp .add (seatC.Ty 4) (.tmp 34) (.const (.complex .f64 4607182418800017408 0)) (seatC.Ty 4), seatC.Ty 4, "", #[], none⟩) = some (.value (cx (a + 1) b)) := by
  intro a b ha hb
  rcases (by omega : a = 0 ∨ a = 1 ∨ a = 2 ∨ a = 3 ∨ a = 4 ∨ a = 5 ∨ a = 6) with rfl | rfl | rfl | rfl | rfl | rfl | rfl <;> rcases (by omega : b = 0 ∨ b = 1 ∨ b = 2 ∨ b = 3 ∨ b = 4 ∨ b = 5 ∨ b = 6 ∨ b = 7) with rfl | rfl | rfl | rfl | rfl | rfl | rfl | rfl <;> kernel_rfl
set_option maxRecDepth 100000 in
theorem seatRe : ∀ a b : Nat, a ≤ 7 → b ≤ 7 → pureRun seatC.P (execOp (rho (cx a b) (cx a b)) ⟨none, .call ⟨.builtin .real, #[.tmp 65], #[seatC.Ty 4]⟩, seatC.Ty 5, "", #[], none⟩) = some (.value (.float .f64 (fl a))) := by
  intro a b ha hb
  rcases (by omega : a = 0 ∨ a = 1 ∨ a = 2 ∨ a = 3 ∨ a = 4 ∨ a = 5 ∨ a = 6 ∨ a = 7) with rfl | rfl | rfl | rfl | rfl | rfl | rfl | rfl <;> rcases (by omega : b = 0 ∨ b = 1 ∨ b = 2 ∨ b = 3 ∨ b = 4 ∨ b = 5 ∨ b = 6 ∨ b = 7) with rfl | rfl | rfl | rfl | rfl | rfl | rfl | rfl <;> kernel_rfl
theorem seatInt : ∀ a : Nat, a ≤ 7 → pureRun seatC.P (execOp (rho (.float .f64 (fl a)) (.float .f64 (fl a))) ⟨none, .convert (seatC.Ty 5) (seatC.Ty 2) (.tmp 66), seatC.Ty 2, "", #[], none⟩) = some (.value (.int .i64 a)) := by
  intro a ha
  rcases (by omega : a = 0 ∨ a = 1 ∨ a = 2 ∨ a = 3 ∨ a = 4 ∨ a = 5 ∨ a = 6 ∨ a = 7) with rfl | rfl | rfl | rfl | rfl | rfl | rfl | rfl <;> kernel_rfl
theorem seatCountT : CountT seatC := by
  refine ⟨fun ρ a b ha hb h1 h2 => ?_, fun ρ a b ha hb h1 h2 => ?_, fun ρ a b ha hb h1 => ?_, fun ρ a ha h1 => ?_⟩
  · rw [exec_add, h1, h2]; exact seatOne a b ha hb
  · rw [exec_add, h1, h2]; exact seatTwo a b ha hb
  · rw [exec_real, h1]; exact seatRe a b ha hb
  · rw [exec_conv, h1]; exact seatInt a ha

end Go.Proofs.YtpklgklmjhblpaaI
