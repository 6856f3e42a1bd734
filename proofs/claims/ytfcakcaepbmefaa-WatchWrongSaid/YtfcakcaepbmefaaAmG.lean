/- An abstract machine for the model's programs, and what its runs say of the model (part AmG). No condition. -/
import Derived.Test.YtfcakcaepbmefaaAmF
set_option linter.unusedVariables false
set_option linter.unusedSimpArgs false
set_option linter.unusedSectionVars false
namespace Go.AM
open Go
/-! ## runs at unknown values, by simp -/
theorem ble_dec (a b : Nat) : Nat.ble a b = decide (a ≤ b) := by
  by_cases h : a ≤ b
  · rw [Nat.ble_eq_true_of_le h, decide_eq_true h]
  · rw [decide_eq_false h]
    cases hb : Nat.ble a b with
    | false => rfl
    | true => exact absurd (Nat.le_of_ble_eq_true hb) h
theorem beq_dec (a b : Nat) : Nat.beq a b = decide (a = b) := by
  by_cases h : a = b
  · subst h; simp
  · rw [decide_eq_false h]
    cases hb : Nat.beq a b with
    | false => rfl
    | true => exact absurd (by simpa using hb) h
theorem takeN_all : ∀ cs : List V, takeN cs.length cs = some cs
  | [] => rfl
  | c :: cs => by simp [takeN, takeN_all cs]
theorem leaf_get {α : Type} (n : Nat) : (Tr.leaf : Tr α).get n = none := rfl
theorem ltI_dec (a b : Int) : ltI a b = decide (a < b) := by
  cases a <;> cases b <;> simp [ltI, ble_dec] <;> omega
theorem eqI_dec (a b : Int) : eqI a b = decide (a = b) := by
  cases a <;> cases b <;> simp [eqI, beq_dec]
  omega
theorem run_succ (E : Env) (n : Nat) (t : Task) (s : S) : run E (n + 1) t s = task t E (run E n) s := rfl
end Go.AM

