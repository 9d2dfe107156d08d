/- A part of the proof that the law TopStamp holds of the given program: facts that are used there. -/
import Derived.Test.YtgokjhhcfemnhabVg27
set_option linter.unusedSimpArgs false
set_option linter.unusedVariables false
namespace Go.Vg
/-! The program's kinds of things. -/
@[reducible] def tSymbol : Ty := .prod .str (.prod (.int .i64) (.prod .bool .unit))
@[reducible] def tRange : Ty := .prod (.int .i64) (.prod (.int .i64) .unit)
@[reducible] def tTie : Ty := .prod (.int .i64) (.prod (.int .i64) (.prod (.int .i64) (.prod .str (.prod .bool .unit))))
@[reducible] def tPatch : Ty := .prod (.int .i64) (.prod (.int .i64) (.prod (.int .i64) .unit))
@[reducible] def tStamped : Ty := .prod .str (.prod (.int .i64) (.prod (.int .i64) .unit))
@[reducible] def tObject : Ty := .prod (.slice .str) (.prod (.slice (.int .i64)) (.prod (.slice tSymbol) (.prod (.slice tTie) .unit)))
@[reducible] def tEntry : Ty := .prod .str (.prod (.slice tStamped) (.prod (.slice tPatch) .unit))
@[reducible] def tAct : Ty := .prod .str (.prod .str (.prod .str (.prod (.int .i64) (.prod (.int .u64) (.prod tEntry .unit)))))
@[reducible] def tPart : Ty := .prod .str (.prod (.int .i64) (.prod (.slice (.int .i64)) .unit))
@[reducible] def tTable : Ty := .prod (.slice (.int .i64)) (.prod (.slice (.int .i64)) .unit)
@[reducible] def tTurn : Ty := .prod (.int .i64) (.prod .str .unit)
@[reducible] def tDisk : Ty := .prod (.slice .str) (.prod (.slice .str) (.prod (.slice tTurn) (.prod (.int .i64) (.prod .bool .unit))))
@[reducible] def tFile : Ty := .prod .str (.prod .str (.prod (.int .i64) .unit))
@[reducible] def tRFiles : Ty := .prod (.slice tFile) (.prod (.int .i64) .unit)
/-- How tests are read. -/
theorem bl :
    (∀ (p : Prop) [Decidable p], (decide p = true) = p) ∧ (∀ (p : Prop) [Decidable p], (decide p = false) = ¬ p) ∧
    (∀ (α : Type) [BEq α] [LawfulBEq α] (a b : α), ((a == b) = true) = (a = b)) ∧ (∀ (α : Type) [BEq α] [LawfulBEq α] (a b : α), ((a == b) = false) = ¬ a = b) ∧
    (∀ (α : Type) [BEq α] [LawfulBEq α] (a b : α), ((a != b) = true) = ¬ a = b) ∧ (∀ (α : Type) [BEq α] [LawfulBEq α] (a b : α), ((a != b) = false) = (a = b)) ∧
    (∀ b : Bool, ((!b) = true) = (b = false)) ∧ (∀ b : Bool, ((!b) = false) = (b = true)) ∧ (∀ b : Bool, (¬ b = true) = (b = false)) ∧ (∀ b : Bool, (¬ b = false) = (b = true)) ∧
    (∀ a b : Bool, ((a && b) = true) = (a = true ∧ b = true)) ∧ (∀ a b : Bool, ((a || b) = true) = (a = true ∨ b = true)) ∧
    (∀ a b : Bool, ((a && b) = false) = (a = false ∨ b = false)) ∧ (∀ a b : Bool, ((a || b) = false) = (a = false ∧ b = false)) ∧
    (∀ a b : Int, (¬ a < b) = (b ≤ a)) ∧ (∀ a b : Int, (¬ a ≤ b) = (b < a)) := by
  refine ⟨?_, ?_, ?_, ?_, ?_, ?_, ?_, ?_, ?_, ?_, ?_, ?_, ?_, ?_, ?_, ?_⟩ <;> intros <;> first | (simp; done) | (rename_i a b; cases a <;> cases b <;> simp)
end Go.Vg
