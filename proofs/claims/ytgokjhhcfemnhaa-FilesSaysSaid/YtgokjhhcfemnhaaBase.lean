/- A part of the proof that the law FilesSays holds of the given program: facts that are used there. -/
import Derived.Test.YtgokjhhcfemnhaaMrl0
import Derived.Test.YtgokjhhcfemnhaaChecked
set_option linter.unusedSimpArgs false
set_option linter.unusedVariables false
namespace Go.Proofs.Ytgokjhhcfemnhaa
open Go.Vg
noncomputable def Try.B : Cx := { eT := 106, τ := [(2, (.int .i64)), (3, (.int .i64)), (4, .bool), (5, (.int .u8)), (7, (.prod (.int .i64) (.prod (.int .i64) (.prod .bool (.prod (.int .u8) .unit))))), (9, .str), (12, (.int .u64)), (13, (.prod .str (.prod (.int .u64) .unit))), (18, (.prod .opq .unit)), (21, (.int .i32)), (24, .err), (25, .err), (28, (.int .u32)), (31, (.slice tSymbol)), (32, (.slice (.int .i64))), (33, tTable), (34, tTable), (35, tSymbol), (36, tSymbol), (41, (.slice tRange)), (42, tRange), (43, tRange), (52, (.slice tObject)), (53, (.slice (.slice (.int .i64)))), (54, (.slice tPatch)), (57, (.slice .str)), (58, (.slice tTie)), (59, tObject), (60, tObject), (68, tPatch), (69, tPatch), (71, (.slice tAct)), (80, (.int .u64)), (81, (.slice tStamped)), (82, tEntry), (83, tEntry), (84, tAct), (85, tAct), (94, (.slice tTurn)), (95, tDisk), (96, tDisk), (104, (.slice (.int .u8))), (106, (.int .i64)), (108, (.int .u64)), (111, tTie), (112, tTie), (123, (.slice tTurn)), (124, tDisk), (125, tDisk), (127, tTurn), (128, tTurn), (129, tTurn), (130, tTurn), (136, (.slice tFile)), (137, tRFiles), (138, tRFiles), (146, tStamped), (147, tStamped), (150, .opq), (151, (.prod .opq (.prod (.int .i64) .unit))), (152, (.prod .opq (.prod (.int .i64) .unit))), (153, (.prod .str (.prod (.int .i64) .unit))), (154, (.prod .str (.prod (.int .i64) .unit))), (157, tFile), (158, tFile), (167, (.int .i64)), (177, (.int .u64))], arrs := [(110, (600, 4)), (188, (0, 16))], Γ := [], N := 0, eqs := [69], ptrs := [73, 99], mps := [(150, (9, 154))] }
theorem Try.tyOK : TyOK Try.prog Try.B := tyOK_of (n := 16) (by kernel_rfl)
end Go.Proofs.Ytgokjhhcfemnhaa

