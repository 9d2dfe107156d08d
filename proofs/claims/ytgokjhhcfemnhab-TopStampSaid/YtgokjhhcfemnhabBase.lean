/- A part of the proof that the law TopStamp holds of the given program: facts that are used there. -/
import Derived.Test.YtgokjhhcfemnhabMrl0
import Derived.Test.YtgokjhhcfemnhabChecked
set_option linter.unusedSimpArgs false
set_option linter.unusedVariables false
namespace Go.Proofs.Ytgokjhhcfemnhab
open Go.Vg
noncomputable def Try.B : Cx := { eT := 94, τ := [(2, (.int .i64)), (3, (.int .i64)), (4, .bool), (5, (.int .u8)), (7, (.prod (.int .i64) (.prod (.int .i64) (.prod .bool (.prod (.int .u8) .unit))))), (9, .str), (12, (.int .u64)), (13, (.prod .str (.prod (.int .u64) .unit))), (18, (.prod .opq .unit)), (21, (.int .i32)), (22, (.slice (.slice (.int .i64)))), (23, (.slice tPatch)), (24, .err), (25, .err), (28, (.slice (.int .i64))), (29, tPatch), (30, tPatch), (33, (.slice tObject)), (36, tSymbol), (37, tSymbol), (38, (.slice tSymbol)), (39, (.slice .str)), (40, (.slice tTie)), (41, tObject), (42, tObject), (47, tTable), (48, tTable), (52, (.slice .bool)), (53, (.int .u32)), (56, (.slice tRange)), (61, tRange), (62, tRange), (66, (.slice tAct)), (67, (.int .u64)), (75, (.slice tStamped)), (76, tEntry), (77, tEntry), (78, tAct), (79, tAct), (94, (.int .i64)), (95, tTie), (96, tTie), (97, (.int .u64)), (103, (.slice tTurn)), (104, tDisk), (105, tDisk), (107, tTurn), (108, tTurn), (109, .opq), (110, (.prod .opq (.prod (.int .i64) .unit))), (111, (.prod .opq (.prod (.int .i64) .unit))), (113, (.prod .str (.prod (.int .i64) .unit))), (114, (.prod .str (.prod (.int .i64) .unit))), (121, (.slice (.int .u8))), (122, tStamped), (123, tStamped), (132, (.int .i64)), (142, (.int .u64))], arrs := [(80, (4, 9)), (154, (0, 16))], Γ := [], N := 0, eqs := [], ptrs := [68], mps := [(109, (9, 114))] }
theorem Try.tyOK : TyOK Try.prog Try.B := tyOK_of (n := 16) (by kernel_rfl)
end Go.Proofs.Ytgokjhhcfemnhab

