/- The types of the program that the proof looks at, each held against the program's own table. -/
import Derived.Test.YtilhlmedhgonbaaTMD
import Derived.Test.YtilhlmedhgonbaaProg
import Derived.KernelRfl
namespace Go.Proofs.Ytilhlmedhgonbaa
open Go.TM
set_option maxRecDepth 100000
def tyTab : List (Nat × Ty) := [(3, (.int .i64)), (4, .bool), (5, (.int .u8)), (9, .str), (17, .opq), (23, (.cons (.int .i64) (.cons (.int .i64) .unit))), (25, (.cons (.int .i64) (.cons (.int .i64) .unit))), (28, (.slice .bool)), (29, (.slice (.slice (.cons (.int .i64) (.cons (.int .i64) (.cons .bool .unit)))))), (30, (.slice (.cons (.int .i64) (.cons (.int .i64) (.cons (.slice (.int .i64)) .unit))))), (31, (.slice (.cons (.int .i64) (.cons (.slice (.int .i64)) .unit)))), (33, (.cons (.slice .bool) (.cons (.slice (.slice (.cons (.int .i64) (.cons (.int .i64) (.cons .bool .unit))))) (.cons (.slice (.cons (.int .i64) (.cons (.int .i64) (.cons (.slice (.int .i64)) .unit)))) (.cons (.slice (.cons (.int .i64) (.cons (.slice (.int .i64)) .unit))) (.cons (.int .i64) .unit)))))), (36, (.slice (.slice (.cons (.int .i64) (.cons (.int .i64) (.cons .bool .unit)))))), (37, (.slice (.cons (.int .i64) (.cons (.int .i64) (.cons (.slice (.int .i64)) .unit))))), (38, (.slice (.cons (.int .i64) (.cons (.slice (.int .i64)) .unit)))), (40, (.cons (.slice .bool) (.cons (.slice (.slice (.cons (.int .i64) (.cons (.int .i64) (.cons .bool .unit))))) (.cons (.slice (.cons (.int .i64) (.cons (.int .i64) (.cons (.slice (.int .i64)) .unit)))) (.cons (.slice (.cons (.int .i64) (.cons (.slice (.int .i64)) .unit))) (.cons (.int .i64) .unit)))))), (48, (.slice (.cons (.int .i64) (.cons (.int .i64) (.cons .bool .unit))))), (50, (.cons (.int .i64) (.cons (.int .i64) (.cons .bool .unit)))), (51, (.slice (.int .i64))), (53, (.cons (.int .i64) (.cons (.int .i64) (.cons (.slice (.int .i64)) .unit)))), (56, (.cons (.int .i64) (.cons (.slice (.int .i64)) .unit))), (62, .opq), (64, .opq), (66, .opq), (71, (.slice (.int .u8))), (74, (.slice (.cons (.int .i64) (.cons (.int .i64) (.cons .bool .unit))))), (76, (.cons (.int .i64) (.cons (.int .i64) (.cons (.slice (.int .i64)) .unit)))), (78, (.cons (.int .i64) (.cons (.slice (.int .i64)) .unit))), (84, (.cons (.int .i64) (.cons (.int .i64) (.cons .bool .unit)))), (96, (.int .u8))]
theorem tyTab_ok : tyTab.all (fun x => tyB Try.prog x.2 x.1) = true := by kernel_rfl
theorem mixed : Try.prog.follows .mixedOrders = true := by kernel_rfl
abbrev I : Ty := .int .i64
abbrev B : Ty := .bool
abbrev S : Ty := .str
end Go.Proofs.Ytilhlmedhgonbaa
