import Derived.Test.YtilhlmedhgonbaaDoorTMD
import Derived.Test.YtilhlmedhgonbaaDoorProg
import Derived.KernelRfl
namespace Go.Proofs.YtilhlmedhgonbaaDoor
open Go.TM
set_option maxRecDepth 100000
def tyTab : List (Nat × Ty) := [(3, (.int .i64)), (4, .bool), (5, (.int .u8)), (9, .str), (17, .opq), (21, (.int .i32)), (22, (.slice (.cons (.int .i64) (.cons (.int .i64) (.cons (.int .i64) (.cons (.int .i64) (.cons (.int .i64) .unit))))))), (28, (.slice .str)), (34, (.slice (.slice (.int .i64)))), (35, (.slice (.int .i64))), (36, (.slice (.cons (.int .i64) (.cons (.int .i64) .unit)))), (39, (.slice (.cons .bool (.cons (.int .i64) (.cons (.slice (.cons (.int .i64) (.cons (.int .i64) (.cons .bool .unit)))) .unit))))), (40, (.slice (.cons (.int .i64) (.cons (.slice (.int .i64)) .unit)))), (42, (.cons (.slice (.slice (.int .i64))) (.cons (.slice (.int .i64)) (.cons (.slice (.cons (.int .i64) (.cons (.int .i64) .unit))) (.cons (.slice (.cons (.int .i64) (.cons (.int .i64) (.cons (.slice .bool) .unit)))) (.cons (.slice (.cons (.int .i64) (.cons (.int .i64) (.cons (.int .i64) (.cons (.int .i64) (.cons (.int .i64) .unit)))))) (.cons (.int .i64) (.cons (.slice (.cons .bool (.cons (.int .i64) (.cons (.slice (.cons (.int .i64) (.cons (.int .i64) (.cons .bool .unit)))) .unit)))) (.cons (.slice (.cons (.int .i64) (.cons (.slice (.int .i64)) .unit))) (.cons (.slice (.int .i64)) (.cons (.slice (.int .i64)) .unit))))))))))), (46, (.cons (.int .i64) (.cons (.int .i64) (.cons (.int .i64) (.cons (.int .i64) (.cons (.int .i64) .unit)))))), (60, (.cons .bool (.cons (.int .i64) (.cons (.slice (.cons (.int .i64) (.cons (.int .i64) (.cons .bool .unit)))) .unit)))), (64, (.arr 4 (.int .i64))), (65, (.slice (.int .u8))), (69, (.cons (.int .i64) (.cons (.int .i64) .unit))), (76, (.slice .bool)), (85, (.arr 256 (.int .u8))), (87, (.cons (.int .u8) (.cons (.int .u8) .unit))), (88, (.arr 16 (.cons (.int .u8) (.cons (.int .u8) .unit)))), (89, (.int .u32)), (100, (.int .u8)), (110, (.cons (.int .i64) (.cons (.int .i64) (.cons (.int .i64) (.cons (.int .i64) (.cons (.int .i64) .unit))))))]
theorem tyTab_ok : tyTab.all (fun x => tyB Tryd.prog x.2 x.1) = true := by kernel_rfl
theorem mixed : Tryd.prog.follows .mixedOrders = true := by kernel_rfl
abbrev I : Ty := .int .i64
abbrev B : Ty := .bool
abbrev S : Ty := .str
end Go.Proofs.YtilhlmedhgonbaaDoor
