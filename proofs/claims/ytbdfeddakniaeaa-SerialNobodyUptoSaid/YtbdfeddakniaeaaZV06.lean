import Derived.Test.YtbdfeddakniaeaaZV05
set_option linter.unusedVariables false
set_option linter.unusedSimpArgs false
namespace Go.Pl
open Go.Vc
open Go.RowKit
abbrev U8 : Kd := .int .u8
abbrev I64 : Kd := .int .i64
abbrev BY : Kd := .sl U8
end Go.Pl
