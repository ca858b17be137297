import Derived.Test.YteogokmbedmkjaaProg
import Derived.Test.YteogokmbedmkjaaF24
/- facts about the types -/
namespace Go.Proofs.Yteogokmbedmkjaa
open Go.RowKit
theorem agT107 : agT Try.prog 107 = some true := by kernel_rfl
theorem agT121 : agT Try.prog 121 = some true := by kernel_rfl
theorem agT138 : agT Try.prog 138 = some false := by kernel_rfl
theorem agT140 : agT Try.prog 140 = some true := by kernel_rfl
theorem agT154 : agT Try.prog 154 = some true := by kernel_rfl
theorem agT181 : agT Try.prog 181 = some false := by kernel_rfl
theorem agT23 : agT Try.prog 23 = some true := by kernel_rfl
theorem agT24 : agT Try.prog 24 = some true := by kernel_rfl
theorem agT28 : agT Try.prog 28 = some true := by kernel_rfl
theorem agT3 : agT Try.prog 3 = some false := by kernel_rfl
theorem agT50 : agT Try.prog 50 = some true := by kernel_rfl
theorem agT52 : agT Try.prog 52 = some true := by kernel_rfl
theorem agT76 : agT Try.prog 76 = some true := by kernel_rfl
theorem agT77 : agT Try.prog 77 = some true := by kernel_rfl
theorem agT81 : agT Try.prog 81 = some true := by kernel_rfl
theorem arT107 : arT Try.prog 107 = none := by kernel_rfl
theorem arT121 : arT Try.prog 121 = some (3, 3) := by kernel_rfl
theorem arT132 : arT Try.prog 132 = none := by kernel_rfl
theorem arT138 : arT Try.prog 138 = none := by kernel_rfl
theorem arT140 : arT Try.prog 140 = none := by kernel_rfl
theorem arT154 : arT Try.prog 154 = some (2, 3) := by kernel_rfl
theorem arT23 : arT Try.prog 23 = none := by kernel_rfl
theorem arT24 : arT Try.prog 24 = some (3, 3) := by kernel_rfl
theorem arT28 : arT Try.prog 28 = some (3, 23) := by kernel_rfl
theorem arT35 : arT Try.prog 35 = none := by kernel_rfl
theorem arT36 : arT Try.prog 36 = none := by kernel_rfl
theorem arT38 : arT Try.prog 38 = none := by kernel_rfl
theorem arT50 : arT Try.prog 50 = none := by kernel_rfl
theorem arT52 : arT Try.prog 52 = none := by kernel_rfl
theorem arT68 : arT Try.prog 68 = none := by kernel_rfl
theorem arT69 : arT Try.prog 69 = none := by kernel_rfl
theorem arT76 : arT Try.prog 76 = some (2, 3) := by kernel_rfl
theorem arT77 : arT Try.prog 77 = some (2, 52) := by kernel_rfl
theorem arT81 : arT Try.prog 81 = none := by kernel_rfl
theorem arT87 : arT Try.prog 87 = none := by kernel_rfl
theorem arT9 : arT Try.prog 9 = none := by kernel_rfl
theorem eqT107 : eqT Try.prog 107 = some [(0, 0), (1, 0), (2, 0), (3, 0), (4, 0), (5, 0)] := by kernel_rfl
theorem eqT121 : eqT Try.prog 121 = some [(0, 0), (1, 0), (2, 0)] := by kernel_rfl
theorem eqT23 : eqT Try.prog 23 = some [(0, 0), (1, 0)] := by kernel_rfl
theorem eqT24 : eqT Try.prog 24 = some [(0, 0), (1, 0), (2, 0)] := by kernel_rfl
theorem eqT28 : eqT Try.prog 28 = some [(0, 0), (1, 0), (2, 0), (3, 0), (4, 0), (5, 0)] := by kernel_rfl
theorem eqT4 : eqT Try.prog 4 = none := by kernel_rfl
theorem eqT52 : eqT Try.prog 52 = some [(0, 0), (1, 0)] := by kernel_rfl
theorem eqT77 : eqT Try.prog 77 = some [(0, 0), (1, 0), (2, 0), (3, 0)] := by kernel_rfl
theorem fdT107f0 : fdT Try.prog 107 0 = some (0, 24) := by kernel_rfl
theorem fdT107f1 : fdT Try.prog 107 1 = some (3, 24) := by kernel_rfl
theorem fdT132f0 : fdT Try.prog 132 0 = some (0, 3) := by kernel_rfl
theorem fdT132f1 : fdT Try.prog 132 1 = some (1, 3) := by kernel_rfl
theorem fdT140f0 : fdT Try.prog 140 0 = some (0, 81) := by kernel_rfl
theorem fdT140f1 : fdT Try.prog 140 1 = some (3, 138) := by kernel_rfl
theorem fdT23f0 : fdT Try.prog 23 0 = some (0, 3) := by kernel_rfl
theorem fdT23f1 : fdT Try.prog 23 1 = some (1, 3) := by kernel_rfl
theorem fdT26f0 : fdT Try.prog 26 0 = some (0, 24) := by kernel_rfl
theorem fdT26f1 : fdT Try.prog 26 1 = some (3, 24) := by kernel_rfl
theorem fdT50f0 : fdT Try.prog 50 0 = some (0, 3) := by kernel_rfl
theorem fdT50f1 : fdT Try.prog 50 1 = some (1, 3) := by kernel_rfl
theorem fdT50f2 : fdT Try.prog 50 2 = some (2, 3) := by kernel_rfl
theorem fdT50f3 : fdT Try.prog 50 3 = some (3, 3) := by kernel_rfl
theorem fdT50f4 : fdT Try.prog 50 4 = some (4, 3) := by kernel_rfl
theorem fdT52f0 : fdT Try.prog 52 0 = some (0, 3) := by kernel_rfl
theorem fdT52f1 : fdT Try.prog 52 1 = some (1, 3) := by kernel_rfl
theorem fdT81f0 : fdT Try.prog 81 0 = some (0, 3) := by kernel_rfl
theorem fdT81f1 : fdT Try.prog 81 1 = some (1, 3) := by kernel_rfl
theorem fdT81f2 : fdT Try.prog 81 2 = some (2, 3) := by kernel_rfl
theorem intT152 : intT Try.prog 152 = some .u64 := by kernel_rfl
theorem intT165 : intT Try.prog 165 = some .u64 := by kernel_rfl
theorem intT179 : intT Try.prog 179 = some .u32 := by kernel_rfl
theorem intT181 : intT Try.prog 181 = some .u64 := by kernel_rfl
theorem intT3 : intT Try.prog 3 = some .i64 := by kernel_rfl
theorem intT5 : intT Try.prog 5 = some .u8 := by kernel_rfl
theorem kdT107 : kdT Try.prog 107 = 0 := by kernel_rfl
theorem kdT121 : kdT Try.prog 121 = 0 := by kernel_rfl
theorem kdT23 : kdT Try.prog 23 = 0 := by kernel_rfl
theorem kdT24 : kdT Try.prog 24 = 0 := by kernel_rfl
theorem kdT28 : kdT Try.prog 28 = 0 := by kernel_rfl
theorem kdT4 : kdT Try.prog 4 = 5 := by kernel_rfl
theorem kdT52 : kdT Try.prog 52 = 0 := by kernel_rfl
theorem kdT77 : kdT Try.prog 77 = 0 := by kernel_rfl
theorem slT121 : slT Try.prog 121 = none := by kernel_rfl
theorem slT138 : slT Try.prog 138 = some 154 := by kernel_rfl
theorem slT154 : slT Try.prog 154 = none := by kernel_rfl
theorem slT24 : slT Try.prog 24 = none := by kernel_rfl
theorem slT28 : slT Try.prog 28 = none := by kernel_rfl
theorem slT3 : slT Try.prog 3 = none := by kernel_rfl
theorem slT35 : slT Try.prog 35 = some 3 := by kernel_rfl
theorem slT36 : slT Try.prog 36 = some 76 := by kernel_rfl
theorem slT38 : slT Try.prog 38 = some 52 := by kernel_rfl
theorem slT68 : slT Try.prog 68 = some 50 := by kernel_rfl
theorem slT69 : slT Try.prog 69 = some 23 := by kernel_rfl
theorem slT76 : slT Try.prog 76 = none := by kernel_rfl
theorem slT77 : slT Try.prog 77 = none := by kernel_rfl
theorem slT87 : slT Try.prog 87 = some 107 := by kernel_rfl
theorem slT9 : slT Try.prog 9 = none := by kernel_rfl
theorem smT107 : smT Try.prog 107 = true := by kernel_rfl
theorem smT154 : smT Try.prog 154 = true := by kernel_rfl
theorem smT23 : smT Try.prog 23 = true := by kernel_rfl
theorem smT3 : smT Try.prog 3 = true := by kernel_rfl
theorem smT50 : smT Try.prog 50 = true := by kernel_rfl
theorem smT52 : smT Try.prog 52 = true := by kernel_rfl
theorem smT76 : smT Try.prog 76 = true := by kernel_rfl
theorem stT107 : stT Try.prog 107 = true := by kernel_rfl
theorem stT121 : stT Try.prog 121 = false := by kernel_rfl
theorem stT132 : stT Try.prog 132 = true := by kernel_rfl
theorem stT140 : stT Try.prog 140 = true := by kernel_rfl
theorem stT23 : stT Try.prog 23 = true := by kernel_rfl
theorem stT24 : stT Try.prog 24 = false := by kernel_rfl
theorem stT50 : stT Try.prog 50 = true := by kernel_rfl
theorem stT52 : stT Try.prog 52 = true := by kernel_rfl
theorem stT76 : stT Try.prog 76 = false := by kernel_rfl
theorem stT77 : stT Try.prog 77 = false := by kernel_rfl
theorem stT81 : stT Try.prog 81 = true := by kernel_rfl
theorem strT121 : strT Try.prog 121 = false := by kernel_rfl
theorem strT138 : strT Try.prog 138 = false := by kernel_rfl
theorem strT3 : strT Try.prog 3 = false := by kernel_rfl
theorem strT35 : strT Try.prog 35 = false := by kernel_rfl
theorem strT36 : strT Try.prog 36 = false := by kernel_rfl
theorem strT38 : strT Try.prog 38 = false := by kernel_rfl
theorem strT68 : strT Try.prog 68 = false := by kernel_rfl
theorem strT69 : strT Try.prog 69 = false := by kernel_rfl
theorem strT87 : strT Try.prog 87 = false := by kernel_rfl
theorem szT107 : szT Try.prog 107 = 6 := by kernel_rfl
theorem szT121 : szT Try.prog 121 = 3 := by kernel_rfl
theorem szT132 : szT Try.prog 132 = 2 := by kernel_rfl
theorem szT138 : szT Try.prog 138 = 1 := by kernel_rfl
theorem szT140 : szT Try.prog 140 = 4 := by kernel_rfl
theorem szT154 : szT Try.prog 154 = 2 := by kernel_rfl
theorem szT181 : szT Try.prog 181 = 1 := by kernel_rfl
theorem szT23 : szT Try.prog 23 = 2 := by kernel_rfl
theorem szT24 : szT Try.prog 24 = 3 := by kernel_rfl
theorem szT28 : szT Try.prog 28 = 6 := by kernel_rfl
theorem szT3 : szT Try.prog 3 = 1 := by kernel_rfl
theorem szT4 : szT Try.prog 4 = 1 := by kernel_rfl
theorem szT50 : szT Try.prog 50 = 5 := by kernel_rfl
theorem szT52 : szT Try.prog 52 = 2 := by kernel_rfl
theorem szT76 : szT Try.prog 76 = 2 := by kernel_rfl
theorem szT77 : szT Try.prog 77 = 4 := by kernel_rfl
theorem szT81 : szT Try.prog 81 = 3 := by kernel_rfl
theorem zeT107 : zeT Try.prog 107 = some [.int .i64 0, .int .i64 0, .int .i64 0, .int .i64 0, .int .i64 0, .int .i64 0] := by kernel_rfl
theorem zeT121 : zeT Try.prog 121 = some [.int .i64 0, .int .i64 0, .int .i64 0] := by kernel_rfl
theorem zeT132 : zeT Try.prog 132 = some [.int .i64 0, .int .i64 0] := by kernel_rfl
theorem zeT140 : zeT Try.prog 140 = some [.int .i64 0, .int .i64 0, .int .i64 0, .nilsl] := by kernel_rfl
theorem zeT154 : zeT Try.prog 154 = some [.int .i64 0, .int .i64 0] := by kernel_rfl
theorem zeT181 : zeT Try.prog 181 = some [.int .u64 0] := by kernel_rfl
theorem zeT23 : zeT Try.prog 23 = some [.int .i64 0, .int .i64 0] := by kernel_rfl
theorem zeT24 : zeT Try.prog 24 = some [.int .i64 0, .int .i64 0, .int .i64 0] := by kernel_rfl
theorem zeT28 : zeT Try.prog 28 = some [.int .i64 0, .int .i64 0, .int .i64 0, .int .i64 0, .int .i64 0, .int .i64 0] := by kernel_rfl
theorem zeT3 : zeT Try.prog 3 = some [.int .i64 0] := by kernel_rfl
theorem zeT50 : zeT Try.prog 50 = some [.int .i64 0, .int .i64 0, .int .i64 0, .int .i64 0, .int .i64 0] := by kernel_rfl
theorem zeT52 : zeT Try.prog 52 = some [.int .i64 0, .int .i64 0] := by kernel_rfl
theorem zeT76 : zeT Try.prog 76 = some [.int .i64 0, .int .i64 0] := by kernel_rfl
theorem zeT77 : zeT Try.prog 77 = some [.int .i64 0, .int .i64 0, .int .i64 0, .int .i64 0] := by kernel_rfl
theorem zeT81 : zeT Try.prog 81 = some [.int .i64 0, .int .i64 0, .int .i64 0] := by kernel_rfl
end Go.Proofs.Yteogokmbedmkjaa
