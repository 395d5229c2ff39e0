/- Facts on the loaded program's types and functions, as instances. Conditions: none. -/
import Derived.Test.YtdbfjfphfbcgiaaGreatDoorPlaceC
import Derived.Test.YtdbfjfphfbcgiaaGreatDoorProg
import Derived.KernelRfl
set_option linter.unusedSimpArgs false
set_option linter.unusedVariables false
set_option linter.unusedVariables false
set_option maxRecDepth 100000
namespace Go.Proofs
open Go Go.Ab
instance : Und Tryz.prog 3 (.int .i64) := ⟨Tryz.underlying3⟩
instance : IsA Tryz.prog 3 false := ⟨⟨_, Tryz.underlying3, rfl⟩⟩
instance : Siz Tryz.prog 3 1 := ⟨by kernel_rfl⟩
instance : Byt Tryz.prog 3 8 := ⟨by kernel_rfl⟩
instance : ZerV Tryz.prog 3 (.int .i64 0) := ⟨by kernel_rfl⟩
instance : Zer Tryz.prog 3 [.int .i64 0] := ⟨⟨(.int .i64 0 : Value), by kernel_rfl, rfl, List.all_eq_true.1 rfl⟩⟩
instance : Und Tryz.prog 4 .bool := ⟨Tryz.underlying4⟩
instance : IsA Tryz.prog 4 false := ⟨⟨_, Tryz.underlying4, rfl⟩⟩
instance : Siz Tryz.prog 4 1 := ⟨by kernel_rfl⟩
instance : ZerV Tryz.prog 4 (.bool false) := ⟨by kernel_rfl⟩
instance : Zer Tryz.prog 4 [.bool false] := ⟨⟨(.bool false : Value), by kernel_rfl, rfl, List.all_eq_true.1 rfl⟩⟩
instance : Und Tryz.prog 5 (.int .u8) := ⟨Tryz.underlying5⟩
instance : IsA Tryz.prog 5 false := ⟨⟨_, Tryz.underlying5, rfl⟩⟩
instance : Siz Tryz.prog 5 1 := ⟨by kernel_rfl⟩
instance : Und Tryz.prog 9 .string := ⟨Tryz.underlying9⟩
instance : IsA Tryz.prog 9 false := ⟨⟨_, Tryz.underlying9, rfl⟩⟩
instance : Siz Tryz.prog 9 1 := ⟨by kernel_rfl⟩
instance : Byt Tryz.prog 9 16 := ⟨by kernel_rfl⟩
instance : ZerV Tryz.prog 9 (.string ⟨#[]⟩) := ⟨by kernel_rfl⟩
instance : Und Tryz.prog 21 (.int .i32) := ⟨Tryz.underlying21⟩
instance : IsA Tryz.prog 21 false := ⟨⟨_, Tryz.underlying21, rfl⟩⟩
instance : Siz Tryz.prog 21 1 := ⟨by kernel_rfl⟩
instance : Zer Tryz.prog 21 [.int .i32 0] := ⟨⟨(.int .i32 0 : Value), by kernel_rfl, rfl, List.all_eq_true.1 rfl⟩⟩
instance : Und Tryz.prog 22 (.slice 9) := ⟨Tryz.underlying22⟩
instance : IsA Tryz.prog 22 false := ⟨⟨_, Tryz.underlying22, rfl⟩⟩
instance : Siz Tryz.prog 22 1 := ⟨by kernel_rfl⟩
instance : Und Tryz.prog 23 (.slice 72) := ⟨Tryz.underlying23⟩
instance : IsA Tryz.prog 23 false := ⟨⟨_, Tryz.underlying23, rfl⟩⟩
instance : Siz Tryz.prog 23 1 := ⟨by kernel_rfl⟩
instance : Und Tryz.prog 24 (.slice 96) := ⟨Tryz.underlying24⟩
instance : IsA Tryz.prog 24 false := ⟨⟨_, Tryz.underlying24, rfl⟩⟩
instance : Siz Tryz.prog 24 1 := ⟨by kernel_rfl⟩
instance : Und Tryz.prog 25 (.slice 87) := ⟨Tryz.underlying25⟩
instance : IsA Tryz.prog 25 false := ⟨⟨_, Tryz.underlying25, rfl⟩⟩
instance : Siz Tryz.prog 25 1 := ⟨by kernel_rfl⟩
instance : Und Tryz.prog 26 (.slice 100) := ⟨Tryz.underlying26⟩
instance : IsA Tryz.prog 26 false := ⟨⟨_, Tryz.underlying26, rfl⟩⟩
instance : Siz Tryz.prog 26 1 := ⟨by kernel_rfl⟩
instance : IsA Tryz.prog 28 true := ⟨⟨_, Tryz.underlying28, rfl⟩⟩
instance : Siz Tryz.prog 28 8 := ⟨by kernel_rfl⟩
instance : Zer Tryz.prog 28 [.slice none 0 0, .slice none 0 0, .slice none 0 0, .slice none 0 0, .slice none 0 0, .slice none 0 0, .slice none 0 0, .slice none 0 0] := ⟨⟨(.agg #[.slice none 0 0, .slice none 0 0, .slice none 0 0, .slice none 0 0, .slice none 0 0, .slice none 0 0, .slice none 0 0, .slice none 0 0] : Value), by kernel_rfl, rfl, List.all_eq_true.1 rfl⟩⟩
instance : Fld Tryz.prog 28 0 0 22 := ⟨⟨_, _, Tryz.underlying28, rfl, rfl, rfl⟩⟩
instance : Fld Tryz.prog 28 1 1 22 := ⟨⟨_, _, Tryz.underlying28, rfl, rfl, rfl⟩⟩
instance : Fld Tryz.prog 28 2 2 22 := ⟨⟨_, _, Tryz.underlying28, rfl, rfl, rfl⟩⟩
instance : Fld Tryz.prog 28 3 3 22 := ⟨⟨_, _, Tryz.underlying28, rfl, rfl, rfl⟩⟩
instance : Fld Tryz.prog 28 4 4 23 := ⟨⟨_, _, Tryz.underlying28, rfl, rfl, rfl⟩⟩
instance : Fld Tryz.prog 28 5 5 24 := ⟨⟨_, _, Tryz.underlying28, rfl, rfl, rfl⟩⟩
instance : Fld Tryz.prog 28 6 6 25 := ⟨⟨_, _, Tryz.underlying28, rfl, rfl, rfl⟩⟩
instance : Fld Tryz.prog 28 7 7 26 := ⟨⟨_, _, Tryz.underlying28, rfl, rfl, rfl⟩⟩
instance : Plc Tryz.prog 28 [(0, 1), (1, 1), (2, 1), (3, 1), (4, 1), (5, 1), (6, 1), (7, 1)] := ⟨⟨_, Tryz.underlying28, by kernel_rfl⟩⟩
instance : IsA Tryz.prog 32 true := ⟨⟨_, Tryz.underlying32, rfl⟩⟩
instance : Siz Tryz.prog 32 2 := ⟨by kernel_rfl⟩
instance : Zer Tryz.prog 32 [.int .i64 0, .int .i64 0] := ⟨⟨(.agg #[.int .i64 0, .int .i64 0] : Value), by kernel_rfl, rfl, List.all_eq_true.1 rfl⟩⟩
instance : Plc Tryz.prog 32 [(0, 1), (1, 1)] := ⟨⟨_, Tryz.underlying32, by kernel_rfl⟩⟩
instance : IsA Tryz.prog 33 false := ⟨⟨_, Tryz.underlying33, rfl⟩⟩
instance : Siz Tryz.prog 33 1 := ⟨by kernel_rfl⟩
instance : Zer Tryz.prog 33 [.int .i64 0] := ⟨⟨(.int .i64 0 : Value), by kernel_rfl, rfl, List.all_eq_true.1 rfl⟩⟩
instance : Und Tryz.prog 40 (.slice 3) := ⟨Tryz.underlying40⟩
instance : IsA Tryz.prog 40 false := ⟨⟨_, Tryz.underlying40, rfl⟩⟩
instance : Siz Tryz.prog 40 1 := ⟨by kernel_rfl⟩
instance : IsA Tryz.prog 55 true := ⟨⟨_, Tryz.underlying55, rfl⟩⟩
instance : Siz Tryz.prog 55 2 := ⟨by kernel_rfl⟩
instance : ZerV Tryz.prog 55 (.agg #[.int .i64 0, .int .i64 0]) := ⟨by kernel_rfl⟩
instance : Zer Tryz.prog 55 [.int .i64 0, .int .i64 0] := ⟨⟨(.agg #[.int .i64 0, .int .i64 0] : Value), by kernel_rfl, rfl, List.all_eq_true.1 rfl⟩⟩
instance : Fld Tryz.prog 55 0 0 3 := ⟨⟨_, _, Tryz.underlying55, rfl, rfl, rfl⟩⟩
instance : Fld Tryz.prog 55 1 1 3 := ⟨⟨_, _, Tryz.underlying55, rfl, rfl, rfl⟩⟩
instance : Plc Tryz.prog 55 [(0, 1), (1, 1)] := ⟨⟨_, Tryz.underlying55, by kernel_rfl⟩⟩
instance : Und Tryz.prog 68 (.slice 76) := ⟨Tryz.underlying68⟩
instance : IsA Tryz.prog 68 false := ⟨⟨_, Tryz.underlying68, rfl⟩⟩
instance : Siz Tryz.prog 68 1 := ⟨by kernel_rfl⟩
instance : IsA Tryz.prog 72 true := ⟨⟨_, Tryz.underlying72, rfl⟩⟩
instance : Siz Tryz.prog 72 9 := ⟨by kernel_rfl⟩
instance : Byt Tryz.prog 72 88 := ⟨by kernel_rfl⟩
instance : ZerV Tryz.prog 72 (.agg #[.int .i64 0, .int .i64 0, .int .i64 0, .int .i64 0, .int .i64 0, .int .i64 0, .int .i64 0, .int .i64 0, .slice none 0 0]) := ⟨by kernel_rfl⟩
instance : Zer Tryz.prog 72 [.int .i64 0, .int .i64 0, .int .i64 0, .int .i64 0, .int .i64 0, .int .i64 0, .int .i64 0, .int .i64 0, .slice none 0 0] := ⟨⟨(.agg #[.int .i64 0, .int .i64 0, .int .i64 0, .int .i64 0, .int .i64 0, .int .i64 0, .int .i64 0, .int .i64 0, .slice none 0 0] : Value), by kernel_rfl, rfl, List.all_eq_true.1 rfl⟩⟩
instance : Fld Tryz.prog 72 0 0 3 := ⟨⟨_, _, Tryz.underlying72, rfl, rfl, rfl⟩⟩
instance : Fld Tryz.prog 72 1 1 3 := ⟨⟨_, _, Tryz.underlying72, rfl, rfl, rfl⟩⟩
instance : Fld Tryz.prog 72 2 2 3 := ⟨⟨_, _, Tryz.underlying72, rfl, rfl, rfl⟩⟩
instance : Fld Tryz.prog 72 3 3 3 := ⟨⟨_, _, Tryz.underlying72, rfl, rfl, rfl⟩⟩
instance : Fld Tryz.prog 72 4 4 3 := ⟨⟨_, _, Tryz.underlying72, rfl, rfl, rfl⟩⟩
instance : Fld Tryz.prog 72 5 5 55 := ⟨⟨_, _, Tryz.underlying72, rfl, rfl, rfl⟩⟩
instance : Fld Tryz.prog 72 6 7 3 := ⟨⟨_, _, Tryz.underlying72, rfl, rfl, rfl⟩⟩
instance : Fld Tryz.prog 72 7 8 68 := ⟨⟨_, _, Tryz.underlying72, rfl, rfl, rfl⟩⟩
instance : Plc Tryz.prog 72 [(0, 1), (1, 1), (2, 1), (3, 1), (4, 1), (5, 2), (7, 1), (8, 1)] := ⟨⟨_, Tryz.underlying72, by kernel_rfl⟩⟩
instance : IsA Tryz.prog 76 true := ⟨⟨_, Tryz.underlying76, rfl⟩⟩
instance : Siz Tryz.prog 76 3 := ⟨by kernel_rfl⟩
instance : Byt Tryz.prog 76 24 := ⟨by kernel_rfl⟩
instance : ZerV Tryz.prog 76 (.agg #[.int .i64 0, .int .i64 0, .int .i64 0]) := ⟨by kernel_rfl⟩
instance : Zer Tryz.prog 76 [.int .i64 0, .int .i64 0, .int .i64 0] := ⟨⟨(.agg #[.int .i64 0, .int .i64 0, .int .i64 0] : Value), by kernel_rfl, rfl, List.all_eq_true.1 rfl⟩⟩
instance : Fld Tryz.prog 76 0 0 3 := ⟨⟨_, _, Tryz.underlying76, rfl, rfl, rfl⟩⟩
instance : Fld Tryz.prog 76 1 1 55 := ⟨⟨_, _, Tryz.underlying76, rfl, rfl, rfl⟩⟩
instance : Plc Tryz.prog 76 [(0, 1), (1, 2)] := ⟨⟨_, Tryz.underlying76, by kernel_rfl⟩⟩
instance : IsA Tryz.prog 78 false := ⟨⟨_, Tryz.underlying78, rfl⟩⟩
instance : Siz Tryz.prog 78 1 := ⟨by kernel_rfl⟩
instance : Zer Tryz.prog 78 [.nilFunc] := ⟨⟨(.nilFunc : Value), by kernel_rfl, rfl, List.all_eq_true.1 rfl⟩⟩
instance : IsA Tryz.prog 87 true := ⟨⟨_, Tryz.underlying87, rfl⟩⟩
instance : Siz Tryz.prog 87 4 := ⟨by kernel_rfl⟩
instance : Byt Tryz.prog 87 48 := ⟨by kernel_rfl⟩
instance : ZerV Tryz.prog 87 (.agg #[.int .i64 0, .int .i64 0, .bool false, .slice none 0 0]) := ⟨by kernel_rfl⟩
instance : Zer Tryz.prog 87 [.int .i64 0, .int .i64 0, .bool false, .slice none 0 0] := ⟨⟨(.agg #[.int .i64 0, .int .i64 0, .bool false, .slice none 0 0] : Value), by kernel_rfl, rfl, List.all_eq_true.1 rfl⟩⟩
instance : Fld Tryz.prog 87 0 0 3 := ⟨⟨_, _, Tryz.underlying87, rfl, rfl, rfl⟩⟩
instance : Fld Tryz.prog 87 1 1 3 := ⟨⟨_, _, Tryz.underlying87, rfl, rfl, rfl⟩⟩
instance : Fld Tryz.prog 87 2 2 4 := ⟨⟨_, _, Tryz.underlying87, rfl, rfl, rfl⟩⟩
instance : Fld Tryz.prog 87 3 3 40 := ⟨⟨_, _, Tryz.underlying87, rfl, rfl, rfl⟩⟩
instance : IsA Tryz.prog 88 false := ⟨⟨_, Tryz.underlying88, rfl⟩⟩
instance : IsA Tryz.prog 96 true := ⟨⟨_, Tryz.underlying96, rfl⟩⟩
instance : Siz Tryz.prog 96 2 := ⟨by kernel_rfl⟩
instance : Byt Tryz.prog 96 32 := ⟨by kernel_rfl⟩
instance : ZerV Tryz.prog 96 (.agg #[.int .i64 0, .slice none 0 0]) := ⟨by kernel_rfl⟩
instance : Zer Tryz.prog 96 [.int .i64 0, .slice none 0 0] := ⟨⟨(.agg #[.int .i64 0, .slice none 0 0] : Value), by kernel_rfl, rfl, List.all_eq_true.1 rfl⟩⟩
instance : Fld Tryz.prog 96 0 0 3 := ⟨⟨_, _, Tryz.underlying96, rfl, rfl, rfl⟩⟩
instance : Fld Tryz.prog 96 1 1 40 := ⟨⟨_, _, Tryz.underlying96, rfl, rfl, rfl⟩⟩
instance : Plc Tryz.prog 96 [(0, 1), (1, 1)] := ⟨⟨_, Tryz.underlying96, by kernel_rfl⟩⟩
instance : IsA Tryz.prog 100 true := ⟨⟨_, Tryz.underlying100, rfl⟩⟩
instance : Siz Tryz.prog 100 2 := ⟨by kernel_rfl⟩
instance : Byt Tryz.prog 100 16 := ⟨by kernel_rfl⟩
instance : ZerV Tryz.prog 100 (.agg #[.int .i64 0, .int .i64 0]) := ⟨by kernel_rfl⟩
instance : Zer Tryz.prog 100 [.int .i64 0, .int .i64 0] := ⟨⟨(.agg #[.int .i64 0, .int .i64 0] : Value), by kernel_rfl, rfl, List.all_eq_true.1 rfl⟩⟩
instance : Fld Tryz.prog 100 0 0 3 := ⟨⟨_, _, Tryz.underlying100, rfl, rfl, rfl⟩⟩
instance : Fld Tryz.prog 100 1 1 3 := ⟨⟨_, _, Tryz.underlying100, rfl, rfl, rfl⟩⟩
instance : IsA Tryz.prog 101 false := ⟨⟨_, Tryz.underlying101, rfl⟩⟩
instance : Siz Tryz.prog 101 1 := ⟨by kernel_rfl⟩
instance : Und Tryz.prog 102 (.array 11 101) := ⟨Tryz.underlying102⟩
instance : IsA Tryz.prog 103 false := ⟨⟨_, Tryz.underlying103, rfl⟩⟩
instance : Und Tryz.prog 104 (.map 3 4) := ⟨Tryz.underlying104⟩
instance : IsA Tryz.prog 104 false := ⟨⟨_, Tryz.underlying104, rfl⟩⟩
instance : Siz Tryz.prog 104 1 := ⟨by kernel_rfl⟩
instance : Und Tryz.prog 105 (.map 255 3) := ⟨Tryz.underlying105⟩
instance : IsA Tryz.prog 105 false := ⟨⟨_, Tryz.underlying105, rfl⟩⟩
instance : Siz Tryz.prog 105 1 := ⟨by kernel_rfl⟩
instance : Und Tryz.prog 106 (.map 255 55) := ⟨Tryz.underlying106⟩
instance : IsA Tryz.prog 106 false := ⟨⟨_, Tryz.underlying106, rfl⟩⟩
instance : Siz Tryz.prog 106 1 := ⟨by kernel_rfl⟩
instance : Und Tryz.prog 107 (.map 257 4) := ⟨Tryz.underlying107⟩
instance : IsA Tryz.prog 107 false := ⟨⟨_, Tryz.underlying107, rfl⟩⟩
instance : Siz Tryz.prog 107 1 := ⟨by kernel_rfl⟩
instance : Zer Tryz.prog 109 [.slice none 0 0, .slice none 0 0, .slice none 0 0, .slice none 0 0, .slice none 0 0, .slice none 0 0, .slice none 0 0, .slice none 0 0, .map none, .map none, .map none, .map none, .map none] := ⟨⟨(.agg #[.slice none 0 0, .slice none 0 0, .slice none 0 0, .slice none 0 0, .slice none 0 0, .slice none 0 0, .slice none 0 0, .slice none 0 0, .map none, .map none, .map none, .map none, .map none] : Value), by kernel_rfl, rfl, List.all_eq_true.1 rfl⟩⟩
instance : Fld Tryz.prog 109 0 0 28 := ⟨⟨_, _, Tryz.underlying109, rfl, rfl, rfl⟩⟩
instance : Fld Tryz.prog 109 1 8 104 := ⟨⟨_, _, Tryz.underlying109, rfl, rfl, rfl⟩⟩
instance : Fld Tryz.prog 109 2 9 104 := ⟨⟨_, _, Tryz.underlying109, rfl, rfl, rfl⟩⟩
instance : Fld Tryz.prog 109 3 10 105 := ⟨⟨_, _, Tryz.underlying109, rfl, rfl, rfl⟩⟩
instance : Fld Tryz.prog 109 4 11 106 := ⟨⟨_, _, Tryz.underlying109, rfl, rfl, rfl⟩⟩
instance : Fld Tryz.prog 109 5 12 107 := ⟨⟨_, _, Tryz.underlying109, rfl, rfl, rfl⟩⟩
instance : Plc Tryz.prog 109 [(0, 8), (8, 1), (9, 1), (10, 1), (11, 1), (12, 1)] := ⟨⟨_, Tryz.underlying109, by kernel_rfl⟩⟩
instance : Und Tryz.prog 110 (.array 4 40) := ⟨Tryz.underlying110⟩
instance : IsA Tryz.prog 110 true := ⟨⟨_, Tryz.underlying110, rfl⟩⟩
instance : Siz Tryz.prog 110 4 := ⟨by kernel_rfl⟩
instance : Zer Tryz.prog 110 [.slice none 0 0, .slice none 0 0, .slice none 0 0, .slice none 0 0] := ⟨⟨(.agg #[.slice none 0 0, .slice none 0 0, .slice none 0 0, .slice none 0 0] : Value), by kernel_rfl, rfl, List.all_eq_true.1 rfl⟩⟩
instance : Und Tryz.prog 112 (.array 4 3) := ⟨Tryz.underlying112⟩
instance : Zer Tryz.prog 112 [.int .i64 0, .int .i64 0, .int .i64 0, .int .i64 0] := ⟨⟨(.agg #[.int .i64 0, .int .i64 0, .int .i64 0, .int .i64 0] : Value), by kernel_rfl, rfl, List.all_eq_true.1 rfl⟩⟩
instance : IsA Tryz.prog 126 false := ⟨⟨_, Tryz.underlying126, rfl⟩⟩
instance : IsA Tryz.prog 143 false := ⟨⟨_, Tryz.underlying143, rfl⟩⟩
instance : IsA Tryz.prog 149 false := ⟨⟨_, Tryz.underlying149, rfl⟩⟩
instance : Und Tryz.prog 151 (.array 4 22) := ⟨Tryz.underlying151⟩
instance : IsA Tryz.prog 151 true := ⟨⟨_, Tryz.underlying151, rfl⟩⟩
instance : Siz Tryz.prog 151 4 := ⟨by kernel_rfl⟩
instance : Zer Tryz.prog 151 [.slice none 0 0, .slice none 0 0, .slice none 0 0, .slice none 0 0] := ⟨⟨(.agg #[.slice none 0 0, .slice none 0 0, .slice none 0 0, .slice none 0 0] : Value), by kernel_rfl, rfl, List.all_eq_true.1 rfl⟩⟩
instance : IsA Tryz.prog 175 false := ⟨⟨_, Tryz.underlying175, rfl⟩⟩
instance : Und Tryz.prog 178 (.map 9 4) := ⟨Tryz.underlying178⟩
instance : IsA Tryz.prog 182 false := ⟨⟨_, Tryz.underlying182, rfl⟩⟩
instance : IsA Tryz.prog 186 false := ⟨⟨_, Tryz.underlying186, rfl⟩⟩
instance : IsA Tryz.prog 187 false := ⟨⟨_, Tryz.underlying187, rfl⟩⟩
instance : IsA Tryz.prog 188 false := ⟨⟨_, Tryz.underlying188, rfl⟩⟩
instance : Siz Tryz.prog 188 1 := ⟨by kernel_rfl⟩
instance : Zer Tryz.prog 188 [.nilFunc] := ⟨⟨(.nilFunc : Value), by kernel_rfl, rfl, List.all_eq_true.1 rfl⟩⟩
instance : IsA Tryz.prog 209 false := ⟨⟨_, Tryz.underlying209, rfl⟩⟩
instance : IsA Tryz.prog 212 false := ⟨⟨_, Tryz.underlying212, rfl⟩⟩
instance : Siz Tryz.prog 212 1 := ⟨by kernel_rfl⟩
instance : Und Tryz.prog 215 (.array 7 212) := ⟨Tryz.underlying215⟩
instance : Siz Tryz.prog 215 7 := ⟨by kernel_rfl⟩
instance : Zer Tryz.prog 215 [.nilFunc, .nilFunc, .nilFunc, .nilFunc, .nilFunc, .nilFunc, .nilFunc] := ⟨⟨(.agg #[.nilFunc, .nilFunc, .nilFunc, .nilFunc, .nilFunc, .nilFunc, .nilFunc] : Value), by kernel_rfl, rfl, List.all_eq_true.1 rfl⟩⟩
instance : Und Tryz.prog 234 (.array 256 5) := ⟨Tryz.underlying234⟩
instance : IsA Tryz.prog 236 true := ⟨⟨_, Tryz.underlying236, rfl⟩⟩
instance : Siz Tryz.prog 236 2 := ⟨by kernel_rfl⟩
instance : Zer Tryz.prog 236 [.int .u8 0, .int .u8 0] := ⟨⟨(.agg #[.int .u8 0, .int .u8 0] : Value), by kernel_rfl, rfl, List.all_eq_true.1 rfl⟩⟩
instance : Fld Tryz.prog 236 0 0 5 := ⟨⟨_, _, Tryz.underlying236, rfl, rfl, rfl⟩⟩
instance : Fld Tryz.prog 236 1 1 5 := ⟨⟨_, _, Tryz.underlying236, rfl, rfl, rfl⟩⟩
instance : Und Tryz.prog 237 (.array 16 236) := ⟨Tryz.underlying237⟩
instance : IsA Tryz.prog 255 true := ⟨⟨_, Tryz.underlying255, rfl⟩⟩
instance : Siz Tryz.prog 255 2 := ⟨by kernel_rfl⟩
instance : Zer Tryz.prog 255 [.int .i64 0, .int .i64 0] := ⟨⟨(.agg #[.int .i64 0, .int .i64 0] : Value), by kernel_rfl, rfl, List.all_eq_true.1 rfl⟩⟩
instance : Plc Tryz.prog 255 [(0, 1), (1, 1)] := ⟨⟨_, Tryz.underlying255, by kernel_rfl⟩⟩
instance : IsA Tryz.prog 257 true := ⟨⟨_, Tryz.underlying257, rfl⟩⟩
instance : Zer Tryz.prog 257 [.int .i64 0, .int .i64 0, .int .i64 0] := ⟨⟨(.agg #[.int .i64 0, .int .i64 0, .int .i64 0] : Value), by kernel_rfl, rfl, List.all_eq_true.1 rfl⟩⟩
instance : Plc Tryz.prog 257 [(0, 1), (1, 2)] := ⟨⟨_, Tryz.underlying257, by kernel_rfl⟩⟩
instance : Mixed Tryz.prog := ⟨by kernel_rfl⟩
theorem eqT32 (n : Nat) (w : World) (a b c d : Int) : (Op.equalIn (n + 2) 32 (.agg #[.int .i64 a, .int .i64 b]) (.agg #[.int .i64 c, .int .i64 d])).run Tryz.prog w = .ok (a == c && b == d) w := by
  rw [run_equalIn_struct w (n + 1) 32 _ _ (by kernel_rfl) (by kernel_rfl)]
  simp only [Program.fieldsOf, Tryz.underlying32]
  simp [Op.eqFields, part, run_equalIn_int _ n 3 .i64 .i64 _ _ Tryz.underlying3]
  by_cases h1 : a = c <;> by_cases h2 : b = d <;> simp [h1, h2]
instance : EqInts Tryz.prog 32 2 := .mk2 (by kernel_rfl) (eqT32 9998)
theorem eqT55 (n : Nat) (w : World) (a b c d : Int) : (Op.equalIn (n + 2) 55 (.agg #[.int .i64 a, .int .i64 b]) (.agg #[.int .i64 c, .int .i64 d])).run Tryz.prog w = .ok (a == c && b == d) w := by
  rw [run_equalIn_struct w (n + 1) 55 _ _ (by kernel_rfl) (by kernel_rfl)]
  simp only [Program.fieldsOf, Tryz.underlying55]
  simp [Op.eqFields, part, run_equalIn_int _ n 3 .i64 .i64 _ _ Tryz.underlying3]
  by_cases h1 : a = c <;> by_cases h2 : b = d <;> simp [h1, h2]
instance : EqInts Tryz.prog 55 2 := .mk2 (by kernel_rfl) (eqT55 9998)
instance : EqInts Tryz.prog 76 3 := .mk3 (by kernel_rfl) fun w a b c d e f => by
  rw [run_equalIn_struct w 9999 76 _ _ (by kernel_rfl) (by kernel_rfl)]
  simp only [Program.fieldsOf, Tryz.underlying76]
  simp [Op.eqFields, part, run_equalIn_int _ 9998 3 .i64 .i64 _ _ Tryz.underlying3, eqT55 9997]
  by_cases h1 : a = d <;> by_cases h2 : b = e <;> by_cases h3 : c = f <;> simp [h1, h2, h3]
theorem eqT100 (n : Nat) (w : World) (a b c d : Int) : (Op.equalIn (n + 2) 100 (.agg #[.int .i64 a, .int .i64 b]) (.agg #[.int .i64 c, .int .i64 d])).run Tryz.prog w = .ok (a == c && b == d) w := by
  rw [run_equalIn_struct w (n + 1) 100 _ _ (by kernel_rfl) (by kernel_rfl)]
  simp only [Program.fieldsOf, Tryz.underlying100]
  simp [Op.eqFields, part, run_equalIn_int _ n 3 .i64 .i64 _ _ Tryz.underlying3]
  by_cases h1 : a = c <;> by_cases h2 : b = d <;> simp [h1, h2]
instance : EqInts Tryz.prog 100 2 := .mk2 (by kernel_rfl) (eqT100 9998)
theorem eqT255 (n : Nat) (w : World) (a b c d : Int) : (Op.equalIn (n + 2) 255 (.agg #[.int .i64 a, .int .i64 b]) (.agg #[.int .i64 c, .int .i64 d])).run Tryz.prog w = .ok (a == c && b == d) w := by
  rw [run_equalIn_struct w (n + 1) 255 _ _ (by kernel_rfl) (by kernel_rfl)]
  simp only [Program.fieldsOf, Tryz.underlying255]
  simp [Op.eqFields, part, run_equalIn_int _ n 3 .i64 .i64 _ _ Tryz.underlying3]
  by_cases h1 : a = c <;> by_cases h2 : b = d <;> simp [h1, h2]
instance : EqInts Tryz.prog 255 2 := .mk2 (by kernel_rfl) (eqT255 9998)
instance : EqInts Tryz.prog 257 3 := .mk3 (by kernel_rfl) fun w a b c d e f => by
  rw [run_equalIn_struct w 9999 257 _ _ (by kernel_rfl) (by kernel_rfl)]
  simp only [Program.fieldsOf, Tryz.underlying257]
  simp [Op.eqFields, part, run_equalIn_int _ 9998 3 .i64 .i64 _ _ Tryz.underlying3, eqT55 9997]
  by_cases h1 : a = d <;> by_cases h2 : b = e <;> by_cases h3 : c = f <;> simp [h1, h2, h3]
instance : Enters Tryz.prog 14 := ⟨⟨_, Tryz.func14, by kernel_rfl, by kernel_rfl⟩⟩
instance : Enters Tryz.prog 15 := ⟨⟨_, Tryz.func15, by kernel_rfl, by kernel_rfl⟩⟩
instance : Enters Tryz.prog 16 := ⟨⟨_, Tryz.func16, by kernel_rfl, by kernel_rfl⟩⟩
instance : Enters Tryz.prog 17 := ⟨⟨_, Tryz.func17, by kernel_rfl, by kernel_rfl⟩⟩
instance : Enters Tryz.prog 18 := ⟨⟨_, Tryz.func18, by kernel_rfl, by kernel_rfl⟩⟩
instance : Enters Tryz.prog 20 := ⟨⟨_, Tryz.func20, by kernel_rfl, by kernel_rfl⟩⟩
instance : Enters Tryz.prog 21 := ⟨⟨_, Tryz.func21, by kernel_rfl, by kernel_rfl⟩⟩
instance : Enters Tryz.prog 22 := ⟨⟨_, Tryz.func22, by kernel_rfl, by kernel_rfl⟩⟩
instance : Enters Tryz.prog 23 := ⟨⟨_, Tryz.func23, by kernel_rfl, by kernel_rfl⟩⟩
instance : Enters Tryz.prog 24 := ⟨⟨_, Tryz.func24, by kernel_rfl, by kernel_rfl⟩⟩
instance : Enters Tryz.prog 25 := ⟨⟨_, Tryz.func25, by kernel_rfl, by kernel_rfl⟩⟩
instance : Enters Tryz.prog 47 := ⟨⟨_, Tryz.func47, by kernel_rfl, by kernel_rfl⟩⟩
instance : Enters Tryz.prog 48 := ⟨⟨_, Tryz.func48, by kernel_rfl, by kernel_rfl⟩⟩
instance : Enters Tryz.prog 49 := ⟨⟨_, Tryz.func49, by kernel_rfl, by kernel_rfl⟩⟩
instance : Enters Tryz.prog 56 := ⟨⟨_, Tryz.func56, by kernel_rfl, by kernel_rfl⟩⟩
instance : Enters Tryz.prog 59 := ⟨⟨_, Tryz.func59, by kernel_rfl, by kernel_rfl⟩⟩
instance : Enters Tryz.prog 63 := ⟨⟨_, Tryz.func63, by kernel_rfl, by kernel_rfl⟩⟩
instance : Enters Tryz.prog 66 := ⟨⟨_, Tryz.func66, by kernel_rfl, by kernel_rfl⟩⟩
instance : Enters Tryz.prog 67 := ⟨⟨_, Tryz.func67, by kernel_rfl, by kernel_rfl⟩⟩
instance : Enters Tryz.prog 68 := ⟨⟨_, Tryz.func68, by kernel_rfl, by kernel_rfl⟩⟩
instance : Enters Tryz.prog 69 := ⟨⟨_, Tryz.func69, by kernel_rfl, by kernel_rfl⟩⟩
instance : Enters Tryz.prog 70 := ⟨⟨_, Tryz.func70, by kernel_rfl, by kernel_rfl⟩⟩
instance : Enters Tryz.prog 71 := ⟨⟨_, Tryz.func71, by kernel_rfl, by kernel_rfl⟩⟩
instance : Enters Tryz.prog 72 := ⟨⟨_, Tryz.func72, by kernel_rfl, by kernel_rfl⟩⟩
instance : Enters Tryz.prog 73 := ⟨⟨_, Tryz.func73, by kernel_rfl, by kernel_rfl⟩⟩
instance : Enters Tryz.prog 74 := ⟨⟨_, Tryz.func74, by kernel_rfl, by kernel_rfl⟩⟩
instance : Enters Tryz.prog 75 := ⟨⟨_, Tryz.func75, by kernel_rfl, by kernel_rfl⟩⟩
instance : Enters Tryz.prog 76 := ⟨⟨_, Tryz.func76, by kernel_rfl, by kernel_rfl⟩⟩
instance : Enters Tryz.prog 77 := ⟨⟨_, Tryz.func77, by kernel_rfl, by kernel_rfl⟩⟩
instance : Enters Tryz.prog 78 := ⟨⟨_, Tryz.func78, by kernel_rfl, by kernel_rfl⟩⟩
instance : Enters Tryz.prog 83 := ⟨⟨_, Tryz.func83, by kernel_rfl, by kernel_rfl⟩⟩
instance : Enters Tryz.prog 86 := ⟨⟨_, Tryz.func86, by kernel_rfl, by kernel_rfl⟩⟩
instance : Enters Tryz.prog 92 := ⟨⟨_, Tryz.func92, by kernel_rfl, by kernel_rfl⟩⟩
instance : Enters Tryz.prog 102 := ⟨⟨_, Tryz.func102, by kernel_rfl, by kernel_rfl⟩⟩
instance : Enters Tryz.prog 105 := ⟨⟨_, Tryz.func105, by kernel_rfl, by kernel_rfl⟩⟩
instance : Enters Tryz.prog 106 := ⟨⟨_, Tryz.func106, by kernel_rfl, by kernel_rfl⟩⟩
instance : Enters Tryz.prog 107 := ⟨⟨_, Tryz.func107, by kernel_rfl, by kernel_rfl⟩⟩
instance : Enters Tryz.prog 108 := ⟨⟨_, Tryz.func108, by kernel_rfl, by kernel_rfl⟩⟩
instance : Enters Tryz.prog 116 := ⟨⟨_, Tryz.func116, by kernel_rfl, by kernel_rfl⟩⟩
instance : Enters Tryz.prog 119 := ⟨⟨_, Tryz.func119, by kernel_rfl, by kernel_rfl⟩⟩
instance : Enters Tryz.prog 120 := ⟨⟨_, Tryz.func120, by kernel_rfl, by kernel_rfl⟩⟩
instance : Enters Tryz.prog 121 := ⟨⟨_, Tryz.func121, by kernel_rfl, by kernel_rfl⟩⟩
instance : Enters Tryz.prog 122 := ⟨⟨_, Tryz.func122, by kernel_rfl, by kernel_rfl⟩⟩
instance : Enters Tryz.prog 123 := ⟨⟨_, Tryz.func123, by kernel_rfl, by kernel_rfl⟩⟩
instance : Enters Tryz.prog 124 := ⟨⟨_, Tryz.func124, by kernel_rfl, by kernel_rfl⟩⟩
instance : Enters Tryz.prog 125 := ⟨⟨_, Tryz.func125, by kernel_rfl, by kernel_rfl⟩⟩
instance : Enters Tryz.prog 126 := ⟨⟨_, Tryz.func126, by kernel_rfl, by kernel_rfl⟩⟩
instance : Enters Tryz.prog 127 := ⟨⟨_, Tryz.func127, by kernel_rfl, by kernel_rfl⟩⟩
instance : Enters Tryz.prog 128 := ⟨⟨_, Tryz.func128, by kernel_rfl, by kernel_rfl⟩⟩
instance : Enters Tryz.prog 129 := ⟨⟨_, Tryz.func129, by kernel_rfl, by kernel_rfl⟩⟩
instance : Enters Tryz.prog 130 := ⟨⟨_, Tryz.func130, by kernel_rfl, by kernel_rfl⟩⟩
instance : Enters Tryz.prog 131 := ⟨⟨_, Tryz.func131, by kernel_rfl, by kernel_rfl⟩⟩
instance : Enters Tryz.prog 136 := ⟨⟨_, Tryz.func136, by kernel_rfl, by kernel_rfl⟩⟩
instance : Enters Tryz.prog 141 := ⟨⟨_, Tryz.func141, by kernel_rfl, by kernel_rfl⟩⟩
instance : Enters Tryz.prog 142 := ⟨⟨_, Tryz.func142, by kernel_rfl, by kernel_rfl⟩⟩
instance : Enters Tryz.prog 143 := ⟨⟨_, Tryz.func143, by kernel_rfl, by kernel_rfl⟩⟩
instance : Enters Tryz.prog 144 := ⟨⟨_, Tryz.func144, by kernel_rfl, by kernel_rfl⟩⟩
instance : Enters Tryz.prog 145 := ⟨⟨_, Tryz.func145, by kernel_rfl, by kernel_rfl⟩⟩
instance : Enters Tryz.prog 146 := ⟨⟨_, Tryz.func146, by kernel_rfl, by kernel_rfl⟩⟩
instance : Enters Tryz.prog 147 := ⟨⟨_, Tryz.func147, by kernel_rfl, by kernel_rfl⟩⟩
instance : Enters Tryz.prog 148 := ⟨⟨_, Tryz.func148, by kernel_rfl, by kernel_rfl⟩⟩
instance : Enters Tryz.prog 149 := ⟨⟨_, Tryz.func149, by kernel_rfl, by kernel_rfl⟩⟩
instance : Enters Tryz.prog 150 := ⟨⟨_, Tryz.func150, by kernel_rfl, by kernel_rfl⟩⟩
instance : Enters Tryz.prog 151 := ⟨⟨_, Tryz.func151, by kernel_rfl, by kernel_rfl⟩⟩
instance : Enters Tryz.prog 152 := ⟨⟨_, Tryz.func152, by kernel_rfl, by kernel_rfl⟩⟩
instance : Enters Tryz.prog 153 := ⟨⟨_, Tryz.func153, by kernel_rfl, by kernel_rfl⟩⟩
instance : Enters Tryz.prog 154 := ⟨⟨_, Tryz.func154, by kernel_rfl, by kernel_rfl⟩⟩
instance : Enters Tryz.prog 155 := ⟨⟨_, Tryz.func155, by kernel_rfl, by kernel_rfl⟩⟩
instance : Enters Tryz.prog 156 := ⟨⟨_, Tryz.func156, by kernel_rfl, by kernel_rfl⟩⟩
instance : Enters Tryz.prog 157 := ⟨⟨_, Tryz.func157, by kernel_rfl, by kernel_rfl⟩⟩
instance : Enters Tryz.prog 163 := ⟨⟨_, Tryz.func163, by kernel_rfl, by kernel_rfl⟩⟩
instance : Enters Tryz.prog 164 := ⟨⟨_, Tryz.func164, by kernel_rfl, by kernel_rfl⟩⟩
instance : Enters Tryz.prog 165 := ⟨⟨_, Tryz.func165, by kernel_rfl, by kernel_rfl⟩⟩
instance : Enters Tryz.prog 166 := ⟨⟨_, Tryz.func166, by kernel_rfl, by kernel_rfl⟩⟩
instance : Enters Tryz.prog 167 := ⟨⟨_, Tryz.func167, by kernel_rfl, by kernel_rfl⟩⟩
instance : Enters Tryz.prog 178 := ⟨⟨_, Tryz.func178, by kernel_rfl, by kernel_rfl⟩⟩
instance : Enters Tryz.prog 179 := ⟨⟨_, Tryz.func179, by kernel_rfl, by kernel_rfl⟩⟩
instance : Enters Tryz.prog 180 := ⟨⟨_, Tryz.func180, by kernel_rfl, by kernel_rfl⟩⟩
instance : Enters Tryz.prog 181 := ⟨⟨_, Tryz.func181, by kernel_rfl, by kernel_rfl⟩⟩
instance : Enters Tryz.prog 182 := ⟨⟨_, Tryz.func182, by kernel_rfl, by kernel_rfl⟩⟩
instance : Enters Tryz.prog 183 := ⟨⟨_, Tryz.func183, by kernel_rfl, by kernel_rfl⟩⟩
instance : Enters Tryz.prog 184 := ⟨⟨_, Tryz.func184, by kernel_rfl, by kernel_rfl⟩⟩
instance : Enters Tryz.prog 185 := ⟨⟨_, Tryz.func185, by kernel_rfl, by kernel_rfl⟩⟩
instance : Enters Tryz.prog 186 := ⟨⟨_, Tryz.func186, by kernel_rfl, by kernel_rfl⟩⟩
instance : Enters Tryz.prog 187 := ⟨⟨_, Tryz.func187, by kernel_rfl, by kernel_rfl⟩⟩
instance : Enters Tryz.prog 188 := ⟨⟨_, Tryz.func188, by kernel_rfl, by kernel_rfl⟩⟩
instance : Enters Tryz.prog 189 := ⟨⟨_, Tryz.func189, by kernel_rfl, by kernel_rfl⟩⟩
instance : Enters Tryz.prog 190 := ⟨⟨_, Tryz.func190, by kernel_rfl, by kernel_rfl⟩⟩
instance : Enters Tryz.prog 191 := ⟨⟨_, Tryz.func191, by kernel_rfl, by kernel_rfl⟩⟩
instance : Enters Tryz.prog 192 := ⟨⟨_, Tryz.func192, by kernel_rfl, by kernel_rfl⟩⟩
instance : Enters Tryz.prog 193 := ⟨⟨_, Tryz.func193, by kernel_rfl, by kernel_rfl⟩⟩
instance : Enters Tryz.prog 194 := ⟨⟨_, Tryz.func194, by kernel_rfl, by kernel_rfl⟩⟩
instance : Enters Tryz.prog 195 := ⟨⟨_, Tryz.func195, by kernel_rfl, by kernel_rfl⟩⟩
instance : Enters Tryz.prog 196 := ⟨⟨_, Tryz.func196, by kernel_rfl, by kernel_rfl⟩⟩
instance : Enters Tryz.prog 197 := ⟨⟨_, Tryz.func197, by kernel_rfl, by kernel_rfl⟩⟩
instance : Enters Tryz.prog 198 := ⟨⟨_, Tryz.func198, by kernel_rfl, by kernel_rfl⟩⟩
instance : Enters Tryz.prog 199 := ⟨⟨_, Tryz.func199, by kernel_rfl, by kernel_rfl⟩⟩
instance : Enters Tryz.prog 200 := ⟨⟨_, Tryz.func200, by kernel_rfl, by kernel_rfl⟩⟩
instance : Enters Tryz.prog 201 := ⟨⟨_, Tryz.func201, by kernel_rfl, by kernel_rfl⟩⟩
instance : Enters Tryz.prog 202 := ⟨⟨_, Tryz.func202, by kernel_rfl, by kernel_rfl⟩⟩
instance : Enters Tryz.prog 203 := ⟨⟨_, Tryz.func203, by kernel_rfl, by kernel_rfl⟩⟩
instance : Enters Tryz.prog 204 := ⟨⟨_, Tryz.func204, by kernel_rfl, by kernel_rfl⟩⟩
instance : Enters Tryz.prog 210 := ⟨⟨_, Tryz.func210, by kernel_rfl, by kernel_rfl⟩⟩
instance : Enters Tryz.prog 211 := ⟨⟨_, Tryz.func211, by kernel_rfl, by kernel_rfl⟩⟩
instance : Enters Tryz.prog 212 := ⟨⟨_, Tryz.func212, by kernel_rfl, by kernel_rfl⟩⟩
instance : Enters Tryz.prog 213 := ⟨⟨_, Tryz.func213, by kernel_rfl, by kernel_rfl⟩⟩
instance : Enters Tryz.prog 214 := ⟨⟨_, Tryz.func214, by kernel_rfl, by kernel_rfl⟩⟩
instance : Enters Tryz.prog 215 := ⟨⟨_, Tryz.func215, by kernel_rfl, by kernel_rfl⟩⟩
instance : Enters Tryz.prog 217 := ⟨⟨_, Tryz.func217, by kernel_rfl, by kernel_rfl⟩⟩
instance : Enters Tryz.prog 218 := ⟨⟨_, Tryz.func218, by kernel_rfl, by kernel_rfl⟩⟩
instance : Enters Tryz.prog 219 := ⟨⟨_, Tryz.func219, by kernel_rfl, by kernel_rfl⟩⟩
instance : Enters Tryz.prog 220 := ⟨⟨_, Tryz.func220, by kernel_rfl, by kernel_rfl⟩⟩
instance : Enters Tryz.prog 236 := ⟨⟨_, Tryz.func236, by kernel_rfl, by kernel_rfl⟩⟩
instance : Enters Tryz.prog 238 := ⟨⟨_, Tryz.func238, by kernel_rfl, by kernel_rfl⟩⟩
instance : Enters Tryz.prog 239 := ⟨⟨_, Tryz.func239, by kernel_rfl, by kernel_rfl⟩⟩
instance : Enters Tryz.prog 240 := ⟨⟨_, Tryz.func240, by kernel_rfl, by kernel_rfl⟩⟩
instance : Enters Tryz.prog 241 := ⟨⟨_, Tryz.func241, by kernel_rfl, by kernel_rfl⟩⟩
instance : Enters Tryz.prog 242 := ⟨⟨_, Tryz.func242, by kernel_rfl, by kernel_rfl⟩⟩
instance : Enters Tryz.prog 243 := ⟨⟨_, Tryz.func243, by kernel_rfl, by kernel_rfl⟩⟩
instance : Enters Tryz.prog 244 := ⟨⟨_, Tryz.func244, by kernel_rfl, by kernel_rfl⟩⟩
instance : Enters Tryz.prog 245 := ⟨⟨_, Tryz.func245, by kernel_rfl, by kernel_rfl⟩⟩
instance : Enters Tryz.prog 246 := ⟨⟨_, Tryz.func246, by kernel_rfl, by kernel_rfl⟩⟩
instance : Enters Tryz.prog 247 := ⟨⟨_, Tryz.func247, by kernel_rfl, by kernel_rfl⟩⟩
instance : Enters Tryz.prog 248 := ⟨⟨_, Tryz.func248, by kernel_rfl, by kernel_rfl⟩⟩
instance : Enters Tryz.prog 249 := ⟨⟨_, Tryz.func249, by kernel_rfl, by kernel_rfl⟩⟩
instance : Enters Tryz.prog 250 := ⟨⟨_, Tryz.func250, by kernel_rfl, by kernel_rfl⟩⟩
instance : Enters Tryz.prog 251 := ⟨⟨_, Tryz.func251, by kernel_rfl, by kernel_rfl⟩⟩
instance : Enters Tryz.prog 252 := ⟨⟨_, Tryz.func252, by kernel_rfl, by kernel_rfl⟩⟩
instance : Enters Tryz.prog 253 := ⟨⟨_, Tryz.func253, by kernel_rfl, by kernel_rfl⟩⟩
instance : Enters Tryz.prog 254 := ⟨⟨_, Tryz.func254, by kernel_rfl, by kernel_rfl⟩⟩
instance : Enters Tryz.prog 255 := ⟨⟨_, Tryz.func255, by kernel_rfl, by kernel_rfl⟩⟩
instance : Enters Tryz.prog 256 := ⟨⟨_, Tryz.func256, by kernel_rfl, by kernel_rfl⟩⟩
instance : Enters Tryz.prog 257 := ⟨⟨_, Tryz.func257, by kernel_rfl, by kernel_rfl⟩⟩
instance : Enters Tryz.prog 258 := ⟨⟨_, Tryz.func258, by kernel_rfl, by kernel_rfl⟩⟩
instance : Enters Tryz.prog 259 := ⟨⟨_, Tryz.func259, by kernel_rfl, by kernel_rfl⟩⟩
instance : Enters Tryz.prog 260 := ⟨⟨_, Tryz.func260, by kernel_rfl, by kernel_rfl⟩⟩
instance : Enters Tryz.prog 261 := ⟨⟨_, Tryz.func261, by kernel_rfl, by kernel_rfl⟩⟩
instance : Enters Tryz.prog 262 := ⟨⟨_, Tryz.func262, by kernel_rfl, by kernel_rfl⟩⟩
instance : Enters Tryz.prog 263 := ⟨⟨_, Tryz.func263, by kernel_rfl, by kernel_rfl⟩⟩
instance : Enters Tryz.prog 264 := ⟨⟨_, Tryz.func264, by kernel_rfl, by kernel_rfl⟩⟩
instance : Enters Tryz.prog 265 := ⟨⟨_, Tryz.func265, by kernel_rfl, by kernel_rfl⟩⟩
instance : Enters Tryz.prog 266 := ⟨⟨_, Tryz.func266, by kernel_rfl, by kernel_rfl⟩⟩
instance : Enters Tryz.prog 267 := ⟨⟨_, Tryz.func267, by kernel_rfl, by kernel_rfl⟩⟩
instance : Enters Tryz.prog 268 := ⟨⟨_, Tryz.func268, by kernel_rfl, by kernel_rfl⟩⟩
instance : Enters Tryz.prog 269 := ⟨⟨_, Tryz.func269, by kernel_rfl, by kernel_rfl⟩⟩
instance : Enters Tryz.prog 270 := ⟨⟨_, Tryz.func270, by kernel_rfl, by kernel_rfl⟩⟩
instance : Enters Tryz.prog 271 := ⟨⟨_, Tryz.func271, by kernel_rfl, by kernel_rfl⟩⟩
instance : Enters Tryz.prog 272 := ⟨⟨_, Tryz.func272, by kernel_rfl, by kernel_rfl⟩⟩
instance : Enters Tryz.prog 273 := ⟨⟨_, Tryz.func273, by kernel_rfl, by kernel_rfl⟩⟩
end Go.Proofs
