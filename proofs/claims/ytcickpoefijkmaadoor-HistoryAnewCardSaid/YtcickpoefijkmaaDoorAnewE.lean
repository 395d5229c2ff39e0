/- Facts on the loaded program's types and functions, as instances. Conditions: none. -/
import Derived.Test.YtcickpoefijkmaaDoorAnewD
import Derived.Test.YtcickpoefijkmaaDoorProg
import Derived.KernelRfl
set_option linter.unusedVariables false
set_option maxRecDepth 100000
namespace Go.Proofs
open Go Go.Ab
instance : IsA Tryd.prog 1 false := ⟨⟨_, Tryd.underlying1, rfl⟩⟩
instance : Siz Tryd.prog 1 1 := ⟨by kernel_rfl⟩
instance : Byt Tryd.prog 1 8 := ⟨by kernel_rfl⟩
instance : ZerV Tryd.prog 1 (.nilFunc) := ⟨by kernel_rfl⟩
instance : Zer Tryd.prog 1 [.nilFunc] := ⟨⟨(.nilFunc : Value), by kernel_rfl, rfl, List.all_eq_true.1 rfl⟩⟩
instance : Und Tryd.prog 2 (.int .i64) := ⟨Tryd.underlying2⟩
instance : IsA Tryd.prog 2 false := ⟨⟨_, Tryd.underlying2, rfl⟩⟩
instance : Siz Tryd.prog 2 1 := ⟨by kernel_rfl⟩
instance : Byt Tryd.prog 2 8 := ⟨by kernel_rfl⟩
instance : ZerV Tryd.prog 2 (.int .i64 0) := ⟨by kernel_rfl⟩
instance : Zer Tryd.prog 2 [.int .i64 0] := ⟨⟨(.int .i64 0 : Value), by kernel_rfl, rfl, List.all_eq_true.1 rfl⟩⟩
instance : Und Tryd.prog 3 (.int .i64) := ⟨Tryd.underlying3⟩
instance : IsA Tryd.prog 3 false := ⟨⟨_, Tryd.underlying3, rfl⟩⟩
instance : Siz Tryd.prog 3 1 := ⟨by kernel_rfl⟩
instance : Byt Tryd.prog 3 8 := ⟨by kernel_rfl⟩
instance : ZerV Tryd.prog 3 (.int .i64 0) := ⟨by kernel_rfl⟩
instance : Zer Tryd.prog 3 [.int .i64 0] := ⟨⟨(.int .i64 0 : Value), by kernel_rfl, rfl, List.all_eq_true.1 rfl⟩⟩
instance : Und Tryd.prog 4 .bool := ⟨Tryd.underlying4⟩
instance : IsA Tryd.prog 4 false := ⟨⟨_, Tryd.underlying4, rfl⟩⟩
instance : Siz Tryd.prog 4 1 := ⟨by kernel_rfl⟩
instance : Byt Tryd.prog 4 1 := ⟨by kernel_rfl⟩
instance : ZerV Tryd.prog 4 (.bool false) := ⟨by kernel_rfl⟩
instance : Zer Tryd.prog 4 [.bool false] := ⟨⟨(.bool false : Value), by kernel_rfl, rfl, List.all_eq_true.1 rfl⟩⟩
instance : Und Tryd.prog 5 (.int .u8) := ⟨Tryd.underlying5⟩
instance : IsA Tryd.prog 5 false := ⟨⟨_, Tryd.underlying5, rfl⟩⟩
instance : Siz Tryd.prog 5 1 := ⟨by kernel_rfl⟩
instance : Byt Tryd.prog 5 1 := ⟨by kernel_rfl⟩
instance : ZerV Tryd.prog 5 (.int .u8 0) := ⟨by kernel_rfl⟩
instance : Zer Tryd.prog 5 [.int .u8 0] := ⟨⟨(.int .u8 0 : Value), by kernel_rfl, rfl, List.all_eq_true.1 rfl⟩⟩
instance : Und Tryd.prog 6 (.int .u8) := ⟨Tryd.underlying6⟩
instance : IsA Tryd.prog 6 false := ⟨⟨_, Tryd.underlying6, rfl⟩⟩
instance : Siz Tryd.prog 6 1 := ⟨by kernel_rfl⟩
instance : Byt Tryd.prog 6 1 := ⟨by kernel_rfl⟩
instance : ZerV Tryd.prog 6 (.int .u8 0) := ⟨by kernel_rfl⟩
instance : Zer Tryd.prog 6 [.int .u8 0] := ⟨⟨(.int .u8 0 : Value), by kernel_rfl, rfl, List.all_eq_true.1 rfl⟩⟩
instance : IsA Tryd.prog 7 true := ⟨⟨_, Tryd.underlying7, rfl⟩⟩
instance : Siz Tryd.prog 7 4 := ⟨by kernel_rfl⟩
instance : Byt Tryd.prog 7 24 := ⟨by kernel_rfl⟩
instance : ZerV Tryd.prog 7 (.agg #[.int .i64 0, .int .i64 0, .bool false, .int .u8 0]) := ⟨by kernel_rfl⟩
instance : Zer Tryd.prog 7 [.int .i64 0, .int .i64 0, .bool false, .int .u8 0] := ⟨⟨(.agg #[.int .i64 0, .int .i64 0, .bool false, .int .u8 0] : Value), by kernel_rfl, rfl, List.all_eq_true.1 rfl⟩⟩
instance : Fld Tryd.prog 7 0 0 2 := ⟨⟨_, _, Tryd.underlying7, rfl, rfl, rfl⟩⟩
instance : Fld Tryd.prog 7 1 1 3 := ⟨⟨_, _, Tryd.underlying7, rfl, rfl, rfl⟩⟩
instance : Fld Tryd.prog 7 2 2 4 := ⟨⟨_, _, Tryd.underlying7, rfl, rfl, rfl⟩⟩
instance : Fld Tryd.prog 7 3 3 6 := ⟨⟨_, _, Tryd.underlying7, rfl, rfl, rfl⟩⟩
instance : Plc Tryd.prog 7 [(0, 1), (1, 1), (2, 1), (3, 1)] := ⟨⟨_, Tryd.underlying7, by kernel_rfl⟩⟩
instance : Und Tryd.prog 9 .string := ⟨Tryd.underlying9⟩
instance : IsA Tryd.prog 9 false := ⟨⟨_, Tryd.underlying9, rfl⟩⟩
instance : Siz Tryd.prog 9 1 := ⟨by kernel_rfl⟩
instance : Byt Tryd.prog 9 16 := ⟨by kernel_rfl⟩
instance : ZerV Tryd.prog 9 (.string ⟨#[]⟩) := ⟨by kernel_rfl⟩
instance : Zer Tryd.prog 9 [.string ⟨#[]⟩] := ⟨⟨(.string ⟨#[]⟩ : Value), by kernel_rfl, rfl, List.all_eq_true.1 rfl⟩⟩
instance : Und Tryd.prog 21 (.int .i32) := ⟨Tryd.underlying21⟩
instance : IsA Tryd.prog 21 false := ⟨⟨_, Tryd.underlying21, rfl⟩⟩
instance : Siz Tryd.prog 21 1 := ⟨by kernel_rfl⟩
instance : Byt Tryd.prog 21 4 := ⟨by kernel_rfl⟩
instance : ZerV Tryd.prog 21 (.int .i32 0) := ⟨by kernel_rfl⟩
instance : Zer Tryd.prog 21 [.int .i32 0] := ⟨⟨(.int .i32 0 : Value), by kernel_rfl, rfl, List.all_eq_true.1 rfl⟩⟩
instance : Und Tryd.prog 22 (.slice 9) := ⟨Tryd.underlying22⟩
instance : IsA Tryd.prog 22 false := ⟨⟨_, Tryd.underlying22, rfl⟩⟩
instance : Siz Tryd.prog 22 1 := ⟨by kernel_rfl⟩
instance : Byt Tryd.prog 22 24 := ⟨by kernel_rfl⟩
instance : ZerV Tryd.prog 22 (.slice none 0 0) := ⟨by kernel_rfl⟩
instance : Zer Tryd.prog 22 [.slice none 0 0] := ⟨⟨(.slice none 0 0 : Value), by kernel_rfl, rfl, List.all_eq_true.1 rfl⟩⟩
instance : Und Tryd.prog 23 (.slice 40) := ⟨Tryd.underlying23⟩
instance : IsA Tryd.prog 23 false := ⟨⟨_, Tryd.underlying23, rfl⟩⟩
instance : Siz Tryd.prog 23 1 := ⟨by kernel_rfl⟩
instance : Byt Tryd.prog 23 24 := ⟨by kernel_rfl⟩
instance : ZerV Tryd.prog 23 (.slice none 0 0) := ⟨by kernel_rfl⟩
instance : Zer Tryd.prog 23 [.slice none 0 0] := ⟨⟨(.slice none 0 0 : Value), by kernel_rfl, rfl, List.all_eq_true.1 rfl⟩⟩
instance : Und Tryd.prog 24 (.slice 54) := ⟨Tryd.underlying24⟩
instance : IsA Tryd.prog 24 false := ⟨⟨_, Tryd.underlying24, rfl⟩⟩
instance : Siz Tryd.prog 24 1 := ⟨by kernel_rfl⟩
instance : Byt Tryd.prog 24 24 := ⟨by kernel_rfl⟩
instance : ZerV Tryd.prog 24 (.slice none 0 0) := ⟨by kernel_rfl⟩
instance : Zer Tryd.prog 24 [.slice none 0 0] := ⟨⟨(.slice none 0 0 : Value), by kernel_rfl, rfl, List.all_eq_true.1 rfl⟩⟩
instance : Und Tryd.prog 25 (.slice 57) := ⟨Tryd.underlying25⟩
instance : IsA Tryd.prog 25 false := ⟨⟨_, Tryd.underlying25, rfl⟩⟩
instance : Siz Tryd.prog 25 1 := ⟨by kernel_rfl⟩
instance : Byt Tryd.prog 25 24 := ⟨by kernel_rfl⟩
instance : ZerV Tryd.prog 25 (.slice none 0 0) := ⟨by kernel_rfl⟩
instance : Zer Tryd.prog 25 [.slice none 0 0] := ⟨⟨(.slice none 0 0 : Value), by kernel_rfl, rfl, List.all_eq_true.1 rfl⟩⟩
instance : Und Tryd.prog 26 (.slice 60) := ⟨Tryd.underlying26⟩
instance : IsA Tryd.prog 26 false := ⟨⟨_, Tryd.underlying26, rfl⟩⟩
instance : Siz Tryd.prog 26 1 := ⟨by kernel_rfl⟩
instance : Byt Tryd.prog 26 24 := ⟨by kernel_rfl⟩
instance : ZerV Tryd.prog 26 (.slice none 0 0) := ⟨by kernel_rfl⟩
instance : Zer Tryd.prog 26 [.slice none 0 0] := ⟨⟨(.slice none 0 0 : Value), by kernel_rfl, rfl, List.all_eq_true.1 rfl⟩⟩
instance : IsA Tryd.prog 27 true := ⟨⟨_, Tryd.underlying27, rfl⟩⟩
instance : Siz Tryd.prog 27 8 := ⟨by kernel_rfl⟩
instance : Byt Tryd.prog 27 192 := ⟨by kernel_rfl⟩
instance : ZerV Tryd.prog 27 (.agg #[.slice none 0 0, .slice none 0 0, .slice none 0 0, .slice none 0 0, .slice none 0 0, .slice none 0 0, .slice none 0 0, .slice none 0 0]) := ⟨by kernel_rfl⟩
instance : Zer Tryd.prog 27 [.slice none 0 0, .slice none 0 0, .slice none 0 0, .slice none 0 0, .slice none 0 0, .slice none 0 0, .slice none 0 0, .slice none 0 0] := ⟨⟨(.agg #[.slice none 0 0, .slice none 0 0, .slice none 0 0, .slice none 0 0, .slice none 0 0, .slice none 0 0, .slice none 0 0, .slice none 0 0] : Value), by kernel_rfl, rfl, List.all_eq_true.1 rfl⟩⟩
instance : Fld Tryd.prog 27 0 0 22 := ⟨⟨_, _, Tryd.underlying27, rfl, rfl, rfl⟩⟩
instance : Fld Tryd.prog 27 1 1 22 := ⟨⟨_, _, Tryd.underlying27, rfl, rfl, rfl⟩⟩
instance : Fld Tryd.prog 27 2 2 22 := ⟨⟨_, _, Tryd.underlying27, rfl, rfl, rfl⟩⟩
instance : Fld Tryd.prog 27 3 3 22 := ⟨⟨_, _, Tryd.underlying27, rfl, rfl, rfl⟩⟩
instance : Fld Tryd.prog 27 4 4 23 := ⟨⟨_, _, Tryd.underlying27, rfl, rfl, rfl⟩⟩
instance : Fld Tryd.prog 27 5 5 24 := ⟨⟨_, _, Tryd.underlying27, rfl, rfl, rfl⟩⟩
instance : Fld Tryd.prog 27 6 6 25 := ⟨⟨_, _, Tryd.underlying27, rfl, rfl, rfl⟩⟩
instance : Fld Tryd.prog 27 7 7 26 := ⟨⟨_, _, Tryd.underlying27, rfl, rfl, rfl⟩⟩
instance : Plc Tryd.prog 27 [(0, 1), (1, 1), (2, 1), (3, 1), (4, 1), (5, 1), (6, 1), (7, 1)] := ⟨⟨_, Tryd.underlying27, by kernel_rfl⟩⟩
instance : IsA Tryd.prog 28 true := ⟨⟨_, Tryd.underlying28, rfl⟩⟩
instance : Siz Tryd.prog 28 8 := ⟨by kernel_rfl⟩
instance : Byt Tryd.prog 28 192 := ⟨by kernel_rfl⟩
instance : ZerV Tryd.prog 28 (.agg #[.slice none 0 0, .slice none 0 0, .slice none 0 0, .slice none 0 0, .slice none 0 0, .slice none 0 0, .slice none 0 0, .slice none 0 0]) := ⟨by kernel_rfl⟩
instance : Zer Tryd.prog 28 [.slice none 0 0, .slice none 0 0, .slice none 0 0, .slice none 0 0, .slice none 0 0, .slice none 0 0, .slice none 0 0, .slice none 0 0] := ⟨⟨(.agg #[.slice none 0 0, .slice none 0 0, .slice none 0 0, .slice none 0 0, .slice none 0 0, .slice none 0 0, .slice none 0 0, .slice none 0 0] : Value), by kernel_rfl, rfl, List.all_eq_true.1 rfl⟩⟩
instance : Fld Tryd.prog 28 0 0 22 := ⟨⟨_, _, Tryd.underlying28, rfl, rfl, rfl⟩⟩
instance : Fld Tryd.prog 28 1 1 22 := ⟨⟨_, _, Tryd.underlying28, rfl, rfl, rfl⟩⟩
instance : Fld Tryd.prog 28 2 2 22 := ⟨⟨_, _, Tryd.underlying28, rfl, rfl, rfl⟩⟩
instance : Fld Tryd.prog 28 3 3 22 := ⟨⟨_, _, Tryd.underlying28, rfl, rfl, rfl⟩⟩
instance : Fld Tryd.prog 28 4 4 23 := ⟨⟨_, _, Tryd.underlying28, rfl, rfl, rfl⟩⟩
instance : Fld Tryd.prog 28 5 5 24 := ⟨⟨_, _, Tryd.underlying28, rfl, rfl, rfl⟩⟩
instance : Fld Tryd.prog 28 6 6 25 := ⟨⟨_, _, Tryd.underlying28, rfl, rfl, rfl⟩⟩
instance : Fld Tryd.prog 28 7 7 26 := ⟨⟨_, _, Tryd.underlying28, rfl, rfl, rfl⟩⟩
instance : Plc Tryd.prog 28 [(0, 1), (1, 1), (2, 1), (3, 1), (4, 1), (5, 1), (6, 1), (7, 1)] := ⟨⟨_, Tryd.underlying28, by kernel_rfl⟩⟩
instance : Und Tryd.prog 31 (.int .i64) := ⟨Tryd.underlying31⟩
instance : IsA Tryd.prog 31 false := ⟨⟨_, Tryd.underlying31, rfl⟩⟩
instance : Siz Tryd.prog 31 1 := ⟨by kernel_rfl⟩
instance : Byt Tryd.prog 31 8 := ⟨by kernel_rfl⟩
instance : ZerV Tryd.prog 31 (.int .i64 0) := ⟨by kernel_rfl⟩
instance : Zer Tryd.prog 31 [.int .i64 0] := ⟨⟨(.int .i64 0 : Value), by kernel_rfl, rfl, List.all_eq_true.1 rfl⟩⟩
instance : IsA Tryd.prog 36 true := ⟨⟨_, Tryd.underlying36, rfl⟩⟩
instance : Siz Tryd.prog 36 2 := ⟨by kernel_rfl⟩
instance : Byt Tryd.prog 36 16 := ⟨by kernel_rfl⟩
instance : ZerV Tryd.prog 36 (.agg #[.int .i64 0, .int .i64 0]) := ⟨by kernel_rfl⟩
instance : Zer Tryd.prog 36 [.int .i64 0, .int .i64 0] := ⟨⟨(.agg #[.int .i64 0, .int .i64 0] : Value), by kernel_rfl, rfl, List.all_eq_true.1 rfl⟩⟩
instance : Fld Tryd.prog 36 0 0 3 := ⟨⟨_, _, Tryd.underlying36, rfl, rfl, rfl⟩⟩
instance : Fld Tryd.prog 36 1 1 3 := ⟨⟨_, _, Tryd.underlying36, rfl, rfl, rfl⟩⟩
instance : Plc Tryd.prog 36 [(0, 1), (1, 1)] := ⟨⟨_, Tryd.underlying36, by kernel_rfl⟩⟩
instance : IsA Tryd.prog 37 true := ⟨⟨_, Tryd.underlying37, rfl⟩⟩
instance : Siz Tryd.prog 37 2 := ⟨by kernel_rfl⟩
instance : Byt Tryd.prog 37 16 := ⟨by kernel_rfl⟩
instance : ZerV Tryd.prog 37 (.agg #[.int .i64 0, .int .i64 0]) := ⟨by kernel_rfl⟩
instance : Zer Tryd.prog 37 [.int .i64 0, .int .i64 0] := ⟨⟨(.agg #[.int .i64 0, .int .i64 0] : Value), by kernel_rfl, rfl, List.all_eq_true.1 rfl⟩⟩
instance : Fld Tryd.prog 37 0 0 3 := ⟨⟨_, _, Tryd.underlying37, rfl, rfl, rfl⟩⟩
instance : Fld Tryd.prog 37 1 1 3 := ⟨⟨_, _, Tryd.underlying37, rfl, rfl, rfl⟩⟩
instance : Plc Tryd.prog 37 [(0, 1), (1, 1)] := ⟨⟨_, Tryd.underlying37, by kernel_rfl⟩⟩
instance : Und Tryd.prog 38 (.slice 52) := ⟨Tryd.underlying38⟩
instance : IsA Tryd.prog 38 false := ⟨⟨_, Tryd.underlying38, rfl⟩⟩
instance : Siz Tryd.prog 38 1 := ⟨by kernel_rfl⟩
instance : Byt Tryd.prog 38 24 := ⟨by kernel_rfl⟩
instance : ZerV Tryd.prog 38 (.slice none 0 0) := ⟨by kernel_rfl⟩
instance : Zer Tryd.prog 38 [.slice none 0 0] := ⟨⟨(.slice none 0 0 : Value), by kernel_rfl, rfl, List.all_eq_true.1 rfl⟩⟩
instance : IsA Tryd.prog 39 true := ⟨⟨_, Tryd.underlying39, rfl⟩⟩
instance : Siz Tryd.prog 39 9 := ⟨by kernel_rfl⟩
instance : Byt Tryd.prog 39 88 := ⟨by kernel_rfl⟩
instance : ZerV Tryd.prog 39 (.agg #[.int .i64 0, .int .i64 0, .int .i64 0, .int .i64 0, .int .i64 0, .int .i64 0, .int .i64 0, .int .i64 0, .slice none 0 0]) := ⟨by kernel_rfl⟩
instance : Zer Tryd.prog 39 [.int .i64 0, .int .i64 0, .int .i64 0, .int .i64 0, .int .i64 0, .int .i64 0, .int .i64 0, .int .i64 0, .slice none 0 0] := ⟨⟨(.agg #[.int .i64 0, .int .i64 0, .int .i64 0, .int .i64 0, .int .i64 0, .int .i64 0, .int .i64 0, .int .i64 0, .slice none 0 0] : Value), by kernel_rfl, rfl, List.all_eq_true.1 rfl⟩⟩
instance : Fld Tryd.prog 39 0 0 3 := ⟨⟨_, _, Tryd.underlying39, rfl, rfl, rfl⟩⟩
instance : Fld Tryd.prog 39 1 1 3 := ⟨⟨_, _, Tryd.underlying39, rfl, rfl, rfl⟩⟩
instance : Fld Tryd.prog 39 2 2 3 := ⟨⟨_, _, Tryd.underlying39, rfl, rfl, rfl⟩⟩
instance : Fld Tryd.prog 39 3 3 3 := ⟨⟨_, _, Tryd.underlying39, rfl, rfl, rfl⟩⟩
instance : Fld Tryd.prog 39 4 4 3 := ⟨⟨_, _, Tryd.underlying39, rfl, rfl, rfl⟩⟩
instance : Fld Tryd.prog 39 5 5 37 := ⟨⟨_, _, Tryd.underlying39, rfl, rfl, rfl⟩⟩
instance : Fld Tryd.prog 39 6 7 3 := ⟨⟨_, _, Tryd.underlying39, rfl, rfl, rfl⟩⟩
instance : Fld Tryd.prog 39 7 8 38 := ⟨⟨_, _, Tryd.underlying39, rfl, rfl, rfl⟩⟩
instance : Plc Tryd.prog 39 [(0, 1), (1, 1), (2, 1), (3, 1), (4, 1), (5, 2), (7, 1), (8, 1)] := ⟨⟨_, Tryd.underlying39, by kernel_rfl⟩⟩
instance : IsA Tryd.prog 40 true := ⟨⟨_, Tryd.underlying40, rfl⟩⟩
instance : Siz Tryd.prog 40 9 := ⟨by kernel_rfl⟩
instance : Byt Tryd.prog 40 88 := ⟨by kernel_rfl⟩
instance : ZerV Tryd.prog 40 (.agg #[.int .i64 0, .int .i64 0, .int .i64 0, .int .i64 0, .int .i64 0, .int .i64 0, .int .i64 0, .int .i64 0, .slice none 0 0]) := ⟨by kernel_rfl⟩
instance : Zer Tryd.prog 40 [.int .i64 0, .int .i64 0, .int .i64 0, .int .i64 0, .int .i64 0, .int .i64 0, .int .i64 0, .int .i64 0, .slice none 0 0] := ⟨⟨(.agg #[.int .i64 0, .int .i64 0, .int .i64 0, .int .i64 0, .int .i64 0, .int .i64 0, .int .i64 0, .int .i64 0, .slice none 0 0] : Value), by kernel_rfl, rfl, List.all_eq_true.1 rfl⟩⟩
instance : Fld Tryd.prog 40 0 0 3 := ⟨⟨_, _, Tryd.underlying40, rfl, rfl, rfl⟩⟩
instance : Fld Tryd.prog 40 1 1 3 := ⟨⟨_, _, Tryd.underlying40, rfl, rfl, rfl⟩⟩
instance : Fld Tryd.prog 40 2 2 3 := ⟨⟨_, _, Tryd.underlying40, rfl, rfl, rfl⟩⟩
instance : Fld Tryd.prog 40 3 3 3 := ⟨⟨_, _, Tryd.underlying40, rfl, rfl, rfl⟩⟩
instance : Fld Tryd.prog 40 4 4 3 := ⟨⟨_, _, Tryd.underlying40, rfl, rfl, rfl⟩⟩
instance : Fld Tryd.prog 40 5 5 37 := ⟨⟨_, _, Tryd.underlying40, rfl, rfl, rfl⟩⟩
instance : Fld Tryd.prog 40 6 7 3 := ⟨⟨_, _, Tryd.underlying40, rfl, rfl, rfl⟩⟩
instance : Fld Tryd.prog 40 7 8 38 := ⟨⟨_, _, Tryd.underlying40, rfl, rfl, rfl⟩⟩
instance : Plc Tryd.prog 40 [(0, 1), (1, 1), (2, 1), (3, 1), (4, 1), (5, 2), (7, 1), (8, 1)] := ⟨⟨_, Tryd.underlying40, by kernel_rfl⟩⟩
instance : Und Tryd.prog 42 (.map 3 4) := ⟨Tryd.underlying42⟩
instance : IsA Tryd.prog 42 false := ⟨⟨_, Tryd.underlying42, rfl⟩⟩
instance : Siz Tryd.prog 42 1 := ⟨by kernel_rfl⟩
instance : Byt Tryd.prog 42 8 := ⟨by kernel_rfl⟩
instance : ZerV Tryd.prog 42 (.map none) := ⟨by kernel_rfl⟩
instance : Zer Tryd.prog 42 [.map none] := ⟨⟨(.map none : Value), by kernel_rfl, rfl, List.all_eq_true.1 rfl⟩⟩
instance : IsA Tryd.prog 43 false := ⟨⟨_, Tryd.underlying43, rfl⟩⟩
instance : Siz Tryd.prog 43 1 := ⟨by kernel_rfl⟩
instance : Byt Tryd.prog 43 8 := ⟨by kernel_rfl⟩
instance : ZerV Tryd.prog 43 (.nilFunc) := ⟨by kernel_rfl⟩
instance : Zer Tryd.prog 43 [.nilFunc] := ⟨⟨(.nilFunc : Value), by kernel_rfl, rfl, List.all_eq_true.1 rfl⟩⟩
instance : Und Tryd.prog 45 (.slice 3) := ⟨Tryd.underlying45⟩
instance : IsA Tryd.prog 45 false := ⟨⟨_, Tryd.underlying45, rfl⟩⟩
instance : Siz Tryd.prog 45 1 := ⟨by kernel_rfl⟩
instance : Byt Tryd.prog 45 24 := ⟨by kernel_rfl⟩
instance : ZerV Tryd.prog 45 (.slice none 0 0) := ⟨by kernel_rfl⟩
instance : Zer Tryd.prog 45 [.slice none 0 0] := ⟨⟨(.slice none 0 0 : Value), by kernel_rfl, rfl, List.all_eq_true.1 rfl⟩⟩
instance : IsA Tryd.prog 51 true := ⟨⟨_, Tryd.underlying51, rfl⟩⟩
instance : Siz Tryd.prog 51 3 := ⟨by kernel_rfl⟩
instance : Byt Tryd.prog 51 24 := ⟨by kernel_rfl⟩
instance : ZerV Tryd.prog 51 (.agg #[.int .i64 0, .int .i64 0, .int .i64 0]) := ⟨by kernel_rfl⟩
instance : Zer Tryd.prog 51 [.int .i64 0, .int .i64 0, .int .i64 0] := ⟨⟨(.agg #[.int .i64 0, .int .i64 0, .int .i64 0] : Value), by kernel_rfl, rfl, List.all_eq_true.1 rfl⟩⟩
instance : Fld Tryd.prog 51 0 0 3 := ⟨⟨_, _, Tryd.underlying51, rfl, rfl, rfl⟩⟩
instance : Fld Tryd.prog 51 1 1 37 := ⟨⟨_, _, Tryd.underlying51, rfl, rfl, rfl⟩⟩
instance : Plc Tryd.prog 51 [(0, 1), (1, 2)] := ⟨⟨_, Tryd.underlying51, by kernel_rfl⟩⟩
instance : IsA Tryd.prog 52 true := ⟨⟨_, Tryd.underlying52, rfl⟩⟩
instance : Siz Tryd.prog 52 3 := ⟨by kernel_rfl⟩
instance : Byt Tryd.prog 52 24 := ⟨by kernel_rfl⟩
instance : ZerV Tryd.prog 52 (.agg #[.int .i64 0, .int .i64 0, .int .i64 0]) := ⟨by kernel_rfl⟩
instance : Zer Tryd.prog 52 [.int .i64 0, .int .i64 0, .int .i64 0] := ⟨⟨(.agg #[.int .i64 0, .int .i64 0, .int .i64 0] : Value), by kernel_rfl, rfl, List.all_eq_true.1 rfl⟩⟩
instance : Fld Tryd.prog 52 0 0 3 := ⟨⟨_, _, Tryd.underlying52, rfl, rfl, rfl⟩⟩
instance : Fld Tryd.prog 52 1 1 37 := ⟨⟨_, _, Tryd.underlying52, rfl, rfl, rfl⟩⟩
instance : Plc Tryd.prog 52 [(0, 1), (1, 2)] := ⟨⟨_, Tryd.underlying52, by kernel_rfl⟩⟩
instance : IsA Tryd.prog 53 true := ⟨⟨_, Tryd.underlying53, rfl⟩⟩
instance : Siz Tryd.prog 53 2 := ⟨by kernel_rfl⟩
instance : Byt Tryd.prog 53 32 := ⟨by kernel_rfl⟩
instance : ZerV Tryd.prog 53 (.agg #[.int .i64 0, .slice none 0 0]) := ⟨by kernel_rfl⟩
instance : Zer Tryd.prog 53 [.int .i64 0, .slice none 0 0] := ⟨⟨(.agg #[.int .i64 0, .slice none 0 0] : Value), by kernel_rfl, rfl, List.all_eq_true.1 rfl⟩⟩
instance : Fld Tryd.prog 53 0 0 3 := ⟨⟨_, _, Tryd.underlying53, rfl, rfl, rfl⟩⟩
instance : Fld Tryd.prog 53 1 1 45 := ⟨⟨_, _, Tryd.underlying53, rfl, rfl, rfl⟩⟩
instance : Plc Tryd.prog 53 [(0, 1), (1, 1)] := ⟨⟨_, Tryd.underlying53, by kernel_rfl⟩⟩
instance : IsA Tryd.prog 54 true := ⟨⟨_, Tryd.underlying54, rfl⟩⟩
instance : Siz Tryd.prog 54 2 := ⟨by kernel_rfl⟩
instance : Byt Tryd.prog 54 32 := ⟨by kernel_rfl⟩
instance : ZerV Tryd.prog 54 (.agg #[.int .i64 0, .slice none 0 0]) := ⟨by kernel_rfl⟩
instance : Zer Tryd.prog 54 [.int .i64 0, .slice none 0 0] := ⟨⟨(.agg #[.int .i64 0, .slice none 0 0] : Value), by kernel_rfl, rfl, List.all_eq_true.1 rfl⟩⟩
instance : Fld Tryd.prog 54 0 0 3 := ⟨⟨_, _, Tryd.underlying54, rfl, rfl, rfl⟩⟩
instance : Fld Tryd.prog 54 1 1 45 := ⟨⟨_, _, Tryd.underlying54, rfl, rfl, rfl⟩⟩
instance : Plc Tryd.prog 54 [(0, 1), (1, 1)] := ⟨⟨_, Tryd.underlying54, by kernel_rfl⟩⟩
instance : IsA Tryd.prog 56 true := ⟨⟨_, Tryd.underlying56, rfl⟩⟩
instance : Siz Tryd.prog 56 4 := ⟨by kernel_rfl⟩
instance : Byt Tryd.prog 56 48 := ⟨by kernel_rfl⟩
instance : ZerV Tryd.prog 56 (.agg #[.int .i64 0, .int .i64 0, .bool false, .slice none 0 0]) := ⟨by kernel_rfl⟩
instance : Zer Tryd.prog 56 [.int .i64 0, .int .i64 0, .bool false, .slice none 0 0] := ⟨⟨(.agg #[.int .i64 0, .int .i64 0, .bool false, .slice none 0 0] : Value), by kernel_rfl, rfl, List.all_eq_true.1 rfl⟩⟩
instance : Fld Tryd.prog 56 0 0 3 := ⟨⟨_, _, Tryd.underlying56, rfl, rfl, rfl⟩⟩
instance : Fld Tryd.prog 56 1 1 3 := ⟨⟨_, _, Tryd.underlying56, rfl, rfl, rfl⟩⟩
instance : Fld Tryd.prog 56 2 2 4 := ⟨⟨_, _, Tryd.underlying56, rfl, rfl, rfl⟩⟩
instance : Fld Tryd.prog 56 3 3 45 := ⟨⟨_, _, Tryd.underlying56, rfl, rfl, rfl⟩⟩
instance : Plc Tryd.prog 56 [(0, 1), (1, 1), (2, 1), (3, 1)] := ⟨⟨_, Tryd.underlying56, by kernel_rfl⟩⟩
instance : IsA Tryd.prog 57 true := ⟨⟨_, Tryd.underlying57, rfl⟩⟩
instance : Siz Tryd.prog 57 4 := ⟨by kernel_rfl⟩
instance : Byt Tryd.prog 57 48 := ⟨by kernel_rfl⟩
instance : ZerV Tryd.prog 57 (.agg #[.int .i64 0, .int .i64 0, .bool false, .slice none 0 0]) := ⟨by kernel_rfl⟩
instance : Zer Tryd.prog 57 [.int .i64 0, .int .i64 0, .bool false, .slice none 0 0] := ⟨⟨(.agg #[.int .i64 0, .int .i64 0, .bool false, .slice none 0 0] : Value), by kernel_rfl, rfl, List.all_eq_true.1 rfl⟩⟩
instance : Fld Tryd.prog 57 0 0 3 := ⟨⟨_, _, Tryd.underlying57, rfl, rfl, rfl⟩⟩
instance : Fld Tryd.prog 57 1 1 3 := ⟨⟨_, _, Tryd.underlying57, rfl, rfl, rfl⟩⟩
instance : Fld Tryd.prog 57 2 2 4 := ⟨⟨_, _, Tryd.underlying57, rfl, rfl, rfl⟩⟩
instance : Fld Tryd.prog 57 3 3 45 := ⟨⟨_, _, Tryd.underlying57, rfl, rfl, rfl⟩⟩
instance : Plc Tryd.prog 57 [(0, 1), (1, 1), (2, 1), (3, 1)] := ⟨⟨_, Tryd.underlying57, by kernel_rfl⟩⟩
instance : IsA Tryd.prog 59 true := ⟨⟨_, Tryd.underlying59, rfl⟩⟩
instance : Siz Tryd.prog 59 2 := ⟨by kernel_rfl⟩
instance : Byt Tryd.prog 59 16 := ⟨by kernel_rfl⟩
instance : ZerV Tryd.prog 59 (.agg #[.int .i64 0, .int .i64 0]) := ⟨by kernel_rfl⟩
instance : Zer Tryd.prog 59 [.int .i64 0, .int .i64 0] := ⟨⟨(.agg #[.int .i64 0, .int .i64 0] : Value), by kernel_rfl, rfl, List.all_eq_true.1 rfl⟩⟩
instance : Fld Tryd.prog 59 0 0 3 := ⟨⟨_, _, Tryd.underlying59, rfl, rfl, rfl⟩⟩
instance : Fld Tryd.prog 59 1 1 3 := ⟨⟨_, _, Tryd.underlying59, rfl, rfl, rfl⟩⟩
instance : Plc Tryd.prog 59 [(0, 1), (1, 1)] := ⟨⟨_, Tryd.underlying59, by kernel_rfl⟩⟩
instance : IsA Tryd.prog 60 true := ⟨⟨_, Tryd.underlying60, rfl⟩⟩
instance : Siz Tryd.prog 60 2 := ⟨by kernel_rfl⟩
instance : Byt Tryd.prog 60 16 := ⟨by kernel_rfl⟩
instance : ZerV Tryd.prog 60 (.agg #[.int .i64 0, .int .i64 0]) := ⟨by kernel_rfl⟩
instance : Zer Tryd.prog 60 [.int .i64 0, .int .i64 0] := ⟨⟨(.agg #[.int .i64 0, .int .i64 0] : Value), by kernel_rfl, rfl, List.all_eq_true.1 rfl⟩⟩
instance : Fld Tryd.prog 60 0 0 3 := ⟨⟨_, _, Tryd.underlying60, rfl, rfl, rfl⟩⟩
instance : Fld Tryd.prog 60 1 1 3 := ⟨⟨_, _, Tryd.underlying60, rfl, rfl, rfl⟩⟩
instance : Plc Tryd.prog 60 [(0, 1), (1, 1)] := ⟨⟨_, Tryd.underlying60, by kernel_rfl⟩⟩
instance : Und Tryd.prog 61 (.array 4 22) := ⟨Tryd.underlying61⟩
instance : IsA Tryd.prog 61 true := ⟨⟨_, Tryd.underlying61, rfl⟩⟩
instance : Siz Tryd.prog 61 4 := ⟨by kernel_rfl⟩
instance : Byt Tryd.prog 61 96 := ⟨by kernel_rfl⟩
instance : ZerV Tryd.prog 61 (.agg #[.slice none 0 0, .slice none 0 0, .slice none 0 0, .slice none 0 0]) := ⟨by kernel_rfl⟩
instance : Zer Tryd.prog 61 [.slice none 0 0, .slice none 0 0, .slice none 0 0, .slice none 0 0] := ⟨⟨(.agg #[.slice none 0 0, .slice none 0 0, .slice none 0 0, .slice none 0 0] : Value), by kernel_rfl, rfl, List.all_eq_true.1 rfl⟩⟩
instance : Und Tryd.prog 63 (.map 69 3) := ⟨Tryd.underlying63⟩
instance : IsA Tryd.prog 63 false := ⟨⟨_, Tryd.underlying63, rfl⟩⟩
instance : Siz Tryd.prog 63 1 := ⟨by kernel_rfl⟩
instance : Byt Tryd.prog 63 8 := ⟨by kernel_rfl⟩
instance : ZerV Tryd.prog 63 (.map none) := ⟨by kernel_rfl⟩
instance : Zer Tryd.prog 63 [.map none] := ⟨⟨(.map none : Value), by kernel_rfl, rfl, List.all_eq_true.1 rfl⟩⟩
instance : IsA Tryd.prog 64 false := ⟨⟨_, Tryd.underlying64, rfl⟩⟩
instance : Siz Tryd.prog 64 1 := ⟨by kernel_rfl⟩
instance : Byt Tryd.prog 64 8 := ⟨by kernel_rfl⟩
instance : ZerV Tryd.prog 64 (.nilFunc) := ⟨by kernel_rfl⟩
instance : Zer Tryd.prog 64 [.nilFunc] := ⟨⟨(.nilFunc : Value), by kernel_rfl, rfl, List.all_eq_true.1 rfl⟩⟩
instance : IsA Tryd.prog 65 false := ⟨⟨_, Tryd.underlying65, rfl⟩⟩
instance : Siz Tryd.prog 65 1 := ⟨by kernel_rfl⟩
instance : Byt Tryd.prog 65 8 := ⟨by kernel_rfl⟩
instance : ZerV Tryd.prog 65 (.nilFunc) := ⟨by kernel_rfl⟩
instance : Zer Tryd.prog 65 [.nilFunc] := ⟨⟨(.nilFunc : Value), by kernel_rfl, rfl, List.all_eq_true.1 rfl⟩⟩
instance : Und Tryd.prog 67 (.pointer 28) := ⟨Tryd.underlying67⟩
instance : IsA Tryd.prog 67 false := ⟨⟨_, Tryd.underlying67, rfl⟩⟩
instance : Siz Tryd.prog 67 1 := ⟨by kernel_rfl⟩
instance : Byt Tryd.prog 67 8 := ⟨by kernel_rfl⟩
instance : ZerV Tryd.prog 67 (.pointer none) := ⟨by kernel_rfl⟩
instance : Zer Tryd.prog 67 [.pointer none] := ⟨⟨(.pointer none : Value), by kernel_rfl, rfl, List.all_eq_true.1 rfl⟩⟩
instance : Und Tryd.prog 68 (.pointer 3) := ⟨Tryd.underlying68⟩
instance : IsA Tryd.prog 68 false := ⟨⟨_, Tryd.underlying68, rfl⟩⟩
instance : Siz Tryd.prog 68 1 := ⟨by kernel_rfl⟩
instance : Byt Tryd.prog 68 8 := ⟨by kernel_rfl⟩
instance : ZerV Tryd.prog 68 (.pointer none) := ⟨by kernel_rfl⟩
instance : Zer Tryd.prog 68 [.pointer none] := ⟨⟨(.pointer none : Value), by kernel_rfl, rfl, List.all_eq_true.1 rfl⟩⟩
instance : Und Tryd.prog 69 (.array 2 3) := ⟨Tryd.underlying69⟩
instance : IsA Tryd.prog 69 true := ⟨⟨_, Tryd.underlying69, rfl⟩⟩
instance : Siz Tryd.prog 69 2 := ⟨by kernel_rfl⟩
instance : Byt Tryd.prog 69 16 := ⟨by kernel_rfl⟩
instance : ZerV Tryd.prog 69 (.agg #[.int .i64 0, .int .i64 0]) := ⟨by kernel_rfl⟩
instance : Zer Tryd.prog 69 [.int .i64 0, .int .i64 0] := ⟨⟨(.agg #[.int .i64 0, .int .i64 0] : Value), by kernel_rfl, rfl, List.all_eq_true.1 rfl⟩⟩
instance : Und Tryd.prog 71 (.array 4 3) := ⟨Tryd.underlying71⟩
instance : IsA Tryd.prog 71 true := ⟨⟨_, Tryd.underlying71, rfl⟩⟩
instance : Siz Tryd.prog 71 4 := ⟨by kernel_rfl⟩
instance : Byt Tryd.prog 71 32 := ⟨by kernel_rfl⟩
instance : ZerV Tryd.prog 71 (.agg #[.int .i64 0, .int .i64 0, .int .i64 0, .int .i64 0]) := ⟨by kernel_rfl⟩
instance : Zer Tryd.prog 71 [.int .i64 0, .int .i64 0, .int .i64 0, .int .i64 0] := ⟨⟨(.agg #[.int .i64 0, .int .i64 0, .int .i64 0, .int .i64 0] : Value), by kernel_rfl, rfl, List.all_eq_true.1 rfl⟩⟩
instance : IsA Tryd.prog 74 false := ⟨⟨_, Tryd.underlying74, rfl⟩⟩
instance : Siz Tryd.prog 74 1 := ⟨by kernel_rfl⟩
instance : Byt Tryd.prog 74 8 := ⟨by kernel_rfl⟩
instance : ZerV Tryd.prog 74 (.nilFunc) := ⟨by kernel_rfl⟩
instance : Zer Tryd.prog 74 [.nilFunc] := ⟨⟨(.nilFunc : Value), by kernel_rfl, rfl, List.all_eq_true.1 rfl⟩⟩
instance : IsA Tryd.prog 76 false := ⟨⟨_, Tryd.underlying76, rfl⟩⟩
instance : Siz Tryd.prog 76 1 := ⟨by kernel_rfl⟩
instance : Byt Tryd.prog 76 8 := ⟨by kernel_rfl⟩
instance : ZerV Tryd.prog 76 (.nilFunc) := ⟨by kernel_rfl⟩
instance : Zer Tryd.prog 76 [.nilFunc] := ⟨⟨(.nilFunc : Value), by kernel_rfl, rfl, List.all_eq_true.1 rfl⟩⟩
instance : Und Tryd.prog 79 (.slice 4) := ⟨Tryd.underlying79⟩
instance : IsA Tryd.prog 79 false := ⟨⟨_, Tryd.underlying79, rfl⟩⟩
instance : Siz Tryd.prog 79 1 := ⟨by kernel_rfl⟩
instance : Byt Tryd.prog 79 24 := ⟨by kernel_rfl⟩
instance : ZerV Tryd.prog 79 (.slice none 0 0) := ⟨by kernel_rfl⟩
instance : Zer Tryd.prog 79 [.slice none 0 0] := ⟨⟨(.slice none 0 0 : Value), by kernel_rfl, rfl, List.all_eq_true.1 rfl⟩⟩
instance : Und Tryd.prog 82 (.map 9 4) := ⟨Tryd.underlying82⟩
instance : IsA Tryd.prog 82 false := ⟨⟨_, Tryd.underlying82, rfl⟩⟩
instance : Siz Tryd.prog 82 1 := ⟨by kernel_rfl⟩
instance : Byt Tryd.prog 82 8 := ⟨by kernel_rfl⟩
instance : ZerV Tryd.prog 82 (.map none) := ⟨by kernel_rfl⟩
instance : Zer Tryd.prog 82 [.map none] := ⟨⟨(.map none : Value), by kernel_rfl, rfl, List.all_eq_true.1 rfl⟩⟩
instance : IsA Tryd.prog 86 false := ⟨⟨_, Tryd.underlying86, rfl⟩⟩
instance : Siz Tryd.prog 86 1 := ⟨by kernel_rfl⟩
instance : Byt Tryd.prog 86 8 := ⟨by kernel_rfl⟩
instance : ZerV Tryd.prog 86 (.nilFunc) := ⟨by kernel_rfl⟩
instance : Zer Tryd.prog 86 [.nilFunc] := ⟨⟨(.nilFunc : Value), by kernel_rfl, rfl, List.all_eq_true.1 rfl⟩⟩
instance : IsA Tryd.prog 87 false := ⟨⟨_, Tryd.underlying87, rfl⟩⟩
instance : Siz Tryd.prog 87 1 := ⟨by kernel_rfl⟩
instance : Byt Tryd.prog 87 8 := ⟨by kernel_rfl⟩
instance : ZerV Tryd.prog 87 (.nilFunc) := ⟨by kernel_rfl⟩
instance : Zer Tryd.prog 87 [.nilFunc] := ⟨⟨(.nilFunc : Value), by kernel_rfl, rfl, List.all_eq_true.1 rfl⟩⟩
instance : IsA Tryd.prog 90 false := ⟨⟨_, Tryd.underlying90, rfl⟩⟩
instance : Siz Tryd.prog 90 1 := ⟨by kernel_rfl⟩
instance : Byt Tryd.prog 90 8 := ⟨by kernel_rfl⟩
instance : ZerV Tryd.prog 90 (.nilFunc) := ⟨by kernel_rfl⟩
instance : Zer Tryd.prog 90 [.nilFunc] := ⟨⟨(.nilFunc : Value), by kernel_rfl, rfl, List.all_eq_true.1 rfl⟩⟩
instance : IsA Tryd.prog 92 false := ⟨⟨_, Tryd.underlying92, rfl⟩⟩
instance : Siz Tryd.prog 92 1 := ⟨by kernel_rfl⟩
instance : Byt Tryd.prog 92 8 := ⟨by kernel_rfl⟩
instance : ZerV Tryd.prog 92 (.nilFunc) := ⟨by kernel_rfl⟩
instance : Zer Tryd.prog 92 [.nilFunc] := ⟨⟨(.nilFunc : Value), by kernel_rfl, rfl, List.all_eq_true.1 rfl⟩⟩
instance : IsA Tryd.prog 94 false := ⟨⟨_, Tryd.underlying94, rfl⟩⟩
instance : Siz Tryd.prog 94 1 := ⟨by kernel_rfl⟩
instance : Byt Tryd.prog 94 8 := ⟨by kernel_rfl⟩
instance : ZerV Tryd.prog 94 (.nilFunc) := ⟨by kernel_rfl⟩
instance : Zer Tryd.prog 94 [.nilFunc] := ⟨⟨(.nilFunc : Value), by kernel_rfl, rfl, List.all_eq_true.1 rfl⟩⟩
instance : IsA Tryd.prog 96 false := ⟨⟨_, Tryd.underlying96, rfl⟩⟩
instance : Siz Tryd.prog 96 1 := ⟨by kernel_rfl⟩
instance : Byt Tryd.prog 96 8 := ⟨by kernel_rfl⟩
instance : ZerV Tryd.prog 96 (.nilFunc) := ⟨by kernel_rfl⟩
instance : Zer Tryd.prog 96 [.nilFunc] := ⟨⟨(.nilFunc : Value), by kernel_rfl, rfl, List.all_eq_true.1 rfl⟩⟩
instance : IsA Tryd.prog 100 false := ⟨⟨_, Tryd.underlying100, rfl⟩⟩
instance : Siz Tryd.prog 100 1 := ⟨by kernel_rfl⟩
instance : Byt Tryd.prog 100 8 := ⟨by kernel_rfl⟩
instance : ZerV Tryd.prog 100 (.nilFunc) := ⟨by kernel_rfl⟩
instance : Zer Tryd.prog 100 [.nilFunc] := ⟨⟨(.nilFunc : Value), by kernel_rfl, rfl, List.all_eq_true.1 rfl⟩⟩
instance : IsA Tryd.prog 101 false := ⟨⟨_, Tryd.underlying101, rfl⟩⟩
instance : Siz Tryd.prog 101 1 := ⟨by kernel_rfl⟩
instance : Byt Tryd.prog 101 8 := ⟨by kernel_rfl⟩
instance : ZerV Tryd.prog 101 (.nilFunc) := ⟨by kernel_rfl⟩
instance : Zer Tryd.prog 101 [.nilFunc] := ⟨⟨(.nilFunc : Value), by kernel_rfl, rfl, List.all_eq_true.1 rfl⟩⟩
instance : Und Tryd.prog 102 (.pointer 37) := ⟨Tryd.underlying102⟩
instance : IsA Tryd.prog 102 false := ⟨⟨_, Tryd.underlying102, rfl⟩⟩
instance : Siz Tryd.prog 102 1 := ⟨by kernel_rfl⟩
instance : Byt Tryd.prog 102 8 := ⟨by kernel_rfl⟩
instance : ZerV Tryd.prog 102 (.pointer none) := ⟨by kernel_rfl⟩
instance : Zer Tryd.prog 102 [.pointer none] := ⟨⟨(.pointer none : Value), by kernel_rfl, rfl, List.all_eq_true.1 rfl⟩⟩
instance : IsA Tryd.prog 103 false := ⟨⟨_, Tryd.underlying103, rfl⟩⟩
instance : Siz Tryd.prog 103 1 := ⟨by kernel_rfl⟩
instance : Byt Tryd.prog 103 8 := ⟨by kernel_rfl⟩
instance : ZerV Tryd.prog 103 (.nilFunc) := ⟨by kernel_rfl⟩
instance : Zer Tryd.prog 103 [.nilFunc] := ⟨⟨(.nilFunc : Value), by kernel_rfl, rfl, List.all_eq_true.1 rfl⟩⟩
instance : Und Tryd.prog 104 (.pointer 40) := ⟨Tryd.underlying104⟩
instance : IsA Tryd.prog 104 false := ⟨⟨_, Tryd.underlying104, rfl⟩⟩
instance : Siz Tryd.prog 104 1 := ⟨by kernel_rfl⟩
instance : Byt Tryd.prog 104 8 := ⟨by kernel_rfl⟩
instance : ZerV Tryd.prog 104 (.pointer none) := ⟨by kernel_rfl⟩
instance : Zer Tryd.prog 104 [.pointer none] := ⟨⟨(.pointer none : Value), by kernel_rfl, rfl, List.all_eq_true.1 rfl⟩⟩
instance : Und Tryd.prog 105 (.pointer 57) := ⟨Tryd.underlying105⟩
instance : IsA Tryd.prog 105 false := ⟨⟨_, Tryd.underlying105, rfl⟩⟩
instance : Siz Tryd.prog 105 1 := ⟨by kernel_rfl⟩
instance : Byt Tryd.prog 105 8 := ⟨by kernel_rfl⟩
instance : ZerV Tryd.prog 105 (.pointer none) := ⟨by kernel_rfl⟩
instance : Zer Tryd.prog 105 [.pointer none] := ⟨⟨(.pointer none : Value), by kernel_rfl, rfl, List.all_eq_true.1 rfl⟩⟩
instance : IsA Tryd.prog 106 false := ⟨⟨_, Tryd.underlying106, rfl⟩⟩
instance : Siz Tryd.prog 106 1 := ⟨by kernel_rfl⟩
instance : Byt Tryd.prog 106 8 := ⟨by kernel_rfl⟩
instance : ZerV Tryd.prog 106 (.nilFunc) := ⟨by kernel_rfl⟩
instance : Zer Tryd.prog 106 [.nilFunc] := ⟨⟨(.nilFunc : Value), by kernel_rfl, rfl, List.all_eq_true.1 rfl⟩⟩
instance : IsA Tryd.prog 109 false := ⟨⟨_, Tryd.underlying109, rfl⟩⟩
instance : Siz Tryd.prog 109 1 := ⟨by kernel_rfl⟩
instance : Byt Tryd.prog 109 8 := ⟨by kernel_rfl⟩
instance : ZerV Tryd.prog 109 (.nilFunc) := ⟨by kernel_rfl⟩
instance : Zer Tryd.prog 109 [.nilFunc] := ⟨⟨(.nilFunc : Value), by kernel_rfl, rfl, List.all_eq_true.1 rfl⟩⟩
instance : IsA Tryd.prog 111 false := ⟨⟨_, Tryd.underlying111, rfl⟩⟩
instance : Siz Tryd.prog 111 1 := ⟨by kernel_rfl⟩
instance : Byt Tryd.prog 111 8 := ⟨by kernel_rfl⟩
instance : ZerV Tryd.prog 111 (.nilFunc) := ⟨by kernel_rfl⟩
instance : Zer Tryd.prog 111 [.nilFunc] := ⟨⟨(.nilFunc : Value), by kernel_rfl, rfl, List.all_eq_true.1 rfl⟩⟩
instance : Und Tryd.prog 113 (.array 7 109) := ⟨Tryd.underlying113⟩
instance : IsA Tryd.prog 113 true := ⟨⟨_, Tryd.underlying113, rfl⟩⟩
instance : Siz Tryd.prog 113 7 := ⟨by kernel_rfl⟩
instance : Byt Tryd.prog 113 56 := ⟨by kernel_rfl⟩
instance : ZerV Tryd.prog 113 (.agg #[.nilFunc, .nilFunc, .nilFunc, .nilFunc, .nilFunc, .nilFunc, .nilFunc]) := ⟨by kernel_rfl⟩
instance : Zer Tryd.prog 113 [.nilFunc, .nilFunc, .nilFunc, .nilFunc, .nilFunc, .nilFunc, .nilFunc] := ⟨⟨(.agg #[.nilFunc, .nilFunc, .nilFunc, .nilFunc, .nilFunc, .nilFunc, .nilFunc] : Value), by kernel_rfl, rfl, List.all_eq_true.1 rfl⟩⟩
instance : IsA Tryd.prog 115 false := ⟨⟨_, Tryd.underlying115, rfl⟩⟩
instance : Siz Tryd.prog 115 1 := ⟨by kernel_rfl⟩
instance : Byt Tryd.prog 115 8 := ⟨by kernel_rfl⟩
instance : ZerV Tryd.prog 115 (.nilFunc) := ⟨by kernel_rfl⟩
instance : Zer Tryd.prog 115 [.nilFunc] := ⟨⟨(.nilFunc : Value), by kernel_rfl, rfl, List.all_eq_true.1 rfl⟩⟩
instance : IsA Tryd.prog 116 false := ⟨⟨_, Tryd.underlying116, rfl⟩⟩
instance : Siz Tryd.prog 116 1 := ⟨by kernel_rfl⟩
instance : Byt Tryd.prog 116 8 := ⟨by kernel_rfl⟩
instance : ZerV Tryd.prog 116 (.nilFunc) := ⟨by kernel_rfl⟩
instance : Zer Tryd.prog 116 [.nilFunc] := ⟨⟨(.nilFunc : Value), by kernel_rfl, rfl, List.all_eq_true.1 rfl⟩⟩
instance : IsA Tryd.prog 118 false := ⟨⟨_, Tryd.underlying118, rfl⟩⟩
instance : Siz Tryd.prog 118 1 := ⟨by kernel_rfl⟩
instance : Byt Tryd.prog 118 8 := ⟨by kernel_rfl⟩
instance : ZerV Tryd.prog 118 (.nilFunc) := ⟨by kernel_rfl⟩
instance : Zer Tryd.prog 118 [.nilFunc] := ⟨⟨(.nilFunc : Value), by kernel_rfl, rfl, List.all_eq_true.1 rfl⟩⟩
instance : IsA Tryd.prog 125 false := ⟨⟨_, Tryd.underlying125, rfl⟩⟩
instance : Siz Tryd.prog 125 1 := ⟨by kernel_rfl⟩
instance : Byt Tryd.prog 125 8 := ⟨by kernel_rfl⟩
instance : ZerV Tryd.prog 125 (.nilFunc) := ⟨by kernel_rfl⟩
instance : Zer Tryd.prog 125 [.nilFunc] := ⟨⟨(.nilFunc : Value), by kernel_rfl, rfl, List.all_eq_true.1 rfl⟩⟩
instance : Und Tryd.prog 129 (.array 256 5) := ⟨Tryd.underlying129⟩
instance : IsA Tryd.prog 129 true := ⟨⟨_, Tryd.underlying129, rfl⟩⟩
instance : Siz Tryd.prog 129 256 := ⟨by kernel_rfl⟩
instance : Byt Tryd.prog 129 256 := ⟨by kernel_rfl⟩
instance : Und Tryd.prog 130 (.int .u64) := ⟨Tryd.underlying130⟩
instance : IsA Tryd.prog 130 false := ⟨⟨_, Tryd.underlying130, rfl⟩⟩
instance : Siz Tryd.prog 130 1 := ⟨by kernel_rfl⟩
instance : Byt Tryd.prog 130 8 := ⟨by kernel_rfl⟩
instance : ZerV Tryd.prog 130 (.int .u64 0) := ⟨by kernel_rfl⟩
instance : Zer Tryd.prog 130 [.int .u64 0] := ⟨⟨(.int .u64 0 : Value), by kernel_rfl, rfl, List.all_eq_true.1 rfl⟩⟩
instance : IsA Tryd.prog 131 true := ⟨⟨_, Tryd.underlying131, rfl⟩⟩
instance : Siz Tryd.prog 131 2 := ⟨by kernel_rfl⟩
instance : Byt Tryd.prog 131 2 := ⟨by kernel_rfl⟩
instance : ZerV Tryd.prog 131 (.agg #[.int .u8 0, .int .u8 0]) := ⟨by kernel_rfl⟩
instance : Zer Tryd.prog 131 [.int .u8 0, .int .u8 0] := ⟨⟨(.agg #[.int .u8 0, .int .u8 0] : Value), by kernel_rfl, rfl, List.all_eq_true.1 rfl⟩⟩
instance : Fld Tryd.prog 131 0 0 5 := ⟨⟨_, _, Tryd.underlying131, rfl, rfl, rfl⟩⟩
instance : Fld Tryd.prog 131 1 1 5 := ⟨⟨_, _, Tryd.underlying131, rfl, rfl, rfl⟩⟩
instance : Plc Tryd.prog 131 [(0, 1), (1, 1)] := ⟨⟨_, Tryd.underlying131, by kernel_rfl⟩⟩
instance : IsA Tryd.prog 132 true := ⟨⟨_, Tryd.underlying132, rfl⟩⟩
instance : Siz Tryd.prog 132 2 := ⟨by kernel_rfl⟩
instance : Byt Tryd.prog 132 2 := ⟨by kernel_rfl⟩
instance : ZerV Tryd.prog 132 (.agg #[.int .u8 0, .int .u8 0]) := ⟨by kernel_rfl⟩
instance : Zer Tryd.prog 132 [.int .u8 0, .int .u8 0] := ⟨⟨(.agg #[.int .u8 0, .int .u8 0] : Value), by kernel_rfl, rfl, List.all_eq_true.1 rfl⟩⟩
instance : Fld Tryd.prog 132 0 0 5 := ⟨⟨_, _, Tryd.underlying132, rfl, rfl, rfl⟩⟩
instance : Fld Tryd.prog 132 1 1 5 := ⟨⟨_, _, Tryd.underlying132, rfl, rfl, rfl⟩⟩
instance : Plc Tryd.prog 132 [(0, 1), (1, 1)] := ⟨⟨_, Tryd.underlying132, by kernel_rfl⟩⟩
instance : Und Tryd.prog 133 (.array 16 132) := ⟨Tryd.underlying133⟩
instance : IsA Tryd.prog 133 true := ⟨⟨_, Tryd.underlying133, rfl⟩⟩
instance : Siz Tryd.prog 133 32 := ⟨by kernel_rfl⟩
instance : Byt Tryd.prog 133 32 := ⟨by kernel_rfl⟩
instance : Mixed Tryd.prog := ⟨by kernel_rfl⟩
theorem eqT36 (n : Nat) (w : World) (a b c d : Int) : (Op.equalIn (n + 2) 36 (.agg #[.int .i64 a, .int .i64 b]) (.agg #[.int .i64 c, .int .i64 d])).run Tryd.prog w = .ok (a == c && b == d) w := by
  rw [run_equalIn_struct w (n + 1) 36 _ _ (by kernel_rfl) (by kernel_rfl)]
  simp only [Program.fieldsOf, Tryd.underlying36]
  simp [Op.eqFields, part, run_equalIn_int _ n 3 .i64 .i64 _ _ Tryd.underlying3]
  by_cases h1 : a = c <;> by_cases h2 : b = d <;> simp [h1, h2]
instance : EqInts Tryd.prog 36 2 := .mk2 (by kernel_rfl) (eqT36 9998)
theorem eqT37 (n : Nat) (w : World) (a b c d : Int) : (Op.equalIn (n + 2) 37 (.agg #[.int .i64 a, .int .i64 b]) (.agg #[.int .i64 c, .int .i64 d])).run Tryd.prog w = .ok (a == c && b == d) w := by
  rw [run_equalIn_struct w (n + 1) 37 _ _ (by kernel_rfl) (by kernel_rfl)]
  simp only [Program.fieldsOf, Tryd.underlying37]
  simp [Op.eqFields, part, run_equalIn_int _ n 3 .i64 .i64 _ _ Tryd.underlying3]
  by_cases h1 : a = c <;> by_cases h2 : b = d <;> simp [h1, h2]
instance : EqInts Tryd.prog 37 2 := .mk2 (by kernel_rfl) (eqT37 9998)
instance : EqInts Tryd.prog 51 3 := .mk3 (by kernel_rfl) fun w a b c d e f => by
  rw [run_equalIn_struct w 9999 51 _ _ (by kernel_rfl) (by kernel_rfl)]
  simp only [Program.fieldsOf, Tryd.underlying51]
  simp [Op.eqFields, part, run_equalIn_int _ 9998 3 .i64 .i64 _ _ Tryd.underlying3, eqT37 9997]
  by_cases h1 : a = d <;> by_cases h2 : b = e <;> by_cases h3 : c = f <;> simp [h1, h2, h3]
instance : EqInts Tryd.prog 52 3 := .mk3 (by kernel_rfl) fun w a b c d e f => by
  rw [run_equalIn_struct w 9999 52 _ _ (by kernel_rfl) (by kernel_rfl)]
  simp only [Program.fieldsOf, Tryd.underlying52]
  simp [Op.eqFields, part, run_equalIn_int _ 9998 3 .i64 .i64 _ _ Tryd.underlying3, eqT37 9997]
  by_cases h1 : a = d <;> by_cases h2 : b = e <;> by_cases h3 : c = f <;> simp [h1, h2, h3]
theorem eqT59 (n : Nat) (w : World) (a b c d : Int) : (Op.equalIn (n + 2) 59 (.agg #[.int .i64 a, .int .i64 b]) (.agg #[.int .i64 c, .int .i64 d])).run Tryd.prog w = .ok (a == c && b == d) w := by
  rw [run_equalIn_struct w (n + 1) 59 _ _ (by kernel_rfl) (by kernel_rfl)]
  simp only [Program.fieldsOf, Tryd.underlying59]
  simp [Op.eqFields, part, run_equalIn_int _ n 3 .i64 .i64 _ _ Tryd.underlying3]
  by_cases h1 : a = c <;> by_cases h2 : b = d <;> simp [h1, h2]
instance : EqInts Tryd.prog 59 2 := .mk2 (by kernel_rfl) (eqT59 9998)
theorem eqT60 (n : Nat) (w : World) (a b c d : Int) : (Op.equalIn (n + 2) 60 (.agg #[.int .i64 a, .int .i64 b]) (.agg #[.int .i64 c, .int .i64 d])).run Tryd.prog w = .ok (a == c && b == d) w := by
  rw [run_equalIn_struct w (n + 1) 60 _ _ (by kernel_rfl) (by kernel_rfl)]
  simp only [Program.fieldsOf, Tryd.underlying60]
  simp [Op.eqFields, part, run_equalIn_int _ n 3 .i64 .i64 _ _ Tryd.underlying3]
  by_cases h1 : a = c <;> by_cases h2 : b = d <;> simp [h1, h2]
instance : EqInts Tryd.prog 60 2 := .mk2 (by kernel_rfl) (eqT60 9998)
theorem eqT69 (n : Nat) (w : World) (a b c d : Int) : (Op.equalIn (n + 2) 69 (.agg #[.int .i64 a, .int .i64 b]) (.agg #[.int .i64 c, .int .i64 d])).run Tryd.prog w = .ok (a == c && b == d) w := by
  rw [Op.equalIn]
  simp only [Sem.run_bind, Go.run_underlying Tryd.underlying69, Result.andThen_ok, Ab.run_sizeOf (P := Tryd.prog) (T := 3) (n := 1)]
  simp [part, run_equalIn_int _ n 3 .i64 .i64 _ _ Tryd.underlying3, Std.Legacy.Range.forIn_eq_forIn_range', List.range'_succ]
  by_cases h1 : a = c <;> by_cases h2 : b = d <;> simp [h1, h2]
instance : EqInts Tryd.prog 69 2 := .mk2 (by kernel_rfl) (eqT69 9998)
instance : Chk2 Tryd.prog 69 := ⟨fun e w a b => by kernel_rfl⟩
instance : Enters Tryd.prog 3 := ⟨⟨_, Tryd.func3, by kernel_rfl, by kernel_rfl⟩⟩
instance : Enters Tryd.prog 4 := ⟨⟨_, Tryd.func4, by kernel_rfl, by kernel_rfl⟩⟩
instance : Enters Tryd.prog 5 := ⟨⟨_, Tryd.func5, by kernel_rfl, by kernel_rfl⟩⟩
instance : Enters Tryd.prog 6 := ⟨⟨_, Tryd.func6, by kernel_rfl, by kernel_rfl⟩⟩
instance : Enters Tryd.prog 7 := ⟨⟨_, Tryd.func7, by kernel_rfl, by kernel_rfl⟩⟩
instance : Enters Tryd.prog 8 := ⟨⟨_, Tryd.func8, by kernel_rfl, by kernel_rfl⟩⟩
instance : Enters Tryd.prog 9 := ⟨⟨_, Tryd.func9, by kernel_rfl, by kernel_rfl⟩⟩
instance : Enters Tryd.prog 10 := ⟨⟨_, Tryd.func10, by kernel_rfl, by kernel_rfl⟩⟩
instance : Enters Tryd.prog 11 := ⟨⟨_, Tryd.func11, by kernel_rfl, by kernel_rfl⟩⟩
instance : Enters Tryd.prog 12 := ⟨⟨_, Tryd.func12, by kernel_rfl, by kernel_rfl⟩⟩
instance : Enters Tryd.prog 13 := ⟨⟨_, Tryd.func13, by kernel_rfl, by kernel_rfl⟩⟩
instance : Enters Tryd.prog 14 := ⟨⟨_, Tryd.func14, by kernel_rfl, by kernel_rfl⟩⟩
instance : Enters Tryd.prog 15 := ⟨⟨_, Tryd.func15, by kernel_rfl, by kernel_rfl⟩⟩
instance : Enters Tryd.prog 16 := ⟨⟨_, Tryd.func16, by kernel_rfl, by kernel_rfl⟩⟩
instance : Enters Tryd.prog 17 := ⟨⟨_, Tryd.func17, by kernel_rfl, by kernel_rfl⟩⟩
instance : Enters Tryd.prog 18 := ⟨⟨_, Tryd.func18, by kernel_rfl, by kernel_rfl⟩⟩
instance : Enters Tryd.prog 19 := ⟨⟨_, Tryd.func19, by kernel_rfl, by kernel_rfl⟩⟩
instance : Enters Tryd.prog 20 := ⟨⟨_, Tryd.func20, by kernel_rfl, by kernel_rfl⟩⟩
instance : Enters Tryd.prog 21 := ⟨⟨_, Tryd.func21, by kernel_rfl, by kernel_rfl⟩⟩
instance : Enters Tryd.prog 22 := ⟨⟨_, Tryd.func22, by kernel_rfl, by kernel_rfl⟩⟩
instance : Enters Tryd.prog 23 := ⟨⟨_, Tryd.func23, by kernel_rfl, by kernel_rfl⟩⟩
instance : Enters Tryd.prog 24 := ⟨⟨_, Tryd.func24, by kernel_rfl, by kernel_rfl⟩⟩
instance : Enters Tryd.prog 25 := ⟨⟨_, Tryd.func25, by kernel_rfl, by kernel_rfl⟩⟩
instance : Enters Tryd.prog 26 := ⟨⟨_, Tryd.func26, by kernel_rfl, by kernel_rfl⟩⟩
instance : Enters Tryd.prog 27 := ⟨⟨_, Tryd.func27, by kernel_rfl, by kernel_rfl⟩⟩
instance : Enters Tryd.prog 28 := ⟨⟨_, Tryd.func28, by kernel_rfl, by kernel_rfl⟩⟩
instance : Enters Tryd.prog 29 := ⟨⟨_, Tryd.func29, by kernel_rfl, by kernel_rfl⟩⟩
instance : Enters Tryd.prog 30 := ⟨⟨_, Tryd.func30, by kernel_rfl, by kernel_rfl⟩⟩
instance : Enters Tryd.prog 31 := ⟨⟨_, Tryd.func31, by kernel_rfl, by kernel_rfl⟩⟩
instance : Enters Tryd.prog 32 := ⟨⟨_, Tryd.func32, by kernel_rfl, by kernel_rfl⟩⟩
instance : Enters Tryd.prog 33 := ⟨⟨_, Tryd.func33, by kernel_rfl, by kernel_rfl⟩⟩
instance : Enters Tryd.prog 34 := ⟨⟨_, Tryd.func34, by kernel_rfl, by kernel_rfl⟩⟩
instance : Enters Tryd.prog 35 := ⟨⟨_, Tryd.func35, by kernel_rfl, by kernel_rfl⟩⟩
instance : Enters Tryd.prog 36 := ⟨⟨_, Tryd.func36, by kernel_rfl, by kernel_rfl⟩⟩
instance : Enters Tryd.prog 37 := ⟨⟨_, Tryd.func37, by kernel_rfl, by kernel_rfl⟩⟩
instance : Enters Tryd.prog 38 := ⟨⟨_, Tryd.func38, by kernel_rfl, by kernel_rfl⟩⟩
instance : Enters Tryd.prog 39 := ⟨⟨_, Tryd.func39, by kernel_rfl, by kernel_rfl⟩⟩
instance : Enters Tryd.prog 40 := ⟨⟨_, Tryd.func40, by kernel_rfl, by kernel_rfl⟩⟩
instance : Enters Tryd.prog 41 := ⟨⟨_, Tryd.func41, by kernel_rfl, by kernel_rfl⟩⟩
instance : Enters Tryd.prog 42 := ⟨⟨_, Tryd.func42, by kernel_rfl, by kernel_rfl⟩⟩
instance : Enters Tryd.prog 43 := ⟨⟨_, Tryd.func43, by kernel_rfl, by kernel_rfl⟩⟩
instance : Enters Tryd.prog 44 := ⟨⟨_, Tryd.func44, by kernel_rfl, by kernel_rfl⟩⟩
instance : Enters Tryd.prog 45 := ⟨⟨_, Tryd.func45, by kernel_rfl, by kernel_rfl⟩⟩
instance : Enters Tryd.prog 46 := ⟨⟨_, Tryd.func46, by kernel_rfl, by kernel_rfl⟩⟩
instance : Enters Tryd.prog 47 := ⟨⟨_, Tryd.func47, by kernel_rfl, by kernel_rfl⟩⟩
instance : Enters Tryd.prog 48 := ⟨⟨_, Tryd.func48, by kernel_rfl, by kernel_rfl⟩⟩
instance : Enters Tryd.prog 49 := ⟨⟨_, Tryd.func49, by kernel_rfl, by kernel_rfl⟩⟩
instance : Enters Tryd.prog 50 := ⟨⟨_, Tryd.func50, by kernel_rfl, by kernel_rfl⟩⟩
instance : Enters Tryd.prog 51 := ⟨⟨_, Tryd.func51, by kernel_rfl, by kernel_rfl⟩⟩
instance : Enters Tryd.prog 52 := ⟨⟨_, Tryd.func52, by kernel_rfl, by kernel_rfl⟩⟩
instance : Enters Tryd.prog 53 := ⟨⟨_, Tryd.func53, by kernel_rfl, by kernel_rfl⟩⟩
instance : Enters Tryd.prog 54 := ⟨⟨_, Tryd.func54, by kernel_rfl, by kernel_rfl⟩⟩
instance : Enters Tryd.prog 55 := ⟨⟨_, Tryd.func55, by kernel_rfl, by kernel_rfl⟩⟩
instance : Enters Tryd.prog 56 := ⟨⟨_, Tryd.func56, by kernel_rfl, by kernel_rfl⟩⟩
instance : Enters Tryd.prog 57 := ⟨⟨_, Tryd.func57, by kernel_rfl, by kernel_rfl⟩⟩
instance : Enters Tryd.prog 58 := ⟨⟨_, Tryd.func58, by kernel_rfl, by kernel_rfl⟩⟩
instance : Enters Tryd.prog 59 := ⟨⟨_, Tryd.func59, by kernel_rfl, by kernel_rfl⟩⟩
instance : Enters Tryd.prog 60 := ⟨⟨_, Tryd.func60, by kernel_rfl, by kernel_rfl⟩⟩
instance : Enters Tryd.prog 61 := ⟨⟨_, Tryd.func61, by kernel_rfl, by kernel_rfl⟩⟩
instance : Enters Tryd.prog 62 := ⟨⟨_, Tryd.func62, by kernel_rfl, by kernel_rfl⟩⟩
instance : Enters Tryd.prog 63 := ⟨⟨_, Tryd.func63, by kernel_rfl, by kernel_rfl⟩⟩
instance : Enters Tryd.prog 64 := ⟨⟨_, Tryd.func64, by kernel_rfl, by kernel_rfl⟩⟩
instance : Enters Tryd.prog 65 := ⟨⟨_, Tryd.func65, by kernel_rfl, by kernel_rfl⟩⟩
instance : Enters Tryd.prog 66 := ⟨⟨_, Tryd.func66, by kernel_rfl, by kernel_rfl⟩⟩
instance : Enters Tryd.prog 67 := ⟨⟨_, Tryd.func67, by kernel_rfl, by kernel_rfl⟩⟩
instance : Enters Tryd.prog 68 := ⟨⟨_, Tryd.func68, by kernel_rfl, by kernel_rfl⟩⟩
instance : Enters Tryd.prog 69 := ⟨⟨_, Tryd.func69, by kernel_rfl, by kernel_rfl⟩⟩
instance : Enters Tryd.prog 70 := ⟨⟨_, Tryd.func70, by kernel_rfl, by kernel_rfl⟩⟩
instance : Enters Tryd.prog 71 := ⟨⟨_, Tryd.func71, by kernel_rfl, by kernel_rfl⟩⟩
instance : Enters Tryd.prog 72 := ⟨⟨_, Tryd.func72, by kernel_rfl, by kernel_rfl⟩⟩
instance : Enters Tryd.prog 73 := ⟨⟨_, Tryd.func73, by kernel_rfl, by kernel_rfl⟩⟩
instance : Enters Tryd.prog 74 := ⟨⟨_, Tryd.func74, by kernel_rfl, by kernel_rfl⟩⟩
instance : Enters Tryd.prog 75 := ⟨⟨_, Tryd.func75, by kernel_rfl, by kernel_rfl⟩⟩
instance : Enters Tryd.prog 76 := ⟨⟨_, Tryd.func76, by kernel_rfl, by kernel_rfl⟩⟩
instance : Enters Tryd.prog 77 := ⟨⟨_, Tryd.func77, by kernel_rfl, by kernel_rfl⟩⟩
instance : Enters Tryd.prog 78 := ⟨⟨_, Tryd.func78, by kernel_rfl, by kernel_rfl⟩⟩
instance : Enters Tryd.prog 79 := ⟨⟨_, Tryd.func79, by kernel_rfl, by kernel_rfl⟩⟩
instance : Enters Tryd.prog 80 := ⟨⟨_, Tryd.func80, by kernel_rfl, by kernel_rfl⟩⟩
instance : Enters Tryd.prog 81 := ⟨⟨_, Tryd.func81, by kernel_rfl, by kernel_rfl⟩⟩
instance : Enters Tryd.prog 82 := ⟨⟨_, Tryd.func82, by kernel_rfl, by kernel_rfl⟩⟩
instance : Enters Tryd.prog 83 := ⟨⟨_, Tryd.func83, by kernel_rfl, by kernel_rfl⟩⟩
instance : Enters Tryd.prog 84 := ⟨⟨_, Tryd.func84, by kernel_rfl, by kernel_rfl⟩⟩
instance : Enters Tryd.prog 85 := ⟨⟨_, Tryd.func85, by kernel_rfl, by kernel_rfl⟩⟩
instance : Enters Tryd.prog 86 := ⟨⟨_, Tryd.func86, by kernel_rfl, by kernel_rfl⟩⟩
instance : Enters Tryd.prog 87 := ⟨⟨_, Tryd.func87, by kernel_rfl, by kernel_rfl⟩⟩
instance : Enters Tryd.prog 88 := ⟨⟨_, Tryd.func88, by kernel_rfl, by kernel_rfl⟩⟩
end Go.Proofs
/- The walks of slices.EqualFunc and slices.Clone. Conditions: none. -/
set_option linter.unusedVariables false
set_option linter.unusedSimpArgs false
set_option maxRecDepth 10000
namespace Go.Proofs
open Go Go.Ab
open Go.H
theorem equalFuncOrd {f g : Bool} (l m : List Ord) (fv : AV) (q : Ord → Ord → Bool) (hp : ∀ a ∈ l, ∀ b ∈ m, FCall Tryd.prog fv [.agg (ordR a), .agg (ordR b)] [] (fun r h' => h' = [] ∧ r = bv (q a b))) (hl : l.length ≤ 4611686018427387904) (hm : m.length ≤ 4611686018427387904) : ACall Tryd.prog 24 [.list f 2 (l.map ordR), .list g 2 (m.map ordR), fv] [] (fun r h' => h' = [] ∧ r = bv (eqF q l m)) := by
  refine acall_of_aw Tryd.func24 rfl rfl rfl ?_
  refine aw_seq (aw_region ?_)
  refine qq rfl rfl (qr_assign rfl) ?_
  refine aops_nil (thn_n ?_)
  refine aw_seq ?_
  refine aw_seq (aw_region ?_)
  refine qq rfl rfl (qr_move rfl) ?_
  refine qq rfl rfl (qr_len_list rfl) ?_
  refine qq rfl rfl (qr_move rfl) ?_
  refine qq rfl rfl (qr_len_list rfl) ?_
  refine qq rfl rfl (qr_cmp rfl rfl rfl) ?_
  refine aops_nil (thn_n ?_)
  refine aw_cond rfl (fun hc14 => ?_) (fun hc14 => ?_)
  · refine aw_seq (aw_region ?_)
    refine qq rfl rfl (qr_assign rfl) ?_
    refine aops_nil (thn_n ?_)
    refine aw_ret ?_
    refine thn_r ?_
    have hne : (l.length == m.length) = false := beq_eq_false_iff_ne.2 fun q => by simp [q] at hc14
    exact retq (.cons _ _ _ _ (.tmp _ _ rfl) .nil) (.refl _ _) ⟨rfl, by rw [eqF, hne, Bool.false_and]; rfl⟩
  · have hlm : l.length = m.length := by simp at hc14; omega
    refine aw_skip ?_
    refine thn_n ?_
    refine aw_seq ?_
    refine aw_seq (aw_region ?_)
    refine qq rfl rfl (qr_move rfl) ?_
    refine qq rfl rfl (qr_len_list rfl) ?_
    refine qq rfl rfl (qr_move rfl) ?_
    refine aops_nil (thn_n ?_)
    refine aw_block ?_
    refine aw_loop' (fun k : Nat => k ≤ l.length ∧ zall q l m = zall q (l.drop k) (m.drop k)) (fun k => ⟨[(17, iv k), (16, iv (l.map ordR).length), (15, .list f 2 (l.map ordR)), (1, .list g 2 (m.map ordR)), (2, fv)], [], []⟩) (fun k => l.length - k) 0 ⟨Nat.zero_le _, by simp⟩
      (ent_sub (.cons _ _ _ rfl (.cons _ _ _ rfl (.cons _ _ _ rfl (.cons _ _ _ rfl (.cons _ _ _ rfl (.nil))))))) ?_
    rintro k ⟨hk, hz⟩
    refine aw_seq (aw_region ?_)
    refine qq rfl rfl (qr_cmp rfl rfl rfl) ?_
    refine aops_nil (thn_n ?_)
    refine aw_seq ?_
    refine aw_cond rfl (fun hc18 => ?_) (fun hc18 => ?_)
    · have hk2 : k < l.length := by simpa using hc18
      have hk3 : k < m.length := by omega
      have hrow1 : (l.map ordR)[k]? = some (ordR l[k]) := by simp [hk2]
      have hrow2 : (m.map ordR)[k]? = some (ordR m[k]) := by simp [hk3]
      have hd1 := List.drop_eq_getElem_cons hk2
      have hd2 := List.drop_eq_getElem_cons hk3
      refine aw_skip ?_
      refine thn_n ?_
      refine aw_seq ?_
      refine aw_block ?_
      refine aw_seq (aw_region ?_)
      refine qq rfl rfl (qr_move rfl) ?_
      refine qq rfl rfl (qr_index_list rfl rfl (by assumption)) ?_
      first | refine qq rfl rfl (qr_load_all rfl rfl) ?_ | refine qq rfl rfl (qr_load_pp_all rfl rfl) ?_ | refine qq rfl rfl (qr_load_agg rfl (Nat.le_of_ble_eq_true rfl)) ?_ | refine qq rfl rfl (qr_load_pp_agg rfl (Nat.le_of_ble_eq_true rfl)) ?_
      refine aops_e rfl (oe_alloc rfl fun b8 => ?_)
      refine qq rfl rfl (qr_assign rfl) ?_
      first | refine aops_e rfl (oe_store_all rfl rfl rfl ?_) | refine aops_e rfl (oe_store rfl rfl rfl rfl (Nat.le_of_ble_eq_true rfl) ?_)
      refine aops_nil (thn_n ?_)
      refine aw_seq (aw_region ?_)
      refine qq rfl rfl (qr_move rfl) ?_
      refine qq rfl rfl (qr_move rfl) ?_
      refine qq rfl rfl (qr_index_list rfl rfl (by assumption)) ?_
      first | refine qq rfl rfl (qr_load_all rfl rfl) ?_ | refine qq rfl rfl (qr_load_pp_all rfl rfl) ?_ | refine qq rfl rfl (qr_load_agg rfl (Nat.le_of_ble_eq_true rfl)) ?_ | refine qq rfl rfl (qr_load_pp_agg rfl (Nat.le_of_ble_eq_true rfl)) ?_
      refine aops_e rfl (oe_alloc rfl fun b9 => ?_)
      first | refine aops_e rfl (oe_store_all rfl rfl rfl ?_) | refine aops_e rfl (oe_store rfl rfl rfl rfl (Nat.le_of_ble_eq_true rfl) ?_)
      refine aops_nil (thn_n ?_)
      refine aw_seq (aw_region ?_)
      refine qq rfl rfl (qr_move rfl) ?_
      first | refine qq rfl rfl (qr_load_all rfl rfl) ?_ | refine qq rfl rfl (qr_load_pp_all rfl rfl) ?_ | refine qq rfl rfl (qr_load_agg rfl (Nat.le_of_ble_eq_true rfl)) ?_ | refine qq rfl rfl (qr_load_pp_agg rfl (Nat.le_of_ble_eq_true rfl)) ?_
      first | refine qq rfl rfl (qr_load_all rfl rfl) ?_ | refine qq rfl rfl (qr_load_pp_all rfl rfl) ?_ | refine qq rfl rfl (qr_load_agg rfl (Nat.le_of_ble_eq_true rfl)) ?_ | refine qq rfl rfl (qr_load_pp_agg rfl (Nat.le_of_ble_eq_true rfl)) ?_
      refine qv rfl rfl (qv_call rfl rfl (FCall.pure (R := fun x => x = bv (q l[k] m[k])) (hp l[k] (by simp) m[k] (by simp)))) ?_
      refine qq rfl rfl (qr_not rfl) ?_
      refine aops_nil (thn_n ?_)
      refine aw_cond rfl (fun hc30 => ?_) (fun hc30 => ?_)
      · refine aw_seq (aw_region ?_)
        refine qq rfl rfl (qr_assign rfl) ?_
        refine aops_nil (thn_n ?_)
        refine aw_ret ?_
        refine inBlk_r ?_
        refine thn_r ?_
        refine thn_r ?_
        refine inBlk_r ?_
        refine thn_r ?_
        exact retq (.cons _ _ _ _ (.tmp _ _ rfl) .nil) (.drop [_, _] _ _) ⟨rfl, by rw [eqF, hz, hd1, hd2, zall, show q l[k] m[k] = false from not_t hc30, Bool.false_and, Bool.and_false]; rfl⟩
      · refine aw_skip ?_
        refine inBlk_n ?_
        refine thn_n ?_
        refine aw_region ?_
        refine qq rfl rfl (qr_ari rfl rfl rfl (by omega)) ?_
        refine qq rfl rfl (qr_move rfl) ?_
        refine aops_nil (thn_n ?_)
        exact ⟨k + 1, ⟨by omega, by rw [hz, hd1, hd2, zall, show q l[k] m[k] = true from not_f hc30, Bool.true_and]⟩, (ent_trans (ent_drop (h1 := [_, _])) (ent_sub (.cons _ _ _ rfl (.cons _ _ _ rfl (.cons _ _ _ rfl (.cons _ _ _ rfl (.cons _ _ _ rfl (.nil)))))))), by omega⟩
    · have hk3 : k = l.length := by
        have : l.length ≤ k := by simpa using hc18
        omega
      refine aw_exit ?_
      refine thn_e ?_
      refine thn_e ?_
      refine inBlk_hit ?_
      refine thn_n ?_
      refine aw_seq (aw_region ?_)
      refine qq rfl rfl (qr_assign rfl) ?_
      refine aops_nil (thn_n ?_)
      refine aw_ret ?_
      exact retq (.cons _ _ _ _ (.tmp _ _ rfl) .nil) (.refl _ _) ⟨rfl, by rw [eqF, hz, hk3, List.drop_length, zall_nil, hlm, beq_self_eq_true]; rfl⟩
theorem equalFuncMat {f g : Bool} (l m : List Mat) (fv : AV) (q : Mat → Mat → Bool) (hp : ∀ a ∈ l, ∀ b ∈ m, FCall Tryd.prog fv [.agg (matR a), .agg (matR b)] [] (fun r h' => h' = [] ∧ r = bv (q a b))) (hl : l.length ≤ 4611686018427387904) (hm : m.length ≤ 4611686018427387904) : ACall Tryd.prog 26 [.list f 4 (l.map matR), .list g 4 (m.map matR), fv] [] (fun r h' => h' = [] ∧ r = bv (eqF q l m)) := by
  refine acall_of_aw Tryd.func26 rfl rfl rfl ?_
  refine aw_seq (aw_region ?_)
  refine qq rfl rfl (qr_assign rfl) ?_
  refine aops_nil (thn_n ?_)
  refine aw_seq ?_
  refine aw_seq (aw_region ?_)
  refine qq rfl rfl (qr_move rfl) ?_
  refine qq rfl rfl (qr_len_list rfl) ?_
  refine qq rfl rfl (qr_move rfl) ?_
  refine qq rfl rfl (qr_len_list rfl) ?_
  refine qq rfl rfl (qr_cmp rfl rfl rfl) ?_
  refine aops_nil (thn_n ?_)
  refine aw_cond rfl (fun hc14 => ?_) (fun hc14 => ?_)
  · refine aw_seq (aw_region ?_)
    refine qq rfl rfl (qr_assign rfl) ?_
    refine aops_nil (thn_n ?_)
    refine aw_ret ?_
    refine thn_r ?_
    have hne : (l.length == m.length) = false := beq_eq_false_iff_ne.2 fun q => by simp [q] at hc14
    exact retq (.cons _ _ _ _ (.tmp _ _ rfl) .nil) (.refl _ _) ⟨rfl, by rw [eqF, hne, Bool.false_and]; rfl⟩
  · have hlm : l.length = m.length := by simp at hc14; omega
    refine aw_skip ?_
    refine thn_n ?_
    refine aw_seq ?_
    refine aw_seq (aw_region ?_)
    refine qq rfl rfl (qr_move rfl) ?_
    refine qq rfl rfl (qr_len_list rfl) ?_
    refine qq rfl rfl (qr_move rfl) ?_
    refine aops_nil (thn_n ?_)
    refine aw_block ?_
    refine aw_loop' (fun k : Nat => k ≤ l.length ∧ zall q l m = zall q (l.drop k) (m.drop k)) (fun k => ⟨[(17, iv k), (16, iv (l.map matR).length), (15, .list f 4 (l.map matR)), (1, .list g 4 (m.map matR)), (2, fv)], [], []⟩) (fun k => l.length - k) 0 ⟨Nat.zero_le _, by simp⟩
      (ent_sub (.cons _ _ _ rfl (.cons _ _ _ rfl (.cons _ _ _ rfl (.cons _ _ _ rfl (.cons _ _ _ rfl (.nil))))))) ?_
    rintro k ⟨hk, hz⟩
    refine aw_seq (aw_region ?_)
    refine qq rfl rfl (qr_cmp rfl rfl rfl) ?_
    refine aops_nil (thn_n ?_)
    refine aw_seq ?_
    refine aw_cond rfl (fun hc18 => ?_) (fun hc18 => ?_)
    · have hk2 : k < l.length := by simpa using hc18
      have hk3 : k < m.length := by omega
      have hrow1 : (l.map matR)[k]? = some (matR l[k]) := by simp [hk2]
      have hrow2 : (m.map matR)[k]? = some (matR m[k]) := by simp [hk3]
      have hd1 := List.drop_eq_getElem_cons hk2
      have hd2 := List.drop_eq_getElem_cons hk3
      refine aw_skip ?_
      refine thn_n ?_
      refine aw_seq ?_
      refine aw_block ?_
      refine aw_seq (aw_region ?_)
      refine qq rfl rfl (qr_move rfl) ?_
      refine qq rfl rfl (qr_index_list rfl rfl (by assumption)) ?_
      first | refine qq rfl rfl (qr_load_all rfl rfl) ?_ | refine qq rfl rfl (qr_load_pp_all rfl rfl) ?_ | refine qq rfl rfl (qr_load_agg rfl (Nat.le_of_ble_eq_true rfl)) ?_ | refine qq rfl rfl (qr_load_pp_agg rfl (Nat.le_of_ble_eq_true rfl)) ?_
      refine aops_e rfl (oe_alloc rfl fun b8 => ?_)
      refine qq rfl rfl (qr_assign rfl) ?_
      first | refine aops_e rfl (oe_store_all rfl rfl rfl ?_) | refine aops_e rfl (oe_store rfl rfl rfl rfl (Nat.le_of_ble_eq_true rfl) ?_)
      refine aops_nil (thn_n ?_)
      refine aw_seq (aw_region ?_)
      refine qq rfl rfl (qr_move rfl) ?_
      refine qq rfl rfl (qr_move rfl) ?_
      refine qq rfl rfl (qr_index_list rfl rfl (by assumption)) ?_
      first | refine qq rfl rfl (qr_load_all rfl rfl) ?_ | refine qq rfl rfl (qr_load_pp_all rfl rfl) ?_ | refine qq rfl rfl (qr_load_agg rfl (Nat.le_of_ble_eq_true rfl)) ?_ | refine qq rfl rfl (qr_load_pp_agg rfl (Nat.le_of_ble_eq_true rfl)) ?_
      refine aops_e rfl (oe_alloc rfl fun b9 => ?_)
      first | refine aops_e rfl (oe_store_all rfl rfl rfl ?_) | refine aops_e rfl (oe_store rfl rfl rfl rfl (Nat.le_of_ble_eq_true rfl) ?_)
      refine aops_nil (thn_n ?_)
      refine aw_seq (aw_region ?_)
      refine qq rfl rfl (qr_move rfl) ?_
      first | refine qq rfl rfl (qr_load_all rfl rfl) ?_ | refine qq rfl rfl (qr_load_pp_all rfl rfl) ?_ | refine qq rfl rfl (qr_load_agg rfl (Nat.le_of_ble_eq_true rfl)) ?_ | refine qq rfl rfl (qr_load_pp_agg rfl (Nat.le_of_ble_eq_true rfl)) ?_
      first | refine qq rfl rfl (qr_load_all rfl rfl) ?_ | refine qq rfl rfl (qr_load_pp_all rfl rfl) ?_ | refine qq rfl rfl (qr_load_agg rfl (Nat.le_of_ble_eq_true rfl)) ?_ | refine qq rfl rfl (qr_load_pp_agg rfl (Nat.le_of_ble_eq_true rfl)) ?_
      refine qv rfl rfl (qv_call rfl rfl (FCall.pure (R := fun x => x = bv (q l[k] m[k])) (hp l[k] (by simp) m[k] (by simp)))) ?_
      refine qq rfl rfl (qr_not rfl) ?_
      refine aops_nil (thn_n ?_)
      refine aw_cond rfl (fun hc30 => ?_) (fun hc30 => ?_)
      · refine aw_seq (aw_region ?_)
        refine qq rfl rfl (qr_assign rfl) ?_
        refine aops_nil (thn_n ?_)
        refine aw_ret ?_
        refine inBlk_r ?_
        refine thn_r ?_
        refine thn_r ?_
        refine inBlk_r ?_
        refine thn_r ?_
        exact retq (.cons _ _ _ _ (.tmp _ _ rfl) .nil) (.drop [_, _] _ _) ⟨rfl, by rw [eqF, hz, hd1, hd2, zall, show q l[k] m[k] = false from not_t hc30, Bool.false_and, Bool.and_false]; rfl⟩
      · refine aw_skip ?_
        refine inBlk_n ?_
        refine thn_n ?_
        refine aw_region ?_
        refine qq rfl rfl (qr_ari rfl rfl rfl (by omega)) ?_
        refine qq rfl rfl (qr_move rfl) ?_
        refine aops_nil (thn_n ?_)
        exact ⟨k + 1, ⟨by omega, by rw [hz, hd1, hd2, zall, show q l[k] m[k] = true from not_f hc30, Bool.true_and]⟩, (ent_trans (ent_drop (h1 := [_, _])) (ent_sub (.cons _ _ _ rfl (.cons _ _ _ rfl (.cons _ _ _ rfl (.cons _ _ _ rfl (.cons _ _ _ rfl (.nil)))))))), by omega⟩
    · have hk3 : k = l.length := by
        have : l.length ≤ k := by simpa using hc18
        omega
      refine aw_exit ?_
      refine thn_e ?_
      refine thn_e ?_
      refine inBlk_hit ?_
      refine thn_n ?_
      refine aw_seq (aw_region ?_)
      refine qq rfl rfl (qr_assign rfl) ?_
      refine aops_nil (thn_n ?_)
      refine aw_ret ?_
      exact retq (.cons _ _ _ _ (.tmp _ _ rfl) .nil) (.refl _ _) ⟨rfl, by rw [eqF, hz, hk3, List.drop_length, zall_nil, hlm, beq_self_eq_true]; rfl⟩
theorem equalFuncEv {f g : Bool} (l m : List Ev) (fv : AV) (q : Ev → Ev → Bool) (hp : ∀ a ∈ l, ∀ b ∈ m, FCall Tryd.prog fv [.agg (evR a), .agg (evR b)] [] (fun r h' => h' = [] ∧ r = bv (q a b))) (hl : l.length ≤ 4611686018427387904) (hm : m.length ≤ 4611686018427387904) : ACall Tryd.prog 29 [.list f 9 (l.map evR), .list g 9 (m.map evR), fv] [] (fun r h' => h' = [] ∧ r = bv (eqF q l m)) := by
  refine acall_of_aw Tryd.func29 rfl rfl rfl ?_
  refine aw_seq (aw_region ?_)
  refine qq rfl rfl (qr_assign rfl) ?_
  refine aops_nil (thn_n ?_)
  refine aw_seq ?_
  refine aw_seq (aw_region ?_)
  refine qq rfl rfl (qr_move rfl) ?_
  refine qq rfl rfl (qr_len_list rfl) ?_
  refine qq rfl rfl (qr_move rfl) ?_
  refine qq rfl rfl (qr_len_list rfl) ?_
  refine qq rfl rfl (qr_cmp rfl rfl rfl) ?_
  refine aops_nil (thn_n ?_)
  refine aw_cond rfl (fun hc14 => ?_) (fun hc14 => ?_)
  · refine aw_seq (aw_region ?_)
    refine qq rfl rfl (qr_assign rfl) ?_
    refine aops_nil (thn_n ?_)
    refine aw_ret ?_
    refine thn_r ?_
    have hne : (l.length == m.length) = false := beq_eq_false_iff_ne.2 fun q => by simp [q] at hc14
    exact retq (.cons _ _ _ _ (.tmp _ _ rfl) .nil) (.refl _ _) ⟨rfl, by rw [eqF, hne, Bool.false_and]; rfl⟩
  · have hlm : l.length = m.length := by simp at hc14; omega
    refine aw_skip ?_
    refine thn_n ?_
    refine aw_seq ?_
    refine aw_seq (aw_region ?_)
    refine qq rfl rfl (qr_move rfl) ?_
    refine qq rfl rfl (qr_len_list rfl) ?_
    refine qq rfl rfl (qr_move rfl) ?_
    refine aops_nil (thn_n ?_)
    refine aw_block ?_
    refine aw_loop' (fun k : Nat => k ≤ l.length ∧ zall q l m = zall q (l.drop k) (m.drop k)) (fun k => ⟨[(17, iv k), (16, iv (l.map evR).length), (15, .list f 9 (l.map evR)), (1, .list g 9 (m.map evR)), (2, fv)], [], []⟩) (fun k => l.length - k) 0 ⟨Nat.zero_le _, by simp⟩
      (ent_sub (.cons _ _ _ rfl (.cons _ _ _ rfl (.cons _ _ _ rfl (.cons _ _ _ rfl (.cons _ _ _ rfl (.nil))))))) ?_
    rintro k ⟨hk, hz⟩
    refine aw_seq (aw_region ?_)
    refine qq rfl rfl (qr_cmp rfl rfl rfl) ?_
    refine aops_nil (thn_n ?_)
    refine aw_seq ?_
    refine aw_cond rfl (fun hc18 => ?_) (fun hc18 => ?_)
    · have hk2 : k < l.length := by simpa using hc18
      have hk3 : k < m.length := by omega
      have hrow1 : (l.map evR)[k]? = some (evR l[k]) := by simp [hk2]
      have hrow2 : (m.map evR)[k]? = some (evR m[k]) := by simp [hk3]
      have hd1 := List.drop_eq_getElem_cons hk2
      have hd2 := List.drop_eq_getElem_cons hk3
      refine aw_skip ?_
      refine thn_n ?_
      refine aw_seq ?_
      refine aw_block ?_
      refine aw_seq (aw_region ?_)
      refine qq rfl rfl (qr_move rfl) ?_
      refine qq rfl rfl (qr_index_list rfl rfl (by assumption)) ?_
      first | refine qq rfl rfl (qr_load_all rfl rfl) ?_ | refine qq rfl rfl (qr_load_pp_all rfl rfl) ?_ | refine qq rfl rfl (qr_load_agg rfl (Nat.le_of_ble_eq_true rfl)) ?_ | refine qq rfl rfl (qr_load_pp_agg rfl (Nat.le_of_ble_eq_true rfl)) ?_
      refine aops_e rfl (oe_alloc rfl fun b8 => ?_)
      refine qq rfl rfl (qr_assign rfl) ?_
      first | refine aops_e rfl (oe_store_all rfl rfl rfl ?_) | refine aops_e rfl (oe_store rfl rfl rfl rfl (Nat.le_of_ble_eq_true rfl) ?_)
      refine aops_nil (thn_n ?_)
      refine aw_seq (aw_region ?_)
      refine qq rfl rfl (qr_move rfl) ?_
      refine qq rfl rfl (qr_move rfl) ?_
      refine qq rfl rfl (qr_index_list rfl rfl (by assumption)) ?_
      first | refine qq rfl rfl (qr_load_all rfl rfl) ?_ | refine qq rfl rfl (qr_load_pp_all rfl rfl) ?_ | refine qq rfl rfl (qr_load_agg rfl (Nat.le_of_ble_eq_true rfl)) ?_ | refine qq rfl rfl (qr_load_pp_agg rfl (Nat.le_of_ble_eq_true rfl)) ?_
      refine aops_e rfl (oe_alloc rfl fun b9 => ?_)
      first | refine aops_e rfl (oe_store_all rfl rfl rfl ?_) | refine aops_e rfl (oe_store rfl rfl rfl rfl (Nat.le_of_ble_eq_true rfl) ?_)
      refine aops_nil (thn_n ?_)
      refine aw_seq (aw_region ?_)
      refine qq rfl rfl (qr_move rfl) ?_
      first | refine qq rfl rfl (qr_load_all rfl rfl) ?_ | refine qq rfl rfl (qr_load_pp_all rfl rfl) ?_ | refine qq rfl rfl (qr_load_agg rfl (Nat.le_of_ble_eq_true rfl)) ?_ | refine qq rfl rfl (qr_load_pp_agg rfl (Nat.le_of_ble_eq_true rfl)) ?_
      first | refine qq rfl rfl (qr_load_all rfl rfl) ?_ | refine qq rfl rfl (qr_load_pp_all rfl rfl) ?_ | refine qq rfl rfl (qr_load_agg rfl (Nat.le_of_ble_eq_true rfl)) ?_ | refine qq rfl rfl (qr_load_pp_agg rfl (Nat.le_of_ble_eq_true rfl)) ?_
      refine qv rfl rfl (qv_call rfl rfl (FCall.pure (R := fun x => x = bv (q l[k] m[k])) (hp l[k] (by simp) m[k] (by simp)))) ?_
      refine qq rfl rfl (qr_not rfl) ?_
      refine aops_nil (thn_n ?_)
      refine aw_cond rfl (fun hc30 => ?_) (fun hc30 => ?_)
      · refine aw_seq (aw_region ?_)
        refine qq rfl rfl (qr_assign rfl) ?_
        refine aops_nil (thn_n ?_)
        refine aw_ret ?_
        refine inBlk_r ?_
        refine thn_r ?_
        refine thn_r ?_
        refine inBlk_r ?_
        refine thn_r ?_
        exact retq (.cons _ _ _ _ (.tmp _ _ rfl) .nil) (.drop [_, _] _ _) ⟨rfl, by rw [eqF, hz, hd1, hd2, zall, show q l[k] m[k] = false from not_t hc30, Bool.false_and, Bool.and_false]; rfl⟩
      · refine aw_skip ?_
        refine inBlk_n ?_
        refine thn_n ?_
        refine aw_region ?_
        refine qq rfl rfl (qr_ari rfl rfl rfl (by omega)) ?_
        refine qq rfl rfl (qr_move rfl) ?_
        refine aops_nil (thn_n ?_)
        exact ⟨k + 1, ⟨by omega, by rw [hz, hd1, hd2, zall, show q l[k] m[k] = true from not_f hc30, Bool.true_and]⟩, (ent_trans (ent_drop (h1 := [_, _])) (ent_sub (.cons _ _ _ rfl (.cons _ _ _ rfl (.cons _ _ _ rfl (.cons _ _ _ rfl (.cons _ _ _ rfl (.nil)))))))), by omega⟩
    · have hk3 : k = l.length := by
        have : l.length ≤ k := by simpa using hc18
        omega
      refine aw_exit ?_
      refine thn_e ?_
      refine thn_e ?_
      refine inBlk_hit ?_
      refine thn_n ?_
      refine aw_seq (aw_region ?_)
      refine qq rfl rfl (qr_assign rfl) ?_
      refine aops_nil (thn_n ?_)
      refine aw_ret ?_
      exact retq (.cons _ _ _ _ (.tmp _ _ rfl) .nil) (.refl _ _) ⟨rfl, by rw [eqF, hz, hk3, List.drop_length, zall_nil, hlm, beq_self_eq_true]; rfl⟩
theorem cloneInt {f : Bool} (rows : List (List AV)) (hl : rows.length ≤ 1099511627776) : ACall Tryd.prog 17 [.list f 1 rows] [] (fun r h' => h' = [] ∧ r = .list false 1 rows) := by
  refine acall_of_aw Tryd.func17 rfl rfl rfl ?_
  refine aw_seq (aw_region ?_)
  refine qq rfl rfl (qr_assign rfl) ?_
  refine aops_nil (thn_n ?_)
  refine aw_seq ?_
  refine aw_seq (aw_region ?_)
  refine qq rfl rfl (qr_move rfl) ?_
  refine aops_e rfl (oe_eqnil rfl rfl rfl fun b4 hb4 => ?_)
  refine aops_nil (thn_n ?_)
  refine aw_cond rfl (fun hc4 => ?_) (fun hc4 => ?_)
  · refine aw_seq (aw_region ?_)
    refine qq rfl rfl (qr_assign rfl) ?_
    refine aops_nil (thn_n ?_)
    refine aw_ret ?_
    refine thn_r ?_
    have h0 := hb4 hc4
    subst h0
    exact retq (.cons _ _ _ _ (.tmp _ _ rfl) .nil) (.le (Sb.nil _ _).le) ⟨rfl, rfl⟩
  · refine aw_skip ?_
    refine thn_n ?_
    refine aw_seq (aw_region ?_)
    refine qv rfl rfl (qv_buildSlice rfl rfl) ?_
    refine qq rfl rfl (qr_move rfl) ?_
    refine qv rfl rfl (qv_append rfl rfl (by simpa using hl)) ?_
    refine qq rfl rfl (qr_assign rfl) ?_
    refine aops_nil (thn_n ?_)
    refine aw_ret ?_
    exact retq (.cons _ _ _ _ (.tmp _ _ rfl) .nil) (.refl _ _) ⟨rfl, by rw [List.nil_append]; rfl⟩
theorem cloneRowInt {f : Bool} (rows : List (List AV)) (hl : rows.length ≤ 1099511627776) (hone : ∀ r ∈ rows, r.all AV.one = true) : ACall Tryd.prog 17 [.list f 1 rows] [] (fun r h' => ∃ s, h' = [.row s 1 3 rows] ∧ r = .v s) := by
  refine acall_of_aw Tryd.func17 rfl rfl rfl ?_
  refine aw_seq (aw_region ?_)
  refine qq rfl rfl (qr_assign rfl) ?_
  refine aops_nil (thn_n ?_)
  refine aw_seq ?_
  refine aw_seq (aw_region ?_)
  refine qq rfl rfl (qr_move rfl) ?_
  refine aops_e rfl (oe_eqnil rfl rfl rfl fun b4 hb4 => ?_)
  refine aops_nil (thn_n ?_)
  refine aw_cond rfl (fun hc4 => ?_) (fun hc4 => ?_)
  · refine aw_seq (aw_region ?_)
    refine qq rfl rfl (qr_assign rfl) ?_
    refine aops_nil (thn_n ?_)
    refine aw_ret ?_
    refine thn_r ?_
    have h0 := hb4 hc4
    subst h0
    exact retq (.cons _ _ _ _ (.tmp _ _ rfl) .nil) (vent_nilrow 1 3 _) ⟨_, rfl, rfl⟩
  · refine aw_skip ?_
    refine thn_n ?_
    refine aw_seq (aw_region ?_)
    refine aops_e rfl (oe_buildRow rfl rfl rfl fun s5 => ?_)
    refine qq rfl rfl (qr_move rfl) ?_
    refine aops_e rfl (oe_append_row rfl rfl (by simpa using hl) rfl (fun s7 => ?_) hone)
    refine qq rfl rfl (qr_assign rfl) ?_
    refine aops_nil (thn_n ?_)
    refine aw_ret ?_
    exact retq (.cons _ _ _ _ (.tmp _ _ rfl) .nil) (.refl _ _) ⟨_, by rw [List.nil_append], rfl⟩
theorem cloneStr {f : Bool} (rows : List (List AV)) (hl : rows.length ≤ 1099511627776) : ACall Tryd.prog 31 [.list f 1 rows] [] (fun r h' => h' = [] ∧ r = .list false 1 rows) := by
  refine acall_of_aw Tryd.func31 rfl rfl rfl ?_
  refine aw_seq (aw_region ?_)
  refine qq rfl rfl (qr_assign rfl) ?_
  refine aops_nil (thn_n ?_)
  refine aw_seq ?_
  refine aw_seq (aw_region ?_)
  refine qq rfl rfl (qr_move rfl) ?_
  refine aops_e rfl (oe_eqnil rfl rfl rfl fun b4 hb4 => ?_)
  refine aops_nil (thn_n ?_)
  refine aw_cond rfl (fun hc4 => ?_) (fun hc4 => ?_)
  · refine aw_seq (aw_region ?_)
    refine qq rfl rfl (qr_assign rfl) ?_
    refine aops_nil (thn_n ?_)
    refine aw_ret ?_
    refine thn_r ?_
    have h0 := hb4 hc4
    subst h0
    exact retq (.cons _ _ _ _ (.tmp _ _ rfl) .nil) (.le (Sb.nil _ _).le) ⟨rfl, rfl⟩
  · refine aw_skip ?_
    refine thn_n ?_
    refine aw_seq (aw_region ?_)
    refine qv rfl rfl (qv_buildSlice rfl rfl) ?_
    refine qq rfl rfl (qr_move rfl) ?_
    refine qv rfl rfl (qv_append rfl rfl (by simpa using hl)) ?_
    refine qq rfl rfl (qr_assign rfl) ?_
    refine aops_nil (thn_n ?_)
    refine aw_ret ?_
    exact retq (.cons _ _ _ _ (.tmp _ _ rfl) .nil) (.refl _ _) ⟨rfl, by rw [List.nil_append]; rfl⟩
theorem cloneRowStr {f : Bool} (rows : List (List AV)) (hl : rows.length ≤ 1099511627776) (hone : ∀ r ∈ rows, r.all AV.one = true) : ACall Tryd.prog 31 [.list f 1 rows] [] (fun r h' => ∃ s, h' = [.row s 1 9 rows] ∧ r = .v s) := by
  refine acall_of_aw Tryd.func31 rfl rfl rfl ?_
  refine aw_seq (aw_region ?_)
  refine qq rfl rfl (qr_assign rfl) ?_
  refine aops_nil (thn_n ?_)
  refine aw_seq ?_
  refine aw_seq (aw_region ?_)
  refine qq rfl rfl (qr_move rfl) ?_
  refine aops_e rfl (oe_eqnil rfl rfl rfl fun b4 hb4 => ?_)
  refine aops_nil (thn_n ?_)
  refine aw_cond rfl (fun hc4 => ?_) (fun hc4 => ?_)
  · refine aw_seq (aw_region ?_)
    refine qq rfl rfl (qr_assign rfl) ?_
    refine aops_nil (thn_n ?_)
    refine aw_ret ?_
    refine thn_r ?_
    have h0 := hb4 hc4
    subst h0
    exact retq (.cons _ _ _ _ (.tmp _ _ rfl) .nil) (vent_nilrow 1 9 _) ⟨_, rfl, rfl⟩
  · refine aw_skip ?_
    refine thn_n ?_
    refine aw_seq (aw_region ?_)
    refine aops_e rfl (oe_buildRow rfl rfl rfl fun s5 => ?_)
    refine qq rfl rfl (qr_move rfl) ?_
    refine aops_e rfl (oe_append_row rfl rfl (by simpa using hl) rfl (fun s7 => ?_) hone)
    refine qq rfl rfl (qr_assign rfl) ?_
    refine aops_nil (thn_n ?_)
    refine aw_ret ?_
    exact retq (.cons _ _ _ _ (.tmp _ _ rfl) .nil) (.refl _ _) ⟨_, by rw [List.nil_append], rfl⟩
theorem cloneSeen {f : Bool} (rows : List (List AV)) (hl : rows.length ≤ 1099511627776) : ACall Tryd.prog 16 [.list f 3 rows] [] (fun r h' => h' = [] ∧ r = .list false 3 rows) := by
  refine acall_of_aw Tryd.func16 rfl rfl rfl ?_
  refine aw_seq (aw_region ?_)
  refine qq rfl rfl (qr_assign rfl) ?_
  refine aops_nil (thn_n ?_)
  refine aw_seq ?_
  refine aw_seq (aw_region ?_)
  refine qq rfl rfl (qr_move rfl) ?_
  refine aops_e rfl (oe_eqnil rfl rfl rfl fun b4 hb4 => ?_)
  refine aops_nil (thn_n ?_)
  refine aw_cond rfl (fun hc4 => ?_) (fun hc4 => ?_)
  · refine aw_seq (aw_region ?_)
    refine qq rfl rfl (qr_assign rfl) ?_
    refine aops_nil (thn_n ?_)
    refine aw_ret ?_
    refine thn_r ?_
    have h0 := hb4 hc4
    subst h0
    exact retq (.cons _ _ _ _ (.tmp _ _ rfl) .nil) (.le (Sb.nil _ _).le) ⟨rfl, rfl⟩
  · refine aw_skip ?_
    refine thn_n ?_
    refine aw_seq (aw_region ?_)
    refine qv rfl rfl (qv_buildSlice rfl rfl) ?_
    refine qq rfl rfl (qr_move rfl) ?_
    refine qv rfl rfl (qv_append rfl rfl (by simpa using hl)) ?_
    refine qq rfl rfl (qr_assign rfl) ?_
    refine aops_nil (thn_n ?_)
    refine aw_ret ?_
    exact retq (.cons _ _ _ _ (.tmp _ _ rfl) .nil) (.refl _ _) ⟨rfl, by rw [List.nil_append]; rfl⟩
theorem cloneRowSeen {f : Bool} (rows : List (List AV)) (hl : rows.length ≤ 1099511627776) (hone : ∀ r ∈ rows, r.all AV.one = true) : ACall Tryd.prog 16 [.list f 3 rows] [] (fun r h' => ∃ s, h' = [.row s 3 52 rows] ∧ r = .v s) := by
  refine acall_of_aw Tryd.func16 rfl rfl rfl ?_
  refine aw_seq (aw_region ?_)
  refine qq rfl rfl (qr_assign rfl) ?_
  refine aops_nil (thn_n ?_)
  refine aw_seq ?_
  refine aw_seq (aw_region ?_)
  refine qq rfl rfl (qr_move rfl) ?_
  refine aops_e rfl (oe_eqnil rfl rfl rfl fun b4 hb4 => ?_)
  refine aops_nil (thn_n ?_)
  refine aw_cond rfl (fun hc4 => ?_) (fun hc4 => ?_)
  · refine aw_seq (aw_region ?_)
    refine qq rfl rfl (qr_assign rfl) ?_
    refine aops_nil (thn_n ?_)
    refine aw_ret ?_
    refine thn_r ?_
    have h0 := hb4 hc4
    subst h0
    exact retq (.cons _ _ _ _ (.tmp _ _ rfl) .nil) (vent_nilrow 3 52 _) ⟨_, rfl, rfl⟩
  · refine aw_skip ?_
    refine thn_n ?_
    refine aw_seq (aw_region ?_)
    refine aops_e rfl (oe_buildRow rfl rfl rfl fun s5 => ?_)
    refine qq rfl rfl (qr_move rfl) ?_
    refine aops_e rfl (oe_append_row rfl rfl (by simpa using hl) rfl (fun s7 => ?_) hone)
    refine qq rfl rfl (qr_assign rfl) ?_
    refine aops_nil (thn_n ?_)
    refine aw_ret ?_
    exact retq (.cons _ _ _ _ (.tmp _ _ rfl) .nil) (.refl _ _) ⟨_, by rw [List.nil_append], rfl⟩
theorem cloneEv {f : Bool} (rows : List (List AV)) (hl : rows.length ≤ 1099511627776) : ACall Tryd.prog 46 [.list f 9 rows] [] (fun r h' => h' = [] ∧ r = .list false 9 rows) := by
  refine acall_of_aw Tryd.func46 rfl rfl rfl ?_
  refine aw_seq (aw_region ?_)
  refine qq rfl rfl (qr_assign rfl) ?_
  refine aops_nil (thn_n ?_)
  refine aw_seq ?_
  refine aw_seq (aw_region ?_)
  refine qq rfl rfl (qr_move rfl) ?_
  refine aops_e rfl (oe_eqnil rfl rfl rfl fun b4 hb4 => ?_)
  refine aops_nil (thn_n ?_)
  refine aw_cond rfl (fun hc4 => ?_) (fun hc4 => ?_)
  · refine aw_seq (aw_region ?_)
    refine qq rfl rfl (qr_assign rfl) ?_
    refine aops_nil (thn_n ?_)
    refine aw_ret ?_
    refine thn_r ?_
    have h0 := hb4 hc4
    subst h0
    exact retq (.cons _ _ _ _ (.tmp _ _ rfl) .nil) (.le (Sb.nil _ _).le) ⟨rfl, rfl⟩
  · refine aw_skip ?_
    refine thn_n ?_
    refine aw_seq (aw_region ?_)
    refine qv rfl rfl (qv_buildSlice rfl rfl) ?_
    refine qq rfl rfl (qr_move rfl) ?_
    refine qv rfl rfl (qv_append rfl rfl (by simpa using hl)) ?_
    refine qq rfl rfl (qr_assign rfl) ?_
    refine aops_nil (thn_n ?_)
    refine aw_ret ?_
    exact retq (.cons _ _ _ _ (.tmp _ _ rfl) .nil) (.refl _ _) ⟨rfl, by rw [List.nil_append]; rfl⟩
theorem cloneRowEv {f : Bool} (rows : List (List AV)) (hl : rows.length ≤ 1099511627776) (hone : ∀ r ∈ rows, r.all AV.one = true) : ACall Tryd.prog 46 [.list f 9 rows] [] (fun r h' => ∃ s, h' = [.row s 9 40 rows] ∧ r = .v s) := by
  refine acall_of_aw Tryd.func46 rfl rfl rfl ?_
  refine aw_seq (aw_region ?_)
  refine qq rfl rfl (qr_assign rfl) ?_
  refine aops_nil (thn_n ?_)
  refine aw_seq ?_
  refine aw_seq (aw_region ?_)
  refine qq rfl rfl (qr_move rfl) ?_
  refine aops_e rfl (oe_eqnil rfl rfl rfl fun b4 hb4 => ?_)
  refine aops_nil (thn_n ?_)
  refine aw_cond rfl (fun hc4 => ?_) (fun hc4 => ?_)
  · refine aw_seq (aw_region ?_)
    refine qq rfl rfl (qr_assign rfl) ?_
    refine aops_nil (thn_n ?_)
    refine aw_ret ?_
    refine thn_r ?_
    have h0 := hb4 hc4
    subst h0
    exact retq (.cons _ _ _ _ (.tmp _ _ rfl) .nil) (vent_nilrow 9 40 _) ⟨_, rfl, rfl⟩
  · refine aw_skip ?_
    refine thn_n ?_
    refine aw_seq (aw_region ?_)
    refine aops_e rfl (oe_buildRow rfl rfl rfl fun s5 => ?_)
    refine qq rfl rfl (qr_move rfl) ?_
    refine aops_e rfl (oe_append_row rfl rfl (by simpa using hl) rfl (fun s7 => ?_) hone)
    refine qq rfl rfl (qr_assign rfl) ?_
    refine aops_nil (thn_n ?_)
    refine aw_ret ?_
    exact retq (.cons _ _ _ _ (.tmp _ _ rfl) .nil) (.refl _ _) ⟨_, by rw [List.nil_append], rfl⟩
theorem cloneOrd {f : Bool} (rows : List (List AV)) (hl : rows.length ≤ 1099511627776) : ACall Tryd.prog 47 [.list f 2 rows] [] (fun r h' => h' = [] ∧ r = .list false 2 rows) := by
  refine acall_of_aw Tryd.func47 rfl rfl rfl ?_
  refine aw_seq (aw_region ?_)
  refine qq rfl rfl (qr_assign rfl) ?_
  refine aops_nil (thn_n ?_)
  refine aw_seq ?_
  refine aw_seq (aw_region ?_)
  refine qq rfl rfl (qr_move rfl) ?_
  refine aops_e rfl (oe_eqnil rfl rfl rfl fun b4 hb4 => ?_)
  refine aops_nil (thn_n ?_)
  refine aw_cond rfl (fun hc4 => ?_) (fun hc4 => ?_)
  · refine aw_seq (aw_region ?_)
    refine qq rfl rfl (qr_assign rfl) ?_
    refine aops_nil (thn_n ?_)
    refine aw_ret ?_
    refine thn_r ?_
    have h0 := hb4 hc4
    subst h0
    exact retq (.cons _ _ _ _ (.tmp _ _ rfl) .nil) (.le (Sb.nil _ _).le) ⟨rfl, rfl⟩
  · refine aw_skip ?_
    refine thn_n ?_
    refine aw_seq (aw_region ?_)
    refine qv rfl rfl (qv_buildSlice rfl rfl) ?_
    refine qq rfl rfl (qr_move rfl) ?_
    refine qv rfl rfl (qv_append rfl rfl (by simpa using hl)) ?_
    refine qq rfl rfl (qr_assign rfl) ?_
    refine aops_nil (thn_n ?_)
    refine aw_ret ?_
    exact retq (.cons _ _ _ _ (.tmp _ _ rfl) .nil) (.refl _ _) ⟨rfl, by rw [List.nil_append]; rfl⟩
theorem cloneRowOrd {f : Bool} (rows : List (List AV)) (hl : rows.length ≤ 1099511627776) (hone : ∀ r ∈ rows, r.all AV.one = true) : ACall Tryd.prog 47 [.list f 2 rows] [] (fun r h' => ∃ s, h' = [.row s 2 54 rows] ∧ r = .v s) := by
  refine acall_of_aw Tryd.func47 rfl rfl rfl ?_
  refine aw_seq (aw_region ?_)
  refine qq rfl rfl (qr_assign rfl) ?_
  refine aops_nil (thn_n ?_)
  refine aw_seq ?_
  refine aw_seq (aw_region ?_)
  refine qq rfl rfl (qr_move rfl) ?_
  refine aops_e rfl (oe_eqnil rfl rfl rfl fun b4 hb4 => ?_)
  refine aops_nil (thn_n ?_)
  refine aw_cond rfl (fun hc4 => ?_) (fun hc4 => ?_)
  · refine aw_seq (aw_region ?_)
    refine qq rfl rfl (qr_assign rfl) ?_
    refine aops_nil (thn_n ?_)
    refine aw_ret ?_
    refine thn_r ?_
    have h0 := hb4 hc4
    subst h0
    exact retq (.cons _ _ _ _ (.tmp _ _ rfl) .nil) (vent_nilrow 2 54 _) ⟨_, rfl, rfl⟩
  · refine aw_skip ?_
    refine thn_n ?_
    refine aw_seq (aw_region ?_)
    refine aops_e rfl (oe_buildRow rfl rfl rfl fun s5 => ?_)
    refine qq rfl rfl (qr_move rfl) ?_
    refine aops_e rfl (oe_append_row rfl rfl (by simpa using hl) rfl (fun s7 => ?_) hone)
    refine qq rfl rfl (qr_assign rfl) ?_
    refine aops_nil (thn_n ?_)
    refine aw_ret ?_
    exact retq (.cons _ _ _ _ (.tmp _ _ rfl) .nil) (.refl _ _) ⟨_, by rw [List.nil_append], rfl⟩
theorem cloneMat {f : Bool} (rows : List (List AV)) (hl : rows.length ≤ 1099511627776) : ACall Tryd.prog 48 [.list f 4 rows] [] (fun r h' => h' = [] ∧ r = .list false 4 rows) := by
  refine acall_of_aw Tryd.func48 rfl rfl rfl ?_
  refine aw_seq (aw_region ?_)
  refine qq rfl rfl (qr_assign rfl) ?_
  refine aops_nil (thn_n ?_)
  refine aw_seq ?_
  refine aw_seq (aw_region ?_)
  refine qq rfl rfl (qr_move rfl) ?_
  refine aops_e rfl (oe_eqnil rfl rfl rfl fun b4 hb4 => ?_)
  refine aops_nil (thn_n ?_)
  refine aw_cond rfl (fun hc4 => ?_) (fun hc4 => ?_)
  · refine aw_seq (aw_region ?_)
    refine qq rfl rfl (qr_assign rfl) ?_
    refine aops_nil (thn_n ?_)
    refine aw_ret ?_
    refine thn_r ?_
    have h0 := hb4 hc4
    subst h0
    exact retq (.cons _ _ _ _ (.tmp _ _ rfl) .nil) (.le (Sb.nil _ _).le) ⟨rfl, rfl⟩
  · refine aw_skip ?_
    refine thn_n ?_
    refine aw_seq (aw_region ?_)
    refine qv rfl rfl (qv_buildSlice rfl rfl) ?_
    refine qq rfl rfl (qr_move rfl) ?_
    refine qv rfl rfl (qv_append rfl rfl (by simpa using hl)) ?_
    refine qq rfl rfl (qr_assign rfl) ?_
    refine aops_nil (thn_n ?_)
    refine aw_ret ?_
    exact retq (.cons _ _ _ _ (.tmp _ _ rfl) .nil) (.refl _ _) ⟨rfl, by rw [List.nil_append]; rfl⟩
theorem cloneRowMat {f : Bool} (rows : List (List AV)) (hl : rows.length ≤ 1099511627776) (hone : ∀ r ∈ rows, r.all AV.one = true) : ACall Tryd.prog 48 [.list f 4 rows] [] (fun r h' => ∃ s, h' = [.row s 4 57 rows] ∧ r = .v s) := by
  refine acall_of_aw Tryd.func48 rfl rfl rfl ?_
  refine aw_seq (aw_region ?_)
  refine qq rfl rfl (qr_assign rfl) ?_
  refine aops_nil (thn_n ?_)
  refine aw_seq ?_
  refine aw_seq (aw_region ?_)
  refine qq rfl rfl (qr_move rfl) ?_
  refine aops_e rfl (oe_eqnil rfl rfl rfl fun b4 hb4 => ?_)
  refine aops_nil (thn_n ?_)
  refine aw_cond rfl (fun hc4 => ?_) (fun hc4 => ?_)
  · refine aw_seq (aw_region ?_)
    refine qq rfl rfl (qr_assign rfl) ?_
    refine aops_nil (thn_n ?_)
    refine aw_ret ?_
    refine thn_r ?_
    have h0 := hb4 hc4
    subst h0
    exact retq (.cons _ _ _ _ (.tmp _ _ rfl) .nil) (vent_nilrow 4 57 _) ⟨_, rfl, rfl⟩
  · refine aw_skip ?_
    refine thn_n ?_
    refine aw_seq (aw_region ?_)
    refine aops_e rfl (oe_buildRow rfl rfl rfl fun s5 => ?_)
    refine qq rfl rfl (qr_move rfl) ?_
    refine aops_e rfl (oe_append_row rfl rfl (by simpa using hl) rfl (fun s7 => ?_) hone)
    refine qq rfl rfl (qr_assign rfl) ?_
    refine aops_nil (thn_n ?_)
    refine aw_ret ?_
    exact retq (.cons _ _ _ _ (.tmp _ _ rfl) .nil) (.refl _ _) ⟨_, by rw [List.nil_append], rfl⟩
theorem cloneWan {f : Bool} (rows : List (List AV)) (hl : rows.length ≤ 1099511627776) : ACall Tryd.prog 18 [.list f 2 rows] [] (fun r h' => h' = [] ∧ r = .list false 2 rows) := by
  refine acall_of_aw Tryd.func18 rfl rfl rfl ?_
  refine aw_seq (aw_region ?_)
  refine qq rfl rfl (qr_assign rfl) ?_
  refine aops_nil (thn_n ?_)
  refine aw_seq ?_
  refine aw_seq (aw_region ?_)
  refine qq rfl rfl (qr_move rfl) ?_
  refine aops_e rfl (oe_eqnil rfl rfl rfl fun b4 hb4 => ?_)
  refine aops_nil (thn_n ?_)
  refine aw_cond rfl (fun hc4 => ?_) (fun hc4 => ?_)
  · refine aw_seq (aw_region ?_)
    refine qq rfl rfl (qr_assign rfl) ?_
    refine aops_nil (thn_n ?_)
    refine aw_ret ?_
    refine thn_r ?_
    have h0 := hb4 hc4
    subst h0
    exact retq (.cons _ _ _ _ (.tmp _ _ rfl) .nil) (.le (Sb.nil _ _).le) ⟨rfl, rfl⟩
  · refine aw_skip ?_
    refine thn_n ?_
    refine aw_seq (aw_region ?_)
    refine qv rfl rfl (qv_buildSlice rfl rfl) ?_
    refine qq rfl rfl (qr_move rfl) ?_
    refine qv rfl rfl (qv_append rfl rfl (by simpa using hl)) ?_
    refine qq rfl rfl (qr_assign rfl) ?_
    refine aops_nil (thn_n ?_)
    refine aw_ret ?_
    exact retq (.cons _ _ _ _ (.tmp _ _ rfl) .nil) (.refl _ _) ⟨rfl, by rw [List.nil_append]; rfl⟩
theorem cloneRowWan {f : Bool} (rows : List (List AV)) (hl : rows.length ≤ 1099511627776) (hone : ∀ r ∈ rows, r.all AV.one = true) : ACall Tryd.prog 18 [.list f 2 rows] [] (fun r h' => ∃ s, h' = [.row s 2 60 rows] ∧ r = .v s) := by
  refine acall_of_aw Tryd.func18 rfl rfl rfl ?_
  refine aw_seq (aw_region ?_)
  refine qq rfl rfl (qr_assign rfl) ?_
  refine aops_nil (thn_n ?_)
  refine aw_seq ?_
  refine aw_seq (aw_region ?_)
  refine qq rfl rfl (qr_move rfl) ?_
  refine aops_e rfl (oe_eqnil rfl rfl rfl fun b4 hb4 => ?_)
  refine aops_nil (thn_n ?_)
  refine aw_cond rfl (fun hc4 => ?_) (fun hc4 => ?_)
  · refine aw_seq (aw_region ?_)
    refine qq rfl rfl (qr_assign rfl) ?_
    refine aops_nil (thn_n ?_)
    refine aw_ret ?_
    refine thn_r ?_
    have h0 := hb4 hc4
    subst h0
    exact retq (.cons _ _ _ _ (.tmp _ _ rfl) .nil) (vent_nilrow 2 60 _) ⟨_, rfl, rfl⟩
  · refine aw_skip ?_
    refine thn_n ?_
    refine aw_seq (aw_region ?_)
    refine aops_e rfl (oe_buildRow rfl rfl rfl fun s5 => ?_)
    refine qq rfl rfl (qr_move rfl) ?_
    refine aops_e rfl (oe_append_row rfl rfl (by simpa using hl) rfl (fun s7 => ?_) hone)
    refine qq rfl rfl (qr_assign rfl) ?_
    refine aops_nil (thn_n ?_)
    refine aw_ret ?_
    exact retq (.cons _ _ _ _ (.tmp _ _ rfl) .nil) (.refl _ _) ⟨_, by rw [List.nil_append], rfl⟩
end Go.Proofs
/- The walks of the law's cut and few. Conditions: none. -/
set_option linter.unusedVariables false
set_option linter.unusedSimpArgs false
set_option maxRecDepth 10000
namespace Go.Proofs
open Go Go.Ab
open Go.H
theorem cut {full : Bool} (l : List ByteArray) (most : Nat) (hm : most ≤ 1000) : ACall Tryd.prog 15 [.list full 1 (l.map strR), iv most] [] (fun r h' => h' = [] ∧ r = strsA (cutL most l)) := by
  refine acall_of_aw Tryd.func15 rfl rfl rfl ?_
  refine aw_seq (aw_region ?_)
  refine qq rfl rfl (qr_assign rfl) ?_
  refine aops_nil (thn_n ?_)
  refine aw_seq (aw_region ?_)
  refine qq rfl rfl (qr_move rfl) ?_
  refine qq rfl rfl (qr_move rfl) ?_
  first | refine qq rfl rfl (qr_len_list rfl) ?_ | refine qq rfl rfl (qr_len_row rfl) ?_
  refine qq rfl rfl (qr_move rfl) ?_
  refine qq rfl rfl (qr_minN (l.map strR).length most rfl rfl) ?_
  refine qq rfl rfl (qr_slice_hE (rows' := (l.take most).map strR) rfl rfl (by omega) (by rw [List.length_map]; exact take_min strR l most)) ?_
  refine aops_e rfl (oe_call rfl rfl (FCall.rowS (FCall.of_fun (cloneRowStr _ (by simp; omega) (one_str _)))) rfl ?_)
  rintro _ _ ⟨s, rfl, rfl⟩
  refine qq rfl rfl (qr_assign rfl) ?_
  refine aops_nil (thn_n ?_)
  refine aw_seq ?_
  refine aw_seq (aw_region ?_)
  refine qq rfl rfl (qr_move rfl) ?_
  first | refine qq rfl rfl (qr_len_list rfl) ?_ | refine qq rfl rfl (qr_len_row rfl) ?_
  refine qq rfl rfl (qr_move rfl) ?_
  refine aops_nil (thn_n ?_)
  refine aw_block ?_
  refine aw_loop' (fun k : Nat => k ≤ (l.take most).length) (fun k => ⟨[(17, iv k), (16, iv ((l.take most).map strR).length), (15, .v s.v), (5, .v s.v)], [.row s.v 1 9 ((((l.take most).take k).map cutS).map strR ++ ((l.take most).drop k).map strR)], []⟩) (fun k => (l.take most).length - k) 0 (by omega)
    (by simp only [List.take_zero, List.map_nil, List.nil_append, List.drop_zero]; exact (ent_sub (.cons _ _ _ rfl (.cons _ _ _ rfl (.cons _ _ _ rfl (.cons _ _ _ rfl (.nil))))))) ?_
  intro k hk
  refine aw_seq (aw_region ?_)
  refine qq rfl rfl (qr_cmp rfl rfl rfl) ?_
  refine aops_nil (thn_n ?_)
  refine aw_seq ?_
  refine aw_cond rfl (fun hc18 => ?_) (fun hc18 => ?_)
  · have hk2 : k < (l.take most).length := by simpa using hc18
    obtain ⟨b, hb⟩ : ∃ b, b = (l.take most)[k] := ⟨_, rfl⟩
    have hd := List.drop_eq_getElem_cons hk2
    rw [← hb] at hd
    have hL := List.length_take_le most l
    have hkl : (((l.take most).take k).map cutS).length = k := by rw [List.length_map, List.length_take]; omega
    have hrow := mid_get (f := strR) (g := strR) (xs := ((l.take most).take k).map cutS) (k := k) hkl hd
    have hk3 : k < ((((l.take most).take k).map cutS).map strR ++ ((l.take most).drop k).map strR).length := by rw [mid_len hkl hk]; exact hk2
    refine aw_skip ?_
    refine thn_n ?_
    refine aw_seq ?_
    refine aw_block ?_
    refine aw_seq (aw_region ?_)
    refine qq rfl rfl (qr_move rfl) ?_
    first | refine qq rfl rfl (qr_index_list rfl rfl (by assumption)) ?_ | refine qq rfl rfl (qr_index_row rfl rfl (by assumption)) ?_
    refine qq rfl rfl (qr_load_rp_one rfl hrow rfl) ?_
    refine qq rfl rfl (qr_assign rfl) ?_
    refine qq rfl rfl (qr_assign rfl) ?_
    refine aops_nil (thn_n ?_)
    refine aw_region ?_
    refine qq rfl rfl (qr_move rfl) ?_
    refine qq rfl rfl (qr_move rfl) ?_
    refine qq rfl rfl (qr_move rfl) ?_
    refine qq rfl rfl (qr_move rfl) ?_
    refine qq rfl rfl (qr_len_string rfl) ?_
    refine qq rfl rfl (qr_minN b.size 40 rfl rfl) ?_
    refine qq rfl rfl (qr_slice_string_h rfl rfl (by omega)) ?_
    first | refine qq rfl rfl (qr_index_list rfl rfl (by assumption)) ?_ | refine qq rfl rfl (qr_index_row rfl rfl (by assumption)) ?_
    refine aops_e rfl (oe_store_rp rfl rfl rfl hrow rfl (Nat.le_of_ble_eq_true rfl) ?_)
    refine aops_nil ?_
    refine inBlk_n ?_
    refine thn_n ?_
    refine aw_region ?_
    refine qq rfl rfl (qr_ari rfl rfl rfl (by omega)) ?_
    refine qq rfl rfl (qr_move rfl) ?_
    refine aops_nil (thn_n ?_)
    have hset := mid_set (f := strR) (g := strR) (l := (l.take most)) (xs := ((l.take most).take k).map cutS) (a := cutS b) (r := (strR b).take 0 ++ [sv (cutS b)] ++ (strR b).drop (0 + 1)) hkl hd rfl
    have hx : ((l.take most).take k).map cutS ++ [cutS b] = ((l.take most).take (k + 1)).map cutS := by rw [List.take_succ_eq_append_getElem hk2, hb]; simp
    rw [hx] at hset
    exact ⟨k + 1, by omega, (by rw [← hset]; exact (ent_sub (.cons _ _ _ rfl (.cons _ _ _ rfl (.cons _ _ _ rfl (.cons _ _ _ rfl (.nil))))))), by omega⟩
  · obtain rfl : k = (l.take most).length := by
      have : ¬ k < (l.take most).length := by simpa using hc18
      omega
    rw [List.take_length, List.drop_length, List.map_nil, List.append_nil]
    refine aw_exit ?_
    refine thn_e ?_
    refine thn_e ?_
    refine inBlk_hit ?_
    refine thn_n ?_
    refine aw_seq (aw_region ?_)
    refine qq rfl rfl (qr_move rfl) ?_
    refine qq rfl rfl (qr_assign rfl) ?_
    refine aops_nil (thn_n ?_)
    refine aw_ret ?_
    exact retq (.cons _ _ _ _ (.tmp _ _ rfl) .nil) vent_freeze ⟨rfl, rfl⟩
set_option maxHeartbeats 1000000 in
theorem few (h : Hist) (la : Lim 4611686018427387904 h) : ACall Tryd.prog 6 [.agg (histC h)] [] (fun r h' => h' = [] ∧ r = .agg (histC (fewH h))) := by
  refine acall_of_aw Tryd.func6 rfl rfl rfl ?_
  refine aw_seq (aw_region ?_)
  refine aops_e rfl (oe_box rfl rfl rfl fun b1 => ?_)
  refine aops_e rfl (oe_alloc rfl fun b2 => ?_)
  refine aops_nil (thn_n ?_)
  refine aw_cutE (fun _ : Nat => True) (fun b3 => ⟨[(1, .v (.pointer (some ⟨b1, 0, none⟩))), (2, .v (.pointer (some ⟨b2, 0, none⟩))), (3, .v (.pointer (some ⟨b3, 0, none⟩)))], [.box b3 28 [strsA (cutL 20 h.ts), strsA (cutL 10 h.ss), strsA (cutL 20 h.os), strsA (cutL 10 h.ps), nilA, nilA, nilA, nilA], .box b2 28 histZ, .box b1 28 (histC h)], []⟩) ?_ ?_
  · refine aw_draw 14 rfl ?_
    first | refine dq rfl rfl (qr_fieldAddr rfl (Nat.succ_ne_zero _)) ?_ | refine dq rfl rfl (qr_fieldAddr_pp rfl (Nat.succ_ne_zero _)) ?_ | refine dq rfl rfl (qr_fieldAddr_rp rfl (Nat.succ_ne_zero _)) ?_ | refine dq rfl rfl (qr_fieldAddr_row rfl (Nat.succ_ne_zero _)) ?_
    first | refine dq rfl rfl (qr_load_one rfl rfl) ?_ | refine dq rfl rfl (qr_load_pp_one rfl rfl) ?_ | refine dq rfl rfl (qr_load_rp_one rfl (by assumption) rfl) ?_
    refine dv rfl rfl (by exact qv_call rfl rfl (pcall (cut h.ts 20 (by decide)) (Sbs.refl _))) ?_
    first | refine dq rfl rfl (qr_fieldAddr rfl (Nat.succ_ne_zero _)) ?_ | refine dq rfl rfl (qr_fieldAddr_pp rfl (Nat.succ_ne_zero _)) ?_ | refine dq rfl rfl (qr_fieldAddr_rp rfl (Nat.succ_ne_zero _)) ?_ | refine dq rfl rfl (qr_fieldAddr_row rfl (Nat.succ_ne_zero _)) ?_
    first | refine dq rfl rfl (qr_load_one rfl rfl) ?_ | refine dq rfl rfl (qr_load_pp_one rfl rfl) ?_ | refine dq rfl rfl (qr_load_rp_one rfl (by assumption) rfl) ?_
    refine dv rfl rfl (by exact qv_call rfl rfl (pcall (cut h.ss 10 (by decide)) (Sbs.refl _))) ?_
    first | refine dq rfl rfl (qr_fieldAddr rfl (Nat.succ_ne_zero _)) ?_ | refine dq rfl rfl (qr_fieldAddr_pp rfl (Nat.succ_ne_zero _)) ?_ | refine dq rfl rfl (qr_fieldAddr_rp rfl (Nat.succ_ne_zero _)) ?_ | refine dq rfl rfl (qr_fieldAddr_row rfl (Nat.succ_ne_zero _)) ?_
    first | refine dq rfl rfl (qr_load_one rfl rfl) ?_ | refine dq rfl rfl (qr_load_pp_one rfl rfl) ?_ | refine dq rfl rfl (qr_load_rp_one rfl (by assumption) rfl) ?_
    refine dv rfl rfl (by exact qv_call rfl rfl (pcall (cut h.os 20 (by decide)) (Sbs.refl _))) ?_
    first | refine dq rfl rfl (qr_fieldAddr rfl (Nat.succ_ne_zero _)) ?_ | refine dq rfl rfl (qr_fieldAddr_pp rfl (Nat.succ_ne_zero _)) ?_ | refine dq rfl rfl (qr_fieldAddr_rp rfl (Nat.succ_ne_zero _)) ?_ | refine dq rfl rfl (qr_fieldAddr_row rfl (Nat.succ_ne_zero _)) ?_
    first | refine dq rfl rfl (qr_load_one rfl rfl) ?_ | refine dq rfl rfl (qr_load_pp_one rfl rfl) ?_ | refine dq rfl rfl (qr_load_rp_one rfl (by assumption) rfl) ?_
    refine dv rfl rfl (by exact qv_call rfl rfl (pcall (cut h.ps 10 (by decide)) (Sbs.refl _))) ?_
    refine dq rfl rfl (qr_build rfl (by rfl)) ?_
    refine da ?_
    refine dnil ⟨rfl, ?_⟩
    refine dalloc_s rfl ?_
    refine dalloc_s rfl ?_
    refine dalloc_s rfl ?_
    refine dalloc_s rfl ?_
    refine dalloc_s rfl ?_
    refine dalloc_s rfl ?_
    refine dalloc_s rfl ?_
    refine dalloc_s rfl ?_
    refine dalloc_s rfl ?_
    refine dalloc_s rfl ?_
    refine dalloc_s rfl ?_
    refine dalloc_s rfl ?_
    refine dalloc_s rfl ?_
    refine dalloc_a rfl fun b3 => ?_
    refine dalloc_nil ?_
    first | refine aops_e rfl (oe_store_all rfl rfl rfl ?_) | refine aops_e rfl (oe_store rfl rfl rfl rfl (Nat.le_of_ble_eq_true rfl) ?_)
    refine aops_nil (thn_n ?_)
    exact ⟨b3, trivial, (ent_sub (.cons _ _ _ rfl (.cons _ _ _ rfl (.cons _ _ _ rfl (.nil)))))⟩
  · intro b3 _
    refine aw_seq ?_
    refine aw_seq (aw_region ?_)
    first | refine qq rfl rfl (qr_fieldAddr rfl (Nat.succ_ne_zero _)) ?_ | refine qq rfl rfl (qr_fieldAddr_pp rfl (Nat.succ_ne_zero _)) ?_ | refine qq rfl rfl (qr_fieldAddr_rp rfl (Nat.succ_ne_zero _)) ?_ | refine qq rfl rfl (qr_fieldAddr_row rfl (Nat.succ_ne_zero _)) ?_
    first | refine qq rfl rfl (qr_load_one rfl rfl) ?_ | refine qq rfl rfl (qr_load_pp_one rfl rfl) ?_ | refine qq rfl rfl (qr_load_rp_one rfl (by assumption) rfl) ?_
    first | refine qq rfl rfl (qr_len_list rfl) ?_ | refine qq rfl rfl (qr_len_row rfl) ?_
    refine qq rfl rfl (qr_move rfl) ?_
    refine aops_nil (thn_n ?_)
    refine aw_block ?_
    refine aw_loop' (fun x : Nat × SV => x.1 ≤ h.evs.length) (fun x => ⟨[(26, iv x.1), (25, iv (h.evs.map evR).length), (24, evsA h.evs), (1, .v (.pointer (some ⟨b1, 0, none⟩))), (2, .v (.pointer (some ⟨b2, 0, none⟩))), (3, .v (.pointer (some ⟨b3, 0, none⟩)))], [.row x.2.v 9 40 (((h.evs.take (min x.1 80)).map cutE).map evR), .box b3 28 [strsA (cutL 20 h.ts), strsA (cutL 10 h.ss), strsA (cutL 20 h.os), strsA (cutL 10 h.ps), .v x.2.v, nilA, nilA, nilA], .box b2 28 histZ, .box b1 28 (histC h)], []⟩) (fun x => h.evs.length - x.1) (0, nilS) (by simp)
      (ent_trans (ent_nilrow 9 40) (ent_sub (.cons _ _ _ rfl (.cons _ _ _ rfl (.cons _ _ _ rfl (.cons _ _ _ rfl (.cons _ _ _ rfl (.cons _ _ _ rfl (.nil))))))))) ?_
    rintro ⟨k, s⟩ hk
    simp only at hk
    refine aw_seq (aw_region ?_)
    refine qq rfl rfl (qr_cmp rfl rfl rfl) ?_
    refine aops_nil (thn_n ?_)
    refine aw_seq ?_
    refine aw_cond rfl (fun hc27 => ?_) (fun hc27 => ?_)
    · have hk2 : k < h.evs.length := by simpa using hc27
      obtain ⟨e, he⟩ : ∃ e, e = h.evs[k] := ⟨_, rfl⟩
      have hrow : (h.evs.map evR)[k]? = some (evR e) := by rw [he]; simp [hk2]
      have hle := la.evs
      refine aw_skip ?_
      refine thn_n ?_
      refine aw_seq ?_
      refine aw_block ?_
      refine aw_seq (aw_region ?_)
      refine qq rfl rfl (qr_move rfl) ?_
      first | refine qq rfl rfl (qr_index_list rfl rfl (by assumption)) ?_ | refine qq rfl rfl (qr_index_row rfl rfl (by assumption)) ?_
      first | refine qq rfl rfl (qr_load_all rfl rfl) ?_ | refine qq rfl rfl (qr_load_pp_all rfl rfl) ?_ | refine qq rfl rfl (qr_load_agg rfl (Nat.le_of_ble_eq_true rfl)) ?_ | refine qq rfl rfl (qr_load_pp_agg rfl (Nat.le_of_ble_eq_true rfl)) ?_ | refine qq rfl rfl (qr_load_rp_all rfl (by assumption) rfl) ?_
      refine aops_e rfl (oe_alloc rfl fun b5 => ?_)
      refine qq rfl rfl (qr_assign rfl) ?_
      first | refine aops_e rfl (oe_store_all rfl rfl rfl ?_) | refine aops_e rfl (oe_store rfl rfl rfl rfl (Nat.le_of_ble_eq_true rfl) ?_)
      refine aops_nil (thn_n ?_)
      refine aw_seq (aw_region ?_)
      refine qq rfl rfl (qr_move rfl) ?_
      refine qq rfl rfl (qr_cmp rfl rfl rfl) ?_
      refine aops_nil (thn_n ?_)
      refine aw_cond rfl (fun hc32 => ?_) (fun hc32 => ?_)
      · have hlt : k < 80 := by have := hc32; simp at this; omega
        refine aw_seq (aw_region ?_)
        first | refine qq rfl rfl (qr_fieldAddr rfl (Nat.succ_ne_zero _)) ?_ | refine qq rfl rfl (qr_fieldAddr_pp rfl (Nat.succ_ne_zero _)) ?_ | refine qq rfl rfl (qr_fieldAddr_rp rfl (Nat.succ_ne_zero _)) ?_ | refine qq rfl rfl (qr_fieldAddr_row rfl (Nat.succ_ne_zero _)) ?_
        first | refine qq rfl rfl (qr_load_one rfl rfl) ?_ | refine qq rfl rfl (qr_load_pp_one rfl rfl) ?_ | refine qq rfl rfl (qr_load_rp_one rfl (by assumption) rfl) ?_
        first | refine qq rfl rfl (qr_fieldAddr rfl (Nat.succ_ne_zero _)) ?_ | refine qq rfl rfl (qr_fieldAddr_pp rfl (Nat.succ_ne_zero _)) ?_ | refine qq rfl rfl (qr_fieldAddr_rp rfl (Nat.succ_ne_zero _)) ?_ | refine qq rfl rfl (qr_fieldAddr_row rfl (Nat.succ_ne_zero _)) ?_
        first | refine qq rfl rfl (qr_load_one rfl rfl) ?_ | refine qq rfl rfl (qr_load_pp_one rfl rfl) ?_ | refine qq rfl rfl (qr_load_rp_one rfl (by assumption) rfl) ?_
        first | refine qq rfl rfl (qr_len_list rfl) ?_ | refine qq rfl rfl (qr_len_row rfl) ?_
        refine qq rfl rfl (qr_minN (e.scan.map seenR).length 41 rfl rfl) ?_
        refine qq rfl rfl (qr_slice_hE (rows' := (e.scan.take 41).map seenR) rfl rfl (by omega) (by rw [List.length_map]; exact take_min seenR e.scan 41)) ?_
        refine qv rfl rfl (qv_call rfl rfl (pcall (cloneSeen ((e.scan.take 41).map seenR) (by simp; omega)) (Sbs.refl _))) ?_
        first | refine qq rfl rfl (qr_fieldAddr rfl (Nat.succ_ne_zero _)) ?_ | refine qq rfl rfl (qr_fieldAddr_pp rfl (Nat.succ_ne_zero _)) ?_ | refine qq rfl rfl (qr_fieldAddr_rp rfl (Nat.succ_ne_zero _)) ?_ | refine qq rfl rfl (qr_fieldAddr_row rfl (Nat.succ_ne_zero _)) ?_
        first | refine aops_e rfl (oe_store_all rfl rfl rfl ?_) | refine aops_e rfl (oe_store rfl rfl rfl rfl (Nat.le_of_ble_eq_true rfl) ?_)
        refine aops_nil (thn_n ?_)
        refine aw_region ?_
        first | refine qq rfl rfl (qr_fieldAddr rfl (Nat.succ_ne_zero _)) ?_ | refine qq rfl rfl (qr_fieldAddr_pp rfl (Nat.succ_ne_zero _)) ?_ | refine qq rfl rfl (qr_fieldAddr_rp rfl (Nat.succ_ne_zero _)) ?_ | refine qq rfl rfl (qr_fieldAddr_row rfl (Nat.succ_ne_zero _)) ?_
        first | refine qq rfl rfl (qr_load_one rfl rfl) ?_ | refine qq rfl rfl (qr_load_pp_one rfl rfl) ?_ | refine qq rfl rfl (qr_load_rp_one rfl (by assumption) rfl) ?_
        first | refine qq rfl rfl (qr_load_all rfl rfl) ?_ | refine qq rfl rfl (qr_load_pp_all rfl rfl) ?_ | refine qq rfl rfl (qr_load_agg rfl (Nat.le_of_ble_eq_true rfl)) ?_ | refine qq rfl rfl (qr_load_pp_agg rfl (Nat.le_of_ble_eq_true rfl)) ?_ | refine qq rfl rfl (qr_load_rp_all rfl (by assumption) rfl) ?_
        refine qv rfl rfl (qv_buildSlice rfl rfl) ?_
        refine aops_e rfl (oe_append_row rfl rfl (by have := tk_len h.evs k 80; simp at this ⊢; omega) rfl (fun s46 => ?_) (fun r hr => by simp at hr; subst hr; rfl))
        refine aops_slice s46 fun sv hsv => ?_
        subst hsv
        first | refine qq rfl rfl (qr_fieldAddr rfl (Nat.succ_ne_zero _)) ?_ | refine qq rfl rfl (qr_fieldAddr_pp rfl (Nat.succ_ne_zero _)) ?_ | refine qq rfl rfl (qr_fieldAddr_rp rfl (Nat.succ_ne_zero _)) ?_ | refine qq rfl rfl (qr_fieldAddr_row rfl (Nat.succ_ne_zero _)) ?_
        first | refine aops_e rfl (oe_store_all rfl rfl rfl ?_) | refine aops_e rfl (oe_store rfl rfl rfl rfl (Nat.le_of_ble_eq_true rfl) ?_)
        refine aops_nil ?_
        refine inBlk_n ?_
        refine thn_n ?_
        refine aw_region ?_
        refine qq rfl rfl (qr_ari rfl rfl rfl (by omega)) ?_
        refine qq rfl rfl (qr_move rfl) ?_
        refine aops_nil (thn_n ?_)
        have hx : ((h.evs.take (min (k + 1) 80)).map cutE).map evR = ((h.evs.take (min k 80)).map cutE).map evR ++ [evR (cutE e)] := by rw [tk_go hk2 hlt he]; simp
        exact ⟨(k + 1, sv), by simp only; omega, (by rw [hx]; exact (ent_trans (ent_drop (h1 := [_])) (ent_sub (.cons _ _ _ rfl (.cons _ _ _ rfl (.cons _ _ _ rfl (.cons _ _ _ rfl (.cons _ _ _ rfl (.cons _ _ _ rfl (.nil)))))))))), by simp only; omega⟩
      · have hlt : ¬ k < 80 := by have := hc32; simp at this; omega
        refine aw_skip ?_
        refine inBlk_n ?_
        refine thn_n ?_
        refine aw_region ?_
        refine qq rfl rfl (qr_ari rfl rfl rfl (by omega)) ?_
        refine qq rfl rfl (qr_move rfl) ?_
        refine aops_nil (thn_n ?_)
        exact ⟨(k + 1, s), by simp only; omega, (by rw [tk_no hlt]; exact (ent_trans (ent_drop (h1 := [_])) (ent_sub (.cons _ _ _ rfl (.cons _ _ _ rfl (.cons _ _ _ rfl (.cons _ _ _ rfl (.cons _ _ _ rfl (.cons _ _ _ rfl (.nil)))))))))), by simp only; omega⟩
    · obtain rfl : k = h.evs.length := by
        have : ¬ k < h.evs.length := by simpa using hc27
        omega
      obtain ⟨sE, hsE⟩ : ∃ sE : SV, sE = s := ⟨_, rfl⟩
      simp only [tk_end, ← hsE]
      refine aw_exit ?_
      refine thn_e ?_
      refine thn_e ?_
      refine inBlk_hit ?_
      refine thn_n ?_
      refine aw_seq ?_
      refine aw_seq (aw_region ?_)
      first | refine qq rfl rfl (qr_fieldAddr rfl (Nat.succ_ne_zero _)) ?_ | refine qq rfl rfl (qr_fieldAddr_pp rfl (Nat.succ_ne_zero _)) ?_ | refine qq rfl rfl (qr_fieldAddr_rp rfl (Nat.succ_ne_zero _)) ?_ | refine qq rfl rfl (qr_fieldAddr_row rfl (Nat.succ_ne_zero _)) ?_
      first | refine qq rfl rfl (qr_load_one rfl rfl) ?_ | refine qq rfl rfl (qr_load_pp_one rfl rfl) ?_ | refine qq rfl rfl (qr_load_rp_one rfl (by assumption) rfl) ?_
      first | refine qq rfl rfl (qr_len_list rfl) ?_ | refine qq rfl rfl (qr_len_row rfl) ?_
      refine qq rfl rfl (qr_move rfl) ?_
      refine aops_nil (thn_n ?_)
      refine aw_block ?_
      refine aw_loop' (fun x : Nat × SV => x.1 ≤ h.ords.length) (fun x => ⟨[(52, iv x.1), (51, iv (h.ords.map ordR).length), (50, ordsA h.ords), (1, .v (.pointer (some ⟨b1, 0, none⟩))), (2, .v (.pointer (some ⟨b2, 0, none⟩))), (3, .v (.pointer (some ⟨b3, 0, none⟩)))], [.row x.2.v 2 54 (((h.ords.take (min x.1 20)).map cutO).map ordR), .row sE.v 9 40 (((h.evs.take 80).map cutE).map evR), .box b3 28 [strsA (cutL 20 h.ts), strsA (cutL 10 h.ss), strsA (cutL 20 h.os), strsA (cutL 10 h.ps), .v sE.v, .v x.2.v, nilA, nilA], .box b2 28 histZ, .box b1 28 (histC h)], []⟩) (fun x => h.ords.length - x.1) (0, nilS) (by simp)
        (ent_trans (ent_nilrow 2 54) (ent_sub (.cons _ _ _ rfl (.cons _ _ _ rfl (.cons _ _ _ rfl (.cons _ _ _ rfl (.cons _ _ _ rfl (.cons _ _ _ rfl (.nil))))))))) ?_
      rintro ⟨k, s⟩ hk
      simp only at hk
      refine aw_seq (aw_region ?_)
      refine qq rfl rfl (qr_cmp rfl rfl rfl) ?_
      refine aops_nil (thn_n ?_)
      refine aw_seq ?_
      refine aw_cond rfl (fun hc53 => ?_) (fun hc53 => ?_)
      · have hk2 : k < h.ords.length := by simpa using hc53
        obtain ⟨e, he⟩ : ∃ e, e = h.ords[k] := ⟨_, rfl⟩
        have hrow : (h.ords.map ordR)[k]? = some (ordR e) := by rw [he]; simp [hk2]
        have hle := la.ords
        refine aw_skip ?_
        refine thn_n ?_
        refine aw_seq ?_
        refine aw_block ?_
        refine aw_seq (aw_region ?_)
        refine qq rfl rfl (qr_move rfl) ?_
        first | refine qq rfl rfl (qr_index_list rfl rfl (by assumption)) ?_ | refine qq rfl rfl (qr_index_row rfl rfl (by assumption)) ?_
        first | refine qq rfl rfl (qr_load_all rfl rfl) ?_ | refine qq rfl rfl (qr_load_pp_all rfl rfl) ?_ | refine qq rfl rfl (qr_load_agg rfl (Nat.le_of_ble_eq_true rfl)) ?_ | refine qq rfl rfl (qr_load_pp_agg rfl (Nat.le_of_ble_eq_true rfl)) ?_ | refine qq rfl rfl (qr_load_rp_all rfl (by assumption) rfl) ?_
        refine aops_e rfl (oe_alloc rfl fun b7 => ?_)
        refine qq rfl rfl (qr_assign rfl) ?_
        first | refine aops_e rfl (oe_store_all rfl rfl rfl ?_) | refine aops_e rfl (oe_store rfl rfl rfl rfl (Nat.le_of_ble_eq_true rfl) ?_)
        refine aops_nil (thn_n ?_)
        refine aw_seq (aw_region ?_)
        refine qq rfl rfl (qr_move rfl) ?_
        refine qq rfl rfl (qr_cmp rfl rfl rfl) ?_
        refine aops_nil (thn_n ?_)
        refine aw_cond rfl (fun hc58 => ?_) (fun hc58 => ?_)
        · have hlt : k < 20 := by have := hc58; simp at this; omega
          refine aw_draw 14 rfl ?_
          first | refine dq rfl rfl (qr_fieldAddr rfl (Nat.succ_ne_zero _)) ?_ | refine dq rfl rfl (qr_fieldAddr_pp rfl (Nat.succ_ne_zero _)) ?_ | refine dq rfl rfl (qr_fieldAddr_rp rfl (Nat.succ_ne_zero _)) ?_ | refine dq rfl rfl (qr_fieldAddr_row rfl (Nat.succ_ne_zero _)) ?_
          first | refine dq rfl rfl (qr_load_one rfl rfl) ?_ | refine dq rfl rfl (qr_load_pp_one rfl rfl) ?_ | refine dq rfl rfl (qr_load_rp_one rfl (by assumption) rfl) ?_
          first | refine dq rfl rfl (qr_fieldAddr rfl (Nat.succ_ne_zero _)) ?_ | refine dq rfl rfl (qr_fieldAddr_pp rfl (Nat.succ_ne_zero _)) ?_ | refine dq rfl rfl (qr_fieldAddr_rp rfl (Nat.succ_ne_zero _)) ?_ | refine dq rfl rfl (qr_fieldAddr_row rfl (Nat.succ_ne_zero _)) ?_
          first | refine dq rfl rfl (qr_load_one rfl rfl) ?_ | refine dq rfl rfl (qr_load_pp_one rfl rfl) ?_ | refine dq rfl rfl (qr_load_rp_one rfl (by assumption) rfl) ?_
          first | refine dq rfl rfl (qr_fieldAddr rfl (Nat.succ_ne_zero _)) ?_ | refine dq rfl rfl (qr_fieldAddr_pp rfl (Nat.succ_ne_zero _)) ?_ | refine dq rfl rfl (qr_fieldAddr_rp rfl (Nat.succ_ne_zero _)) ?_ | refine dq rfl rfl (qr_fieldAddr_row rfl (Nat.succ_ne_zero _)) ?_
          first | refine dq rfl rfl (qr_load_one rfl rfl) ?_ | refine dq rfl rfl (qr_load_pp_one rfl rfl) ?_ | refine dq rfl rfl (qr_load_rp_one rfl (by assumption) rfl) ?_
          first | refine dq rfl rfl (qr_fieldAddr rfl (Nat.succ_ne_zero _)) ?_ | refine dq rfl rfl (qr_fieldAddr_pp rfl (Nat.succ_ne_zero _)) ?_ | refine dq rfl rfl (qr_fieldAddr_rp rfl (Nat.succ_ne_zero _)) ?_ | refine dq rfl rfl (qr_fieldAddr_row rfl (Nat.succ_ne_zero _)) ?_
          first | refine dq rfl rfl (qr_load_one rfl rfl) ?_ | refine dq rfl rfl (qr_load_pp_one rfl rfl) ?_ | refine dq rfl rfl (qr_load_rp_one rfl (by assumption) rfl) ?_
          first | refine dq rfl rfl (qr_len_list rfl) ?_ | refine dq rfl rfl (qr_len_row rfl) ?_
          refine dq rfl rfl (qr_minN (e.ts.map intR).length 20 rfl rfl) ?_
          refine dq rfl rfl (qr_slice_hE (rows' := (e.ts.take 20).map intR) rfl rfl (by omega) (by rw [List.length_map]; exact take_min intR e.ts 20)) ?_
          refine dv rfl rfl (by exact qv_call rfl rfl (pcall (cloneInt ((e.ts.take 20).map intR) (by simp; omega)) (Sbs.refl _))) ?_
          refine dq rfl rfl (qr_build rfl (by rfl)) ?_
          refine dv rfl rfl (qv_buildSlice rfl rfl) ?_
          refine dnil ⟨rfl, ?_⟩
          refine dalloc_s rfl ?_
          refine dalloc_s rfl ?_
          refine dalloc_s rfl ?_
          refine dalloc_s rfl ?_
          refine dalloc_s rfl ?_
          refine dalloc_s rfl ?_
          refine dalloc_s rfl ?_
          refine dalloc_s rfl ?_
          refine dalloc_s rfl ?_
          refine dalloc_s rfl ?_
          refine dalloc_s rfl ?_
          refine dalloc_s rfl ?_
          refine dalloc_s rfl ?_
          refine dalloc_s rfl ?_
          refine dalloc_nil ?_
          refine aops_e rfl (oe_append_row rfl rfl (by have := tk_len h.ords k 20; simp at this ⊢; omega) rfl (fun s73 => ?_) (fun r hr => by simp at hr; subst hr; rfl))
          refine aops_slice s73 fun sv hsv => ?_
          subst hsv
          first | refine qq rfl rfl (qr_fieldAddr rfl (Nat.succ_ne_zero _)) ?_ | refine qq rfl rfl (qr_fieldAddr_pp rfl (Nat.succ_ne_zero _)) ?_ | refine qq rfl rfl (qr_fieldAddr_rp rfl (Nat.succ_ne_zero _)) ?_ | refine qq rfl rfl (qr_fieldAddr_row rfl (Nat.succ_ne_zero _)) ?_
          first | refine aops_e rfl (oe_store_all rfl rfl rfl ?_) | refine aops_e rfl (oe_store rfl rfl rfl rfl (Nat.le_of_ble_eq_true rfl) ?_)
          refine aops_nil ?_
          refine inBlk_n ?_
          refine thn_n ?_
          refine aw_region ?_
          refine qq rfl rfl (qr_ari rfl rfl rfl (by omega)) ?_
          refine qq rfl rfl (qr_move rfl) ?_
          refine aops_nil (thn_n ?_)
          have hx : ((h.ords.take (min (k + 1) 20)).map cutO).map ordR = ((h.ords.take (min k 20)).map cutO).map ordR ++ [ordR (cutO e)] := by rw [tk_go hk2 hlt he]; simp
          exact ⟨(k + 1, sv), by simp only; omega, (by rw [hx]; exact (ent_trans (ent_drop (h1 := [_])) (ent_sub (.cons _ _ _ rfl (.cons _ _ _ rfl (.cons _ _ _ rfl (.cons _ _ _ rfl (.cons _ _ _ rfl (.cons _ _ _ rfl (.nil)))))))))), by simp only; omega⟩
        · have hlt : ¬ k < 20 := by have := hc58; simp at this; omega
          refine aw_skip ?_
          refine inBlk_n ?_
          refine thn_n ?_
          refine aw_region ?_
          refine qq rfl rfl (qr_ari rfl rfl rfl (by omega)) ?_
          refine qq rfl rfl (qr_move rfl) ?_
          refine aops_nil (thn_n ?_)
          exact ⟨(k + 1, s), by simp only; omega, (by rw [tk_no hlt]; exact (ent_trans (ent_drop (h1 := [_])) (ent_sub (.cons _ _ _ rfl (.cons _ _ _ rfl (.cons _ _ _ rfl (.cons _ _ _ rfl (.cons _ _ _ rfl (.cons _ _ _ rfl (.nil)))))))))), by simp only; omega⟩
      · obtain rfl : k = h.ords.length := by
          have : ¬ k < h.ords.length := by simpa using hc53
          omega
        obtain ⟨sO, hsO⟩ : ∃ sO : SV, sO = s := ⟨_, rfl⟩
        simp only [tk_end, ← hsO]
        refine aw_exit ?_
        refine thn_e ?_
        refine thn_e ?_
        refine inBlk_hit ?_
        refine thn_n ?_
        refine aw_seq ?_
        refine aw_seq (aw_region ?_)
        first | refine qq rfl rfl (qr_fieldAddr rfl (Nat.succ_ne_zero _)) ?_ | refine qq rfl rfl (qr_fieldAddr_pp rfl (Nat.succ_ne_zero _)) ?_ | refine qq rfl rfl (qr_fieldAddr_rp rfl (Nat.succ_ne_zero _)) ?_ | refine qq rfl rfl (qr_fieldAddr_row rfl (Nat.succ_ne_zero _)) ?_
        first | refine qq rfl rfl (qr_load_one rfl rfl) ?_ | refine qq rfl rfl (qr_load_pp_one rfl rfl) ?_ | refine qq rfl rfl (qr_load_rp_one rfl (by assumption) rfl) ?_
        first | refine qq rfl rfl (qr_len_list rfl) ?_ | refine qq rfl rfl (qr_len_row rfl) ?_
        refine qq rfl rfl (qr_move rfl) ?_
        refine aops_nil (thn_n ?_)
        refine aw_block ?_
        refine aw_loop' (fun x : Nat × SV => x.1 ≤ h.mats.length) (fun x => ⟨[(79, iv x.1), (78, iv (h.mats.map matR).length), (77, matsA h.mats), (1, .v (.pointer (some ⟨b1, 0, none⟩))), (2, .v (.pointer (some ⟨b2, 0, none⟩))), (3, .v (.pointer (some ⟨b3, 0, none⟩)))], [.row x.2.v 4 57 (((h.mats.take (min x.1 20)).map cutM).map matR), .row sO.v 2 54 (((h.ords.take 20).map cutO).map ordR), .row sE.v 9 40 (((h.evs.take 80).map cutE).map evR), .box b3 28 [strsA (cutL 20 h.ts), strsA (cutL 10 h.ss), strsA (cutL 20 h.os), strsA (cutL 10 h.ps), .v sE.v, .v sO.v, .v x.2.v, nilA], .box b2 28 histZ, .box b1 28 (histC h)], []⟩) (fun x => h.mats.length - x.1) (0, nilS) (by simp)
          (ent_trans (ent_nilrow 4 57) (ent_sub (.cons _ _ _ rfl (.cons _ _ _ rfl (.cons _ _ _ rfl (.cons _ _ _ rfl (.cons _ _ _ rfl (.cons _ _ _ rfl (.nil))))))))) ?_
        rintro ⟨k, s⟩ hk
        simp only at hk
        refine aw_seq (aw_region ?_)
        refine qq rfl rfl (qr_cmp rfl rfl rfl) ?_
        refine aops_nil (thn_n ?_)
        refine aw_seq ?_
        refine aw_cond rfl (fun hc80 => ?_) (fun hc80 => ?_)
        · have hk2 : k < h.mats.length := by simpa using hc80
          obtain ⟨e, he⟩ : ∃ e, e = h.mats[k] := ⟨_, rfl⟩
          have hrow : (h.mats.map matR)[k]? = some (matR e) := by rw [he]; simp [hk2]
          have hle := la.mats
          refine aw_skip ?_
          refine thn_n ?_
          refine aw_seq ?_
          refine aw_block ?_
          refine aw_seq (aw_region ?_)
          refine qq rfl rfl (qr_move rfl) ?_
          first | refine qq rfl rfl (qr_index_list rfl rfl (by assumption)) ?_ | refine qq rfl rfl (qr_index_row rfl rfl (by assumption)) ?_
          first | refine qq rfl rfl (qr_load_all rfl rfl) ?_ | refine qq rfl rfl (qr_load_pp_all rfl rfl) ?_ | refine qq rfl rfl (qr_load_agg rfl (Nat.le_of_ble_eq_true rfl)) ?_ | refine qq rfl rfl (qr_load_pp_agg rfl (Nat.le_of_ble_eq_true rfl)) ?_ | refine qq rfl rfl (qr_load_rp_all rfl (by assumption) rfl) ?_
          refine aops_e rfl (oe_alloc rfl fun b9 => ?_)
          refine qq rfl rfl (qr_assign rfl) ?_
          first | refine aops_e rfl (oe_store_all rfl rfl rfl ?_) | refine aops_e rfl (oe_store rfl rfl rfl rfl (Nat.le_of_ble_eq_true rfl) ?_)
          refine aops_nil (thn_n ?_)
          refine aw_seq (aw_region ?_)
          refine qq rfl rfl (qr_move rfl) ?_
          refine qq rfl rfl (qr_cmp rfl rfl rfl) ?_
          refine aops_nil (thn_n ?_)
          refine aw_cond rfl (fun hc85 => ?_) (fun hc85 => ?_)
          · have hlt : k < 20 := by have := hc85; simp at this; omega
            refine aw_seq (aw_region ?_)
            first | refine qq rfl rfl (qr_fieldAddr rfl (Nat.succ_ne_zero _)) ?_ | refine qq rfl rfl (qr_fieldAddr_pp rfl (Nat.succ_ne_zero _)) ?_ | refine qq rfl rfl (qr_fieldAddr_rp rfl (Nat.succ_ne_zero _)) ?_ | refine qq rfl rfl (qr_fieldAddr_row rfl (Nat.succ_ne_zero _)) ?_
            first | refine qq rfl rfl (qr_load_one rfl rfl) ?_ | refine qq rfl rfl (qr_load_pp_one rfl rfl) ?_ | refine qq rfl rfl (qr_load_rp_one rfl (by assumption) rfl) ?_
            first | refine qq rfl rfl (qr_fieldAddr rfl (Nat.succ_ne_zero _)) ?_ | refine qq rfl rfl (qr_fieldAddr_pp rfl (Nat.succ_ne_zero _)) ?_ | refine qq rfl rfl (qr_fieldAddr_rp rfl (Nat.succ_ne_zero _)) ?_ | refine qq rfl rfl (qr_fieldAddr_row rfl (Nat.succ_ne_zero _)) ?_
            first | refine qq rfl rfl (qr_load_one rfl rfl) ?_ | refine qq rfl rfl (qr_load_pp_one rfl rfl) ?_ | refine qq rfl rfl (qr_load_rp_one rfl (by assumption) rfl) ?_
            first | refine qq rfl rfl (qr_len_list rfl) ?_ | refine qq rfl rfl (qr_len_row rfl) ?_
            refine qq rfl rfl (qr_minN (e.ts.map intR).length 20 rfl rfl) ?_
            refine qq rfl rfl (qr_slice_hE (rows' := (e.ts.take 20).map intR) rfl rfl (by omega) (by rw [List.length_map]; exact take_min intR e.ts 20)) ?_
            refine qv rfl rfl (qv_call rfl rfl (pcall (cloneInt ((e.ts.take 20).map intR) (by simp; omega)) (Sbs.refl _))) ?_
            first | refine qq rfl rfl (qr_fieldAddr rfl (Nat.succ_ne_zero _)) ?_ | refine qq rfl rfl (qr_fieldAddr_pp rfl (Nat.succ_ne_zero _)) ?_ | refine qq rfl rfl (qr_fieldAddr_rp rfl (Nat.succ_ne_zero _)) ?_ | refine qq rfl rfl (qr_fieldAddr_row rfl (Nat.succ_ne_zero _)) ?_
            first | refine aops_e rfl (oe_store_all rfl rfl rfl ?_) | refine aops_e rfl (oe_store rfl rfl rfl rfl (Nat.le_of_ble_eq_true rfl) ?_)
            refine aops_nil (thn_n ?_)
            refine aw_region ?_
            first | refine qq rfl rfl (qr_fieldAddr rfl (Nat.succ_ne_zero _)) ?_ | refine qq rfl rfl (qr_fieldAddr_pp rfl (Nat.succ_ne_zero _)) ?_ | refine qq rfl rfl (qr_fieldAddr_rp rfl (Nat.succ_ne_zero _)) ?_ | refine qq rfl rfl (qr_fieldAddr_row rfl (Nat.succ_ne_zero _)) ?_
            first | refine qq rfl rfl (qr_load_one rfl rfl) ?_ | refine qq rfl rfl (qr_load_pp_one rfl rfl) ?_ | refine qq rfl rfl (qr_load_rp_one rfl (by assumption) rfl) ?_
            first | refine qq rfl rfl (qr_load_all rfl rfl) ?_ | refine qq rfl rfl (qr_load_pp_all rfl rfl) ?_ | refine qq rfl rfl (qr_load_agg rfl (Nat.le_of_ble_eq_true rfl)) ?_ | refine qq rfl rfl (qr_load_pp_agg rfl (Nat.le_of_ble_eq_true rfl)) ?_ | refine qq rfl rfl (qr_load_rp_all rfl (by assumption) rfl) ?_
            refine qv rfl rfl (qv_buildSlice rfl rfl) ?_
            refine aops_e rfl (oe_append_row rfl rfl (by have := tk_len h.mats k 20; simp at this ⊢; omega) rfl (fun s99 => ?_) (fun r hr => by simp at hr; subst hr; rfl))
            refine aops_slice s99 fun sv hsv => ?_
            subst hsv
            first | refine qq rfl rfl (qr_fieldAddr rfl (Nat.succ_ne_zero _)) ?_ | refine qq rfl rfl (qr_fieldAddr_pp rfl (Nat.succ_ne_zero _)) ?_ | refine qq rfl rfl (qr_fieldAddr_rp rfl (Nat.succ_ne_zero _)) ?_ | refine qq rfl rfl (qr_fieldAddr_row rfl (Nat.succ_ne_zero _)) ?_
            first | refine aops_e rfl (oe_store_all rfl rfl rfl ?_) | refine aops_e rfl (oe_store rfl rfl rfl rfl (Nat.le_of_ble_eq_true rfl) ?_)
            refine aops_nil ?_
            refine inBlk_n ?_
            refine thn_n ?_
            refine aw_region ?_
            refine qq rfl rfl (qr_ari rfl rfl rfl (by omega)) ?_
            refine qq rfl rfl (qr_move rfl) ?_
            refine aops_nil (thn_n ?_)
            have hx : ((h.mats.take (min (k + 1) 20)).map cutM).map matR = ((h.mats.take (min k 20)).map cutM).map matR ++ [matR (cutM e)] := by rw [tk_go hk2 hlt he]; simp
            exact ⟨(k + 1, sv), by simp only; omega, (by rw [hx]; exact (ent_trans (ent_drop (h1 := [_])) (ent_sub (.cons _ _ _ rfl (.cons _ _ _ rfl (.cons _ _ _ rfl (.cons _ _ _ rfl (.cons _ _ _ rfl (.cons _ _ _ rfl (.nil)))))))))), by simp only; omega⟩
          · have hlt : ¬ k < 20 := by have := hc85; simp at this; omega
            refine aw_skip ?_
            refine inBlk_n ?_
            refine thn_n ?_
            refine aw_region ?_
            refine qq rfl rfl (qr_ari rfl rfl rfl (by omega)) ?_
            refine qq rfl rfl (qr_move rfl) ?_
            refine aops_nil (thn_n ?_)
            exact ⟨(k + 1, s), by simp only; omega, (by rw [tk_no hlt]; exact (ent_trans (ent_drop (h1 := [_])) (ent_sub (.cons _ _ _ rfl (.cons _ _ _ rfl (.cons _ _ _ rfl (.cons _ _ _ rfl (.cons _ _ _ rfl (.cons _ _ _ rfl (.nil)))))))))), by simp only; omega⟩
        · obtain rfl : k = h.mats.length := by
            have : ¬ k < h.mats.length := by simpa using hc80
            omega
          obtain ⟨sM, hsM⟩ : ∃ sM : SV, sM = s := ⟨_, rfl⟩
          simp only [tk_end, ← hsM]
          refine aw_exit ?_
          refine thn_e ?_
          refine thn_e ?_
          refine inBlk_hit ?_
          refine thn_n ?_
          refine aw_seq (aw_region ?_)
          first | refine qq rfl rfl (qr_fieldAddr rfl (Nat.succ_ne_zero _)) ?_ | refine qq rfl rfl (qr_fieldAddr_pp rfl (Nat.succ_ne_zero _)) ?_ | refine qq rfl rfl (qr_fieldAddr_rp rfl (Nat.succ_ne_zero _)) ?_ | refine qq rfl rfl (qr_fieldAddr_row rfl (Nat.succ_ne_zero _)) ?_
          first | refine qq rfl rfl (qr_load_one rfl rfl) ?_ | refine qq rfl rfl (qr_load_pp_one rfl rfl) ?_ | refine qq rfl rfl (qr_load_rp_one rfl (by assumption) rfl) ?_
          first | refine qq rfl rfl (qr_fieldAddr rfl (Nat.succ_ne_zero _)) ?_ | refine qq rfl rfl (qr_fieldAddr_pp rfl (Nat.succ_ne_zero _)) ?_ | refine qq rfl rfl (qr_fieldAddr_rp rfl (Nat.succ_ne_zero _)) ?_ | refine qq rfl rfl (qr_fieldAddr_row rfl (Nat.succ_ne_zero _)) ?_
          first | refine qq rfl rfl (qr_load_one rfl rfl) ?_ | refine qq rfl rfl (qr_load_pp_one rfl rfl) ?_ | refine qq rfl rfl (qr_load_rp_one rfl (by assumption) rfl) ?_
          first | refine qq rfl rfl (qr_len_list rfl) ?_ | refine qq rfl rfl (qr_len_row rfl) ?_
          refine qq rfl rfl (qr_minN (h.wants.map wanR).length 20 rfl rfl) ?_
          refine qq rfl rfl (qr_slice_hE (rows' := (h.wants.take 20).map wanR) rfl rfl (by omega) (by rw [List.length_map]; exact take_min wanR h.wants 20)) ?_
          refine qv rfl rfl (qv_call rfl rfl (pcall (cloneWan ((h.wants.take 20).map wanR) (by simp; omega)) (Sbs.refl _))) ?_
          first | refine qq rfl rfl (qr_fieldAddr rfl (Nat.succ_ne_zero _)) ?_ | refine qq rfl rfl (qr_fieldAddr_pp rfl (Nat.succ_ne_zero _)) ?_ | refine qq rfl rfl (qr_fieldAddr_rp rfl (Nat.succ_ne_zero _)) ?_ | refine qq rfl rfl (qr_fieldAddr_row rfl (Nat.succ_ne_zero _)) ?_
          first | refine aops_e rfl (oe_store_all rfl rfl rfl ?_) | refine aops_e rfl (oe_store rfl rfl rfl rfl (Nat.le_of_ble_eq_true rfl) ?_)
          refine aops_nil (thn_n ?_)
          refine aw_seq (aw_region ?_)
          first | refine qq rfl rfl (qr_load_all rfl rfl) ?_ | refine qq rfl rfl (qr_load_pp_all rfl rfl) ?_ | refine qq rfl rfl (qr_load_agg rfl (Nat.le_of_ble_eq_true rfl)) ?_ | refine qq rfl rfl (qr_load_pp_agg rfl (Nat.le_of_ble_eq_true rfl)) ?_ | refine qq rfl rfl (qr_load_rp_all rfl (by assumption) rfl) ?_
          first | refine aops_e rfl (oe_store_all rfl rfl rfl ?_) | refine aops_e rfl (oe_store rfl rfl rfl rfl (Nat.le_of_ble_eq_true rfl) ?_)
          refine aops_nil (thn_n ?_)
          refine aw_ret ?_
          exact retq (.cons _ _ _ _ (.agg _ _ _ _ _ _ _ rfl inferInstance inferInstance inferInstance rfl) .nil) (.trans (vent_freeze_cell [_, _, _, _, _, _] _) (.trans (vent_freeze_cell [_, _, _, _, _] _) (.trans (vent_freeze_cell [_, _, _, _] _) (.drop [_, _, _] _ _)))) ⟨rfl, rfl⟩
end Go.Proofs
