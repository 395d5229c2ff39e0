/- Facts on the loaded program's types and functions, as instances. Conditions: none. -/
import Derived.Test.YtcickpoefijkmaaGreatDoorNumbD
import Derived.Test.YtcickpoefijkmaaGreatDoorProg
import Derived.KernelRfl
set_option linter.unusedSimpArgs false
set_option linter.unusedVariables false
set_option linter.unusedVariables false
set_option maxRecDepth 100000
namespace Go.Proofs
open Go Go.Ab
instance : IsA Tryz.prog 1 false := ⟨⟨_, Tryz.underlying1, rfl⟩⟩
instance : Siz Tryz.prog 1 1 := ⟨by kernel_rfl⟩
instance : Byt Tryz.prog 1 8 := ⟨by kernel_rfl⟩
instance : ZerV Tryz.prog 1 (.nilFunc) := ⟨by kernel_rfl⟩
instance : Zer Tryz.prog 1 [.nilFunc] := ⟨⟨(.nilFunc : Value), by kernel_rfl, rfl, List.all_eq_true.1 rfl⟩⟩
instance : Und Tryz.prog 2 (.int .i64) := ⟨Tryz.underlying2⟩
instance : IsA Tryz.prog 2 false := ⟨⟨_, Tryz.underlying2, rfl⟩⟩
instance : Siz Tryz.prog 2 1 := ⟨by kernel_rfl⟩
instance : Byt Tryz.prog 2 8 := ⟨by kernel_rfl⟩
instance : ZerV Tryz.prog 2 (.int .i64 0) := ⟨by kernel_rfl⟩
instance : Zer Tryz.prog 2 [.int .i64 0] := ⟨⟨(.int .i64 0 : Value), by kernel_rfl, rfl, List.all_eq_true.1 rfl⟩⟩
instance : Und Tryz.prog 3 (.int .i64) := ⟨Tryz.underlying3⟩
instance : IsA Tryz.prog 3 false := ⟨⟨_, Tryz.underlying3, rfl⟩⟩
instance : Siz Tryz.prog 3 1 := ⟨by kernel_rfl⟩
instance : Byt Tryz.prog 3 8 := ⟨by kernel_rfl⟩
instance : ZerV Tryz.prog 3 (.int .i64 0) := ⟨by kernel_rfl⟩
instance : Zer Tryz.prog 3 [.int .i64 0] := ⟨⟨(.int .i64 0 : Value), by kernel_rfl, rfl, List.all_eq_true.1 rfl⟩⟩
instance : Und Tryz.prog 4 .bool := ⟨Tryz.underlying4⟩
instance : IsA Tryz.prog 4 false := ⟨⟨_, Tryz.underlying4, rfl⟩⟩
instance : Siz Tryz.prog 4 1 := ⟨by kernel_rfl⟩
instance : Byt Tryz.prog 4 1 := ⟨by kernel_rfl⟩
instance : ZerV Tryz.prog 4 (.bool false) := ⟨by kernel_rfl⟩
instance : Zer Tryz.prog 4 [.bool false] := ⟨⟨(.bool false : Value), by kernel_rfl, rfl, List.all_eq_true.1 rfl⟩⟩
instance : Und Tryz.prog 5 (.int .u8) := ⟨Tryz.underlying5⟩
instance : IsA Tryz.prog 5 false := ⟨⟨_, Tryz.underlying5, rfl⟩⟩
instance : Siz Tryz.prog 5 1 := ⟨by kernel_rfl⟩
instance : Byt Tryz.prog 5 1 := ⟨by kernel_rfl⟩
instance : ZerV Tryz.prog 5 (.int .u8 0) := ⟨by kernel_rfl⟩
instance : Zer Tryz.prog 5 [.int .u8 0] := ⟨⟨(.int .u8 0 : Value), by kernel_rfl, rfl, List.all_eq_true.1 rfl⟩⟩
instance : Und Tryz.prog 6 (.int .u8) := ⟨Tryz.underlying6⟩
instance : IsA Tryz.prog 6 false := ⟨⟨_, Tryz.underlying6, rfl⟩⟩
instance : Siz Tryz.prog 6 1 := ⟨by kernel_rfl⟩
instance : Byt Tryz.prog 6 1 := ⟨by kernel_rfl⟩
instance : ZerV Tryz.prog 6 (.int .u8 0) := ⟨by kernel_rfl⟩
instance : Zer Tryz.prog 6 [.int .u8 0] := ⟨⟨(.int .u8 0 : Value), by kernel_rfl, rfl, List.all_eq_true.1 rfl⟩⟩
instance : IsA Tryz.prog 7 true := ⟨⟨_, Tryz.underlying7, rfl⟩⟩
instance : Siz Tryz.prog 7 4 := ⟨by kernel_rfl⟩
instance : Byt Tryz.prog 7 24 := ⟨by kernel_rfl⟩
instance : ZerV Tryz.prog 7 (.agg #[.int .i64 0, .int .i64 0, .bool false, .int .u8 0]) := ⟨by kernel_rfl⟩
instance : Zer Tryz.prog 7 [.int .i64 0, .int .i64 0, .bool false, .int .u8 0] := ⟨⟨(.agg #[.int .i64 0, .int .i64 0, .bool false, .int .u8 0] : Value), by kernel_rfl, rfl, List.all_eq_true.1 rfl⟩⟩
instance : Fld Tryz.prog 7 0 0 2 := ⟨⟨_, _, Tryz.underlying7, rfl, rfl, rfl⟩⟩
instance : Fld Tryz.prog 7 1 1 3 := ⟨⟨_, _, Tryz.underlying7, rfl, rfl, rfl⟩⟩
instance : Fld Tryz.prog 7 2 2 4 := ⟨⟨_, _, Tryz.underlying7, rfl, rfl, rfl⟩⟩
instance : Fld Tryz.prog 7 3 3 6 := ⟨⟨_, _, Tryz.underlying7, rfl, rfl, rfl⟩⟩
instance : Plc Tryz.prog 7 [(0, 1), (1, 1), (2, 1), (3, 1)] := ⟨⟨_, Tryz.underlying7, by kernel_rfl⟩⟩
instance : Und Tryz.prog 9 .string := ⟨Tryz.underlying9⟩
instance : IsA Tryz.prog 9 false := ⟨⟨_, Tryz.underlying9, rfl⟩⟩
instance : Siz Tryz.prog 9 1 := ⟨by kernel_rfl⟩
instance : Byt Tryz.prog 9 16 := ⟨by kernel_rfl⟩
instance : ZerV Tryz.prog 9 (.string ⟨#[]⟩) := ⟨by kernel_rfl⟩
instance : Zer Tryz.prog 9 [.string ⟨#[]⟩] := ⟨⟨(.string ⟨#[]⟩ : Value), by kernel_rfl, rfl, List.all_eq_true.1 rfl⟩⟩
instance : Und Tryz.prog 21 (.int .i32) := ⟨Tryz.underlying21⟩
instance : IsA Tryz.prog 21 false := ⟨⟨_, Tryz.underlying21, rfl⟩⟩
instance : Siz Tryz.prog 21 1 := ⟨by kernel_rfl⟩
instance : Byt Tryz.prog 21 4 := ⟨by kernel_rfl⟩
instance : ZerV Tryz.prog 21 (.int .i32 0) := ⟨by kernel_rfl⟩
instance : Zer Tryz.prog 21 [.int .i32 0] := ⟨⟨(.int .i32 0 : Value), by kernel_rfl, rfl, List.all_eq_true.1 rfl⟩⟩
instance : Und Tryz.prog 22 (.slice 9) := ⟨Tryz.underlying22⟩
instance : IsA Tryz.prog 22 false := ⟨⟨_, Tryz.underlying22, rfl⟩⟩
instance : Siz Tryz.prog 22 1 := ⟨by kernel_rfl⟩
instance : Byt Tryz.prog 22 24 := ⟨by kernel_rfl⟩
instance : ZerV Tryz.prog 22 (.slice none 0 0) := ⟨by kernel_rfl⟩
instance : Zer Tryz.prog 22 [.slice none 0 0] := ⟨⟨(.slice none 0 0 : Value), by kernel_rfl, rfl, List.all_eq_true.1 rfl⟩⟩
instance : Und Tryz.prog 23 (.slice 39) := ⟨Tryz.underlying23⟩
instance : IsA Tryz.prog 23 false := ⟨⟨_, Tryz.underlying23, rfl⟩⟩
instance : Siz Tryz.prog 23 1 := ⟨by kernel_rfl⟩
instance : Byt Tryz.prog 23 24 := ⟨by kernel_rfl⟩
instance : ZerV Tryz.prog 23 (.slice none 0 0) := ⟨by kernel_rfl⟩
instance : Zer Tryz.prog 23 [.slice none 0 0] := ⟨⟨(.slice none 0 0 : Value), by kernel_rfl, rfl, List.all_eq_true.1 rfl⟩⟩
instance : Und Tryz.prog 24 (.slice 61) := ⟨Tryz.underlying24⟩
instance : IsA Tryz.prog 24 false := ⟨⟨_, Tryz.underlying24, rfl⟩⟩
instance : Siz Tryz.prog 24 1 := ⟨by kernel_rfl⟩
instance : Byt Tryz.prog 24 24 := ⟨by kernel_rfl⟩
instance : ZerV Tryz.prog 24 (.slice none 0 0) := ⟨by kernel_rfl⟩
instance : Zer Tryz.prog 24 [.slice none 0 0] := ⟨⟨(.slice none 0 0 : Value), by kernel_rfl, rfl, List.all_eq_true.1 rfl⟩⟩
instance : Und Tryz.prog 25 (.slice 64) := ⟨Tryz.underlying25⟩
instance : IsA Tryz.prog 25 false := ⟨⟨_, Tryz.underlying25, rfl⟩⟩
instance : Siz Tryz.prog 25 1 := ⟨by kernel_rfl⟩
instance : Byt Tryz.prog 25 24 := ⟨by kernel_rfl⟩
instance : ZerV Tryz.prog 25 (.slice none 0 0) := ⟨by kernel_rfl⟩
instance : Zer Tryz.prog 25 [.slice none 0 0] := ⟨⟨(.slice none 0 0 : Value), by kernel_rfl, rfl, List.all_eq_true.1 rfl⟩⟩
instance : Und Tryz.prog 26 (.slice 67) := ⟨Tryz.underlying26⟩
instance : IsA Tryz.prog 26 false := ⟨⟨_, Tryz.underlying26, rfl⟩⟩
instance : Siz Tryz.prog 26 1 := ⟨by kernel_rfl⟩
instance : Byt Tryz.prog 26 24 := ⟨by kernel_rfl⟩
instance : ZerV Tryz.prog 26 (.slice none 0 0) := ⟨by kernel_rfl⟩
instance : Zer Tryz.prog 26 [.slice none 0 0] := ⟨⟨(.slice none 0 0 : Value), by kernel_rfl, rfl, List.all_eq_true.1 rfl⟩⟩
instance : IsA Tryz.prog 27 true := ⟨⟨_, Tryz.underlying27, rfl⟩⟩
instance : Siz Tryz.prog 27 8 := ⟨by kernel_rfl⟩
instance : Byt Tryz.prog 27 192 := ⟨by kernel_rfl⟩
instance : ZerV Tryz.prog 27 (.agg #[.slice none 0 0, .slice none 0 0, .slice none 0 0, .slice none 0 0, .slice none 0 0, .slice none 0 0, .slice none 0 0, .slice none 0 0]) := ⟨by kernel_rfl⟩
instance : Zer Tryz.prog 27 [.slice none 0 0, .slice none 0 0, .slice none 0 0, .slice none 0 0, .slice none 0 0, .slice none 0 0, .slice none 0 0, .slice none 0 0] := ⟨⟨(.agg #[.slice none 0 0, .slice none 0 0, .slice none 0 0, .slice none 0 0, .slice none 0 0, .slice none 0 0, .slice none 0 0, .slice none 0 0] : Value), by kernel_rfl, rfl, List.all_eq_true.1 rfl⟩⟩
instance : Fld Tryz.prog 27 0 0 22 := ⟨⟨_, _, Tryz.underlying27, rfl, rfl, rfl⟩⟩
instance : Fld Tryz.prog 27 1 1 22 := ⟨⟨_, _, Tryz.underlying27, rfl, rfl, rfl⟩⟩
instance : Fld Tryz.prog 27 2 2 22 := ⟨⟨_, _, Tryz.underlying27, rfl, rfl, rfl⟩⟩
instance : Fld Tryz.prog 27 3 3 22 := ⟨⟨_, _, Tryz.underlying27, rfl, rfl, rfl⟩⟩
instance : Fld Tryz.prog 27 4 4 23 := ⟨⟨_, _, Tryz.underlying27, rfl, rfl, rfl⟩⟩
instance : Fld Tryz.prog 27 5 5 24 := ⟨⟨_, _, Tryz.underlying27, rfl, rfl, rfl⟩⟩
instance : Fld Tryz.prog 27 6 6 25 := ⟨⟨_, _, Tryz.underlying27, rfl, rfl, rfl⟩⟩
instance : Fld Tryz.prog 27 7 7 26 := ⟨⟨_, _, Tryz.underlying27, rfl, rfl, rfl⟩⟩
instance : Plc Tryz.prog 27 [(0, 1), (1, 1), (2, 1), (3, 1), (4, 1), (5, 1), (6, 1), (7, 1)] := ⟨⟨_, Tryz.underlying27, by kernel_rfl⟩⟩
instance : IsA Tryz.prog 28 true := ⟨⟨_, Tryz.underlying28, rfl⟩⟩
instance : Siz Tryz.prog 28 8 := ⟨by kernel_rfl⟩
instance : Byt Tryz.prog 28 192 := ⟨by kernel_rfl⟩
instance : ZerV Tryz.prog 28 (.agg #[.slice none 0 0, .slice none 0 0, .slice none 0 0, .slice none 0 0, .slice none 0 0, .slice none 0 0, .slice none 0 0, .slice none 0 0]) := ⟨by kernel_rfl⟩
instance : Zer Tryz.prog 28 [.slice none 0 0, .slice none 0 0, .slice none 0 0, .slice none 0 0, .slice none 0 0, .slice none 0 0, .slice none 0 0, .slice none 0 0] := ⟨⟨(.agg #[.slice none 0 0, .slice none 0 0, .slice none 0 0, .slice none 0 0, .slice none 0 0, .slice none 0 0, .slice none 0 0, .slice none 0 0] : Value), by kernel_rfl, rfl, List.all_eq_true.1 rfl⟩⟩
instance : Fld Tryz.prog 28 0 0 22 := ⟨⟨_, _, Tryz.underlying28, rfl, rfl, rfl⟩⟩
instance : Fld Tryz.prog 28 1 1 22 := ⟨⟨_, _, Tryz.underlying28, rfl, rfl, rfl⟩⟩
instance : Fld Tryz.prog 28 2 2 22 := ⟨⟨_, _, Tryz.underlying28, rfl, rfl, rfl⟩⟩
instance : Fld Tryz.prog 28 3 3 22 := ⟨⟨_, _, Tryz.underlying28, rfl, rfl, rfl⟩⟩
instance : Fld Tryz.prog 28 4 4 23 := ⟨⟨_, _, Tryz.underlying28, rfl, rfl, rfl⟩⟩
instance : Fld Tryz.prog 28 5 5 24 := ⟨⟨_, _, Tryz.underlying28, rfl, rfl, rfl⟩⟩
instance : Fld Tryz.prog 28 6 6 25 := ⟨⟨_, _, Tryz.underlying28, rfl, rfl, rfl⟩⟩
instance : Fld Tryz.prog 28 7 7 26 := ⟨⟨_, _, Tryz.underlying28, rfl, rfl, rfl⟩⟩
instance : Plc Tryz.prog 28 [(0, 1), (1, 1), (2, 1), (3, 1), (4, 1), (5, 1), (6, 1), (7, 1)] := ⟨⟨_, Tryz.underlying28, by kernel_rfl⟩⟩
instance : Und Tryz.prog 31 (.array 2 28) := ⟨Tryz.underlying31⟩
instance : IsA Tryz.prog 31 true := ⟨⟨_, Tryz.underlying31, rfl⟩⟩
instance : Siz Tryz.prog 31 16 := ⟨by kernel_rfl⟩
instance : Byt Tryz.prog 31 384 := ⟨by kernel_rfl⟩
instance : ZerV Tryz.prog 31 (.agg #[.slice none 0 0, .slice none 0 0, .slice none 0 0, .slice none 0 0, .slice none 0 0, .slice none 0 0, .slice none 0 0, .slice none 0 0, .slice none 0 0, .slice none 0 0, .slice none 0 0, .slice none 0 0, .slice none 0 0, .slice none 0 0, .slice none 0 0, .slice none 0 0]) := ⟨by kernel_rfl⟩
instance : Zer Tryz.prog 31 [.slice none 0 0, .slice none 0 0, .slice none 0 0, .slice none 0 0, .slice none 0 0, .slice none 0 0, .slice none 0 0, .slice none 0 0, .slice none 0 0, .slice none 0 0, .slice none 0 0, .slice none 0 0, .slice none 0 0, .slice none 0 0, .slice none 0 0, .slice none 0 0] := ⟨⟨(.agg #[.slice none 0 0, .slice none 0 0, .slice none 0 0, .slice none 0 0, .slice none 0 0, .slice none 0 0, .slice none 0 0, .slice none 0 0, .slice none 0 0, .slice none 0 0, .slice none 0 0, .slice none 0 0, .slice none 0 0, .slice none 0 0, .slice none 0 0, .slice none 0 0] : Value), by kernel_rfl, rfl, List.all_eq_true.1 rfl⟩⟩
instance : Und Tryz.prog 32 (.int .i64) := ⟨Tryz.underlying32⟩
instance : IsA Tryz.prog 32 false := ⟨⟨_, Tryz.underlying32, rfl⟩⟩
instance : Siz Tryz.prog 32 1 := ⟨by kernel_rfl⟩
instance : Byt Tryz.prog 32 8 := ⟨by kernel_rfl⟩
instance : ZerV Tryz.prog 32 (.int .i64 0) := ⟨by kernel_rfl⟩
instance : Zer Tryz.prog 32 [.int .i64 0] := ⟨⟨(.int .i64 0 : Value), by kernel_rfl, rfl, List.all_eq_true.1 rfl⟩⟩
instance : IsA Tryz.prog 35 true := ⟨⟨_, Tryz.underlying35, rfl⟩⟩
instance : Siz Tryz.prog 35 2 := ⟨by kernel_rfl⟩
instance : Byt Tryz.prog 35 16 := ⟨by kernel_rfl⟩
instance : ZerV Tryz.prog 35 (.agg #[.int .i64 0, .int .i64 0]) := ⟨by kernel_rfl⟩
instance : Zer Tryz.prog 35 [.int .i64 0, .int .i64 0] := ⟨⟨(.agg #[.int .i64 0, .int .i64 0] : Value), by kernel_rfl, rfl, List.all_eq_true.1 rfl⟩⟩
instance : Fld Tryz.prog 35 0 0 3 := ⟨⟨_, _, Tryz.underlying35, rfl, rfl, rfl⟩⟩
instance : Fld Tryz.prog 35 1 1 3 := ⟨⟨_, _, Tryz.underlying35, rfl, rfl, rfl⟩⟩
instance : Plc Tryz.prog 35 [(0, 1), (1, 1)] := ⟨⟨_, Tryz.underlying35, by kernel_rfl⟩⟩
instance : IsA Tryz.prog 36 true := ⟨⟨_, Tryz.underlying36, rfl⟩⟩
instance : Siz Tryz.prog 36 2 := ⟨by kernel_rfl⟩
instance : Byt Tryz.prog 36 16 := ⟨by kernel_rfl⟩
instance : ZerV Tryz.prog 36 (.agg #[.int .i64 0, .int .i64 0]) := ⟨by kernel_rfl⟩
instance : Zer Tryz.prog 36 [.int .i64 0, .int .i64 0] := ⟨⟨(.agg #[.int .i64 0, .int .i64 0] : Value), by kernel_rfl, rfl, List.all_eq_true.1 rfl⟩⟩
instance : Fld Tryz.prog 36 0 0 3 := ⟨⟨_, _, Tryz.underlying36, rfl, rfl, rfl⟩⟩
instance : Fld Tryz.prog 36 1 1 3 := ⟨⟨_, _, Tryz.underlying36, rfl, rfl, rfl⟩⟩
instance : Plc Tryz.prog 36 [(0, 1), (1, 1)] := ⟨⟨_, Tryz.underlying36, by kernel_rfl⟩⟩
instance : Und Tryz.prog 37 (.slice 59) := ⟨Tryz.underlying37⟩
instance : IsA Tryz.prog 37 false := ⟨⟨_, Tryz.underlying37, rfl⟩⟩
instance : Siz Tryz.prog 37 1 := ⟨by kernel_rfl⟩
instance : Byt Tryz.prog 37 24 := ⟨by kernel_rfl⟩
instance : ZerV Tryz.prog 37 (.slice none 0 0) := ⟨by kernel_rfl⟩
instance : Zer Tryz.prog 37 [.slice none 0 0] := ⟨⟨(.slice none 0 0 : Value), by kernel_rfl, rfl, List.all_eq_true.1 rfl⟩⟩
instance : IsA Tryz.prog 38 true := ⟨⟨_, Tryz.underlying38, rfl⟩⟩
instance : Siz Tryz.prog 38 9 := ⟨by kernel_rfl⟩
instance : Byt Tryz.prog 38 88 := ⟨by kernel_rfl⟩
instance : ZerV Tryz.prog 38 (.agg #[.int .i64 0, .int .i64 0, .int .i64 0, .int .i64 0, .int .i64 0, .int .i64 0, .int .i64 0, .int .i64 0, .slice none 0 0]) := ⟨by kernel_rfl⟩
instance : Zer Tryz.prog 38 [.int .i64 0, .int .i64 0, .int .i64 0, .int .i64 0, .int .i64 0, .int .i64 0, .int .i64 0, .int .i64 0, .slice none 0 0] := ⟨⟨(.agg #[.int .i64 0, .int .i64 0, .int .i64 0, .int .i64 0, .int .i64 0, .int .i64 0, .int .i64 0, .int .i64 0, .slice none 0 0] : Value), by kernel_rfl, rfl, List.all_eq_true.1 rfl⟩⟩
instance : Fld Tryz.prog 38 0 0 3 := ⟨⟨_, _, Tryz.underlying38, rfl, rfl, rfl⟩⟩
instance : Fld Tryz.prog 38 1 1 3 := ⟨⟨_, _, Tryz.underlying38, rfl, rfl, rfl⟩⟩
instance : Fld Tryz.prog 38 2 2 3 := ⟨⟨_, _, Tryz.underlying38, rfl, rfl, rfl⟩⟩
instance : Fld Tryz.prog 38 3 3 3 := ⟨⟨_, _, Tryz.underlying38, rfl, rfl, rfl⟩⟩
instance : Fld Tryz.prog 38 4 4 3 := ⟨⟨_, _, Tryz.underlying38, rfl, rfl, rfl⟩⟩
instance : Fld Tryz.prog 38 5 5 36 := ⟨⟨_, _, Tryz.underlying38, rfl, rfl, rfl⟩⟩
instance : Fld Tryz.prog 38 6 7 3 := ⟨⟨_, _, Tryz.underlying38, rfl, rfl, rfl⟩⟩
instance : Fld Tryz.prog 38 7 8 37 := ⟨⟨_, _, Tryz.underlying38, rfl, rfl, rfl⟩⟩
instance : Plc Tryz.prog 38 [(0, 1), (1, 1), (2, 1), (3, 1), (4, 1), (5, 2), (7, 1), (8, 1)] := ⟨⟨_, Tryz.underlying38, by kernel_rfl⟩⟩
instance : IsA Tryz.prog 39 true := ⟨⟨_, Tryz.underlying39, rfl⟩⟩
instance : Siz Tryz.prog 39 9 := ⟨by kernel_rfl⟩
instance : Byt Tryz.prog 39 88 := ⟨by kernel_rfl⟩
instance : ZerV Tryz.prog 39 (.agg #[.int .i64 0, .int .i64 0, .int .i64 0, .int .i64 0, .int .i64 0, .int .i64 0, .int .i64 0, .int .i64 0, .slice none 0 0]) := ⟨by kernel_rfl⟩
instance : Zer Tryz.prog 39 [.int .i64 0, .int .i64 0, .int .i64 0, .int .i64 0, .int .i64 0, .int .i64 0, .int .i64 0, .int .i64 0, .slice none 0 0] := ⟨⟨(.agg #[.int .i64 0, .int .i64 0, .int .i64 0, .int .i64 0, .int .i64 0, .int .i64 0, .int .i64 0, .int .i64 0, .slice none 0 0] : Value), by kernel_rfl, rfl, List.all_eq_true.1 rfl⟩⟩
instance : Fld Tryz.prog 39 0 0 3 := ⟨⟨_, _, Tryz.underlying39, rfl, rfl, rfl⟩⟩
instance : Fld Tryz.prog 39 1 1 3 := ⟨⟨_, _, Tryz.underlying39, rfl, rfl, rfl⟩⟩
instance : Fld Tryz.prog 39 2 2 3 := ⟨⟨_, _, Tryz.underlying39, rfl, rfl, rfl⟩⟩
instance : Fld Tryz.prog 39 3 3 3 := ⟨⟨_, _, Tryz.underlying39, rfl, rfl, rfl⟩⟩
instance : Fld Tryz.prog 39 4 4 3 := ⟨⟨_, _, Tryz.underlying39, rfl, rfl, rfl⟩⟩
instance : Fld Tryz.prog 39 5 5 36 := ⟨⟨_, _, Tryz.underlying39, rfl, rfl, rfl⟩⟩
instance : Fld Tryz.prog 39 6 7 3 := ⟨⟨_, _, Tryz.underlying39, rfl, rfl, rfl⟩⟩
instance : Fld Tryz.prog 39 7 8 37 := ⟨⟨_, _, Tryz.underlying39, rfl, rfl, rfl⟩⟩
instance : Plc Tryz.prog 39 [(0, 1), (1, 1), (2, 1), (3, 1), (4, 1), (5, 2), (7, 1), (8, 1)] := ⟨⟨_, Tryz.underlying39, by kernel_rfl⟩⟩
instance : IsA Tryz.prog 40 false := ⟨⟨_, Tryz.underlying40, rfl⟩⟩
instance : Siz Tryz.prog 40 1 := ⟨by kernel_rfl⟩
instance : Byt Tryz.prog 40 8 := ⟨by kernel_rfl⟩
instance : ZerV Tryz.prog 40 (.nilFunc) := ⟨by kernel_rfl⟩
instance : Zer Tryz.prog 40 [.nilFunc] := ⟨⟨(.nilFunc : Value), by kernel_rfl, rfl, List.all_eq_true.1 rfl⟩⟩
instance : Und Tryz.prog 45 (.slice 3) := ⟨Tryz.underlying45⟩
instance : IsA Tryz.prog 45 false := ⟨⟨_, Tryz.underlying45, rfl⟩⟩
instance : Siz Tryz.prog 45 1 := ⟨by kernel_rfl⟩
instance : Byt Tryz.prog 45 24 := ⟨by kernel_rfl⟩
instance : ZerV Tryz.prog 45 (.slice none 0 0) := ⟨by kernel_rfl⟩
instance : Zer Tryz.prog 45 [.slice none 0 0] := ⟨⟨(.slice none 0 0 : Value), by kernel_rfl, rfl, List.all_eq_true.1 rfl⟩⟩
instance : IsA Tryz.prog 53 false := ⟨⟨_, Tryz.underlying53, rfl⟩⟩
instance : Siz Tryz.prog 53 1 := ⟨by kernel_rfl⟩
instance : Byt Tryz.prog 53 8 := ⟨by kernel_rfl⟩
instance : ZerV Tryz.prog 53 (.nilFunc) := ⟨by kernel_rfl⟩
instance : Zer Tryz.prog 53 [.nilFunc] := ⟨⟨(.nilFunc : Value), by kernel_rfl, rfl, List.all_eq_true.1 rfl⟩⟩
instance : IsA Tryz.prog 58 true := ⟨⟨_, Tryz.underlying58, rfl⟩⟩
instance : Siz Tryz.prog 58 3 := ⟨by kernel_rfl⟩
instance : Byt Tryz.prog 58 24 := ⟨by kernel_rfl⟩
instance : ZerV Tryz.prog 58 (.agg #[.int .i64 0, .int .i64 0, .int .i64 0]) := ⟨by kernel_rfl⟩
instance : Zer Tryz.prog 58 [.int .i64 0, .int .i64 0, .int .i64 0] := ⟨⟨(.agg #[.int .i64 0, .int .i64 0, .int .i64 0] : Value), by kernel_rfl, rfl, List.all_eq_true.1 rfl⟩⟩
instance : Fld Tryz.prog 58 0 0 3 := ⟨⟨_, _, Tryz.underlying58, rfl, rfl, rfl⟩⟩
instance : Fld Tryz.prog 58 1 1 36 := ⟨⟨_, _, Tryz.underlying58, rfl, rfl, rfl⟩⟩
instance : Plc Tryz.prog 58 [(0, 1), (1, 2)] := ⟨⟨_, Tryz.underlying58, by kernel_rfl⟩⟩
instance : IsA Tryz.prog 59 true := ⟨⟨_, Tryz.underlying59, rfl⟩⟩
instance : Siz Tryz.prog 59 3 := ⟨by kernel_rfl⟩
instance : Byt Tryz.prog 59 24 := ⟨by kernel_rfl⟩
instance : ZerV Tryz.prog 59 (.agg #[.int .i64 0, .int .i64 0, .int .i64 0]) := ⟨by kernel_rfl⟩
instance : Zer Tryz.prog 59 [.int .i64 0, .int .i64 0, .int .i64 0] := ⟨⟨(.agg #[.int .i64 0, .int .i64 0, .int .i64 0] : Value), by kernel_rfl, rfl, List.all_eq_true.1 rfl⟩⟩
instance : Fld Tryz.prog 59 0 0 3 := ⟨⟨_, _, Tryz.underlying59, rfl, rfl, rfl⟩⟩
instance : Fld Tryz.prog 59 1 1 36 := ⟨⟨_, _, Tryz.underlying59, rfl, rfl, rfl⟩⟩
instance : Plc Tryz.prog 59 [(0, 1), (1, 2)] := ⟨⟨_, Tryz.underlying59, by kernel_rfl⟩⟩
instance : IsA Tryz.prog 60 true := ⟨⟨_, Tryz.underlying60, rfl⟩⟩
instance : Siz Tryz.prog 60 2 := ⟨by kernel_rfl⟩
instance : Byt Tryz.prog 60 32 := ⟨by kernel_rfl⟩
instance : ZerV Tryz.prog 60 (.agg #[.int .i64 0, .slice none 0 0]) := ⟨by kernel_rfl⟩
instance : Zer Tryz.prog 60 [.int .i64 0, .slice none 0 0] := ⟨⟨(.agg #[.int .i64 0, .slice none 0 0] : Value), by kernel_rfl, rfl, List.all_eq_true.1 rfl⟩⟩
instance : Fld Tryz.prog 60 0 0 3 := ⟨⟨_, _, Tryz.underlying60, rfl, rfl, rfl⟩⟩
instance : Fld Tryz.prog 60 1 1 45 := ⟨⟨_, _, Tryz.underlying60, rfl, rfl, rfl⟩⟩
instance : Plc Tryz.prog 60 [(0, 1), (1, 1)] := ⟨⟨_, Tryz.underlying60, by kernel_rfl⟩⟩
instance : IsA Tryz.prog 61 true := ⟨⟨_, Tryz.underlying61, rfl⟩⟩
instance : Siz Tryz.prog 61 2 := ⟨by kernel_rfl⟩
instance : Byt Tryz.prog 61 32 := ⟨by kernel_rfl⟩
instance : ZerV Tryz.prog 61 (.agg #[.int .i64 0, .slice none 0 0]) := ⟨by kernel_rfl⟩
instance : Zer Tryz.prog 61 [.int .i64 0, .slice none 0 0] := ⟨⟨(.agg #[.int .i64 0, .slice none 0 0] : Value), by kernel_rfl, rfl, List.all_eq_true.1 rfl⟩⟩
instance : Fld Tryz.prog 61 0 0 3 := ⟨⟨_, _, Tryz.underlying61, rfl, rfl, rfl⟩⟩
instance : Fld Tryz.prog 61 1 1 45 := ⟨⟨_, _, Tryz.underlying61, rfl, rfl, rfl⟩⟩
instance : Plc Tryz.prog 61 [(0, 1), (1, 1)] := ⟨⟨_, Tryz.underlying61, by kernel_rfl⟩⟩
instance : IsA Tryz.prog 63 true := ⟨⟨_, Tryz.underlying63, rfl⟩⟩
instance : Siz Tryz.prog 63 4 := ⟨by kernel_rfl⟩
instance : Byt Tryz.prog 63 48 := ⟨by kernel_rfl⟩
instance : ZerV Tryz.prog 63 (.agg #[.int .i64 0, .int .i64 0, .bool false, .slice none 0 0]) := ⟨by kernel_rfl⟩
instance : Zer Tryz.prog 63 [.int .i64 0, .int .i64 0, .bool false, .slice none 0 0] := ⟨⟨(.agg #[.int .i64 0, .int .i64 0, .bool false, .slice none 0 0] : Value), by kernel_rfl, rfl, List.all_eq_true.1 rfl⟩⟩
instance : Fld Tryz.prog 63 0 0 3 := ⟨⟨_, _, Tryz.underlying63, rfl, rfl, rfl⟩⟩
instance : Fld Tryz.prog 63 1 1 3 := ⟨⟨_, _, Tryz.underlying63, rfl, rfl, rfl⟩⟩
instance : Fld Tryz.prog 63 2 2 4 := ⟨⟨_, _, Tryz.underlying63, rfl, rfl, rfl⟩⟩
instance : Fld Tryz.prog 63 3 3 45 := ⟨⟨_, _, Tryz.underlying63, rfl, rfl, rfl⟩⟩
instance : Plc Tryz.prog 63 [(0, 1), (1, 1), (2, 1), (3, 1)] := ⟨⟨_, Tryz.underlying63, by kernel_rfl⟩⟩
instance : IsA Tryz.prog 64 true := ⟨⟨_, Tryz.underlying64, rfl⟩⟩
instance : Siz Tryz.prog 64 4 := ⟨by kernel_rfl⟩
instance : Byt Tryz.prog 64 48 := ⟨by kernel_rfl⟩
instance : ZerV Tryz.prog 64 (.agg #[.int .i64 0, .int .i64 0, .bool false, .slice none 0 0]) := ⟨by kernel_rfl⟩
instance : Zer Tryz.prog 64 [.int .i64 0, .int .i64 0, .bool false, .slice none 0 0] := ⟨⟨(.agg #[.int .i64 0, .int .i64 0, .bool false, .slice none 0 0] : Value), by kernel_rfl, rfl, List.all_eq_true.1 rfl⟩⟩
instance : Fld Tryz.prog 64 0 0 3 := ⟨⟨_, _, Tryz.underlying64, rfl, rfl, rfl⟩⟩
instance : Fld Tryz.prog 64 1 1 3 := ⟨⟨_, _, Tryz.underlying64, rfl, rfl, rfl⟩⟩
instance : Fld Tryz.prog 64 2 2 4 := ⟨⟨_, _, Tryz.underlying64, rfl, rfl, rfl⟩⟩
instance : Fld Tryz.prog 64 3 3 45 := ⟨⟨_, _, Tryz.underlying64, rfl, rfl, rfl⟩⟩
instance : Plc Tryz.prog 64 [(0, 1), (1, 1), (2, 1), (3, 1)] := ⟨⟨_, Tryz.underlying64, by kernel_rfl⟩⟩
instance : IsA Tryz.prog 66 true := ⟨⟨_, Tryz.underlying66, rfl⟩⟩
instance : Siz Tryz.prog 66 2 := ⟨by kernel_rfl⟩
instance : Byt Tryz.prog 66 16 := ⟨by kernel_rfl⟩
instance : ZerV Tryz.prog 66 (.agg #[.int .i64 0, .int .i64 0]) := ⟨by kernel_rfl⟩
instance : Zer Tryz.prog 66 [.int .i64 0, .int .i64 0] := ⟨⟨(.agg #[.int .i64 0, .int .i64 0] : Value), by kernel_rfl, rfl, List.all_eq_true.1 rfl⟩⟩
instance : Fld Tryz.prog 66 0 0 3 := ⟨⟨_, _, Tryz.underlying66, rfl, rfl, rfl⟩⟩
instance : Fld Tryz.prog 66 1 1 3 := ⟨⟨_, _, Tryz.underlying66, rfl, rfl, rfl⟩⟩
instance : Plc Tryz.prog 66 [(0, 1), (1, 1)] := ⟨⟨_, Tryz.underlying66, by kernel_rfl⟩⟩
instance : IsA Tryz.prog 67 true := ⟨⟨_, Tryz.underlying67, rfl⟩⟩
instance : Siz Tryz.prog 67 2 := ⟨by kernel_rfl⟩
instance : Byt Tryz.prog 67 16 := ⟨by kernel_rfl⟩
instance : ZerV Tryz.prog 67 (.agg #[.int .i64 0, .int .i64 0]) := ⟨by kernel_rfl⟩
instance : Zer Tryz.prog 67 [.int .i64 0, .int .i64 0] := ⟨⟨(.agg #[.int .i64 0, .int .i64 0] : Value), by kernel_rfl, rfl, List.all_eq_true.1 rfl⟩⟩
instance : Fld Tryz.prog 67 0 0 3 := ⟨⟨_, _, Tryz.underlying67, rfl, rfl, rfl⟩⟩
instance : Fld Tryz.prog 67 1 1 3 := ⟨⟨_, _, Tryz.underlying67, rfl, rfl, rfl⟩⟩
instance : Plc Tryz.prog 67 [(0, 1), (1, 1)] := ⟨⟨_, Tryz.underlying67, by kernel_rfl⟩⟩
instance : Und Tryz.prog 68 (.array 4 3) := ⟨Tryz.underlying68⟩
instance : IsA Tryz.prog 68 true := ⟨⟨_, Tryz.underlying68, rfl⟩⟩
instance : Siz Tryz.prog 68 4 := ⟨by kernel_rfl⟩
instance : Byt Tryz.prog 68 32 := ⟨by kernel_rfl⟩
instance : ZerV Tryz.prog 68 (.agg #[.int .i64 0, .int .i64 0, .int .i64 0, .int .i64 0]) := ⟨by kernel_rfl⟩
instance : Zer Tryz.prog 68 [.int .i64 0, .int .i64 0, .int .i64 0, .int .i64 0] := ⟨⟨(.agg #[.int .i64 0, .int .i64 0, .int .i64 0, .int .i64 0] : Value), by kernel_rfl, rfl, List.all_eq_true.1 rfl⟩⟩
instance : IsA Tryz.prog 69 false := ⟨⟨_, Tryz.underlying69, rfl⟩⟩
instance : Siz Tryz.prog 69 1 := ⟨by kernel_rfl⟩
instance : Byt Tryz.prog 69 8 := ⟨by kernel_rfl⟩
instance : ZerV Tryz.prog 69 (.nilFunc) := ⟨by kernel_rfl⟩
instance : Zer Tryz.prog 69 [.nilFunc] := ⟨⟨(.nilFunc : Value), by kernel_rfl, rfl, List.all_eq_true.1 rfl⟩⟩
instance : IsA Tryz.prog 70 false := ⟨⟨_, Tryz.underlying70, rfl⟩⟩
instance : Siz Tryz.prog 70 1 := ⟨by kernel_rfl⟩
instance : Byt Tryz.prog 70 8 := ⟨by kernel_rfl⟩
instance : ZerV Tryz.prog 70 (.nilFunc) := ⟨by kernel_rfl⟩
instance : Zer Tryz.prog 70 [.nilFunc] := ⟨⟨(.nilFunc : Value), by kernel_rfl, rfl, List.all_eq_true.1 rfl⟩⟩
instance : Und Tryz.prog 72 (.pointer 28) := ⟨Tryz.underlying72⟩
instance : IsA Tryz.prog 72 false := ⟨⟨_, Tryz.underlying72, rfl⟩⟩
instance : Siz Tryz.prog 72 1 := ⟨by kernel_rfl⟩
instance : Byt Tryz.prog 72 8 := ⟨by kernel_rfl⟩
instance : ZerV Tryz.prog 72 (.pointer none) := ⟨by kernel_rfl⟩
instance : Zer Tryz.prog 72 [.pointer none] := ⟨⟨(.pointer none : Value), by kernel_rfl, rfl, List.all_eq_true.1 rfl⟩⟩
instance : Und Tryz.prog 73 (.pointer 3) := ⟨Tryz.underlying73⟩
instance : IsA Tryz.prog 73 false := ⟨⟨_, Tryz.underlying73, rfl⟩⟩
instance : Siz Tryz.prog 73 1 := ⟨by kernel_rfl⟩
instance : Byt Tryz.prog 73 8 := ⟨by kernel_rfl⟩
instance : ZerV Tryz.prog 73 (.pointer none) := ⟨by kernel_rfl⟩
instance : Zer Tryz.prog 73 [.pointer none] := ⟨⟨(.pointer none : Value), by kernel_rfl, rfl, List.all_eq_true.1 rfl⟩⟩
instance : Und Tryz.prog 74 (.array 4 22) := ⟨Tryz.underlying74⟩
instance : IsA Tryz.prog 74 true := ⟨⟨_, Tryz.underlying74, rfl⟩⟩
instance : Siz Tryz.prog 74 4 := ⟨by kernel_rfl⟩
instance : Byt Tryz.prog 74 96 := ⟨by kernel_rfl⟩
instance : ZerV Tryz.prog 74 (.agg #[.slice none 0 0, .slice none 0 0, .slice none 0 0, .slice none 0 0]) := ⟨by kernel_rfl⟩
instance : Zer Tryz.prog 74 [.slice none 0 0, .slice none 0 0, .slice none 0 0, .slice none 0 0] := ⟨⟨(.agg #[.slice none 0 0, .slice none 0 0, .slice none 0 0, .slice none 0 0] : Value), by kernel_rfl, rfl, List.all_eq_true.1 rfl⟩⟩
instance : Und Tryz.prog 76 (.array 4 45) := ⟨Tryz.underlying76⟩
instance : IsA Tryz.prog 76 true := ⟨⟨_, Tryz.underlying76, rfl⟩⟩
instance : Siz Tryz.prog 76 4 := ⟨by kernel_rfl⟩
instance : Byt Tryz.prog 76 96 := ⟨by kernel_rfl⟩
instance : ZerV Tryz.prog 76 (.agg #[.slice none 0 0, .slice none 0 0, .slice none 0 0, .slice none 0 0]) := ⟨by kernel_rfl⟩
instance : Zer Tryz.prog 76 [.slice none 0 0, .slice none 0 0, .slice none 0 0, .slice none 0 0] := ⟨⟨(.agg #[.slice none 0 0, .slice none 0 0, .slice none 0 0, .slice none 0 0] : Value), by kernel_rfl, rfl, List.all_eq_true.1 rfl⟩⟩
instance : IsA Tryz.prog 81 false := ⟨⟨_, Tryz.underlying81, rfl⟩⟩
instance : Siz Tryz.prog 81 1 := ⟨by kernel_rfl⟩
instance : Byt Tryz.prog 81 8 := ⟨by kernel_rfl⟩
instance : ZerV Tryz.prog 81 (.nilFunc) := ⟨by kernel_rfl⟩
instance : Zer Tryz.prog 81 [.nilFunc] := ⟨⟨(.nilFunc : Value), by kernel_rfl, rfl, List.all_eq_true.1 rfl⟩⟩
instance : IsA Tryz.prog 83 false := ⟨⟨_, Tryz.underlying83, rfl⟩⟩
instance : Siz Tryz.prog 83 1 := ⟨by kernel_rfl⟩
instance : Byt Tryz.prog 83 8 := ⟨by kernel_rfl⟩
instance : ZerV Tryz.prog 83 (.nilFunc) := ⟨by kernel_rfl⟩
instance : Zer Tryz.prog 83 [.nilFunc] := ⟨⟨(.nilFunc : Value), by kernel_rfl, rfl, List.all_eq_true.1 rfl⟩⟩
instance : Und Tryz.prog 86 (.map 87 3) := ⟨Tryz.underlying86⟩
instance : IsA Tryz.prog 86 false := ⟨⟨_, Tryz.underlying86, rfl⟩⟩
instance : Siz Tryz.prog 86 1 := ⟨by kernel_rfl⟩
instance : Byt Tryz.prog 86 8 := ⟨by kernel_rfl⟩
instance : ZerV Tryz.prog 86 (.map none) := ⟨by kernel_rfl⟩
instance : Zer Tryz.prog 86 [.map none] := ⟨⟨(.map none : Value), by kernel_rfl, rfl, List.all_eq_true.1 rfl⟩⟩
instance : Und Tryz.prog 87 (.array 2 3) := ⟨Tryz.underlying87⟩
instance : IsA Tryz.prog 87 true := ⟨⟨_, Tryz.underlying87, rfl⟩⟩
instance : Siz Tryz.prog 87 2 := ⟨by kernel_rfl⟩
instance : Byt Tryz.prog 87 16 := ⟨by kernel_rfl⟩
instance : ZerV Tryz.prog 87 (.agg #[.int .i64 0, .int .i64 0]) := ⟨by kernel_rfl⟩
instance : Zer Tryz.prog 87 [.int .i64 0, .int .i64 0] := ⟨⟨(.agg #[.int .i64 0, .int .i64 0] : Value), by kernel_rfl, rfl, List.all_eq_true.1 rfl⟩⟩
instance : Und Tryz.prog 96 (.slice 4) := ⟨Tryz.underlying96⟩
instance : IsA Tryz.prog 96 false := ⟨⟨_, Tryz.underlying96, rfl⟩⟩
instance : Siz Tryz.prog 96 1 := ⟨by kernel_rfl⟩
instance : Byt Tryz.prog 96 24 := ⟨by kernel_rfl⟩
instance : ZerV Tryz.prog 96 (.slice none 0 0) := ⟨by kernel_rfl⟩
instance : Zer Tryz.prog 96 [.slice none 0 0] := ⟨⟨(.slice none 0 0 : Value), by kernel_rfl, rfl, List.all_eq_true.1 rfl⟩⟩
instance : Und Tryz.prog 100 (.int .u64) := ⟨Tryz.underlying100⟩
instance : IsA Tryz.prog 100 false := ⟨⟨_, Tryz.underlying100, rfl⟩⟩
instance : Siz Tryz.prog 100 1 := ⟨by kernel_rfl⟩
instance : Byt Tryz.prog 100 8 := ⟨by kernel_rfl⟩
instance : ZerV Tryz.prog 100 (.int .u64 0) := ⟨by kernel_rfl⟩
instance : Zer Tryz.prog 100 [.int .u64 0] := ⟨⟨(.int .u64 0 : Value), by kernel_rfl, rfl, List.all_eq_true.1 rfl⟩⟩
instance : Und Tryz.prog 102 (.map 9 4) := ⟨Tryz.underlying102⟩
instance : IsA Tryz.prog 102 false := ⟨⟨_, Tryz.underlying102, rfl⟩⟩
instance : Siz Tryz.prog 102 1 := ⟨by kernel_rfl⟩
instance : Byt Tryz.prog 102 8 := ⟨by kernel_rfl⟩
instance : ZerV Tryz.prog 102 (.map none) := ⟨by kernel_rfl⟩
instance : Zer Tryz.prog 102 [.map none] := ⟨⟨(.map none : Value), by kernel_rfl, rfl, List.all_eq_true.1 rfl⟩⟩
instance : IsA Tryz.prog 105 false := ⟨⟨_, Tryz.underlying105, rfl⟩⟩
instance : Siz Tryz.prog 105 1 := ⟨by kernel_rfl⟩
instance : Byt Tryz.prog 105 8 := ⟨by kernel_rfl⟩
instance : ZerV Tryz.prog 105 (.nilFunc) := ⟨by kernel_rfl⟩
instance : Zer Tryz.prog 105 [.nilFunc] := ⟨⟨(.nilFunc : Value), by kernel_rfl, rfl, List.all_eq_true.1 rfl⟩⟩
instance : IsA Tryz.prog 107 false := ⟨⟨_, Tryz.underlying107, rfl⟩⟩
instance : Siz Tryz.prog 107 1 := ⟨by kernel_rfl⟩
instance : Byt Tryz.prog 107 8 := ⟨by kernel_rfl⟩
instance : ZerV Tryz.prog 107 (.nilFunc) := ⟨by kernel_rfl⟩
instance : Zer Tryz.prog 107 [.nilFunc] := ⟨⟨(.nilFunc : Value), by kernel_rfl, rfl, List.all_eq_true.1 rfl⟩⟩
instance : IsA Tryz.prog 109 false := ⟨⟨_, Tryz.underlying109, rfl⟩⟩
instance : Siz Tryz.prog 109 1 := ⟨by kernel_rfl⟩
instance : Byt Tryz.prog 109 8 := ⟨by kernel_rfl⟩
instance : ZerV Tryz.prog 109 (.nilFunc) := ⟨by kernel_rfl⟩
instance : Zer Tryz.prog 109 [.nilFunc] := ⟨⟨(.nilFunc : Value), by kernel_rfl, rfl, List.all_eq_true.1 rfl⟩⟩
instance : IsA Tryz.prog 111 false := ⟨⟨_, Tryz.underlying111, rfl⟩⟩
instance : Siz Tryz.prog 111 1 := ⟨by kernel_rfl⟩
instance : Byt Tryz.prog 111 8 := ⟨by kernel_rfl⟩
instance : ZerV Tryz.prog 111 (.nilFunc) := ⟨by kernel_rfl⟩
instance : Zer Tryz.prog 111 [.nilFunc] := ⟨⟨(.nilFunc : Value), by kernel_rfl, rfl, List.all_eq_true.1 rfl⟩⟩
instance : IsA Tryz.prog 113 false := ⟨⟨_, Tryz.underlying113, rfl⟩⟩
instance : Siz Tryz.prog 113 1 := ⟨by kernel_rfl⟩
instance : Byt Tryz.prog 113 8 := ⟨by kernel_rfl⟩
instance : ZerV Tryz.prog 113 (.nilFunc) := ⟨by kernel_rfl⟩
instance : Zer Tryz.prog 113 [.nilFunc] := ⟨⟨(.nilFunc : Value), by kernel_rfl, rfl, List.all_eq_true.1 rfl⟩⟩
instance : IsA Tryz.prog 114 false := ⟨⟨_, Tryz.underlying114, rfl⟩⟩
instance : Siz Tryz.prog 114 1 := ⟨by kernel_rfl⟩
instance : Byt Tryz.prog 114 8 := ⟨by kernel_rfl⟩
instance : ZerV Tryz.prog 114 (.nilFunc) := ⟨by kernel_rfl⟩
instance : Zer Tryz.prog 114 [.nilFunc] := ⟨⟨(.nilFunc : Value), by kernel_rfl, rfl, List.all_eq_true.1 rfl⟩⟩
instance : IsA Tryz.prog 115 false := ⟨⟨_, Tryz.underlying115, rfl⟩⟩
instance : Siz Tryz.prog 115 1 := ⟨by kernel_rfl⟩
instance : Byt Tryz.prog 115 8 := ⟨by kernel_rfl⟩
instance : ZerV Tryz.prog 115 (.nilFunc) := ⟨by kernel_rfl⟩
instance : Zer Tryz.prog 115 [.nilFunc] := ⟨⟨(.nilFunc : Value), by kernel_rfl, rfl, List.all_eq_true.1 rfl⟩⟩
instance : Und Tryz.prog 116 (.pointer 36) := ⟨Tryz.underlying116⟩
instance : IsA Tryz.prog 116 false := ⟨⟨_, Tryz.underlying116, rfl⟩⟩
instance : Siz Tryz.prog 116 1 := ⟨by kernel_rfl⟩
instance : Byt Tryz.prog 116 8 := ⟨by kernel_rfl⟩
instance : ZerV Tryz.prog 116 (.pointer none) := ⟨by kernel_rfl⟩
instance : Zer Tryz.prog 116 [.pointer none] := ⟨⟨(.pointer none : Value), by kernel_rfl, rfl, List.all_eq_true.1 rfl⟩⟩
instance : IsA Tryz.prog 117 false := ⟨⟨_, Tryz.underlying117, rfl⟩⟩
instance : Siz Tryz.prog 117 1 := ⟨by kernel_rfl⟩
instance : Byt Tryz.prog 117 8 := ⟨by kernel_rfl⟩
instance : ZerV Tryz.prog 117 (.nilFunc) := ⟨by kernel_rfl⟩
instance : Zer Tryz.prog 117 [.nilFunc] := ⟨⟨(.nilFunc : Value), by kernel_rfl, rfl, List.all_eq_true.1 rfl⟩⟩
instance : Und Tryz.prog 118 (.pointer 39) := ⟨Tryz.underlying118⟩
instance : IsA Tryz.prog 118 false := ⟨⟨_, Tryz.underlying118, rfl⟩⟩
instance : Siz Tryz.prog 118 1 := ⟨by kernel_rfl⟩
instance : Byt Tryz.prog 118 8 := ⟨by kernel_rfl⟩
instance : ZerV Tryz.prog 118 (.pointer none) := ⟨by kernel_rfl⟩
instance : Zer Tryz.prog 118 [.pointer none] := ⟨⟨(.pointer none : Value), by kernel_rfl, rfl, List.all_eq_true.1 rfl⟩⟩
instance : Und Tryz.prog 119 (.pointer 64) := ⟨Tryz.underlying119⟩
instance : IsA Tryz.prog 119 false := ⟨⟨_, Tryz.underlying119, rfl⟩⟩
instance : Siz Tryz.prog 119 1 := ⟨by kernel_rfl⟩
instance : Byt Tryz.prog 119 8 := ⟨by kernel_rfl⟩
instance : ZerV Tryz.prog 119 (.pointer none) := ⟨by kernel_rfl⟩
instance : Zer Tryz.prog 119 [.pointer none] := ⟨⟨(.pointer none : Value), by kernel_rfl, rfl, List.all_eq_true.1 rfl⟩⟩
instance : Und Tryz.prog 127 (.int .i64) := ⟨Tryz.underlying127⟩
instance : IsA Tryz.prog 127 false := ⟨⟨_, Tryz.underlying127, rfl⟩⟩
instance : Siz Tryz.prog 127 1 := ⟨by kernel_rfl⟩
instance : Byt Tryz.prog 127 8 := ⟨by kernel_rfl⟩
instance : ZerV Tryz.prog 127 (.int .i64 0) := ⟨by kernel_rfl⟩
instance : Zer Tryz.prog 127 [.int .i64 0] := ⟨⟨(.int .i64 0 : Value), by kernel_rfl, rfl, List.all_eq_true.1 rfl⟩⟩
instance : Und Tryz.prog 134 (.int .u32) := ⟨Tryz.underlying134⟩
instance : IsA Tryz.prog 134 false := ⟨⟨_, Tryz.underlying134, rfl⟩⟩
instance : Siz Tryz.prog 134 1 := ⟨by kernel_rfl⟩
instance : Byt Tryz.prog 134 4 := ⟨by kernel_rfl⟩
instance : ZerV Tryz.prog 134 (.int .u32 0) := ⟨by kernel_rfl⟩
instance : Zer Tryz.prog 134 [.int .u32 0] := ⟨⟨(.int .u32 0 : Value), by kernel_rfl, rfl, List.all_eq_true.1 rfl⟩⟩
instance : Und Tryz.prog 136 (.int .u64) := ⟨Tryz.underlying136⟩
instance : IsA Tryz.prog 136 false := ⟨⟨_, Tryz.underlying136, rfl⟩⟩
instance : Siz Tryz.prog 136 1 := ⟨by kernel_rfl⟩
instance : Byt Tryz.prog 136 8 := ⟨by kernel_rfl⟩
instance : ZerV Tryz.prog 136 (.int .u64 0) := ⟨by kernel_rfl⟩
instance : Zer Tryz.prog 136 [.int .u64 0] := ⟨⟨(.int .u64 0 : Value), by kernel_rfl, rfl, List.all_eq_true.1 rfl⟩⟩
instance : IsA Tryz.prog 137 false := ⟨⟨_, Tryz.underlying137, rfl⟩⟩
instance : Siz Tryz.prog 137 1 := ⟨by kernel_rfl⟩
instance : Byt Tryz.prog 137 8 := ⟨by kernel_rfl⟩
instance : ZerV Tryz.prog 137 (.nilFunc) := ⟨by kernel_rfl⟩
instance : Zer Tryz.prog 137 [.nilFunc] := ⟨⟨(.nilFunc : Value), by kernel_rfl, rfl, List.all_eq_true.1 rfl⟩⟩
instance : IsA Tryz.prog 140 false := ⟨⟨_, Tryz.underlying140, rfl⟩⟩
instance : Siz Tryz.prog 140 1 := ⟨by kernel_rfl⟩
instance : Byt Tryz.prog 140 8 := ⟨by kernel_rfl⟩
instance : ZerV Tryz.prog 140 (.nilFunc) := ⟨by kernel_rfl⟩
instance : Zer Tryz.prog 140 [.nilFunc] := ⟨⟨(.nilFunc : Value), by kernel_rfl, rfl, List.all_eq_true.1 rfl⟩⟩
instance : IsA Tryz.prog 142 false := ⟨⟨_, Tryz.underlying142, rfl⟩⟩
instance : Siz Tryz.prog 142 1 := ⟨by kernel_rfl⟩
instance : Byt Tryz.prog 142 8 := ⟨by kernel_rfl⟩
instance : ZerV Tryz.prog 142 (.nilFunc) := ⟨by kernel_rfl⟩
instance : Zer Tryz.prog 142 [.nilFunc] := ⟨⟨(.nilFunc : Value), by kernel_rfl, rfl, List.all_eq_true.1 rfl⟩⟩
instance : Und Tryz.prog 144 (.array 7 140) := ⟨Tryz.underlying144⟩
instance : IsA Tryz.prog 144 true := ⟨⟨_, Tryz.underlying144, rfl⟩⟩
instance : Siz Tryz.prog 144 7 := ⟨by kernel_rfl⟩
instance : Byt Tryz.prog 144 56 := ⟨by kernel_rfl⟩
instance : ZerV Tryz.prog 144 (.agg #[.nilFunc, .nilFunc, .nilFunc, .nilFunc, .nilFunc, .nilFunc, .nilFunc]) := ⟨by kernel_rfl⟩
instance : Zer Tryz.prog 144 [.nilFunc, .nilFunc, .nilFunc, .nilFunc, .nilFunc, .nilFunc, .nilFunc] := ⟨⟨(.agg #[.nilFunc, .nilFunc, .nilFunc, .nilFunc, .nilFunc, .nilFunc, .nilFunc] : Value), by kernel_rfl, rfl, List.all_eq_true.1 rfl⟩⟩
instance : Und Tryz.prog 148 (.int .u64) := ⟨Tryz.underlying148⟩
instance : IsA Tryz.prog 148 false := ⟨⟨_, Tryz.underlying148, rfl⟩⟩
instance : Siz Tryz.prog 148 1 := ⟨by kernel_rfl⟩
instance : Byt Tryz.prog 148 8 := ⟨by kernel_rfl⟩
instance : ZerV Tryz.prog 148 (.int .u64 0) := ⟨by kernel_rfl⟩
instance : Zer Tryz.prog 148 [.int .u64 0] := ⟨⟨(.int .u64 0 : Value), by kernel_rfl, rfl, List.all_eq_true.1 rfl⟩⟩
instance : IsA Tryz.prog 153 false := ⟨⟨_, Tryz.underlying153, rfl⟩⟩
instance : Siz Tryz.prog 153 1 := ⟨by kernel_rfl⟩
instance : Byt Tryz.prog 153 8 := ⟨by kernel_rfl⟩
instance : ZerV Tryz.prog 153 (.nilFunc) := ⟨by kernel_rfl⟩
instance : Zer Tryz.prog 153 [.nilFunc] := ⟨⟨(.nilFunc : Value), by kernel_rfl, rfl, List.all_eq_true.1 rfl⟩⟩
instance : IsA Tryz.prog 154 false := ⟨⟨_, Tryz.underlying154, rfl⟩⟩
instance : Siz Tryz.prog 154 1 := ⟨by kernel_rfl⟩
instance : Byt Tryz.prog 154 8 := ⟨by kernel_rfl⟩
instance : ZerV Tryz.prog 154 (.nilFunc) := ⟨by kernel_rfl⟩
instance : Zer Tryz.prog 154 [.nilFunc] := ⟨⟨(.nilFunc : Value), by kernel_rfl, rfl, List.all_eq_true.1 rfl⟩⟩
instance : IsA Tryz.prog 156 false := ⟨⟨_, Tryz.underlying156, rfl⟩⟩
instance : Siz Tryz.prog 156 1 := ⟨by kernel_rfl⟩
instance : Byt Tryz.prog 156 8 := ⟨by kernel_rfl⟩
instance : ZerV Tryz.prog 156 (.nilFunc) := ⟨by kernel_rfl⟩
instance : Zer Tryz.prog 156 [.nilFunc] := ⟨⟨(.nilFunc : Value), by kernel_rfl, rfl, List.all_eq_true.1 rfl⟩⟩
instance : Und Tryz.prog 163 (.pointer 148) := ⟨Tryz.underlying163⟩
instance : IsA Tryz.prog 163 false := ⟨⟨_, Tryz.underlying163, rfl⟩⟩
instance : Siz Tryz.prog 163 1 := ⟨by kernel_rfl⟩
instance : Byt Tryz.prog 163 8 := ⟨by kernel_rfl⟩
instance : ZerV Tryz.prog 163 (.pointer none) := ⟨by kernel_rfl⟩
instance : Zer Tryz.prog 163 [.pointer none] := ⟨⟨(.pointer none : Value), by kernel_rfl, rfl, List.all_eq_true.1 rfl⟩⟩
instance : IsA Tryz.prog 166 false := ⟨⟨_, Tryz.underlying166, rfl⟩⟩
instance : Siz Tryz.prog 166 1 := ⟨by kernel_rfl⟩
instance : Byt Tryz.prog 166 8 := ⟨by kernel_rfl⟩
instance : ZerV Tryz.prog 166 (.nilFunc) := ⟨by kernel_rfl⟩
instance : Zer Tryz.prog 166 [.nilFunc] := ⟨⟨(.nilFunc : Value), by kernel_rfl, rfl, List.all_eq_true.1 rfl⟩⟩
instance : Und Tryz.prog 168 (.array 256 5) := ⟨Tryz.underlying168⟩
instance : IsA Tryz.prog 168 true := ⟨⟨_, Tryz.underlying168, rfl⟩⟩
instance : Siz Tryz.prog 168 256 := ⟨by kernel_rfl⟩
instance : Byt Tryz.prog 168 256 := ⟨by kernel_rfl⟩
instance : IsA Tryz.prog 169 true := ⟨⟨_, Tryz.underlying169, rfl⟩⟩
instance : Siz Tryz.prog 169 2 := ⟨by kernel_rfl⟩
instance : Byt Tryz.prog 169 2 := ⟨by kernel_rfl⟩
instance : ZerV Tryz.prog 169 (.agg #[.int .u8 0, .int .u8 0]) := ⟨by kernel_rfl⟩
instance : Zer Tryz.prog 169 [.int .u8 0, .int .u8 0] := ⟨⟨(.agg #[.int .u8 0, .int .u8 0] : Value), by kernel_rfl, rfl, List.all_eq_true.1 rfl⟩⟩
instance : Fld Tryz.prog 169 0 0 5 := ⟨⟨_, _, Tryz.underlying169, rfl, rfl, rfl⟩⟩
instance : Fld Tryz.prog 169 1 1 5 := ⟨⟨_, _, Tryz.underlying169, rfl, rfl, rfl⟩⟩
instance : Plc Tryz.prog 169 [(0, 1), (1, 1)] := ⟨⟨_, Tryz.underlying169, by kernel_rfl⟩⟩
instance : IsA Tryz.prog 170 true := ⟨⟨_, Tryz.underlying170, rfl⟩⟩
instance : Siz Tryz.prog 170 2 := ⟨by kernel_rfl⟩
instance : Byt Tryz.prog 170 2 := ⟨by kernel_rfl⟩
instance : ZerV Tryz.prog 170 (.agg #[.int .u8 0, .int .u8 0]) := ⟨by kernel_rfl⟩
instance : Zer Tryz.prog 170 [.int .u8 0, .int .u8 0] := ⟨⟨(.agg #[.int .u8 0, .int .u8 0] : Value), by kernel_rfl, rfl, List.all_eq_true.1 rfl⟩⟩
instance : Fld Tryz.prog 170 0 0 5 := ⟨⟨_, _, Tryz.underlying170, rfl, rfl, rfl⟩⟩
instance : Fld Tryz.prog 170 1 1 5 := ⟨⟨_, _, Tryz.underlying170, rfl, rfl, rfl⟩⟩
instance : Plc Tryz.prog 170 [(0, 1), (1, 1)] := ⟨⟨_, Tryz.underlying170, by kernel_rfl⟩⟩
instance : Und Tryz.prog 171 (.array 16 170) := ⟨Tryz.underlying171⟩
instance : IsA Tryz.prog 171 true := ⟨⟨_, Tryz.underlying171, rfl⟩⟩
instance : Siz Tryz.prog 171 32 := ⟨by kernel_rfl⟩
instance : Byt Tryz.prog 171 32 := ⟨by kernel_rfl⟩
instance : ZerV Tryz.prog 171 (.agg #[.int .u8 0, .int .u8 0, .int .u8 0, .int .u8 0, .int .u8 0, .int .u8 0, .int .u8 0, .int .u8 0, .int .u8 0, .int .u8 0, .int .u8 0, .int .u8 0, .int .u8 0, .int .u8 0, .int .u8 0, .int .u8 0, .int .u8 0, .int .u8 0, .int .u8 0, .int .u8 0, .int .u8 0, .int .u8 0, .int .u8 0, .int .u8 0, .int .u8 0, .int .u8 0, .int .u8 0, .int .u8 0, .int .u8 0, .int .u8 0, .int .u8 0, .int .u8 0]) := ⟨by kernel_rfl⟩
instance : Zer Tryz.prog 171 [.int .u8 0, .int .u8 0, .int .u8 0, .int .u8 0, .int .u8 0, .int .u8 0, .int .u8 0, .int .u8 0, .int .u8 0, .int .u8 0, .int .u8 0, .int .u8 0, .int .u8 0, .int .u8 0, .int .u8 0, .int .u8 0, .int .u8 0, .int .u8 0, .int .u8 0, .int .u8 0, .int .u8 0, .int .u8 0, .int .u8 0, .int .u8 0, .int .u8 0, .int .u8 0, .int .u8 0, .int .u8 0, .int .u8 0, .int .u8 0, .int .u8 0, .int .u8 0] := ⟨⟨(.agg #[.int .u8 0, .int .u8 0, .int .u8 0, .int .u8 0, .int .u8 0, .int .u8 0, .int .u8 0, .int .u8 0, .int .u8 0, .int .u8 0, .int .u8 0, .int .u8 0, .int .u8 0, .int .u8 0, .int .u8 0, .int .u8 0, .int .u8 0, .int .u8 0, .int .u8 0, .int .u8 0, .int .u8 0, .int .u8 0, .int .u8 0, .int .u8 0, .int .u8 0, .int .u8 0, .int .u8 0, .int .u8 0, .int .u8 0, .int .u8 0, .int .u8 0, .int .u8 0] : Value), by kernel_rfl, rfl, List.all_eq_true.1 rfl⟩⟩
instance : Mixed Tryz.prog := ⟨by kernel_rfl⟩
theorem eqT35 (n : Nat) (w : World) (a b c d : Int) : (Op.equalIn (n + 2) 35 (.agg #[.int .i64 a, .int .i64 b]) (.agg #[.int .i64 c, .int .i64 d])).run Tryz.prog w = .ok (a == c && b == d) w := by
  rw [run_equalIn_struct w (n + 1) 35 _ _ (by kernel_rfl) (by kernel_rfl)]
  simp only [Program.fieldsOf, Tryz.underlying35]
  simp [Op.eqFields, part, run_equalIn_int _ n 3 .i64 .i64 _ _ Tryz.underlying3]
  by_cases h1 : a = c <;> by_cases h2 : b = d <;> simp [h1, h2]
instance : EqInts Tryz.prog 35 2 := .mk2 (by kernel_rfl) (eqT35 9998)
theorem eqT36 (n : Nat) (w : World) (a b c d : Int) : (Op.equalIn (n + 2) 36 (.agg #[.int .i64 a, .int .i64 b]) (.agg #[.int .i64 c, .int .i64 d])).run Tryz.prog w = .ok (a == c && b == d) w := by
  rw [run_equalIn_struct w (n + 1) 36 _ _ (by kernel_rfl) (by kernel_rfl)]
  simp only [Program.fieldsOf, Tryz.underlying36]
  simp [Op.eqFields, part, run_equalIn_int _ n 3 .i64 .i64 _ _ Tryz.underlying3]
  by_cases h1 : a = c <;> by_cases h2 : b = d <;> simp [h1, h2]
instance : EqInts Tryz.prog 36 2 := .mk2 (by kernel_rfl) (eqT36 9998)
instance : EqInts Tryz.prog 58 3 := .mk3 (by kernel_rfl) fun w a b c d e f => by
  rw [run_equalIn_struct w 9999 58 _ _ (by kernel_rfl) (by kernel_rfl)]
  simp only [Program.fieldsOf, Tryz.underlying58]
  simp [Op.eqFields, part, run_equalIn_int _ 9998 3 .i64 .i64 _ _ Tryz.underlying3, eqT36 9997]
  by_cases h1 : a = d <;> by_cases h2 : b = e <;> by_cases h3 : c = f <;> simp [h1, h2, h3]
instance : EqInts Tryz.prog 59 3 := .mk3 (by kernel_rfl) fun w a b c d e f => by
  rw [run_equalIn_struct w 9999 59 _ _ (by kernel_rfl) (by kernel_rfl)]
  simp only [Program.fieldsOf, Tryz.underlying59]
  simp [Op.eqFields, part, run_equalIn_int _ 9998 3 .i64 .i64 _ _ Tryz.underlying3, eqT36 9997]
  by_cases h1 : a = d <;> by_cases h2 : b = e <;> by_cases h3 : c = f <;> simp [h1, h2, h3]
theorem eqT66 (n : Nat) (w : World) (a b c d : Int) : (Op.equalIn (n + 2) 66 (.agg #[.int .i64 a, .int .i64 b]) (.agg #[.int .i64 c, .int .i64 d])).run Tryz.prog w = .ok (a == c && b == d) w := by
  rw [run_equalIn_struct w (n + 1) 66 _ _ (by kernel_rfl) (by kernel_rfl)]
  simp only [Program.fieldsOf, Tryz.underlying66]
  simp [Op.eqFields, part, run_equalIn_int _ n 3 .i64 .i64 _ _ Tryz.underlying3]
  by_cases h1 : a = c <;> by_cases h2 : b = d <;> simp [h1, h2]
instance : EqInts Tryz.prog 66 2 := .mk2 (by kernel_rfl) (eqT66 9998)
theorem eqT67 (n : Nat) (w : World) (a b c d : Int) : (Op.equalIn (n + 2) 67 (.agg #[.int .i64 a, .int .i64 b]) (.agg #[.int .i64 c, .int .i64 d])).run Tryz.prog w = .ok (a == c && b == d) w := by
  rw [run_equalIn_struct w (n + 1) 67 _ _ (by kernel_rfl) (by kernel_rfl)]
  simp only [Program.fieldsOf, Tryz.underlying67]
  simp [Op.eqFields, part, run_equalIn_int _ n 3 .i64 .i64 _ _ Tryz.underlying3]
  by_cases h1 : a = c <;> by_cases h2 : b = d <;> simp [h1, h2]
instance : EqInts Tryz.prog 67 2 := .mk2 (by kernel_rfl) (eqT67 9998)
theorem eqT87 (n : Nat) (w : World) (a b c d : Int) : (Op.equalIn (n + 2) 87 (.agg #[.int .i64 a, .int .i64 b]) (.agg #[.int .i64 c, .int .i64 d])).run Tryz.prog w = .ok (a == c && b == d) w := by
  rw [Op.equalIn]
  simp only [Sem.run_bind, Go.run_underlying Tryz.underlying87, Result.andThen_ok, Ab.run_sizeOf (P := Tryz.prog) (T := 3) (n := 1)]
  simp [part, run_equalIn_int _ n 3 .i64 .i64 _ _ Tryz.underlying3, Std.Legacy.Range.forIn_eq_forIn_range', List.range'_succ]
  by_cases h1 : a = c <;> by_cases h2 : b = d <;> simp [h1, h2]
instance : EqInts Tryz.prog 87 2 := .mk2 (by kernel_rfl) (eqT87 9998)
instance : Chk2 Tryz.prog 87 := ⟨fun e w a b => by kernel_rfl⟩
instance : Enters Tryz.prog 3 := ⟨⟨_, Tryz.func3, by kernel_rfl, by kernel_rfl⟩⟩
instance : Enters Tryz.prog 4 := ⟨⟨_, Tryz.func4, by kernel_rfl, by kernel_rfl⟩⟩
instance : Enters Tryz.prog 5 := ⟨⟨_, Tryz.func5, by kernel_rfl, by kernel_rfl⟩⟩
instance : Enters Tryz.prog 6 := ⟨⟨_, Tryz.func6, by kernel_rfl, by kernel_rfl⟩⟩
instance : Enters Tryz.prog 7 := ⟨⟨_, Tryz.func7, by kernel_rfl, by kernel_rfl⟩⟩
instance : Enters Tryz.prog 8 := ⟨⟨_, Tryz.func8, by kernel_rfl, by kernel_rfl⟩⟩
instance : Enters Tryz.prog 9 := ⟨⟨_, Tryz.func9, by kernel_rfl, by kernel_rfl⟩⟩
instance : Enters Tryz.prog 10 := ⟨⟨_, Tryz.func10, by kernel_rfl, by kernel_rfl⟩⟩
instance : Enters Tryz.prog 11 := ⟨⟨_, Tryz.func11, by kernel_rfl, by kernel_rfl⟩⟩
instance : Enters Tryz.prog 12 := ⟨⟨_, Tryz.func12, by kernel_rfl, by kernel_rfl⟩⟩
instance : Enters Tryz.prog 13 := ⟨⟨_, Tryz.func13, by kernel_rfl, by kernel_rfl⟩⟩
instance : Enters Tryz.prog 14 := ⟨⟨_, Tryz.func14, by kernel_rfl, by kernel_rfl⟩⟩
instance : Enters Tryz.prog 15 := ⟨⟨_, Tryz.func15, by kernel_rfl, by kernel_rfl⟩⟩
instance : Enters Tryz.prog 16 := ⟨⟨_, Tryz.func16, by kernel_rfl, by kernel_rfl⟩⟩
instance : Enters Tryz.prog 17 := ⟨⟨_, Tryz.func17, by kernel_rfl, by kernel_rfl⟩⟩
instance : Enters Tryz.prog 18 := ⟨⟨_, Tryz.func18, by kernel_rfl, by kernel_rfl⟩⟩
instance : Enters Tryz.prog 19 := ⟨⟨_, Tryz.func19, by kernel_rfl, by kernel_rfl⟩⟩
instance : Enters Tryz.prog 20 := ⟨⟨_, Tryz.func20, by kernel_rfl, by kernel_rfl⟩⟩
instance : Enters Tryz.prog 21 := ⟨⟨_, Tryz.func21, by kernel_rfl, by kernel_rfl⟩⟩
instance : Enters Tryz.prog 22 := ⟨⟨_, Tryz.func22, by kernel_rfl, by kernel_rfl⟩⟩
instance : Enters Tryz.prog 23 := ⟨⟨_, Tryz.func23, by kernel_rfl, by kernel_rfl⟩⟩
instance : Enters Tryz.prog 24 := ⟨⟨_, Tryz.func24, by kernel_rfl, by kernel_rfl⟩⟩
instance : Enters Tryz.prog 25 := ⟨⟨_, Tryz.func25, by kernel_rfl, by kernel_rfl⟩⟩
instance : Enters Tryz.prog 26 := ⟨⟨_, Tryz.func26, by kernel_rfl, by kernel_rfl⟩⟩
instance : Enters Tryz.prog 27 := ⟨⟨_, Tryz.func27, by kernel_rfl, by kernel_rfl⟩⟩
instance : Enters Tryz.prog 28 := ⟨⟨_, Tryz.func28, by kernel_rfl, by kernel_rfl⟩⟩
instance : Enters Tryz.prog 29 := ⟨⟨_, Tryz.func29, by kernel_rfl, by kernel_rfl⟩⟩
instance : Enters Tryz.prog 30 := ⟨⟨_, Tryz.func30, by kernel_rfl, by kernel_rfl⟩⟩
instance : Enters Tryz.prog 31 := ⟨⟨_, Tryz.func31, by kernel_rfl, by kernel_rfl⟩⟩
instance : Enters Tryz.prog 32 := ⟨⟨_, Tryz.func32, by kernel_rfl, by kernel_rfl⟩⟩
instance : Enters Tryz.prog 33 := ⟨⟨_, Tryz.func33, by kernel_rfl, by kernel_rfl⟩⟩
instance : Enters Tryz.prog 34 := ⟨⟨_, Tryz.func34, by kernel_rfl, by kernel_rfl⟩⟩
instance : Enters Tryz.prog 35 := ⟨⟨_, Tryz.func35, by kernel_rfl, by kernel_rfl⟩⟩
instance : Enters Tryz.prog 36 := ⟨⟨_, Tryz.func36, by kernel_rfl, by kernel_rfl⟩⟩
instance : Enters Tryz.prog 37 := ⟨⟨_, Tryz.func37, by kernel_rfl, by kernel_rfl⟩⟩
instance : Enters Tryz.prog 38 := ⟨⟨_, Tryz.func38, by kernel_rfl, by kernel_rfl⟩⟩
instance : Enters Tryz.prog 39 := ⟨⟨_, Tryz.func39, by kernel_rfl, by kernel_rfl⟩⟩
instance : Enters Tryz.prog 40 := ⟨⟨_, Tryz.func40, by kernel_rfl, by kernel_rfl⟩⟩
instance : Enters Tryz.prog 41 := ⟨⟨_, Tryz.func41, by kernel_rfl, by kernel_rfl⟩⟩
instance : Enters Tryz.prog 42 := ⟨⟨_, Tryz.func42, by kernel_rfl, by kernel_rfl⟩⟩
instance : Enters Tryz.prog 43 := ⟨⟨_, Tryz.func43, by kernel_rfl, by kernel_rfl⟩⟩
instance : Enters Tryz.prog 44 := ⟨⟨_, Tryz.func44, by kernel_rfl, by kernel_rfl⟩⟩
instance : Enters Tryz.prog 45 := ⟨⟨_, Tryz.func45, by kernel_rfl, by kernel_rfl⟩⟩
instance : Enters Tryz.prog 46 := ⟨⟨_, Tryz.func46, by kernel_rfl, by kernel_rfl⟩⟩
instance : Enters Tryz.prog 47 := ⟨⟨_, Tryz.func47, by kernel_rfl, by kernel_rfl⟩⟩
instance : Enters Tryz.prog 48 := ⟨⟨_, Tryz.func48, by kernel_rfl, by kernel_rfl⟩⟩
instance : Enters Tryz.prog 49 := ⟨⟨_, Tryz.func49, by kernel_rfl, by kernel_rfl⟩⟩
instance : Enters Tryz.prog 50 := ⟨⟨_, Tryz.func50, by kernel_rfl, by kernel_rfl⟩⟩
instance : Enters Tryz.prog 51 := ⟨⟨_, Tryz.func51, by kernel_rfl, by kernel_rfl⟩⟩
instance : Enters Tryz.prog 52 := ⟨⟨_, Tryz.func52, by kernel_rfl, by kernel_rfl⟩⟩
instance : Enters Tryz.prog 53 := ⟨⟨_, Tryz.func53, by kernel_rfl, by kernel_rfl⟩⟩
instance : Enters Tryz.prog 54 := ⟨⟨_, Tryz.func54, by kernel_rfl, by kernel_rfl⟩⟩
instance : Enters Tryz.prog 55 := ⟨⟨_, Tryz.func55, by kernel_rfl, by kernel_rfl⟩⟩
instance : Enters Tryz.prog 56 := ⟨⟨_, Tryz.func56, by kernel_rfl, by kernel_rfl⟩⟩
instance : Enters Tryz.prog 57 := ⟨⟨_, Tryz.func57, by kernel_rfl, by kernel_rfl⟩⟩
instance : Enters Tryz.prog 58 := ⟨⟨_, Tryz.func58, by kernel_rfl, by kernel_rfl⟩⟩
instance : Enters Tryz.prog 59 := ⟨⟨_, Tryz.func59, by kernel_rfl, by kernel_rfl⟩⟩
instance : Enters Tryz.prog 60 := ⟨⟨_, Tryz.func60, by kernel_rfl, by kernel_rfl⟩⟩
instance : Enters Tryz.prog 61 := ⟨⟨_, Tryz.func61, by kernel_rfl, by kernel_rfl⟩⟩
instance : Enters Tryz.prog 62 := ⟨⟨_, Tryz.func62, by kernel_rfl, by kernel_rfl⟩⟩
instance : Enters Tryz.prog 63 := ⟨⟨_, Tryz.func63, by kernel_rfl, by kernel_rfl⟩⟩
instance : Enters Tryz.prog 64 := ⟨⟨_, Tryz.func64, by kernel_rfl, by kernel_rfl⟩⟩
instance : Enters Tryz.prog 65 := ⟨⟨_, Tryz.func65, by kernel_rfl, by kernel_rfl⟩⟩
instance : Enters Tryz.prog 66 := ⟨⟨_, Tryz.func66, by kernel_rfl, by kernel_rfl⟩⟩
instance : Enters Tryz.prog 67 := ⟨⟨_, Tryz.func67, by kernel_rfl, by kernel_rfl⟩⟩
instance : Enters Tryz.prog 68 := ⟨⟨_, Tryz.func68, by kernel_rfl, by kernel_rfl⟩⟩
instance : Enters Tryz.prog 69 := ⟨⟨_, Tryz.func69, by kernel_rfl, by kernel_rfl⟩⟩
instance : Enters Tryz.prog 70 := ⟨⟨_, Tryz.func70, by kernel_rfl, by kernel_rfl⟩⟩
instance : Enters Tryz.prog 71 := ⟨⟨_, Tryz.func71, by kernel_rfl, by kernel_rfl⟩⟩
instance : Enters Tryz.prog 72 := ⟨⟨_, Tryz.func72, by kernel_rfl, by kernel_rfl⟩⟩
instance : Enters Tryz.prog 73 := ⟨⟨_, Tryz.func73, by kernel_rfl, by kernel_rfl⟩⟩
instance : Enters Tryz.prog 74 := ⟨⟨_, Tryz.func74, by kernel_rfl, by kernel_rfl⟩⟩
instance : Enters Tryz.prog 75 := ⟨⟨_, Tryz.func75, by kernel_rfl, by kernel_rfl⟩⟩
instance : Enters Tryz.prog 76 := ⟨⟨_, Tryz.func76, by kernel_rfl, by kernel_rfl⟩⟩
instance : Enters Tryz.prog 77 := ⟨⟨_, Tryz.func77, by kernel_rfl, by kernel_rfl⟩⟩
instance : Enters Tryz.prog 78 := ⟨⟨_, Tryz.func78, by kernel_rfl, by kernel_rfl⟩⟩
instance : Enters Tryz.prog 79 := ⟨⟨_, Tryz.func79, by kernel_rfl, by kernel_rfl⟩⟩
instance : Enters Tryz.prog 80 := ⟨⟨_, Tryz.func80, by kernel_rfl, by kernel_rfl⟩⟩
instance : Enters Tryz.prog 81 := ⟨⟨_, Tryz.func81, by kernel_rfl, by kernel_rfl⟩⟩
instance : Enters Tryz.prog 82 := ⟨⟨_, Tryz.func82, by kernel_rfl, by kernel_rfl⟩⟩
instance : Enters Tryz.prog 83 := ⟨⟨_, Tryz.func83, by kernel_rfl, by kernel_rfl⟩⟩
instance : Enters Tryz.prog 84 := ⟨⟨_, Tryz.func84, by kernel_rfl, by kernel_rfl⟩⟩
instance : Enters Tryz.prog 85 := ⟨⟨_, Tryz.func85, by kernel_rfl, by kernel_rfl⟩⟩
instance : Enters Tryz.prog 86 := ⟨⟨_, Tryz.func86, by kernel_rfl, by kernel_rfl⟩⟩
instance : Enters Tryz.prog 87 := ⟨⟨_, Tryz.func87, by kernel_rfl, by kernel_rfl⟩⟩
instance : Enters Tryz.prog 88 := ⟨⟨_, Tryz.func88, by kernel_rfl, by kernel_rfl⟩⟩
instance : Enters Tryz.prog 89 := ⟨⟨_, Tryz.func89, by kernel_rfl, by kernel_rfl⟩⟩
instance : Enters Tryz.prog 90 := ⟨⟨_, Tryz.func90, by kernel_rfl, by kernel_rfl⟩⟩
instance : Enters Tryz.prog 91 := ⟨⟨_, Tryz.func91, by kernel_rfl, by kernel_rfl⟩⟩
instance : Enters Tryz.prog 92 := ⟨⟨_, Tryz.func92, by kernel_rfl, by kernel_rfl⟩⟩
instance : Enters Tryz.prog 93 := ⟨⟨_, Tryz.func93, by kernel_rfl, by kernel_rfl⟩⟩
instance : Enters Tryz.prog 94 := ⟨⟨_, Tryz.func94, by kernel_rfl, by kernel_rfl⟩⟩
instance : Enters Tryz.prog 95 := ⟨⟨_, Tryz.func95, by kernel_rfl, by kernel_rfl⟩⟩
instance : Enters Tryz.prog 96 := ⟨⟨_, Tryz.func96, by kernel_rfl, by kernel_rfl⟩⟩
instance : Enters Tryz.prog 97 := ⟨⟨_, Tryz.func97, by kernel_rfl, by kernel_rfl⟩⟩
instance : Enters Tryz.prog 98 := ⟨⟨_, Tryz.func98, by kernel_rfl, by kernel_rfl⟩⟩
instance : Enters Tryz.prog 99 := ⟨⟨_, Tryz.func99, by kernel_rfl, by kernel_rfl⟩⟩
instance : Enters Tryz.prog 100 := ⟨⟨_, Tryz.func100, by kernel_rfl, by kernel_rfl⟩⟩
instance : Enters Tryz.prog 101 := ⟨⟨_, Tryz.func101, by kernel_rfl, by kernel_rfl⟩⟩
instance : Enters Tryz.prog 102 := ⟨⟨_, Tryz.func102, by kernel_rfl, by kernel_rfl⟩⟩
instance : Enters Tryz.prog 103 := ⟨⟨_, Tryz.func103, by kernel_rfl, by kernel_rfl⟩⟩
instance : Enters Tryz.prog 104 := ⟨⟨_, Tryz.func104, by kernel_rfl, by kernel_rfl⟩⟩
instance : Enters Tryz.prog 105 := ⟨⟨_, Tryz.func105, by kernel_rfl, by kernel_rfl⟩⟩
instance : Enters Tryz.prog 106 := ⟨⟨_, Tryz.func106, by kernel_rfl, by kernel_rfl⟩⟩
instance : Enters Tryz.prog 107 := ⟨⟨_, Tryz.func107, by kernel_rfl, by kernel_rfl⟩⟩
instance : Enters Tryz.prog 108 := ⟨⟨_, Tryz.func108, by kernel_rfl, by kernel_rfl⟩⟩
instance : Enters Tryz.prog 109 := ⟨⟨_, Tryz.func109, by kernel_rfl, by kernel_rfl⟩⟩
instance : Enters Tryz.prog 110 := ⟨⟨_, Tryz.func110, by kernel_rfl, by kernel_rfl⟩⟩
instance : Enters Tryz.prog 111 := ⟨⟨_, Tryz.func111, by kernel_rfl, by kernel_rfl⟩⟩
instance : Enters Tryz.prog 112 := ⟨⟨_, Tryz.func112, by kernel_rfl, by kernel_rfl⟩⟩
instance : Enters Tryz.prog 113 := ⟨⟨_, Tryz.func113, by kernel_rfl, by kernel_rfl⟩⟩
instance : Enters Tryz.prog 114 := ⟨⟨_, Tryz.func114, by kernel_rfl, by kernel_rfl⟩⟩
instance : Enters Tryz.prog 115 := ⟨⟨_, Tryz.func115, by kernel_rfl, by kernel_rfl⟩⟩
instance : Enters Tryz.prog 116 := ⟨⟨_, Tryz.func116, by kernel_rfl, by kernel_rfl⟩⟩
instance : Enters Tryz.prog 117 := ⟨⟨_, Tryz.func117, by kernel_rfl, by kernel_rfl⟩⟩
instance : Enters Tryz.prog 118 := ⟨⟨_, Tryz.func118, by kernel_rfl, by kernel_rfl⟩⟩
instance : Enters Tryz.prog 119 := ⟨⟨_, Tryz.func119, by kernel_rfl, by kernel_rfl⟩⟩
instance : Enters Tryz.prog 120 := ⟨⟨_, Tryz.func120, by kernel_rfl, by kernel_rfl⟩⟩
instance : Enters Tryz.prog 121 := ⟨⟨_, Tryz.func121, by kernel_rfl, by kernel_rfl⟩⟩
instance : Enters Tryz.prog 122 := ⟨⟨_, Tryz.func122, by kernel_rfl, by kernel_rfl⟩⟩
instance : Enters Tryz.prog 123 := ⟨⟨_, Tryz.func123, by kernel_rfl, by kernel_rfl⟩⟩
instance : Enters Tryz.prog 124 := ⟨⟨_, Tryz.func124, by kernel_rfl, by kernel_rfl⟩⟩
instance : Enters Tryz.prog 125 := ⟨⟨_, Tryz.func125, by kernel_rfl, by kernel_rfl⟩⟩
instance : Enters Tryz.prog 126 := ⟨⟨_, Tryz.func126, by kernel_rfl, by kernel_rfl⟩⟩
instance : Enters Tryz.prog 127 := ⟨⟨_, Tryz.func127, by kernel_rfl, by kernel_rfl⟩⟩
instance : Enters Tryz.prog 128 := ⟨⟨_, Tryz.func128, by kernel_rfl, by kernel_rfl⟩⟩
instance : Enters Tryz.prog 129 := ⟨⟨_, Tryz.func129, by kernel_rfl, by kernel_rfl⟩⟩
instance : Enters Tryz.prog 130 := ⟨⟨_, Tryz.func130, by kernel_rfl, by kernel_rfl⟩⟩
instance : Enters Tryz.prog 131 := ⟨⟨_, Tryz.func131, by kernel_rfl, by kernel_rfl⟩⟩
instance : Enters Tryz.prog 132 := ⟨⟨_, Tryz.func132, by kernel_rfl, by kernel_rfl⟩⟩
instance : Enters Tryz.prog 133 := ⟨⟨_, Tryz.func133, by kernel_rfl, by kernel_rfl⟩⟩
instance : Enters Tryz.prog 134 := ⟨⟨_, Tryz.func134, by kernel_rfl, by kernel_rfl⟩⟩
instance : Enters Tryz.prog 135 := ⟨⟨_, Tryz.func135, by kernel_rfl, by kernel_rfl⟩⟩
instance : Enters Tryz.prog 136 := ⟨⟨_, Tryz.func136, by kernel_rfl, by kernel_rfl⟩⟩
instance : Enters Tryz.prog 137 := ⟨⟨_, Tryz.func137, by kernel_rfl, by kernel_rfl⟩⟩
instance : Enters Tryz.prog 138 := ⟨⟨_, Tryz.func138, by kernel_rfl, by kernel_rfl⟩⟩
instance : Enters Tryz.prog 139 := ⟨⟨_, Tryz.func139, by kernel_rfl, by kernel_rfl⟩⟩
instance : Enters Tryz.prog 140 := ⟨⟨_, Tryz.func140, by kernel_rfl, by kernel_rfl⟩⟩
instance : Enters Tryz.prog 141 := ⟨⟨_, Tryz.func141, by kernel_rfl, by kernel_rfl⟩⟩
end Go.Proofs
/- The decoding of runes. Conditions: none. -/
set_option linter.unusedVariables false
set_option linter.unusedSimpArgs false
set_option maxRecDepth 10000
namespace Go.Proofs
open Go Go.Ab
attribute [local irreducible] QR QV OE aops aw dsoup dsoupM dalloc dallocM thn inBlk
open Go.H
theorem decodeSlow240 (s : ByteArray) (hx : firstV (bt s 0).toNat = 240) : ACall Tryz.prog 141 [.v (.string s)] [.glob 1 168 firstC, .glob 2 171 acceptC] (fun r h' => h' = [.glob 1 168 firstC, .glob 2 171 acceptC] ∧ r = .tup [.v (.int .i32 (decSlow s).1), iv (decSlow s).2]) := by
  refine acall_of_aw Tryz.func141 rfl rfl rfl ?_
  refine rn ?_
  refine aw_cond rfl (fun hc16 => ?_) (fun hc16 => ?_)
  · refine rn ?_
    have hd : decSlow s = (65533, 0) := by
      unfold decSlow
      rw [if_pos (by simp at hc16; omega)]
    exact retq (.cons _ _ _ _ (.tmp _ _ rfl) (.cons _ _ _ _ (.tmp _ _ rfl) .nil)) (.refl _ _) ⟨rfl, by rw [hd]; rfl⟩
  · have h1 : 0 < s.size := by simp at hc16; omega
    refine rn ?_
    refine qq rfl rfl (qr_index_bt 0 rfl rfl (by omega)) ?_
    refine rn ?_
    refine qq rfl rfl (qr_indexAddr_int rfl rfl (bt_ge _ _) (bt_lt _ _)) ?_
    refine qq rfl rfl (qr_load_one rfl (show _ = some (.v (.int .u8 240)) from by rw [firstC_get (bt_ge s 0) (bt_lt s 0), hx])) ?_
    refine rn ?_
    refine aw_cond rfl (fun hc23 => ?_) (fun hc23 => ?_)
    · refine rn ?_
      refine qq rfl rfl (qr_index_bt 0 rfl rfl (by omega)) ?_
      refine rn ?_
      have hd : decSlow s = (bI .or .i32 (bI .andNot .i32 (IntKind.i32.wrap (bt s 0)) (decMask 240)) (bI .and .i32 65533 (decMask 240)), 1) := by
        unfold decSlow
        rw [if_neg (by omega)]
        simp only [hx]
        rw [if_pos (by decide)]
      exact retq (.cons _ _ _ _ (.tmp _ _ rfl) (.cons _ _ _ _ (.tmp _ _ rfl) .nil)) (.refl _ _) ⟨rfl, by rw [hd]; rfl⟩
    · first | cases hc23 | exact absurd hc23 (by decide) | (exfalso; simp_all; done)
theorem decodeSlow241 (s : ByteArray) (hx : firstV (bt s 0).toNat = 241) : ACall Tryz.prog 141 [.v (.string s)] [.glob 1 168 firstC, .glob 2 171 acceptC] (fun r h' => h' = [.glob 1 168 firstC, .glob 2 171 acceptC] ∧ r = .tup [.v (.int .i32 (decSlow s).1), iv (decSlow s).2]) := by
  refine acall_of_aw Tryz.func141 rfl rfl rfl ?_
  refine rn ?_
  refine aw_cond rfl (fun hc16 => ?_) (fun hc16 => ?_)
  · refine rn ?_
    have hd : decSlow s = (65533, 0) := by
      unfold decSlow
      rw [if_pos (by simp at hc16; omega)]
    exact retq (.cons _ _ _ _ (.tmp _ _ rfl) (.cons _ _ _ _ (.tmp _ _ rfl) .nil)) (.refl _ _) ⟨rfl, by rw [hd]; rfl⟩
  · have h1 : 0 < s.size := by simp at hc16; omega
    refine rn ?_
    refine qq rfl rfl (qr_index_bt 0 rfl rfl (by omega)) ?_
    refine rn ?_
    refine qq rfl rfl (qr_indexAddr_int rfl rfl (bt_ge _ _) (bt_lt _ _)) ?_
    refine qq rfl rfl (qr_load_one rfl (show _ = some (.v (.int .u8 241)) from by rw [firstC_get (bt_ge s 0) (bt_lt s 0), hx])) ?_
    refine rn ?_
    refine aw_cond rfl (fun hc23 => ?_) (fun hc23 => ?_)
    · refine rn ?_
      refine qq rfl rfl (qr_index_bt 0 rfl rfl (by omega)) ?_
      refine rn ?_
      have hd : decSlow s = (bI .or .i32 (bI .andNot .i32 (IntKind.i32.wrap (bt s 0)) (decMask 241)) (bI .and .i32 65533 (decMask 241)), 1) := by
        unfold decSlow
        rw [if_neg (by omega)]
        simp only [hx]
        rw [if_pos (by decide)]
      exact retq (.cons _ _ _ _ (.tmp _ _ rfl) (.cons _ _ _ _ (.tmp _ _ rfl) .nil)) (.refl _ _) ⟨rfl, by rw [hd]; rfl⟩
    · first | cases hc23 | exact absurd hc23 (by decide) | (exfalso; simp_all; done)
theorem decodeSlow2 (s : ByteArray) (hx : firstV (bt s 0).toNat = 2) : ACall Tryz.prog 141 [.v (.string s)] [.glob 1 168 firstC, .glob 2 171 acceptC] (fun r h' => h' = [.glob 1 168 firstC, .glob 2 171 acceptC] ∧ r = .tup [.v (.int .i32 (decSlow s).1), iv (decSlow s).2]) := by
  refine acall_of_aw Tryz.func141 rfl rfl rfl ?_
  refine rn ?_
  refine aw_cond rfl (fun hc16 => ?_) (fun hc16 => ?_)
  · refine rn ?_
    have hd : decSlow s = (65533, 0) := by
      unfold decSlow
      rw [if_pos (by simp at hc16; omega)]
    exact retq (.cons _ _ _ _ (.tmp _ _ rfl) (.cons _ _ _ _ (.tmp _ _ rfl) .nil)) (.refl _ _) ⟨rfl, by rw [hd]; rfl⟩
  · have h1 : 0 < s.size := by simp at hc16; omega
    refine rn ?_
    refine qq rfl rfl (qr_index_bt 0 rfl rfl (by omega)) ?_
    refine rn ?_
    refine qq rfl rfl (qr_indexAddr_int rfl rfl (bt_ge _ _) (bt_lt _ _)) ?_
    refine qq rfl rfl (qr_load_one rfl (show _ = some (.v (.int .u8 2)) from by rw [firstC_get (bt_ge s 0) (bt_lt s 0), hx])) ?_
    refine rn ?_
    refine aw_cond rfl (fun hc23 => ?_) (fun hc23 => ?_)
    · first | cases hc23 | exact absurd hc23 (by decide) | (exfalso; simp_all; done)
    · refine rn ?_
      refine qq rfl rfl (qr_indexAddr_int rfl rfl (by decide) (by decide)) ?_
      refine rn ?_
      refine aops_e rfl (oe_alloc rfl fun b9 => ?_)
      refine rn ?_
      refine aw_cond rfl (fun hc45 => ?_) (fun hc45 => ?_)
      · refine rn ?_
        have hd : decSlow s = (65533, 1) := by
          unfold decSlow
          rw [if_neg (by omega)]
          simp only [hx]
          rw [if_neg (by decide), if_pos (show (s.size : Int) < (2 : Int) % 8 from of_decide_eq_true hc45)]
        exact retq (.cons _ _ _ _ (.tmp _ _ rfl) (.cons _ _ _ _ (.tmp _ _ rfl) .nil)) (.drop1 _ _ _) ⟨rfl, by rw [hd]; rfl⟩
      · have h2 : 2 ≤ s.size := by
          have : ¬ ((s.size : Int) < 2) := of_decide_eq_false hc45
          omega
        refine rn ?_
        refine qq rfl rfl (qr_index_bt 1 rfl rfl (by omega)) ?_
        refine rn ?_
        refine asplit (fun hg14_4 => ?_) (fun hg14_4 => ?_)
        · refine rn ?_
          refine aw_cond rfl (fun hc57 => ?_) (fun hc57 => ?_)
          · refine rn ?_
            have hd : decSlow s = (65533, 1) := by
              unfold decSlow
              rw [if_neg (by omega)]
              simp only [hx]
              rw [if_neg (by decide), if_neg (show ¬ (s.size : Int) < (2 : Int) % 8 from of_decide_eq_false hc45), if_pos (show bt s 1 < accLo ((2 : Int) / 16).toNat ∨ accHi ((2 : Int) / 16).toNat < bt s 1 from by first | exact .inl (of_decide_eq_true hg14_4) | exact .inr (of_decide_eq_true hc57))]
            exact retq (.cons _ _ _ _ (.tmp _ _ rfl) (.cons _ _ _ _ (.tmp _ _ rfl) .nil)) (.drop1 _ _ _) ⟨rfl, by rw [hd]; rfl⟩
          · first | cases hc57 | exact absurd hc57 (by decide) | (exfalso; simp_all; done)
        · refine rn ?_
          refine aw_cond rfl (fun hc57 => ?_) (fun hc57 => ?_)
          · refine rn ?_
            have hd : decSlow s = (65533, 1) := by
              unfold decSlow
              rw [if_neg (by omega)]
              simp only [hx]
              rw [if_neg (by decide), if_neg (show ¬ (s.size : Int) < (2 : Int) % 8 from of_decide_eq_false hc45), if_pos (show bt s 1 < accLo ((2 : Int) / 16).toNat ∨ accHi ((2 : Int) / 16).toNat < bt s 1 from by first | exact .inl (of_decide_eq_true hg14_4) | exact .inr (of_decide_eq_true hc57))]
            exact retq (.cons _ _ _ _ (.tmp _ _ rfl) (.cons _ _ _ _ (.tmp _ _ rfl) .nil)) (.drop1 _ _ _) ⟨rfl, by rw [hd]; rfl⟩
          · refine rn ?_
            refine aw_cond rfl (fun hc59 => ?_) (fun hc59 => ?_)
            · refine rn ?_
              have hd : decSlow s = (bI .or .i32 (rbits (bt s 0) 31 6) (rbits (bt s 1) 63 0), 2) := by
                unfold decSlow
                rw [if_neg (by omega)]
                simp only [hx]
                rw [if_neg (by decide), if_neg (show ¬ (s.size : Int) < (2 : Int) % 8 from of_decide_eq_false hc45), if_neg (show ¬ (bt s 1 < accLo ((2 : Int) / 16).toNat ∨ accHi ((2 : Int) / 16).toNat < bt s 1) from fun q => q.elim (of_decide_eq_false hg14_4) (of_decide_eq_false hc57)), if_pos (by decide)]
              exact retq (.cons _ _ _ _ (.tmp _ _ rfl) (.cons _ _ _ _ (.tmp _ _ rfl) .nil)) (.drop1 _ _ _) ⟨rfl, by rw [hd]; rfl⟩
            · first | cases hc59 | exact absurd hc59 (by decide) | (exfalso; simp_all; done)
theorem decodeSlow19 (s : ByteArray) (hx : firstV (bt s 0).toNat = 19) : ACall Tryz.prog 141 [.v (.string s)] [.glob 1 168 firstC, .glob 2 171 acceptC] (fun r h' => h' = [.glob 1 168 firstC, .glob 2 171 acceptC] ∧ r = .tup [.v (.int .i32 (decSlow s).1), iv (decSlow s).2]) := by
  refine acall_of_aw Tryz.func141 rfl rfl rfl ?_
  refine rn ?_
  refine aw_cond rfl (fun hc16 => ?_) (fun hc16 => ?_)
  · refine rn ?_
    have hd : decSlow s = (65533, 0) := by
      unfold decSlow
      rw [if_pos (by simp at hc16; omega)]
    exact retq (.cons _ _ _ _ (.tmp _ _ rfl) (.cons _ _ _ _ (.tmp _ _ rfl) .nil)) (.refl _ _) ⟨rfl, by rw [hd]; rfl⟩
  · have h1 : 0 < s.size := by simp at hc16; omega
    refine rn ?_
    refine qq rfl rfl (qr_index_bt 0 rfl rfl (by omega)) ?_
    refine rn ?_
    refine qq rfl rfl (qr_indexAddr_int rfl rfl (bt_ge _ _) (bt_lt _ _)) ?_
    refine qq rfl rfl (qr_load_one rfl (show _ = some (.v (.int .u8 19)) from by rw [firstC_get (bt_ge s 0) (bt_lt s 0), hx])) ?_
    refine rn ?_
    refine aw_cond rfl (fun hc23 => ?_) (fun hc23 => ?_)
    · first | cases hc23 | exact absurd hc23 (by decide) | (exfalso; simp_all; done)
    · refine rn ?_
      refine qq rfl rfl (qr_indexAddr_int rfl rfl (by decide) (by decide)) ?_
      refine rn ?_
      refine aops_e rfl (oe_alloc rfl fun b9 => ?_)
      refine rn ?_
      refine aw_cond rfl (fun hc45 => ?_) (fun hc45 => ?_)
      · refine rn ?_
        have hd : decSlow s = (65533, 1) := by
          unfold decSlow
          rw [if_neg (by omega)]
          simp only [hx]
          rw [if_neg (by decide), if_pos (show (s.size : Int) < (19 : Int) % 8 from of_decide_eq_true hc45)]
        exact retq (.cons _ _ _ _ (.tmp _ _ rfl) (.cons _ _ _ _ (.tmp _ _ rfl) .nil)) (.drop1 _ _ _) ⟨rfl, by rw [hd]; rfl⟩
      · have h2 : 3 ≤ s.size := by
          have : ¬ ((s.size : Int) < 3) := of_decide_eq_false hc45
          omega
        refine rn ?_
        refine qq rfl rfl (qr_index_bt 1 rfl rfl (by omega)) ?_
        refine rn ?_
        refine asplit (fun hg14_4 => ?_) (fun hg14_4 => ?_)
        · refine rn ?_
          refine aw_cond rfl (fun hc57 => ?_) (fun hc57 => ?_)
          · refine rn ?_
            have hd : decSlow s = (65533, 1) := by
              unfold decSlow
              rw [if_neg (by omega)]
              simp only [hx]
              rw [if_neg (by decide), if_neg (show ¬ (s.size : Int) < (19 : Int) % 8 from of_decide_eq_false hc45), if_pos (show bt s 1 < accLo ((19 : Int) / 16).toNat ∨ accHi ((19 : Int) / 16).toNat < bt s 1 from by first | exact .inl (of_decide_eq_true hg14_4) | exact .inr (of_decide_eq_true hc57))]
            exact retq (.cons _ _ _ _ (.tmp _ _ rfl) (.cons _ _ _ _ (.tmp _ _ rfl) .nil)) (.drop1 _ _ _) ⟨rfl, by rw [hd]; rfl⟩
          · first | cases hc57 | exact absurd hc57 (by decide) | (exfalso; simp_all; done)
        · refine rn ?_
          refine aw_cond rfl (fun hc57 => ?_) (fun hc57 => ?_)
          · refine rn ?_
            have hd : decSlow s = (65533, 1) := by
              unfold decSlow
              rw [if_neg (by omega)]
              simp only [hx]
              rw [if_neg (by decide), if_neg (show ¬ (s.size : Int) < (19 : Int) % 8 from of_decide_eq_false hc45), if_pos (show bt s 1 < accLo ((19 : Int) / 16).toNat ∨ accHi ((19 : Int) / 16).toNat < bt s 1 from by first | exact .inl (of_decide_eq_true hg14_4) | exact .inr (of_decide_eq_true hc57))]
            exact retq (.cons _ _ _ _ (.tmp _ _ rfl) (.cons _ _ _ _ (.tmp _ _ rfl) .nil)) (.drop1 _ _ _) ⟨rfl, by rw [hd]; rfl⟩
          · refine rn ?_
            refine aw_cond rfl (fun hc59 => ?_) (fun hc59 => ?_)
            · first | cases hc59 | exact absurd hc59 (by decide) | (exfalso; simp_all; done)
            · refine rn ?_
              refine qq rfl rfl (qr_index_bt 2 rfl rfl (by omega)) ?_
              refine rn ?_
              refine asplit (fun hg19_2 => ?_) (fun hg19_2 => ?_)
              · refine rn ?_
                refine aw_cond rfl (fun hc75 => ?_) (fun hc75 => ?_)
                · refine rn ?_
                  have hd : decSlow s = (65533, 1) := by
                    unfold decSlow
                    rw [if_neg (by omega)]
                    simp only [hx]
                    rw [if_neg (by decide), if_neg (show ¬ (s.size : Int) < (19 : Int) % 8 from of_decide_eq_false hc45), if_neg (show ¬ (bt s 1 < accLo ((19 : Int) / 16).toNat ∨ accHi ((19 : Int) / 16).toNat < bt s 1) from fun q => q.elim (of_decide_eq_false hg14_4) (of_decide_eq_false hc57)), if_neg (by decide), if_pos (show bt s 2 < 128 ∨ 191 < bt s 2 from by first | exact .inl (of_decide_eq_true hg19_2) | exact .inr (of_decide_eq_true hc75))]
                  exact retq (.cons _ _ _ _ (.tmp _ _ rfl) (.cons _ _ _ _ (.tmp _ _ rfl) .nil)) (.drop1 _ _ _) ⟨rfl, by rw [hd]; rfl⟩
                · first | cases hc75 | exact absurd hc75 (by decide) | (exfalso; simp_all; done)
              · refine rn ?_
                refine aw_cond rfl (fun hc75 => ?_) (fun hc75 => ?_)
                · refine rn ?_
                  have hd : decSlow s = (65533, 1) := by
                    unfold decSlow
                    rw [if_neg (by omega)]
                    simp only [hx]
                    rw [if_neg (by decide), if_neg (show ¬ (s.size : Int) < (19 : Int) % 8 from of_decide_eq_false hc45), if_neg (show ¬ (bt s 1 < accLo ((19 : Int) / 16).toNat ∨ accHi ((19 : Int) / 16).toNat < bt s 1) from fun q => q.elim (of_decide_eq_false hg14_4) (of_decide_eq_false hc57)), if_neg (by decide), if_pos (show bt s 2 < 128 ∨ 191 < bt s 2 from by first | exact .inl (of_decide_eq_true hg19_2) | exact .inr (of_decide_eq_true hc75))]
                  exact retq (.cons _ _ _ _ (.tmp _ _ rfl) (.cons _ _ _ _ (.tmp _ _ rfl) .nil)) (.drop1 _ _ _) ⟨rfl, by rw [hd]; rfl⟩
                · refine rn ?_
                  refine aw_cond rfl (fun hc77 => ?_) (fun hc77 => ?_)
                  · refine rn ?_
                    have hd : decSlow s = (bI .or .i32 (bI .or .i32 (rbits (bt s 0) 15 12) (rbits (bt s 1) 63 6)) (rbits (bt s 2) 63 0), 3) := by
                      unfold decSlow
                      rw [if_neg (by omega)]
                      simp only [hx]
                      rw [if_neg (by decide), if_neg (show ¬ (s.size : Int) < (19 : Int) % 8 from of_decide_eq_false hc45), if_neg (show ¬ (bt s 1 < accLo ((19 : Int) / 16).toNat ∨ accHi ((19 : Int) / 16).toNat < bt s 1) from fun q => q.elim (of_decide_eq_false hg14_4) (of_decide_eq_false hc57)), if_neg (by decide), if_neg (show ¬ (bt s 2 < 128 ∨ 191 < bt s 2) from fun q => q.elim (of_decide_eq_false hg19_2) (of_decide_eq_false hc75)), if_pos (by decide)]
                    exact retq (.cons _ _ _ _ (.tmp _ _ rfl) (.cons _ _ _ _ (.tmp _ _ rfl) .nil)) (.drop1 _ _ _) ⟨rfl, by rw [hd]; rfl⟩
                  · first | cases hc77 | exact absurd hc77 (by decide) | (exfalso; simp_all; done)
theorem decodeSlow3 (s : ByteArray) (hx : firstV (bt s 0).toNat = 3) : ACall Tryz.prog 141 [.v (.string s)] [.glob 1 168 firstC, .glob 2 171 acceptC] (fun r h' => h' = [.glob 1 168 firstC, .glob 2 171 acceptC] ∧ r = .tup [.v (.int .i32 (decSlow s).1), iv (decSlow s).2]) := by
  refine acall_of_aw Tryz.func141 rfl rfl rfl ?_
  refine rn ?_
  refine aw_cond rfl (fun hc16 => ?_) (fun hc16 => ?_)
  · refine rn ?_
    have hd : decSlow s = (65533, 0) := by
      unfold decSlow
      rw [if_pos (by simp at hc16; omega)]
    exact retq (.cons _ _ _ _ (.tmp _ _ rfl) (.cons _ _ _ _ (.tmp _ _ rfl) .nil)) (.refl _ _) ⟨rfl, by rw [hd]; rfl⟩
  · have h1 : 0 < s.size := by simp at hc16; omega
    refine rn ?_
    refine qq rfl rfl (qr_index_bt 0 rfl rfl (by omega)) ?_
    refine rn ?_
    refine qq rfl rfl (qr_indexAddr_int rfl rfl (bt_ge _ _) (bt_lt _ _)) ?_
    refine qq rfl rfl (qr_load_one rfl (show _ = some (.v (.int .u8 3)) from by rw [firstC_get (bt_ge s 0) (bt_lt s 0), hx])) ?_
    refine rn ?_
    refine aw_cond rfl (fun hc23 => ?_) (fun hc23 => ?_)
    · first | cases hc23 | exact absurd hc23 (by decide) | (exfalso; simp_all; done)
    · refine rn ?_
      refine qq rfl rfl (qr_indexAddr_int rfl rfl (by decide) (by decide)) ?_
      refine rn ?_
      refine aops_e rfl (oe_alloc rfl fun b9 => ?_)
      refine rn ?_
      refine aw_cond rfl (fun hc45 => ?_) (fun hc45 => ?_)
      · refine rn ?_
        have hd : decSlow s = (65533, 1) := by
          unfold decSlow
          rw [if_neg (by omega)]
          simp only [hx]
          rw [if_neg (by decide), if_pos (show (s.size : Int) < (3 : Int) % 8 from of_decide_eq_true hc45)]
        exact retq (.cons _ _ _ _ (.tmp _ _ rfl) (.cons _ _ _ _ (.tmp _ _ rfl) .nil)) (.drop1 _ _ _) ⟨rfl, by rw [hd]; rfl⟩
      · have h2 : 3 ≤ s.size := by
          have : ¬ ((s.size : Int) < 3) := of_decide_eq_false hc45
          omega
        refine rn ?_
        refine qq rfl rfl (qr_index_bt 1 rfl rfl (by omega)) ?_
        refine rn ?_
        refine asplit (fun hg14_4 => ?_) (fun hg14_4 => ?_)
        · refine rn ?_
          refine aw_cond rfl (fun hc57 => ?_) (fun hc57 => ?_)
          · refine rn ?_
            have hd : decSlow s = (65533, 1) := by
              unfold decSlow
              rw [if_neg (by omega)]
              simp only [hx]
              rw [if_neg (by decide), if_neg (show ¬ (s.size : Int) < (3 : Int) % 8 from of_decide_eq_false hc45), if_pos (show bt s 1 < accLo ((3 : Int) / 16).toNat ∨ accHi ((3 : Int) / 16).toNat < bt s 1 from by first | exact .inl (of_decide_eq_true hg14_4) | exact .inr (of_decide_eq_true hc57))]
            exact retq (.cons _ _ _ _ (.tmp _ _ rfl) (.cons _ _ _ _ (.tmp _ _ rfl) .nil)) (.drop1 _ _ _) ⟨rfl, by rw [hd]; rfl⟩
          · first | cases hc57 | exact absurd hc57 (by decide) | (exfalso; simp_all; done)
        · refine rn ?_
          refine aw_cond rfl (fun hc57 => ?_) (fun hc57 => ?_)
          · refine rn ?_
            have hd : decSlow s = (65533, 1) := by
              unfold decSlow
              rw [if_neg (by omega)]
              simp only [hx]
              rw [if_neg (by decide), if_neg (show ¬ (s.size : Int) < (3 : Int) % 8 from of_decide_eq_false hc45), if_pos (show bt s 1 < accLo ((3 : Int) / 16).toNat ∨ accHi ((3 : Int) / 16).toNat < bt s 1 from by first | exact .inl (of_decide_eq_true hg14_4) | exact .inr (of_decide_eq_true hc57))]
            exact retq (.cons _ _ _ _ (.tmp _ _ rfl) (.cons _ _ _ _ (.tmp _ _ rfl) .nil)) (.drop1 _ _ _) ⟨rfl, by rw [hd]; rfl⟩
          · refine rn ?_
            refine aw_cond rfl (fun hc59 => ?_) (fun hc59 => ?_)
            · first | cases hc59 | exact absurd hc59 (by decide) | (exfalso; simp_all; done)
            · refine rn ?_
              refine qq rfl rfl (qr_index_bt 2 rfl rfl (by omega)) ?_
              refine rn ?_
              refine asplit (fun hg19_2 => ?_) (fun hg19_2 => ?_)
              · refine rn ?_
                refine aw_cond rfl (fun hc75 => ?_) (fun hc75 => ?_)
                · refine rn ?_
                  have hd : decSlow s = (65533, 1) := by
                    unfold decSlow
                    rw [if_neg (by omega)]
                    simp only [hx]
                    rw [if_neg (by decide), if_neg (show ¬ (s.size : Int) < (3 : Int) % 8 from of_decide_eq_false hc45), if_neg (show ¬ (bt s 1 < accLo ((3 : Int) / 16).toNat ∨ accHi ((3 : Int) / 16).toNat < bt s 1) from fun q => q.elim (of_decide_eq_false hg14_4) (of_decide_eq_false hc57)), if_neg (by decide), if_pos (show bt s 2 < 128 ∨ 191 < bt s 2 from by first | exact .inl (of_decide_eq_true hg19_2) | exact .inr (of_decide_eq_true hc75))]
                  exact retq (.cons _ _ _ _ (.tmp _ _ rfl) (.cons _ _ _ _ (.tmp _ _ rfl) .nil)) (.drop1 _ _ _) ⟨rfl, by rw [hd]; rfl⟩
                · first | cases hc75 | exact absurd hc75 (by decide) | (exfalso; simp_all; done)
              · refine rn ?_
                refine aw_cond rfl (fun hc75 => ?_) (fun hc75 => ?_)
                · refine rn ?_
                  have hd : decSlow s = (65533, 1) := by
                    unfold decSlow
                    rw [if_neg (by omega)]
                    simp only [hx]
                    rw [if_neg (by decide), if_neg (show ¬ (s.size : Int) < (3 : Int) % 8 from of_decide_eq_false hc45), if_neg (show ¬ (bt s 1 < accLo ((3 : Int) / 16).toNat ∨ accHi ((3 : Int) / 16).toNat < bt s 1) from fun q => q.elim (of_decide_eq_false hg14_4) (of_decide_eq_false hc57)), if_neg (by decide), if_pos (show bt s 2 < 128 ∨ 191 < bt s 2 from by first | exact .inl (of_decide_eq_true hg19_2) | exact .inr (of_decide_eq_true hc75))]
                  exact retq (.cons _ _ _ _ (.tmp _ _ rfl) (.cons _ _ _ _ (.tmp _ _ rfl) .nil)) (.drop1 _ _ _) ⟨rfl, by rw [hd]; rfl⟩
                · refine rn ?_
                  refine aw_cond rfl (fun hc77 => ?_) (fun hc77 => ?_)
                  · refine rn ?_
                    have hd : decSlow s = (bI .or .i32 (bI .or .i32 (rbits (bt s 0) 15 12) (rbits (bt s 1) 63 6)) (rbits (bt s 2) 63 0), 3) := by
                      unfold decSlow
                      rw [if_neg (by omega)]
                      simp only [hx]
                      rw [if_neg (by decide), if_neg (show ¬ (s.size : Int) < (3 : Int) % 8 from of_decide_eq_false hc45), if_neg (show ¬ (bt s 1 < accLo ((3 : Int) / 16).toNat ∨ accHi ((3 : Int) / 16).toNat < bt s 1) from fun q => q.elim (of_decide_eq_false hg14_4) (of_decide_eq_false hc57)), if_neg (by decide), if_neg (show ¬ (bt s 2 < 128 ∨ 191 < bt s 2) from fun q => q.elim (of_decide_eq_false hg19_2) (of_decide_eq_false hc75)), if_pos (by decide)]
                    exact retq (.cons _ _ _ _ (.tmp _ _ rfl) (.cons _ _ _ _ (.tmp _ _ rfl) .nil)) (.drop1 _ _ _) ⟨rfl, by rw [hd]; rfl⟩
                  · first | cases hc77 | exact absurd hc77 (by decide) | (exfalso; simp_all; done)
theorem decodeSlow35 (s : ByteArray) (hx : firstV (bt s 0).toNat = 35) : ACall Tryz.prog 141 [.v (.string s)] [.glob 1 168 firstC, .glob 2 171 acceptC] (fun r h' => h' = [.glob 1 168 firstC, .glob 2 171 acceptC] ∧ r = .tup [.v (.int .i32 (decSlow s).1), iv (decSlow s).2]) := by
  refine acall_of_aw Tryz.func141 rfl rfl rfl ?_
  refine rn ?_
  refine aw_cond rfl (fun hc16 => ?_) (fun hc16 => ?_)
  · refine rn ?_
    have hd : decSlow s = (65533, 0) := by
      unfold decSlow
      rw [if_pos (by simp at hc16; omega)]
    exact retq (.cons _ _ _ _ (.tmp _ _ rfl) (.cons _ _ _ _ (.tmp _ _ rfl) .nil)) (.refl _ _) ⟨rfl, by rw [hd]; rfl⟩
  · have h1 : 0 < s.size := by simp at hc16; omega
    refine rn ?_
    refine qq rfl rfl (qr_index_bt 0 rfl rfl (by omega)) ?_
    refine rn ?_
    refine qq rfl rfl (qr_indexAddr_int rfl rfl (bt_ge _ _) (bt_lt _ _)) ?_
    refine qq rfl rfl (qr_load_one rfl (show _ = some (.v (.int .u8 35)) from by rw [firstC_get (bt_ge s 0) (bt_lt s 0), hx])) ?_
    refine rn ?_
    refine aw_cond rfl (fun hc23 => ?_) (fun hc23 => ?_)
    · first | cases hc23 | exact absurd hc23 (by decide) | (exfalso; simp_all; done)
    · refine rn ?_
      refine qq rfl rfl (qr_indexAddr_int rfl rfl (by decide) (by decide)) ?_
      refine rn ?_
      refine aops_e rfl (oe_alloc rfl fun b9 => ?_)
      refine rn ?_
      refine aw_cond rfl (fun hc45 => ?_) (fun hc45 => ?_)
      · refine rn ?_
        have hd : decSlow s = (65533, 1) := by
          unfold decSlow
          rw [if_neg (by omega)]
          simp only [hx]
          rw [if_neg (by decide), if_pos (show (s.size : Int) < (35 : Int) % 8 from of_decide_eq_true hc45)]
        exact retq (.cons _ _ _ _ (.tmp _ _ rfl) (.cons _ _ _ _ (.tmp _ _ rfl) .nil)) (.drop1 _ _ _) ⟨rfl, by rw [hd]; rfl⟩
      · have h2 : 3 ≤ s.size := by
          have : ¬ ((s.size : Int) < 3) := of_decide_eq_false hc45
          omega
        refine rn ?_
        refine qq rfl rfl (qr_index_bt 1 rfl rfl (by omega)) ?_
        refine rn ?_
        refine asplit (fun hg14_4 => ?_) (fun hg14_4 => ?_)
        · refine rn ?_
          refine aw_cond rfl (fun hc57 => ?_) (fun hc57 => ?_)
          · refine rn ?_
            have hd : decSlow s = (65533, 1) := by
              unfold decSlow
              rw [if_neg (by omega)]
              simp only [hx]
              rw [if_neg (by decide), if_neg (show ¬ (s.size : Int) < (35 : Int) % 8 from of_decide_eq_false hc45), if_pos (show bt s 1 < accLo ((35 : Int) / 16).toNat ∨ accHi ((35 : Int) / 16).toNat < bt s 1 from by first | exact .inl (of_decide_eq_true hg14_4) | exact .inr (of_decide_eq_true hc57))]
            exact retq (.cons _ _ _ _ (.tmp _ _ rfl) (.cons _ _ _ _ (.tmp _ _ rfl) .nil)) (.drop1 _ _ _) ⟨rfl, by rw [hd]; rfl⟩
          · first | cases hc57 | exact absurd hc57 (by decide) | (exfalso; simp_all; done)
        · refine rn ?_
          refine aw_cond rfl (fun hc57 => ?_) (fun hc57 => ?_)
          · refine rn ?_
            have hd : decSlow s = (65533, 1) := by
              unfold decSlow
              rw [if_neg (by omega)]
              simp only [hx]
              rw [if_neg (by decide), if_neg (show ¬ (s.size : Int) < (35 : Int) % 8 from of_decide_eq_false hc45), if_pos (show bt s 1 < accLo ((35 : Int) / 16).toNat ∨ accHi ((35 : Int) / 16).toNat < bt s 1 from by first | exact .inl (of_decide_eq_true hg14_4) | exact .inr (of_decide_eq_true hc57))]
            exact retq (.cons _ _ _ _ (.tmp _ _ rfl) (.cons _ _ _ _ (.tmp _ _ rfl) .nil)) (.drop1 _ _ _) ⟨rfl, by rw [hd]; rfl⟩
          · refine rn ?_
            refine aw_cond rfl (fun hc59 => ?_) (fun hc59 => ?_)
            · first | cases hc59 | exact absurd hc59 (by decide) | (exfalso; simp_all; done)
            · refine rn ?_
              refine qq rfl rfl (qr_index_bt 2 rfl rfl (by omega)) ?_
              refine rn ?_
              refine asplit (fun hg19_2 => ?_) (fun hg19_2 => ?_)
              · refine rn ?_
                refine aw_cond rfl (fun hc75 => ?_) (fun hc75 => ?_)
                · refine rn ?_
                  have hd : decSlow s = (65533, 1) := by
                    unfold decSlow
                    rw [if_neg (by omega)]
                    simp only [hx]
                    rw [if_neg (by decide), if_neg (show ¬ (s.size : Int) < (35 : Int) % 8 from of_decide_eq_false hc45), if_neg (show ¬ (bt s 1 < accLo ((35 : Int) / 16).toNat ∨ accHi ((35 : Int) / 16).toNat < bt s 1) from fun q => q.elim (of_decide_eq_false hg14_4) (of_decide_eq_false hc57)), if_neg (by decide), if_pos (show bt s 2 < 128 ∨ 191 < bt s 2 from by first | exact .inl (of_decide_eq_true hg19_2) | exact .inr (of_decide_eq_true hc75))]
                  exact retq (.cons _ _ _ _ (.tmp _ _ rfl) (.cons _ _ _ _ (.tmp _ _ rfl) .nil)) (.drop1 _ _ _) ⟨rfl, by rw [hd]; rfl⟩
                · first | cases hc75 | exact absurd hc75 (by decide) | (exfalso; simp_all; done)
              · refine rn ?_
                refine aw_cond rfl (fun hc75 => ?_) (fun hc75 => ?_)
                · refine rn ?_
                  have hd : decSlow s = (65533, 1) := by
                    unfold decSlow
                    rw [if_neg (by omega)]
                    simp only [hx]
                    rw [if_neg (by decide), if_neg (show ¬ (s.size : Int) < (35 : Int) % 8 from of_decide_eq_false hc45), if_neg (show ¬ (bt s 1 < accLo ((35 : Int) / 16).toNat ∨ accHi ((35 : Int) / 16).toNat < bt s 1) from fun q => q.elim (of_decide_eq_false hg14_4) (of_decide_eq_false hc57)), if_neg (by decide), if_pos (show bt s 2 < 128 ∨ 191 < bt s 2 from by first | exact .inl (of_decide_eq_true hg19_2) | exact .inr (of_decide_eq_true hc75))]
                  exact retq (.cons _ _ _ _ (.tmp _ _ rfl) (.cons _ _ _ _ (.tmp _ _ rfl) .nil)) (.drop1 _ _ _) ⟨rfl, by rw [hd]; rfl⟩
                · refine rn ?_
                  refine aw_cond rfl (fun hc77 => ?_) (fun hc77 => ?_)
                  · refine rn ?_
                    have hd : decSlow s = (bI .or .i32 (bI .or .i32 (rbits (bt s 0) 15 12) (rbits (bt s 1) 63 6)) (rbits (bt s 2) 63 0), 3) := by
                      unfold decSlow
                      rw [if_neg (by omega)]
                      simp only [hx]
                      rw [if_neg (by decide), if_neg (show ¬ (s.size : Int) < (35 : Int) % 8 from of_decide_eq_false hc45), if_neg (show ¬ (bt s 1 < accLo ((35 : Int) / 16).toNat ∨ accHi ((35 : Int) / 16).toNat < bt s 1) from fun q => q.elim (of_decide_eq_false hg14_4) (of_decide_eq_false hc57)), if_neg (by decide), if_neg (show ¬ (bt s 2 < 128 ∨ 191 < bt s 2) from fun q => q.elim (of_decide_eq_false hg19_2) (of_decide_eq_false hc75)), if_pos (by decide)]
                    exact retq (.cons _ _ _ _ (.tmp _ _ rfl) (.cons _ _ _ _ (.tmp _ _ rfl) .nil)) (.drop1 _ _ _) ⟨rfl, by rw [hd]; rfl⟩
                  · first | cases hc77 | exact absurd hc77 (by decide) | (exfalso; simp_all; done)
theorem decodeSlow52 (s : ByteArray) (hx : firstV (bt s 0).toNat = 52) : ACall Tryz.prog 141 [.v (.string s)] [.glob 1 168 firstC, .glob 2 171 acceptC] (fun r h' => h' = [.glob 1 168 firstC, .glob 2 171 acceptC] ∧ r = .tup [.v (.int .i32 (decSlow s).1), iv (decSlow s).2]) := by
  refine acall_of_aw Tryz.func141 rfl rfl rfl ?_
  refine rn ?_
  refine aw_cond rfl (fun hc16 => ?_) (fun hc16 => ?_)
  · refine rn ?_
    have hd : decSlow s = (65533, 0) := by
      unfold decSlow
      rw [if_pos (by simp at hc16; omega)]
    exact retq (.cons _ _ _ _ (.tmp _ _ rfl) (.cons _ _ _ _ (.tmp _ _ rfl) .nil)) (.refl _ _) ⟨rfl, by rw [hd]; rfl⟩
  · have h1 : 0 < s.size := by simp at hc16; omega
    refine rn ?_
    refine qq rfl rfl (qr_index_bt 0 rfl rfl (by omega)) ?_
    refine rn ?_
    refine qq rfl rfl (qr_indexAddr_int rfl rfl (bt_ge _ _) (bt_lt _ _)) ?_
    refine qq rfl rfl (qr_load_one rfl (show _ = some (.v (.int .u8 52)) from by rw [firstC_get (bt_ge s 0) (bt_lt s 0), hx])) ?_
    refine rn ?_
    refine aw_cond rfl (fun hc23 => ?_) (fun hc23 => ?_)
    · first | cases hc23 | exact absurd hc23 (by decide) | (exfalso; simp_all; done)
    · refine rn ?_
      refine qq rfl rfl (qr_indexAddr_int rfl rfl (by decide) (by decide)) ?_
      refine rn ?_
      refine aops_e rfl (oe_alloc rfl fun b9 => ?_)
      refine rn ?_
      refine aw_cond rfl (fun hc45 => ?_) (fun hc45 => ?_)
      · refine rn ?_
        have hd : decSlow s = (65533, 1) := by
          unfold decSlow
          rw [if_neg (by omega)]
          simp only [hx]
          rw [if_neg (by decide), if_pos (show (s.size : Int) < (52 : Int) % 8 from of_decide_eq_true hc45)]
        exact retq (.cons _ _ _ _ (.tmp _ _ rfl) (.cons _ _ _ _ (.tmp _ _ rfl) .nil)) (.drop1 _ _ _) ⟨rfl, by rw [hd]; rfl⟩
      · have h2 : 4 ≤ s.size := by
          have : ¬ ((s.size : Int) < 4) := of_decide_eq_false hc45
          omega
        refine rn ?_
        refine qq rfl rfl (qr_index_bt 1 rfl rfl (by omega)) ?_
        refine rn ?_
        refine asplit (fun hg14_4 => ?_) (fun hg14_4 => ?_)
        · refine rn ?_
          refine aw_cond rfl (fun hc57 => ?_) (fun hc57 => ?_)
          · refine rn ?_
            have hd : decSlow s = (65533, 1) := by
              unfold decSlow
              rw [if_neg (by omega)]
              simp only [hx]
              rw [if_neg (by decide), if_neg (show ¬ (s.size : Int) < (52 : Int) % 8 from of_decide_eq_false hc45), if_pos (show bt s 1 < accLo ((52 : Int) / 16).toNat ∨ accHi ((52 : Int) / 16).toNat < bt s 1 from by first | exact .inl (of_decide_eq_true hg14_4) | exact .inr (of_decide_eq_true hc57))]
            exact retq (.cons _ _ _ _ (.tmp _ _ rfl) (.cons _ _ _ _ (.tmp _ _ rfl) .nil)) (.drop1 _ _ _) ⟨rfl, by rw [hd]; rfl⟩
          · first | cases hc57 | exact absurd hc57 (by decide) | (exfalso; simp_all; done)
        · refine rn ?_
          refine aw_cond rfl (fun hc57 => ?_) (fun hc57 => ?_)
          · refine rn ?_
            have hd : decSlow s = (65533, 1) := by
              unfold decSlow
              rw [if_neg (by omega)]
              simp only [hx]
              rw [if_neg (by decide), if_neg (show ¬ (s.size : Int) < (52 : Int) % 8 from of_decide_eq_false hc45), if_pos (show bt s 1 < accLo ((52 : Int) / 16).toNat ∨ accHi ((52 : Int) / 16).toNat < bt s 1 from by first | exact .inl (of_decide_eq_true hg14_4) | exact .inr (of_decide_eq_true hc57))]
            exact retq (.cons _ _ _ _ (.tmp _ _ rfl) (.cons _ _ _ _ (.tmp _ _ rfl) .nil)) (.drop1 _ _ _) ⟨rfl, by rw [hd]; rfl⟩
          · refine rn ?_
            refine aw_cond rfl (fun hc59 => ?_) (fun hc59 => ?_)
            · first | cases hc59 | exact absurd hc59 (by decide) | (exfalso; simp_all; done)
            · refine rn ?_
              refine qq rfl rfl (qr_index_bt 2 rfl rfl (by omega)) ?_
              refine rn ?_
              refine asplit (fun hg19_2 => ?_) (fun hg19_2 => ?_)
              · refine rn ?_
                refine aw_cond rfl (fun hc75 => ?_) (fun hc75 => ?_)
                · refine rn ?_
                  have hd : decSlow s = (65533, 1) := by
                    unfold decSlow
                    rw [if_neg (by omega)]
                    simp only [hx]
                    rw [if_neg (by decide), if_neg (show ¬ (s.size : Int) < (52 : Int) % 8 from of_decide_eq_false hc45), if_neg (show ¬ (bt s 1 < accLo ((52 : Int) / 16).toNat ∨ accHi ((52 : Int) / 16).toNat < bt s 1) from fun q => q.elim (of_decide_eq_false hg14_4) (of_decide_eq_false hc57)), if_neg (by decide), if_pos (show bt s 2 < 128 ∨ 191 < bt s 2 from by first | exact .inl (of_decide_eq_true hg19_2) | exact .inr (of_decide_eq_true hc75))]
                  exact retq (.cons _ _ _ _ (.tmp _ _ rfl) (.cons _ _ _ _ (.tmp _ _ rfl) .nil)) (.drop1 _ _ _) ⟨rfl, by rw [hd]; rfl⟩
                · first | cases hc75 | exact absurd hc75 (by decide) | (exfalso; simp_all; done)
              · refine rn ?_
                refine aw_cond rfl (fun hc75 => ?_) (fun hc75 => ?_)
                · refine rn ?_
                  have hd : decSlow s = (65533, 1) := by
                    unfold decSlow
                    rw [if_neg (by omega)]
                    simp only [hx]
                    rw [if_neg (by decide), if_neg (show ¬ (s.size : Int) < (52 : Int) % 8 from of_decide_eq_false hc45), if_neg (show ¬ (bt s 1 < accLo ((52 : Int) / 16).toNat ∨ accHi ((52 : Int) / 16).toNat < bt s 1) from fun q => q.elim (of_decide_eq_false hg14_4) (of_decide_eq_false hc57)), if_neg (by decide), if_pos (show bt s 2 < 128 ∨ 191 < bt s 2 from by first | exact .inl (of_decide_eq_true hg19_2) | exact .inr (of_decide_eq_true hc75))]
                  exact retq (.cons _ _ _ _ (.tmp _ _ rfl) (.cons _ _ _ _ (.tmp _ _ rfl) .nil)) (.drop1 _ _ _) ⟨rfl, by rw [hd]; rfl⟩
                · refine rn ?_
                  refine aw_cond rfl (fun hc77 => ?_) (fun hc77 => ?_)
                  · first | cases hc77 | exact absurd hc77 (by decide) | (exfalso; simp_all; done)
                  · refine rn ?_
                    refine qq rfl rfl (qr_index_bt 3 rfl rfl (by omega)) ?_
                    refine rn ?_
                    refine asplit (fun hg24_2 => ?_) (fun hg24_2 => ?_)
                    · refine rn ?_
                      refine aw_cond rfl (fun hc98 => ?_) (fun hc98 => ?_)
                      · refine rn ?_
                        have hd : decSlow s = (65533, 1) := by
                          unfold decSlow
                          rw [if_neg (by omega)]
                          simp only [hx]
                          rw [if_neg (by decide), if_neg (show ¬ (s.size : Int) < (52 : Int) % 8 from of_decide_eq_false hc45), if_neg (show ¬ (bt s 1 < accLo ((52 : Int) / 16).toNat ∨ accHi ((52 : Int) / 16).toNat < bt s 1) from fun q => q.elim (of_decide_eq_false hg14_4) (of_decide_eq_false hc57)), if_neg (by decide), if_neg (show ¬ (bt s 2 < 128 ∨ 191 < bt s 2) from fun q => q.elim (of_decide_eq_false hg19_2) (of_decide_eq_false hc75)), if_neg (by decide), if_pos (show bt s 3 < 128 ∨ 191 < bt s 3 from by first | exact .inl (of_decide_eq_true hg24_2) | exact .inr (of_decide_eq_true hc98))]
                        exact retq (.cons _ _ _ _ (.tmp _ _ rfl) (.cons _ _ _ _ (.tmp _ _ rfl) .nil)) (.drop1 _ _ _) ⟨rfl, by rw [hd]; rfl⟩
                      · first | cases hc98 | exact absurd hc98 (by decide) | (exfalso; simp_all; done)
                    · refine rn ?_
                      refine aw_cond rfl (fun hc98 => ?_) (fun hc98 => ?_)
                      · refine rn ?_
                        have hd : decSlow s = (65533, 1) := by
                          unfold decSlow
                          rw [if_neg (by omega)]
                          simp only [hx]
                          rw [if_neg (by decide), if_neg (show ¬ (s.size : Int) < (52 : Int) % 8 from of_decide_eq_false hc45), if_neg (show ¬ (bt s 1 < accLo ((52 : Int) / 16).toNat ∨ accHi ((52 : Int) / 16).toNat < bt s 1) from fun q => q.elim (of_decide_eq_false hg14_4) (of_decide_eq_false hc57)), if_neg (by decide), if_neg (show ¬ (bt s 2 < 128 ∨ 191 < bt s 2) from fun q => q.elim (of_decide_eq_false hg19_2) (of_decide_eq_false hc75)), if_neg (by decide), if_pos (show bt s 3 < 128 ∨ 191 < bt s 3 from by first | exact .inl (of_decide_eq_true hg24_2) | exact .inr (of_decide_eq_true hc98))]
                        exact retq (.cons _ _ _ _ (.tmp _ _ rfl) (.cons _ _ _ _ (.tmp _ _ rfl) .nil)) (.drop1 _ _ _) ⟨rfl, by rw [hd]; rfl⟩
                      · refine rn ?_
                        have hd : decSlow s = (bI .or .i32 (bI .or .i32 (bI .or .i32 (rbits (bt s 0) 7 18) (rbits (bt s 1) 63 12)) (rbits (bt s 2) 63 6)) (rbits (bt s 3) 63 0), 4) := by
                          unfold decSlow
                          rw [if_neg (by omega)]
                          simp only [hx]
                          rw [if_neg (by decide), if_neg (show ¬ (s.size : Int) < (52 : Int) % 8 from of_decide_eq_false hc45), if_neg (show ¬ (bt s 1 < accLo ((52 : Int) / 16).toNat ∨ accHi ((52 : Int) / 16).toNat < bt s 1) from fun q => q.elim (of_decide_eq_false hg14_4) (of_decide_eq_false hc57)), if_neg (by decide), if_neg (show ¬ (bt s 2 < 128 ∨ 191 < bt s 2) from fun q => q.elim (of_decide_eq_false hg19_2) (of_decide_eq_false hc75)), if_neg (by decide), if_neg (show ¬ (bt s 3 < 128 ∨ 191 < bt s 3) from fun q => q.elim (of_decide_eq_false hg24_2) (of_decide_eq_false hc98))]
                        exact retq (.cons _ _ _ _ (.tmp _ _ rfl) (.cons _ _ _ _ (.tmp _ _ rfl) .nil)) (.drop1 _ _ _) ⟨rfl, by rw [hd]; rfl⟩
theorem decodeSlow4 (s : ByteArray) (hx : firstV (bt s 0).toNat = 4) : ACall Tryz.prog 141 [.v (.string s)] [.glob 1 168 firstC, .glob 2 171 acceptC] (fun r h' => h' = [.glob 1 168 firstC, .glob 2 171 acceptC] ∧ r = .tup [.v (.int .i32 (decSlow s).1), iv (decSlow s).2]) := by
  refine acall_of_aw Tryz.func141 rfl rfl rfl ?_
  refine rn ?_
  refine aw_cond rfl (fun hc16 => ?_) (fun hc16 => ?_)
  · refine rn ?_
    have hd : decSlow s = (65533, 0) := by
      unfold decSlow
      rw [if_pos (by simp at hc16; omega)]
    exact retq (.cons _ _ _ _ (.tmp _ _ rfl) (.cons _ _ _ _ (.tmp _ _ rfl) .nil)) (.refl _ _) ⟨rfl, by rw [hd]; rfl⟩
  · have h1 : 0 < s.size := by simp at hc16; omega
    refine rn ?_
    refine qq rfl rfl (qr_index_bt 0 rfl rfl (by omega)) ?_
    refine rn ?_
    refine qq rfl rfl (qr_indexAddr_int rfl rfl (bt_ge _ _) (bt_lt _ _)) ?_
    refine qq rfl rfl (qr_load_one rfl (show _ = some (.v (.int .u8 4)) from by rw [firstC_get (bt_ge s 0) (bt_lt s 0), hx])) ?_
    refine rn ?_
    refine aw_cond rfl (fun hc23 => ?_) (fun hc23 => ?_)
    · first | cases hc23 | exact absurd hc23 (by decide) | (exfalso; simp_all; done)
    · refine rn ?_
      refine qq rfl rfl (qr_indexAddr_int rfl rfl (by decide) (by decide)) ?_
      refine rn ?_
      refine aops_e rfl (oe_alloc rfl fun b9 => ?_)
      refine rn ?_
      refine aw_cond rfl (fun hc45 => ?_) (fun hc45 => ?_)
      · refine rn ?_
        have hd : decSlow s = (65533, 1) := by
          unfold decSlow
          rw [if_neg (by omega)]
          simp only [hx]
          rw [if_neg (by decide), if_pos (show (s.size : Int) < (4 : Int) % 8 from of_decide_eq_true hc45)]
        exact retq (.cons _ _ _ _ (.tmp _ _ rfl) (.cons _ _ _ _ (.tmp _ _ rfl) .nil)) (.drop1 _ _ _) ⟨rfl, by rw [hd]; rfl⟩
      · have h2 : 4 ≤ s.size := by
          have : ¬ ((s.size : Int) < 4) := of_decide_eq_false hc45
          omega
        refine rn ?_
        refine qq rfl rfl (qr_index_bt 1 rfl rfl (by omega)) ?_
        refine rn ?_
        refine asplit (fun hg14_4 => ?_) (fun hg14_4 => ?_)
        · refine rn ?_
          refine aw_cond rfl (fun hc57 => ?_) (fun hc57 => ?_)
          · refine rn ?_
            have hd : decSlow s = (65533, 1) := by
              unfold decSlow
              rw [if_neg (by omega)]
              simp only [hx]
              rw [if_neg (by decide), if_neg (show ¬ (s.size : Int) < (4 : Int) % 8 from of_decide_eq_false hc45), if_pos (show bt s 1 < accLo ((4 : Int) / 16).toNat ∨ accHi ((4 : Int) / 16).toNat < bt s 1 from by first | exact .inl (of_decide_eq_true hg14_4) | exact .inr (of_decide_eq_true hc57))]
            exact retq (.cons _ _ _ _ (.tmp _ _ rfl) (.cons _ _ _ _ (.tmp _ _ rfl) .nil)) (.drop1 _ _ _) ⟨rfl, by rw [hd]; rfl⟩
          · first | cases hc57 | exact absurd hc57 (by decide) | (exfalso; simp_all; done)
        · refine rn ?_
          refine aw_cond rfl (fun hc57 => ?_) (fun hc57 => ?_)
          · refine rn ?_
            have hd : decSlow s = (65533, 1) := by
              unfold decSlow
              rw [if_neg (by omega)]
              simp only [hx]
              rw [if_neg (by decide), if_neg (show ¬ (s.size : Int) < (4 : Int) % 8 from of_decide_eq_false hc45), if_pos (show bt s 1 < accLo ((4 : Int) / 16).toNat ∨ accHi ((4 : Int) / 16).toNat < bt s 1 from by first | exact .inl (of_decide_eq_true hg14_4) | exact .inr (of_decide_eq_true hc57))]
            exact retq (.cons _ _ _ _ (.tmp _ _ rfl) (.cons _ _ _ _ (.tmp _ _ rfl) .nil)) (.drop1 _ _ _) ⟨rfl, by rw [hd]; rfl⟩
          · refine rn ?_
            refine aw_cond rfl (fun hc59 => ?_) (fun hc59 => ?_)
            · first | cases hc59 | exact absurd hc59 (by decide) | (exfalso; simp_all; done)
            · refine rn ?_
              refine qq rfl rfl (qr_index_bt 2 rfl rfl (by omega)) ?_
              refine rn ?_
              refine asplit (fun hg19_2 => ?_) (fun hg19_2 => ?_)
              · refine rn ?_
                refine aw_cond rfl (fun hc75 => ?_) (fun hc75 => ?_)
                · refine rn ?_
                  have hd : decSlow s = (65533, 1) := by
                    unfold decSlow
                    rw [if_neg (by omega)]
                    simp only [hx]
                    rw [if_neg (by decide), if_neg (show ¬ (s.size : Int) < (4 : Int) % 8 from of_decide_eq_false hc45), if_neg (show ¬ (bt s 1 < accLo ((4 : Int) / 16).toNat ∨ accHi ((4 : Int) / 16).toNat < bt s 1) from fun q => q.elim (of_decide_eq_false hg14_4) (of_decide_eq_false hc57)), if_neg (by decide), if_pos (show bt s 2 < 128 ∨ 191 < bt s 2 from by first | exact .inl (of_decide_eq_true hg19_2) | exact .inr (of_decide_eq_true hc75))]
                  exact retq (.cons _ _ _ _ (.tmp _ _ rfl) (.cons _ _ _ _ (.tmp _ _ rfl) .nil)) (.drop1 _ _ _) ⟨rfl, by rw [hd]; rfl⟩
                · first | cases hc75 | exact absurd hc75 (by decide) | (exfalso; simp_all; done)
              · refine rn ?_
                refine aw_cond rfl (fun hc75 => ?_) (fun hc75 => ?_)
                · refine rn ?_
                  have hd : decSlow s = (65533, 1) := by
                    unfold decSlow
                    rw [if_neg (by omega)]
                    simp only [hx]
                    rw [if_neg (by decide), if_neg (show ¬ (s.size : Int) < (4 : Int) % 8 from of_decide_eq_false hc45), if_neg (show ¬ (bt s 1 < accLo ((4 : Int) / 16).toNat ∨ accHi ((4 : Int) / 16).toNat < bt s 1) from fun q => q.elim (of_decide_eq_false hg14_4) (of_decide_eq_false hc57)), if_neg (by decide), if_pos (show bt s 2 < 128 ∨ 191 < bt s 2 from by first | exact .inl (of_decide_eq_true hg19_2) | exact .inr (of_decide_eq_true hc75))]
                  exact retq (.cons _ _ _ _ (.tmp _ _ rfl) (.cons _ _ _ _ (.tmp _ _ rfl) .nil)) (.drop1 _ _ _) ⟨rfl, by rw [hd]; rfl⟩
                · refine rn ?_
                  refine aw_cond rfl (fun hc77 => ?_) (fun hc77 => ?_)
                  · first | cases hc77 | exact absurd hc77 (by decide) | (exfalso; simp_all; done)
                  · refine rn ?_
                    refine qq rfl rfl (qr_index_bt 3 rfl rfl (by omega)) ?_
                    refine rn ?_
                    refine asplit (fun hg24_2 => ?_) (fun hg24_2 => ?_)
                    · refine rn ?_
                      refine aw_cond rfl (fun hc98 => ?_) (fun hc98 => ?_)
                      · refine rn ?_
                        have hd : decSlow s = (65533, 1) := by
                          unfold decSlow
                          rw [if_neg (by omega)]
                          simp only [hx]
                          rw [if_neg (by decide), if_neg (show ¬ (s.size : Int) < (4 : Int) % 8 from of_decide_eq_false hc45), if_neg (show ¬ (bt s 1 < accLo ((4 : Int) / 16).toNat ∨ accHi ((4 : Int) / 16).toNat < bt s 1) from fun q => q.elim (of_decide_eq_false hg14_4) (of_decide_eq_false hc57)), if_neg (by decide), if_neg (show ¬ (bt s 2 < 128 ∨ 191 < bt s 2) from fun q => q.elim (of_decide_eq_false hg19_2) (of_decide_eq_false hc75)), if_neg (by decide), if_pos (show bt s 3 < 128 ∨ 191 < bt s 3 from by first | exact .inl (of_decide_eq_true hg24_2) | exact .inr (of_decide_eq_true hc98))]
                        exact retq (.cons _ _ _ _ (.tmp _ _ rfl) (.cons _ _ _ _ (.tmp _ _ rfl) .nil)) (.drop1 _ _ _) ⟨rfl, by rw [hd]; rfl⟩
                      · first | cases hc98 | exact absurd hc98 (by decide) | (exfalso; simp_all; done)
                    · refine rn ?_
                      refine aw_cond rfl (fun hc98 => ?_) (fun hc98 => ?_)
                      · refine rn ?_
                        have hd : decSlow s = (65533, 1) := by
                          unfold decSlow
                          rw [if_neg (by omega)]
                          simp only [hx]
                          rw [if_neg (by decide), if_neg (show ¬ (s.size : Int) < (4 : Int) % 8 from of_decide_eq_false hc45), if_neg (show ¬ (bt s 1 < accLo ((4 : Int) / 16).toNat ∨ accHi ((4 : Int) / 16).toNat < bt s 1) from fun q => q.elim (of_decide_eq_false hg14_4) (of_decide_eq_false hc57)), if_neg (by decide), if_neg (show ¬ (bt s 2 < 128 ∨ 191 < bt s 2) from fun q => q.elim (of_decide_eq_false hg19_2) (of_decide_eq_false hc75)), if_neg (by decide), if_pos (show bt s 3 < 128 ∨ 191 < bt s 3 from by first | exact .inl (of_decide_eq_true hg24_2) | exact .inr (of_decide_eq_true hc98))]
                        exact retq (.cons _ _ _ _ (.tmp _ _ rfl) (.cons _ _ _ _ (.tmp _ _ rfl) .nil)) (.drop1 _ _ _) ⟨rfl, by rw [hd]; rfl⟩
                      · refine rn ?_
                        have hd : decSlow s = (bI .or .i32 (bI .or .i32 (bI .or .i32 (rbits (bt s 0) 7 18) (rbits (bt s 1) 63 12)) (rbits (bt s 2) 63 6)) (rbits (bt s 3) 63 0), 4) := by
                          unfold decSlow
                          rw [if_neg (by omega)]
                          simp only [hx]
                          rw [if_neg (by decide), if_neg (show ¬ (s.size : Int) < (4 : Int) % 8 from of_decide_eq_false hc45), if_neg (show ¬ (bt s 1 < accLo ((4 : Int) / 16).toNat ∨ accHi ((4 : Int) / 16).toNat < bt s 1) from fun q => q.elim (of_decide_eq_false hg14_4) (of_decide_eq_false hc57)), if_neg (by decide), if_neg (show ¬ (bt s 2 < 128 ∨ 191 < bt s 2) from fun q => q.elim (of_decide_eq_false hg19_2) (of_decide_eq_false hc75)), if_neg (by decide), if_neg (show ¬ (bt s 3 < 128 ∨ 191 < bt s 3) from fun q => q.elim (of_decide_eq_false hg24_2) (of_decide_eq_false hc98))]
                        exact retq (.cons _ _ _ _ (.tmp _ _ rfl) (.cons _ _ _ _ (.tmp _ _ rfl) .nil)) (.drop1 _ _ _) ⟨rfl, by rw [hd]; rfl⟩
theorem decodeSlow68 (s : ByteArray) (hx : firstV (bt s 0).toNat = 68) : ACall Tryz.prog 141 [.v (.string s)] [.glob 1 168 firstC, .glob 2 171 acceptC] (fun r h' => h' = [.glob 1 168 firstC, .glob 2 171 acceptC] ∧ r = .tup [.v (.int .i32 (decSlow s).1), iv (decSlow s).2]) := by
  refine acall_of_aw Tryz.func141 rfl rfl rfl ?_
  refine rn ?_
  refine aw_cond rfl (fun hc16 => ?_) (fun hc16 => ?_)
  · refine rn ?_
    have hd : decSlow s = (65533, 0) := by
      unfold decSlow
      rw [if_pos (by simp at hc16; omega)]
    exact retq (.cons _ _ _ _ (.tmp _ _ rfl) (.cons _ _ _ _ (.tmp _ _ rfl) .nil)) (.refl _ _) ⟨rfl, by rw [hd]; rfl⟩
  · have h1 : 0 < s.size := by simp at hc16; omega
    refine rn ?_
    refine qq rfl rfl (qr_index_bt 0 rfl rfl (by omega)) ?_
    refine rn ?_
    refine qq rfl rfl (qr_indexAddr_int rfl rfl (bt_ge _ _) (bt_lt _ _)) ?_
    refine qq rfl rfl (qr_load_one rfl (show _ = some (.v (.int .u8 68)) from by rw [firstC_get (bt_ge s 0) (bt_lt s 0), hx])) ?_
    refine rn ?_
    refine aw_cond rfl (fun hc23 => ?_) (fun hc23 => ?_)
    · first | cases hc23 | exact absurd hc23 (by decide) | (exfalso; simp_all; done)
    · refine rn ?_
      refine qq rfl rfl (qr_indexAddr_int rfl rfl (by decide) (by decide)) ?_
      refine rn ?_
      refine aops_e rfl (oe_alloc rfl fun b9 => ?_)
      refine rn ?_
      refine aw_cond rfl (fun hc45 => ?_) (fun hc45 => ?_)
      · refine rn ?_
        have hd : decSlow s = (65533, 1) := by
          unfold decSlow
          rw [if_neg (by omega)]
          simp only [hx]
          rw [if_neg (by decide), if_pos (show (s.size : Int) < (68 : Int) % 8 from of_decide_eq_true hc45)]
        exact retq (.cons _ _ _ _ (.tmp _ _ rfl) (.cons _ _ _ _ (.tmp _ _ rfl) .nil)) (.drop1 _ _ _) ⟨rfl, by rw [hd]; rfl⟩
      · have h2 : 4 ≤ s.size := by
          have : ¬ ((s.size : Int) < 4) := of_decide_eq_false hc45
          omega
        refine rn ?_
        refine qq rfl rfl (qr_index_bt 1 rfl rfl (by omega)) ?_
        refine rn ?_
        refine asplit (fun hg14_4 => ?_) (fun hg14_4 => ?_)
        · refine rn ?_
          refine aw_cond rfl (fun hc57 => ?_) (fun hc57 => ?_)
          · refine rn ?_
            have hd : decSlow s = (65533, 1) := by
              unfold decSlow
              rw [if_neg (by omega)]
              simp only [hx]
              rw [if_neg (by decide), if_neg (show ¬ (s.size : Int) < (68 : Int) % 8 from of_decide_eq_false hc45), if_pos (show bt s 1 < accLo ((68 : Int) / 16).toNat ∨ accHi ((68 : Int) / 16).toNat < bt s 1 from by first | exact .inl (of_decide_eq_true hg14_4) | exact .inr (of_decide_eq_true hc57))]
            exact retq (.cons _ _ _ _ (.tmp _ _ rfl) (.cons _ _ _ _ (.tmp _ _ rfl) .nil)) (.drop1 _ _ _) ⟨rfl, by rw [hd]; rfl⟩
          · first | cases hc57 | exact absurd hc57 (by decide) | (exfalso; simp_all; done)
        · refine rn ?_
          refine aw_cond rfl (fun hc57 => ?_) (fun hc57 => ?_)
          · refine rn ?_
            have hd : decSlow s = (65533, 1) := by
              unfold decSlow
              rw [if_neg (by omega)]
              simp only [hx]
              rw [if_neg (by decide), if_neg (show ¬ (s.size : Int) < (68 : Int) % 8 from of_decide_eq_false hc45), if_pos (show bt s 1 < accLo ((68 : Int) / 16).toNat ∨ accHi ((68 : Int) / 16).toNat < bt s 1 from by first | exact .inl (of_decide_eq_true hg14_4) | exact .inr (of_decide_eq_true hc57))]
            exact retq (.cons _ _ _ _ (.tmp _ _ rfl) (.cons _ _ _ _ (.tmp _ _ rfl) .nil)) (.drop1 _ _ _) ⟨rfl, by rw [hd]; rfl⟩
          · refine rn ?_
            refine aw_cond rfl (fun hc59 => ?_) (fun hc59 => ?_)
            · first | cases hc59 | exact absurd hc59 (by decide) | (exfalso; simp_all; done)
            · refine rn ?_
              refine qq rfl rfl (qr_index_bt 2 rfl rfl (by omega)) ?_
              refine rn ?_
              refine asplit (fun hg19_2 => ?_) (fun hg19_2 => ?_)
              · refine rn ?_
                refine aw_cond rfl (fun hc75 => ?_) (fun hc75 => ?_)
                · refine rn ?_
                  have hd : decSlow s = (65533, 1) := by
                    unfold decSlow
                    rw [if_neg (by omega)]
                    simp only [hx]
                    rw [if_neg (by decide), if_neg (show ¬ (s.size : Int) < (68 : Int) % 8 from of_decide_eq_false hc45), if_neg (show ¬ (bt s 1 < accLo ((68 : Int) / 16).toNat ∨ accHi ((68 : Int) / 16).toNat < bt s 1) from fun q => q.elim (of_decide_eq_false hg14_4) (of_decide_eq_false hc57)), if_neg (by decide), if_pos (show bt s 2 < 128 ∨ 191 < bt s 2 from by first | exact .inl (of_decide_eq_true hg19_2) | exact .inr (of_decide_eq_true hc75))]
                  exact retq (.cons _ _ _ _ (.tmp _ _ rfl) (.cons _ _ _ _ (.tmp _ _ rfl) .nil)) (.drop1 _ _ _) ⟨rfl, by rw [hd]; rfl⟩
                · first | cases hc75 | exact absurd hc75 (by decide) | (exfalso; simp_all; done)
              · refine rn ?_
                refine aw_cond rfl (fun hc75 => ?_) (fun hc75 => ?_)
                · refine rn ?_
                  have hd : decSlow s = (65533, 1) := by
                    unfold decSlow
                    rw [if_neg (by omega)]
                    simp only [hx]
                    rw [if_neg (by decide), if_neg (show ¬ (s.size : Int) < (68 : Int) % 8 from of_decide_eq_false hc45), if_neg (show ¬ (bt s 1 < accLo ((68 : Int) / 16).toNat ∨ accHi ((68 : Int) / 16).toNat < bt s 1) from fun q => q.elim (of_decide_eq_false hg14_4) (of_decide_eq_false hc57)), if_neg (by decide), if_pos (show bt s 2 < 128 ∨ 191 < bt s 2 from by first | exact .inl (of_decide_eq_true hg19_2) | exact .inr (of_decide_eq_true hc75))]
                  exact retq (.cons _ _ _ _ (.tmp _ _ rfl) (.cons _ _ _ _ (.tmp _ _ rfl) .nil)) (.drop1 _ _ _) ⟨rfl, by rw [hd]; rfl⟩
                · refine rn ?_
                  refine aw_cond rfl (fun hc77 => ?_) (fun hc77 => ?_)
                  · first | cases hc77 | exact absurd hc77 (by decide) | (exfalso; simp_all; done)
                  · refine rn ?_
                    refine qq rfl rfl (qr_index_bt 3 rfl rfl (by omega)) ?_
                    refine rn ?_
                    refine asplit (fun hg24_2 => ?_) (fun hg24_2 => ?_)
                    · refine rn ?_
                      refine aw_cond rfl (fun hc98 => ?_) (fun hc98 => ?_)
                      · refine rn ?_
                        have hd : decSlow s = (65533, 1) := by
                          unfold decSlow
                          rw [if_neg (by omega)]
                          simp only [hx]
                          rw [if_neg (by decide), if_neg (show ¬ (s.size : Int) < (68 : Int) % 8 from of_decide_eq_false hc45), if_neg (show ¬ (bt s 1 < accLo ((68 : Int) / 16).toNat ∨ accHi ((68 : Int) / 16).toNat < bt s 1) from fun q => q.elim (of_decide_eq_false hg14_4) (of_decide_eq_false hc57)), if_neg (by decide), if_neg (show ¬ (bt s 2 < 128 ∨ 191 < bt s 2) from fun q => q.elim (of_decide_eq_false hg19_2) (of_decide_eq_false hc75)), if_neg (by decide), if_pos (show bt s 3 < 128 ∨ 191 < bt s 3 from by first | exact .inl (of_decide_eq_true hg24_2) | exact .inr (of_decide_eq_true hc98))]
                        exact retq (.cons _ _ _ _ (.tmp _ _ rfl) (.cons _ _ _ _ (.tmp _ _ rfl) .nil)) (.drop1 _ _ _) ⟨rfl, by rw [hd]; rfl⟩
                      · first | cases hc98 | exact absurd hc98 (by decide) | (exfalso; simp_all; done)
                    · refine rn ?_
                      refine aw_cond rfl (fun hc98 => ?_) (fun hc98 => ?_)
                      · refine rn ?_
                        have hd : decSlow s = (65533, 1) := by
                          unfold decSlow
                          rw [if_neg (by omega)]
                          simp only [hx]
                          rw [if_neg (by decide), if_neg (show ¬ (s.size : Int) < (68 : Int) % 8 from of_decide_eq_false hc45), if_neg (show ¬ (bt s 1 < accLo ((68 : Int) / 16).toNat ∨ accHi ((68 : Int) / 16).toNat < bt s 1) from fun q => q.elim (of_decide_eq_false hg14_4) (of_decide_eq_false hc57)), if_neg (by decide), if_neg (show ¬ (bt s 2 < 128 ∨ 191 < bt s 2) from fun q => q.elim (of_decide_eq_false hg19_2) (of_decide_eq_false hc75)), if_neg (by decide), if_pos (show bt s 3 < 128 ∨ 191 < bt s 3 from by first | exact .inl (of_decide_eq_true hg24_2) | exact .inr (of_decide_eq_true hc98))]
                        exact retq (.cons _ _ _ _ (.tmp _ _ rfl) (.cons _ _ _ _ (.tmp _ _ rfl) .nil)) (.drop1 _ _ _) ⟨rfl, by rw [hd]; rfl⟩
                      · refine rn ?_
                        have hd : decSlow s = (bI .or .i32 (bI .or .i32 (bI .or .i32 (rbits (bt s 0) 7 18) (rbits (bt s 1) 63 12)) (rbits (bt s 2) 63 6)) (rbits (bt s 3) 63 0), 4) := by
                          unfold decSlow
                          rw [if_neg (by omega)]
                          simp only [hx]
                          rw [if_neg (by decide), if_neg (show ¬ (s.size : Int) < (68 : Int) % 8 from of_decide_eq_false hc45), if_neg (show ¬ (bt s 1 < accLo ((68 : Int) / 16).toNat ∨ accHi ((68 : Int) / 16).toNat < bt s 1) from fun q => q.elim (of_decide_eq_false hg14_4) (of_decide_eq_false hc57)), if_neg (by decide), if_neg (show ¬ (bt s 2 < 128 ∨ 191 < bt s 2) from fun q => q.elim (of_decide_eq_false hg19_2) (of_decide_eq_false hc75)), if_neg (by decide), if_neg (show ¬ (bt s 3 < 128 ∨ 191 < bt s 3) from fun q => q.elim (of_decide_eq_false hg24_2) (of_decide_eq_false hc98))]
                        exact retq (.cons _ _ _ _ (.tmp _ _ rfl) (.cons _ _ _ _ (.tmp _ _ rfl) .nil)) (.drop1 _ _ _) ⟨rfl, by rw [hd]; rfl⟩
theorem decodeSlow (s : ByteArray) : ACall Tryz.prog 141 [.v (.string s)] [.glob 1 168 firstC, .glob 2 171 acceptC] (fun r h' => h' = [.glob 1 168 firstC, .glob 2 171 acceptC] ∧ r = .tup [.v (.int .i32 (decSlow s).1), iv (decSlow s).2]) := by
  rcases firstV_cases (bt s 0).toNat with hx | hx | hx | hx | hx | hx | hx | hx | hx
  · exact decodeSlow240 s hx
  · exact decodeSlow241 s hx
  · exact decodeSlow2 s hx
  · exact decodeSlow19 s hx
  · exact decodeSlow3 s hx
  · exact decodeSlow35 s hx
  · exact decodeSlow52 s hx
  · exact decodeSlow4 s hx
  · exact decodeSlow68 s hx
theorem decodeRune (s : ByteArray) : ACall Tryz.prog 139 [.v (.string s)] [.glob 1 168 firstC, .glob 2 171 acceptC] (fun r h' => h' = [.glob 1 168 firstC, .glob 2 171 acceptC] ∧ r = .tup [.v (.int .i32 (decStr s).1), iv (decStr s).2]) := by
  refine acall_of_aw Tryz.func139 rfl rfl rfl ?_
  refine rn ?_
  refine asplit (fun hg1_2 => ?_) (fun hg1_2 => ?_)
  · refine rn ?_
    have h1 : 0 < s.size := str_ne hg1_2
    refine qq rfl rfl (qr_index_bt 0 rfl rfl (by omega)) ?_
    refine rn ?_
    refine aw_cond rfl (fun hc10 => ?_) (fun hc10 => ?_)
    · refine rn ?_
      refine qq rfl rfl (qr_index_bt 0 rfl rfl (by omega)) ?_
      refine rn ?_
      have hd : decStr s = (bt s 0, 1) := by
        unfold decStr
        exact if_pos ⟨str_ne hg1_2, of_decide_eq_true hc10⟩
      exact retq (.cons _ _ _ _ (.tmp _ _ rfl) (.cons _ _ _ _ (.tmp _ _ rfl) .nil)) (.refl _ _) ⟨rfl, by rw [hd]; exact congrArg (fun c => AV.tup [.v (.int .i32 c), iv 1]) (bt_wrap s 0)⟩
    · refine rn ?_
      refine qv rfl rfl (qv_call rfl rfl (FCall.of_fun (decodeSlow s))) ?_
      refine rn ?_
      have hd : decStr s = decSlow s := by
        unfold decStr
        exact if_neg fun q => by first | exact str_eq hg1_2 q.1 | exact absurd q.2 (of_decide_eq_false hc10)
      exact retq (.cons _ _ _ _ (.tmp _ _ rfl) (.cons _ _ _ _ (.tmp _ _ rfl) .nil)) (.refl _ _) ⟨rfl, by rw [hd]; rfl⟩
  · refine rn ?_
    refine aw_cf rfl ?_
    refine rn ?_
    refine qv rfl rfl (qv_call rfl rfl (FCall.of_fun (decodeSlow s))) ?_
    refine rn ?_
    have hd : decStr s = decSlow s := by
      unfold decStr
      exact if_neg fun q => by first | exact str_eq hg1_2 q.1 | exact absurd q.2 (of_decide_eq_false hc10)
    exact retq (.cons _ _ _ _ (.tmp _ _ rfl) (.cons _ _ _ _ (.tmp _ _ rfl) .nil)) (.refl _ _) ⟨rfl, by rw [hd]; rfl⟩
end Go.Proofs
/- The walks of slices.Equal. Conditions: none. -/
set_option linter.unusedVariables false
set_option linter.unusedSimpArgs false
set_option maxRecDepth 10000
namespace Go.Proofs
open Go Go.Ab
attribute [local irreducible] QR QV OE aops aw dsoup dsoupM dalloc dallocM thn inBlk
open Go.H
theorem equalInt {f g : Bool} (l m : List Int) (hl : l.length ≤ 4611686018427387904) (hm : m.length ≤ 4611686018427387904) : ACall Tryz.prog 22 [.list f 1 (l.map intR), .list g 1 (m.map intR)] [] (fun r h' => h' = [] ∧ r = bv (eqF intEq l m)) := by
  refine acall_of_aw Tryz.func22 rfl rfl rfl ?_
  refine rn ?_
  refine aw_cond rfl (fun hc10 => ?_) (fun hc10 => ?_)
  · refine rn ?_
    have hne : (l.length == m.length) = false := beq_eq_false_iff_ne.2 fun q => by simp [q] at hc10
    exact retq (.cons _ _ _ _ (.tmp _ _ rfl) .nil) (.refl _ _) ⟨rfl, by rw [eqF, hne, Bool.false_and]; rfl⟩
  · have hlm : l.length = m.length := by simp at hc10; omega
    refine rn ?_
    refine aw_loop' (fun k : Nat => k ≤ l.length ∧ zall intEq l m = zall intEq (l.drop k) (m.drop k)) (fun k => ⟨[(13, iv k), (12, iv (l.map intR).length), (0, .list f 1 (l.map intR)), (1, .list g 1 (m.map intR))], [], []⟩) (fun k => l.length - k) 0 ⟨Nat.zero_le _, by simp⟩
      (ent_sub (.cons _ _ _ rfl (.cons _ _ _ rfl (.cons _ _ _ rfl (.cons _ _ _ rfl (.nil)))))) ?_
    rintro k ⟨hk, hz⟩
    refine rn ?_
    refine aw_cond rfl (fun hc14 => ?_) (fun hc14 => ?_)
    · have hk2 : k < l.length := by simpa using hc14
      have hk3 : k < m.length := by omega
      have hrow1 : (l.map intR)[k]? = some (intR l[k]) := by simp [hk2]
      have hrow2 : (m.map intR)[k]? = some (intR m[k]) := by simp [hk3]
      have hd1 := List.drop_eq_getElem_cons hk2
      have hd2 := List.drop_eq_getElem_cons hk3
      refine rn ?_
      refine aw_draw 8 rfl ?_
      refine rn ?_
      refine aw_cond rfl (fun hc24 => ?_) (fun hc24 => ?_)
      · refine rn ?_
        exact retq (.cons _ _ _ _ (.tmp _ _ rfl) .nil) (.refl _ _) ⟨rfl, by rw [eqF, hz, hd1, hd2, zall, show intEq l[k] m[k] = false from not_t hc24, Bool.false_and, Bool.and_false]; rfl⟩
      · refine rn ?_
        exact ⟨k + 1, ⟨by omega, by rw [hz, hd1, hd2, zall, show intEq l[k] m[k] = true from not_f hc24, Bool.true_and]⟩, (ent_sub (.cons _ _ _ rfl (.cons _ _ _ rfl (.cons _ _ _ rfl (.cons _ _ _ rfl (.nil)))))), by omega⟩
    · have hk3 : k = l.length := by
        have : l.length ≤ k := by simpa using hc14
        omega
      refine rn ?_
      exact retq (.cons _ _ _ _ (.tmp _ _ rfl) .nil) (.refl _ _) ⟨rfl, by rw [eqF, hz, hk3, List.drop_length, zall_nil, hlm, beq_self_eq_true]; rfl⟩
theorem equalStr {f g : Bool} (l m : List ByteArray) (hl : l.length ≤ 4611686018427387904) (hm : m.length ≤ 4611686018427387904) : ACall Tryz.prog 37 [.list f 1 (l.map strR), .list g 1 (m.map strR)] [] (fun r h' => h' = [] ∧ r = bv (eqF strEq l m)) := by
  refine acall_of_aw Tryz.func37 rfl rfl rfl ?_
  refine rn ?_
  refine aw_cond rfl (fun hc10 => ?_) (fun hc10 => ?_)
  · refine rn ?_
    have hne : (l.length == m.length) = false := beq_eq_false_iff_ne.2 fun q => by simp [q] at hc10
    exact retq (.cons _ _ _ _ (.tmp _ _ rfl) .nil) (.refl _ _) ⟨rfl, by rw [eqF, hne, Bool.false_and]; rfl⟩
  · have hlm : l.length = m.length := by simp at hc10; omega
    refine rn ?_
    refine aw_loop' (fun k : Nat => k ≤ l.length ∧ zall strEq l m = zall strEq (l.drop k) (m.drop k)) (fun k => ⟨[(13, iv k), (12, iv (l.map strR).length), (0, .list f 1 (l.map strR)), (1, .list g 1 (m.map strR))], [], []⟩) (fun k => l.length - k) 0 ⟨Nat.zero_le _, by simp⟩
      (ent_sub (.cons _ _ _ rfl (.cons _ _ _ rfl (.cons _ _ _ rfl (.cons _ _ _ rfl (.nil)))))) ?_
    rintro k ⟨hk, hz⟩
    refine rn ?_
    refine aw_cond rfl (fun hc14 => ?_) (fun hc14 => ?_)
    · have hk2 : k < l.length := by simpa using hc14
      have hk3 : k < m.length := by omega
      have hrow1 : (l.map strR)[k]? = some (strR l[k]) := by simp [hk2]
      have hrow2 : (m.map strR)[k]? = some (strR m[k]) := by simp [hk3]
      have hd1 := List.drop_eq_getElem_cons hk2
      have hd2 := List.drop_eq_getElem_cons hk3
      refine rn ?_
      refine aw_draw 8 rfl ?_
      refine rn ?_
      refine aw_cond rfl (fun hc24 => ?_) (fun hc24 => ?_)
      · refine rn ?_
        exact retq (.cons _ _ _ _ (.tmp _ _ rfl) .nil) (.refl _ _) ⟨rfl, by rw [eqF, hz, hd1, hd2, zall, show strEq l[k] m[k] = false from not_t hc24, Bool.false_and, Bool.and_false]; rfl⟩
      · refine rn ?_
        exact ⟨k + 1, ⟨by omega, by rw [hz, hd1, hd2, zall, show strEq l[k] m[k] = true from not_f hc24, Bool.true_and]⟩, (ent_sub (.cons _ _ _ rfl (.cons _ _ _ rfl (.cons _ _ _ rfl (.cons _ _ _ rfl (.nil)))))), by omega⟩
    · have hk3 : k = l.length := by
        have : l.length ≤ k := by simpa using hc14
        omega
      refine rn ?_
      exact retq (.cons _ _ _ _ (.tmp _ _ rfl) .nil) (.refl _ _) ⟨rfl, by rw [eqF, hz, hk3, List.drop_length, zall_nil, hlm, beq_self_eq_true]; rfl⟩
theorem equalSeen {f g : Bool} (l m : List Seen) (hl : l.length ≤ 4611686018427387904) (hm : m.length ≤ 4611686018427387904) : ACall Tryz.prog 35 [.list f 3 (l.map seenR), .list g 3 (m.map seenR)] [] (fun r h' => h' = [] ∧ r = bv (eqF seenEq l m)) := by
  refine acall_of_aw Tryz.func35 rfl rfl rfl ?_
  refine rn ?_
  refine aw_cond rfl (fun hc10 => ?_) (fun hc10 => ?_)
  · refine rn ?_
    have hne : (l.length == m.length) = false := beq_eq_false_iff_ne.2 fun q => by simp [q] at hc10
    exact retq (.cons _ _ _ _ (.tmp _ _ rfl) .nil) (.refl _ _) ⟨rfl, by rw [eqF, hne, Bool.false_and]; rfl⟩
  · have hlm : l.length = m.length := by simp at hc10; omega
    refine rn ?_
    refine aw_loop' (fun k : Nat => k ≤ l.length ∧ zall seenEq l m = zall seenEq (l.drop k) (m.drop k)) (fun k => ⟨[(13, iv k), (12, iv (l.map seenR).length), (0, .list f 3 (l.map seenR)), (1, .list g 3 (m.map seenR))], [], []⟩) (fun k => l.length - k) 0 ⟨Nat.zero_le _, by simp⟩
      (ent_sub (.cons _ _ _ rfl (.cons _ _ _ rfl (.cons _ _ _ rfl (.cons _ _ _ rfl (.nil)))))) ?_
    rintro k ⟨hk, hz⟩
    refine rn ?_
    refine aw_cond rfl (fun hc14 => ?_) (fun hc14 => ?_)
    · have hk2 : k < l.length := by simpa using hc14
      have hk3 : k < m.length := by omega
      have hrow1 : (l.map seenR)[k]? = some (seenR l[k]) := by simp [hk2]
      have hrow2 : (m.map seenR)[k]? = some (seenR m[k]) := by simp [hk3]
      have hd1 := List.drop_eq_getElem_cons hk2
      have hd2 := List.drop_eq_getElem_cons hk3
      refine rn ?_
      refine aw_draw 8 rfl ?_
      refine rn ?_
      refine aw_cond rfl (fun hc24 => ?_) (fun hc24 => ?_)
      · refine rn ?_
        exact retq (.cons _ _ _ _ (.tmp _ _ rfl) .nil) (.refl _ _) ⟨rfl, by rw [eqF, hz, hd1, hd2, zall, show seenEq l[k] m[k] = false from not_t hc24, Bool.false_and, Bool.and_false]; rfl⟩
      · refine rn ?_
        exact ⟨k + 1, ⟨by omega, by rw [hz, hd1, hd2, zall, show seenEq l[k] m[k] = true from not_f hc24, Bool.true_and]⟩, (ent_sub (.cons _ _ _ rfl (.cons _ _ _ rfl (.cons _ _ _ rfl (.cons _ _ _ rfl (.nil)))))), by omega⟩
    · have hk3 : k = l.length := by
        have : l.length ≤ k := by simpa using hc14
        omega
      refine rn ?_
      exact retq (.cons _ _ _ _ (.tmp _ _ rfl) .nil) (.refl _ _) ⟨rfl, by rw [eqF, hz, hk3, List.drop_length, zall_nil, hlm, beq_self_eq_true]; rfl⟩
theorem equalWan {f g : Bool} (l m : List Wan) (hl : l.length ≤ 4611686018427387904) (hm : m.length ≤ 4611686018427387904) : ACall Tryz.prog 42 [.list f 2 (l.map wanR), .list g 2 (m.map wanR)] [] (fun r h' => h' = [] ∧ r = bv (eqF wanEq l m)) := by
  refine acall_of_aw Tryz.func42 rfl rfl rfl ?_
  refine rn ?_
  refine aw_cond rfl (fun hc10 => ?_) (fun hc10 => ?_)
  · refine rn ?_
    have hne : (l.length == m.length) = false := beq_eq_false_iff_ne.2 fun q => by simp [q] at hc10
    exact retq (.cons _ _ _ _ (.tmp _ _ rfl) .nil) (.refl _ _) ⟨rfl, by rw [eqF, hne, Bool.false_and]; rfl⟩
  · have hlm : l.length = m.length := by simp at hc10; omega
    refine rn ?_
    refine aw_loop' (fun k : Nat => k ≤ l.length ∧ zall wanEq l m = zall wanEq (l.drop k) (m.drop k)) (fun k => ⟨[(13, iv k), (12, iv (l.map wanR).length), (0, .list f 2 (l.map wanR)), (1, .list g 2 (m.map wanR))], [], []⟩) (fun k => l.length - k) 0 ⟨Nat.zero_le _, by simp⟩
      (ent_sub (.cons _ _ _ rfl (.cons _ _ _ rfl (.cons _ _ _ rfl (.cons _ _ _ rfl (.nil)))))) ?_
    rintro k ⟨hk, hz⟩
    refine rn ?_
    refine aw_cond rfl (fun hc14 => ?_) (fun hc14 => ?_)
    · have hk2 : k < l.length := by simpa using hc14
      have hk3 : k < m.length := by omega
      have hrow1 : (l.map wanR)[k]? = some (wanR l[k]) := by simp [hk2]
      have hrow2 : (m.map wanR)[k]? = some (wanR m[k]) := by simp [hk3]
      have hd1 := List.drop_eq_getElem_cons hk2
      have hd2 := List.drop_eq_getElem_cons hk3
      refine rn ?_
      refine aw_draw 8 rfl ?_
      refine rn ?_
      refine aw_cond rfl (fun hc24 => ?_) (fun hc24 => ?_)
      · refine rn ?_
        exact retq (.cons _ _ _ _ (.tmp _ _ rfl) .nil) (.refl _ _) ⟨rfl, by rw [eqF, hz, hd1, hd2, zall, show wanEq l[k] m[k] = false from not_t hc24, Bool.false_and, Bool.and_false]; rfl⟩
      · refine rn ?_
        exact ⟨k + 1, ⟨by omega, by rw [hz, hd1, hd2, zall, show wanEq l[k] m[k] = true from not_f hc24, Bool.true_and]⟩, (ent_sub (.cons _ _ _ rfl (.cons _ _ _ rfl (.cons _ _ _ rfl (.cons _ _ _ rfl (.nil)))))), by omega⟩
    · have hk3 : k = l.length := by
        have : l.length ≤ k := by simpa using hc14
        omega
      refine rn ?_
      exact retq (.cons _ _ _ _ (.tmp _ _ rfl) .nil) (.refl _ _) ⟨rfl, by rw [eqF, hz, hk3, List.drop_length, zall_nil, hlm, beq_self_eq_true]; rfl⟩
end Go.Proofs
/- The walks of small functions. Conditions: none. -/
set_option linter.unusedVariables false
set_option linter.unusedSimpArgs false
set_option maxRecDepth 10000
namespace Go.Proofs
open Go Go.Ab
attribute [local irreducible] QR QV OE aops aw dsoup dsoupM dalloc dallocM thn inBlk
open Go.H
theorem levelCheck (l : Int) : ACall Tryz.prog 104 [iv l] [] (fun r h' => h' = [] ∧ r = iv (levB l)) := by
  refine acall_of_aw Tryz.func104 rfl rfl rfl ?_
  refine rn ?_
  refine asplit (fun hg1_2 => ?_) (fun hg1_2 => ?_)
  · refine rn ?_
    refine aw_ct rfl ?_
    refine rn ?_
    exact retq (.cons _ _ _ _ (.tmp _ _ rfl) .nil) (.refl _ _) ⟨rfl, congrArg iv (by simp_all [levB])⟩
  · refine rn ?_
    refine aw_cond rfl (fun hc8 => ?_) (fun hc8 => ?_)
    · refine rn ?_
      exact retq (.cons _ _ _ _ (.tmp _ _ rfl) .nil) (.refl _ _) ⟨rfl, congrArg iv (by simp_all [levB])⟩
    · refine rn ?_
      exact retq (.cons _ _ _ _ (.tmp _ _ rfl) .nil) (.refl _ _) ⟨rfl, congrArg iv (by simp_all [levB])⟩
theorem lexNumber (c : Int) : ACall Tryz.prog 96 [.v (.int .i32 c)] [] (fun r h' => h' = [] ∧ r = bv (numB c)) := by
  refine acall_of_aw Tryz.func96 rfl rfl rfl ?_
  refine rn ?_
  refine asplit (fun hg1_2 => ?_) (fun hg1_2 => ?_)
  · refine rn ?_
    exact retq (.cons _ _ _ _ (.tmp _ _ rfl) .nil) (.refl _ _) ⟨rfl, congrArg bv (by first | (simp only [numB, *, Bool.true_and, Bool.false_and, Bool.and_false, Bool.and_true, Bool.true_or, Bool.or_false, Bool.false_or, Bool.or_true, if_true, if_false, Bool.false_eq_true, Bool.not_true, Bool.not_false]; done) | (simp_all [numB]; done) | (simp_all [numB] <;> omega))⟩
  · refine rn ?_
    exact retq (.cons _ _ _ _ (.tmp _ _ rfl) .nil) (.refl _ _) ⟨rfl, congrArg bv (by first | (simp only [numB, *, Bool.true_and, Bool.false_and, Bool.and_false, Bool.and_true, Bool.true_or, Bool.or_false, Bool.false_or, Bool.or_true, if_true, if_false, Bool.false_eq_true, Bool.not_true, Bool.not_false]; done) | (simp_all [numB]; done) | (simp_all [numB] <;> omega))⟩
theorem lexLetter (c : Int) : ACall Tryz.prog 128 [.v (.int .i32 c)] [] (fun r h' => h' = [] ∧ r = bv (letB c)) := by
  refine acall_of_aw Tryz.func128 rfl rfl rfl ?_
  refine rn ?_
  refine asplit (fun hg1_2 => ?_) (fun hg1_2 => ?_)
  · refine rn ?_
    exact retq (.cons _ _ _ _ (.tmp _ _ rfl) .nil) (.refl _ _) ⟨rfl, congrArg bv (by first | (simp only [letB, *, Bool.true_and, Bool.false_and, Bool.and_false, Bool.and_true, Bool.true_or, Bool.or_false, Bool.false_or, Bool.or_true, if_true, if_false, Bool.false_eq_true, Bool.not_true, Bool.not_false]; done) | (simp_all [letB]; done) | (simp_all [letB] <;> omega))⟩
  · refine rn ?_
    refine asplit (fun hg1_5 => ?_) (fun hg1_5 => ?_)
    · refine rn ?_
      refine asplit (fun hg1_10 => ?_) (fun hg1_10 => ?_)
      · refine rn ?_
        exact retq (.cons _ _ _ _ (.tmp _ _ rfl) .nil) (.refl _ _) ⟨rfl, congrArg bv (by first | (simp only [letB, *, Bool.true_and, Bool.false_and, Bool.and_false, Bool.and_true, Bool.true_or, Bool.or_false, Bool.false_or, Bool.or_true, if_true, if_false, Bool.false_eq_true, Bool.not_true, Bool.not_false]; done) | (simp_all [letB]; done) | (simp_all [letB] <;> omega))⟩
      · refine rn ?_
        refine asplit (fun hg1_13 => ?_) (fun hg1_13 => ?_)
        · refine rn ?_
          refine asplit (fun hg1_18 => ?_) (fun hg1_18 => ?_)
          · refine rn ?_
            exact retq (.cons _ _ _ _ (.tmp _ _ rfl) .nil) (.refl _ _) ⟨rfl, congrArg bv (by first | (simp only [letB, *, Bool.true_and, Bool.false_and, Bool.and_false, Bool.and_true, Bool.true_or, Bool.or_false, Bool.false_or, Bool.or_true, if_true, if_false, Bool.false_eq_true, Bool.not_true, Bool.not_false]; done) | (simp_all [letB]; done) | (simp_all [letB] <;> omega))⟩
          · refine rn ?_
            exact retq (.cons _ _ _ _ (.tmp _ _ rfl) .nil) (.refl _ _) ⟨rfl, congrArg bv (by first | (simp only [letB, *, Bool.true_and, Bool.false_and, Bool.and_false, Bool.and_true, Bool.true_or, Bool.or_false, Bool.false_or, Bool.or_true, if_true, if_false, Bool.false_eq_true, Bool.not_true, Bool.not_false]; done) | (simp_all [letB]; done) | (simp_all [letB] <;> omega))⟩
        · refine rn ?_
          exact retq (.cons _ _ _ _ (.tmp _ _ rfl) .nil) (.refl _ _) ⟨rfl, congrArg bv (by first | (simp only [letB, *, Bool.true_and, Bool.false_and, Bool.and_false, Bool.and_true, Bool.true_or, Bool.or_false, Bool.false_or, Bool.or_true, if_true, if_false, Bool.false_eq_true, Bool.not_true, Bool.not_false]; done) | (simp_all [letB]; done) | (simp_all [letB] <;> omega))⟩
    · refine rn ?_
      refine asplit (fun hg1_13 => ?_) (fun hg1_13 => ?_)
      · refine rn ?_
        refine asplit (fun hg1_18 => ?_) (fun hg1_18 => ?_)
        · refine rn ?_
          exact retq (.cons _ _ _ _ (.tmp _ _ rfl) .nil) (.refl _ _) ⟨rfl, congrArg bv (by first | (simp only [letB, *, Bool.true_and, Bool.false_and, Bool.and_false, Bool.and_true, Bool.true_or, Bool.or_false, Bool.false_or, Bool.or_true, if_true, if_false, Bool.false_eq_true, Bool.not_true, Bool.not_false]; done) | (simp_all [letB]; done) | (simp_all [letB] <;> omega))⟩
        · refine rn ?_
          exact retq (.cons _ _ _ _ (.tmp _ _ rfl) .nil) (.refl _ _) ⟨rfl, congrArg bv (by first | (simp only [letB, *, Bool.true_and, Bool.false_and, Bool.and_false, Bool.and_true, Bool.true_or, Bool.or_false, Bool.false_or, Bool.or_true, if_true, if_false, Bool.false_eq_true, Bool.not_true, Bool.not_false]; done) | (simp_all [letB]; done) | (simp_all [letB] <;> omega))⟩
      · refine rn ?_
        exact retq (.cons _ _ _ _ (.tmp _ _ rfl) .nil) (.refl _ _) ⟨rfl, congrArg bv (by first | (simp only [letB, *, Bool.true_and, Bool.false_and, Bool.and_false, Bool.and_true, Bool.true_or, Bool.or_false, Bool.false_or, Bool.or_true, if_true, if_false, Bool.false_eq_true, Bool.not_true, Bool.not_false]; done) | (simp_all [letB]; done) | (simp_all [letB] <;> omega))⟩
theorem lexEither (c : Int) : ACall Tryz.prog 98 [.v (.int .i32 c)] [] (fun r h' => h' = [] ∧ r = bv (letB c || numB c)) := by
  refine acall_of_aw Tryz.func98 rfl rfl rfl ?_
  refine rn ?_
  refine qv rfl rfl (qv_call rfl rfl (pcall (lexLetter _) (Sbs.refl _))) ?_
  refine rn ?_
  refine asplit (fun hg1_2 => ?_) (fun hg1_2 => ?_)
  · refine rn ?_
    exact retq (.cons _ _ _ _ (.tmp _ _ rfl) .nil) (.refl _ _) ⟨rfl, congrArg bv (by first | (simp only [*, Bool.true_and, Bool.false_and, Bool.and_false, Bool.and_true, Bool.true_or, Bool.or_false, Bool.false_or, Bool.or_true, if_true, if_false, Bool.false_eq_true, Bool.not_true, Bool.not_false]; done) | (simp_all; done) | (simp_all <;> omega))⟩
  · refine rn ?_
    refine qv rfl rfl (qv_call rfl rfl (pcall (lexNumber _) (Sbs.refl _))) ?_
    refine rn ?_
    exact retq (.cons _ _ _ _ (.tmp _ _ rfl) .nil) (.refl _ _) ⟨rfl, congrArg bv (by first | (simp only [*, Bool.true_and, Bool.false_and, Bool.and_false, Bool.and_true, Bool.true_or, Bool.or_false, Bool.false_or, Bool.or_true, if_true, if_false, Bool.false_eq_true, Bool.not_true, Bool.not_false]; done) | (simp_all; done) | (simp_all <;> omega))⟩
theorem names (h : Hist) : ACall Tryz.prog 33 [.agg (histC h)] [] (fun r h' => h' = [] ∧ r = .agg (namesC h)) := by
  refine acall_of_aw Tryz.func33 rfl rfl rfl ?_
  refine rn ?_
  refine aops_e rfl (oe_box rfl rfl rfl fun b1 => ?_)
  refine aops_e rfl (oe_alloc rfl fun b2 => ?_)
  refine rn ?_
  exact retq (.cons _ _ _ _ (.agg _ _ _ _ _ _ _ rfl inferInstance inferInstance inferInstance rfl) .nil) (.drop [_, _] _ _) ⟨rfl, rfl⟩
theorem told (h : Hist) (sort : Nat) (n : Int) (l : List ByteArray) (hs : (namesC h)[sort]? = some (strsA l)) (hs4 : sort < 4) : ACall Tryz.prog 64 [.agg (histC h), iv sort, iv n] [] (fun r h' => h' = [] ∧ r = bv (toldB l n)) := by
  refine acall_of_aw Tryz.func64 rfl rfl rfl ?_
  refine rn ?_
  refine aops_e rfl (oe_box rfl rfl rfl fun b3 => ?_)
  refine rn ?_
  refine asplit (fun hg1_2 => ?_) (fun hg1_2 => ?_)
  · refine rn ?_
    refine qv rfl rfl (qv_call rfl rfl (pcall (names _) (Sbs.refl _))) ?_
    refine q1 ?_
    refine qq rfl rfl (qr_index_arr_one rfl rfl (by omega) (by simpa using hs)) ?_
    refine rn ?_
    exact retq (.cons _ _ _ _ (.tmp _ _ rfl) .nil) (.drop1 _ _ _) ⟨rfl, congrArg bv (by first | (simp only [toldB, *, Bool.true_and, Bool.false_and, Bool.and_false, Bool.and_true, Bool.true_or, Bool.or_false, Bool.false_or, Bool.or_true, if_true, if_false, Bool.false_eq_true, Bool.not_true, Bool.not_false]; done) | (simp_all [toldB]; done) | (simp_all [toldB] <;> omega))⟩
  · refine rn ?_
    exact retq (.cons _ _ _ _ (.tmp _ _ rfl) .nil) (.drop1 _ _ _) ⟨rfl, congrArg bv (by first | (simp only [toldB, *, Bool.true_and, Bool.false_and, Bool.and_false, Bool.and_true, Bool.true_or, Bool.or_false, Bool.false_or, Bool.or_true, if_true, if_false, Bool.false_eq_true, Bool.not_true, Bool.not_false]; done) | (simp_all [toldB]; done) | (simp_all [toldB] <;> omega))⟩
theorem version (h : Hist) (v : Ver) : ACall Tryz.prog 106 [.agg (histC h), .agg (verR v)] [] (fun r h' => h' = [] ∧ r = bv (verB h.ts v)) := by
  refine acall_of_aw Tryz.func106 rfl rfl rfl ?_
  refine rn ?_
  refine aops_e rfl (oe_box rfl rfl rfl fun b2 => ?_)
  refine aops_e rfl (oe_box rfl rfl rfl fun b3 => ?_)
  refine rn ?_
  refine aw_cond rfl (fun hc7 => ?_) (fun hc7 => ?_)
  · refine rn ?_
    exact retq (.cons _ _ _ _ (.tmp _ _ rfl) .nil) (.drop [_, _] _ _) ⟨rfl, congrArg bv (by first | (simp only [verB, *, Bool.true_and, Bool.false_and, Bool.and_false, Bool.and_true, Bool.true_or, Bool.or_false, Bool.false_or, Bool.or_true, if_true, if_false, Bool.false_eq_true, Bool.not_true, Bool.not_false]; done) | (simp_all [verB]; done) | (simp_all [verB] <;> omega))⟩
  · refine rn ?_
    refine qv rfl rfl (qv_call rfl rfl (pcall (told _ 0 _ _ rfl (by decide)) (Sbs.refl _))) ?_
    refine rn ?_
    refine asplit (fun hg3_4 => ?_) (fun hg3_4 => ?_)
    · refine rn ?_
      refine asplit (fun hg3_9 => ?_) (fun hg3_9 => ?_)
      · refine rn ?_
        exact retq (.cons _ _ _ _ (.tmp _ _ rfl) .nil) (.drop [_, _] _ _) ⟨rfl, congrArg bv (by first | (simp only [verB, *, Bool.true_and, Bool.false_and, Bool.and_false, Bool.and_true, Bool.true_or, Bool.or_false, Bool.false_or, Bool.or_true, if_true, if_false, Bool.false_eq_true, Bool.not_true, Bool.not_false]; done) | (simp_all [verB]; done) | (simp_all [verB] <;> omega))⟩
      · refine rn ?_
        exact retq (.cons _ _ _ _ (.tmp _ _ rfl) .nil) (.drop [_, _] _ _) ⟨rfl, congrArg bv (by first | (simp only [verB, *, Bool.true_and, Bool.false_and, Bool.and_false, Bool.and_true, Bool.true_or, Bool.or_false, Bool.false_or, Bool.or_true, if_true, if_false, Bool.false_eq_true, Bool.not_true, Bool.not_false]; done) | (simp_all [verB]; done) | (simp_all [verB] <;> omega))⟩
    · refine rn ?_
      exact retq (.cons _ _ _ _ (.tmp _ _ rfl) .nil) (.drop [_, _] _ _) ⟨rfl, congrArg bv (by first | (simp only [verB, *, Bool.true_and, Bool.false_and, Bool.and_false, Bool.and_true, Bool.true_or, Bool.or_false, Bool.false_or, Bool.or_true, if_true, if_false, Bool.false_eq_true, Bool.not_true, Bool.not_false]; done) | (simp_all [verB]; done) | (simp_all [verB] <;> omega))⟩
theorem sameEvent (a b : Ev) (ha : a.scan.length ≤ 4611686018427387904) (hb : b.scan.length ≤ 4611686018427387904) : ACall Tryz.prog 11 [.agg (evR a), .agg (evR b)] [] (fun r h' => h' = [] ∧ r = bv (evEq a b)) := by
  refine acall_of_aw Tryz.func11 rfl rfl rfl ?_
  refine rn ?_
  refine aops_e rfl (oe_box rfl rfl rfl fun b2 => ?_)
  refine aops_e rfl (oe_box rfl rfl rfl fun b3 => ?_)
  refine rn ?_
  refine asplit (fun hg1_5 => ?_) (fun hg1_5 => ?_)
  · refine rn ?_
    refine asplit (fun hg1_12 => ?_) (fun hg1_12 => ?_)
    · refine rn ?_
      refine asplit (fun hg1_19 => ?_) (fun hg1_19 => ?_)
      · refine rn ?_
        refine asplit (fun hg2_1 => ?_) (fun hg2_1 => ?_)
        · refine rn ?_
          refine asplit (fun hg2_8 => ?_) (fun hg2_8 => ?_)
          · refine rn ?_
            refine asplit (fun hg2_15 => ?_) (fun hg2_15 => ?_)
            · refine rn ?_
              refine asplit (fun hg2_22 => ?_) (fun hg2_22 => ?_)
              · refine rn ?_
                refine qv rfl rfl (qv_call rfl rfl (pcall (equalSeen _ _ ha hb) (Sbs.refl _))) ?_
                refine rn ?_
                exact retq (.cons _ _ _ _ (.tmp _ _ rfl) .nil) (.drop [_, _] _ _) ⟨rfl, congrArg bv (by first | (simp only [evEq, *, Bool.true_and, Bool.false_and, Bool.and_false, Bool.and_true, Bool.true_or, Bool.or_false, Bool.false_or, Bool.or_true, if_true, if_false, Bool.false_eq_true, Bool.not_true, Bool.not_false]; done) | (simp_all [evEq]; done) | (simp_all [evEq] <;> omega))⟩
              · refine rn ?_
                exact retq (.cons _ _ _ _ (.tmp _ _ rfl) .nil) (.drop [_, _] _ _) ⟨rfl, congrArg bv (by first | (simp only [evEq, *, Bool.true_and, Bool.false_and, Bool.and_false, Bool.and_true, Bool.true_or, Bool.or_false, Bool.false_or, Bool.or_true, if_true, if_false, Bool.false_eq_true, Bool.not_true, Bool.not_false]; done) | (simp_all [evEq]; done) | (simp_all [evEq] <;> omega))⟩
            · refine rn ?_
              exact retq (.cons _ _ _ _ (.tmp _ _ rfl) .nil) (.drop [_, _] _ _) ⟨rfl, congrArg bv (by first | (simp only [evEq, *, Bool.true_and, Bool.false_and, Bool.and_false, Bool.and_true, Bool.true_or, Bool.or_false, Bool.false_or, Bool.or_true, if_true, if_false, Bool.false_eq_true, Bool.not_true, Bool.not_false]; done) | (simp_all [evEq]; done) | (simp_all [evEq] <;> omega))⟩
          · refine rn ?_
            exact retq (.cons _ _ _ _ (.tmp _ _ rfl) .nil) (.drop [_, _] _ _) ⟨rfl, congrArg bv (by first | (simp only [evEq, *, Bool.true_and, Bool.false_and, Bool.and_false, Bool.and_true, Bool.true_or, Bool.or_false, Bool.false_or, Bool.or_true, if_true, if_false, Bool.false_eq_true, Bool.not_true, Bool.not_false]; done) | (simp_all [evEq]; done) | (simp_all [evEq] <;> omega))⟩
        · refine rn ?_
          exact retq (.cons _ _ _ _ (.tmp _ _ rfl) .nil) (.drop [_, _] _ _) ⟨rfl, congrArg bv (by first | (simp only [evEq, *, Bool.true_and, Bool.false_and, Bool.and_false, Bool.and_true, Bool.true_or, Bool.or_false, Bool.false_or, Bool.or_true, if_true, if_false, Bool.false_eq_true, Bool.not_true, Bool.not_false]; done) | (simp_all [evEq]; done) | (simp_all [evEq] <;> omega))⟩
      · refine rn ?_
        exact retq (.cons _ _ _ _ (.tmp _ _ rfl) .nil) (.drop [_, _] _ _) ⟨rfl, congrArg bv (by first | (simp only [evEq, *, Bool.true_and, Bool.false_and, Bool.and_false, Bool.and_true, Bool.true_or, Bool.or_false, Bool.false_or, Bool.or_true, if_true, if_false, Bool.false_eq_true, Bool.not_true, Bool.not_false]; done) | (simp_all [evEq]; done) | (simp_all [evEq] <;> omega))⟩
    · refine rn ?_
      exact retq (.cons _ _ _ _ (.tmp _ _ rfl) .nil) (.drop [_, _] _ _) ⟨rfl, congrArg bv (by first | (simp only [evEq, *, Bool.true_and, Bool.false_and, Bool.and_false, Bool.and_true, Bool.true_or, Bool.or_false, Bool.false_or, Bool.or_true, if_true, if_false, Bool.false_eq_true, Bool.not_true, Bool.not_false]; done) | (simp_all [evEq]; done) | (simp_all [evEq] <;> omega))⟩
  · refine rn ?_
    exact retq (.cons _ _ _ _ (.tmp _ _ rfl) .nil) (.drop [_, _] _ _) ⟨rfl, congrArg bv (by first | (simp only [evEq, *, Bool.true_and, Bool.false_and, Bool.and_false, Bool.and_true, Bool.true_or, Bool.or_false, Bool.false_or, Bool.or_true, if_true, if_false, Bool.false_eq_true, Bool.not_true, Bool.not_false]; done) | (simp_all [evEq]; done) | (simp_all [evEq] <;> omega))⟩
theorem sameOrd (a b : H.Ord) (ha : a.ts.length ≤ 4611686018427387904) (hb : b.ts.length ≤ 4611686018427387904) : ACall Tryz.prog 39 [.agg (ordR a), .agg (ordR b)] [] (fun r h' => h' = [] ∧ r = bv (ordEq a b)) := by
  refine acall_of_aw Tryz.func39 rfl rfl rfl ?_
  refine rn ?_
  refine aops_e rfl (oe_box rfl rfl rfl fun b2 => ?_)
  refine aops_e rfl (oe_box rfl rfl rfl fun b3 => ?_)
  refine rn ?_
  refine asplit (fun hg1_5 => ?_) (fun hg1_5 => ?_)
  · refine rn ?_
    refine qv rfl rfl (qv_call rfl rfl (pcall (equalInt _ _ ha hb) (Sbs.refl _))) ?_
    refine rn ?_
    exact retq (.cons _ _ _ _ (.tmp _ _ rfl) .nil) (.drop [_, _] _ _) ⟨rfl, congrArg bv (by first | (simp only [ordEq, *, Bool.true_and, Bool.false_and, Bool.and_false, Bool.and_true, Bool.true_or, Bool.or_false, Bool.false_or, Bool.or_true, if_true, if_false, Bool.false_eq_true, Bool.not_true, Bool.not_false]; done) | (simp_all [ordEq]; done) | (simp_all [ordEq] <;> omega))⟩
  · refine rn ?_
    exact retq (.cons _ _ _ _ (.tmp _ _ rfl) .nil) (.drop [_, _] _ _) ⟨rfl, congrArg bv (by first | (simp only [ordEq, *, Bool.true_and, Bool.false_and, Bool.and_false, Bool.and_true, Bool.true_or, Bool.or_false, Bool.false_or, Bool.or_true, if_true, if_false, Bool.false_eq_true, Bool.not_true, Bool.not_false]; done) | (simp_all [ordEq]; done) | (simp_all [ordEq] <;> omega))⟩
theorem sameMat (a b : Mat) (ha : a.ts.length ≤ 4611686018427387904) (hb : b.ts.length ≤ 4611686018427387904) : ACall Tryz.prog 41 [.agg (matR a), .agg (matR b)] [] (fun r h' => h' = [] ∧ r = bv (matEq a b)) := by
  refine acall_of_aw Tryz.func41 rfl rfl rfl ?_
  refine rn ?_
  refine aops_e rfl (oe_box rfl rfl rfl fun b2 => ?_)
  refine aops_e rfl (oe_box rfl rfl rfl fun b3 => ?_)
  refine rn ?_
  refine asplit (fun hg1_5 => ?_) (fun hg1_5 => ?_)
  · refine rn ?_
    refine asplit (fun hg1_12 => ?_) (fun hg1_12 => ?_)
    · refine rn ?_
      refine asplit (fun hg1_19 => ?_) (fun hg1_19 => ?_)
      · refine rn ?_
        refine qv rfl rfl (qv_call rfl rfl (pcall (equalInt _ _ ha hb) (Sbs.refl _))) ?_
        refine rn ?_
        exact retq (.cons _ _ _ _ (.tmp _ _ rfl) .nil) (.drop [_, _] _ _) ⟨rfl, congrArg bv (by first | (simp only [matEq, *, Bool.true_and, Bool.false_and, Bool.and_false, Bool.and_true, Bool.true_or, Bool.or_false, Bool.false_or, Bool.or_true, if_true, if_false, Bool.false_eq_true, Bool.not_true, Bool.not_false]; done) | (simp_all [matEq]; done) | (simp_all [matEq] <;> omega))⟩
      · refine rn ?_
        exact retq (.cons _ _ _ _ (.tmp _ _ rfl) .nil) (.drop [_, _] _ _) ⟨rfl, congrArg bv (by first | (simp only [matEq, *, Bool.true_and, Bool.false_and, Bool.and_false, Bool.and_true, Bool.true_or, Bool.or_false, Bool.false_or, Bool.or_true, if_true, if_false, Bool.false_eq_true, Bool.not_true, Bool.not_false]; done) | (simp_all [matEq]; done) | (simp_all [matEq] <;> omega))⟩
    · refine rn ?_
      exact retq (.cons _ _ _ _ (.tmp _ _ rfl) .nil) (.drop [_, _] _ _) ⟨rfl, congrArg bv (by first | (simp only [matEq, *, Bool.true_and, Bool.false_and, Bool.and_false, Bool.and_true, Bool.true_or, Bool.or_false, Bool.false_or, Bool.or_true, if_true, if_false, Bool.false_eq_true, Bool.not_true, Bool.not_false]; done) | (simp_all [matEq]; done) | (simp_all [matEq] <;> omega))⟩
  · refine rn ?_
    exact retq (.cons _ _ _ _ (.tmp _ _ rfl) .nil) (.drop [_, _] _ _) ⟨rfl, congrArg bv (by first | (simp only [matEq, *, Bool.true_and, Bool.false_and, Bool.and_false, Bool.and_true, Bool.true_or, Bool.or_false, Bool.false_or, Bool.or_true, if_true, if_false, Bool.false_eq_true, Bool.not_true, Bool.not_false]; done) | (simp_all [matEq]; done) | (simp_all [matEq] <;> omega))⟩
end Go.Proofs
/- The walks of package lex. Conditions: none. -/
set_option linter.unusedVariables false
set_option linter.unusedSimpArgs false
set_option maxRecDepth 10000
namespace Go.Proofs
open Go Go.Ab
attribute [local irreducible] QR QV OE aops aw dsoup dsoupM dalloc dallocM thn inBlk
open Go.H
theorem runeTold (s : ByteArray) (i : Nat) (c : Int) (bs bi bc : Nat) (hi : i ≤ s.size) : ACall Tryz.prog 138 [.v (.pointer (some ⟨bs, 0, none⟩)), .v (.pointer (some ⟨bi, 0, none⟩)), .v (.pointer (some ⟨bc, 0, none⟩))] [.box bs 9 [sv s], .box bi 3 [iv (i : Nat)], .box bc 21 [.v (.int .i32 c)], .glob 1 168 firstC, .glob 2 171 acceptC] (fun r h' => h' = [.box bs 9 [sv s], .box bi 3 [iv (i : Nat)], .box bc 21 [.v (.int .i32 c)], .glob 1 168 firstC, .glob 2 171 acceptC] ∧ r = .tup [.v (.int .i32 c), bv (toldF s i c)]) := by
  refine acall_of_aw Tryz.func138 rfl rfl rfl ?_
  refine aw_seq (aw_region ?_)
  refine q1 ?_
  refine q1 ?_
  refine aops_nil (thn_n ?_)
  refine aw_seq (aw_region ?_)
  refine q1 ?_
  refine q1 ?_
  refine qq rfl rfl (qr_slice_string_l rfl rfl hi) ?_
  refine qv rfl rfl (qv_call rfl rfl (FCall.quiet (R := fun x => x = _) (h2 := [_, _, _]) (List.perm_append_comm (l₁ := [_, _, _])) (FCall.of_fun (decodeRune (s.extract i s.size))))) ?_
  refine rn ?_
  refine asplit (fun hg2_3 => ?_) (fun hg2_3 => ?_)
  · refine rn ?_
    exact retq (.cons _ _ _ _ (.tmp _ _ rfl) (.cons _ _ _ _ (.tmp _ _ rfl) .nil)) (.refl _ _) ⟨rfl, congrArg (fun b => AV.tup [.v (.int .i32 c), bv b]) (by first | (simp only [toldF, *, Bool.true_and, Bool.false_and, Bool.and_false, Bool.and_true, Bool.true_or, Bool.or_false, Bool.false_or, Bool.or_true, if_true, if_false, Bool.false_eq_true, Bool.not_true, Bool.not_false]; done) | (simp_all [toldF]; done))⟩
  · refine rn ?_
    exact retq (.cons _ _ _ _ (.tmp _ _ rfl) (.cons _ _ _ _ (.tmp _ _ rfl) .nil)) (.refl _ _) ⟨rfl, congrArg (fun b => AV.tup [.v (.int .i32 c), bv b]) (by first | (simp only [toldF, *, Bool.true_and, Bool.false_and, Bool.and_false, Bool.and_true, Bool.true_or, Bool.or_false, Bool.false_or, Bool.or_true, if_true, if_false, Bool.false_eq_true, Bool.not_true, Bool.not_false]; done) | (simp_all [toldF]; done))⟩
theorem runesIter (s : ByteArray) (bs : Nat) (y : AV) (p : Nat → Int → Bool) (I : List Res → Prop) (J : Nat → List Res → Prop) (hy : ∀ (i bi bc it : Nat) (L : List Res), i < s.size → I L → FCall Tryz.prog y [iv i, .fn (.func 138) [] [.v (.pointer (some ⟨bs, 0, none⟩)), .v (.pointer (some ⟨bi, 0, none⟩)), .v (.pointer (some ⟨bc, 0, none⟩))]] (.box bc 21 [.v (.int .i32 (Utf8.decode s i).1)] :: .box bi 3 [iv (i : Nat)] :: .obj it (.stringIter s (i + (Utf8.decode s i).2)) :: .box bs 9 [sv s] :: L) (fun r h' => ∃ L', h' = .box bc 21 [.v (.int .i32 (Utf8.decode s i).1)] :: .box bi 3 [iv (i : Nat)] :: .obj it (.stringIter s (i + (Utf8.decode s i).2)) :: .box bs 9 [sv s] :: L' ∧ ((p i (Utf8.decode s i).1 = true ∧ r = bv true ∧ I L') ∨ (p i (Utf8.decode s i).1 = false ∧ r = bv false ∧ J i L')))) (L0 : List Res) (h0 : I L0) : ACall Tryz.prog 137 [y, .v (.pointer (some ⟨bs, 0, none⟩))] (.box bs 9 [sv s] :: L0) (fun r h' => ∃ L', h' = .box bs 9 [sv s] :: L' ∧ ((whileF s p 0 = s.size ∧ I L') ∨ (whileF s p 0 < s.size ∧ J (whileF s p 0) L'))) := by
  refine acall_of_aw Tryz.func137 rfl rfl rfl ?_
  refine rn ?_
  refine aops_e rfl (oe_range_str rfl rfl fun b7 => ?_)
  refine rn ?_
  refine aw_loop' (fun x : Nat × List Res => whileF s p 0 = whileF s p x.1 ∧ I x.2) (fun x => ⟨[(7, .v (.pointer (some ⟨b7, 0, none⟩))), (0, y), (1, .v (.pointer (some ⟨bs, 0, none⟩)))], .obj b7 (.stringIter s x.1) :: .box bs 9 [sv s] :: x.2, []⟩) (fun x => s.size - x.1) (0, L0) ⟨rfl, h0⟩
    (ent_sub (.cons _ _ _ rfl (.cons _ _ _ rfl (.cons _ _ _ rfl (.nil))))) ?_
  rintro ⟨k, L⟩ ⟨hw, hI⟩
  simp only at hw hI
  refine aw_seq (aw_region ?_)
  refine aops_e rfl (oe_next_str rfl rfl (fun hp => ?_) (fun hp => ?_))
  · refine rn ?_
    refine aw_cond rfl (fun hc9 => ?_) (fun hc9 => ?_)
    · first | cases hc9 | exact absurd hc9 (by decide) | (exfalso; simp_all; done)
    · refine rn ?_
      exact retq_n .nil (.drop1 _ _ _) ⟨_, rfl, .inl ⟨by rw [hw, whileF_end hp], hI⟩⟩
  · refine rn ?_
    refine aw_cond rfl (fun hc9 => ?_) (fun hc9 => ?_)
    · refine rn ?_
      refine aops_e rfl (oe_alloc rfl fun b3 => ?_)
      refine aops_e rfl (oe_alloc rfl fun b4 => ?_)
      first | refine aops_e rfl (oe_store_all rfl rfl rfl ?_) | refine aops_e rfl (oe_store rfl rfl rfl rfl (Nat.le_of_ble_eq_true rfl) ?_)
      first | refine aops_e rfl (oe_store_all rfl rfl rfl ?_) | refine aops_e rfl (oe_store rfl rfl rfl rfl (Nat.le_of_ble_eq_true rfl) ?_)
      refine aops_nil (thn_n ?_)
      refine aw_seq (aw_region ?_)
      refine q1 ?_
      refine q1 ?_
      refine aops_nil (thn_n ?_)
      refine aw_seq (aw_region ?_)
      refine q1 ?_
      refine q1 ?_
      refine q1 ?_
      refine aops_e rfl (oe_call rfl rfl (hy k b3 b4 b7 L hp hI) rfl ?_)
      rintro av h' ⟨L', rfl, ⟨hp1, rfl, hI2⟩ | ⟨hp1, rfl, hJ⟩⟩
      · refine rn ?_
        refine aw_cond rfl (fun hc17 => ?_) (fun hc17 => ?_)
        · first | cases hc17 | exact absurd hc17 (by decide) | (exfalso; simp_all; done)
        · refine rn ?_
          exact ⟨(k + (Utf8.decode s k).2, L'), ⟨hw.trans (whileF_go hp hp1), hI2⟩, (ent_trans (ent_drop (h1 := [_, _])) (ent_sub (.cons _ _ _ rfl (.cons _ _ _ rfl (.cons _ _ _ rfl (.nil)))))), by have := width_pos s k; simp only at hp ⊢; omega⟩
      · refine rn ?_
        refine aw_cond rfl (fun hc17 => ?_) (fun hc17 => ?_)
        · refine rn ?_
          exact retq .nil (.drop [_, _, _] _ _) ⟨_, rfl, .inr (by rw [hw, whileF_stop hp hp1]; exact ⟨hp, hJ⟩)⟩
        · first | cases hc17 | exact absurd hc17 (by decide) | (exfalso; simp_all; done)
    · first | cases hc9 | exact absurd hc9 (by decide) | (exfalso; simp_all; done)
end Go.Proofs
/- The walks of lex.while and lex.Word. Conditions: none. -/
set_option linter.unusedVariables false
set_option linter.unusedSimpArgs false
set_option maxRecDepth 10000
namespace Go.Proofs
open Go Go.Ab
attribute [local irreducible] QR QV OE aops aw dsoup dsoupM dalloc dallocM thn inBlk
open Go.H
theorem runes (s : ByteArray) (h : List Res) : ACall Tryz.prog 127 [sv s] h (fun r h' => ∃ bs, h' = .box bs 9 [sv s] :: h ∧ r = .fn (.func 137) [] [.v (.pointer (some ⟨bs, 0, none⟩))]) := by
  refine acall_of_aw Tryz.func127 rfl rfl rfl ?_
  refine rn ?_
  refine aops_e rfl (oe_box rfl rfl rfl fun b1 => ?_)
  refine rn ?_
  exact retq (.cons _ _ _ _ (.tmp _ _ rfl) .nil) (.refl _ _) ⟨_, rfl, rfl⟩
theorem lexWhile (s : ByteArray) (fv : AV) (g : Int → Bool) (hone : fv.cellsOf = some [fv]) (hgo : ∀ c h, FCall Tryz.prog fv [.v (.int .i32 c)] h (fun r h' => h' = h ∧ r = bv (g c))) : ACall Tryz.prog 97 [sv s, fv] [.glob 1 168 firstC, .glob 2 171 acceptC] (fun r h' => h' = [.glob 1 168 firstC, .glob 2 171 acceptC] ∧ r = iv (whileF s (okRune s g) 0 : Nat)) := by
  refine acall_of_aw Tryz.func97 rfl rfl rfl ?_
  refine rn ?_
  refine aops_e rfl (oe_box rfl hone rfl fun b3 => ?_)
  refine rn ?_
  refine aw_scope ?_
  refine rn ?_
  refine aops_e rfl (oe_alloc rfl fun b5 => ?_)
  refine rn ?_
  refine aops_e rfl (oe_call rfl rfl (FCall.of_fun (runes s _)) rfl ?_)
  rintro _ _ ⟨bs, rfl, rfl⟩
  refine rn ?_
  refine aw_rf (fun pend h'' => (pend = none ∨ pend = some (.exit 0)) ∧ h'' = .box bs 9 [sv s] :: .box b5 3 [iv (whileF s (okRune s g) 0 : Nat)] :: .box b3 137 [fv] :: [.glob 1 168 firstC, .glob 2 171 acceptC]) rfl (fun fn l q lp hlp => ?_) (fun q h'' hK => ?_) (fun q h'' c hK => ?_)
  · suffices hy : ∀ (i bi bc it : Nat) (L : List Res), i < s.size → L = lp .ready none :: .defs q :: .box b5 3 [iv s.size] :: .box b3 137 [fv] :: [.glob 1 168 firstC, .glob 2 171 acceptC] → FCall Tryz.prog (yv l) [iv i, .fn (.func 138) [] [.v (.pointer (some ⟨bs, 0, none⟩)), .v (.pointer (some ⟨bi, 0, none⟩)), .v (.pointer (some ⟨bc, 0, none⟩))]] (.box bc 21 [.v (.int .i32 (Utf8.decode s i).1)] :: .box bi 3 [iv (i : Nat)] :: .obj it (.stringIter s (i + (Utf8.decode s i).2)) :: .box bs 9 [sv s] :: L)
        (fun r h' => ∃ L', h' = .box bc 21 [.v (.int .i32 (Utf8.decode s i).1)] :: .box bi 3 [iv (i : Nat)] :: .obj it (.stringIter s (i + (Utf8.decode s i).2)) :: .box bs 9 [sv s] :: L' ∧ ((okRune s g i (Utf8.decode s i).1 = true ∧ r = bv true ∧ L' = lp .ready none :: .defs q :: .box b5 3 [iv s.size] :: .box b3 137 [fv] :: [.glob 1 168 firstC, .glob 2 171 acceptC]) ∨ (okRune s g i (Utf8.decode s i).1 = false ∧ r = bv false ∧ L' = lp .done (some (.exit 0)) :: .defs q :: .box b5 3 [iv (i : Nat)] :: .box b3 137 [fv] :: [.glob 1 168 firstC, .glob 2 171 acceptC]))) by
      refine ACall.mono (ACall.perm (pt2 _ _ _ _) (runesIter s bs (yv l) (okRune s g) _ (fun i L => L = lp .done (some (.exit 0)) :: .defs q :: .box b5 3 [iv (i : Nat)] :: .box b3 137 [fv] :: [.glob 1 168 firstC, .glob 2 171 acceptC]) hy _ rfl)) ?_
      rintro _ _ ⟨L', rfl, ⟨hw, rfl⟩ | ⟨hw, rfl⟩⟩
      · exact ⟨_, _, _, (pt2 _ _ _ _).symm, by simp, .inl rfl, by rw [hw]⟩
      · exact ⟨_, _, _, (pt2 _ _ _ _).symm, by simp, .inr rfl, rfl⟩
    rintro i bi bc it _ hi rfl
    refine FCall.perm (pt4 _ _ _ _ _ _) (FCall.permR (fcall_yl hlp rfl rfl ?_))
    refine rn ?_
    refine ⟨[(6, iv (i : Nat)), (7, .fn (.func 138) [] [.v (.pointer (some ⟨bs, 0, none⟩)), .v (.pointer (some ⟨bi, 0, none⟩)), .v (.pointer (some ⟨bc, 0, none⟩))]), (5, .v (.pointer (some ⟨b5, 0, none⟩))), (3, .v (.pointer (some ⟨b3, 0, none⟩)))], ent_sub (.cons _ _ _ rfl (.cons _ _ _ rfl (.cons _ _ _ rfl (.cons _ _ _ rfl .nil)))), ?_⟩
    refine rn ?_
    refine qv rfl rfl (qv_call rfl rfl (FCall.qt (FCall.of_acall (fs := []) (cs := [.v (.pointer (some ⟨bs, 0, none⟩)), .v (.pointer (some ⟨bi, 0, none⟩)), .v (.pointer (some ⟨bc, 0, none⟩))]) (runeTold s i (Utf8.decode s i).1 bs bi bc (by omega))) ((pt4 _ _ _ _ _ _).trans (.cons _ ((pt2 _ _ _ _).trans (.cons _ ((pt1 _ _ _).trans (.cons _ ((pt5 _ _ _ _ _ _ _).trans (.cons _ (pt5 _ _ _ _ _ _ _))))))))))) ?_
    refine rn ?_
    refine asplit (fun hg6_2 => ?_) (fun hg6_2 => ?_)
    · refine rn ?_
      refine aw_ct rfl ?_
      refine rn ?_
      exact round_e (.refl _) ⟨_, ((pt1 _ _ _).trans (.cons _ ((pt1 _ _ _).trans (.cons _ ((pt1 _ _ _).trans (.cons _ (pt1 _ _ _))))))), _, rfl, .inr ⟨by simp_all [okRune], rfl, rfl⟩⟩
    · refine rn ?_
      refine qv rfl rfl (qv_call rfl rfl (hgo _ _)) ?_
      refine rn ?_
      refine aw_cond rfl (fun hc28 => ?_) (fun hc28 => ?_)
      · refine rn ?_
        exact round_e (.refl _) ⟨_, ((pt1 _ _ _).trans (.cons _ ((pt1 _ _ _).trans (.cons _ ((pt1 _ _ _).trans (.cons _ (pt1 _ _ _))))))), _, rfl, .inr ⟨by simp_all [okRune], rfl, rfl⟩⟩
      · refine rn ?_
        exact round_n (.refl _) ⟨_, ((pt1 _ _ _).trans (.cons _ ((pt1 _ _ _).trans (.cons _ ((pt1 _ _ _).trans (.cons _ (pt1 _ _ _))))))), _, rfl, .inl ⟨by simp_all [okRune], rfl, rfl⟩⟩
  · obtain ⟨_, rfl⟩ := hK
    refine rn ?_
    refine ⟨fun l h => (by cases h), ?_⟩
    exact retqd (.refl _) (.cons _ _ _ _ (.tmp _ _ rfl) .nil) (.drop [_, _, _] _ _) ⟨rfl, rfl⟩
  · obtain ⟨hc, rfl⟩ := hK
    obtain rfl : c = .exit 0 := by simpa using hc
    refine rn ?_
    refine ⟨fun l h => (by cases h), ?_⟩
    exact retqd (.refl _) (.cons _ _ _ _ (.tmp _ _ rfl) .nil) (.drop [_, _, _] _ _) ⟨rfl, rfl⟩
theorem word (s : ByteArray) : ACall Tryz.prog 60 [sv s] [.glob 1 168 firstC, .glob 2 171 acceptC] (fun r h' => h' = [.glob 1 168 firstC, .glob 2 171 acceptC] ∧ r = bv (wordB s)) := by
  refine acall_of_aw Tryz.func60 rfl rfl rfl ?_
  refine rn ?_
  refine asplit (fun hg1_2 => ?_) (fun hg1_2 => ?_)
  · refine rn ?_
    refine asplit (fun hg1_7 => ?_) (fun hg1_7 => ?_)
    · refine rn ?_
      have h1 : 0 < s.size := str_ne hg1_2
      refine qq rfl rfl (qr_index_bt 0 rfl rfl (by omega)) ?_
      refine rn ?_
      refine qv rfl rfl (qv_call rfl rfl (pcall (lexNumber _) (Sbs.refl _))) ?_
      refine rn ?_
      refine asplit (fun hg1_14 => ?_) (fun hg1_14 => ?_)
      · refine rn ?_
        refine qv rfl rfl (qv_call rfl rfl (FCall.of_fun (lexWhile s (.fn (.func 98) [] []) eitherB rfl (fun c h => (pcall (lexEither c) (Sbs.refl _)))))) ?_
        refine rn ?_
        exact retq (.cons _ _ _ _ (.tmp _ _ rfl) .nil) (.refl _ _) ⟨rfl, congrArg bv (by first | (simp only [wordB, *, Bool.true_and, Bool.false_and, Bool.and_false, Bool.and_true, Bool.true_or, Bool.or_false, Bool.false_or, Bool.or_true, if_true, if_false, Bool.false_eq_true, Bool.not_true, Bool.not_false]; done) | (simp_all [wordB, bt_wrap]; done))⟩
      · refine rn ?_
        exact retq (.cons _ _ _ _ (.tmp _ _ rfl) .nil) (.refl _ _) ⟨rfl, congrArg bv (by first | (simp only [wordB, *, Bool.true_and, Bool.false_and, Bool.and_false, Bool.and_true, Bool.true_or, Bool.or_false, Bool.false_or, Bool.or_true, if_true, if_false, Bool.false_eq_true, Bool.not_true, Bool.not_false]; done) | (simp_all [wordB, bt_wrap]; done))⟩
    · refine rn ?_
      exact retq (.cons _ _ _ _ (.tmp _ _ rfl) .nil) (.refl _ _) ⟨rfl, congrArg bv (by first | (simp only [wordB, *, Bool.true_and, Bool.false_and, Bool.and_false, Bool.and_true, Bool.true_or, Bool.or_false, Bool.false_or, Bool.or_true, if_true, if_false, Bool.false_eq_true, Bool.not_true, Bool.not_false]; done) | (simp_all [wordB, bt_wrap]; done))⟩
  · refine rn ?_
    exact retq (.cons _ _ _ _ (.tmp _ _ rfl) .nil) (.refl _ _) ⟨rfl, congrArg bv (by first | (simp only [wordB, *, Bool.true_and, Bool.false_and, Bool.and_false, Bool.and_true, Bool.true_or, Bool.or_false, Bool.false_or, Bool.or_true, if_true, if_false, Bool.false_eq_true, Bool.not_true, Bool.not_false]; done) | (simp_all [wordB, bt_wrap]; done))⟩
end Go.Proofs
/- The walks of slices.IndexFunc, ContainsFunc and history.all. Conditions: none. -/
set_option linter.unusedVariables false
set_option linter.unusedSimpArgs false
set_option maxRecDepth 10000
namespace Go.Proofs
open Go Go.Ab
attribute [local irreducible] QR QV OE aops aw dsoup dsoupM dalloc dallocM thn inBlk
open Go.H
theorem indexFuncInt {full : Bool} (l : List Int) (fv : AV) (p : Int → Bool) (G : List Res) (hp : ∀ a ∈ l, FCall Tryz.prog fv [iv a] G (fun r h' => h' = G ∧ r = bv (p a))) (hlen : l.length ≤ 4611686018427387904) : ACall Tryz.prog 129 [.list full 1 (l.map intR), fv] G (fun r h' => h' = G ∧ r = iv (fidx p 0 l)) := by
  refine acall_of_aw Tryz.func129 rfl rfl rfl ?_
  refine rn ?_
  refine aw_loop' (fun k : Nat => k ≤ l.length ∧ fidx p 0 l = fidx p k (l.drop k)) (fun k => ⟨[(8, iv k), (7, iv (l.map intR).length), (0, .list full 1 (l.map intR)), (1, fv)], G, []⟩) (fun k => l.length - k) 0 ⟨Nat.zero_le _, by simp⟩
    (ent_sub (.cons _ _ _ rfl (.cons _ _ _ rfl (.cons _ _ _ rfl (.cons _ _ _ rfl (.nil)))))) ?_
  rintro k ⟨hk, hnot⟩
  refine rn ?_
  refine aw_cond rfl (fun hc9 => ?_) (fun hc9 => ?_)
  · have hk2 : k < l.length := by simpa using hc9
    have hrow : (l.map intR)[k]? = some (intR l[k]) := by simp [hk2]
    have hd := List.drop_eq_getElem_cons hk2
    refine rn ?_
    refine qv rfl rfl (qv_call rfl rfl (hp l[k] (by simp))) ?_
    refine rn ?_
    refine aw_cond rfl (fun hc16 => ?_) (fun hc16 => ?_)
    · refine rn ?_
      exact retq (.cons _ _ _ _ (.tmp _ _ rfl) .nil) (.refl _ _) ⟨rfl, by rw [hnot, hd, fidx, if_pos hc16]; rfl⟩
    · refine rn ?_
      exact ⟨k + 1, ⟨by omega, by rw [hnot, hd, fidx, if_neg (by simp [hc16])]⟩, (ent_sub (.cons _ _ _ rfl (.cons _ _ _ rfl (.cons _ _ _ rfl (.cons _ _ _ rfl (.nil)))))), by omega⟩
  · have hk3 : k = l.length := by
      have : l.length ≤ k := by simpa using hc9
      omega
    refine rn ?_
    exact retq (.cons _ _ _ _ (.tmp _ _ rfl) .nil) (.refl _ _) ⟨rfl, by rw [hnot, hk3, List.drop_length, fidx]; rfl⟩
theorem containsFuncInt {full : Bool} (l : List Int) (fv : AV) (p : Int → Bool) (G : List Res) (hp : ∀ a ∈ l, FCall Tryz.prog fv [iv a] G (fun r h' => h' = G ∧ r = bv (p a))) (hlen : l.length ≤ 4611686018427387904) : ACall Tryz.prog 99 [.list full 1 (l.map intR), fv] G (fun r h' => h' = G ∧ r = bv (l.any p)) := by
  refine acall_of_aw Tryz.func99 rfl rfl rfl ?_
  refine rn ?_
  refine qv rfl rfl (qv_call rfl rfl (FCall.of_fun (indexFuncInt l _ p G hp hlen))) ?_
  refine rn ?_
  exact retq (.cons _ _ _ _ (.tmp _ _ rfl) .nil) (.refl _ _) ⟨rfl, by simp only [← fidx_ge p l 0]; rfl⟩
theorem allNotInt (a : Int) (fv : AV) (v : Bool) (b : Nat) (G : List Res) (hp : FCall Tryz.prog fv [iv a] G (fun r h' => h' = G ∧ r = bv v)) : ACall Tryz.prog 100 [iv a, .v (.pointer (some ⟨b, 0, none⟩))] (.box b 105 [fv] :: G) (fun r h' => h' = .box b 105 [fv] :: G ∧ r = bv (!v)) := by
  refine acall_of_aw Tryz.func100 rfl rfl rfl ?_
  refine rn ?_
  refine qv rfl rfl (qv_call rfl rfl (FCall.quiet (R := fun x => x = bv v) (h2 := [_]) (List.perm_append_comm (l₁ := [_])) hp)) ?_
  refine rn ?_
  exact retq (.cons _ _ _ _ (.tmp _ _ rfl) .nil) (.refl _ _) ⟨rfl, rfl⟩
theorem allInt {full : Bool} (l : List Int) (fv : AV) (p : Int → Bool) (G : List Res) (hone : fv.cellsOf = some [fv]) (hp : ∀ a ∈ l, FCall Tryz.prog fv [iv a] G (fun r h' => h' = G ∧ r = bv (p a))) (hlen : l.length ≤ 4611686018427387904) : ACall Tryz.prog 62 [.list full 1 (l.map intR), fv] G (fun r h' => h' = G ∧ r = bv (l.all p)) := by
  refine acall_of_aw Tryz.func62 rfl rfl rfl ?_
  refine rn ?_
  refine aops_e rfl (oe_box rfl hone rfl fun b3 => ?_)
  refine rn ?_
  refine qv rfl rfl (qv_call rfl rfl (FCall.of_fun (containsFuncInt l _ (fun a => !p a) (.box b3 105 [fv] :: G) (fun a ha => FCall.of_acall (fs := []) (cs := [.v (.pointer (some ⟨b3, 0, none⟩))]) (allNotInt a fv (p a) b3 G (hp a ha))) hlen))) ?_
  refine rn ?_
  exact retq (.cons _ _ _ _ (.tmp _ _ rfl) .nil) (.drop1 _ _ _) ⟨rfl, by simp only [← any_not p l]; rfl⟩
theorem indexFuncEv {full : Bool} (l : List Ev) (fv : AV) (p : Ev → Bool) (G : List Res) (hp : ∀ a ∈ l, FCall Tryz.prog fv [.agg (evR a)] G (fun r h' => h' = G ∧ r = bv (p a))) (hlen : l.length ≤ 4611686018427387904) : ACall Tryz.prog 130 [.list full 9 (l.map evR), fv] G (fun r h' => h' = G ∧ r = iv (fidx p 0 l)) := by
  refine acall_of_aw Tryz.func130 rfl rfl rfl ?_
  refine rn ?_
  refine aw_loop' (fun k : Nat => k ≤ l.length ∧ fidx p 0 l = fidx p k (l.drop k)) (fun k => ⟨[(8, iv k), (7, iv (l.map evR).length), (0, .list full 9 (l.map evR)), (1, fv)], G, []⟩) (fun k => l.length - k) 0 ⟨Nat.zero_le _, by simp⟩
    (ent_sub (.cons _ _ _ rfl (.cons _ _ _ rfl (.cons _ _ _ rfl (.cons _ _ _ rfl (.nil)))))) ?_
  rintro k ⟨hk, hnot⟩
  refine rn ?_
  refine aw_cond rfl (fun hc9 => ?_) (fun hc9 => ?_)
  · have hk2 : k < l.length := by simpa using hc9
    have hrow : (l.map evR)[k]? = some (evR l[k]) := by simp [hk2]
    have hd := List.drop_eq_getElem_cons hk2
    refine rn ?_
    refine qv rfl rfl (qv_call rfl rfl (hp l[k] (by simp))) ?_
    refine rn ?_
    refine aw_cond rfl (fun hc16 => ?_) (fun hc16 => ?_)
    · refine rn ?_
      exact retq (.cons _ _ _ _ (.tmp _ _ rfl) .nil) (.refl _ _) ⟨rfl, by rw [hnot, hd, fidx, if_pos hc16]; rfl⟩
    · refine rn ?_
      exact ⟨k + 1, ⟨by omega, by rw [hnot, hd, fidx, if_neg (by simp [hc16])]⟩, (ent_sub (.cons _ _ _ rfl (.cons _ _ _ rfl (.cons _ _ _ rfl (.cons _ _ _ rfl (.nil)))))), by omega⟩
  · have hk3 : k = l.length := by
      have : l.length ≤ k := by simpa using hc9
      omega
    refine rn ?_
    exact retq (.cons _ _ _ _ (.tmp _ _ rfl) .nil) (.refl _ _) ⟨rfl, by rw [hnot, hk3, List.drop_length, fidx]; rfl⟩
theorem containsFuncEv {full : Bool} (l : List Ev) (fv : AV) (p : Ev → Bool) (G : List Res) (hp : ∀ a ∈ l, FCall Tryz.prog fv [.agg (evR a)] G (fun r h' => h' = G ∧ r = bv (p a))) (hlen : l.length ≤ 4611686018427387904) : ACall Tryz.prog 101 [.list full 9 (l.map evR), fv] G (fun r h' => h' = G ∧ r = bv (l.any p)) := by
  refine acall_of_aw Tryz.func101 rfl rfl rfl ?_
  refine rn ?_
  refine qv rfl rfl (qv_call rfl rfl (FCall.of_fun (indexFuncEv l _ p G hp hlen))) ?_
  refine rn ?_
  exact retq (.cons _ _ _ _ (.tmp _ _ rfl) .nil) (.refl _ _) ⟨rfl, by simp only [← fidx_ge p l 0]; rfl⟩
theorem allNotEv (a : Ev) (fv : AV) (v : Bool) (b : Nat) (G : List Res) (hp : FCall Tryz.prog fv [.agg (evR a)] G (fun r h' => h' = G ∧ r = bv v)) : ACall Tryz.prog 102 [.agg (evR a), .v (.pointer (some ⟨b, 0, none⟩))] (.box b 107 [fv] :: G) (fun r h' => h' = .box b 107 [fv] :: G ∧ r = bv (!v)) := by
  refine acall_of_aw Tryz.func102 rfl rfl rfl ?_
  refine rn ?_
  refine aops_e rfl (oe_box rfl rfl rfl fun b2 => ?_)
  refine rn ?_
  refine qv rfl rfl (qv_call rfl rfl (FCall.quiet (R := fun x => x = bv v) (h2 := [_, _]) (List.perm_append_comm (l₁ := [_, _])) hp)) ?_
  refine rn ?_
  exact retq (.cons _ _ _ _ (.tmp _ _ rfl) .nil) (.drop1 _ _ _) ⟨rfl, rfl⟩
theorem allEv {full : Bool} (l : List Ev) (fv : AV) (p : Ev → Bool) (G : List Res) (hone : fv.cellsOf = some [fv]) (hp : ∀ a ∈ l, FCall Tryz.prog fv [.agg (evR a)] G (fun r h' => h' = G ∧ r = bv (p a))) (hlen : l.length ≤ 4611686018427387904) : ACall Tryz.prog 65 [.list full 9 (l.map evR), fv] G (fun r h' => h' = G ∧ r = bv (l.all p)) := by
  refine acall_of_aw Tryz.func65 rfl rfl rfl ?_
  refine rn ?_
  refine aops_e rfl (oe_box rfl hone rfl fun b3 => ?_)
  refine rn ?_
  refine qv rfl rfl (qv_call rfl rfl (FCall.of_fun (containsFuncEv l _ (fun a => !p a) (.box b3 107 [fv] :: G) (fun a ha => FCall.of_acall (fs := []) (cs := [.v (.pointer (some ⟨b3, 0, none⟩))]) (allNotEv a fv (p a) b3 G (hp a ha))) hlen))) ?_
  refine rn ?_
  exact retq (.cons _ _ _ _ (.tmp _ _ rfl) .nil) (.drop1 _ _ _) ⟨rfl, by simp only [← any_not p l]; rfl⟩
theorem indexFuncOrd {full : Bool} (l : List Ord) (fv : AV) (p : Ord → Bool) (G : List Res) (hp : ∀ a ∈ l, FCall Tryz.prog fv [.agg (ordR a)] G (fun r h' => h' = G ∧ r = bv (p a))) (hlen : l.length ≤ 4611686018427387904) : ACall Tryz.prog 133 [.list full 2 (l.map ordR), fv] G (fun r h' => h' = G ∧ r = iv (fidx p 0 l)) := by
  refine acall_of_aw Tryz.func133 rfl rfl rfl ?_
  refine rn ?_
  refine aw_loop' (fun k : Nat => k ≤ l.length ∧ fidx p 0 l = fidx p k (l.drop k)) (fun k => ⟨[(8, iv k), (7, iv (l.map ordR).length), (0, .list full 2 (l.map ordR)), (1, fv)], G, []⟩) (fun k => l.length - k) 0 ⟨Nat.zero_le _, by simp⟩
    (ent_sub (.cons _ _ _ rfl (.cons _ _ _ rfl (.cons _ _ _ rfl (.cons _ _ _ rfl (.nil)))))) ?_
  rintro k ⟨hk, hnot⟩
  refine rn ?_
  refine aw_cond rfl (fun hc9 => ?_) (fun hc9 => ?_)
  · have hk2 : k < l.length := by simpa using hc9
    have hrow : (l.map ordR)[k]? = some (ordR l[k]) := by simp [hk2]
    have hd := List.drop_eq_getElem_cons hk2
    refine rn ?_
    refine qv rfl rfl (qv_call rfl rfl (hp l[k] (by simp))) ?_
    refine rn ?_
    refine aw_cond rfl (fun hc16 => ?_) (fun hc16 => ?_)
    · refine rn ?_
      exact retq (.cons _ _ _ _ (.tmp _ _ rfl) .nil) (.refl _ _) ⟨rfl, by rw [hnot, hd, fidx, if_pos hc16]; rfl⟩
    · refine rn ?_
      exact ⟨k + 1, ⟨by omega, by rw [hnot, hd, fidx, if_neg (by simp [hc16])]⟩, (ent_sub (.cons _ _ _ rfl (.cons _ _ _ rfl (.cons _ _ _ rfl (.cons _ _ _ rfl (.nil)))))), by omega⟩
  · have hk3 : k = l.length := by
      have : l.length ≤ k := by simpa using hc9
      omega
    refine rn ?_
    exact retq (.cons _ _ _ _ (.tmp _ _ rfl) .nil) (.refl _ _) ⟨rfl, by rw [hnot, hk3, List.drop_length, fidx]; rfl⟩
theorem containsFuncOrd {full : Bool} (l : List Ord) (fv : AV) (p : Ord → Bool) (G : List Res) (hp : ∀ a ∈ l, FCall Tryz.prog fv [.agg (ordR a)] G (fun r h' => h' = G ∧ r = bv (p a))) (hlen : l.length ≤ 4611686018427387904) : ACall Tryz.prog 113 [.list full 2 (l.map ordR), fv] G (fun r h' => h' = G ∧ r = bv (l.any p)) := by
  refine acall_of_aw Tryz.func113 rfl rfl rfl ?_
  refine rn ?_
  refine qv rfl rfl (qv_call rfl rfl (FCall.of_fun (indexFuncOrd l _ p G hp hlen))) ?_
  refine rn ?_
  exact retq (.cons _ _ _ _ (.tmp _ _ rfl) .nil) (.refl _ _) ⟨rfl, by simp only [← fidx_ge p l 0]; rfl⟩
theorem allNotOrd (a : Ord) (fv : AV) (v : Bool) (b : Nat) (G : List Res) (hp : FCall Tryz.prog fv [.agg (ordR a)] G (fun r h' => h' = G ∧ r = bv v)) : ACall Tryz.prog 114 [.agg (ordR a), .v (.pointer (some ⟨b, 0, none⟩))] (.box b 109 [fv] :: G) (fun r h' => h' = .box b 109 [fv] :: G ∧ r = bv (!v)) := by
  refine acall_of_aw Tryz.func114 rfl rfl rfl ?_
  refine rn ?_
  refine aops_e rfl (oe_box rfl rfl rfl fun b2 => ?_)
  refine rn ?_
  refine qv rfl rfl (qv_call rfl rfl (FCall.quiet (R := fun x => x = bv v) (h2 := [_, _]) (List.perm_append_comm (l₁ := [_, _])) hp)) ?_
  refine rn ?_
  exact retq (.cons _ _ _ _ (.tmp _ _ rfl) .nil) (.drop1 _ _ _) ⟨rfl, rfl⟩
theorem allOrd {full : Bool} (l : List Ord) (fv : AV) (p : Ord → Bool) (G : List Res) (hone : fv.cellsOf = some [fv]) (hp : ∀ a ∈ l, FCall Tryz.prog fv [.agg (ordR a)] G (fun r h' => h' = G ∧ r = bv (p a))) (hlen : l.length ≤ 4611686018427387904) : ACall Tryz.prog 68 [.list full 2 (l.map ordR), fv] G (fun r h' => h' = G ∧ r = bv (l.all p)) := by
  refine acall_of_aw Tryz.func68 rfl rfl rfl ?_
  refine rn ?_
  refine aops_e rfl (oe_box rfl hone rfl fun b3 => ?_)
  refine rn ?_
  refine qv rfl rfl (qv_call rfl rfl (FCall.of_fun (containsFuncOrd l _ (fun a => !p a) (.box b3 109 [fv] :: G) (fun a ha => FCall.of_acall (fs := []) (cs := [.v (.pointer (some ⟨b3, 0, none⟩))]) (allNotOrd a fv (p a) b3 G (hp a ha))) hlen))) ?_
  refine rn ?_
  exact retq (.cons _ _ _ _ (.tmp _ _ rfl) .nil) (.drop1 _ _ _) ⟨rfl, by simp only [← any_not p l]; rfl⟩
theorem indexFuncMat {full : Bool} (l : List Mat) (fv : AV) (p : Mat → Bool) (G : List Res) (hp : ∀ a ∈ l, FCall Tryz.prog fv [.agg (matR a)] G (fun r h' => h' = G ∧ r = bv (p a))) (hlen : l.length ≤ 4611686018427387904) : ACall Tryz.prog 134 [.list full 4 (l.map matR), fv] G (fun r h' => h' = G ∧ r = iv (fidx p 0 l)) := by
  refine acall_of_aw Tryz.func134 rfl rfl rfl ?_
  refine rn ?_
  refine aw_loop' (fun k : Nat => k ≤ l.length ∧ fidx p 0 l = fidx p k (l.drop k)) (fun k => ⟨[(8, iv k), (7, iv (l.map matR).length), (0, .list full 4 (l.map matR)), (1, fv)], G, []⟩) (fun k => l.length - k) 0 ⟨Nat.zero_le _, by simp⟩
    (ent_sub (.cons _ _ _ rfl (.cons _ _ _ rfl (.cons _ _ _ rfl (.cons _ _ _ rfl (.nil)))))) ?_
  rintro k ⟨hk, hnot⟩
  refine rn ?_
  refine aw_cond rfl (fun hc9 => ?_) (fun hc9 => ?_)
  · have hk2 : k < l.length := by simpa using hc9
    have hrow : (l.map matR)[k]? = some (matR l[k]) := by simp [hk2]
    have hd := List.drop_eq_getElem_cons hk2
    refine rn ?_
    refine qv rfl rfl (qv_call rfl rfl (hp l[k] (by simp))) ?_
    refine rn ?_
    refine aw_cond rfl (fun hc16 => ?_) (fun hc16 => ?_)
    · refine rn ?_
      exact retq (.cons _ _ _ _ (.tmp _ _ rfl) .nil) (.refl _ _) ⟨rfl, by rw [hnot, hd, fidx, if_pos hc16]; rfl⟩
    · refine rn ?_
      exact ⟨k + 1, ⟨by omega, by rw [hnot, hd, fidx, if_neg (by simp [hc16])]⟩, (ent_sub (.cons _ _ _ rfl (.cons _ _ _ rfl (.cons _ _ _ rfl (.cons _ _ _ rfl (.nil)))))), by omega⟩
  · have hk3 : k = l.length := by
      have : l.length ≤ k := by simpa using hc9
      omega
    refine rn ?_
    exact retq (.cons _ _ _ _ (.tmp _ _ rfl) .nil) (.refl _ _) ⟨rfl, by rw [hnot, hk3, List.drop_length, fidx]; rfl⟩
theorem containsFuncMat {full : Bool} (l : List Mat) (fv : AV) (p : Mat → Bool) (G : List Res) (hp : ∀ a ∈ l, FCall Tryz.prog fv [.agg (matR a)] G (fun r h' => h' = G ∧ r = bv (p a))) (hlen : l.length ≤ 4611686018427387904) : ACall Tryz.prog 115 [.list full 4 (l.map matR), fv] G (fun r h' => h' = G ∧ r = bv (l.any p)) := by
  refine acall_of_aw Tryz.func115 rfl rfl rfl ?_
  refine rn ?_
  refine qv rfl rfl (qv_call rfl rfl (FCall.of_fun (indexFuncMat l _ p G hp hlen))) ?_
  refine rn ?_
  exact retq (.cons _ _ _ _ (.tmp _ _ rfl) .nil) (.refl _ _) ⟨rfl, by simp only [← fidx_ge p l 0]; rfl⟩
theorem allNotMat (a : Mat) (fv : AV) (v : Bool) (b : Nat) (G : List Res) (hp : FCall Tryz.prog fv [.agg (matR a)] G (fun r h' => h' = G ∧ r = bv v)) : ACall Tryz.prog 116 [.agg (matR a), .v (.pointer (some ⟨b, 0, none⟩))] (.box b 111 [fv] :: G) (fun r h' => h' = .box b 111 [fv] :: G ∧ r = bv (!v)) := by
  refine acall_of_aw Tryz.func116 rfl rfl rfl ?_
  refine rn ?_
  refine aops_e rfl (oe_box rfl rfl rfl fun b2 => ?_)
  refine rn ?_
  refine qv rfl rfl (qv_call rfl rfl (FCall.quiet (R := fun x => x = bv v) (h2 := [_, _]) (List.perm_append_comm (l₁ := [_, _])) hp)) ?_
  refine rn ?_
  exact retq (.cons _ _ _ _ (.tmp _ _ rfl) .nil) (.drop1 _ _ _) ⟨rfl, rfl⟩
theorem allMat {full : Bool} (l : List Mat) (fv : AV) (p : Mat → Bool) (G : List Res) (hone : fv.cellsOf = some [fv]) (hp : ∀ a ∈ l, FCall Tryz.prog fv [.agg (matR a)] G (fun r h' => h' = G ∧ r = bv (p a))) (hlen : l.length ≤ 4611686018427387904) : ACall Tryz.prog 70 [.list full 4 (l.map matR), fv] G (fun r h' => h' = G ∧ r = bv (l.all p)) := by
  refine acall_of_aw Tryz.func70 rfl rfl rfl ?_
  refine rn ?_
  refine aops_e rfl (oe_box rfl hone rfl fun b3 => ?_)
  refine rn ?_
  refine qv rfl rfl (qv_call rfl rfl (FCall.of_fun (containsFuncMat l _ (fun a => !p a) (.box b3 111 [fv] :: G) (fun a ha => FCall.of_acall (fs := []) (cs := [.v (.pointer (some ⟨b3, 0, none⟩))]) (allNotMat a fv (p a) b3 G (hp a ha))) hlen))) ?_
  refine rn ?_
  exact retq (.cons _ _ _ _ (.tmp _ _ rfl) .nil) (.drop1 _ _ _) ⟨rfl, by simp only [← any_not p l]; rfl⟩
theorem indexFuncWan {full : Bool} (l : List Wan) (fv : AV) (p : Wan → Bool) (G : List Res) (hp : ∀ a ∈ l, FCall Tryz.prog fv [.agg (wanR a)] G (fun r h' => h' = G ∧ r = bv (p a))) (hlen : l.length ≤ 4611686018427387904) : ACall Tryz.prog 135 [.list full 2 (l.map wanR), fv] G (fun r h' => h' = G ∧ r = iv (fidx p 0 l)) := by
  refine acall_of_aw Tryz.func135 rfl rfl rfl ?_
  refine rn ?_
  refine aw_loop' (fun k : Nat => k ≤ l.length ∧ fidx p 0 l = fidx p k (l.drop k)) (fun k => ⟨[(8, iv k), (7, iv (l.map wanR).length), (0, .list full 2 (l.map wanR)), (1, fv)], G, []⟩) (fun k => l.length - k) 0 ⟨Nat.zero_le _, by simp⟩
    (ent_sub (.cons _ _ _ rfl (.cons _ _ _ rfl (.cons _ _ _ rfl (.cons _ _ _ rfl (.nil)))))) ?_
  rintro k ⟨hk, hnot⟩
  refine rn ?_
  refine aw_cond rfl (fun hc9 => ?_) (fun hc9 => ?_)
  · have hk2 : k < l.length := by simpa using hc9
    have hrow : (l.map wanR)[k]? = some (wanR l[k]) := by simp [hk2]
    have hd := List.drop_eq_getElem_cons hk2
    refine rn ?_
    refine qv rfl rfl (qv_call rfl rfl (hp l[k] (by simp))) ?_
    refine rn ?_
    refine aw_cond rfl (fun hc16 => ?_) (fun hc16 => ?_)
    · refine rn ?_
      exact retq (.cons _ _ _ _ (.tmp _ _ rfl) .nil) (.refl _ _) ⟨rfl, by rw [hnot, hd, fidx, if_pos hc16]; rfl⟩
    · refine rn ?_
      exact ⟨k + 1, ⟨by omega, by rw [hnot, hd, fidx, if_neg (by simp [hc16])]⟩, (ent_sub (.cons _ _ _ rfl (.cons _ _ _ rfl (.cons _ _ _ rfl (.cons _ _ _ rfl (.nil)))))), by omega⟩
  · have hk3 : k = l.length := by
      have : l.length ≤ k := by simpa using hc9
      omega
    refine rn ?_
    exact retq (.cons _ _ _ _ (.tmp _ _ rfl) .nil) (.refl _ _) ⟨rfl, by rw [hnot, hk3, List.drop_length, fidx]; rfl⟩
theorem containsFuncWan {full : Bool} (l : List Wan) (fv : AV) (p : Wan → Bool) (G : List Res) (hp : ∀ a ∈ l, FCall Tryz.prog fv [.agg (wanR a)] G (fun r h' => h' = G ∧ r = bv (p a))) (hlen : l.length ≤ 4611686018427387904) : ACall Tryz.prog 117 [.list full 2 (l.map wanR), fv] G (fun r h' => h' = G ∧ r = bv (l.any p)) := by
  refine acall_of_aw Tryz.func117 rfl rfl rfl ?_
  refine rn ?_
  refine qv rfl rfl (qv_call rfl rfl (FCall.of_fun (indexFuncWan l _ p G hp hlen))) ?_
  refine rn ?_
  exact retq (.cons _ _ _ _ (.tmp _ _ rfl) .nil) (.refl _ _) ⟨rfl, by simp only [← fidx_ge p l 0]; rfl⟩
theorem allNotWan (a : Wan) (fv : AV) (v : Bool) (b : Nat) (G : List Res) (hp : FCall Tryz.prog fv [.agg (wanR a)] G (fun r h' => h' = G ∧ r = bv v)) : ACall Tryz.prog 118 [.agg (wanR a), .v (.pointer (some ⟨b, 0, none⟩))] (.box b 113 [fv] :: G) (fun r h' => h' = .box b 113 [fv] :: G ∧ r = bv (!v)) := by
  refine acall_of_aw Tryz.func118 rfl rfl rfl ?_
  refine rn ?_
  refine aops_e rfl (oe_box rfl rfl rfl fun b2 => ?_)
  refine rn ?_
  refine qv rfl rfl (qv_call rfl rfl (FCall.quiet (R := fun x => x = bv v) (h2 := [_, _]) (List.perm_append_comm (l₁ := [_, _])) hp)) ?_
  refine rn ?_
  exact retq (.cons _ _ _ _ (.tmp _ _ rfl) .nil) (.drop1 _ _ _) ⟨rfl, rfl⟩
theorem allWan {full : Bool} (l : List Wan) (fv : AV) (p : Wan → Bool) (G : List Res) (hone : fv.cellsOf = some [fv]) (hp : ∀ a ∈ l, FCall Tryz.prog fv [.agg (wanR a)] G (fun r h' => h' = G ∧ r = bv (p a))) (hlen : l.length ≤ 4611686018427387904) : ACall Tryz.prog 72 [.list full 2 (l.map wanR), fv] G (fun r h' => h' = G ∧ r = bv (l.all p)) := by
  refine acall_of_aw Tryz.func72 rfl rfl rfl ?_
  refine rn ?_
  refine aops_e rfl (oe_box rfl hone rfl fun b3 => ?_)
  refine rn ?_
  refine qv rfl rfl (qv_call rfl rfl (FCall.of_fun (containsFuncWan l _ (fun a => !p a) (.box b3 113 [fv] :: G) (fun a ha => FCall.of_acall (fs := []) (cs := [.v (.pointer (some ⟨b3, 0, none⟩))]) (allNotWan a fv (p a) b3 G (hp a ha))) hlen))) ?_
  refine rn ?_
  exact retq (.cons _ _ _ _ (.tmp _ _ rfl) .nil) (.drop1 _ _ _) ⟨rfl, by simp only [← any_not p l]; rfl⟩
theorem indexFuncSeen {full : Bool} (l : List Seen) (fv : AV) (p : Seen → Bool) (G : List Res) (hp : ∀ a ∈ l, FCall Tryz.prog fv [.agg (seenR a)] G (fun r h' => h' = G ∧ r = bv (p a))) (hlen : l.length ≤ 4611686018427387904) : ACall Tryz.prog 140 [.list full 3 (l.map seenR), fv] G (fun r h' => h' = G ∧ r = iv (fidx p 0 l)) := by
  refine acall_of_aw Tryz.func140 rfl rfl rfl ?_
  refine rn ?_
  refine aw_loop' (fun k : Nat => k ≤ l.length ∧ fidx p 0 l = fidx p k (l.drop k)) (fun k => ⟨[(8, iv k), (7, iv (l.map seenR).length), (0, .list full 3 (l.map seenR)), (1, fv)], G, []⟩) (fun k => l.length - k) 0 ⟨Nat.zero_le _, by simp⟩
    (ent_sub (.cons _ _ _ rfl (.cons _ _ _ rfl (.cons _ _ _ rfl (.cons _ _ _ rfl (.nil)))))) ?_
  rintro k ⟨hk, hnot⟩
  refine rn ?_
  refine aw_cond rfl (fun hc9 => ?_) (fun hc9 => ?_)
  · have hk2 : k < l.length := by simpa using hc9
    have hrow : (l.map seenR)[k]? = some (seenR l[k]) := by simp [hk2]
    have hd := List.drop_eq_getElem_cons hk2
    refine rn ?_
    refine qv rfl rfl (qv_call rfl rfl (hp l[k] (by simp))) ?_
    refine rn ?_
    refine aw_cond rfl (fun hc16 => ?_) (fun hc16 => ?_)
    · refine rn ?_
      exact retq (.cons _ _ _ _ (.tmp _ _ rfl) .nil) (.refl _ _) ⟨rfl, by rw [hnot, hd, fidx, if_pos hc16]; rfl⟩
    · refine rn ?_
      exact ⟨k + 1, ⟨by omega, by rw [hnot, hd, fidx, if_neg (by simp [hc16])]⟩, (ent_sub (.cons _ _ _ rfl (.cons _ _ _ rfl (.cons _ _ _ rfl (.cons _ _ _ rfl (.nil)))))), by omega⟩
  · have hk3 : k = l.length := by
      have : l.length ≤ k := by simpa using hc9
      omega
    refine rn ?_
    exact retq (.cons _ _ _ _ (.tmp _ _ rfl) .nil) (.refl _ _) ⟨rfl, by rw [hnot, hk3, List.drop_length, fidx]; rfl⟩
theorem containsFuncSeen {full : Bool} (l : List Seen) (fv : AV) (p : Seen → Bool) (G : List Res) (hp : ∀ a ∈ l, FCall Tryz.prog fv [.agg (seenR a)] G (fun r h' => h' = G ∧ r = bv (p a))) (hlen : l.length ≤ 4611686018427387904) : ACall Tryz.prog 131 [.list full 3 (l.map seenR), fv] G (fun r h' => h' = G ∧ r = bv (l.any p)) := by
  refine acall_of_aw Tryz.func131 rfl rfl rfl ?_
  refine rn ?_
  refine qv rfl rfl (qv_call rfl rfl (FCall.of_fun (indexFuncSeen l _ p G hp hlen))) ?_
  refine rn ?_
  exact retq (.cons _ _ _ _ (.tmp _ _ rfl) .nil) (.refl _ _) ⟨rfl, by simp only [← fidx_ge p l 0]; rfl⟩
theorem allNotSeen (a : Seen) (fv : AV) (v : Bool) (b : Nat) (G : List Res) (hp : FCall Tryz.prog fv [.agg (seenR a)] G (fun r h' => h' = G ∧ r = bv v)) : ACall Tryz.prog 132 [.agg (seenR a), .v (.pointer (some ⟨b, 0, none⟩))] (.box b 142 [fv] :: G) (fun r h' => h' = .box b 142 [fv] :: G ∧ r = bv (!v)) := by
  refine acall_of_aw Tryz.func132 rfl rfl rfl ?_
  refine rn ?_
  refine aops_e rfl (oe_box rfl rfl rfl fun b2 => ?_)
  refine rn ?_
  refine qv rfl rfl (qv_call rfl rfl (FCall.quiet (R := fun x => x = bv v) (h2 := [_, _]) (List.perm_append_comm (l₁ := [_, _])) hp)) ?_
  refine rn ?_
  exact retq (.cons _ _ _ _ (.tmp _ _ rfl) .nil) (.drop1 _ _ _) ⟨rfl, rfl⟩
theorem allSeen {full : Bool} (l : List Seen) (fv : AV) (p : Seen → Bool) (G : List Res) (hone : fv.cellsOf = some [fv]) (hp : ∀ a ∈ l, FCall Tryz.prog fv [.agg (seenR a)] G (fun r h' => h' = G ∧ r = bv (p a))) (hlen : l.length ≤ 4611686018427387904) : ACall Tryz.prog 110 [.list full 3 (l.map seenR), fv] G (fun r h' => h' = G ∧ r = bv (l.all p)) := by
  refine acall_of_aw Tryz.func110 rfl rfl rfl ?_
  refine rn ?_
  refine aops_e rfl (oe_box rfl hone rfl fun b3 => ?_)
  refine rn ?_
  refine qv rfl rfl (qv_call rfl rfl (FCall.of_fun (containsFuncSeen l _ (fun a => !p a) (.box b3 142 [fv] :: G) (fun a ha => FCall.of_acall (fs := []) (cs := [.v (.pointer (some ⟨b3, 0, none⟩))]) (allNotSeen a fv (p a) b3 G (hp a ha))) hlen))) ?_
  refine rn ?_
  exact retq (.cons _ _ _ _ (.tmp _ _ rfl) .nil) (.drop1 _ _ _) ⟨rfl, by simp only [← any_not p l]; rfl⟩
end Go.Proofs
