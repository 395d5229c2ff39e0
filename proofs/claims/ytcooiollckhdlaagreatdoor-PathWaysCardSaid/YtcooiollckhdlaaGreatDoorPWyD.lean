/- Facts on the loaded program's types and functions, as instances. Conditions: none. -/
import Derived.Test.YtcooiollckhdlaaGreatDoorPWyC
import Derived.Test.YtcooiollckhdlaaGreatDoorProg
import Derived.KernelRfl
set_option linter.unusedSimpArgs false
set_option linter.unusedVariables false
set_option linter.unusedVariables false
set_option maxRecDepth 100000
namespace Go.Proofs
open Go Go.Ab
instance : Und Tryz.prog 3 (.int .i64) := ⟨Tryz.underlying3⟩
instance : IsA Tryz.prog 3 false := ⟨⟨_, Tryz.underlying3, rfl⟩⟩
instance : Siz Tryz.prog 3 1 := ⟨by kernel_rfl⟩
instance : Byt Tryz.prog 3 8 := ⟨by kernel_rfl⟩
instance : ZerV Tryz.prog 3 (.int .i64 0) := ⟨by kernel_rfl⟩
instance : Zer Tryz.prog 3 [.int .i64 0] := ⟨⟨(.int .i64 0 : Value), by kernel_rfl, rfl, List.all_eq_true.1 rfl⟩⟩
instance : IsA Tryz.prog 4 false := ⟨⟨_, Tryz.underlying4, rfl⟩⟩
instance : Siz Tryz.prog 4 1 := ⟨by kernel_rfl⟩
instance : Byt Tryz.prog 4 1 := ⟨by kernel_rfl⟩
instance : ZerV Tryz.prog 4 (.bool false) := ⟨by kernel_rfl⟩
instance : Zer Tryz.prog 4 [.bool false] := ⟨⟨(.bool false : Value), by kernel_rfl, rfl, List.all_eq_true.1 rfl⟩⟩
instance : Und Tryz.prog 5 (.int .u8) := ⟨Tryz.underlying5⟩
instance : IsA Tryz.prog 5 false := ⟨⟨_, Tryz.underlying5, rfl⟩⟩
instance : Siz Tryz.prog 5 1 := ⟨by kernel_rfl⟩
instance : Und Tryz.prog 22 (.slice 53) := ⟨Tryz.underlying22⟩
instance : IsA Tryz.prog 22 false := ⟨⟨_, Tryz.underlying22, rfl⟩⟩
instance : Siz Tryz.prog 22 1 := ⟨by kernel_rfl⟩
instance : IsA Tryz.prog 24 true := ⟨⟨_, Tryz.underlying24, rfl⟩⟩
instance : Siz Tryz.prog 24 2 := ⟨by kernel_rfl⟩
instance : Zer Tryz.prog 24 [.int .i64 0, .slice none 0 0] := ⟨⟨(.agg #[.int .i64 0, .slice none 0 0] : Value), by kernel_rfl, rfl, List.all_eq_true.1 rfl⟩⟩
instance : Fld Tryz.prog 24 0 0 3 := ⟨⟨_, _, Tryz.underlying24, rfl, rfl, rfl⟩⟩
instance : Fld Tryz.prog 24 1 1 22 := ⟨⟨_, _, Tryz.underlying24, rfl, rfl, rfl⟩⟩
instance : Plc Tryz.prog 24 [(0, 1), (1, 1)] := ⟨⟨_, Tryz.underlying24, by kernel_rfl⟩⟩
instance : Und Tryz.prog 25 (.slice 29) := ⟨Tryz.underlying25⟩
instance : Und Tryz.prog 29 (.array 2 3) := ⟨Tryz.underlying29⟩
instance : IsA Tryz.prog 29 true := ⟨⟨_, Tryz.underlying29, rfl⟩⟩
instance : Siz Tryz.prog 29 2 := ⟨by kernel_rfl⟩
instance : Zer Tryz.prog 29 [.int .i64 0, .int .i64 0] := ⟨⟨(.agg #[.int .i64 0, .int .i64 0] : Value), by kernel_rfl, rfl, List.all_eq_true.1 rfl⟩⟩
instance : Und Tryz.prog 30 (.slice 3) := ⟨Tryz.underlying30⟩
instance : IsA Tryz.prog 30 false := ⟨⟨_, Tryz.underlying30, rfl⟩⟩
instance : Siz Tryz.prog 30 1 := ⟨by kernel_rfl⟩
instance : Byt Tryz.prog 30 24 := ⟨by kernel_rfl⟩
instance : ZerV Tryz.prog 30 (.slice none 0 0) := ⟨by kernel_rfl⟩
instance : Zer Tryz.prog 30 [.slice none 0 0] := ⟨⟨(.slice none 0 0 : Value), by kernel_rfl, rfl, List.all_eq_true.1 rfl⟩⟩
instance : Und Tryz.prog 46 (.slice 30) := ⟨Tryz.underlying46⟩
instance : IsA Tryz.prog 46 false := ⟨⟨_, Tryz.underlying46, rfl⟩⟩
instance : Siz Tryz.prog 46 1 := ⟨by kernel_rfl⟩
instance : Zer Tryz.prog 46 [.slice none 0 0] := ⟨⟨(.slice none 0 0 : Value), by kernel_rfl, rfl, List.all_eq_true.1 rfl⟩⟩
instance : IsA Tryz.prog 53 true := ⟨⟨_, Tryz.underlying53, rfl⟩⟩
instance : Siz Tryz.prog 53 3 := ⟨by kernel_rfl⟩
instance : Byt Tryz.prog 53 24 := ⟨by kernel_rfl⟩
instance : ZerV Tryz.prog 53 (.agg #[.int .i64 0, .int .i64 0, .int .i64 0]) := ⟨by kernel_rfl⟩
instance : Zer Tryz.prog 53 [.int .i64 0, .int .i64 0, .int .i64 0] := ⟨⟨(.agg #[.int .i64 0, .int .i64 0, .int .i64 0] : Value), by kernel_rfl, rfl, List.all_eq_true.1 rfl⟩⟩
instance : Fld Tryz.prog 53 0 0 3 := ⟨⟨_, _, Tryz.underlying53, rfl, rfl, rfl⟩⟩
instance : Fld Tryz.prog 53 1 1 3 := ⟨⟨_, _, Tryz.underlying53, rfl, rfl, rfl⟩⟩
instance : Fld Tryz.prog 53 2 2 3 := ⟨⟨_, _, Tryz.underlying53, rfl, rfl, rfl⟩⟩
instance : Plc Tryz.prog 53 [(0, 1), (1, 1), (2, 1)] := ⟨⟨_, Tryz.underlying53, by kernel_rfl⟩⟩
instance : IsA Tryz.prog 71 false := ⟨⟨_, Tryz.underlying71, rfl⟩⟩
instance : Und Tryz.prog 76 (.slice 105) := ⟨Tryz.underlying76⟩
instance : IsA Tryz.prog 76 false := ⟨⟨_, Tryz.underlying76, rfl⟩⟩
instance : Siz Tryz.prog 76 1 := ⟨by kernel_rfl⟩
instance : IsA Tryz.prog 78 true := ⟨⟨_, Tryz.underlying78, rfl⟩⟩
instance : Siz Tryz.prog 78 1 := ⟨by kernel_rfl⟩
instance : Zer Tryz.prog 78 [.slice none 0 0] := ⟨⟨(.agg #[.slice none 0 0] : Value), by kernel_rfl, rfl, List.all_eq_true.1 rfl⟩⟩
instance : Fld Tryz.prog 78 0 0 76 := ⟨⟨_, _, Tryz.underlying78, rfl, rfl, rfl⟩⟩
instance : Plc Tryz.prog 78 [(0, 1)] := ⟨⟨_, Tryz.underlying78, by kernel_rfl⟩⟩
instance : Und Tryz.prog 84 (.map 3 4) := ⟨Tryz.underlying84⟩
instance : IsA Tryz.prog 105 false := ⟨⟨_, Tryz.underlying105, rfl⟩⟩
instance : Siz Tryz.prog 105 1 := ⟨by kernel_rfl⟩
instance : Byt Tryz.prog 105 8 := ⟨by kernel_rfl⟩
instance : ZerV Tryz.prog 105 (.int .u64 0) := ⟨by kernel_rfl⟩
instance : Und Tryz.prog 108 (.int .u64) := ⟨Tryz.underlying108⟩
instance : IsA Tryz.prog 135 false := ⟨⟨_, Tryz.underlying135, rfl⟩⟩
instance : Und Tryz.prog 137 (.slice 4) := ⟨Tryz.underlying137⟩
instance : IsA Tryz.prog 137 false := ⟨⟨_, Tryz.underlying137, rfl⟩⟩
instance : Siz Tryz.prog 137 1 := ⟨by kernel_rfl⟩
instance : Und Tryz.prog 138 (.slice 149) := ⟨Tryz.underlying138⟩
instance : IsA Tryz.prog 138 false := ⟨⟨_, Tryz.underlying138, rfl⟩⟩
instance : Siz Tryz.prog 138 1 := ⟨by kernel_rfl⟩
instance : Zer Tryz.prog 140 [.int .i64 0, .slice none 0 0, .slice none 0 0, .slice none 0 0, .slice none 0 0, .slice none 0 0, .slice none 0 0, .slice none 0 0, .int .i64 0] := ⟨⟨(.agg #[.int .i64 0, .slice none 0 0, .slice none 0 0, .slice none 0 0, .slice none 0 0, .slice none 0 0, .slice none 0 0, .slice none 0 0, .int .i64 0] : Value), by kernel_rfl, rfl, List.all_eq_true.1 rfl⟩⟩
instance : Fld Tryz.prog 140 0 0 24 := ⟨⟨_, _, Tryz.underlying140, rfl, rfl, rfl⟩⟩
instance : Fld Tryz.prog 140 1 2 30 := ⟨⟨_, _, Tryz.underlying140, rfl, rfl, rfl⟩⟩
instance : Fld Tryz.prog 140 2 3 30 := ⟨⟨_, _, Tryz.underlying140, rfl, rfl, rfl⟩⟩
instance : Fld Tryz.prog 140 3 4 30 := ⟨⟨_, _, Tryz.underlying140, rfl, rfl, rfl⟩⟩
instance : Fld Tryz.prog 140 4 5 137 := ⟨⟨_, _, Tryz.underlying140, rfl, rfl, rfl⟩⟩
instance : Fld Tryz.prog 140 5 6 30 := ⟨⟨_, _, Tryz.underlying140, rfl, rfl, rfl⟩⟩
instance : Fld Tryz.prog 140 6 7 138 := ⟨⟨_, _, Tryz.underlying140, rfl, rfl, rfl⟩⟩
instance : Fld Tryz.prog 140 7 8 3 := ⟨⟨_, _, Tryz.underlying140, rfl, rfl, rfl⟩⟩
instance : Plc Tryz.prog 140 [(0, 2), (2, 1), (3, 1), (4, 1), (5, 1), (6, 1), (7, 1), (8, 1)] := ⟨⟨_, Tryz.underlying140, by kernel_rfl⟩⟩
instance : Und Tryz.prog 147 (.array 64 5) := ⟨Tryz.underlying147⟩
instance : Siz Tryz.prog 149 2 := ⟨by kernel_rfl⟩
instance : Byt Tryz.prog 149 16 := ⟨by kernel_rfl⟩
instance : ZerV Tryz.prog 149 (.agg #[.int .i64 0, .int .i64 0]) := ⟨by kernel_rfl⟩
instance : Zer Tryz.prog 149 [.int .i64 0, .int .i64 0] := ⟨⟨(.agg #[.int .i64 0, .int .i64 0] : Value), by kernel_rfl, rfl, List.all_eq_true.1 rfl⟩⟩
instance : Fld Tryz.prog 149 0 0 3 := ⟨⟨_, _, Tryz.underlying149, rfl, rfl, rfl⟩⟩
instance : Fld Tryz.prog 149 1 1 3 := ⟨⟨_, _, Tryz.underlying149, rfl, rfl, rfl⟩⟩
instance : Plc Tryz.prog 149 [(0, 1), (1, 1)] := ⟨⟨_, Tryz.underlying149, by kernel_rfl⟩⟩
instance : Mixed Tryz.prog := ⟨by kernel_rfl⟩
instance : Enters Tryz.prog 9 := ⟨⟨_, Tryz.func9, by kernel_rfl, by kernel_rfl⟩⟩
instance : Enters Tryz.prog 10 := ⟨⟨_, Tryz.func10, by kernel_rfl, by kernel_rfl⟩⟩
instance : Enters Tryz.prog 11 := ⟨⟨_, Tryz.func11, by kernel_rfl, by kernel_rfl⟩⟩
instance : Enters Tryz.prog 12 := ⟨⟨_, Tryz.func12, by kernel_rfl, by kernel_rfl⟩⟩
instance : Enters Tryz.prog 13 := ⟨⟨_, Tryz.func13, by kernel_rfl, by kernel_rfl⟩⟩
instance : Enters Tryz.prog 14 := ⟨⟨_, Tryz.func14, by kernel_rfl, by kernel_rfl⟩⟩
instance : Enters Tryz.prog 15 := ⟨⟨_, Tryz.func15, by kernel_rfl, by kernel_rfl⟩⟩
instance : Enters Tryz.prog 16 := ⟨⟨_, Tryz.func16, by kernel_rfl, by kernel_rfl⟩⟩
instance : Enters Tryz.prog 17 := ⟨⟨_, Tryz.func17, by kernel_rfl, by kernel_rfl⟩⟩
instance : Enters Tryz.prog 18 := ⟨⟨_, Tryz.func18, by kernel_rfl, by kernel_rfl⟩⟩
instance : Enters Tryz.prog 19 := ⟨⟨_, Tryz.func19, by kernel_rfl, by kernel_rfl⟩⟩
instance : Enters Tryz.prog 21 := ⟨⟨_, Tryz.func21, by kernel_rfl, by kernel_rfl⟩⟩
instance : Enters Tryz.prog 24 := ⟨⟨_, Tryz.func24, by kernel_rfl, by kernel_rfl⟩⟩
instance : Enters Tryz.prog 26 := ⟨⟨_, Tryz.func26, by kernel_rfl, by kernel_rfl⟩⟩
instance : Enters Tryz.prog 28 := ⟨⟨_, Tryz.func28, by kernel_rfl, by kernel_rfl⟩⟩
instance : Enters Tryz.prog 29 := ⟨⟨_, Tryz.func29, by kernel_rfl, by kernel_rfl⟩⟩
instance : Enters Tryz.prog 30 := ⟨⟨_, Tryz.func30, by kernel_rfl, by kernel_rfl⟩⟩
instance : Enters Tryz.prog 31 := ⟨⟨_, Tryz.func31, by kernel_rfl, by kernel_rfl⟩⟩
instance : Enters Tryz.prog 33 := ⟨⟨_, Tryz.func33, by kernel_rfl, by kernel_rfl⟩⟩
instance : Enters Tryz.prog 34 := ⟨⟨_, Tryz.func34, by kernel_rfl, by kernel_rfl⟩⟩
instance : Enters Tryz.prog 35 := ⟨⟨_, Tryz.func35, by kernel_rfl, by kernel_rfl⟩⟩
instance : Enters Tryz.prog 36 := ⟨⟨_, Tryz.func36, by kernel_rfl, by kernel_rfl⟩⟩
instance : Enters Tryz.prog 37 := ⟨⟨_, Tryz.func37, by kernel_rfl, by kernel_rfl⟩⟩
instance : Enters Tryz.prog 38 := ⟨⟨_, Tryz.func38, by kernel_rfl, by kernel_rfl⟩⟩
instance : Enters Tryz.prog 39 := ⟨⟨_, Tryz.func39, by kernel_rfl, by kernel_rfl⟩⟩
instance : Enters Tryz.prog 40 := ⟨⟨_, Tryz.func40, by kernel_rfl, by kernel_rfl⟩⟩
instance : Enters Tryz.prog 41 := ⟨⟨_, Tryz.func41, by kernel_rfl, by kernel_rfl⟩⟩
instance : Enters Tryz.prog 42 := ⟨⟨_, Tryz.func42, by kernel_rfl, by kernel_rfl⟩⟩
instance : Enters Tryz.prog 43 := ⟨⟨_, Tryz.func43, by kernel_rfl, by kernel_rfl⟩⟩
instance : Enters Tryz.prog 44 := ⟨⟨_, Tryz.func44, by kernel_rfl, by kernel_rfl⟩⟩
instance : Enters Tryz.prog 45 := ⟨⟨_, Tryz.func45, by kernel_rfl, by kernel_rfl⟩⟩
instance : Enters Tryz.prog 46 := ⟨⟨_, Tryz.func46, by kernel_rfl, by kernel_rfl⟩⟩
instance : Enters Tryz.prog 47 := ⟨⟨_, Tryz.func47, by kernel_rfl, by kernel_rfl⟩⟩
instance : Enters Tryz.prog 48 := ⟨⟨_, Tryz.func48, by kernel_rfl, by kernel_rfl⟩⟩
instance : Enters Tryz.prog 49 := ⟨⟨_, Tryz.func49, by kernel_rfl, by kernel_rfl⟩⟩
instance : Enters Tryz.prog 50 := ⟨⟨_, Tryz.func50, by kernel_rfl, by kernel_rfl⟩⟩
instance : Enters Tryz.prog 52 := ⟨⟨_, Tryz.func52, by kernel_rfl, by kernel_rfl⟩⟩
instance : Enters Tryz.prog 53 := ⟨⟨_, Tryz.func53, by kernel_rfl, by kernel_rfl⟩⟩
instance : Enters Tryz.prog 54 := ⟨⟨_, Tryz.func54, by kernel_rfl, by kernel_rfl⟩⟩
instance : Enters Tryz.prog 55 := ⟨⟨_, Tryz.func55, by kernel_rfl, by kernel_rfl⟩⟩
instance : Enters Tryz.prog 56 := ⟨⟨_, Tryz.func56, by kernel_rfl, by kernel_rfl⟩⟩
instance : Enters Tryz.prog 58 := ⟨⟨_, Tryz.func58, by kernel_rfl, by kernel_rfl⟩⟩
instance : Enters Tryz.prog 61 := ⟨⟨_, Tryz.func61, by kernel_rfl, by kernel_rfl⟩⟩
instance : Enters Tryz.prog 62 := ⟨⟨_, Tryz.func62, by kernel_rfl, by kernel_rfl⟩⟩
instance : Enters Tryz.prog 63 := ⟨⟨_, Tryz.func63, by kernel_rfl, by kernel_rfl⟩⟩
instance : Enters Tryz.prog 64 := ⟨⟨_, Tryz.func64, by kernel_rfl, by kernel_rfl⟩⟩
instance : Enters Tryz.prog 65 := ⟨⟨_, Tryz.func65, by kernel_rfl, by kernel_rfl⟩⟩
instance : Enters Tryz.prog 66 := ⟨⟨_, Tryz.func66, by kernel_rfl, by kernel_rfl⟩⟩
instance : Enters Tryz.prog 67 := ⟨⟨_, Tryz.func67, by kernel_rfl, by kernel_rfl⟩⟩
instance : Enters Tryz.prog 68 := ⟨⟨_, Tryz.func68, by kernel_rfl, by kernel_rfl⟩⟩
instance : Enters Tryz.prog 69 := ⟨⟨_, Tryz.func69, by kernel_rfl, by kernel_rfl⟩⟩
instance : Enters Tryz.prog 70 := ⟨⟨_, Tryz.func70, by kernel_rfl, by kernel_rfl⟩⟩
instance : Enters Tryz.prog 71 := ⟨⟨_, Tryz.func71, by kernel_rfl, by kernel_rfl⟩⟩
instance : Enters Tryz.prog 72 := ⟨⟨_, Tryz.func72, by kernel_rfl, by kernel_rfl⟩⟩
instance : Enters Tryz.prog 73 := ⟨⟨_, Tryz.func73, by kernel_rfl, by kernel_rfl⟩⟩
instance : Enters Tryz.prog 74 := ⟨⟨_, Tryz.func74, by kernel_rfl, by kernel_rfl⟩⟩
instance : Enters Tryz.prog 78 := ⟨⟨_, Tryz.func78, by kernel_rfl, by kernel_rfl⟩⟩
instance : Enters Tryz.prog 79 := ⟨⟨_, Tryz.func79, by kernel_rfl, by kernel_rfl⟩⟩
instance : Enters Tryz.prog 80 := ⟨⟨_, Tryz.func80, by kernel_rfl, by kernel_rfl⟩⟩
instance : Enters Tryz.prog 81 := ⟨⟨_, Tryz.func81, by kernel_rfl, by kernel_rfl⟩⟩
instance : Enters Tryz.prog 82 := ⟨⟨_, Tryz.func82, by kernel_rfl, by kernel_rfl⟩⟩
instance : Enters Tryz.prog 83 := ⟨⟨_, Tryz.func83, by kernel_rfl, by kernel_rfl⟩⟩
instance : Enters Tryz.prog 84 := ⟨⟨_, Tryz.func84, by kernel_rfl, by kernel_rfl⟩⟩
instance : Enters Tryz.prog 85 := ⟨⟨_, Tryz.func85, by kernel_rfl, by kernel_rfl⟩⟩
instance : Enters Tryz.prog 86 := ⟨⟨_, Tryz.func86, by kernel_rfl, by kernel_rfl⟩⟩
instance : Enters Tryz.prog 87 := ⟨⟨_, Tryz.func87, by kernel_rfl, by kernel_rfl⟩⟩
instance : Enters Tryz.prog 88 := ⟨⟨_, Tryz.func88, by kernel_rfl, by kernel_rfl⟩⟩
instance : Enters Tryz.prog 89 := ⟨⟨_, Tryz.func89, by kernel_rfl, by kernel_rfl⟩⟩
instance : Enters Tryz.prog 90 := ⟨⟨_, Tryz.func90, by kernel_rfl, by kernel_rfl⟩⟩
instance : Enters Tryz.prog 91 := ⟨⟨_, Tryz.func91, by kernel_rfl, by kernel_rfl⟩⟩
instance : Enters Tryz.prog 92 := ⟨⟨_, Tryz.func92, by kernel_rfl, by kernel_rfl⟩⟩
instance : Enters Tryz.prog 93 := ⟨⟨_, Tryz.func93, by kernel_rfl, by kernel_rfl⟩⟩
instance : Enters Tryz.prog 94 := ⟨⟨_, Tryz.func94, by kernel_rfl, by kernel_rfl⟩⟩
instance : Enters Tryz.prog 98 := ⟨⟨_, Tryz.func98, by kernel_rfl, by kernel_rfl⟩⟩
instance : Enters Tryz.prog 99 := ⟨⟨_, Tryz.func99, by kernel_rfl, by kernel_rfl⟩⟩
instance : Enters Tryz.prog 100 := ⟨⟨_, Tryz.func100, by kernel_rfl, by kernel_rfl⟩⟩
instance : Enters Tryz.prog 101 := ⟨⟨_, Tryz.func101, by kernel_rfl, by kernel_rfl⟩⟩
instance : Enters Tryz.prog 102 := ⟨⟨_, Tryz.func102, by kernel_rfl, by kernel_rfl⟩⟩
instance : Enters Tryz.prog 103 := ⟨⟨_, Tryz.func103, by kernel_rfl, by kernel_rfl⟩⟩
instance : Enters Tryz.prog 104 := ⟨⟨_, Tryz.func104, by kernel_rfl, by kernel_rfl⟩⟩
instance : Enters Tryz.prog 105 := ⟨⟨_, Tryz.func105, by kernel_rfl, by kernel_rfl⟩⟩
instance : Enters Tryz.prog 109 := ⟨⟨_, Tryz.func109, by kernel_rfl, by kernel_rfl⟩⟩
instance : Enters Tryz.prog 110 := ⟨⟨_, Tryz.func110, by kernel_rfl, by kernel_rfl⟩⟩
instance : Enters Tryz.prog 111 := ⟨⟨_, Tryz.func111, by kernel_rfl, by kernel_rfl⟩⟩
end Go.Proofs
/- Histories aS plain data, and how they stand aS abstract values. Conditions: none (definitions, and lemmas over lists). -/
set_option linter.unusedVariables false
namespace Go.H
open Go Go.Ab
abbrev iv (n : Int) : AV := .v (.int .i64 n)
abbrev bv (b : Bool) : AV := .v (.bool b)
abbrev sv (s : ByteArray) : AV := .v (.string s)
structure Ver where
  t : Int
  k : Int
  deriving DecidableEq
structure Seen where
  o : Int
  v : Ver
  deriving DecidableEq
structure Ev where
  kind : Int
  t : Int
  s : Int
  l : Int
  o : Int
  v : Ver
  p : Int
  scan : List Seen
  deriving DecidableEq
structure Ord where
  o : Int
  ts : List Int
  deriving DecidableEq
structure Mat where
  p : Int
  o : Int
  first : Bool
  ts : List Int
  deriving DecidableEq
structure Wan where
  s : Int
  bits : Int
  deriving DecidableEq
structure Hist where
  ts : List ByteArray
  ss : List ByteArray
  os : List ByteArray
  ps : List ByteArray
  evs : List Ev
  ords : List Ord
  mats : List Mat
  wants : List Wan
def intR (n : Int) : List AV := [iv n]
def intsA (l : List Int) : AV := .list false 1 (l.map intR)
def fidx {α : Type} (p : α → Bool) (i : Nat) : List α → Int
  | [] => -1
  | x :: r => if p x then i else fidx p (i + 1) r
theorem fidx_ge {α : Type} (p : α → Bool) : ∀ (l : List α) (i : Nat), decide (fidx p i l ≥ 0) = l.any p
  | [], i => by simp [fidx]
  | x :: r, i => by
    simp only [fidx, List.any_cons]
    split
    · rename_i h; simp [h]
    · rename_i h; simp [h, fidx_ge p r (i + 1)]
def zall {α β : Type} (p : α → β → Bool) : List α → List β → Bool
  | x :: xs, y :: ys => p x y && zall p xs ys
  | _, _ => true
theorem zall_nil {α β : Type} (p : α → β → Bool) (m : List β) : zall p [] m = true := by cases m <;> rfl
def eqF {α β : Type} (p : α → β → Bool) (l : List α) (m : List β) : Bool := l.length == m.length && zall p l m
def intEq (a b : Int) : Bool := a == b
def seenEq (a b : Seen) : Bool := [a.o, a.v.t, a.v.k] == [b.o, b.v.t, b.v.k]
theorem not_t {b : Bool} (h : (!b) = true) : b = false := by simpa using h
theorem not_f {b : Bool} (h : (!b) = false) : b = true := by simpa using h
theorem eqF_eq {α : Type} [DecidableEq α] {p : α → α → Bool} (hp : ∀ a b, p a b = decide (a = b)) : ∀ (l m : List α), eqF p l m = decide (l = m)
  | [], [] => by simp [eqF, zall]
  | x :: xs, [] => by simp [eqF]
  | [], y :: ys => by simp [eqF]
  | x :: xs, y :: ys => by
    have := eqF_eq hp xs ys
    simp only [eqF] at this
    simp only [eqF, zall, List.length_cons, hp]
    by_cases h : x = y
    · subst h
      simp only [decide_true, Bool.true_and, List.cons.injEq, true_and]
      rw [← this]
      congr 1
      simp
    · simp [h]
/-! What the package's small functions answer. -/
def numB (c : Int) : Bool := decide (c ≥ 48) && decide (c ≤ 57)
def letB (c : Int) : Bool := c == 95 || (decide (c ≥ 97) && decide (c ≤ 122)) || (decide (c ≥ 65) && decide (c ≤ 90)) || decide (c ≥ 128)
def toldB (l : List ByteArray) (n : Int) : Bool := decide (n ≥ 0) && decide (n < l.length)
def verB (ts : List ByteArray) (v : Ver) : Bool := if v.k == 0 then v.t == 0 else toldB ts v.t && decide (v.k > 0) && decide (v.k ≤ 999)
def levB (l : Int) : Int := if decide (l < 1) || decide (l > 4) then 190 else 0
def evEq (a b : Ev) : Bool := a.kind == b.kind && a.t == b.t && a.s == b.s && a.l == b.l && a.o == b.o && [a.v.t, a.v.k] == [b.v.t, b.v.k] && a.p == b.p && eqF seenEq a.scan b.scan
structure Lim (N : Nat) (h : Hist) : Prop where
  ts : h.ts.length ≤ N
  ss : h.ss.length ≤ N
  os : h.os.length ≤ N
  ps : h.ps.length ≤ N
  evs : h.evs.length ≤ N
  ords : h.ords.length ≤ N
  mats : h.mats.length ≤ N
  wants : h.wants.length ≤ N
  scans : ∀ e ∈ h.evs, e.scan.length ≤ N
  ordts : ∀ o ∈ h.ords, o.ts.length ≤ N
  matts : ∀ m ∈ h.mats, m.ts.length ≤ N
/-- No more bytes than a place has. -/
structure Big (h : Hist) : Prop where
  lim : Lim 4611686018427387904 h
  ts : h.ts.length ≤ 8796093022208
  ss : h.ss.length ≤ 8796093022208
  os : h.os.length ≤ 8796093022208
  ps : h.ps.length ≤ 8796093022208
  ords : h.ords.length ≤ 4398046511104
  mats : h.mats.length ≤ 2932031007402
  wants : h.wants.length ≤ 8796093022208
  scans : ∀ e ∈ h.evs, e.scan.length ≤ 5864062014805
  ordts : ∀ o ∈ h.ords, o.ts.length ≤ 17592186044416
  matts : ∀ m ∈ h.mats, m.ts.length ≤ 17592186044416
def nmK (h : Hist) : Nat → List ByteArray
  | 0 => h.ts
  | 1 => h.ss
  | 2 => h.os
  | _ => h.ps
/-! May an event be? -/
def mayBegin (h : Hist) (e : Ev) : Bool := toldB h.ss e.s && levB e.l == 0
def mayWrite (h : Hist) (e : Ev) : Bool := toldB h.os e.o && verB h.ts e.v && e.v.t == e.t && decide (e.v.k > 0)
def mayRead (h : Hist) (e : Ev) : Bool := toldB h.os e.o && verB h.ts e.v
def seenB (h : Hist) (s : Seen) : Bool := toldB h.os s.o && verB h.ts s.v
def mayScan (h : Hist) (e : Ev) : Bool := toldB h.ps e.p && decide ((e.scan.length : Int) ≤ 40) && e.scan.all (seenB h)
def cand (h : Hist) (e : Ev) : Ev × Bool :=
  if e.kind = 1 then (⟨0, 0, e.s, e.l, 0, ⟨0, 0⟩, 0, []⟩, mayBegin h e) else
  if e.kind = 2 then (⟨0, 0, 0, 0, e.o, e.v, 0, []⟩, mayWrite h e) else
  if e.kind = 3 then (⟨0, 0, 0, 0, e.o, e.v, 0, []⟩, mayRead h e) else
  if e.kind = 4 then (⟨0, 0, 0, 0, 0, ⟨0, 0⟩, e.p, e.scan⟩, mayScan h e) else
  (⟨0, 0, 0, 0, 0, ⟨0, 0⟩, 0, []⟩, true)
def eventB (h : Hist) (e : Ev) : Bool :=
  !(decide (e.kind < 1) || decide (e.kind ≥ 7) || !toldB h.ts e.t) && ((cand h e).2 && evEq { (cand h e).1 with kind := e.kind, t := e.t } e)
def tsB (h : Hist) (ts : List Int) : Bool := decide ((ts.length : Int) ≤ 300) && ts.all (toldB h.ts)
def ordB (h : Hist) (r : Ord) : Bool := toldB h.os r.o && tsB h r.ts
def matB (h : Hist) (r : Mat) : Bool := toldB h.ps r.p && toldB h.os r.o && tsB h r.ts
def wanB (h : Hist) (r : Wan) : Bool := toldB h.ss r.s && decide (r.bits ≥ 0) && decide (r.bits ≤ 15)
end Go.H
/- Components of a graph, aS they are closed one after the other: what holds at each step, and so at the end. Conditions: aS each lemma states. -/
set_option linter.unusedVariables false
set_option linter.unusedSimpArgs false
namespace Go.H
inductive Rch (E : Nat → Nat → Prop) : Nat → Nat → Prop where
  | refl (x : Nat) : Rch E x x
  | tail {x y z : Nat} : Rch E x y → E y z → Rch E x z
theorem Rch.trans {E : Nat → Nat → Prop} {x y z : Nat} (h : Rch E x y) (k : Rch E y z) : Rch E x z := by
  induction k with
  | refl => exact h
  | tail _ e ih => exact .tail ih e
theorem Rch.one {E : Nat → Nat → Prop} {x y : Nat} (e : E x y) : Rch E x y := .tail (.refl x) e
def upd (f : Nat → Nat) (a b : Nat) : Nat → Nat := fun x => if x = a then b else f x
theorem upd_same (f : Nat → Nat) (a b : Nat) : upd f a b a = b := by simp [upd]
theorem upd_ne (f : Nat → Nat) {a x : Nat} (b : Nat) (h : x ≠ a) : upd f a b x = f x := by simp [upd, h]
/-- How far a graph is gone through: what was met, and when; the stack, and the calls, the newest first. -/
structure TJ where
  many : Nat
  seen : Nat → Nat
  low : Nat → Nat
  stk : List Nat
  cls : List (Nat × Nat)
  outs : List (List Nat)
section
variable (n : Nat) (adj : Nat → List Nat)
abbrev Edg : Nat → Nat → Prop := fun u v => v ∈ adj u
/-- A row of nodes that lead to one another, and no others do. -/
def IsScc (C : List Nat) : Prop := C ≠ [] ∧ ∀ x ∈ C, ∀ y, y ∈ C ↔ Rch (Edg adj) x y ∧ Rch (Edg adj) y x
structure TInv (w : TJ) : Prop where
  adjn : ∀ u, u < n → ∀ v ∈ adj u, v < n
  seenle : ∀ v, w.seen v ≤ w.many
  stkn : ∀ v ∈ w.stk, v < n ∧ 0 < w.seen v
  stks : w.stk.Pairwise (fun a b => w.seen b < w.seen a)
  clsk : ∀ c ∈ w.cls, c.1 ∈ w.stk ∧ c.2 ≤ (adj c.1).length
  clss : w.cls.Pairwise (fun a b => w.seen b.1 < w.seen a.1 ∧ Rch (Edg adj) b.1 a.1)
  root : w.cls = [] → w.stk = []
  near : ∀ x ∈ w.stk, ∃ c ∈ w.cls, w.seen c.1 ≤ w.seen x ∧ Rch (Edg adj) c.1 x ∧ Rch (Edg adj) x c.1 ∧ w.low c.1 ≤ w.low x ∧ ∀ d ∈ w.cls, w.seen d.1 ≤ w.seen x → w.seen d.1 ≤ w.seen c.1
  lowk : ∀ x ∈ w.stk, w.low x ≤ w.seen x ∧ ∃ y ∈ w.stk, w.seen y = w.low x ∧ Rch (Edg adj) x y
  fin : ∀ x ∈ w.stk, (∀ c ∈ w.cls, c.1 ≠ x) → ∀ y ∈ adj x, 0 < w.seen y ∧ (y ∈ w.stk → w.low x ≤ w.seen y)
  prog : ∀ c ∈ w.cls, ∀ i, i < c.2 → ∀ y, (adj c.1)[i]? = some y → 0 < w.seen y ∧ (y ∈ w.stk → w.low c.1 ≤ w.seen y)
  done : ∀ x, x < n → 0 < w.seen x → x ∉ w.stk → ∀ y ∈ adj x, 0 < w.seen y ∧ y ∉ w.stk
  outm : ∀ x, x ∈ w.outs.flatten ↔ x < n ∧ 0 < w.seen x ∧ x ∉ w.stk
  outs : ∀ C ∈ w.outs, IsScc adj C
  outn : w.outs.flatten.Nodup
variable {n adj}
def TJ.enter (w : TJ) (v : Nat) : TJ := ⟨w.many + 1, upd w.seen v (w.many + 1), upd w.low v (w.many + 1), v :: w.stk, (v, 0) :: w.cls, w.outs⟩
theorem TInv.inj {w : TJ} (h : TInv n adj w) {x y : Nat} (hx : x ∈ w.stk) (hy : y ∈ w.stk) (e : w.seen x = w.seen y) : x = y := by
  obtain ⟨i, hi, rfl⟩ := List.mem_iff_getElem.1 hx
  obtain ⟨j, hj, rfl⟩ := List.mem_iff_getElem.1 hy
  by_cases q : i = j
  · subst q; rfl
  · rcases Nat.lt_or_gt_of_ne q with q | q
    · have := (List.pairwise_iff_getElem.1 h.stks) i j hi hj q; omega
    · have := (List.pairwise_iff_getElem.1 h.stks) j i hj hi q; omega
/-- A node that was not met is entered: aS the first one, or behind an edge of the newest call. -/
theorem TInv.enter {w : TJ} (h : TInv n adj w) {v : Nat} (hv : v < n) (h0 : w.seen v = 0) (hc : w.cls = [] ∨ ∃ u d r, w.cls = (u, d) :: r ∧ v ∈ adj u) : TInv n adj (w.enter v) := by
  have hns : v ∉ w.stk := fun q => by have := (h.stkn v q).2; omega
  have ne : ∀ x, 0 < w.seen x → x ≠ v := fun x hx e => by rw [e] at hx; omega
  have sx : ∀ x, x ≠ v → (w.enter v).seen x = w.seen x := fun x e => upd_ne _ _ e
  have lx : ∀ x, x ≠ v → (w.enter v).low x = w.low x := fun x e => upd_ne _ _ e
  have sv : (w.enter v).seen v = w.many + 1 := upd_same _ _ _
  have lv : (w.enter v).low v = w.many + 1 := upd_same _ _ _
  have nst : ∀ x ∈ w.stk, x ≠ v := fun x hx => ne x (h.stkn x hx).2
  have ncl : ∀ c ∈ w.cls, c.1 ≠ v := fun c hc => nst _ (h.clsk c hc).1
  refine ⟨h.adjn, fun x => ?_, fun x hx => ?_, ?_, fun c hc => ?_, ?_, fun e => (by cases e), fun x hx => ?_, fun x hx => ?_, fun x hx hcx y hy => ?_, fun c hc i hi y hy => ?_, fun x hxn hx hns' y hy => ?_, fun x => ?_, h.outs, h.outn⟩
  · by_cases e : x = v
    · rw [e, sv]; exact Nat.le_refl _
    · rw [sx x e]; exact Nat.le_succ_of_le (h.seenle x)
  · rcases List.mem_cons.1 hx with rfl | hx
    · exact ⟨hv, by rw [sv]; omega⟩
    · rw [sx x (nst x hx)]; exact h.stkn x hx
  · refine List.pairwise_cons.2 ⟨fun x hx => ?_, ?_⟩
    · rw [sv, sx x (nst x hx)]; have := h.seenle x; omega
    · refine h.stks.imp_of_mem fun {a b} ha hb hab => ?_
      rw [sx a (nst a ha), sx b (nst b hb)]; exact hab
  · rcases List.mem_cons.1 hc with rfl | hc
    · exact ⟨List.mem_cons_self, Nat.zero_le _⟩
    · exact ⟨List.mem_cons_of_mem _ (h.clsk c hc).1, (h.clsk c hc).2⟩
  · refine List.pairwise_cons.2 ⟨fun c hc' => ⟨?_, ?_⟩, ?_⟩
    · rw [sv, sx _ (ncl c hc')]; have := h.seenle c.1; omega
    · rcases hc with hc | ⟨u, d, r, hc, hu⟩
      · rw [hc] at hc'; cases hc'
      · have hp := h.clss
        rw [hc] at hc' hp
        rcases List.mem_cons.1 hc' with rfl | hc'
        · exact .one hu
        · exact ((List.pairwise_cons.1 hp).1 c hc').2.trans (.one hu)
    · refine h.clss.imp_of_mem fun {a b} ha hb hab => ?_
      rw [sx _ (ncl a ha), sx _ (ncl b hb)]; exact hab
  · rcases List.mem_cons.1 hx with rfl | hx
    · refine ⟨(x, 0), List.mem_cons_self, Nat.le_refl _, .refl _, .refl _, Nat.le_refl _, fun d hd _ => ?_⟩
      rcases List.mem_cons.1 hd with rfl | hd
      · exact Nat.le_refl _
      · rw [sv, sx _ (ncl d hd)]; have := h.seenle d.1; omega
    · obtain ⟨c, hc', h1, h2, h3, h4, h5⟩ := h.near x hx
      refine ⟨c, List.mem_cons_of_mem _ hc', by rw [sx _ (ncl c hc'), sx _ (nst x hx)]; exact h1, h2, h3, by rw [lx _ (ncl c hc'), lx _ (nst x hx)]; exact h4, fun d hd hle => ?_⟩
      rcases List.mem_cons.1 hd with rfl | hd
      · rw [sv, sx _ (nst x hx)] at hle; have := h.seenle x; omega
      · rw [sx _ (ncl d hd), sx _ (nst x hx)] at hle
        rw [sx _ (ncl d hd), sx _ (ncl c hc')]; exact h5 d hd hle
  · rcases List.mem_cons.1 hx with rfl | hx
    · rw [sv, lv]; exact ⟨Nat.le_refl _, x, List.mem_cons_self, sv, .refl _⟩
    · obtain ⟨a, y, hy, b, c⟩ := h.lowk x hx
      rw [sx _ (nst x hx), lx _ (nst x hx)]
      exact ⟨a, y, List.mem_cons_of_mem _ hy, by rw [sx _ (nst y hy)]; exact b, c⟩
  · rcases List.mem_cons.1 hx with rfl | hx
    · exact absurd rfl (hcx (x, 0) List.mem_cons_self)
    · obtain ⟨a, b⟩ := h.fin x hx (fun c hc => hcx c (List.mem_cons_of_mem _ hc)) y hy
      have hyv := ne y a
      rw [sx y hyv, lx _ (nst x hx)]
      refine ⟨a, fun q => ?_⟩
      rcases List.mem_cons.1 q with rfl | q
      · exact absurd rfl hyv
      · exact b q
  · rcases List.mem_cons.1 hc with rfl | hc
    · exact absurd hi (by simp)
    · obtain ⟨a, b⟩ := h.prog c hc i hi y hy
      have hyv := ne y a
      rw [sx y hyv, lx _ (ncl c hc)]
      refine ⟨a, fun q => ?_⟩
      rcases List.mem_cons.1 q with rfl | q
      · exact absurd rfl hyv
      · exact b q
  · have hxs : x ∉ w.stk := fun q => hns' (List.mem_cons_of_mem _ q)
    have hxv : x ≠ v := fun e => hns' (by rw [e]; exact List.mem_cons_self)
    rw [sx x hxv] at hx
    obtain ⟨a, b⟩ := h.done x hxn hx hxs y hy
    rw [sx y (ne y a)]
    refine ⟨a, fun q => ?_⟩
    rcases List.mem_cons.1 q with e | q
    · exact ne y a e
    · exact b q
  · rw [show (w.enter v).outs = w.outs from rfl, h.outm x]
    constructor
    · rintro ⟨a, b, c⟩
      have hxv := ne x b
      rw [sx x hxv]
      exact ⟨a, b, fun q => (List.mem_cons.1 q).elim hxv c⟩
    · rintro ⟨a, b, c⟩
      have hxv : x ≠ v := fun e => c (by rw [e]; exact List.mem_cons_self)
      rw [sx x hxv] at b
      exact ⟨a, b, fun q => c (List.mem_cons_of_mem _ q)⟩
/-- The newest call goes on over an edge to what was met. -/
def TJ.over (w : TJ) (u d v : Nat) (r : List (Nat × Nat)) : TJ := { w with cls := (u, d + 1) :: r, low := if v ∈ w.stk then upd w.low u (min (w.low u) (w.seen v)) else w.low }
theorem TInv.over {w : TJ} (h : TInv n adj w) {u d v : Nat} {r : List (Nat × Nat)} (hc : w.cls = (u, d) :: r) (hv : (adj u)[d]? = some v) (h0 : 0 < w.seen v) : TInv n adj (w.over u d v r) := by
  obtain ⟨hd, hv'⟩ := List.getElem?_eq_some_iff.1 hv
  have hvu : v ∈ adj u := by rw [← hv']; exact List.getElem_mem hd
  have huc : (u, d) ∈ w.cls := by rw [hc]; exact List.mem_cons_self
  have hus : u ∈ w.stk := (h.clsk _ huc).1
  have hr : ∀ c ∈ r, c ∈ w.cls := fun c hcr => by rw [hc]; exact List.mem_cons_of_mem _ hcr
  have hp := h.clss
  rw [hc] at hp
  have hp' := List.pairwise_cons.1 hp
  have neu : ∀ c ∈ r, c.1 ≠ u := fun c hcr e => by have := (hp'.1 c hcr).1; rw [e] at this; exact Nat.lt_irrefl _ this
  have lowle : ∀ x, (w.over u d v r).low x ≤ w.low x := fun x => by
    simp only [TJ.over]; split
    · by_cases e : x = u
      · subst e; rw [upd_same]; exact Nat.min_le_left _ _
      · rw [upd_ne _ _ e]; exact Nat.le_refl _
    · exact Nat.le_refl _
  have lowne : ∀ x, x ≠ u → (w.over u d v r).low x = w.low x := fun x e => by
    simp only [TJ.over]; split
    · exact upd_ne _ _ e
    · rfl
  have lowv : v ∈ w.stk → (w.over u d v r).low u ≤ w.seen v := fun q => by
    simp only [TJ.over]; rw [if_pos q, upd_same]; exact Nat.min_le_right _ _
  refine ⟨h.adjn, h.seenle, h.stkn, h.stks, fun c hcc => ?_, List.pairwise_cons.2 ⟨fun c hcr => hp'.1 c hcr, hp'.2⟩, fun e => (by cases e), fun x hx => ?_, fun x hx => ?_, fun x hx hcx y hy => ?_, fun c hcc i hi y hy => ?_, h.done, h.outm, h.outs, h.outn⟩
  · rcases List.mem_cons.1 hcc with rfl | hcc
    · exact ⟨hus, hd⟩
    · exact h.clsk c (hr c hcc)
  · obtain ⟨c, hcc, h1, h2, h3, h4, h5⟩ := h.near x hx
    rw [hc] at hcc
    have h5' : ∀ e ∈ (w.over u d v r).cls, w.seen e.1 ≤ w.seen x → w.seen e.1 ≤ w.seen c.1 := fun e he hle => by
      rcases List.mem_cons.1 he with rfl | he
      · exact h5 (u, d) huc hle
      · exact h5 e (hr e he) hle
    rcases List.mem_cons.1 hcc with rfl | hcr
    · refine ⟨(u, d + 1), List.mem_cons_self, h1, h2, h3, ?_, h5'⟩
      by_cases e : x = u
      · rw [e]; exact Nat.le_refl _
      · rw [lowne x e]; exact Nat.le_trans (lowle u) h4
    · refine ⟨c, List.mem_cons_of_mem _ hcr, h1, h2, h3, ?_, h5'⟩
      have hcu := neu c hcr
      rw [lowne _ hcu]
      by_cases e : x = u
      · exfalso
        have q1 := h5 (u, d) huc (by rw [e]; exact Nat.le_refl _)
        have q2 := (hp'.1 c hcr).1
        simp only at q1 q2
        omega
      · rw [lowne x e]; exact h4
  · obtain ⟨a, y, hy, b, c⟩ := h.lowk x hx
    refine ⟨Nat.le_trans (lowle x) a, ?_⟩
    by_cases e : x = u
    · subst e
      simp only [TJ.over]
      by_cases q : v ∈ w.stk
      · rw [if_pos q, upd_same]
        by_cases m : w.low x ≤ w.seen v
        · rw [Nat.min_eq_left m]; exact ⟨y, hy, b, c⟩
        · rw [Nat.min_eq_right (by omega)]; exact ⟨v, q, rfl, .one hvu⟩
      · rw [if_neg q]; exact ⟨y, hy, b, c⟩
    · rw [lowne x e]; exact ⟨y, hy, b, c⟩
  · have hxu : x ≠ u := fun e => hcx (u, d + 1) List.mem_cons_self e.symm
    obtain ⟨a, b⟩ := h.fin x hx (fun c hcc => by
      rw [hc] at hcc
      rcases List.mem_cons.1 hcc with rfl | hcc
      · exact fun e => hxu e.symm
      · exact hcx c (List.mem_cons_of_mem _ hcc)) y hy
    exact ⟨a, fun q => by rw [lowne x hxu]; exact b q⟩
  · rcases List.mem_cons.1 hcc with rfl | hcc
    · by_cases e : i = d
      · subst e
        rw [hv] at hy
        injection hy with hy
        subst hy
        exact ⟨h0, lowv⟩
      · obtain ⟨a, b⟩ := h.prog (u, d) huc i (by simp only at hi; omega) y hy
        exact ⟨a, fun q => Nat.le_trans (lowle u) (b q)⟩
    · obtain ⟨a, b⟩ := h.prog c (hr c hcc) i hi y hy
      exact ⟨a, fun q => Nat.le_trans (lowle _) (b q)⟩
/-- The newest call ends: its node stays open. -/
def TJ.pop (w : TJ) (u : Nat) (r : List (Nat × Nat)) : TJ := { w with cls := r, low := match r with | [] => w.low | p :: _ => upd w.low p.1 (min (w.low p.1) (w.low u)) }
theorem TInv.top {w : TJ} (h : TInv n adj w) {u d : Nat} {r : List (Nat × Nat)} (hc : w.cls = (u, d) :: r) {c : Nat × Nat} (hcc : c ∈ w.cls) : w.seen c.1 ≤ w.seen u ∧ (c ∈ r → w.seen c.1 < w.seen u ∧ Rch (Edg adj) c.1 u) := by
  have hp := h.clss
  rw [hc] at hp hcc
  have hp' := List.pairwise_cons.1 hp
  refine ⟨?_, fun q => hp'.1 c q⟩
  rcases List.mem_cons.1 hcc with rfl | q
  · exact Nat.le_refl _
  · exact Nat.le_of_lt (hp'.1 c q).1
/-- The node of the newest call, all its edges gone over, leads on to an elder one: it stays open. -/
theorem TInv.pop {w : TJ} (h : TInv n adj w) {u d : Nat} {r : List (Nat × Nat)} (hc : w.cls = (u, d) :: r) (hd : d = (adj u).length) (hlt : w.low u ≠ w.seen u) : TInv n adj (w.pop u r) := by
  have huc : (u, d) ∈ w.cls := by rw [hc]; exact List.mem_cons_self
  have hus : u ∈ w.stk := (h.clsk _ huc).1
  have hr : ∀ c ∈ r, c ∈ w.cls := fun c q => by rw [hc]; exact List.mem_cons_of_mem _ q
  obtain ⟨a0, y0, hy0, b0, c0⟩ := h.lowk u hus
  have hlt' : w.seen y0 < w.seen u := by omega
  have inr : ∀ c ∈ w.cls, w.seen c.1 < w.seen u → c ∈ r := fun c q k => by
    rw [hc] at q
    rcases List.mem_cons.1 q with rfl | q
    · exact absurd k (Nat.lt_irrefl _)
    · exact q
  obtain ⟨cy, hcy, y1, _, y3, _, _⟩ := h.near y0 hy0
  have hcyr : cy ∈ r := inr cy hcy (by omega)
  obtain ⟨p, dp, r', hr'⟩ : ∃ p dp r', r = (p, dp) :: r' := by
    cases r with
    | nil => cases hcyr
    | cons a b => exact ⟨a.1, a.2, b, rfl⟩
  have hpr : (p, dp) ∈ r := by rw [hr']; exact List.mem_cons_self
  have hp := h.clss
  rw [hc] at hp
  have hp' := List.pairwise_cons.1 hp
  have hpp := hp'.2
  rw [hr'] at hpp
  have hpp' := List.pairwise_cons.1 hpp
  have ptop : ∀ c ∈ r, w.seen c.1 ≤ w.seen p ∧ Rch (Edg adj) c.1 p := fun c q => by
    rw [hr'] at q
    rcases List.mem_cons.1 q with rfl | q
    · exact ⟨Nat.le_refl _, .refl _⟩
    · exact ⟨Nat.le_of_lt (hpp'.1 c q).1, (hpp'.1 c q).2⟩
  have hpu := hp'.1 _ hpr
  have up : Rch (Edg adj) u p := (c0.trans y3).trans (ptop cy hcyr).2
  have lw : (w.pop u r).low = upd w.low p (min (w.low p) (w.low u)) := by simp only [TJ.pop, hr']
  have lowle : ∀ x, (w.pop u r).low x ≤ w.low x := fun x => by
    rw [lw]
    by_cases e : x = p
    · subst e; rw [upd_same]; exact Nat.min_le_left _ _
    · rw [upd_ne _ _ e]; exact Nat.le_refl _
  have lowne : ∀ x, x ≠ p → (w.pop u r).low x = w.low x := fun x e => by rw [lw, upd_ne _ _ e]
  have lowp : (w.pop u r).low p ≤ w.low u := by rw [lw, upd_same]; exact Nat.min_le_right _ _
  have hps : p ∈ w.stk := (h.clsk _ (hr _ hpr)).1
  refine ⟨h.adjn, h.seenle, h.stkn, h.stks, fun c q => h.clsk c (hr c q), hp'.2, fun e => ?_, fun x hx => ?_, fun x hx => ?_, fun x hx hcx y hy => ?_, fun c q i hi y hy => ?_, h.done, h.outm, h.outs, h.outn⟩
  · rw [show (w.pop u r).cls = r from rfl, hr'] at e; cases e
  · obtain ⟨c, hcc, h1, h2, h3, h4, h5⟩ := h.near x hx
    have hcc' := hcc
    rw [hc] at hcc'
    rcases List.mem_cons.1 hcc' with e | q
    · have h1 : w.seen u ≤ w.seen x := by rw [e] at h1; exact h1
      have h2 : Rch (Edg adj) u x := by rw [e] at h2; exact h2
      have h3 : Rch (Edg adj) x u := by rw [e] at h3; exact h3
      have h4 : w.low u ≤ w.low x := by rw [e] at h4; exact h4
      have hps' : w.seen p < w.seen u := hpu.1
      have hxp : x ≠ p := fun e => by rw [e] at h1; omega
      exact ⟨(p, dp), hpr, by show w.seen p ≤ w.seen x; omega, hpu.2.trans h2, h3.trans up, by rw [lowne x hxp]; exact Nat.le_trans lowp h4, fun e he _ => (ptop e he).1⟩
    · refine ⟨c, q, h1, h2, h3, ?_, fun e he hle => h5 e (hr e he) hle⟩
      by_cases e : x = p
      · have k1 := h5 (p, dp) (hr _ hpr) (by rw [e]; exact Nat.le_refl _)
        have : c.1 = p := h.inj (h.clsk c hcc).1 hps (by rw [e] at h1; simp only at k1; omega)
        rw [this, e]; exact Nat.le_refl _
      · rw [lowne x e]; exact Nat.le_trans (lowle _) h4
  · obtain ⟨a, y, hy, b, c⟩ := h.lowk x hx
    refine ⟨Nat.le_trans (lowle x) a, ?_⟩
    by_cases e : x = p
    · rw [e, lw, upd_same]
      by_cases m : w.low p ≤ w.low u
      · rw [Nat.min_eq_left m]; rw [e] at b c; exact ⟨y, hy, b, c⟩
      · rw [Nat.min_eq_right (by omega)]; exact ⟨y0, hy0, b0, hpu.2.trans c0⟩
    · rw [lowne x e]; exact ⟨y, hy, b, c⟩
  · by_cases e : x = u
    · have hup : u ≠ p := fun q => by have := hpu.1; simp only at this; rw [q] at this; exact Nat.lt_irrefl _ this
      rw [e] at hy ⊢
      obtain ⟨i, hi, hiy⟩ := List.mem_iff_getElem.1 hy
      rw [lowne u hup]
      exact h.prog (u, d) huc i (by simp only; omega) y (by rw [← hiy]; exact List.getElem?_eq_getElem hi)
    · obtain ⟨a, b⟩ := h.fin x hx (fun c q => by
        rw [hc] at q
        rcases List.mem_cons.1 q with rfl | q
        · exact fun k => e k.symm
        · exact hcx c q) y hy
      exact ⟨a, fun q => Nat.le_trans (lowle x) (b q)⟩
  · obtain ⟨a, b⟩ := h.prog c (hr c q) i hi y hy
    exact ⟨a, fun k => Nat.le_trans (lowle _) (b k)⟩
/-- It leads on to none: what is open from it on is a component. -/
def TJ.close (w : TJ) (u : Nat) (r : List (Nat × Nat)) (B C : List Nat) : TJ := { w.pop u r with stk := B, outs := w.outs ++ [C] }
theorem TInv.close {w : TJ} (h : TInv n adj w) {u d : Nat} {r : List (Nat × Nat)} (hc : w.cls = (u, d) :: r) (hd : d = (adj u).length) (heq : w.low u = w.seen u) {A B C : List Nat} (hs : w.stk = A ++ u :: B) (hC : C.Perm (A ++ [u])) : TInv n adj (w.close u r B C) := by
  have huc : (u, d) ∈ w.cls := by rw [hc]; exact List.mem_cons_self
  have hus : u ∈ w.stk := (h.clsk _ huc).1
  have hr : ∀ c ∈ r, c ∈ w.cls := fun c q => by rw [hc]; exact List.mem_cons_of_mem _ q
  have hst := h.stks
  rw [hs, List.pairwise_append] at hst
  obtain ⟨sA, sB, sAB⟩ := hst
  have sB' := List.pairwise_cons.1 sB
  have memC : ∀ x, x ∈ C ↔ x ∈ A ∨ x = u := fun x => by rw [hC.mem_iff]; simp
  have inB : ∀ x ∈ B, x ∈ w.stk ∧ w.seen x < w.seen u := fun x hx => ⟨by rw [hs]; simp [hx], sB'.1 x hx⟩
  have inC : ∀ x ∈ C, x ∈ w.stk ∧ w.seen u ≤ w.seen x := fun x hx => by
    rcases (memC x).1 hx with q | rfl
    · exact ⟨by rw [hs]; simp [q], Nat.le_of_lt (sAB x q u (by simp))⟩
    · exact ⟨hus, Nat.le_refl _⟩
  have stkC : ∀ x ∈ w.stk, w.seen u ≤ w.seen x → x ∈ C := fun x hx hle => by
    rw [hs] at hx
    rcases List.mem_append.1 hx with q | q
    · exact (memC x).2 (.inl q)
    · rcases List.mem_cons.1 q with rfl | q
      · exact (memC x).2 (.inr rfl)
      · have := (inB x q).2; omega
  have stkB : ∀ x ∈ w.stk, w.seen x < w.seen u → x ∈ B := fun x hx hlt => by
    rw [hs] at hx
    rcases List.mem_append.1 hx with q | q
    · have := sAB x q u (by simp); omega
    · rcases List.mem_cons.1 q with rfl | q
      · exact absurd hlt (Nat.lt_irrefl _)
      · exact q
  have low0 : (w.close u r B C).low = w.low := by
    show (w.pop u r).low = w.low
    cases r with
    | nil => rfl
    | cons p r' =>
      funext x
      simp only [TJ.pop]
      by_cases e : x = p.1
      · rw [e, upd_same]
        have h1 := ((h.top hc (hr p (by simp))).2 (by simp)).1
        have h2 := (h.lowk p.1 (h.clsk _ (hr p (by simp))).1).1
        rw [Nat.min_eq_left (by omega)]
      · rw [upd_ne _ _ e]
  have nearC : ∀ x ∈ C, Rch (Edg adj) u x ∧ Rch (Edg adj) x u ∧ w.low u ≤ w.low x := fun x hx => by
    obtain ⟨hxs, hle⟩ := inC x hx
    obtain ⟨c, hcc, h1, h2, h3, h4, h5⟩ := h.near x hxs
    have k1 : w.seen u ≤ w.seen c.1 := h5 (u, d) huc hle
    have k2 := (h.top hc hcc).1
    have : c.1 = u := h.inj (h.clsk c hcc).1 hus (by omega)
    rw [this] at h2 h3 h4
    exact ⟨h2, h3, h4⟩
  have edge : ∀ x ∈ C, ∀ y ∈ adj x, 0 < w.seen y ∧ (y ∈ w.stk → y ∈ C) := fun x hx y hy => by
    obtain ⟨hxs, hle⟩ := inC x hx
    by_cases e : x = u
    · rw [e] at hy
      obtain ⟨i, hi, hiy⟩ := List.mem_iff_getElem.1 hy
      obtain ⟨a, b⟩ := h.prog (u, d) huc i (by simp only; omega) y (by rw [← hiy]; exact List.getElem?_eq_getElem hi)
      exact ⟨a, fun q => stkC y q (by have := b q; simp only at this; omega)⟩
    · obtain ⟨a, b⟩ := h.fin x hxs (fun c hcc k => by
        have k2 := (h.top hc hcc).1
        rw [k] at k2
        exact e (h.inj hxs hus (by omega))) y hy
      have := (nearC x hx).2.2
      exact ⟨a, fun q => stkC y q (by have := b q; omega)⟩
  have adjn : ∀ x ∈ w.stk, ∀ y ∈ adj x, y < n := fun x hx y hy => h.adjn x (h.stkn x hx).1 y hy
  have reach : ∀ {x y}, Rch (Edg adj) x y → x ∈ C → y ∈ C ∨ (y < n ∧ 0 < w.seen y ∧ y ∉ w.stk) := fun {x y} hxy hx => by
    induction hxy with
    | refl => exact .inl hx
    | tail hxz e ih =>
      rename_i z y'
      rcases ih with q | ⟨q1, q2, q3⟩
      · obtain ⟨a, b⟩ := edge z q y' e
        by_cases k : y' ∈ w.stk
        · exact .inl (b k)
        · exact .inr ⟨adjn z (inC z q).1 y' e, a, k⟩
      · obtain ⟨a, b⟩ := h.done z q1 q2 q3 y' e
        exact .inr ⟨h.adjn z q1 y' e, a, b⟩
  have stays : ∀ {x y}, Rch (Edg adj) x y → (x < n ∧ 0 < w.seen x ∧ x ∉ w.stk) → y ∉ w.stk := fun {x y} hxy hx => by
    have : y < n ∧ 0 < w.seen y ∧ y ∉ w.stk := by
      induction hxy with
      | refl => exact hx
      | tail _ e ih =>
        rename_i z y' _
        obtain ⟨a, b⟩ := h.done z ih.1 ih.2.1 ih.2.2 y' e
        exact ⟨h.adjn z ih.1 y' e, a, b⟩
    exact this.2.2
  have scc : IsScc adj C := by
    refine ⟨fun e => ?_, fun x hx y => ⟨fun hy => ?_, fun ⟨h1, h2⟩ => ?_⟩⟩
    · have := (memC u).2 (.inr rfl); rw [e] at this; cases this
    · exact ⟨(nearC x hx).2.1.trans (nearC y hy).1, (nearC y hy).2.1.trans (nearC x hx).1⟩
    · rcases reach h1 hx with q | q
      · exact q
      · exact absurd (inC x hx).1 (stays h2 q)
  refine ⟨h.adjn, h.seenle, fun x hx => h.stkn x (inB x hx).1, sB'.2, fun c q => ?_, ?_, fun e => ?_, fun x hx => ?_, fun x hx => ?_, fun x hx hcx y hy => ?_, fun c q i hi y hy => ?_, fun x hxn hx hns y hy => ?_, fun x => ?_, fun D hD => ?_, ?_⟩
  · exact ⟨stkB _ (h.clsk c (hr c q)).1 ((h.top hc (hr c q)).2 q).1, (h.clsk c (hr c q)).2⟩
  · have hp := h.clss
    rw [hc] at hp
    exact (List.pairwise_cons.1 hp).2
  · have e : r = [] := e
    rw [show (w.close u r B C).stk = B from rfl, List.eq_nil_iff_forall_not_mem]
    intro x hx
    obtain ⟨c, hcc, h1, _⟩ := h.near x (inB x hx).1
    have := (inB x hx).2
    rw [hc, e, List.mem_singleton] at hcc
    rw [hcc] at h1
    simp only at h1; omega
  · obtain ⟨c, hcc, h1, h2, h3, h4, h5⟩ := h.near x (inB x hx).1
    have hx2 := (inB x hx).2
    rw [low0]
    refine ⟨c, ?_, h1, h2, h3, h4, fun e he hle => h5 e (hr e he) hle⟩
    rw [hc] at hcc
    rcases List.mem_cons.1 hcc with q | q
    · rw [q] at h1; simp only at h1; omega
    · exact q
  · obtain ⟨a, y, hy, b, c⟩ := h.lowk x (inB x hx).1
    have hx2 := (inB x hx).2
    rw [low0]
    exact ⟨a, y, stkB y hy (by omega), b, c⟩
  · obtain ⟨a, b⟩ := h.fin x (inB x hx).1 (fun c q => by
      rw [hc] at q
      rcases List.mem_cons.1 q with q | q
      · rw [q]; intro k; have := (inB x hx).2; simp only at k; rw [k] at this; exact Nat.lt_irrefl _ this
      · exact hcx c q) y hy
    rw [low0]
    exact ⟨a, fun q => b (inB y q).1⟩
  · obtain ⟨a, b⟩ := h.prog c (hr c q) i hi y hy
    rw [low0]
    exact ⟨a, fun k => b (inB y k).1⟩
  · by_cases k : x ∈ w.stk
    · have hxC : x ∈ C := by
        apply Classical.byContradiction
        intro q
        exact hns (stkB x k (Nat.lt_of_not_le fun z => q (stkC x k z)))
      obtain ⟨a, b⟩ := edge x hxC y hy
      refine ⟨a, fun q => ?_⟩
      have := (inC y (b (inB y q).1)).2
      have := (inB y q).2
      omega
    · obtain ⟨a, b⟩ := h.done x hxn hx k y hy
      exact ⟨a, fun q => b (inB y q).1⟩
  · rw [show (w.close u r B C).outs = w.outs ++ [C] from rfl, List.flatten_append, List.mem_append, h.outm x]
    simp only [List.flatten_cons, List.flatten_nil, List.append_nil]
    constructor
    · rintro (⟨a, b, c⟩ | q)
      · exact ⟨a, b, fun k => c (inB x k).1⟩
      · obtain ⟨a, b⟩ := inC x q
        exact ⟨(h.stkn x a).1, (h.stkn x a).2, fun k => by have := (inB x k).2; omega⟩
    · rintro ⟨a, b, c⟩
      by_cases k : x ∈ w.stk
      · right
        apply Classical.byContradiction
        intro q
        exact c (stkB x k (Nat.lt_of_not_le fun z => q (stkC x k z)))
      · exact .inl ⟨a, b, k⟩
  · rcases List.mem_append.1 hD with q | q
    · exact h.outs D q
    · rw [List.mem_singleton] at q; rw [q]; exact scc
  · rw [show (w.close u r B C).outs = w.outs ++ [C] from rfl, List.flatten_append, List.nodup_append]
    simp only [List.flatten_cons, List.flatten_nil, List.append_nil]
    refine ⟨h.outn, ?_, fun a ha b hb e => ?_⟩
    · rw [hC.nodup_iff, List.nodup_append]
      refine ⟨?_, by simp, fun a ha b hb e => ?_⟩
      · rw [List.Nodup]
        refine sA.imp fun {a b} hab e => ?_
        rw [e] at hab; exact Nat.lt_irrefl _ hab
      · rw [List.mem_singleton] at hb
        have := sAB a ha u (by simp)
        rw [e, hb] at this; exact Nat.lt_irrefl _ this
    · rw [e] at ha
      exact ((h.outm b).1 ha).2.2 (inC b hb).1
def TJ.start : TJ := ⟨0, fun _ => 0, fun _ => 0, [], [], []⟩
theorem TInv.start (ha : ∀ u, u < n → ∀ v ∈ adj u, v < n) : TInv n adj .start :=
  ⟨ha, fun _ => Nat.le_refl _, by simp [TJ.start], .nil, by simp [TJ.start], .nil, fun _ => rfl, by simp [TJ.start], by simp [TJ.start], by simp [TJ.start], by simp [TJ.start], by simp [TJ.start], by simp [TJ.start], by simp [TJ.start], .nil⟩
/-- At the end: each node in one component. -/
theorem TInv.all {w : TJ} (h : TInv n adj w) (hc : w.cls = []) (hall : ∀ v, v < n → 0 < w.seen v) : (∀ x, x ∈ w.outs.flatten ↔ x < n) ∧ (∀ C ∈ w.outs, IsScc adj C) ∧ w.outs.flatten.Nodup := by
  refine ⟨fun x => ?_, h.outs, h.outn⟩
  rw [h.outm, h.root hc]
  exact ⟨fun q => q.1, fun q => ⟨q, hall x q, by simp⟩⟩
end
end Go.H
/- Rows in order: merging, sorting by merges, putting into an ordered row, leaving out what is alike. Conditions: aS each lemma states. -/
set_option linter.unusedVariables false
set_option linter.unusedSimpArgs false
namespace Go.H
open Go Go.Ab
section
variable {α : Type} (cmp : α → α → Int)
/-- Two rows merged. -/
def mrg : List α → List α → List α
  | [], b => b
  | x :: a, [] => x :: a
  | x :: a, y :: b => if cmp y x < 0 then y :: mrg (x :: a) b else x :: mrg a (y :: b)
termination_by a b => a.length + b.length
theorem mrg_perm : ∀ (a b : List α), (mrg cmp a b).Perm (a ++ b)
  | [], b => by simp [mrg]
  | x :: a, [] => by simp [mrg]
  | x :: a, y :: b => by
    rw [mrg]
    split
    · exact ((mrg_perm (x :: a) b).cons y).trans (List.perm_middle (l₁ := x :: a)).symm
    · exact (mrg_perm a (y :: b)).cons x
termination_by a b => a.length + b.length
def LeC (a b : α) : Prop := cmp a b ≤ 0
structure CmpOk : Prop where
  trans : ∀ a b c, cmp a b ≤ 0 → cmp b c ≤ 0 → cmp a c ≤ 0
  anti : ∀ a b, cmp b a = - cmp a b
variable {cmp}
theorem mrg_sorted (ok : CmpOk cmp) : ∀ (a b : List α), a.Pairwise (LeC cmp) → b.Pairwise (LeC cmp) → (mrg cmp a b).Pairwise (LeC cmp)
  | [], b, _, hb => by simpa [mrg] using hb
  | x :: a, [], ha, _ => by simpa [mrg] using ha
  | x :: a, y :: b, ha, hb => by
    rw [mrg]
    have ha' := List.pairwise_cons.1 ha
    have hb' := List.pairwise_cons.1 hb
    split
    · rename_i h
      refine List.pairwise_cons.2 ⟨fun z hz => ?_, mrg_sorted ok (x :: a) b ha hb'.2⟩
      have hz' := (mrg_perm cmp (x :: a) b).mem_iff.1 hz
      rcases List.mem_append.1 hz' with hz' | hz'
      · have hyx : LeC cmp y x := Int.le_of_lt h
        rcases List.mem_cons.1 hz' with rfl | hz'
        · exact hyx
        · exact ok.trans _ _ _ hyx (ha'.1 z hz')
      · exact hb'.1 z hz'
    · rename_i h
      have hxy : LeC cmp x y := by have := ok.anti x y; show cmp x y ≤ 0; omega
      refine List.pairwise_cons.2 ⟨fun z hz => ?_, mrg_sorted ok a (y :: b) ha'.2 hb⟩
      have hz' := (mrg_perm cmp a (y :: b)).mem_iff.1 hz
      rcases List.mem_append.1 hz' with hz' | hz'
      · exact ha'.1 z hz'
      · rcases List.mem_cons.1 hz' with rfl | hz'
        · exact hxy
        · exact ok.trans _ _ _ hxy (hb'.1 z hz')
termination_by a b => a.length + b.length
variable (cmp)
/-- Runs, two by two. -/
def pairUp : List (List α) → List (List α)
  | a :: b :: r => mrg cmp a b :: pairUp r
  | l => l
theorem pairUp_len : ∀ l : List (List α), (pairUp cmp l).length = (l.length + 1) / 2
  | [] => by simp [pairUp]
  | [a] => by simp [pairUp]
  | a :: b :: r => by rw [pairUp, List.length_cons, pairUp_len r, List.length_cons, List.length_cons]; omega
theorem pairUp_perm : ∀ l : List (List α), (pairUp cmp l).flatten.Perm l.flatten
  | [] => .refl _
  | [a] => .refl _
  | a :: b :: r => by
    rw [pairUp, List.flatten_cons, List.flatten_cons, List.flatten_cons, ← List.append_assoc]
    exact (mrg_perm cmp a b).append (pairUp_perm r)
/-- Runs merged till one is left. -/
def srtR (l : List (List α)) : List (List α) := if h : 1 < l.length then srtR (pairUp cmp l) else l
termination_by l.length
decreasing_by rw [pairUp_len]; omega
theorem srtR_go {l : List (List α)} (h : 1 < l.length) : srtR cmp l = srtR cmp (pairUp cmp l) := by rw [srtR, dif_pos h]
theorem srtR_end {l : List (List α)} (h : ¬ 1 < l.length) : srtR cmp l = l := by rw [srtR, dif_neg h]
theorem srtR_perm (l : List (List α)) : (srtR cmp l).flatten.Perm l.flatten := by
  by_cases h : 1 < l.length
  · rw [srtR_go cmp h]
    have : (pairUp cmp l).length < l.length := by rw [pairUp_len]; omega
    exact (srtR_perm (pairUp cmp l)).trans (pairUp_perm cmp l)
  · rw [srtR_end cmp h]
termination_by l.length
theorem srtR_len (l : List (List α)) : (srtR cmp l).length ≤ 1 := by
  by_cases h : 1 < l.length
  · rw [srtR_go cmp h]
    have : (pairUp cmp l).length < l.length := by rw [pairUp_len]; omega
    exact srtR_len (pairUp cmp l)
  · rw [srtR_end cmp h]; omega
termination_by l.length
def sortL (l : List α) : List α := ((srtR cmp (l.map fun x => [x]))[0]?).getD []
theorem head_flatS (l : List (List α)) (h : l.length ≤ 1) : (l[0]?).getD [] = l.flatten := by
  match l, h with
  | [], _ => rfl
  | [a], _ => simp
theorem flat_sing (l : List α) : (l.map fun x => [x]).flatten = l := by
  induction l with
  | nil => rfl
  | cons a r ih => rw [List.map_cons, List.flatten_cons, ih]; rfl
theorem sortL_perm (l : List α) : (sortL cmp l).Perm l := by
  rw [sortL, head_flatS _ (srtR_len cmp _)]
  have := srtR_perm cmp (l.map fun x => [x])
  rwa [flat_sing] at this
variable {cmp}
theorem pairUp_sorted (ok : CmpOk cmp) : ∀ l : List (List α), (∀ r ∈ l, r.Pairwise (LeC cmp)) → ∀ r ∈ pairUp cmp l, r.Pairwise (LeC cmp)
  | [], _, r, h => by cases h
  | [a], hl, r, h => hl r h
  | a :: b :: q, hl, r, h => by
    rw [pairUp] at h
    rcases List.mem_cons.1 h with rfl | h
    · exact mrg_sorted ok a b (hl a (by simp)) (hl b (by simp))
    · exact pairUp_sorted ok q (fun r hr => hl r (by simp [hr])) r h
theorem srtR_sorted (ok : CmpOk cmp) (l : List (List α)) (hl : ∀ r ∈ l, r.Pairwise (LeC cmp)) : ∀ r ∈ srtR cmp l, r.Pairwise (LeC cmp) := by
  by_cases h : 1 < l.length
  · rw [srtR_go cmp h]
    have : (pairUp cmp l).length < l.length := by rw [pairUp_len]; omega
    exact srtR_sorted ok (pairUp cmp l) (pairUp_sorted ok l hl)
  · rw [srtR_end cmp h]; exact hl
termination_by l.length
theorem sortL_sorted (ok : CmpOk cmp) (l : List α) : (sortL cmp l).Pairwise (LeC cmp) := by
  have h := srtR_sorted ok (l.map fun x => [x]) (fun r hr => by obtain ⟨x, _, rfl⟩ := List.mem_map.1 hr; exact List.pairwise_singleton _ _)
  have hl := srtR_len cmp (l.map fun x => [x])
  rw [sortL]
  match hs : srtR cmp (l.map fun x => [x]), hl with
  | [], _ => exact .nil
  | [a], _ => exact h a (by rw [hs]; simp)
/-! Strictly ordered rows. -/
def LtC (cmp : α → α → Int) (a b : α) : Prop := cmp a b < 0
theorem lt_of_le (hz : ∀ a b, cmp a b = 0 → a = b) : ∀ {l : List α}, l.Pairwise (LeC cmp) → l.Nodup → l.Pairwise (LtC cmp) := by
  intro l h hn
  induction l with
  | nil => exact .nil
  | cons a r ih =>
    rw [List.nodup_cons] at hn
    rw [List.pairwise_cons] at h ⊢
    refine ⟨fun b hb => ?_, ih h.2 hn.2⟩
    have h1 := h.1 b hb
    have h2 : cmp a b ≠ 0 := fun e => hn.1 (by rw [hz a b e]; exact hb)
    show cmp a b < 0
    have : cmp a b ≤ 0 := h1
    omega
theorem ltC_ext (ok : CmpOk cmp) : ∀ (l m : List α), l.Pairwise (LtC cmp) → m.Pairwise (LtC cmp) → (∀ z, z ∈ l ↔ z ∈ m) → l = m
  | [], [], _, _, _ => rfl
  | [], b :: m, _, _, h => by have := (h b).2 (by simp); cases this
  | a :: l, [], _, _, h => by have := (h a).1 (by simp); cases this
  | a :: l, b :: m, hl, hm, h => by
    have hl' := List.pairwise_cons.1 hl
    have hm' := List.pairwise_cons.1 hm
    have irr : ∀ z, ¬ LtC cmp z z := fun z hz => by have := ok.anti z z; have : cmp z z < 0 := hz; omega
    have e : a = b := by
      rcases List.mem_cons.1 ((h a).1 (by simp)) with e | h1
      · exact e
      · rcases List.mem_cons.1 ((h b).2 (by simp)) with e | h2
        · exact e.symm
        · have h3 : cmp b a < 0 := hm'.1 a h1
          have h4 : cmp a b < 0 := hl'.1 b h2
          have := ok.anti a b; omega
    subst e
    congr 1
    refine ltC_ext ok l m hl'.2 hm'.2 fun z => ?_
    have hz := h z
    simp only [List.mem_cons] at hz
    constructor
    · intro q
      rcases hz.1 (.inr q) with rfl | q'
      · exact absurd (hl'.1 _ q) (irr _)
      · exact q'
    · intro q
      rcases hz.2 (.inr q) with rfl | q'
      · exact absurd (hm'.1 _ q) (irr _)
      · exact q'
end
section
variable {α : Type} [DecidableEq α] (cmp : α → α → Int)
/-- One more, put in its place; what is there already is not put. -/
def putC : List α → α → List α
  | [], c => [c]
  | x :: r, c => if cmp x c < 0 then x :: putC r c else if x = c then x :: r else c :: x :: r
variable {cmp}
theorem putC_mem {c z : α} : ∀ {l : List α}, z ∈ putC cmp l c ↔ z = c ∨ z ∈ l
  | [] => by simp [putC]
  | x :: r => by
    rw [putC]
    split
    · rw [List.mem_cons, putC_mem, List.mem_cons]; constructor <;> (rintro (h | h | h) <;> simp [h])
    · split
      · rename_i e; subst e; simp
      · simp
theorem putC_sorted (ok : CmpOk cmp) (hz : ∀ a b, cmp a b = 0 → a = b) {c : α} : ∀ {l : List α}, l.Pairwise (LtC cmp) → (putC cmp l c).Pairwise (LtC cmp)
  | [], _ => List.pairwise_singleton _ _
  | x :: r, h => by
    have h' := List.pairwise_cons.1 h
    rw [putC]
    split
    · rename_i hx
      refine List.pairwise_cons.2 ⟨fun z q => ?_, putC_sorted ok hz h'.2⟩
      rcases putC_mem.1 q with rfl | q
      · exact hx
      · exact h'.1 z q
    · split
      · exact h
      · rename_i hx he
        have hne : cmp x c ≠ 0 := fun e => he (hz x c e)
        have hcx : cmp c x < 0 := by have := ok.anti x c; omega
        refine List.pairwise_cons.2 ⟨fun z q => ?_, h⟩
        rcases List.mem_cons.1 q with rfl | q
        · exact hcx
        · have h1 : cmp x z < 0 := h'.1 z q
          show cmp c z < 0
          have h2 : cmp c z ≤ 0 := ok.trans _ _ _ (Int.le_of_lt hcx) (Int.le_of_lt h1)
          by_cases e : cmp c z = 0
          · have := hz _ _ e; subst this
            have := ok.anti x c; omega
          · omega
end
section
variable {α : Type}
/-- Of neighbours that are alike the first one: each held against the one ahead. -/
def compG (q : α → α → Bool) : α → List α → List α
  | _, [] => []
  | p, y :: r => if q y p = true then compG q y r else y :: compG q y r
def compF (q : α → α → Bool) : List α → List α
  | [] => []
  | x :: r => x :: compG q x r
end
end Go.H
/- Rows of numbers compared. Conditions: aS each lemma states. -/
set_option linter.unusedVariables false
set_option linter.unusedSimpArgs false
namespace Go.H
open Go Go.Ab
def cmpL : List Int → List Int → Int
  | [], [] => 0
  | [], _ :: _ => -1
  | _ :: _, [] => 1
  | x :: a, y :: b => if x < y then -1 else if y < x then 1 else cmpL a b
theorem cmpL_anti : ∀ a b : List Int, cmpL b a = - cmpL a b
  | [], [] => rfl
  | [], _ :: _ => rfl
  | _ :: _, [] => rfl
  | x :: a, y :: b => by
    rw [cmpL, cmpL]
    by_cases h : x < y
    · rw [if_neg (show ¬ y < x by omega), if_pos h, if_pos h]; rfl
    · by_cases h' : y < x
      · rw [if_pos h', if_neg h, if_pos h']
      · rw [if_neg h', if_neg h, if_neg h, if_neg h', cmpL_anti a b]
theorem cmpL_self : ∀ a : List Int, cmpL a a = 0
  | [] => rfl
  | x :: a => by rw [cmpL, if_neg (by omega), if_neg (by omega), cmpL_self a]
theorem cmpL_zero : ∀ a b : List Int, cmpL a b = 0 → a = b
  | [], [], _ => rfl
  | [], _ :: _, h => by simp [cmpL] at h
  | _ :: _, [], h => by simp [cmpL] at h
  | x :: a, y :: b, h => by
    rw [cmpL] at h
    split at h
    · omega
    · split at h
      · omega
      · rw [cmpL_zero a b h, show x = y by omega]
theorem cmpL_trans : ∀ a b c : List Int, cmpL a b ≤ 0 → cmpL b c ≤ 0 → cmpL a c ≤ 0
  | [], [], c, _, h => h
  | [], _ :: _, [], _, _ => by simp [cmpL]
  | [], _ :: _, _ :: _, _, _ => by simp [cmpL]
  | _ :: _, [], c, h, _ => by simp [cmpL] at h
  | _ :: _, _ :: _, [], _, h => by simp [cmpL] at h
  | x :: a, y :: b, z :: c, h1, h2 => by
    rw [cmpL] at h1 h2 ⊢
    split at h1
    · split at h2
      · rw [if_pos (by omega)]; omega
      · split at h2
        · omega
        · rw [if_pos (by omega)]; omega
    · split at h1
      · omega
      · split at h2
        · rw [if_pos (by omega)]; omega
        · split at h2
          · omega
          · rw [if_neg (by omega), if_neg (by omega)]; exact cmpL_trans a b c h1 h2
end Go.H
/- What package lex, and the decoding of runes, answer. Conditions: none (definitions). -/
set_option linter.unusedVariables false
namespace Go.H
open Go Go.Ab
def bt (s : ByteArray) (i : Nat) : Int := if h : i < s.size then ((s[i]'h).toNat : Int) else 0
def firstV (i : Nat) : Int :=
  if i < 128 then 240 else if i < 194 then 241 else if i < 224 then 2 else if i = 224 then 19 else if i < 237 then 3 else if i = 237 then 35 else
  if i < 240 then 3 else if i = 240 then 52 else if i < 244 then 4 else if i = 244 then 68 else 241
def accLo : Nat → Int
  | 1 => 160
  | 3 => 144
  | _ => 128
def accHi : Nat → Int
  | 2 => 159
  | 4 => 143
  | _ => 191
def bI (op : BinOp) (k : IntKind) (x y : Int) : Int := (bitsI op k x y).getD 0
def sI (op : BinOp) (k : IntKind) (x y : Int) : Int := (shiftI op k x y).getD 0
/-- Some bits of a byte, aS a rune, moved. -/
def rbits (b m sh : Int) : Int := if sh = 0 then IntKind.i32.wrap (bI .and .u8 b m) else sI .shl .i32 (IntKind.i32.wrap (bI .and .u8 b m)) sh
def decMask (x : Int) : Int := sI .shr .i32 (sI .shl .i32 (IntKind.i32.wrap x) 31) 31
def decSlow (s : ByteArray) : Int × Int :=
  if s.size < 1 then (65533, 0) else
  let x := firstV (bt s 0).toNat
  if x ≥ 240 then (bI .or .i32 (bI .andNot .i32 (IntKind.i32.wrap (bt s 0)) (decMask x)) (bI .and .i32 65533 (decMask x)), 1) else
  let sz := x % 8
  let acc := (x / 16).toNat
  if (s.size : Int) < sz then (65533, 1) else
  if bt s 1 < accLo acc ∨ accHi acc < bt s 1 then (65533, 1) else
  if sz ≤ 2 then (bI .or .i32 (rbits (bt s 0) 31 6) (rbits (bt s 1) 63 0), 2) else
  if bt s 2 < 128 ∨ 191 < bt s 2 then (65533, 1) else
  if sz ≤ 3 then (bI .or .i32 (bI .or .i32 (rbits (bt s 0) 15 12) (rbits (bt s 1) 63 6)) (rbits (bt s 2) 63 0), 3) else
  if bt s 3 < 128 ∨ 191 < bt s 3 then (65533, 1) else
  (bI .or .i32 (bI .or .i32 (bI .or .i32 (rbits (bt s 0) 7 18) (rbits (bt s 1) 63 12)) (rbits (bt s 2) 63 6)) (rbits (bt s 3) 63 0), 4)
def decStr (s : ByteArray) : Int × Int := if 0 < s.size ∧ bt s 0 < 128 then (bt s 0, 1) else decSlow s
section
variable {P : Program} {dst : Option Tmp} {ty : TypeId} {pos : String} {after : Array Edge} {guard : Option (Nat × Bool)} {x y : Operand} {h : List Res} {f : Operand → Option AV}
end
def limK : Nat → Nat
  | 0 => 300
  | 1 => 60
  | 2 => 300
  | _ => 60
/-- Is the rune one that stands there aS such? -/
def toldF (s : ByteArray) (i : Nat) (c : Int) : Bool := c != 65533 || decide ((decStr (s.extract i s.size)).2 > 1)
theorem width_pos (s : ByteArray) (i : Nat) : 0 < (Utf8.decode s i).2 := by
  simp only [Utf8.decode]
  repeat' split
  all_goals simp
/-- Where the first rune stands that p does not take, from pos on. -/
def whileF (s : ByteArray) (p : Nat → Int → Bool) (pos : Nat) : Nat :=
  if h : pos < s.size then
    if p pos (Utf8.decode s pos).1 then whileF s p (pos + (Utf8.decode s pos).2) else pos
  else s.size
  termination_by s.size - pos
  decreasing_by have := width_pos s pos; omega
end Go.H
/- What package history answers, aS plain functions: what is spoken of, whether a history may be, numbered anew, completed, a transaction's events. Conditions: none (definitions, and lemmas over lists). -/
set_option linter.unusedVariables false
namespace Go.H
open Go Go.Ab
/-! Words. -/
def okRune (s : ByteArray) (goes : Int → Bool) (i : Nat) (c : Int) : Bool := toldF s i c && goes c
def eitherB (c : Int) : Bool := letB c || numB c
def wordB (s : ByteArray) : Bool := (!(s.toList == [])) && decide ((s.size : Int) ≤ 24) && (!numB (bt s 0)) && ((whileF s (okRune s eitherB) 0 : Int) == s.size)
/-! May a history be, but for how its names are numbered? -/
def freshB : List ByteArray → List ByteArray → Bool
  | _, [] => true
  | met, s :: r => wordB s && (!memB s met) && freshB (met ++ [s]) r
def namesB (most : Nat) (l : List ByteArray) : Bool := decide ((l.length : Int) ≤ most) && freshB [] l
def sizesB (h : Hist) : Bool := decide ((h.evs.length : Int) ≤ 3000) && decide (max (max (h.ords.length : Int) h.mats.length) h.wants.length ≤ 3000)
def okK (h : Hist) : Nat → Bool
  | 0 => sizesB h
  | k + 1 => okK h k && namesB (limK k) (nmK h k)
def shapedB (h : Hist) : Bool :=
  okK h 4 && h.evs.all (eventB h) && h.ords.all (ordB h) && h.mats.all (matB h) && h.wants.all (wanB h)
/-! What is spoken of. -/
/-- Going over a row, aS long aS it goes on. -/
def goes {σ α : Type} (step : σ → α → Option σ) : Option σ → List α → Option σ
  | st, [] => st
  | st, x :: r => goes step (st.bind fun s => step s x) r
section
variable {σ α : Type} {step : σ → α → Option σ} {ok : α → Prop} {st F : Option σ} {l m : List α} {x : α}
end
def hist0 : Hist := ⟨[], [], [], [], [], [], [], []⟩
/-! A transaction's events. -/
/-! Completed. -/
/-! Numbered anew. -/
def travL {σ α : Type} (f : σ → α → α × σ) : σ → List α → List α × σ
  | s, [] => ([], s)
  | s, x :: r => ((f s x).1 :: (travL f (f s x).2 r).1, (travL f (f s x).2 r).2)
section
variable {σ : Type} (f : σ → Nat → Int → Int × σ)
def travVer (s : σ) (v : Ver) : Ver × σ := if decide (v.k > 0) then (⟨(f s 0 v.t).1, v.k⟩, (f s 0 v.t).2) else (v, s)
def travSeen (s : σ) (x : Seen) : Seen × σ :=
  let a := f s 2 x.o
  let b := travVer f a.2 x.v
  (⟨a.1, b.1⟩, b.2)
def travKind (s : σ) (e : Ev) : Ev × σ :=
  if e.kind = 1 then let a := f s 1 e.s; ({ e with s := a.1 }, a.2) else
  if e.kind = 2 ∨ e.kind = 3 then let a := f s 2 e.o; let b := travVer f a.2 e.v; ({ e with o := a.1, v := b.1 }, b.2) else
  if e.kind = 4 then let a := f s 3 e.p; ({ e with p := a.1 }, a.2) else (e, s)
def travEv (s : σ) (e : Ev) : Ev × σ :=
  let a := f s 0 e.t
  let b := travKind f a.2 { e with t := a.1 }
  let c := travL (travSeen f) b.2 e.scan
  ({ b.1 with scan := c.1 }, c.2)
def travTs (s : σ) (l : List Int) : List Int × σ := travL (fun s n => f s 0 n) s l
def travOrd (s : σ) (r : Ord) : Ord × σ :=
  let a := f s 2 r.o
  let b := travTs f a.2 r.ts
  (⟨a.1, b.1⟩, b.2)
def travMat (s : σ) (r : Mat) : Mat × σ :=
  let a := f s 3 r.p
  let b := f a.2 2 r.o
  let c := travTs f b.2 r.ts
  (⟨a.1, b.1, r.first, c.1⟩, c.2)
def travWan (s : σ) (r : Wan) : Wan × σ := let a := f s 1 r.s; (⟨a.1, r.bits⟩, a.2)
def travH (s : σ) (h : Hist) : Hist × σ :=
  let a := travL (travEv f) s h.evs
  let b := travL (travOrd f) a.2 h.ords
  let c := travL (travMat f) b.2 h.mats
  let d := travL (travWan f) c.2 h.wants
  ({ h with evs := a.1, ords := b.1, mats := c.1, wants := d.1 }, d.2)
end
/-- Where a number stands in a row, from a place on. -/
def posOf (n : Int) : Nat → List Int → Option Nat
  | _, [] => none
  | i, x :: r => if x = n then some i else posOf n (i + 1) r
/-- What is known aS one numbers anew: the old numbers of each sort, each aS it came first. -/
abbrev Olds := List (List Int)
def numStep (k : Olds) (sort : Nat) (n : Int) : Int × Olds :=
  match posOf n 0 (k.getD sort []) with
  | some i => ((i : Int), k)
  | none => (((k.getD sort []).length : Int), k.set sort (k.getD sort [] ++ [n]))
def olds0 : Olds := [[], [], [], []]
def nameAt (l : List ByteArray) (n : Int) : ByteArray := l.getD n.toNat ⟨#[]⟩
def numberH (h : Hist) : Hist :=
  let r := travH numStep olds0 h
  { r.1 with ts := (r.2.getD 0 []).map (nameAt h.ts), ss := (r.2.getD 1 []).map (nameAt h.ss), os := (r.2.getD 2 []).map (nameAt h.os), ps := (r.2.getD 3 []).map (nameAt h.ps) }
def numR (h : Hist) : Hist := if shapedB h then numberH h else hist0
end Go.H
/- Plain laws on histories: what a shaped one says of what is spoken of; when a history may be. Conditions: aS each lemma states. -/
set_option linter.unusedVariables false
namespace Go.H
open Go Go.Ab
/-! When a history may be. -/
end Go.H
/- What the references of layer 11 answer. Conditions: none (definitions). -/
set_option linter.unusedVariables false
namespace Go.H
open Go Go.Ab
/-- Where a number stands in a row; -1: it is not there. -/
def atI (n : Int) : Nat → List Int → Int
  | _, [] => -1
  | i, x :: r => if x = n then (i : Int) else atI n (i + 1) r
end Go.H
/- The references' tests are the program's own. Conditions: none. -/
set_option linter.unusedVariables false
namespace Go.H
open Go Go.Ab
end Go.H
/- Runes: how many bytes one has. Conditions: aS each lemma states. -/
set_option linter.unusedVariables false
set_option maxRecDepth 20000
namespace Go.H
open Go Go.Ab
end Go.H
/- A rune further on. Conditions: none. -/
set_option linter.unusedVariables false
set_option maxRecDepth 20000
namespace Go.H
open Go Go.Ab
end Go.H
/- The rune 65533: wrong bytes, or the three that are its own. Conditions: aS each lemma states. -/
set_option linter.unusedVariables false
set_option maxRecDepth 20000
namespace Go.H
open Go Go.Ab
end Go.H
/- Words, by the reference: the same. Conditions: aS each lemma states. -/
set_option linter.unusedVariables false
set_option maxRecDepth 20000
namespace Go.H
open Go Go.Ab
end Go.H
/- Steps of the reference's word; names that are words, each once. Conditions: aS each lemma states. -/
set_option linter.unusedVariables false
namespace Go.H
open Go Go.Ab
end Go.H
/- The reference's rows of what is spoken of; a shaped history, by parts. Conditions: aS each lemma states. -/
set_option linter.unusedVariables false
namespace Go.H
open Go Go.Ab
/-! What is spoken of, aS the reference gathers it: rows by sorts. -/
abbrev Rw := Nat → List Int
def addF (l : List Int) (n : Int) : List Int := if atI n 0 l ≥ 0 then l else l ++ [n]
def addV (l : List Int) (v : Ver) : List Int := if v.k = 0 then l else addF l v.t
def stepF (L : Rw) (x : Nat × Int) : Rw := fun i => match Nat.beq i x.1 with
  | true => addF (L i) x.2
  | false => L i
def stepV (L : Rw) (v : Ver) : Rw := fun i => match Nat.beq i 0 with
  | true => addV (L i) v
  | false => L i
def stepS (L : Rw) (s : Seen) : Rw := stepV (stepF L (2, s.o)) s.v
def stepK (L : Rw) (e : Ev) : Rw :=
  if e.kind = 1 then stepF L (1, e.s) else if e.kind = 2 ∨ e.kind = 3 then stepV (stepF L (2, e.o)) e.v else if e.kind = 4 then stepF L (3, e.p) else L
def stepE (L : Rw) (e : Ev) : Rw := e.scan.foldl stepS (stepK (stepF L (0, e.t)) e)
def addT (L : Rw) (t : Int) : Rw := stepF L (0, t)
def stepM (L : Rw) (r : Mat) : Rw := r.ts.foldl addT (stepF (stepF L (3, r.p)) (2, r.o))
end Go.H
/- The reference's Right is the program's test. Conditions: aS each lemma states. -/
set_option linter.unusedVariables false
namespace Go.H
open Go Go.Ab
def upR (n : Nat) : List Int := (List.range n).map fun i : Nat => (i : Int)
theorem atI_iff (n : Int) : ∀ (l : List Int) (i : Nat), atI n i l ≥ 0 ↔ n ∈ l
  | [], i => by simp [atI]
  | x :: r, i => by
    unfold atI
    split
    · rename_i h; simp [h]
    · rename_i h
      rw [atI_iff n r (i + 1), List.mem_cons]
      constructor
      · intro k; exact .inr k
      · rintro (k | k)
        · exact absurd k.symm h
        · exact k
theorem addF_mem (l : List Int) (n : Int) : addF l n = if n ∈ l then l else l ++ [n] := by
  unfold addF
  by_cases h : n ∈ l
  · rw [if_pos ((atI_iff n l 0).2 h), if_pos h]
  · rw [if_neg (fun q => h ((atI_iff n l 0).1 q)), if_neg h]
theorem stepF_at (L : Rw) (x : Nat × Int) : stepF L x x.1 = addF (L x.1) x.2 := by
  unfold stepF; rw [Nat.beq_refl]
theorem stepF_ne (L : Rw) (x : Nat × Int) {i : Nat} (h : i ≠ x.1) : stepF L x i = L i := by
  unfold stepF
  rw [show Nat.beq i x.1 = false from by
    cases q : Nat.beq i x.1 with
    | false => rfl
    | true => exact absurd (Nat.eq_of_beq_eq_true q) h]
/-- Rows only grow. -/
theorem grow (xs : List (Nat × Int)) : ∀ (L : Rw) (s : Nat), ∃ m, xs.foldl stepF L s = L s ++ m := by
  induction xs with
  | nil => intro L s; exact ⟨[], by simp⟩
  | cons x xs ih =>
    intro L s
    obtain ⟨m, hm⟩ := ih (stepF L x) s
    rw [List.foldl_cons, hm]
    by_cases h : s = x.1
    · subst h
      rw [stepF_at, addF_mem]
      split
      · exact ⟨m, rfl⟩
      · exact ⟨x.2 :: m, by simp⟩
    · rw [stepF_ne _ _ h]; exact ⟨m, rfl⟩
def InvM (L : Rw) (m : List Int) : Prop := m.length = 4 ∧ ∀ s, s < 4 → 0 ≤ m.getD s 0 ∧ L s = upR (m.getD s 0).toNat
/-! The reference's steps are steps over what is spoken of. -/
end Go.H
/- Histories in memory of their own: how they stand. Conditions: none (definitions, and lemmas over lists). -/
set_option linter.unusedVariables false
namespace Go.H
open Go Go.Ab
structure NV where
  vT : SV
  vS : SV
  vO : SV
  vP : SV
structure OH where
  vE : SV
  vR : SV
  vM : SV
  vW : SV
  ts : List ByteArray
  ss : List ByteArray
  os : List ByteArray
  ps : List ByteArray
  evs : List (SV × Ev)
  ords : List (SV × Ord)
  mats : List (SV × Mat)
  wants : List Wan
section
variable {α β : Type} {f : α → List AV} {g : β → List AV} {xs : List α} {l : List β} {k : Nat} {b : β} {a : α} {r : List AV}
end
end Go.H
/- Going through a history and writing: plain laws of travH. Conditions: none (lemmas over lists). -/
set_option linter.unusedVariables false
namespace Go.H
open Go Go.Ab
section
variable {σ α : Type} (f : σ → Nat → Int → Int × σ)
end
section
variable {α : Type} {f : α → List AV} {A B : List α} {k : Nat} {b a : α} {r : List AV}
end
end Go.H
/- Completed: plain laws of what is open. Conditions: aS each lemma states. -/
set_option linter.unusedVariables false
namespace Go.H
open Go Go.Ab
end Go.H
/- Numbered anew: what is known on the way, and how it stands in memory. Conditions: aS each lemma states. -/
set_option linter.unusedVariables false
namespace Go.H
open Go Go.Ab
/-- All is in order with what is known. -/
structure KOk (h : Hist) (k : Olds) : Prop where
  four : k.length = 4
  nd : ∀ s, (k.getD s []).Nodup
  lt : ∀ s, ∀ n ∈ k.getD s [], 0 ≤ n ∧ n < (nmK h s).length
/-! How it stands in memory. -/
end Go.H
/- The events of all transactions are the events. Conditions: aS each lemma states. -/
set_option linter.unusedVariables false
namespace Go.H
open Go Go.Ab
end Go.H
/- The reference's Has, and who is open. Conditions: none. -/
set_option linter.unusedVariables false
namespace Go.H
open Go Go.Ab
end Go.H
namespace Go.H
open Go Go.Ab
end Go.H
/- What is wrong with histories: the program's rules and the reference's, aS plain functions, and that they agree on shaped histories. Conditions: aS each lemma states. -/
set_option linter.unusedVariables false
set_option linter.unusedSimpArgs false
namespace Go.H
open Go Go.Ab
end Go.H
/- Writers, orders, matches, wants: the program's rules and the reference's agree. Conditions: aS each lemma states. -/
set_option linter.unusedVariables false
set_option linter.unusedSimpArgs false
namespace Go.H
open Go Go.Ab
def srt (l : List Int) : List Int := l.mergeSort (fun x y => decide (x ≤ y))
theorem srt_perm (l : List Int) : (srt l).Perm l := List.mergeSort_perm _ _
theorem srt_le (l : List Int) : (srt l).Pairwise (· ≤ ·) := by
  have := List.pairwise_mergeSort (le := fun x y : Int => decide (x ≤ y)) (by intro a b c; simp; omega) (by intro a b; simp; omega) l
  exact this.imp (by simp)
theorem lt_nodup {l : List Int} (h : l.Pairwise (· < ·)) : l.Nodup := h.imp (fun h e => by omega)
theorem le_lt {l : List Int} (h : l.Pairwise (· ≤ ·)) (hn : l.Nodup) : l.Pairwise (· < ·) := by
  have := h.and hn
  exact this.imp (fun h => by have := h.1; have := h.2; omega)
/-- Two rising rows of the same are one. -/
theorem lt_ext : ∀ (l m : List Int), l.Pairwise (· < ·) → m.Pairwise (· < ·) → (∀ z, z ∈ l ↔ z ∈ m) → l = m := by
  intro l m hl hm h
  refine List.Perm.eq_of_pairwise (le := (· ≤ ·)) (fun a b _ _ h1 h2 => by omega) (hl.imp (fun h => by omega)) (hm.imp (fun h => by omega)) ?_
  exact (List.perm_ext_iff_of_nodup (lt_nodup hl) (lt_nodup hm)).2 h
end Go.H
/- To which nodes one leads, gone through in breadth; the components in order. Conditions: aS each lemma states. -/
set_option linter.unusedVariables false
set_option linter.unusedSimpArgs false
namespace Go.H
open Go Go.Ab
/-- One leads to another one, by an edge at least. -/
def Rc1 (E : Nat → Nat → Prop) (x z : Nat) : Prop := ∃ y, E x y ∧ Rch E y z
theorem Rc1.tail {E : Nat → Nat → Prop} {x y z : Nat} (h : Rc1 E x y) (e : E y z) : Rc1 E x z := by
  obtain ⟨u, a, b⟩ := h; exact ⟨u, a, .tail b e⟩
theorem Rc1.rch {E : Nat → Nat → Prop} {x y : Nat} (h : Rc1 E x y) : Rch E x y := by
  obtain ⟨u, a, b⟩ := h; exact (Rch.one a).trans b
theorem Rch.cases1 {E : Nat → Nat → Prop} {x y : Nat} (h : Rch E x y) : x = y ∨ Rc1 E x y := by
  induction h with
  | refl => exact .inl rfl
  | tail _ e ih =>
    rcases ih with rfl | ih
    · exact .inr ⟨_, e, .refl _⟩
    · exact .inr (ih.tail e)
section
variable (n : Nat) (adj : Nat → List Nat) (s : Nat)
structure BInv (out : Nat → Bool) (l : List Nat) : Prop where
  sound : ∀ x, out x = true → x < n ∧ Rc1 (Edg adj) s x
  todo : ∀ x ∈ l, x = s ∨ out x = true
  done : ∀ x, (x = s ∨ out x = true) → x ∈ l ∨ ∀ y ∈ adj x, out y = true
structure BMid (out : Nat → Bool) (l : List Nat) (v i : Nat) : Prop where
  sound : ∀ x, out x = true → x < n ∧ Rc1 (Edg adj) s x
  todo : ∀ x ∈ l, x = s ∨ out x = true
  this : v = s ∨ out v = true
  done : ∀ x, (x = s ∨ out x = true) → x ∈ l ∨ (x = v ∧ ∀ j, j < i → ∀ y, (adj v)[j]? = some y → out y = true) ∨ ∀ y ∈ adj x, out y = true
variable {n adj s}
def updB (f : Nat → Bool) (a : Nat) : Nat → Bool := fun x => if x = a then true else f x
end
/-! The components in order. -/
open Classical in
noncomputable def ldB (adj : Nat → List Nat) (v w : Nat) : Bool := decide (Rc1 (Edg adj) v w)
theorem ldB_iff {adj : Nat → List Nat} {v w : Nat} : ldB adj v w = true ↔ Rc1 (Edg adj) v w := by
  unfold ldB; simp
noncomputable def togB (adj : Nat → List Nat) (v w : Nat) : Bool := w == v || (ldB adj v w && ldB adj w v)
theorem togB_iff {adj : Nat → List Nat} {v w : Nat} : togB adj v w = true ↔ Rch (Edg adj) v w ∧ Rch (Edg adj) w v := by
  rw [togB, Bool.or_eq_true, Bool.and_eq_true, ldB_iff, ldB_iff, beq_iff_eq]
  constructor
  · rintro (rfl | ⟨a, b⟩)
    · exact ⟨.refl _, .refl _⟩
    · exact ⟨a.rch, b.rch⟩
  · rintro ⟨a, b⟩
    rcases a.cases1 with q | q
    · exact .inl q.symm
    · rcases b.cases1 with q2 | q2
      · exact .inl q2
      · exact .inr ⟨q, q2⟩
noncomputable def setN (n : Nat) (adj : Nat → List Nat) (v : Nat) : List Nat := (List.range n).filter (togB adj v)
noncomputable def leastV (n : Nat) (adj : Nat → List Nat) (v : Nat) : Bool := (setN n adj v).all fun w => decide (v ≤ w)
noncomputable def setsK (n : Nat) (adj : Nat → List Nat) (k : Nat) : List (List Nat) := ((List.range k).filter (leastV n adj)).map (setN n adj)
noncomputable def setsN (n : Nat) (adj : Nat → List Nat) : List (List Nat) := setsK n adj n
def rowI (l : List Nat) : List Int := l.map fun x : Nat => (x : Int)
theorem set_mem {n : Nat} {adj : Nat → List Nat} {v w : Nat} : w ∈ setN n adj v ↔ w < n ∧ Rch (Edg adj) v w ∧ Rch (Edg adj) w v := by
  rw [setN, List.mem_filter, List.mem_range, togB_iff]
theorem set_lt (n : Nat) (adj : Nat → List Nat) (v : Nat) : (setN n adj v).Pairwise (· < ·) := List.pairwise_lt_range.filter _
theorem least_iff {n : Nat} {adj : Nat → List Nat} {v : Nat} : leastV n adj v = true ↔ ∀ w ∈ setN n adj v, v ≤ w := by
  rw [leastV, List.all_eq_true]; simp
/-- The least one stands first. -/
theorem set_head {n : Nat} {adj : Nat → List Nat} {v : Nat} (hv : v < n) (hl : leastV n adj v = true) : ∃ r, setN n adj v = v :: r := by
  have hm : v ∈ setN n adj v := set_mem.2 ⟨hv, .refl _, .refl _⟩
  have hlt := set_lt n adj v
  have hle := least_iff.1 hl
  cases hq : setN n adj v with
  | nil => rw [hq] at hm; cases hm
  | cons a r =>
    rw [hq] at hm hlt hle
    rcases List.mem_cons.1 hm with e | e
    · exact ⟨r, by rw [e]⟩
    · have := (List.pairwise_cons.1 hlt).1 v e
      have := hle a (by simp)
      omega
theorem set_eq {n : Nat} {adj : Nat → List Nat} {v w : Nat} (h : w ∈ setN n adj v) : setN n adj w = setN n adj v := by
  obtain ⟨_, a, b⟩ := set_mem.1 h
  unfold setN
  refine List.filter_congr fun x _ => ?_
  rw [Bool.eq_iff_iff, togB_iff, togB_iff]
  exact ⟨fun q => ⟨a.trans q.1, q.2.trans b⟩, fun q => ⟨b.trans q.1, q.2.trans a⟩⟩
theorem set_least {n : Nat} {adj : Nat → List Nat} {v : Nat} (hv : v < n) : ∃ w, w < n ∧ leastV n adj w = true ∧ setN n adj w = setN n adj v := by
  have hm : v ∈ setN n adj v := set_mem.2 ⟨hv, .refl _, .refl _⟩
  have hlt := set_lt n adj v
  cases hq : setN n adj v with
  | nil => rw [hq] at hm; cases hm
  | cons a r =>
    have ha : a ∈ setN n adj v := by rw [hq]; simp
    have e := set_eq ha
    refine ⟨a, (set_mem.1 ha).1, ?_, by rw [e, hq]⟩
    rw [least_iff, e, hq]
    intro w hw
    rw [hq] at hlt
    rcases List.mem_cons.1 hw with rfl | hw
    · exact Nat.le_refl _
    · exact Nat.le_of_lt ((List.pairwise_cons.1 hlt).1 w hw)
theorem sets_srt (n : Nat) (adj : Nat → List Nat) : ((setsN n adj).map rowI).Pairwise (LtC cmpL) := by
  unfold setsN setsK
  rw [List.map_map, List.pairwise_map]
  have h1 : ((List.range n).filter (leastV n adj)).Pairwise (· < ·) := List.pairwise_lt_range.filter _
  refine h1.imp_of_mem fun {a b} ha hb hab => ?_
  obtain ⟨a1, a2⟩ := List.mem_filter.1 ha
  obtain ⟨b1, b2⟩ := List.mem_filter.1 hb
  obtain ⟨r, e1⟩ := set_head (List.mem_range.1 a1) a2
  obtain ⟨q, e2⟩ := set_head (List.mem_range.1 b1) b2
  show cmpL _ _ < 0
  simp only [Function.comp, e1, e2, rowI, List.map_cons, cmpL]
  rw [if_pos (by omega)]; omega
theorem cmpL_ok : CmpOk cmpL := ⟨fun a b c h k => cmpL_trans _ _ _ h k, fun a b => cmpL_anti _ _⟩
/-- The components, each in order, all in order. -/
theorem sets_eq {n : Nat} {adj : Nat → List Nat} {L : List (List Nat)} (h1 : ∀ x, x ∈ L.flatten ↔ x < n) (h2 : ∀ C ∈ L, IsScc adj C) (h3 : L.flatten.Nodup) {M : List (List Int)} (hM : M.Perm (L.map fun C => srt (rowI C))) (hs : M.Pairwise (LeC cmpL)) : M = (setsN n adj).map rowI := by
  have key : ∀ C ∈ L, ∃ v, v < n ∧ leastV n adj v = true ∧ srt (rowI C) = rowI (setN n adj v) := fun C hC => by
    obtain ⟨hne, hi⟩ := h2 C hC
    obtain ⟨x, hx⟩ := List.exists_mem_of_ne_nil _ hne
    have hxn : x < n := (h1 x).1 (List.mem_flatten.2 ⟨C, hC, hx⟩)
    obtain ⟨v, hv, hl, e⟩ := set_least (adj := adj) hxn
    refine ⟨v, hv, hl, ?_⟩
    have hnd : C.Nodup := (List.pairwise_flatten.1 h3).1 C hC
    have hnd' : (rowI C).Nodup := by
      unfold rowI; unfold List.Nodup; rw [List.pairwise_map]; exact hnd.imp fun h e => h (by omega)
    refine lt_ext _ _ (le_lt (srt_le _) ((srt_perm _).nodup_iff.2 hnd')) ?_ fun z => ?_
    · unfold rowI; rw [List.pairwise_map]; exact (set_lt n adj v).imp fun h => by omega
    · rw [(srt_perm _).mem_iff, e]
      unfold rowI
      simp only [List.mem_map]
      constructor
      · rintro ⟨y, hy, rfl⟩
        exact ⟨y, set_mem.2 ⟨(h1 y).1 (List.mem_flatten.2 ⟨C, hC, hy⟩), (hi x hx y).1 hy⟩, rfl⟩
      · rintro ⟨y, hy, rfl⟩
        exact ⟨y, (hi x hx y).2 (set_mem.1 hy).2, rfl⟩
  have hmem : ∀ z, z ∈ L.map (fun C => srt (rowI C)) ↔ z ∈ (setsN n adj).map rowI := fun z => by
    simp only [setsN, setsK, List.mem_map, List.map_map, List.mem_filter, List.mem_range]
    constructor
    · rintro ⟨C, hC, rfl⟩
      obtain ⟨v, hv, hl, e⟩ := key C hC
      exact ⟨v, ⟨hv, hl⟩, e.symm⟩
    · rintro ⟨v, ⟨hv, hl⟩, rfl⟩
      obtain ⟨C, hC, hvC⟩ := List.mem_flatten.1 ((h1 v).2 hv)
      obtain ⟨w, hw, hlw, e⟩ := key C hC
      refine ⟨C, hC, ?_⟩
      rw [e]
      show rowI _ = rowI _
      congr 1
      have : v ∈ setN n adj w := by
        have : (v : Int) ∈ srt (rowI C) := by rw [(srt_perm _).mem_iff]; exact List.mem_map.2 ⟨v, hvC, rfl⟩
        rw [e] at this
        obtain ⟨y, hy, e2⟩ := List.mem_map.1 this
        rw [show v = y by omega]; exact hy
      exact (set_eq this).symm
  have hnd : (L.map fun C => srt (rowI C)).Nodup := by
    unfold List.Nodup
    rw [List.pairwise_map]
    refine (List.pairwise_flatten.1 h3).2.imp_of_mem fun {a b} ha hb hd e => ?_
    obtain ⟨x, hx⟩ := List.exists_mem_of_ne_nil _ (h2 a ha).1
    have : (x : Int) ∈ srt (rowI b) := by rw [← e, (srt_perm _).mem_iff]; exact List.mem_map.2 ⟨x, hx, rfl⟩
    rw [(srt_perm _).mem_iff] at this
    obtain ⟨y, hy, e2⟩ := List.mem_map.1 this
    exact hd x hx x (by rw [show x = y by omega]; exact hy) rfl
  exact ltC_ext cmpL_ok _ _ (lt_of_le cmpL_zero hs (hM.nodup_iff.2 hnd)) (sets_srt n adj) fun z => by rw [hM.mem_iff]; exact hmem z
end Go.H
/- Components: of the graph within them, of that of them, of the graph turned round, with an edge more. Conditions: aS each lemma states. -/
set_option linter.unusedVariables false
set_option linter.unusedSimpArgs false
namespace Go.H
open Go Go.Ab
theorem Rch.rev {E F : Nat → Nat → Prop} (h : ∀ u v, E u v → F v u) {u v : Nat} (k : Rch E u v) : Rch F v u := by
  induction k with
  | refl => exact .refl _
  | tail _ e ih => exact (Rch.one (h _ _ e)).trans ih
/-! An edge more. -/
/-! The number of each node's component. -/
noncomputable def ofN (n : Nat) (a : Nat → List Nat) (v : Nat) : Nat := (setsN n a).findIdx fun C => C.contains v
theorem sets_at {n : Nat} {a : Nat → List Nat} {i : Nat} (hi : i < (setsN n a).length) : ∃ v, v < n ∧ leastV n a v = true ∧ (setsN n a)[i] = setN n a v := by
  have hm := List.getElem_mem hi
  simp only [setsN, setsK, List.mem_map, List.mem_filter, List.mem_range] at hm
  obtain ⟨v, ⟨h1, h2⟩, h3⟩ := hm
  exact ⟨v, h1, h2, h3.symm⟩
theorem sets_lt {n : Nat} {a : Nat → List Nat} {i j : Nat} (hj : j < (setsN n a).length) (hij : i < j) : ∃ v w r q, v < w ∧ (setsN n a)[i] = v :: r ∧ (setsN n a)[j] = w :: q := by
  obtain ⟨v, hv, lv, ev⟩ := sets_at (a := a) (show i < (setsN n a).length by omega)
  obtain ⟨w, hw, lw, ew⟩ := sets_at hj
  obtain ⟨r, er⟩ := set_head hv lv
  obtain ⟨q, eq⟩ := set_head hw lw
  refine ⟨v, w, r, q, ?_, by rw [ev, er], by rw [ew, eq]⟩
  have := (List.pairwise_iff_getElem.1 (sets_srt n a)) i j (by simpa using Nat.lt_trans hij hj) (by simpa using hj) hij
  rw [List.getElem_map, List.getElem_map, ev, ew, er, eq] at this
  unfold LtC rowI at this
  simp only [List.map_cons, cmpL] at this
  have hne : v ≠ w := by
    rintro rfl
    rw [← er, ← eq] at *
    have e1 := (List.pairwise_iff_getElem.1 (sets_srt n a)) i j (by simpa using Nat.lt_trans hij hj) (by simpa using hj) hij
    rw [List.getElem_map, List.getElem_map, ev, ew] at e1
    unfold LtC at e1
    rw [cmpL_self] at e1; omega
  split at this
  · omega
  · split at this
    · omega
    · omega
theorem sets_in {n : Nat} {a : Nat → List Nat} {i j : Nat} (hi : i < (setsN n a).length) (hj : j < (setsN n a).length) {v : Nat} (h1 : v ∈ (setsN n a)[i]) (h2 : v ∈ (setsN n a)[j]) : i = j := by
  obtain ⟨x, _, _, ex⟩ := sets_at hi
  obtain ⟨y, _, _, ey⟩ := sets_at hj
  have e : (setsN n a)[i] = (setsN n a)[j] := by
    rw [ex] at h1 ⊢; rw [ey] at h2 ⊢
    rw [← set_eq h1, ← set_eq h2]
  rcases Nat.lt_trichotomy i j with q | q | q
  · obtain ⟨v, w, r, s, hlt, e1, e2⟩ := sets_lt hj q
    rw [e1, e2] at e; injection e with e _; omega
  · exact q
  · obtain ⟨v, w, r, s, hlt, e1, e2⟩ := sets_lt hi q
    rw [e1, e2] at e; injection e with e _; omega
theorem of_lt {n : Nat} {a : Nat → List Nat} {v : Nat} (hv : v < n) : ∃ h : ofN n a v < (setsN n a).length, v ∈ (setsN n a)[ofN n a v] := by
  obtain ⟨w, hw, hl, e⟩ := set_least (adj := a) hv
  have hm : setN n a v ∈ setsN n a := by
    rw [← e]
    simp only [setsN, setsK, List.mem_map, List.mem_filter, List.mem_range]
    exact ⟨w, ⟨hw, hl⟩, rfl⟩
  have : ofN n a v < (setsN n a).length := List.findIdx_lt_length_of_exists ⟨_, hm, by
    rw [List.contains_iff_mem]; exact set_mem.2 ⟨hv, .refl _, .refl _⟩⟩
  refine ⟨this, ?_⟩
  exact List.contains_iff_mem.1 (List.findIdx_getElem (w := this))
/-- How many in all. -/
theorem sets_nodup (n : Nat) (a : Nat → List Nat) : (setsN n a).flatten.Nodup := by
  unfold List.Nodup
  rw [List.pairwise_flatten]
  refine ⟨fun l hl => ?_, ?_⟩
  · obtain ⟨i, hi, rfl⟩ := List.mem_iff_getElem.1 hl
    obtain ⟨x, _, _, ex⟩ := sets_at hi
    rw [ex]; exact (set_lt n a x).imp fun h => Nat.ne_of_lt h
  · rw [List.pairwise_iff_getElem]
    intro i j hi hj hij x hx y hy e
    subst e
    have := sets_in hi hj hx hy
    omega
theorem sets_all (n : Nat) (a : Nat → List Nat) : (setsN n a).flatten.Perm (List.range n) := by
  rw [List.perm_ext_iff_of_nodup (sets_nodup n a) List.nodup_range]
  intro x
  rw [List.mem_range, List.mem_flatten]
  constructor
  · rintro ⟨l, hl, hx⟩
    obtain ⟨i, hi, rfl⟩ := List.mem_iff_getElem.1 hl
    obtain ⟨v, _, _, ex⟩ := sets_at hi
    rw [ex] at hx; exact (set_mem.1 hx).1
  · intro hx
    obtain ⟨h, hm⟩ := of_lt (a := a) hx
    exact ⟨_, List.getElem_mem h, hm⟩
theorem sets_many (n : Nat) (a : Nat → List Nat) : (setsN n a).flatten.length = n := by rw [(sets_all n a).length_eq, List.length_range]
/-- Without edges to itself a node goes round just if it is not alone. -/
theorem round_iff {n : Nat} {a : Nat → List Nat} (hself : ∀ u, u ∉ a u) (hn : ∀ u, ∀ v ∈ a u, v < n) {i : Nat} (hi : i < (setsN n a).length) {v : Nat} (hv : v ∈ (setsN n a)[i]) : Rc1 (Edg a) v v ↔ 1 < (setsN n a)[i].length := by
  obtain ⟨x, _, _, ex⟩ := sets_at hi
  rw [ex] at hv ⊢
  obtain ⟨v0, v1, v2⟩ := set_mem.1 hv
  rw [← set_eq hv]
  have hvv : v ∈ setN n a v := set_mem.2 ⟨v0, .refl _, .refl _⟩
  constructor
  · rintro ⟨y, e, k⟩
    have hy : y ∈ setN n a v := set_mem.2 ⟨hn v y e, .one e, k⟩
    have hne : y ≠ v := fun q => hself v (by rw [q] at e; exact e)
    match hq : setN n a v with
    | [] => rw [hq] at hvv; cases hvv
    | [z] =>
      rw [hq, List.mem_singleton] at hvv hy
      exact absurd (hy.trans hvv.symm) hne
    | _ :: _ :: _ => simp
  · intro hl
    have hlt := set_lt n a v
    match hq : setN n a v with
    | [] => rw [hq] at hl; simp at hl
    | [z] => rw [hq] at hl; simp at hl
    | b :: c :: r =>
      rw [hq] at hlt
      have hbc := (List.pairwise_cons.1 hlt).1 c (by simp)
      have : ∃ w, w ∈ setN n a v ∧ w ≠ v := by
        by_cases e : b = v
        · exact ⟨c, by rw [hq]; simp, by omega⟩
        · exact ⟨b, by rw [hq]; simp, e⟩
      obtain ⟨w, hw, hne⟩ := this
      obtain ⟨_, p, q⟩ := set_mem.1 hw
      rcases p.cases1 with e | ⟨y, e, k⟩
      · exact absurd e.symm hne
      · exact ⟨y, e, k.trans q⟩
end Go.H
/- Edges: in order, one more, gone through; who is led to. Conditions: aS each lemma states. -/
set_option linter.unusedVariables false
set_option linter.unusedSimpArgs false
namespace Go.H
open Go Go.Ab
structure Ed where
  f : Int
  t : Int
  k : Int
  deriving DecidableEq
def edR (e : Ed) : List AV := [iv e.f, iv e.t, iv e.k]
def edsA (l : List Ed) : AV := .list false 3 (l.map edR)
def fldE (e : Ed) : List Int := [e.f, e.t, e.k]
def cmpE (a b : Ed) : Int := cmpL (fldE a) (fldE b)
theorem fldE_inj {a b : Ed} (h : fldE a = fldE b) : a = b := by
  cases a; cases b; simp only [fldE, List.cons.injEq, and_true] at h; simp only [Ed.mk.injEq]; exact h
theorem cmpE_ok : CmpOk cmpE := ⟨fun a b c h k => cmpL_trans _ _ _ h k, fun a b => cmpL_anti _ _⟩
theorem cmpE_zero (a b : Ed) (h : cmpE a b = 0) : a = b := fldE_inj (cmpL_zero _ _ h)
theorem cmpE_self (a : Ed) : cmpE a a = 0 := cmpL_self _
def aheadE (a b : Ed) : Bool := if a.f = b.f then (if a.t = b.t then decide (a.k < b.k) else decide (a.t < b.t)) else decide (a.f < b.f)
theorem aheadE_iff {a b : Ed} : aheadE a b = true ↔ cmpE a b < 0 := by
  rw [aheadE, cmpE, fldE, fldE]
  simp only [cmpL]
  by_cases h : a.f = b.f
  · rw [if_pos h, if_neg (show ¬ a.f < b.f by omega), if_neg (show ¬ b.f < a.f by omega)]
    by_cases h2 : a.t = b.t
    · rw [if_pos h2, if_neg (show ¬ a.t < b.t by omega), if_neg (show ¬ b.t < a.t by omega), decide_eq_true_iff]
      split
      · omega
      · split <;> omega
    · rw [if_neg h2, decide_eq_true_iff]
      split
      · omega
      · split <;> omega
  · rw [if_neg h, decide_eq_true_iff]
    split
    · omega
    · split <;> omega
theorem ltE_trans {a b c : Ed} (h : cmpE a b < 0) (k : cmpE b c ≤ 0) : cmpE a c < 0 := by
  have h1 := cmpL_trans _ _ _ (Int.le_of_lt h) k
  rcases Int.lt_or_eq_of_le (show cmpE a c ≤ 0 from h1) with q | q
  · exact q
  · have e := cmpE_zero a c q
    subst e
    have := cmpE_ok.anti a b
    omega
/-- An edge that may be. -/
def edgeB (n : Int) (e : Ed) : Bool := decide (0 ≤ e.f ∧ e.f < n) && (decide (0 ≤ e.t ∧ e.t < n) && (decide (e.f ≠ e.t) && decide (0 ≤ e.k ∧ e.k ≤ 9)))
structure Gr where
  n : Int
  es : List Ed
  deriving DecidableEq
structure GOk (g : Gr) : Prop where
  n0 : 0 ≤ g.n
  n1 : g.n ≤ 300
  many : g.es.length ≤ 40000
  each : ∀ e ∈ g.es, edgeB g.n e = true
  srt : g.es.Pairwise (LtC cmpE)
theorem edge_iff {n : Int} {e : Ed} : edgeB n e = true ↔ (0 ≤ e.f ∧ e.f < n) ∧ (0 ≤ e.t ∧ e.t < n) ∧ e.f ≠ e.t ∧ 0 ≤ e.k ∧ e.k ≤ 9 := by
  unfold edgeB; simp only [Bool.and_eq_true, decide_eq_true_eq]
/-! The graph of edges: sorted, each once. -/
def ofE (l : List Ed) : List Ed := compF (fun a b => a == b) (sortL cmpE l)
theorem uniq_go : ∀ (l : List Ed) (p : Ed), (p :: l).Pairwise (LeC cmpE) → (∀ y ∈ compG (fun a b => a == b) p l, cmpE p y < 0) ∧ (compG (fun a b => a == b) p l).Pairwise (LtC cmpE) ∧ ∀ z, z ∈ p :: l ↔ z = p ∨ z ∈ compG (fun a b => a == b) p l
  | [], p, _ => by simp [compG]
  | y :: r, p, h => by
    obtain ⟨h1, h2⟩ := List.pairwise_cons.1 h
    obtain ⟨i1, i2, i3⟩ := uniq_go r y h2
    rw [compG]
    by_cases e : y = p
    · subst e
      rw [if_pos (by simp)]
      refine ⟨i1, i2, fun z => ?_⟩
      rw [List.mem_cons, i3]; simp
    · rw [if_neg (by simpa using e)]
      have hp : cmpE p y < 0 := by
        rcases Int.lt_or_eq_of_le (show cmpE p y ≤ 0 from h1 y (by simp)) with q | q
        · exact q
        · exact absurd (cmpE_zero _ _ q).symm e
      refine ⟨fun z hz => ?_, List.pairwise_cons.2 ⟨i1, i2⟩, fun z => ?_⟩
      · rcases List.mem_cons.1 hz with rfl | hz
        · exact hp
        · exact ltE_trans hp (Int.le_of_lt (i1 z hz))
      · rw [List.mem_cons, i3, List.mem_cons]
theorem uniq_le {l : List Ed} (h : l.Pairwise (LeC cmpE)) : (compF (fun a b => a == b) l).Pairwise (LtC cmpE) ∧ ∀ z, z ∈ compF (fun a b => a == b) l ↔ z ∈ l := by
  cases l with
  | nil => simp [compF]
  | cons p r =>
    obtain ⟨i1, i2, i3⟩ := uniq_go r p h
    rw [compF]
    exact ⟨List.pairwise_cons.2 ⟨i1, i2⟩, fun z => by rw [List.mem_cons, i3]⟩
theorem ofE_srt (l : List Ed) : (ofE l).Pairwise (LtC cmpE) := (uniq_le (sortL_sorted cmpE_ok l)).1
theorem ofE_mem {l : List Ed} {z : Ed} : z ∈ ofE l ↔ z ∈ l := by rw [ofE, (uniq_le (sortL_sorted cmpE_ok l)).2, (sortL_perm cmpE l).mem_iff]
/-! One more, aS the reference lays it. -/
def withS (e : Ed) (p : List Ed × Bool) (x : Ed) : List Ed × Bool :=
  let q := if (!p.2 && !aheadE x e) = true then (p.1 ++ [e], true) else p
  if x = e then q else (q.1 ++ [x], q.2)
def withE (l : List Ed) (e : Ed) : List Ed := if (l.foldl (withS e) ([], false)).2 = true then (l.foldl (withS e) ([], false)).1 else (l.foldl (withS e) ([], false)).1 ++ [e]
theorem with_go {e : Ed} : ∀ (l : List Ed) (out : List Ed), (l.Pairwise (LtC cmpE)) →
    (∀ x ∈ l, cmpE e x < 0 ∨ x = e) → l.foldl (withS e) (out, true) = (out ++ l.filter (fun x => !(x == e)), true)
  | [], out, _, _ => by simp
  | x :: r, out, h, ha => by
    obtain ⟨h1, h2⟩ := List.pairwise_cons.1 h
    rw [List.foldl_cons, withS]
    simp only [Bool.not_true, Bool.false_and, Bool.false_eq_true, if_false]
    by_cases q : x = e
    · rw [if_pos q, with_go r out h2 (fun y hy => ha y (by simp [hy])), List.filter_cons, if_neg (by simp [q])]
    · rw [if_neg q, with_go r _ h2 (fun y hy => ha y (by simp [hy])), List.filter_cons, if_pos (by simp [q])]
      simp
theorem with_eq {e : Ed} : ∀ (l out : List Ed), l.Pairwise (LtC cmpE) → (if (l.foldl (withS e) (out, false)).2 = true then (l.foldl (withS e) (out, false)).1 else (l.foldl (withS e) (out, false)).1 ++ [e]) = out ++ putC cmpE l e
  | [], out, _ => by simp [putC]
  | x :: r, out, h => by
    obtain ⟨h1, h2⟩ := List.pairwise_cons.1 h
    rw [List.foldl_cons, withS, putC]
    by_cases q : aheadE x e = true
    · have q2 := aheadE_iff.1 q
      have hne : x ≠ e := fun w => by rw [w, cmpE_self] at q2; omega
      simp only [q, Bool.not_false, Bool.not_true, Bool.and_false, Bool.false_eq_true, if_false, if_neg hne]
      rw [with_eq r _ h2]
      have : ¬ cmpE e x ≤ 0 := by have := cmpE_ok.anti x e; omega
      simp only [List.append_assoc, List.singleton_append]
      congr 1
      first
        | rw [if_neg (by have := cmpE_ok.anti x e; omega), if_neg (by have := cmpE_ok.anti x e; omega)]
        | (split <;> first | rfl | (exfalso; have := cmpE_ok.anti x e; omega))
    · have q2 : ¬ cmpE x e < 0 := fun w => q (aheadE_iff.2 w)
      have qf : aheadE x e = false := by simpa using q
      simp only [qf, Bool.not_false, Bool.and_true, if_true]
      have hc : ∀ y ∈ r, cmpE e y < 0 ∨ y = e := fun y hy => by
        left
        have a1 : cmpE x y < 0 := h1 y hy
        have a2 : cmpE e x ≤ 0 := by have := cmpE_ok.anti x e; omega
        rcases Int.lt_or_eq_of_le a2 with w | w
        · exact ltE_trans w (Int.le_of_lt a1)
        · rw [cmpE_zero _ _ w]; exact a1
      by_cases hx : x = e
      · subst hx
        rw [if_pos rfl, with_go r _ h2 hc]
        have hr : r.filter (fun y => !(y == x)) = r := List.filter_eq_self.2 fun y hy => by
          have a1 : cmpE x y < 0 := h1 y hy
          have : y ≠ x := fun w => by rw [w, cmpE_self] at a1; omega
          simpa using this
        simp only [if_true, hr, cmpE_self]
        simp
      · rw [if_neg hx, with_go r _ h2 hc]
        have hlt : cmpE e x < 0 := by
          have := cmpE_ok.anti x e
          rcases Int.lt_or_eq_of_le (show cmpE e x ≤ 0 by omega) with w | w
          · exact w
          · exact absurd (cmpE_zero _ _ w).symm hx
        have hr : r.filter (fun y => !(y == e)) = r := List.filter_eq_self.2 fun y hy => by
          have a1 : cmpE e y < 0 := ltE_trans hlt (Int.le_of_lt (h1 y hy))
          have : y ≠ e := fun w => by rw [w, cmpE_self] at a1; omega
          simpa using this
        simp only [if_true, hr]
        have := cmpE_ok.anti x e
        first
          | (simp [q2, hx, List.append_assoc]; done)
          | (split <;> first | simp | (exfalso; omega))
theorem with_put {l : List Ed} (h : l.Pairwise (LtC cmpE)) (e : Ed) : withE l e = putC cmpE l e := by
  have := with_eq (e := e) l [] h
  rw [List.nil_append] at this
  exact this
def refOfE (l : List Ed) : List Ed := l.foldl withE []
theorem refOfE_go : ∀ (l out : List Ed), out.Pairwise (LtC cmpE) → (l.foldl withE out).Pairwise (LtC cmpE) ∧ ∀ z, z ∈ l.foldl withE out ↔ z ∈ out ∨ z ∈ l
  | [], out, h => ⟨h, fun z => by simp⟩
  | e :: r, out, h => by
    rw [List.foldl_cons]
    have hs : (withE out e).Pairwise (LtC cmpE) := by rw [with_put h]; exact putC_sorted cmpE_ok cmpE_zero h
    obtain ⟨a, b⟩ := refOfE_go r _ hs
    refine ⟨a, fun z => ?_⟩
    rw [b, with_put h, putC_mem, List.mem_cons]
    constructor
    · rintro ((q | q) | q)
      · subst q
        exact .inr (.inl rfl)
      · exact .inl q
      · exact .inr (.inr q)
    · rintro (q | q | q)
      · exact .inl (.inr q)
      · exact .inl (.inl q)
      · exact .inr q
theorem refOfE_eq (l : List Ed) : refOfE l = ofE l := by
  obtain ⟨a, b⟩ := refOfE_go l [] .nil
  refine ltC_ext cmpE_ok _ _ a (ofE_srt l) fun z => ?_
  rw [refOfE, b, ofE_mem]; simp
end Go.H
/- Graphs aS the code sees them: rows of numbers, which graphs may be, where each node's edges begin. Conditions: aS each lemma states. -/
set_option linter.unusedVariables false
set_option linter.unusedSimpArgs false
namespace Go.H
open Go Go.Ab
/-! Rows whose places are numbers, and truths, of the place. -/
def updI {α : Type} (f : Nat → α) (a : Nat) (b : α) : Nat → α := fun x => if x = a then b else f x
theorem updI_same {α : Type} (f : Nat → α) (a : Nat) (b : α) : updI f a b a = b := by simp [updI]
theorem updI_ne {α : Type} (f : Nat → α) {a x : Nat} (b : α) (h : x ≠ a) : updI f a b x = f x := by simp [updI, h]
theorem rng_set {α β : Type} (g : α → β) (m : Nat) (f : Nat → α) (k : Nat) (b : α) : ((List.range m).map fun i => g (f i)).set k (g b) = (List.range m).map fun i => g (updI f k b i) := by
  apply List.ext_getElem (by simp)
  intro i h1 h2
  simp only [List.getElem_set, List.getElem_map, List.getElem_range, updI]
  by_cases h : k = i
  · subst h; simp
  · rw [if_neg h, if_neg (fun e => h e.symm)]
theorem rng_congr {α : Type} {m : Nat} {f g : Nat → α} (h : ∀ i, i < m → f i = g i) : (List.range m).map f = (List.range m).map g :=
  List.map_congr_left fun i hi => h i (List.mem_range.1 hi)
def rwI (m : Nat) (f : Nat → Int) : List (List AV) := (List.range m).map fun i => [iv (f i)]
def rwB (m : Nat) (f : Nat → Bool) : List (List AV) := (List.range m).map fun i => [bv (f i)]
theorem rwI_len (m : Nat) (f : Nat → Int) : (rwI m f).length = m := by simp [rwI]
theorem rwB_len (m : Nat) (f : Nat → Bool) : (rwB m f).length = m := by simp [rwB]
theorem rwI_at {m k : Nat} (f : Nat → Int) (hk : k < m) : (rwI m f)[k]? = some [iv (f k)] := by simp [rwI, hk]
theorem rwB_at {m k : Nat} (f : Nat → Bool) (hk : k < m) : (rwB m f)[k]? = some [bv (f k)] := by simp [rwB, hk]
theorem rwI_set (m : Nat) (f : Nat → Int) (k : Nat) (b : Int) : (rwI m f).set k [iv b] = rwI m (updI f k b) := rng_set (fun x : Int => [iv x]) m f k b
theorem rwB_set (m : Nat) (f : Nat → Bool) (k : Nat) (b : Bool) : (rwB m f).set k [bv b] = rwB m (updI f k b) := rng_set (fun x : Bool => [bv x]) m f k b
theorem rwI_zero (m : Nat) : List.replicate m [iv 0] = rwI m (fun _ => 0) := by
  apply List.ext_getElem (by simp [rwI])
  intro i h1 h2; simp [rwI]
theorem rwB_zero (m : Nat) : List.replicate m [bv false] = rwB m (fun _ => false) := by
  apply List.ext_getElem (by simp [rwB])
  intro i h1 h2; simp [rwB]
theorem rwI_map (m : Nat) (f : Nat → Int) : rwI m f = ((List.range m).map f).map intR := by rw [rwI, List.map_map]; rfl
/-! Which graphs may be. -/
def stepB (n : Int) (l : List Ed) (i : Nat) : Bool := match l[i]? with
  | none => true
  | some e => edgeB n e && (i == 0 || match l[i - 1]? with
    | none => true
    | some d => decide (cmpE d e < 0))
def chkB (g : Gr) : Bool := decide (0 ≤ g.n) && (decide (g.n ≤ 300) && (decide (g.es.length ≤ 40000) && (List.range g.es.length).all (stepB g.n g.es)))
theorem step_0 {n : Int} {l : List Ed} (h : 0 < l.length) : stepB n l 0 = edgeB n l[0] := by
  rw [stepB, List.getElem?_eq_getElem h]; simp
theorem step_s {n : Int} {l : List Ed} {i : Nat} (h : i + 1 < l.length) : stepB n l (i + 1) = (edgeB n l[i + 1] && decide (cmpE (l[i]'(by omega)) l[i + 1] < 0)) := by
  rw [stepB, List.getElem?_eq_getElem h]
  simp only [Nat.add_sub_cancel]
  rw [List.getElem?_eq_getElem (show i < l.length by omega)]
  simp
theorem step_at {n : Int} {l : List Ed} {i : Nat} (h : i < l.length) : stepB n l i = (edgeB n l[i] && (decide (i = 0) || decide (cmpE (l[i - 1]'(by omega)) l[i] < 0))) := by
  cases i with
  | zero => rw [step_0 h]; simp
  | succ i => rw [step_s h]; simp
def grR (g : Gr) : List AV := [iv g.n, edsA g.es]
theorem chain_pair {l : List Ed} (h : ∀ i (hi : i + 1 < l.length), cmpE (l[i]'(by omega)) l[i + 1] < 0) : l.Pairwise (LtC cmpE) := by
  rw [List.pairwise_iff_getElem]
  intro i j hi hj hij
  induction j with
  | zero => omega
  | succ j ih =>
    have h1 := h j hj
    by_cases e : i = j
    · subst e; exact h1
    · exact ltE_trans (ih (by omega) (by omega)) (Int.le_of_lt h1)
theorem chkB_iff {g : Gr} : chkB g = true ↔ GOk g := by
  unfold chkB
  simp only [Bool.and_eq_true, decide_eq_true_eq, List.all_eq_true, List.mem_range]
  constructor
  · rintro ⟨h1, h2, h3, h4⟩
    refine ⟨h1, h2, h3, fun e he => ?_, chain_pair fun i hi => ?_⟩
    · obtain ⟨i, hi, rfl⟩ := List.mem_iff_getElem.1 he
      have := h4 i hi
      cases i with
      | zero => rw [step_0 hi] at this; exact this
      | succ i => rw [step_s hi, Bool.and_eq_true] at this; exact this.1
    · have := h4 (i + 1) hi
      rw [step_s hi, Bool.and_eq_true] at this
      exact of_decide_eq_true this.2
  · intro h
    refine ⟨h.n0, h.n1, h.many, fun i hi => ?_⟩
    cases i with
    | zero => rw [step_0 hi]; exact h.each _ (List.getElem_mem hi)
    | succ i =>
      rw [step_s hi, Bool.and_eq_true]
      exact ⟨h.each _ (List.getElem_mem hi), decide_eq_true ((List.pairwise_iff_getElem.1 h.srt) i (i + 1) (by omega) hi (by omega))⟩
/-- What Check answers. -/
def chkE (g : Gr) : Int := if chkB g = true then 0 else 150
theorem chkE_0 {g : Gr} : chkE g = 0 ↔ GOk g := by
  rw [← chkB_iff, chkE]; split <;> simp_all
theorem chkE_f {g : Gr} (h : chkB g = false) : chkE g = 150 := by rw [chkE, if_neg (by rw [h]; decide)]
/-! Where each node's edges begin. -/
def adjG (g : Gr) (v : Nat) : List Nat := (g.es.filter fun e => e.f == (v : Int)).map fun e => e.t.toNat
def staG (g : Gr) (v : Nat) : Nat := (g.es.filter fun e => decide (e.f < (v : Int))).length
theorem filt_split {l : List Ed} (h : l.Pairwise fun a b => a.f ≤ b.f) (v : Int) : l = (l.filter fun e => decide (e.f < v)) ++ l.filter fun e => !decide (e.f < v) := by
  induction l with
  | nil => rfl
  | cons a r ih =>
    obtain ⟨h1, h2⟩ := List.pairwise_cons.1 h
    by_cases q : a.f < v
    · rw [List.filter_cons_of_pos (by simpa using q), List.filter_cons_of_neg (by simpa using q), List.cons_append, ← ih h2]
    · have e1 : (a :: r).filter (fun e => decide (e.f < v)) = [] := by
        rw [List.filter_eq_nil_iff]
        intro x hx
        rcases List.mem_cons.1 hx with rfl | hx
        · simpa using q
        · have := h1 x hx; simp; omega
      have e2 : (a :: r).filter (fun e => !decide (e.f < v)) = a :: r := by
        rw [List.filter_eq_self]
        intro x hx
        rcases List.mem_cons.1 hx with rfl | hx
        · simpa using q
        · have := h1 x hx; simp; omega
      rw [e1, e2]; rfl
theorem cmpE_f {a b : Ed} (h : cmpE a b < 0) : a.f ≤ b.f := by
  rw [← aheadE_iff] at h
  unfold aheadE at h
  by_cases e : a.f = b.f
  · omega
  · rw [if_neg e] at h; have := of_decide_eq_true h; omega
theorem GOk.mono {g : Gr} (h : GOk g) : g.es.Pairwise fun a b => a.f ≤ b.f := h.srt.imp fun q => cmpE_f q
theorem sta_split {g : Gr} (h : GOk g) (v : Nat) : ∃ A C, g.es = A ++ ((g.es.filter fun e => e.f == (v : Int)) ++ C) ∧ A.length = staG g v ∧ staG g (v + 1) = A.length + (adjG g v).length := by
  have h1 := filt_split h.mono (v : Int)
  have hm2 : (g.es.filter fun e => !decide (e.f < (v : Int))).Pairwise fun a b => a.f ≤ b.f := h.mono.filter _
  have h2 := filt_split hm2 ((v : Int) + 1)
  have e2 : ((g.es.filter fun e => !decide (e.f < (v : Int))).filter fun e => decide (e.f < (v : Int) + 1)) = g.es.filter fun e => e.f == (v : Int) := by
    rw [List.filter_filter]
    refine List.filter_congr fun e _ => ?_
    rw [Bool.eq_iff_iff]; simp; omega
  refine ⟨g.es.filter fun e => decide (e.f < (v : Int)), (g.es.filter fun e => !decide (e.f < (v : Int))).filter fun e => !decide (e.f < (v : Int) + 1), ?_, rfl, ?_⟩
  · rw [← e2, ← h2]; exact h1
  · have h3 : staG g (v + 1) = ((g.es.filter fun e => decide (e.f < (v : Int) + 1)).length) := by
      rw [staG]; congr 1
    rw [h3, adjG, List.length_map]
    have : g.es.filter (fun e => decide (e.f < (v : Int) + 1)) = (g.es.filter fun e => decide (e.f < (v : Int))) ++ (g.es.filter fun e => e.f == (v : Int)) := by
      conv => lhs; rw [h1]
      rw [List.filter_append, List.filter_filter, e2]
      congr 1
      refine List.filter_congr fun e _ => ?_
      rw [Bool.eq_iff_iff]; simp; omega
    rw [this, List.length_append]
theorem sta_s {g : Gr} (h : GOk g) (v : Nat) : staG g (v + 1) = staG g v + (adjG g v).length := by
  obtain ⟨A, C, _, h2, h3⟩ := sta_split h v
  omega
theorem sta_at {g : Gr} (h : GOk g) {v d : Nat} (hd : d < (adjG g v).length) : ∃ h1 : staG g v + d < g.es.length, g.es[staG g v + d].f = v ∧ (adjG g v)[d] = g.es[staG g v + d].t.toNat := by
  obtain ⟨A, C, h1, h2, h3⟩ := sta_split h v
  have hl : (g.es.filter fun e => e.f == (v : Int)).length = (adjG g v).length := by rw [adjG, List.length_map]
  have hlt : staG g v + d < g.es.length := by
    rw [h1, List.length_append, List.length_append, hl]; omega
  have e1 : g.es[staG g v + d]? = (g.es.filter fun e => e.f == (v : Int))[d]? := by
    conv => lhs; rw [h1]
    rw [List.getElem?_append_right (by omega), h2, Nat.add_sub_cancel_left, List.getElem?_append_left (by omega)]
  rw [List.getElem?_eq_getElem hlt, List.getElem?_eq_getElem (by omega)] at e1
  injection e1 with e1
  refine ⟨hlt, ?_, ?_⟩
  · have := List.getElem_mem (show d < (g.es.filter fun e => e.f == (v : Int)).length by omega)
    rw [← e1, List.mem_filter] at this
    simpa using this.2
  · simp only [adjG, List.getElem_map]; rw [e1]
theorem sta_le (g : Gr) (v : Nat) : staG g v ≤ g.es.length := List.length_filter_le _ _
theorem adj_lt {g : Gr} (h : GOk g) {v w : Nat} (hw : w ∈ adjG g v) : (v : Int) < g.n ∧ (w : Int) < g.n ∧ v ≠ w := by
  obtain ⟨e, he, rfl⟩ := List.mem_map.1 hw
  obtain ⟨h1, h2⟩ := List.mem_filter.1 he
  have := edge_iff.1 (h.each e h1)
  have h3 : e.f = v := by simpa using h2
  omega
theorem adj_mem {g : Gr} (h : GOk g) {v w : Nat} : w ∈ adjG g v ↔ ∃ k, (⟨v, w, k⟩ : Ed) ∈ g.es := by
  constructor
  · intro hw
    obtain ⟨e, he, rfl⟩ := List.mem_map.1 hw
    obtain ⟨h1, h2⟩ := List.mem_filter.1 he
    have := edge_iff.1 (h.each e h1)
    have h3 : e.f = v := by simpa using h2
    refine ⟨e.k, ?_⟩
    have a1 : ((e.t.toNat : Nat) : Int) = e.t := by omega
    rw [a1, ← h3]; exact h1
  · rintro ⟨k, hk⟩
    exact List.mem_map.2 ⟨_, List.mem_filter.2 ⟨hk, by simp⟩, by simp⟩
/-! How Starts reckons them. -/
def cntS (l : List Ed) (i : Nat) : Int := ((l.filter fun e => e.f + 1 == (i : Int)).length : Int)
theorem cntS_s {l : List Ed} {k : Nat} (hk : k < l.length) (h0 : 0 ≤ l[k].f) : cntS (l.take (k + 1)) = updI (cntS (l.take k)) (l[k].f + 1).toNat (cntS (l.take k) (l[k].f + 1).toNat + 1) := by
  funext i
  rw [cntS, List.take_succ_eq_append_getElem hk, List.filter_append, List.length_append, updI]
  by_cases e : i = (l[k].f + 1).toNat
  · rw [if_pos e]
    have : (l[k].f + 1 == (i : Int)) = true := by simp; omega
    have e2 : [l[k]].filter (fun e => e.f + 1 == (i : Int)) = [l[k]] := by simp only [List.filter_cons, List.filter_nil, this, if_true]
    rw [e2, e]; simp [cntS]
  · rw [if_neg e]
    have : ¬ (l[k].f + 1 == (i : Int)) = true := by simp; omega
    have e2 : [l[k]].filter (fun e => e.f + 1 == (i : Int)) = [] := by simp only [List.filter_cons, List.filter_nil, this]; rfl
    rw [e2]; simp [cntS]
def staF (g : Gr) (v i : Nat) : Int := if i ≤ v then (staG g i : Int) else cntS g.es i
theorem sta_0 {g : Gr} (h : GOk g) : staG g 0 = 0 := by
  rw [staG, List.length_eq_zero_iff, List.filter_eq_nil_iff]
  intro e he
  have := edge_iff.1 (h.each e he)
  simp; omega
theorem cntS_app {l : List Ed} {e : Ed} (h0 : 0 ≤ e.f) : cntS (l ++ [e]) = updI (cntS l) (e.f + 1).toNat (cntS l (e.f + 1).toNat + 1) := by
  have := cntS_s (l := l ++ [e]) (k := l.length) (by simp) (by simpa using h0)
  rw [List.take_of_length_le (by simp)] at this
  simpa using this
theorem staF_0 {g : Gr} (h : GOk g) : staF g 0 = cntS g.es := by
  funext i
  rw [staF]; split
  · rename_i q
    obtain rfl := Nat.le_zero.1 q
    rw [sta_0 h, cntS]
    have : g.es.filter (fun e => e.f + 1 == ((0 : Nat) : Int)) = [] := by
      rw [List.filter_eq_nil_iff]
      intro e he
      have := edge_iff.1 (h.each e he)
      simp; omega
    rw [this]; rfl
  · rfl
theorem staF_s {g : Gr} (h : GOk g) (v : Nat) : staF g (v + 1) = updI (staF g v) (v + 1) (staF g v (v + 1) + staF g v v) := by
  funext i
  have e1 : staF g v (v + 1) = (adjG g v).length := by
    rw [staF, if_neg (by omega), cntS, adjG, List.length_map]
    congr 2
    refine List.filter_congr fun e _ => ?_
    rw [Bool.eq_iff_iff]; simp
  have e2 : staF g v v = staG g v := by rw [staF, if_pos (Nat.le_refl _)]
  rw [e1, e2, updI]
  by_cases e : i = v + 1
  · subst e; rw [if_pos rfl, staF, if_pos (Nat.le_refl _), sta_s h]; omega
  · rw [if_neg e, staF, staF]
    by_cases q : i ≤ v
    · rw [if_pos q, if_pos (by omega)]
    · rw [if_neg q, if_neg (by omega)]
theorem staF_n {g : Gr} {n : Nat} : rwI (n + 1) (staF g n) = ((List.range (n + 1)).map fun i => (staG g i : Int)).map intR := by
  rw [rwI_map]; congr 1
  exact rng_congr fun i hi => by rw [staF, if_pos (by omega)]
theorem staF_nn {g : Gr} (h : GOk g) {v i : Nat} : 0 ≤ staF g v i ∧ staF g v i ≤ 40000 := by
  have h1 := sta_le g i
  have h2 := h.many
  rw [staF]; split
  · omega
  · rw [cntS]
    have := List.length_filter_le (fun e : Ed => e.f + 1 == (i : Int)) g.es
    omega
theorem cntS_nn (l : List Ed) (i : Nat) : 0 ≤ cntS l i ∧ cntS l i ≤ l.length := by
  rw [cntS]
  have := List.length_filter_le (fun e : Ed => e.f + 1 == (i : Int)) l
  omega
end Go.H
/- Tarjan's walk aS the program keeps it: the calls beneath the newest one have gone one edge further. Conditions: aS each lemma states. -/
set_option linter.unusedVariables false
set_option linter.unusedSimpArgs false
namespace Go.H
open Go Go.Ab
section
variable {n : Nat} {adj : Nat → List Nat}
/-- Each call but the last stands at the edge that led to the next one. -/
def ChainT (adj : Nat → List Nat) : List (Nat × Nat) → Prop
  | [] => True
  | [_] => True
  | (v, _) :: (u, d) :: r => (adj u)[d]? = some v ∧ ChainT adj ((u, d) :: r)
theorem chain_top {u d d' : Nat} {r : List (Nat × Nat)} (h : ChainT adj ((u, d) :: r)) : ChainT adj ((u, d') :: r) := by
  cases r with
  | nil => trivial
  | cons p q => exact ⟨h.1, h.2⟩
def clsP : List (Nat × Nat) → List (Nat × Nat)
  | [] => []
  | c :: r => c :: r.map fun c => (c.1, c.2 + 1)
theorem sum_upd (f g : Nat → Nat) (v : Nat) : ∀ n, v < n → (∀ x, x ≠ v → f x = g x) → ((List.range n).map f).sum + g v = ((List.range n).map g).sum + f v
  | 0, h, _ => by omega
  | n + 1, h, he => by
    rw [List.range_succ, List.map_append, List.map_append, List.sum_append, List.sum_append]
    simp only [List.map_cons, List.map_nil, List.sum_cons, List.sum_nil]
    by_cases e : v = n
    · subst e
      have : ((List.range v).map f) = (List.range v).map g := rng_congr fun i hi => he i (by omega)
      rw [this]; omega
    · have := sum_upd f g v n (by omega) he
      have := he n (fun q => e q.symm)
      omega
def muN (n : Nat) (seen : Nat → Nat) : Nat := ((List.range n).map fun v => if seen v = 0 then 1 else 0).sum
theorem muN_0 : ∀ n, muN n (fun _ => 0) = n
  | 0 => rfl
  | n + 1 => by
    have := muN_0 n
    unfold muN at this ⊢
    rw [List.range_succ, List.map_append, List.sum_append, this]; rfl
theorem muN_upd {n v a : Nat} {f : Nat → Nat} (hv : v < n) (h0 : f v = 0) (ha : 0 < a) : muN n (upd f v a) + 1 = muN n f := by
  have h1 := sum_upd (fun x => if upd f v a x = 0 then 1 else 0) (fun x => if f x = 0 then 1 else 0) v n hv (fun x hx => by
    show (if upd f v a x = 0 then _ else _) = _
    rw [upd_ne _ _ hx])
  have h2 : (if upd f v a v = 0 then 1 else 0) = 0 := by rw [upd_same, if_neg (by omega)]
  have h3 : (if f v = 0 then 1 else 0) = 1 := if_pos h0
  simp only [h2, h3] at h1
  unfold muN; omega
structure TOk (n : Nat) (adj : Nat → List Nat) (w : TJ) : Prop where
  inv : TInv n adj w
  chain : ChainT adj w.cls
  many : w.many + muN n w.seen = n
theorem TOk.manyle {w : TJ} (h : TOk n adj w) : w.many ≤ n := by have := h.many; omega
theorem many_enter {w : TJ} (h : w.many + muN n w.seen = n) {v : Nat} (hv : v < n) (h0 : w.seen v = 0) : (w.enter v).many + muN n (w.enter v).seen = n := by
  have := muN_upd (a := w.many + 1) hv h0 (by omega)
  show w.many + 1 + muN n (upd w.seen v (w.many + 1)) = n
  omega
theorem TOk.start (ha : ∀ u, u < n → ∀ v ∈ adj u, v < n) : TOk n adj .start := ⟨TInv.start ha, trivial, by show 0 + muN n (fun _ => 0) = n; rw [muN_0]; omega⟩
theorem TOk.root {w : TJ} (h : TOk n adj w) {v : Nat} (hv : v < n) (h0 : w.seen v = 0) (hc : w.cls = []) : TOk n adj (w.enter v) :=
  ⟨h.inv.enter hv h0 (.inl hc), by show ChainT adj ((v, 0) :: w.cls); rw [hc]; trivial, many_enter h.many hv h0⟩
theorem TOk.down {w : TJ} (h : TOk n adj w) {u d v : Nat} {r : List (Nat × Nat)} (hc : w.cls = (u, d) :: r) (hd : (adj u)[d]? = some v) (h0 : w.seen v = 0) : TOk n adj (w.enter v) := by
  have hu : (u, d) ∈ w.cls := by rw [hc]; simp
  have hm : v ∈ adj u := List.mem_of_getElem? hd
  have hun : u < n := (h.inv.stkn u (h.inv.clsk _ hu).1).1
  refine ⟨h.inv.enter (h.inv.adjn u hun v hm) h0 (.inr ⟨u, d, r, hc, hm⟩), ?_, many_enter h.many (h.inv.adjn u hun v hm) h0⟩
  have hch := h.chain
  show ChainT adj ((v, 0) :: w.cls)
  rw [hc] at hch ⊢
  exact ⟨hd, hch⟩
theorem TOk.over {w : TJ} (h : TOk n adj w) {u d v : Nat} {r : List (Nat × Nat)} (hc : w.cls = (u, d) :: r) (hd : (adj u)[d]? = some v) (h0 : 0 < w.seen v) : TOk n adj (w.over u d v r) := by
  refine ⟨h.inv.over hc hd h0, ?_, h.many⟩
  have hch := h.chain
  rw [hc] at hch
  exact chain_top hch
/-- The call beneath goes on by one edge. -/
def nextC : List (Nat × Nat) → List (Nat × Nat)
  | [] => []
  | p :: q => (p.1, p.2 + 1) :: q
def lowP (w : TJ) (u : Nat) (r : List (Nat × Nat)) : Nat → Nat := match r with
  | [] => w.low
  | p :: _ => upd w.low p.1 (min (w.low p.1) (w.low u))
def TJ.leave1 (w : TJ) (u : Nat) (r : List (Nat × Nat)) : TJ := { w with cls := nextC r, low := lowP w u r }
def TJ.leave2 (w : TJ) (u : Nat) (r : List (Nat × Nat)) (B C : List Nat) : TJ := { w.leave1 u r with stk := B, outs := w.outs ++ [C] }
theorem upd_id (f : Nat → Nat) (a b : Nat) (h : f a = b) : upd f a b = f := by
  funext x; unfold upd; split
  · rename_i e; rw [e, h]
  · rfl
theorem TOk.leave1 {w : TJ} (h : TOk n adj w) {u d : Nat} {r : List (Nat × Nat)} (hc : w.cls = (u, d) :: r) (hd : d = (adj u).length) (hlt : w.low u ≠ w.seen u) : TOk n adj (w.leave1 u r) := by
  have hp := h.inv.pop hc hd hlt
  have hch := h.chain
  rw [hc] at hch
  have hus : u ∈ w.stk := (h.inv.clsk (u, d) (by rw [hc]; simp)).1
  have hu0 := (h.inv.stkn u hus).2
  cases r with
  | nil => exact ⟨hp, trivial, h.many⟩
  | cons p q =>
    obtain ⟨x, e⟩ := p
    have hch : (adj x)[e]? = some u ∧ ChainT adj ((x, e) :: q) := hch
    have ho := TInv.over (w := w.pop u ((x, e) :: q)) hp (u := x) (d := e) (v := u) (r := q) rfl hch.1 hu0
    have hl := (h.inv.lowk u hus).1
    have e1 : (w.pop u ((x, e) :: q)).over x e u q = w.leave1 u ((x, e) :: q) := by
      have hlow : ((w.pop u ((x, e) :: q)).over x e u q).low = lowP w u ((x, e) :: q) := by
        show (if u ∈ w.stk then upd (upd w.low x (min (w.low x) (w.low u))) x (min (upd w.low x (min (w.low x) (w.low u)) x) (w.seen u)) else _) = _
        rw [if_pos hus, upd_same]
        refine upd_id _ _ _ ?_
        rw [upd_same]; omega
      show TJ.mk _ _ _ _ _ _ = TJ.mk _ _ _ _ _ _
      congr 1
    rw [e1] at ho
    exact ⟨ho, chain_top hch.2, h.many⟩
theorem TOk.leave2 {w : TJ} (h : TOk n adj w) {u d : Nat} {r : List (Nat × Nat)} (hc : w.cls = (u, d) :: r) (hd : d = (adj u).length) (heq : w.low u = w.seen u) {A B C : List Nat} (hs : w.stk = A ++ u :: B) (hC : C.Perm (A ++ [u])) : TOk n adj (w.leave2 u r B C) := by
  have hp := h.inv.close hc hd heq hs hC
  have hch := h.chain
  rw [hc] at hch
  have hus : u ∈ w.stk := (h.inv.clsk (u, d) (by rw [hc]; simp)).1
  have hu0 := (h.inv.stkn u hus).2
  have hub : u ∉ B := by
    have := h.inv.stks
    rw [hs] at this
    have h2 := (List.pairwise_append.1 this).2.1
    intro q
    have := (List.pairwise_cons.1 h2).1 u q
    omega
  cases r with
  | nil => exact ⟨hp, trivial, h.many⟩
  | cons p q =>
    obtain ⟨x, e⟩ := p
    have hch : (adj x)[e]? = some u ∧ ChainT adj ((x, e) :: q) := hch
    have ho := TInv.over (w := w.close u ((x, e) :: q) B C) hp (u := x) (d := e) (v := u) (r := q) rfl hch.1 hu0
    have e1 : (w.close u ((x, e) :: q) B C).over x e u q = w.leave2 u ((x, e) :: q) B C := by
      have hlow : ((w.close u ((x, e) :: q) B C).over x e u q).low = lowP w u ((x, e) :: q) := by
        show (if u ∈ B then _ else upd w.low x (min (w.low x) (w.low u))) = _
        rw [if_neg hub]; rfl
      show TJ.mk _ _ _ _ _ _ = TJ.mk _ _ _ _ _ _
      congr 1
    rw [e1] at ho
    exact ⟨ho, chain_top hch.2, h.many⟩
/-- What is still to be gone over. -/
def muC (adj : Nat → List Nat) (l : List (Nat × Nat)) : Nat := (l.map fun c => 2 * ((adj c.1).length - c.2) + 1).sum
def muS (n : Nat) (adj : Nat → List Nat) (seen : Nat → Nat) : Nat := ((List.range n).map fun v => if seen v = 0 then 2 * (adj v).length + 2 else 0).sum
def muT (n : Nat) (adj : Nat → List Nat) (w : TJ) : Nat := muS n adj w.seen + muC adj w.cls
theorem mu_enter {w : TJ} {v : Nat} (hv : v < n) (h0 : w.seen v = 0) : muT n adj (w.enter v) < muT n adj w := by
  have h1 := sum_upd (fun x => if (w.enter v).seen x = 0 then 2 * (adj x).length + 2 else 0) (fun x => if w.seen x = 0 then 2 * (adj x).length + 2 else 0) v n hv (fun x hx => by
    show (if upd w.seen v (w.many + 1) x = 0 then _ else _) = _
    rw [upd_ne _ _ hx])
  have h2 : (if (w.enter v).seen v = 0 then 2 * (adj v).length + 2 else 0) = 0 := by
    show (if upd w.seen v (w.many + 1) v = 0 then _ else _) = _
    rw [upd_same, if_neg (by omega)]
  have h3 : (if w.seen v = 0 then 2 * (adj v).length + 2 else 0) = 2 * (adj v).length + 2 := if_pos h0
  rw [h2, h3] at h1
  have h4 : muC adj (w.enter v).cls = (2 * ((adj v).length - 0) + 1) + muC adj w.cls := by
    show ((((v, 0) :: w.cls).map _).sum) = _
    rw [List.map_cons, List.sum_cons]; rfl
  unfold muT muS
  rw [h4]
  omega
theorem mu_over {w : TJ} {u d v : Nat} {r : List (Nat × Nat)} (hc : w.cls = (u, d) :: r) (hd : (adj u)[d]? = some v) : muT n adj (w.over u d v r) < muT n adj w := by
  obtain ⟨hl, _⟩ := List.getElem?_eq_some_iff.1 hd
  have h1 : muC adj (w.over u d v r).cls = (2 * ((adj u).length - (d + 1)) + 1) + muC adj r := by
    show (((u, d + 1) :: r).map _).sum = _
    rw [List.map_cons, List.sum_cons]; rfl
  have h2 : muC adj w.cls = (2 * ((adj u).length - d) + 1) + muC adj r := by
    rw [hc]; show (((u, d) :: r).map _).sum = _
    rw [List.map_cons, List.sum_cons]; rfl
  unfold muT
  rw [h1, h2]
  show muS n adj w.seen + _ < _
  omega
theorem muC_next (r : List (Nat × Nat)) : muC adj (nextC r) ≤ muC adj r := by
  cases r with
  | nil => exact Nat.le_refl _
  | cons p q =>
    show (((p.1, p.2 + 1) :: q).map _).sum ≤ ((p :: q).map _).sum
    rw [List.map_cons, List.map_cons, List.sum_cons, List.sum_cons]
    simp only
    omega
theorem mu_leave {w w' : TJ} {u d : Nat} {r : List (Nat × Nat)} (hc : w.cls = (u, d) :: r) (hs : w'.seen = w.seen) (hn : w'.cls = nextC r) : muT n adj w' < muT n adj w := by
  have h2 : muC adj w.cls = (2 * ((adj u).length - d) + 1) + muC adj r := by
    rw [hc]; show (((u, d) :: r).map _).sum = _
    rw [List.map_cons, List.sum_cons]; rfl
  have := muC_next (adj := adj) r
  unfold muT
  rw [hs, hn, h2]
  omega
/-! The program's rows. -/
abbrev natR (x : Nat) : List AV := [iv (x : Int)]
def frmR (c : Nat × Nat) : List AV := [iv (c.1 : Int), iv (c.2 : Int)]
def seenA (n : Nat) (f : Nat → Nat) : List (List AV) := rwI n fun i => (f i : Int)
def openA (n : Nat) (l : List Nat) : List (List AV) := rwB n fun i => decide (i ∈ l)
def stkA (l : List Nat) : List (List AV) := l.reverse.map natR
def clsA (l : List (Nat × Nat)) : List (List AV) := (clsP l).reverse.map frmR
theorem seenA_len (n : Nat) (f : Nat → Nat) : (seenA n f).length = n := rwI_len _ _
theorem openA_len (n : Nat) (l : List Nat) : (openA n l).length = n := rwB_len _ _
theorem seenA_at {n k : Nat} (f : Nat → Nat) (hk : k < n) : (seenA n f)[k]? = some [iv (f k)] := rwI_at _ hk
theorem openA_at {n k : Nat} (l : List Nat) (hk : k < n) : (openA n l)[k]? = some [bv (decide (k ∈ l))] := rwB_at _ hk
theorem seenA_set (n : Nat) (f : Nat → Nat) (k b : Nat) : (seenA n f).set k [iv (b : Int)] = seenA n (upd f k b) := by
  unfold seenA; rw [rwI_set]; congr 1; funext i; unfold updI upd; split <;> rfl
theorem openA_in (n : Nat) (l : List Nat) (k : Nat) : (openA n l).set k [bv true] = openA n (k :: l) := by
  unfold openA; rw [rwB_set]; congr 1; funext i; unfold updI; split
  · rename_i e; subst e; simp
  · rename_i e; simp [e]
theorem stkA_cons (v : Nat) (l : List Nat) : stkA (v :: l) = stkA l ++ [natR v] := by simp [stkA]
theorem clsA_cons (v : Nat) {u d : Nat} {r : List (Nat × Nat)} : clsA ((v, 0) :: (u, d) :: r) = clsA ((u, d + 1) :: r) ++ [frmR (v, 0)] := by
  simp [clsA, clsP]
theorem clsA_len (l : List (Nat × Nat)) : (clsA l).length = l.length := by
  cases l with
  | nil => rfl
  | cons c r => simp [clsA, clsP]
theorem clsA_top {u d : Nat} {r : List (Nat × Nat)} : (clsA ((u, d) :: r))[r.length]? = some (frmR (u, d)) := by
  rw [clsA, clsP, List.reverse_cons, List.map_append, List.getElem?_append_right (by simp)]; simp
theorem clsA_set {u d : Nat} {r : List (Nat × Nat)} : (clsA ((u, d) :: r)).set r.length (frmR (u, d + 1)) = clsA ((u, d + 1) :: r) := by
  have : ∀ c : Nat × Nat, clsA (c :: r) = ((r.map fun c => (c.1, c.2 + 1)).reverse.map frmR) ++ [frmR c] := fun c => by simp [clsA, clsP]
  rw [this, this, List.set_append_right _ _ (by simp)]
  simp
theorem clsA_take {c : Nat × Nat} {r : List (Nat × Nat)} : (clsA (c :: r)).take r.length = clsA (nextC r) := by
  have : clsA (c :: r) = ((r.map fun c => (c.1, c.2 + 1)).reverse.map frmR) ++ [frmR c] := by simp [clsA, clsP]
  rw [this, List.take_left' (by simp)]
  cases r with
  | nil => rfl
  | cons p q => simp [clsA, clsP, nextC]
/-- The place of a node on the stack, oldest first. -/
theorem stk_idx {w : TJ} (h : TInv n adj w) {u : Nat} {A B : List Nat} (hs : w.stk = A ++ u :: B) : u ∉ A ∧ u ∉ B ∧ w.stk.Nodup := by
  have hnd : w.stk.Nodup := h.stks.imp fun q e => by subst e; omega
  rw [hs] at hnd
  have h1 := List.nodup_append.1 hnd
  have h2 := List.nodup_cons.1 h1.2.1
  exact ⟨fun q => h1.2.2 u q u (by simp) rfl, h2.1, by rw [hs]; exact hnd⟩
theorem stk_rev {l A B : List Nat} {u : Nat} (hs : l = A ++ u :: B) : l.reverse = B.reverse ++ (u :: A.reverse) := by subst hs; simp
theorem stk_split {w : TJ} (h : TInv n adj w) {u d : Nat} {r : List (Nat × Nat)} (hc : w.cls = (u, d) :: r) : ∃ A B, w.stk = A ++ u :: B :=
  List.append_of_mem (h.clsk (u, d) (by rw [hc]; simp)).1
theorem stk_len {w : TJ} (h : TInv n adj w) : w.stk.length ≤ n := by
  have hnd : w.stk.Nodup := h.stks.imp fun q e => by subst e; omega
  have := hnd.length_le_of_subset (l₂ := List.range n) fun x hx => List.mem_range.2 (h.stkn x hx).1
  simpa using this
theorem cls_len {w : TJ} (h : TInv n adj w) : w.cls.length ≤ n := by
  have hnd : (w.cls.map Prod.fst).Nodup := by
    unfold List.Nodup; rw [List.pairwise_map]
    exact h.clss.imp fun q e => by rw [e] at q; omega
  have := hnd.length_le_of_subset (l₂ := List.range n) fun x hx => by
    obtain ⟨c, hc, rfl⟩ := List.mem_map.1 hx
    exact List.mem_range.2 (h.stkn _ (h.clsk c hc).1).1
  simpa using this
/-- The nodes of what is closed are open no more. -/
def openC (n : Nat) (l : List Nat) (C : List Nat) (k : Nat) : List (List AV) := rwB n fun i => decide (i ∈ l) && !decide (i ∈ C.take k)
theorem openC_0 (n : Nat) (l C : List Nat) : openC n l C 0 = openA n l := by
  unfold openC openA; congr 1; funext i; simp
theorem openC_s {n : Nat} {l C : List Nat} {k : Nat} (hk : k < C.length) : (openC n l C k).set C[k] [bv false] = openC n l C (k + 1) := by
  unfold openC; rw [rwB_set]; congr 1; funext i; unfold updI
  have hm : i ∈ C.take (k + 1) ↔ i ∈ C.take k ∨ i = C[k] := by rw [List.take_succ_eq_append_getElem hk, List.mem_append, List.mem_singleton]
  rw [Bool.eq_iff_iff]
  split
  · rename_i e
    simp only [Bool.and_eq_true, decide_eq_true_eq, Bool.not_eq_true', decide_eq_false_iff_not, hm]
    constructor
    · intro q; cases q
    · rintro ⟨_, q⟩; exact absurd (.inr e) q
  · rename_i e
    simp only [Bool.and_eq_true, decide_eq_true_eq, Bool.not_eq_true', decide_eq_false_iff_not, hm, e, or_false]
theorem openC_len (n : Nat) (l C : List Nat) (k : Nat) : (openC n l C k).length = n := rwB_len _ _
theorem openC_end {n : Nat} {A B l : List Nat} {u : Nat} (hs : l = A ++ u :: B) (hnd : l.Nodup) : openC n l (u :: A.reverse) (u :: A.reverse).length = openA n B := by
  unfold openC openA; congr 1; funext i
  rw [List.take_length, Bool.eq_iff_iff]
  subst hs
  have h1 := List.nodup_append.1 hnd
  have h2 := List.nodup_cons.1 h1.2.1
  simp only [Bool.and_eq_true, decide_eq_true_eq, Bool.not_eq_true', decide_eq_false_iff_not, List.mem_append, List.mem_cons, List.mem_reverse]
  constructor
  · rintro ⟨q | q | q, k⟩
    · exact absurd (.inr q) k
    · exact absurd (.inl q) k
    · exact q
  · intro q
    refine ⟨.inr (.inr q), ?_⟩
    rintro (e | e)
    · subst e; exact h2.1 q
    · exact h1.2.2 i e i (List.mem_cons_of_mem _ q) rfl
end
end Go.H
/- Sets of numbers aS words of 64 bits. Conditions: aS each lemma states. -/
set_option linter.unusedVariables false
set_option linter.unusedSimpArgs false
namespace Go.H
open Go Go.Ab
/-- The word of the numbers below m that p holds of. -/
def wrdN (p : Nat → Bool) : Nat → Nat
  | 0 => 0
  | m + 1 => wrdN p m + if p m = true then 2 ^ m else 0
theorem wrdN_lt (p : Nat → Bool) : ∀ m, wrdN p m < 2 ^ m
  | 0 => by simp [wrdN]
  | m + 1 => by
    have := wrdN_lt p m
    rw [wrdN, Nat.pow_succ]; split <;> omega
theorem wrdN_bit (p : Nat → Bool) : ∀ m k, (wrdN p m).testBit k = (decide (k < m) && p k)
  | 0, k => by simp [wrdN]
  | m + 1, k => by
    have hl := wrdN_lt p m
    rw [wrdN]
    by_cases h : p m = true
    · rw [if_pos h, Nat.add_comm]
      rcases Nat.lt_trichotomy k m with q | q | q
      · rw [Nat.testBit_two_pow_add_gt q, wrdN_bit p m k]
        rw [decide_eq_true q, decide_eq_true (show k < m + 1 by omega)]
      · subst q
        rw [Nat.testBit_two_pow_add_eq, wrdN_bit p k k]; simp [h]
      · have : 2 ^ m + wrdN p m < 2 ^ k := by
          have : 2 ^ (m + 1) ≤ 2 ^ k := Nat.pow_le_pow_right (by decide) q
          rw [Nat.pow_succ] at this; omega
        rw [Nat.testBit_lt_two_pow this, decide_eq_false (by omega)]; rfl
    · rw [if_neg h, Nat.add_zero, wrdN_bit p m k]
      by_cases q : k = m
      · subst q; simp [h]
      · congr 1; rw [Bool.eq_iff_iff]; simp; omega
theorem wrdN_congr {p q : Nat → Bool} {m : Nat} (h : ∀ k, k < m → p k = q k) : wrdN p m = wrdN q m := by
  induction m with
  | zero => rfl
  | succ m ih => rw [wrdN, wrdN, ih fun k hk => h k (by omega), h m (by omega)]
theorem wrdN_or {p : Nat → Bool} {m a : Nat} (ha : a < m) : wrdN p m ||| 2 ^ a = wrdN (fun k => p k || k == a) m := by
  apply Nat.eq_of_testBit_eq
  intro k
  rw [Nat.testBit_or, wrdN_bit, wrdN_bit, Nat.testBit_two_pow]
  by_cases e : k = a
  · subst e; simp [ha]
  · have : (k == a) = false := by simpa using e
    have h2 : decide (a = k) = false := decide_eq_false (fun q => e q.symm)
    rw [this, h2, Bool.or_false, Bool.or_false]
theorem wrdN_0 {p : Nat → Bool} {m : Nat} : wrdN p m = 0 ↔ ∀ k, k < m → p k = false := by
  constructor
  · intro h k hk
    have := wrdN_bit p m k
    rw [h, Nat.zero_testBit, decide_eq_true hk, Bool.true_and] at this
    exact this.symm
  · intro h
    rw [wrdN_congr (q := fun _ => false) h]
    induction m with
    | zero => rfl
    | succ m ih => rw [wrdN, ih fun k hk => h k (by omega)]; rfl
/-- How many words the numbers of a row want. -/
def lenW (l : List Nat) : Nat := l.foldl (fun m n => max m (n / 64 + 1)) 0
theorem lenW_go (l : List Nat) : ∀ a m, l.foldl (fun m n => max m (n / 64 + 1)) a ≤ m ↔ a ≤ m ∧ ∀ n ∈ l, n / 64 + 1 ≤ m := by
  induction l with
  | nil => intro a m; simp
  | cons x r ih =>
    intro a m
    rw [List.foldl_cons, ih]
    simp only [List.mem_cons, forall_eq_or_imp]
    constructor
    · rintro ⟨h, k⟩; exact ⟨by omega, by omega, k⟩
    · rintro ⟨h1, h2, k⟩; exact ⟨by omega, k⟩
theorem lenW_le {l : List Nat} {m : Nat} : lenW l ≤ m ↔ ∀ n ∈ l, n / 64 + 1 ≤ m := by rw [lenW, lenW_go]; simp
theorem lenW_mem {l : List Nat} {n : Nat} (h : n ∈ l) : n / 64 < lenW l := by have := lenW_le.1 (Nat.le_refl (lenW l)) n h; omega
theorem lenW_s (l : List Nat) (a : Nat) : lenW (l ++ [a]) = max (lenW l) (a / 64 + 1) := by rw [lenW, List.foldl_append]; rfl
theorem lenW_last {l : List Nat} (h : lenW l ≠ 0) : ∃ n ∈ l, n / 64 + 1 = lenW l := by
  have hx : ∀ (l : List Nat) (a : Nat), l.foldl (fun m n => max m (n / 64 + 1)) a = a ∨ ∃ n ∈ l, n / 64 + 1 = l.foldl (fun m n => max m (n / 64 + 1)) a := by
    intro l
    induction l with
    | nil => intro a; exact .inl rfl
    | cons x r ih =>
      intro a
      rw [List.foldl_cons]
      rcases ih (max a (x / 64 + 1)) with e | ⟨n, hn, e⟩
      · by_cases q : a ≤ x / 64 + 1
        · right; exact ⟨x, by simp, by rw [e]; omega⟩
        · left; rw [e]; omega
      · right; exact ⟨n, by simp [hn], e⟩
  rcases hx l 0 with e | e
  · exact absurd e h
  · exact e
def wrdL (l : List Nat) (i : Nat) : Nat := wrdN (fun k => decide (64 * i + k ∈ l)) 64
def wordsF (l : List Nat) (n : Nat) : List Nat := (List.range n).map (wrdL l)
def wordsL (l : List Nat) : List Nat := wordsF l (lenW l)
theorem wordsL_ext {a b : List Nat} (h : ∀ x, x ∈ a ↔ x ∈ b) : wordsL a = wordsL b := by
  have e : lenW a = lenW b := Nat.le_antisymm (lenW_le.2 fun n hn => lenW_mem ((h n).1 hn)) (lenW_le.2 fun n hn => lenW_mem ((h n).2 hn))
  rw [wordsL, wordsL, e]
  unfold wordsF
  refine rng_congr fun i _ => wrdN_congr fun k _ => ?_
  rw [Bool.eq_iff_iff, decide_eq_true_iff, decide_eq_true_iff, h]
theorem wordsF_len (l : List Nat) (n : Nat) : (wordsF l n).length = n := by simp [wordsF]
theorem wordsL_len (l : List Nat) : (wordsL l).length = lenW l := wordsF_len _ _
theorem wordsF_at {l : List Nat} {n i : Nat} (hi : i < n) : (wordsF l n)[i]? = some (wrdL l i) := by simp [wordsF, hi]
theorem wrdL_lt (l : List Nat) (i : Nat) : wrdL l i < 18446744073709551616 := wrdN_lt _ 64
theorem wordsF_more {l : List Nat} {n : Nat} (h : lenW l ≤ n) : wordsF l n ++ [0] = wordsF l (n + 1) := by
  unfold wordsF
  rw [List.range_succ, List.map_append]
  congr 1
  show [0] = [wrdL l n]
  congr 1
  symm
  rw [wrdL, wrdN_0]
  intro k hk
  refine decide_eq_false fun q => ?_
  have := lenW_mem q
  omega
theorem wordsF_set {l : List Nat} {n a : Nat} : (wordsF l n).set (a / 64) (wrdL l (a / 64) ||| 2 ^ (a % 64)) = wordsF (l ++ [a]) n := by
  apply List.ext_getElem (by simp [wordsF])
  intro i h1 h2
  simp only [List.getElem_set, wordsF, List.getElem_map, List.getElem_range]
  by_cases e : a / 64 = i
  · subst e
    rw [if_pos rfl, wrdL, wrdN_or (Nat.mod_lt _ (by decide)), wrdL]
    refine wrdN_congr fun k hk => ?_
    rw [Bool.eq_iff_iff]
    simp only [Bool.or_eq_true, decide_eq_true_eq, beq_iff_eq, List.mem_append, List.mem_singleton]
    have hk : k = a % 64 ↔ 64 * (a / 64) + k = a := by omega
    rw [hk]
  · rw [if_neg e, wrdL, wrdL]
    refine wrdN_congr fun k hk => ?_
    rw [Bool.eq_iff_iff]
    simp only [decide_eq_true_eq, List.mem_append, List.mem_singleton]
    have hn : 64 * i + k ≠ a := by omega
    simp [hn]
/-- The last word is not 0. -/
theorem words_last {l : List Nat} (h : 0 < lenW l) : wrdL l (lenW l - 1) ≠ 0 := by
  obtain ⟨n, hn, e⟩ := lenW_last (show lenW l ≠ 0 by omega)
  intro q
  rw [wrdL, wrdN_0] at q
  have := q (n % 64) (Nat.mod_lt _ (by decide))
  have e2 : 64 * (lenW l - 1) + n % 64 = n := by omega
  rw [e2] at this
  exact absurd hn (of_decide_eq_false this)
def wrdsA (l : List Nat) : List (List AV) := l.map fun n : Nat => [.v (.int .u64 (n : Int))]
theorem wrdsA_one (l : List Nat) : ∀ r ∈ wrdsA l, r.all AV.one = true := by
  intro r hr; obtain ⟨a, _, rfl⟩ := List.mem_map.1 hr; rfl
end Go.H
/- How far nodes are: waves, aS the program goes through them and aS the reference does; the way down. Conditions: aS each lemma states. -/
set_option linter.unusedVariables false
set_option linter.unusedSimpArgs false
namespace Go.H
open Go Go.Ab
/-- Walks of so many steps. -/
inductive Wk (E : Nat → Nat → Prop) : Nat → Nat → Nat → Prop where
  | nil (x : Nat) : Wk E 0 x x
  | snoc {n x y z : Nat} : Wk E n x y → E y z → Wk E (n + 1) x z
theorem Wk.zero {E : Nat → Nat → Prop} {x y : Nat} (h : Wk E 0 x y) : x = y := by cases h; rfl
theorem Wk.succ {E : Nat → Nat → Prop} {n x z : Nat} (h : Wk E (n + 1) x z) : ∃ y, Wk E n x y ∧ E y z := by
  cases h with
  | snoc a b => exact ⟨_, a, b⟩
theorem Wk.rch {E : Nat → Nat → Prop} {n x y : Nat} (h : Wk E n x y) : Rch E x y := by
  induction h with
  | nil => exact .refl _
  | snoc _ e ih => exact .tail ih e
/-- The least number of steps. -/
def DistI (E : Nat → Nat → Prop) (s v d : Nat) : Prop := Wk E d s v ∧ ∀ k, k < d → ¬ Wk E k s v
theorem DistI.uniq {E : Nat → Nat → Prop} {s v d e : Nat} (h : DistI E s v d) (k : DistI E s v e) : d = e := by
  rcases Nat.lt_trichotomy d e with q | q | q
  · exact absurd h.1 (k.2 d q)
  · exact q
  · exact absurd k.1 (h.2 e q)
theorem Wk.dist {E : Nat → Nat → Prop} {s v : Nat} : ∀ {n : Nat}, Wk E n s v → ∃ d, d ≤ n ∧ DistI E s v d := by
  intro n
  induction n using Nat.strongRecOn with
  | _ n ih =>
    intro h
    by_cases q : ∃ k, k < n ∧ Wk E k s v
    · obtain ⟨k, hk, w⟩ := q
      obtain ⟨d, hd, e⟩ := ih k hk w
      exact ⟨d, by omega, e⟩
    · exact ⟨n, Nat.le_refl _, h, fun k hk w => q ⟨k, hk, w⟩⟩
theorem DistI.zero (E : Nat → Nat → Prop) (s : Nat) : DistI E s s 0 := ⟨.nil s, fun k hk => absurd hk (Nat.not_lt_zero _)⟩
/-- One step on of the least: at most one more. -/
theorem DistI.step {E : Nat → Nat → Prop} {s u v d : Nat} (h : DistI E s u d) (e : E u v) : ∃ k, k ≤ d + 1 ∧ DistI E s v k := (Wk.snoc h.1 e).dist
/-- Ahead of the last step. -/
theorem DistI.pred {E : Nat → Nat → Prop} {s v d : Nat} (h : DistI E s v (d + 1)) : ∃ u, DistI E s u d ∧ E u v := by
  obtain ⟨u, w, e⟩ := h.1.succ
  obtain ⟨k, hk, q⟩ := w.dist
  have : k = d := by
    rcases Nat.lt_or_eq_of_le hk with q2 | q2
    · exact absurd (Wk.snoc q.1 e) (h.2 (k + 1) (by omega))
    · exact q2
  exact ⟨u, this ▸ q, e⟩
theorem DistI.below {E : Nat → Nat → Prop} {s v : Nat} : ∀ {d : Nat}, DistI E s v d → ∀ k, k ≤ d → ∃ u, DistI E s u k
  | 0, h, k, hk => by
    have : k = 0 := by omega
    subst this; exact ⟨v, h⟩
  | d + 1, h, k, hk => by
    by_cases e : k = d + 1
    · exact ⟨v, e ▸ h⟩
    · obtain ⟨u, hu, _⟩ := h.pred
      exact hu.below k (by omega)
open Classical in
/-- How far, or -1. -/
noncomputable def farI (E : Nat → Nat → Prop) (s v : Nat) : Int := if h : ∃ d, DistI E s v d then ((Classical.choose h : Nat) : Int) else -1
theorem farI_some {E : Nat → Nat → Prop} {s v d : Nat} (h : DistI E s v d) : farI E s v = d := by
  have hx : ∃ d, DistI E s v d := ⟨d, h⟩
  unfold farI
  rw [dif_pos hx, (Classical.choose_spec hx).uniq h]
theorem farI_none {E : Nat → Nat → Prop} {s v : Nat} (h : ∀ d, ¬ DistI E s v d) : farI E s v = -1 := by
  unfold farI
  rw [dif_neg (fun ⟨d, q⟩ => h d q)]
theorem farI_iff {E : Nat → Nat → Prop} {s v d : Nat} : farI E s v = (d : Int) ↔ DistI E s v d := by
  constructor
  · intro h
    by_cases q : ∃ d, DistI E s v d
    · obtain ⟨e, q⟩ := q
      rw [farI_some q] at h
      rw [show d = e by omega]; exact q
    · rw [farI_none (fun d w => q ⟨d, w⟩)] at h; omega
  · exact farI_some
theorem farI_ge (E : Nat → Nat → Prop) (s v : Nat) : -1 ≤ farI E s v := by
  by_cases q : ∃ d, DistI E s v d
  · obtain ⟨d, q⟩ := q; rw [farI_some q]; omega
  · rw [farI_none (fun d w => q ⟨d, w⟩)]; omega
/-! Waves, aS the program goes through them: who was met, and the wave. -/
section
variable (E : Nat → Nat → Prop) (s : Nat)
structure WInv (met : Nat → Bool) (wave : List Nat) (n : Nat) : Prop where
  met : ∀ v, met v = true ↔ ∃ k, k ≤ n ∧ DistI E s v k
  wave : ∀ v, v ∈ wave ↔ DistI E s v n
structure WMid (met : Nat → Bool) (next : List Nat) (n : Nat) (wave : List Nat) (i : Nat) (row : List Nat) (j : Nat) : Prop where
  waveM : ∀ v, v ∈ wave ↔ DistI E s v n
  old : ∀ v k, k ≤ n → DistI E s v k → met v = true
  new : ∀ v, met v = true → (∃ k, k ≤ n ∧ DistI E s v k) ∨ v ∈ next
  next : ∀ v, v ∈ next → met v = true ∧ DistI E s v (n + 1)
  rows : ∀ a, a < i → ∀ v, wave[a]? = some v → ∀ y, E v y → met y = true
  row : ∀ b, b < j → ∀ y, row[b]? = some y → ∀ v, wave[i]? = some v → E v y → met y = true
variable {E s}
theorem WInv.start : WInv E s (fun v => v == s) [s] 0 :=
  ⟨fun v => by
    rw [beq_iff_eq]
    constructor
    · rintro rfl; exact ⟨0, Nat.le_refl _, .zero E v⟩
    · rintro ⟨k, hk, h⟩
      obtain rfl : k = 0 := by omega
      exact h.1.zero.symm,
   fun v => by
    rw [List.mem_singleton]
    constructor
    · rintro rfl; exact .zero E v
    · intro h; exact h.1.zero.symm⟩
theorem WInv.mid {met : Nat → Bool} {wave : List Nat} {n : Nat} (h : WInv E s met wave n) (row : List Nat) : WMid E s met [] n wave 0 row 0 :=
  ⟨h.wave, fun v k hk q => (h.met v).2 ⟨k, hk, q⟩, fun v q => .inl ((h.met v).1 q), fun v q => (by cases q), fun a q => absurd q (Nat.not_lt_zero _), fun b q => absurd q (Nat.not_lt_zero _)⟩
theorem WMid.skip {met : Nat → Bool} {next wave row : List Nat} {n i j y : Nat} (h : WMid E s met next n wave i row j) (hy : row[j]? = some y) (hm : met y = true ∨ ∀ v, wave[i]? = some v → ¬ E v y) : WMid E s met next n wave i row (j + 1) :=
  ⟨h.waveM, h.old, h.new, h.next, h.rows, fun b hb z hz v hv e => by
    by_cases q : b = j
    · subst q; rw [hy] at hz; injection hz with hz; subst hz
      rcases hm with hm | hm
      · exact hm
      · exact absurd e (hm v hv)
    · exact h.row b (by omega) z hz v hv e⟩
theorem WMid.mark {met : Nat → Bool} {next wave row : List Nat} {n i j y v : Nat} (h : WMid E s met next n wave i row j) (hv : wave[i]? = some v) (hy : row[j]? = some y) (he : E v y) (hm : met y = false) : WMid E s (updB met y) (next ++ [y]) n wave i row (j + 1) := by
  have mono : ∀ x, met x = true → updB met y x = true := fun x hx => by unfold updB; split <;> simp [hx]
  have hd : DistI E s y (n + 1) := by
    have hvn := (h.waveM v).1 (List.mem_of_getElem? hv)
    obtain ⟨k, hk, q⟩ := hvn.step he
    rcases Nat.lt_or_eq_of_le hk with w | w
    · have := h.old y k (by omega) q; rw [hm] at this; cases this
    · exact w ▸ q
  refine ⟨h.waveM, fun v k hk q => mono v (h.old v k hk q), fun x hx => ?_, fun x hx => ?_, fun a ha u hu z e => mono z (h.rows a ha u hu z e), fun b hb z hz u hu e => ?_⟩
  · by_cases e : x = y
    · right; rw [e]; simp
    · rw [updB, if_neg e] at hx
      rcases h.new x hx with q | q
      · exact .inl q
      · right; simp [q]
  · rcases List.mem_append.1 hx with q | q
    · exact ⟨mono x (h.next x q).1, (h.next x q).2⟩
    · rw [List.mem_singleton] at q; subst q; exact ⟨by simp [updB], hd⟩
  · by_cases q : b = j
    · subst q; rw [hy] at hz; injection hz with hz; subst hz; simp [updB]
    · exact mono z (h.row b (by omega) z hz u hu e)
/-- A node's row is done: all edges of it stand there. -/
theorem WMid.on {met : Nat → Bool} {next wave row : List Nat} {n i v : Nat} (h : WMid E s met next n wave i row row.length) (hv : wave[i]? = some v) (hr : ∀ y, E v y → y ∈ row) (row' : List Nat) : WMid E s met next n wave (i + 1) row' 0 :=
  ⟨h.waveM, h.old, h.new, h.next, fun a ha u hu y e => by
    by_cases q : a = i
    · subst q
      rw [hv] at hu; injection hu with hu; subst hu
      obtain ⟨b, hb, eb⟩ := List.mem_iff_getElem.1 (hr y e)
      exact h.row b hb y (by rw [List.getElem?_eq_getElem hb, eb]) v hv e
    · exact h.rows a (by omega) u hu y e, fun b q => absurd q (Nat.not_lt_zero _)⟩
theorem WMid.fin {met : Nat → Bool} {next wave row : List Nat} {n : Nat} (h : WMid E s met next n wave wave.length row 0) : WInv E s met next (n + 1) :=
  have key : ∀ y, DistI E s y (n + 1) → y ∈ next := fun y q => by
    obtain ⟨u, hu, e⟩ := q.pred
    obtain ⟨a, ha, ea⟩ := List.mem_iff_getElem.1 ((h.waveM u).2 hu)
    have := h.rows a ha u (by rw [List.getElem?_eq_getElem ha, ea]) y e
    rcases h.new y this with ⟨k, hk, w⟩ | w
    · have := w.uniq q; omega
    · exact w
  ⟨fun v => by
    constructor
    · intro q
      rcases h.new v q with ⟨k, hk, w⟩ | w
      · exact ⟨k, by omega, w⟩
      · exact ⟨n + 1, Nat.le_refl _, (h.next v w).2⟩
    · rintro ⟨k, hk, q⟩
      by_cases e : k = n + 1
      · subst e; exact (h.next v (key v q)).1
      · exact h.old v k (by omega) q,
   fun v => ⟨fun q => (h.next v q).2, key v⟩⟩
/-- No wave more: all that can be met was. -/
theorem WInv.all {met : Nat → Bool} {n : Nat} (h : WInv E s met [] n) {v d : Nat} (q : DistI E s v d) : d < n := by
  apply Classical.byContradiction
  intro w
  obtain ⟨u, hu⟩ := q.below n (by omega)
  have := (h.wave u).2 hu
  cases this
end
end Go.H
/- How far nodes are, by a table that is looked over. Conditions: aS each lemma states. -/
set_option linter.unusedVariables false
set_option linter.unusedSimpArgs false
namespace Go.H
open Go Go.Ab
def certB (n : Nat) (nb : Nat → List Nat) (s : Nat) (f : Nat → Int) : Bool :=
  decide (s < n) && (f s == 0 && ((List.range n).all (fun v => f v == -1 || (decide (0 < f v) && (List.range n).any fun u => f u == f v - 1 && (nb u).contains v) || v == s) &&
    (List.range n).all fun u => (nb u).all fun v => decide (v < n) && (decide (f u < 0) || (decide (0 ≤ f v) && decide (f v ≤ f u + 1)))))
section
variable {n : Nat} {nb : Nat → List Nat} {s : Nat} {f : Nat → Int} {E : Nat → Nat → Prop}
theorem cert_up (h : ∀ u v, u < n → (E u v ↔ v ∈ nb u)) (hc : certB n nb s f = true) {k v : Nat} (w : Wk E k s v) : v < n ∧ 0 ≤ f v ∧ f v ≤ k := by
  simp only [certB, Bool.and_eq_true, decide_eq_true_eq, beq_iff_eq, List.all_eq_true, List.mem_range, Bool.or_eq_true] at hc
  obtain ⟨h1, h2, h3, h4⟩ := hc
  induction w with
  | nil => exact ⟨h1, by omega, by omega⟩
  | snoc _ e ih =>
    obtain ⟨a, b, c⟩ := ih h1 h2 h3
    have := h4 _ a _ ((h _ _ a).1 e)
    refine ⟨this.1, ?_⟩
    rcases this.2 with q | q
    · omega
    · refine ⟨q.1, ?_⟩
      have := q.2
      omega
theorem cert_wk (h : ∀ u v, u < n → (E u v ↔ v ∈ nb u)) (hc : certB n nb s f = true) : ∀ (d : Nat) (v : Nat), v < n → f v = d → Wk E d s v := by
  simp only [certB, Bool.and_eq_true, decide_eq_true_eq, beq_iff_eq, List.all_eq_true, List.mem_range, Bool.or_eq_true, List.any_eq_true, List.contains_iff_mem] at hc
  obtain ⟨h1, h2, h3, h4⟩ := hc
  intro d
  induction d with
  | zero =>
    intro v hv e
    rcases h3 v hv with (q | q) | q
    · omega
    · have := q.1; omega
    · rw [q]; exact .nil s
  | succ d ih =>
    intro v hv e
    rcases h3 v hv with (q | q) | q
    · omega
    · obtain ⟨u, hu, e1, e2⟩ := q.2
      exact .snoc (ih u hu (by omega)) ((h u v hu).2 e2)
    · rw [q, h2] at e; omega
theorem cert_far (h : ∀ u v, u < n → (E u v ↔ v ∈ nb u)) (hc : certB n nb s f = true) (v : Nat) (hv : v < n) : farI E s v = f v := by
  by_cases q : 0 ≤ f v
  · obtain ⟨d, hd⟩ : ∃ d : Nat, f v = d := ⟨(f v).toNat, by omega⟩
    rw [hd]
    refine farI_some ⟨cert_wk h hc d v hv hd, fun k hk w => ?_⟩
    have := (cert_up h hc w).2.2
    omega
  · have e : f v = -1 := by
      simp only [certB, Bool.and_eq_true, decide_eq_true_eq, beq_iff_eq, List.all_eq_true, List.mem_range, Bool.or_eq_true] at hc
      rcases hc.2.2.1 v hv with (a | a) | a
      · exact a
      · have := a.1; omega
      · rw [a, hc.2.1] at q; omega
    rw [e]
    refine farI_none fun d hd => ?_
    have := (cert_up h hc hd.1).2.1
    omega
end
end Go.H
/- Components of graphs: what package scc tells, and what law 06 says of it. Conditions: aS each lemma states. -/
set_option linter.unusedVariables false
set_option linter.unusedSimpArgs false
namespace Go.H
open Go Go.Ab
abbrev nG (g : Gr) : Nat := g.n.toNat
noncomputable def setsG (g : Gr) : List (List Nat) := setsN (nG g) (adjG g)
noncomputable def rndG (g : Gr) : List Nat := (List.range (nG g)).filter fun v => ldB (adjG g) v v
noncomputable def grpG (g : Gr) : List Nat := ((setsG g).filter fun C => C.length != 1).flatten
def revE (e : Ed) : Ed := ⟨e.t, e.f, e.k⟩
def revG (g : Gr) : Gr := ⟨g.n, ofE (g.es.map revE)⟩
theorem adj_n {g : Gr} (h : GOk g) {u v : Nat} (q : v ∈ adjG g u) : u < nG g ∧ v < nG g ∧ u ≠ v := by
  have := adj_lt h q
  unfold nG; omega
theorem adj_in {g : Gr} (h : GOk g) : ∀ u, u < nG g → ∀ v ∈ adjG g u, v < nG g := fun u _ v q => (adj_n h q).2.1
theorem ed_nat {g : Gr} (h : GOk g) {e : Ed} (he : e ∈ g.es) : e.f.toNat < nG g ∧ e.t.toNat < nG g ∧ (e.f.toNat : Int) = e.f ∧ (e.t.toNat : Int) = e.t ∧ e.f ≠ e.t := by
  have := edge_iff.1 (h.each e he)
  unfold nG; omega
theorem sets_le (g : Gr) : (setsG g).length ≤ nG g := by
  unfold setsG setsN setsK
  rw [List.length_map]
  exact Nat.le_trans (List.length_filter_le _ _) (by simp)
theorem set_in {g : Gr} {C : List Nat} (hC : C ∈ setsG g) {v : Nat} (hv : v ∈ C) : v < nG g := by
  obtain ⟨i, hi, rfl⟩ := List.mem_iff_getElem.1 hC
  obtain ⟨x, _, _, e⟩ := sets_at hi
  have e : (setsG g)[i] = setN (nG g) (adjG g) x := e
  rw [e] at hv; exact (set_mem.1 hv).1
/-! Who goes round. -/
theorem grp_mem {g : Gr} (h : GOk g) {v : Nat} : v ∈ grpG g ↔ v ∈ rndG g := by
  unfold grpG rndG
  simp only [List.mem_flatten, List.mem_filter, List.mem_range, ldB_iff]
  constructor
  · rintro ⟨C, ⟨hC, hl⟩, hv⟩
    obtain ⟨i, hi, rfl⟩ := List.mem_iff_getElem.1 hC
    refine ⟨set_in hC hv, (round_iff (fun u q => (adj_n h q).2.2 rfl) (fun u v q => (adj_n h q).2.1) hi hv).2 ?_⟩
    have h1 : (setsG g)[i].length ≠ 1 := by simpa using hl
    have h2 := List.length_pos_of_mem hv
    show 1 < (setsG g)[i].length
    omega
  · rintro ⟨hv, hr⟩
    obtain ⟨hi, hm⟩ := of_lt (a := adjG g) hv
    refine ⟨_, ⟨List.getElem_mem hi, ?_⟩, hm⟩
    have h3 : 1 < ((setsG g)[ofN (nG g) (adjG g) v]'hi).length := (round_iff (fun u q => (adj_n h q).2.2 rfl) (fun u v q => (adj_n h q).2.1) hi hm).1 hr
    have h4 : ((setsG g)[ofN (nG g) (adjG g) v]'hi).length ≠ 1 := by omega
    exact bne_iff_ne.2 h4
theorem grp_words {g : Gr} (h : GOk g) : wordsL (grpG g) = wordsL (rndG g) := wordsL_ext fun x => grp_mem h
theorem grp_lt {g : Gr} {v : Nat} (hv : v ∈ grpG g) : v < nG g := by
  obtain ⟨C, hC, hv⟩ := List.mem_flatten.1 hv
  exact set_in (List.mem_filter.1 hC).1 hv
theorem grp_len (g : Gr) : (grpG g).length ≤ nG g := by
  have h1 : ((setsG g).flatten).length = nG g := sets_many _ _
  have h2 : ∀ L : List (List Nat), (L.filter fun C => C.length != 1).flatten.length ≤ L.flatten.length := by
    intro L
    induction L with
    | nil => exact Nat.le_refl _
    | cons a r ih =>
      rw [List.filter_cons]
      split
      · simp only [List.flatten_cons, List.length_append]; omega
      · simp only [List.flatten_cons, List.length_append]; omega
  rw [← h1]; exact h2 _
/-! Within components, and of them. -/
theorem ofE_len (l : List Ed) : (ofE l).length ≤ l.length := by
  have h1 := (ofE_srt l)
  have hnd : (ofE l).Nodup := h1.imp fun {a b} q e => by
    subst e
    have : cmpE a a < 0 := q
    rw [cmpE_self] at this; omega
  exact hnd.length_le_of_subset fun x hx => ofE_mem.1 hx
/-! Turned round. -/
theorem rev_ok {g : Gr} (h : GOk g) : GOk (revG g) := by
  refine ⟨h.n0, h.n1, Nat.le_trans (ofE_len _) (by rw [List.length_map]; exact h.many), fun e he => ?_, ofE_srt _⟩
  obtain ⟨x, hx, rfl⟩ := List.mem_map.1 (ofE_mem.1 he)
  have := edge_iff.1 (h.each x hx)
  show edgeB g.n (revE x) = true
  rw [edge_iff]; unfold revE; simp only; omega
theorem rev_adj {g : Gr} (h : GOk g) (u v : Nat) : Edg (adjG (revG g)) u v ↔ Edg (adjG g) v u := by
  show v ∈ adjG (revG g) u ↔ u ∈ adjG g v
  rw [adj_mem (rev_ok h), adj_mem h]
  constructor
  · rintro ⟨k, hk⟩
    obtain ⟨x, hx, e⟩ := List.mem_map.1 (ofE_mem.1 hk)
    refine ⟨k, ?_⟩
    unfold revE at e
    injection e with a b c
    have : x = ⟨(v : Int), (u : Int), k⟩ := by cases x; simp only [Ed.mk.injEq] at *; omega
    rw [← this]; exact hx
  · rintro ⟨k, hk⟩
    exact ⟨k, ofE_mem.2 (List.mem_map.2 ⟨_, hk, rfl⟩)⟩
/-! The numbers of components, filled in. -/
end Go.H
/- How far nodes are: the reference's waves; the way down. Conditions: aS each lemma states. -/
set_option linter.unusedVariables false
set_option linter.unusedSimpArgs false
namespace Go.H
open Go Go.Ab
section
variable (E : Nat → Nat → Prop) (s : Nat)
structure RInv (out : Nat → Int) (wave : List Nat) (n : Nat) : Prop where
  out : ∀ v, out v = if farI E s v < (n : Int) then farI E s v else -1
  wk : ∀ v ∈ wave, Wk E n s v
  all : ∀ v, DistI E s v n → v ∈ wave
structure RMid (out : Nat → Int) (next wave : List Nat) (n i : Nat) : Prop where
  out : ∀ v, out v = if farI E s v < (n : Int) ∨ (farI E s v = n ∧ v ∈ wave.take i) then farI E s v else -1
  wk : ∀ v ∈ wave, Wk E n s v
  all : ∀ v, DistI E s v n → v ∈ wave
  nwk : ∀ z ∈ next, Wk E (n + 1) s z
  nall : ∀ v ∈ wave.take i, DistI E s v n → ∀ z, E v z → z ∈ next
variable {E s}
theorem RInv.start : RInv E s (fun _ => -1) [s] 0 :=
  ⟨fun v => by
    split
    · rename_i h; have := farI_ge E s v; omega
    · rfl,
   fun v hv => by rw [List.mem_singleton] at hv; subst hv; exact .nil v, fun v h => by rw [List.mem_singleton]; exact h.1.zero.symm⟩
theorem RInv.mid {out : Nat → Int} {wave : List Nat} {n : Nat} (h : RInv E s out wave n) : RMid E s out [] wave n 0 :=
  ⟨fun v => by rw [h.out]; simp, h.wk, h.all, fun z hz => (by cases hz), fun v hv => (by simp at hv)⟩
theorem take_mem {α : Type} [DecidableEq α] {l : List α} {i : Nat} {v x : α} (hi : i < l.length) (he : l[i] = x) : v ∈ l.take (i + 1) ↔ v ∈ l.take i ∨ v = x := by
  rw [List.take_succ_eq_append_getElem hi, List.mem_append, List.mem_singleton, he]
/-- It was met. -/
theorem RMid.skip {out : Nat → Int} {next wave : List Nat} {n i v : Nat} (h : RMid E s out next wave n i) (hi : i < wave.length) (hv : wave[i] = v) (ho : 0 ≤ out v) : RMid E s out next wave n (i + 1) := by
  have hf : farI E s v < (n : Int) ∨ (farI E s v = n ∧ v ∈ wave.take i) := by
    have := h.out v
    split at this
    · assumption
    · omega
  refine ⟨fun u => ?_, h.wk, h.all, h.nwk, fun u hu hd z e => ?_⟩
  · rw [h.out]
    have : (farI E s u = n ∧ u ∈ wave.take (i + 1)) ↔ (farI E s u = n ∧ u ∈ wave.take i) ∨ (farI E s u = n ∧ u = v) := by
      rw [take_mem hi hv]; constructor
      · rintro ⟨a, b | b⟩
        · exact .inl ⟨a, b⟩
        · exact .inr ⟨a, b⟩
      · rintro (⟨a, b⟩ | ⟨a, b⟩)
        · exact ⟨a, .inl b⟩
        · exact ⟨a, .inr b⟩
    by_cases q : farI E s u < (n : Int) ∨ (farI E s u = n ∧ u ∈ wave.take i)
    · rw [if_pos q, if_pos (by rw [this]; rcases q with q | q; exact .inl q; exact .inr (.inl q))]
    · rw [if_neg q, if_neg (by
        rw [this]
        rintro (a | a | ⟨a, rfl⟩)
        · exact q (.inl a)
        · exact q (.inr a)
        · exact q hf)]
  · rcases (take_mem hi hv).1 hu with hu | rfl
    · exact h.nall u hu hd z e
    · rcases hf with q | q
      · rw [farI_some hd] at q; omega
      · exact h.nall u q.2 hd z e
/-- It is met now. -/
theorem RMid.take {out out' : Nat → Int} {next row wave : List Nat} {n i v : Nat} (h : RMid E s out next wave n i) (hi : i < wave.length) (hv : wave[i] = v) (ho : out v < 0) (hr : ∀ z, z ∈ row ↔ E v z) (ho' : ∀ u, out' u = if u = v then (n : Int) else out u) : DistI E s v n ∧ RMid E s out' (next ++ row) wave n (i + 1) := by
  have hw : v ∈ wave := by rw [← hv]; exact List.getElem_mem hi
  have hd : DistI E s v n := by
    obtain ⟨d, hd, q⟩ := (h.wk v hw).dist
    rcases Nat.lt_or_eq_of_le hd with w | w
    · have := h.out v
      rw [farI_some q, if_pos (.inl (by omega))] at this; omega
    · exact w ▸ q
  refine ⟨hd, fun u => ?_, h.wk, h.all, fun z hz => ?_, fun u hu hdu z e => ?_⟩
  · rw [ho', h.out]
    have hm := take_mem (v := u) hi hv
    by_cases q : u = v
    · rw [if_pos q, q, farI_some hd, if_pos (.inr ⟨rfl, (take_mem hi hv).2 (.inr rfl)⟩)]
    · rw [if_neg q]
      have : u ∈ wave.take (i + 1) ↔ u ∈ wave.take i := by rw [hm]; exact ⟨fun a => a.resolve_right q, .inl⟩
      simp only [this]
  · rcases List.mem_append.1 hz with hz | hz
    · exact h.nwk z hz
    · exact .snoc hd.1 ((hr z).1 hz)
  · rw [List.mem_append]
    rcases (take_mem hi hv).1 hu with hu | rfl
    · exact .inl (h.nall u hu hdu z e)
    · exact .inr ((hr z).2 e)
theorem RMid.fin {out : Nat → Int} {next wave : List Nat} {n : Nat} (h : RMid E s out next wave n wave.length) : RInv E s out next (n + 1) :=
  ⟨fun v => by
    rw [h.out, List.take_length]
    have : (farI E s v < (n : Int) ∨ (farI E s v = n ∧ v ∈ wave)) ↔ farI E s v < ((n + 1 : Nat) : Int) := by
      constructor
      · rintro (q | q) <;> omega
      · intro q
        by_cases q2 : farI E s v = n
        · exact .inr ⟨q2, h.all v (farI_iff.1 q2)⟩
        · exact .inl (by omega)
    by_cases q : farI E s v < ((n + 1 : Nat) : Int)
    · rw [if_pos (this.2 q), if_pos q]
    · rw [if_neg (fun w => q (this.1 w)), if_neg q], h.nwk, fun v q => by
    obtain ⟨u, hu, e⟩ := q.pred
    exact h.nall u (by rw [List.take_length]; exact h.all u hu) hu v e⟩
theorem RInv.fin {out : Nat → Int} {n : Nat} (h : RInv E s out [] n) (v : Nat) : out v = farI E s v := by
  rw [h.out]
  split
  · rfl
  · rename_i q
    have hg := farI_ge E s v
    obtain ⟨d, hd⟩ : ∃ d : Nat, farI E s v = d := ⟨(farI E s v).toNat, by omega⟩
    have hD := farI_iff.1 hd
    obtain ⟨u, hu⟩ := hD.below n (by omega)
    have := h.all u hu
    cases this
/-- How many are not yet met: of the reference's. -/
def cntI (n : Nat) (out : Nat → Int) : Nat := ((List.range n).filter fun x => decide (out x < 0)).length
theorem cntI_upd {m : Nat} {out out' : Nat → Int} {y : Nat} (hn : y < m) (ho : out y < 0) (ho' : 0 ≤ out' y) (hne : ∀ x, x ≠ y → out' x = out x) : cntI m out' + 1 = cntI m out := by
  unfold cntI
  have : ∀ (l : List Nat), l.Nodup → y ∈ l → (l.filter fun x => decide (out' x < 0)).length + 1 = (l.filter fun x => decide (out x < 0)).length := by
    intro l
    induction l with
    | nil => intro _ h; cases h
    | cons a r ih =>
      intro hnd hm
      rw [List.nodup_cons] at hnd
      by_cases e : a = y
      · subst e
        have hr : (r.filter fun x => decide (out' x < 0)) = r.filter fun x => decide (out x < 0) := by
          refine List.filter_congr fun x hx => ?_
          rw [hne x (fun e => hnd.1 (e ▸ hx))]
        rw [List.filter_cons, List.filter_cons, hr, if_neg (by simp; omega), if_pos (by simpa using ho)]
        simp
      · rcases List.mem_cons.1 hm with q | q
        · exact absurd q.symm e
        · have := ih hnd.2 q
          rw [List.filter_cons, List.filter_cons, hne a e]
          split
          · simp only [List.length_cons]; omega
          · exact this
  exact this _ List.nodup_range (List.mem_range.2 hn)
end
/-! The way down. -/
/-- The next one: the least whose distance is one less. -/
def nxtD (row : Nat → List Nat) (left : Nat → Int) (v : Nat) : Nat := ((row v).find? fun w => left w == left v - 1).getD 0
def downV (row : Nat → List Nat) (left : Nat → Int) (v : Nat) : Nat → Nat
  | 0 => v
  | k + 1 => nxtD row left (downV row left v k)
def downL (row : Nat → List Nat) (left : Nat → Int) (v n : Nat) : List Nat := (List.range (n + 1)).map (downV row left v)
theorem downL_s (row : Nat → List Nat) (left : Nat → Int) (v n : Nat) : downL row left v (n + 1) = downL row left v n ++ [downV row left v (n + 1)] := by
  rw [downL, downL, List.range_succ (n := n + 1), List.map_append]; rfl
/-- Of each node that is not at the end the distance falls along some edge. -/
def Falls (row : Nat → List Nat) (left : Nat → Int) : Prop := ∀ v (c : Nat), left v = (c : Int) + 1 → ∃ w ∈ row v, left w = c
theorem nxt_get {row : Nat → List Nat} {left : Nat → Int} (hf : Falls row left) {v c : Nat} (h : left v = (c : Int) + 1) : (row v).find? (fun w => left w == left v - 1) = some (nxtD row left v) ∧ nxtD row left v ∈ row v ∧ left (nxtD row left v) = c := by
  cases hq : (row v).find? (fun w => left w == left v - 1) with
  | none =>
    obtain ⟨w, hw, e⟩ := hf v c h
    have := List.find?_eq_none.1 hq w hw
    rw [e, h] at this
    exact absurd (by simp) this
  | some w =>
    have e : nxtD row left v = w := by rw [nxtD, hq]; rfl
    have := List.find?_some hq
    have := eq_of_beq this
    exact ⟨by rw [e], by rw [e]; exact List.mem_of_find?_eq_some hq, by rw [e, this, h]; omega⟩
theorem down_left {row : Nat → List Nat} {left : Nat → Int} (hf : Falls row left) {v d : Nat} (h : left v = d) : ∀ k, k ≤ d → left (downV row left v k) = (d : Int) - k
  | 0, _ => by rw [downV, h]; simp
  | k + 1, hk => by
    have ih := down_left hf h k (by omega)
    obtain ⟨_, _, e⟩ := nxt_get hf (v := downV row left v k) (c := d - k - 1) (by rw [ih]; omega)
    rw [downV, e]; omega
theorem down_edge {row : Nat → List Nat} {left : Nat → Int} (hf : Falls row left) {v d : Nat} (h : left v = d) {k : Nat} (hk : k < d) : downV row left v (k + 1) ∈ row (downV row left v k) := by
  have ih := down_left hf h k (by omega)
  exact (nxt_get hf (v := downV row left v k) (c := d - k - 1) (by rw [ih]; omega)).2.1
end Go.H
/- Shortest cycles: of a node, of all; turned. Conditions: aS each lemma states. -/
set_option linter.unusedVariables false
set_option linter.unusedSimpArgs false
namespace Go.H
open Go Go.Ab
/-- Back along an edge, onto nodes that are not below one. -/
def ErB (row : Nat → List Nat) (m : Nat) (u w : Nat) : Prop := u ∈ row w ∧ m ≤ w
theorem er_falls (row : Nat → List Nat) (m v : Nat) : Falls row (farI (ErB row m) v) := fun u c h => by
  obtain ⟨x, hx, e⟩ := (farI_iff.1 (show farI (ErB row m) v u = ((c + 1 : Nat) : Int) by omega)).pred
  exact ⟨x, e.1, farI_some hx⟩
/-! The first step of a cycle. -/
def firS (left : Nat → Int) (b : Option Nat) (w : Nat) : Option Nat := if 0 < left w then (match b with | none => some w | some x => if left w < left x then some w else some x) else b
def firF (left : Nat → Int) (l : List Nat) : Option Nat := l.foldl (firS left) none
theorem firF_s (left : Nat → Int) (l : List Nat) (w : Nat) : firF left (l ++ [w]) = firS left (firF left l) w := by rw [firF, List.foldl_append]; rfl
/-- Of a row that rises it is the least one of the nearest. -/
def IsFir (left : Nat → Int) (l : List Nat) (w : Nat) : Prop := w ∈ l ∧ 0 < left w ∧ ∀ x ∈ l, 0 < left x → left w < left x ∨ (left w = left x ∧ w ≤ x)
theorem snocInd {α : Type} {p : List α → Prop} (h0 : p []) (hs : ∀ l a, p l → p (l ++ [a])) (l : List α) : p l := by
  rw [← List.reverse_reverse l]
  induction l.reverse with
  | nil => exact h0
  | cons a r ih => rw [List.reverse_cons]; exact hs _ _ ih
theorem firF_ok {left : Nat → Int} (l : List Nat) (hl : l.Pairwise (· ≤ ·)) : match firF left l with
    | none => ∀ x ∈ l, ¬ 0 < left x
    | some w => IsFir left l w := by
  revert hl
  refine snocInd (p := fun l => l.Pairwise (· ≤ ·) → match firF left l with
    | none => ∀ x ∈ l, ¬ 0 < left x
    | some w => IsFir left l w) (fun _ x hx => (by cases hx)) (fun r w ih hl => ?_) l
  · rw [List.pairwise_append] at hl
    have ih := ih hl.1
    have hw : ∀ x ∈ r, x ≤ w := fun x hx => hl.2.2 x hx w (by simp)
    rw [firF_s]
    unfold firS
    by_cases h0 : 0 < left w
    · rw [if_pos h0]
      cases hq : firF left r with
      | none =>
        rw [hq] at ih
        refine ⟨by simp, h0, fun x hx hp => ?_⟩
        rcases List.mem_append.1 hx with hx | hx
        · exact absurd hp (ih x hx)
        · rw [List.mem_singleton] at hx; subst hx; exact .inr ⟨rfl, Nat.le_refl _⟩
      | some y =>
        rw [hq] at ih
        obtain ⟨i1, i2, i3⟩ := ih
        simp only
        by_cases q : left w < left y
        · rw [if_pos q]
          refine ⟨by simp, h0, fun x hx hp => ?_⟩
          rcases List.mem_append.1 hx with hx | hx
          · have := i3 x hx hp; omega
          · rw [List.mem_singleton] at hx; subst hx; exact .inr ⟨rfl, Nat.le_refl _⟩
        · rw [if_neg q]
          refine ⟨by simp [i1], i2, fun x hx hp => ?_⟩
          rcases List.mem_append.1 hx with hx | hx
          · exact i3 x hx hp
          · rw [List.mem_singleton] at hx; subst hx
            have := hw y i1
            omega
    · rw [if_neg h0]
      cases hq : firF left r with
      | none =>
        rw [hq] at ih
        intro x hx
        rcases List.mem_append.1 hx with hx | hx
        · exact ih x hx
        · rw [List.mem_singleton] at hx; subst hx; exact h0
      | some y =>
        rw [hq] at ih
        refine ⟨by simp [ih.1], ih.2.1, fun x hx hp => ?_⟩
        rcases List.mem_append.1 hx with hx | hx
        · exact ih.2.2 x hx hp
        · rw [List.mem_singleton] at hx; subst hx; exact absurd hp h0
/-! A node's shortest cycle. -/
noncomputable def lefB (row : Nat → List Nat) (m v : Nat) : Nat → Int := farI (ErB row m) v
noncomputable def rndN (row : Nat → List Nat) (m v : Nat) : Option (List Nat) := match firF (lefB row m v) (row v) with
  | none => none
  | some w => some (v :: (downL row (lefB row m v) w (lefB row m v w).toNat).dropLast)
theorem downL_len (row : Nat → List Nat) (left : Nat → Int) (v n : Nat) : (downL row left v n).length = n + 1 := by simp [downL]
theorem rnd_some {row : Nat → List Nat} {m v : Nat} {l : List Nat} (h : rndN row m v = some l) (hr : (row v).Pairwise (· < ·)) : ∃ w d : Nat, w ∈ row v ∧ lefB row m v w = (d : Int) ∧ 0 < d ∧ l.length = d + 1 ∧ l = v :: (List.range d).map (downV row (lefB row m v) w) ∧ ∀ x ∈ row v, 0 < lefB row m v x → (d : Int) ≤ lefB row m v x := by
  unfold rndN at h
  have := firF_ok (left := lefB row m v) (row v) (hr.imp Nat.le_of_lt)
  split at h
  · cases h
  · rename_i w hw
    injection h with h
    rw [hw] at this
    obtain ⟨h1, h2, h3⟩ := this
    refine ⟨w, (lefB row m v w).toNat, h1, by omega, by omega, ?_, ?_, fun x hx hp => ?_⟩
    · rw [← h]; simp [downL]
    · rw [← h, downL, List.range_succ, List.map_append, List.map_singleton, List.dropLast_concat]
    · have := h3 x hx hp; omega
/-- Closed walks: so many steps, over nodes that are not below one. -/
def CW (row : Nat → List Nat) (m v L : Nat) : Prop := ∃ w, w ∈ row v ∧ Wk (ErB row m) (L - 1) v w ∧ 2 ≤ L
theorem rnd_cw {row : Nat → List Nat} {m v : Nat} {l : List Nat} (h : rndN row m v = some l) (hr : (row v).Pairwise (· < ·)) : CW row m v l.length := by
  obtain ⟨w, d, h1, h2, h3, h4, _⟩ := rnd_some h hr
  exact ⟨w, h1, by rw [h4, Nat.add_sub_cancel]; exact (farI_iff.1 h2).1, by omega⟩
/-- Around: a closed row of nodes, of L steps. -/
structure Rnd (row : Nat → List Nat) (f : Nat → Nat) (L : Nat) : Prop where
  two : 2 ≤ L
  edge : ∀ i, f (i + 1) ∈ row (f i)
  per : ∀ i, f (i + L) = f i
/-! The shortest of all. -/
def shoS (b r : Option (List Nat)) : Option (List Nat) := match r with
  | none => b
  | some l => match b with
    | none => some l
    | some c => if l.length < c.length then some l else some c
noncomputable def cycK (row : Nat → List Nat) : Nat → Option (List Nat)
  | 0 => none
  | k + 1 => shoS (cycK row k) (rndN row k k)
/-- A shortest cycle of two cannot be bettered. -/
theorem cyc_two {row : Nat → List Nat} (hr : ∀ v, (row v).Pairwise (· < ·)) {k : Nat} {l : List Nat} (h : cycK row k = some l) (h2 : l.length = 2) : ∀ n, k ≤ n → cycK row n = some l := by
  intro n hn
  induction n with
  | zero => obtain rfl : k = 0 := by omega
            exact h
  | succ n ih =>
    by_cases e : k = n + 1
    · rw [← e]; exact h
    · rw [cycK, ih (by omega)]
      cases hq : rndN row n n with
      | none => rfl
      | some r =>
        obtain ⟨_, d, _, _, d0, hl, _⟩ := rnd_some hq (hr n)
        simp only [shoS]
        rw [if_neg (by omega)]
end Go.H
/- Shortest cycles aS rows of nodes: simple, closed; turned to the least node. What an edge more does. Conditions: aS each lemma states. -/
set_option linter.unusedVariables false
set_option linter.unusedSimpArgs false
namespace Go.H
open Go Go.Ab
/-- A cycle, aS a row of nodes. -/
structure CycL (row : Nat → List Nat) (l : List Nat) : Prop where
  two : 2 ≤ l.length
  nodup : l.Nodup
  edge : ∀ i (hi : i < l.length), l[(i + 1) % l.length]'(Nat.mod_lt _ (by omega)) ∈ row l[i]
section
variable {row : Nat → List Nat} {n : Nat} (hr : ∀ v, (row v).Pairwise (· < ·)) (hs : ∀ v, v ∉ row v) (hn : ∀ x, ∀ y ∈ row x, y < n)
include hr hs hn
end
end Go.H
/- The lines of a graph's nodes, each once, rising; and ways along them. Conditions: aS each lemma states. -/
set_option linter.unusedVariables false
set_option linter.unusedSimpArgs false
namespace Go.H
open Go Go.Ab
def addN (l : List Nat) (x : Nat) : List Nat := if l.getLast? = some x then l else l ++ [x]
def addA (l : List Nat) : List Nat := l.foldl addN []
theorem addA_s (l : List Nat) (x : Nat) : addA (l ++ [x]) = addN (addA l) x := by rw [addA, List.foldl_append]; rfl
theorem addN_mem {l : List Nat} {x y : Nat} : y ∈ addN l x ↔ y ∈ l ∨ y = x := by
  unfold addN; split
  · rename_i h
    constructor
    · exact .inl
    · rintro (q | rfl)
      · exact q
      · exact List.mem_of_getLast? h
  · simp
theorem addA_mem {l : List Nat} {y : Nat} : y ∈ addA l ↔ y ∈ l := by
  refine snocInd (p := fun l => y ∈ addA l ↔ y ∈ l) Iff.rfl (fun l a ih => ?_) l
  rw [addA_s, addN_mem, ih]; simp
theorem addA_lt (l : List Nat) (h : l.Pairwise (· ≤ ·)) : (addA l).Pairwise (· < ·) := by
  revert h
  refine snocInd (p := fun l => l.Pairwise (· ≤ ·) → (addA l).Pairwise (· < ·)) (fun _ => .nil) (fun l a ih h => ?_) l
  obtain ⟨h1, _, h2⟩ := List.pairwise_append.1 h
  have h3 := ih h1
  rw [addA_s]
  unfold addN; split
  · exact h3
  · rename_i hl
    rw [List.pairwise_append]
    refine ⟨h3, .cons (by simp) .nil, fun x hx y hy => ?_⟩
    rw [List.mem_singleton.1 hy]
    have hle := h2 x (addA_mem.1 hx) a (by simp)
    rcases Nat.lt_or_eq_of_le hle with q | q
    · exact q
    · exfalso
      subst q
      -- x stands in it, and is the greatest: so it is the last one
      have hne : addA l ≠ [] := List.ne_nil_of_mem hx
      have hlast := List.getLast?_eq_some_getLast hne
      have hm := List.getLast_mem hne
      have h4 := h2 _ (addA_mem.1 hm) x (by simp)
      obtain ⟨i, hi, e⟩ := List.mem_iff_getElem.1 hx
      have e2 : (addA l).getLast hne = (addA l)[(addA l).length - 1]'(by have := List.length_pos_of_mem hx; omega) := List.getLast_eq_getElem hne
      by_cases q : i = (addA l).length - 1
      · subst q
        rw [hlast, e2, e] at hl; exact hl rfl
      · have := (List.pairwise_iff_getElem.1 h3) i ((addA l).length - 1) hi (by omega) (by omega)
        rw [e, ← e2] at this; omega
theorem addN_len (l : List Nat) (x : Nat) : (addN l x).length ≤ l.length + 1 := by unfold addN; split <;> simp
theorem addA_len (l : List Nat) : (addA l).length ≤ l.length := by
  refine snocInd (p := fun l => (addA l).length ≤ l.length) (Nat.le_refl _) (fun l a ih => ?_) l
  rw [addA_s]
  have := addN_len (addA l) a
  simp; omega
/-- From where, and to where, an edge leads in a direction. -/
def lfr (out : Bool) (e : Ed) : Int := bif out then e.f else e.t
def lto (out : Bool) (e : Ed) : Int := bif out then e.t else e.f
def linF (out : Bool) (l : List Ed) (v : Nat) : List Nat := addA ((l.filter fun e => lfr out e == (v : Int)).map fun e => (lto out e).toNat)
theorem linF_0 (out : Bool) : linF out [] = fun _ => [] := rfl
theorem linF_s {out : Bool} {l : List Ed} {k : Nat} (hk : k < l.length) (h0 : 0 ≤ lfr out l[k]) : linF out (l.take (k + 1)) = updI (linF out (l.take k)) (lfr out l[k]).toNat (addN (linF out (l.take k) (lfr out l[k]).toNat) (lto out l[k]).toNat) := by
  funext i
  unfold linF updI
  rw [List.take_succ_eq_append_getElem hk, List.filter_append, List.map_append]
  by_cases e : i = (lfr out l[k]).toNat
  · rw [if_pos e]
    have : (lfr out l[k] == (i : Int)) = true := by simp; omega
    have e2 : [l[k]].filter (fun e => lfr out e == (i : Int)) = [l[k]] := by simp only [List.filter_cons, List.filter_nil, this, if_true]
    rw [e2, List.map_cons, List.map_nil, addA_s, e]
  · rw [if_neg e]
    have : ¬ (lfr out l[k] == (i : Int)) = true := by simp; omega
    have e2 : [l[k]].filter (fun e => lfr out e == (i : Int)) = [] := by simp only [List.filter_cons, List.filter_nil, this]; rfl
    rw [e2, List.map_nil, List.append_nil]
theorem linF_len (out : Bool) (l : List Ed) (v : Nat) : (linF out l v).length ≤ l.length := by
  refine Nat.le_trans (addA_len _) ?_
  rw [List.length_map]; exact List.length_filter_le _ _
def rowO (g : Gr) (v : Nat) : List Nat := linF true g.es v
def rowN (g : Gr) (v : Nat) : List Nat := linF false g.es v
theorem rowO_mem {g : Gr} {v w : Nat} : w ∈ rowO g v ↔ w ∈ adjG g v := addA_mem
theorem rowN_mem {g : Gr} (h : GOk g) {v w : Nat} : w ∈ rowN g v ↔ v ∈ adjG g w := by
  unfold rowN linF
  rw [addA_mem, adj_mem h]
  constructor
  · intro q
    obtain ⟨e, he, rfl⟩ := List.mem_map.1 q
    obtain ⟨h1, h2⟩ := List.mem_filter.1 he
    have hn := ed_nat h h1
    have h3 : e.t = v := by simpa [lfr] using h2
    refine ⟨e.k, ?_⟩
    have h4 : lto false e = e.f := rfl
    rw [h4, hn.2.2.1, ← h3]; exact h1
  · rintro ⟨k, hk⟩
    exact List.mem_map.2 ⟨_, List.mem_filter.2 ⟨hk, by simp [lfr]⟩, by simp [lto]⟩
theorem cmpE_ft {a b : Ed} (h : cmpE a b < 0) : a.f ≤ b.f ∧ (a.f = b.f → a.t ≤ b.t) := by
  rw [← aheadE_iff] at h
  unfold aheadE at h
  by_cases e : a.f = b.f
  · rw [if_pos e] at h
    refine ⟨by omega, fun _ => ?_⟩
    by_cases e2 : a.t = b.t
    · omega
    · rw [if_neg e2] at h; have := of_decide_eq_true h; omega
  · rw [if_neg e] at h; have := of_decide_eq_true h; omega
theorem rowO_lt {g : Gr} (h : GOk g) (v : Nat) : (rowO g v).Pairwise (· < ·) := by
  refine addA_lt _ ?_
  rw [List.pairwise_map]
  refine (h.srt.filter _).imp_of_mem fun {a b} ha hb q => ?_
  have h1 := (List.mem_filter.1 ha).2
  have h2 := (List.mem_filter.1 hb).2
  have h3 := cmpE_ft (show cmpE a b < 0 from q)
  simp only [lfr, lto, cond_true, beq_iff_eq] at *
  have := h3.2 (by omega)
  omega
theorem rowO_in {g : Gr} (h : GOk g) {v w : Nat} (q : w ∈ rowO g v) : v < nG g ∧ w < nG g := ⟨(adj_n h (rowO_mem.1 q)).1, (adj_n h (rowO_mem.1 q)).2.1⟩
theorem rowN_O {g : Gr} (h : GOk g) {v w : Nat} : w ∈ rowN g v ↔ v ∈ rowO g w := by rw [rowN_mem h, rowO_mem]
end Go.H
/- Ways and rounds of a graph: what package path and the reference 08 reckon. Conditions: aS each lemma states. -/
set_option linter.unusedVariables false
set_option linter.unusedSimpArgs false
namespace Go.H
open Go Go.Ab
theorem dist_lt {E : Nat → Nat → Prop} {s v d N : Nat} (hs : s < N) (hE : ∀ u v, E u v → v < N) (h : DistI E s v d) : d < N := by
  have hex : ∀ k : Nat, ∃ u, k ≤ d → DistI E s u k := fun k => by
    by_cases q : k ≤ d
    · obtain ⟨u, hu⟩ := h.below k q; exact ⟨u, fun _ => hu⟩
    · exact ⟨0, fun w => absurd w q⟩
  let f : Nat → Nat := fun k => (hex k).choose
  have hf : ∀ k, k ≤ d → DistI E s (f k) k := fun k hk => (hex k).choose_spec hk
  have hN : ∀ k, k ≤ d → f k < N := fun k hk => by
    cases k with
    | zero => have := (hf 0 hk).1.zero; omega
    | succ k => obtain ⟨u, _, e⟩ := (hf (k + 1) hk).1.succ; exact hE _ _ e
  have hnd : ((List.range (d + 1)).map f).Nodup := by
    unfold List.Nodup
    rw [List.pairwise_map]
    refine List.nodup_range.imp_of_mem fun {a b} ha hb hab e => hab ?_
    have h1 := hf a (by have := List.mem_range.1 ha; omega)
    have h2 := hf b (by have := List.mem_range.1 hb; omega)
    rw [e] at h1
    exact h1.uniq h2
  have := hnd.length_le_of_subset (l₂ := List.range N) fun x hx => by
    obtain ⟨k, hk, rfl⟩ := List.mem_map.1 hx
    exact List.mem_range.2 (hN k (by have := List.mem_range.1 hk; omega))
  simp at this
  omega
theorem far_lt {E : Nat → Nat → Prop} {s N : Nat} (hs : s < N) (hE : ∀ u v, E u v → v < N) (v : Nat) : farI E s v < N := by
  by_cases q : 0 ≤ farI E s v
  · obtain ⟨d, hd⟩ : ∃ d : Nat, farI E s v = d := ⟨(farI E s v).toNat, by omega⟩
    have := dist_lt hs hE (farI_iff.1 hd)
    omega
  · omega
open Classical in
/-- What is filled in once n waves are over, and j nodes of the next. -/
noncomputable def outW (E : Nat → Nat → Prop) (s n : Nat) (l : List Nat) (v : Nat) : Int := if farI E s v < n ∨ v ∈ l then farI E s v else -1
theorem outW_0 (E : Nat → Nat → Prop) (s : Nat) : outW E s 0 [] = fun _ => -1 := by
  funext v
  unfold outW
  have := farI_ge E s v
  split
  · rename_i h; rcases h with h | h
    · omega
    · cases h
  · rfl
theorem outW_s {E : Nat → Nat → Prop} {s n : Nat} {l : List Nat} {v : Nat} (h : DistI E s v n) : updI (outW E s n l) v (n : Int) = outW E s n (l ++ [v]) := by
  funext x
  unfold updI outW
  by_cases q : x = v
  · subst q
    rw [if_pos rfl, if_pos (.inr (by simp)), farI_some h]
  · rw [if_neg q]
    have : x ∈ l ++ [v] ↔ x ∈ l := by simp [q]
    simp only [this]
theorem outW_n {E : Nat → Nat → Prop} {s n : Nat} {l : List Nat} (h : ∀ v, v ∈ l ↔ DistI E s v n) : outW E s n l = outW E s (n + 1) [] := by
  funext x
  unfold outW
  have : (farI E s x < (n : Int) ∨ x ∈ l) ↔ (farI E s x < ((n + 1 : Nat) : Int) ∨ x ∈ ([] : List Nat)) := by
    rw [h, ← farI_iff]
    simp; omega
  simp only [this]
theorem outW_end {E : Nat → Nat → Prop} {s n : Nat} (h : ∀ v d, DistI E s v d → d < n) : outW E s n [] = farI E s := by
  funext x
  unfold outW
  have hg := farI_ge E s x
  split
  · rfl
  · rename_i q
    by_cases w : 0 ≤ farI E s x
    · obtain ⟨d, hd⟩ : ∃ d : Nat, farI E s x = d := ⟨(farI E s x).toNat, by omega⟩
      have := h x d (farI_iff.1 hd)
      exact absurd (.inl (by omega)) q
    · omega
/-! The least shortest way. -/
theorem downV_lt {row : Nat → List Nat} {left : Nat → Int} (hf : Falls row left) {N v d : Nat} (hN : ∀ x, ∀ y ∈ row x, y < N) (hv : v < N) (h : left v = d) : ∀ k, k ≤ d → downV row left v k < N
  | 0, _ => hv
  | k + 1, hk => hN _ _ (down_edge hf h (show k < d by omega))
/-! Rounds. -/
theorem rnd_none {g : Gr} (h : GOk g) {v : Nat} (hn : ¬ Rc1 (Edg (adjG g)) v v) (m : Nat) : rndN (rowO g) m v = none := by
  cases hq : rndN (rowO g) m v with
  | none => rfl
  | some l =>
    exfalso
    obtain ⟨w, hw, k, _⟩ := rnd_cw hq (rowO_lt h v)
    refine hn ⟨w, rowO_mem.1 hw, ?_⟩
    exact k.rch.rev fun a b q => rowO_mem.1 q.1
theorem cyc_skip {g : Gr} (h : GOk g) {k : Nat} : ∀ n, k ≤ n → (∀ v, k ≤ v → v < n → ¬ Rc1 (Edg (adjG g)) v v) → cycK (rowO g) n = cycK (rowO g) k := by
  intro n
  induction n with
  | zero => intro hk _; rw [Nat.le_zero.1 hk]
  | succ n ih =>
    intro hk hn
    by_cases e : k = n + 1
    · rw [e]
    · rw [cycK, rnd_none h (hn n (by omega) (by omega))]
      show cycK (rowO g) n = _
      exact ih (by omega) fun v h1 h2 => hn v h1 (by omega)
end Go.H
/- The graphs that laws 06 and 08 wake with. Conditions: aS each lemma states. -/
set_option linter.unusedVariables false
set_option linter.unusedSimpArgs false
namespace Go.H
open Go Go.Ab
def tabF (t : List (List Int)) (s v : Nat) : Int := ((t[s]?).getD [])[v]?.getD (-1)
/-! For ways. -/
def smallP : Gr := ⟨5, [⟨0, 1, 0⟩, ⟨0, 3, 0⟩, ⟨1, 2, 0⟩, ⟨1, 3, 0⟩, ⟨2, 0, 0⟩, ⟨3, 0, 0⟩]⟩
theorem smallP_ok : GOk smallP := chkB_iff.1 (by decide)
/-- Back along edges, by lists. -/
def backB (g : Gr) (m u : Nat) : List Nat := (List.range (nG g)).filter fun w => (rowO g w).contains u && decide (m ≤ w)
theorem backB_iff {g : Gr} (h : GOk g) (m u w : Nat) : ErB (rowO g) m u w ↔ w ∈ backB g m u := by
  unfold ErB backB
  rw [List.mem_filter, List.mem_range, Bool.and_eq_true, List.contains_iff_mem, decide_eq_true_iff]
  constructor
  · rintro ⟨a, b⟩; exact ⟨(rowO_in h a).1, a, b⟩
  · rintro ⟨_, a, b⟩; exact ⟨a, b⟩
theorem lef_cert {g : Gr} (h : GOk g) {m s : Nat} {f : Nat → Int} (hc : certB (nG g) (backB g m) s f = true) {v : Nat} (hv : v < nG g) : lefB (rowO g) m s v = f v :=
  cert_far (fun u w _ => backB_iff h m u w) hc v hv
def sp10 : Nat → Int := tabF [[0, 2, 1, 1, -1]] 0
theorem sp_left0 : ∀ v, v < 5 → lefB (rowO smallP) 0 0 v = sp10 v := fun v hv => lef_cert smallP_ok (f := sp10) (by decide) hv
def sp2 : Nat → Int := tabF [[2, 1, 0, 3, -1]] 0
theorem sp_left2 : ∀ v, v < 5 → lefB (rowO smallP) 0 2 v = sp2 v := fun v hv => lef_cert smallP_ok (f := sp2) (by decide) hv
theorem sp_row : rowO smallP 0 = [1, 3] ∧ rowO smallP 1 = [2, 3] ∧ rowO smallP 2 = [0] ∧ rowO smallP 3 = [0] ∧ rowO smallP 4 = [] := by decide
theorem nxt_of {row : Nat → List Nat} {left f : Nat → Int} {v : Nat} (h : ∀ w ∈ row v, left w = f w) (hv : left v = f v) : nxtD row left v = ((row v).find? fun w => f w == f v - 1).getD 0 := by
  unfold nxtD
  rw [hv]
  congr 1
  have : ∀ (l : List Nat), (∀ w ∈ l, left w = f w) → l.find? (fun w => left w == f v - 1) = l.find? fun w => f w == f v - 1 := by
    intro l
    induction l with
    | nil => intro _; rfl
    | cons a r ih =>
      intro hl
      rw [List.find?_cons, List.find?_cons, hl a (by simp), ih fun w hw => hl w (by simp [hw])]
  exact this _ h
theorem sp_way : downL (rowO smallP) (lefB (rowO smallP) 0 0) 1 2 = [1, 2, 0] := by
  have r1 := sp_row.2.1
  have r2 := sp_row.2.2.1
  have h1 : nxtD (rowO smallP) (lefB (rowO smallP) 0 0) 1 = 2 := by
    rw [nxt_of (f := sp10) (fun w hw => sp_left0 w (by rw [r1] at hw; simp at hw; omega)) (sp_left0 1 (by decide)), r1]; decide
  have h2 : nxtD (rowO smallP) (lefB (rowO smallP) 0 0) 2 = 0 := by
    rw [nxt_of (f := sp10) (fun w hw => sp_left0 w (by rw [r2] at hw; simp at hw; omega)) (sp_left0 2 (by decide)), r2]; decide
  show [downV _ _ _ 0, downV _ _ _ 1, downV _ _ _ 2] = _
  simp only [downV, h1, h2]
theorem sp_rnd0 : rndN (rowO smallP) 0 0 = some [0, 3] := by
  have hf : firF (lefB (rowO smallP) 0 0) (rowO smallP 0) = some 3 := by
    have a : lefB (rowO smallP) 0 0 1 = 2 := by rw [sp_left0 1 (by decide)]; decide
    have b : lefB (rowO smallP) 0 0 3 = 1 := by rw [sp_left0 3 (by decide)]; decide
    have e1 : firS (lefB (rowO smallP) 0 0) none 1 = some 1 := by rw [firS, if_pos (by rw [a]; decide)]
    have e2 : firS (lefB (rowO smallP) 0 0) (some 1) 3 = some 3 := by
      rw [firS, if_pos (by rw [b]; decide)]
      show (if lefB (rowO smallP) 0 0 3 < lefB (rowO smallP) 0 0 1 then some 3 else some 1) = some 3
      rw [if_pos (by rw [a, b]; decide)]
    rw [sp_row.1]
    show firS _ (firS _ none 1) 3 = some 3
    rw [e1, e2]
  have h1 : nxtD (rowO smallP) (lefB (rowO smallP) 0 0) 3 = 0 := by
    have r3 := sp_row.2.2.2.1
    rw [nxt_of (f := sp10) (fun w hw => sp_left0 w (by rw [r3] at hw; simp at hw; omega)) (sp_left0 3 (by decide)), r3]; decide
  unfold rndN
  rw [hf]
  simp only
  have hl : lefB (rowO smallP) 0 0 3 = 1 := by rw [sp_left0 3 (by decide)]; decide
  rw [hl]
  show some (0 :: ([downV _ _ _ 0, downV _ _ _ 1] : List Nat).dropLast) = _
  simp only [downV, h1]
  rfl
theorem sp_cyc : cycK (rowO smallP) 5 = some [0, 3] := cyc_two (fun v => rowO_lt smallP_ok v) (k := 1) (by
    show shoS none (rndN (rowO smallP) 0 0) = _
    rw [sp_rnd0]; rfl) rfl 5 (by decide)
theorem sp_rnd2 : rndN (rowO smallP) 0 2 = some [2, 0, 1] := by
  have r0 := sp_row.1
  have r1 := sp_row.2.1
  have r2 := sp_row.2.2.1
  have hf : firF (lefB (rowO smallP) 0 2) (rowO smallP 2) = some 0 := by
    rw [r2]
    simp only [firF, List.foldl_cons, List.foldl_nil, firS]
    rw [sp_left2 0 (by decide)]
    decide
  have h0 : nxtD (rowO smallP) (lefB (rowO smallP) 0 2) 0 = 1 := by
    rw [nxt_of (f := sp2) (fun w hw => sp_left2 w (by rw [r0] at hw; simp at hw; omega)) (sp_left2 0 (by decide)), r0]; decide
  have h1 : nxtD (rowO smallP) (lefB (rowO smallP) 0 2) 1 = 2 := by
    rw [nxt_of (f := sp2) (fun w hw => sp_left2 w (by rw [r1] at hw; simp at hw; omega)) (sp_left2 1 (by decide)), r1]; decide
  have hl : lefB (rowO smallP) 0 2 0 = 2 := by rw [sp_left2 0 (by decide)]; decide
  unfold rndN
  rw [hf]
  simp only
  rw [hl]
  show some (2 :: ([downV _ _ _ 0, downV _ _ _ 1, downV _ _ _ 2] : List Nat).dropLast) = _
  simp only [downV, h0, h1]
  rfl
end Go.H
/- Maps aS rows of pairs, and what stands in them. Conditions: aS each lemma states. -/
set_option linter.unusedVariables false
set_option linter.unusedSectionVars false
namespace Go.Ab
open Go
section
variable {K V : Type} [DecidableEq K]
def getT (k : K) : List (K × V) → Option V
  | [] => none
  | p :: r => if p.1 = k then some p.2 else getT k r
def putT (k : K) (v : V) : List (K × V) → List (K × V)
  | [] => [(k, v)]
  | p :: r => if p.1 = k then (p.1, v) :: r else p :: putT k v r
def mapA (f : V → AV) (m : List (K × V)) : List (K × AV) := m.map fun p => (p.1, f p.2)
theorem lookM_mapA (f : V → AV) (k : K) : ∀ m : List (K × V), lookM k (mapA f m) = (getT k m).map f
  | [] => rfl
  | p :: m => by
    have ih := lookM_mapA f k m
    simp only [mapA, List.map_cons, lookM, getT] at ih ⊢
    by_cases h : p.1 = k
    · simp [h]
    · rw [if_neg h, if_neg h, ih]
theorem updM_mapA (f : V → AV) (k : K) (v : V) : ∀ m : List (K × V), updM k (f v) (mapA f m) = mapA f (putT k v m)
  | [] => rfl
  | p :: m => by
    have ih := updM_mapA f k v m
    simp only [mapA, List.map_cons, updM, putT] at ih ⊢
    by_cases h : p.1 = k
    · rw [if_pos h, if_pos h]; rfl
    · rw [if_neg h, if_neg h, ih]; rfl
theorem get_put (k k' : K) (v : V) : ∀ m : List (K × V), getT k (putT k' v m) = if k' = k then some v else getT k m
  | [] => by simp only [putT, getT]
  | p :: m => by
    have ih := get_put k k' v m
    simp only [putT]
    by_cases h : p.1 = k'
    · rw [if_pos h]; simp only [getT, h]
      by_cases hk : k' = k
      · simp [hk]
      · simp [hk]
    · rw [if_neg h]; simp only [getT, ih]
      by_cases hp : p.1 = k
      · rw [if_pos hp, if_neg (fun q => h (hp.trans q.symm)), if_pos hp]
      · rw [if_neg hp, if_neg hp]
end
end Go.Ab
/- The abstract logic, part 30: a map's entry that is made ahead of its value. Conditions: none (lemmas over any program). -/
set_option linter.unusedVariables false
set_option linter.unusedSimpArgs false
namespace Go.Ab
open Go
class HasMapE (h : List Res) (r : Nat) (i : outParam Nat) (es : outParam (List (Value × AV))) (j st : outParam Nat) : Prop where
  h : h[i]? = some (.mape r es j st)
section
variable {P : Program} {ro : Option Nat} {nt : Nat} {dst : Option Tmp} {ty : TypeId} {pos : String} {after : Array Edge} {guard : Option (Nat × Bool)} {x y z : Operand} {t : Fr} {h : List Res} {ds : List Nat} {next : St → Prop} {f : Operand → Option AV}
  {K : Type} [DecidableEq K] {enc : K → Value} {es : List (K × AV)} {kt et T : TypeId} {r i : Nat} {k : K} {av : AV}
end
end Go.Ab
/- The abstract logic, part 27: short words for what ends a piece of a walk. Conditions: none (lemmas over any program). -/
set_option linter.unusedVariables false
namespace Go.Ab
open Go
section
variable {P : Program} {ro : Option Nat} {nt : Nat} {Q : Exit → St → Prop} {t t' : Fr} {h h' : List Res} {ds : List Nat} {c : Code}
theorem es (hs : SubF t t' := by repeat (first | exact .nil | refine .cons _ _ _ rfl ?_)) : Ent nt ⟨t, h, ds⟩ ⟨t', h, ds⟩ := ent_sub hs
theorem ed (n : Nat) (hd : h.drop n = h' := by rfl) (hs : SubF t t' := by repeat (first | exact .nil | refine .cons _ _ _ rfl ?_)) : Ent nt ⟨t, h, ds⟩ ⟨t', h', ds⟩ := by
  subst hd
  refine ent_trans ?_ (ent_sub hs)
  have := ent_drop (nt := nt) (t := t) (h1 := h.take n) (h2 := h.drop n) (ds := ds)
  rwa [List.take_append_drop] at this
/-- Less is known, among operations. -/
theorem aops_ent {ops : Array Oper} {l : List Oper} {s s' : St} (he : Ent nt s s') (hk : aops P ro nt ops l Q s') : aops P ro nt ops l Q s := fun X a w hs =>
  wpListIn_aout_mono (s := s) (s' := s') ⟨Nat.le_refl _, fun b hb ho => ⟨rfl, fun q => ho (he.1 b q)⟩, EnvS.eq rfl rfl rfl (by first | exact Nat.le_refl _ | exact Nat.le_succ _)⟩ (hk X a w (he.2 X a w hs))
/-- A frame of which less is known, values too. -/
inductive SubB (t : Fr) : Fr → Prop where
  | nil : SubB t []
  | cons (i : Nat) (a b : AV) (r : Fr) : lk t i = some b → Sb b a → SubB t r → SubB t ((i, a) :: r)
theorem SubB.rel {w : World} {O : Nat → Prop} {tmps : Array Value} (hs : SubB t t') (hf : FrRel w O t tmps) : FrRel w O t' tmps := by
  induction hs with
  | nil => intro i av h; simp [lk] at h
  | cons j a b r h1 h2 _ ih =>
    intro i av hi
    simp only [lk] at hi
    split at hi
    · rename_i e
      have := Nat.eq_of_beq_eq_true e
      subst this; cases hi
      obtain ⟨v, e1, e2⟩ := hf _ _ h1
      exact ⟨v, e1, h2.rel e2⟩
    · exact ih i av hi
theorem ent_sb (hs : SubB t t') : Ent nt ⟨t, h, ds⟩ ⟨t', h, ds⟩ := ⟨fun _ h => h, fun X a w hsim => ⟨hsim.heap, hsim.size, hs.rel hsim.fr, hsim.defs⟩⟩
theorem vdrop (n : Nat) (a : AV) : VEnt h a (h.drop n) a := by
  have := VEnt.drop (h.take n) (h.drop n) a
  rwa [List.take_append_drop] at this
theorem rq (n : Nat) {rs : List ResultVar} {R : AV → List Res → Prop} {av : List AV} (hR : R (packAV av) (h.drop n)) (hr : RVs P t h rs av := by first | exact .cons _ _ _ _ (.tmp _ _ rfl) .nil | exact .cons _ _ _ _ (.tmp _ _ rfl) (.cons _ _ _ _ (.tmp _ _ rfl) .nil) | exact .cons _ _ _ _ (.tmp _ _ rfl) (.cons _ _ _ _ (.tmp _ _ rfl) (.cons _ _ _ _ (.tmp _ _ rfl) .nil)) | exact .cons _ _ _ _ (.tmp _ _ rfl) (.cons _ _ _ _ (.tmp _ _ rfl) (.cons _ _ _ _ (.tmp _ _ rfl) (.cons _ _ _ _ (.tmp _ _ rfl) .nil)))) : RetQ P rs R .ret ⟨t, h, []⟩ :=
  retq hr (vdrop n _) hR
/-- What a truth is, by what is known of its parts. -/
theorem fin {p : Prop} (hp : p := by first | (simp only [*, Bool.true_and, Bool.false_and, Bool.and_false, Bool.and_true, Bool.true_or, Bool.or_false, Bool.false_or, Bool.or_true, if_true, if_false, Bool.false_eq_true, Bool.not_true, Bool.not_false]; done) | (simp_all; done) | (simp_all <;> omega)) : p := hp
/-- Less is known of the frame, and what was made on top is dropped. -/
theorem eA (hs : Ent nt ⟨t, h, ds⟩ ⟨t', h', ds⟩ := by first | exact ed 0 | exact ed 1 | exact ed 2 | exact ed 3 | exact ed 4 | exact ed 5 | exact ed 6) : Ent nt ⟨t, h, ds⟩ ⟨t', h', ds⟩ := hs
/-- A loop over so many places: v is what varies, c stays; the memory stays. -/
theorem aw_rng (n : Nat) (p : Nat → Prop) (v : Nat → Fr) (cs : Fr) (hp : p 0)
    (round : ∀ k, k ≤ n → p k → aw P ro nt c (thn (fun s' => k < n ∧ p (k + 1) ∧ Ent nt s' ⟨v (k + 1) ++ cs, h, ds⟩) Q) ⟨v k ++ cs, h, ds⟩)
    (hs : SubF t (v 0 ++ cs) := by repeat (first | exact .nil | refine .cons _ _ _ rfl ?_)) : aw P ro nt (.loop c) Q ⟨t, h, ds⟩ :=
  aw_loop' (fun k => k ≤ n ∧ p k) (fun k => ⟨v k ++ cs, h, ds⟩) (fun k => n - k) 0 ⟨Nat.zero_le _, hp⟩ (ent_sub hs) fun k hk => aw_mono (fun e s' hq => by
    cases e with
    | normal => exact ⟨k + 1, ⟨hq.1, hq.2.1⟩, hq.2.2, by have := hq.1; omega⟩
    | _ => exact hq) (round k hk.1 hk.2)
/-- A loop over so many places. -/
theorem aw_range (n : Nat) (p : Nat → Prop) (inv : Nat → St) (hp : p 0) (h0 : Ent nt ⟨t, h, ds⟩ (inv 0))
    (round : ∀ k, k ≤ n → p k → aw P ro nt c (thn (fun s' => k < n ∧ p (k + 1) ∧ Ent nt s' (inv (k + 1))) Q) (inv k)) : aw P ro nt (.loop c) Q ⟨t, h, ds⟩ :=
  aw_loop' (fun k => k ≤ n ∧ p k) inv (fun k => n - k) 0 ⟨Nat.zero_le _, hp⟩ h0 fun k hk => aw_mono (fun e s' hq => by
    cases e with
    | normal => exact ⟨k + 1, ⟨hq.1, hq.2.1⟩, hq.2.2, by have := hq.1; omega⟩
    | _ => exact hq) (round k hk.1 hk.2)
/-- A loop over so many places, in which a slice changes. -/
theorem aw_rng1 (n : Nat) (inv : Nat → SV → St) (a : SV) (h0 : Ent nt ⟨t, h, ds⟩ (inv 0 a))
    (round : ∀ k a, k ≤ n → aw P ro nt c (thn (fun s' => k < n ∧ ∃ a, Ent nt s' (inv (k + 1) a)) Q) (inv k a)) : aw P ro nt (.loop c) Q ⟨t, h, ds⟩ :=
  aw_loop' (fun x : Nat × SV => x.1 ≤ n) (fun x => inv x.1 x.2) (fun x => n - x.1) (0, a) (Nat.zero_le _) h0 fun x hx => aw_mono (fun e s' hq => by
    cases e with
    | normal =>
      obtain ⟨h1, a', h2⟩ := hq
      exact ⟨(x.1 + 1, a'), h1, h2, by simp only; omega⟩
    | _ => exact hq) (round x.1 x.2 hx)
/-- A loop that goes on while a number of steps is left. -/
theorem aw_while {σ : Type} (p : σ → Prop) (inv : σ → St) (μ : σ → Nat) (x0 : σ) (hp : p x0) (h0 : Ent nt ⟨t, h, ds⟩ (inv x0))
    (round : ∀ x, p x → aw P ro nt c (thn (fun s' => ∃ x', p x' ∧ Ent nt s' (inv x') ∧ μ x' < μ x) Q) (inv x)) : aw P ro nt (.loop c) Q ⟨t, h, ds⟩ :=
  aw_loop' p inv μ x0 hp h0 round
end
/-- A call that is lent one row of ours, and gives it back in its place. -/
theorem fcall_row0 {P : Program} {fv r0 : AV} {args : List AV} {s : Value} {i sz : Nat} {T : TypeId} {rows rows' : List (List AV)} {h : List Res} {h' : Res → List Res} [hr : HasRow h s i sz T rows] [hset : ∀ y, SetAt h i y (h' y)]
    (hc : FCall P fv args [.row s sz T rows] (fun r h2 => h2 = [.row s sz T rows'] ∧ r = r0)) : FCall P fv args h (fun r h2 => h2 = h' (.row s sz T rows') ∧ r = r0) := by
  have hi : i < h.length := (List.getElem?_eq_some_iff.1 hr.h).1
  have hp := get_perm hr.h
  refine (FCall.perm hp (FCall.permR ((FCall.frame (h.eraseIdx i) hc).mono ?_)))
  rintro av h2 ⟨h1', rfl, rfl, rfl⟩
  refine ⟨h' (.row s sz T rows'), ?_, rfl, rfl⟩
  rw [← (hset (.row s sz T rows')).h]
  exact (set_perm hi).symm
section
variable {P : Program} {h : List Res} {f : Operand → Option AV} {dst : Option Tmp} {ty : TypeId} {pos : String} {after : Array Edge} {g : Option (Nat × Bool)} {x y : Operand}
end
/-- What is looked at in a loop over a row. -/
theorem atRow {A : Type} {f : A → List AV} {l : List A} {k : Nat} (hk : k < l.length) : (l.map f)[k]? = some (f l[k]) := by simp [hk]
theorem ltMap {A B : Type} {f : A → B} {l : List A} {k : Nat} (h : decide ((k : Int) < ((l.map f).length : Nat)) = true) : k < l.length := by simpa using h
theorem geMap {A B : Type} {f : A → B} {l : List A} {k : Nat} (h : decide ((k : Int) < ((l.map f).length : Nat)) = false) (hk : k ≤ l.length) : k = l.length := by
  have : l.length ≤ k := by simpa using h
  omega
/-- The first k of a row changed. -/
def over {A : Type} (f : A → A) (l : List A) (k : Nat) : List A := (l.take k).map f ++ l.drop k
section
variable {A : Type} {f : A → A} {R : A → List AV} {l : List A} {k : Nat}
end
end Go.Ab
/- Keys of maps that are three whole numbers. Conditions: aS each lemma states. -/
set_option linter.unusedVariables false
set_option linter.unusedSimpArgs false
namespace Go.Ab
open Go
class Chk3 (P : Program) (kt : TypeId) : Prop where
  h : ∀ (e : Bool) (w : World) (a b c : Int), (Instr.checkKey e 10000 kt (.agg #[.int .i64 a, .int .i64 b, .int .i64 c])).run P w = .ok () w
end Go.Ab
/- Maps aS rows of pairs: looked up, written, counted. Conditions: none (lemmas over any program). -/
set_option linter.unusedVariables false
set_option linter.unusedSimpArgs false
namespace Go.Ab
open Go
/-- A value that may be taken for another one. -/
class ZV (z : Value) (a : AV) : Prop where
  h : ∀ w O u, Rel w O (.v z) u → Rel w O a u
instance ZV.v {z : Value} : ZV z (.v z) := ⟨fun _ _ _ h => h⟩
theorem qr_weak {P : Program} {h : List Res} {f : Operand → Option AV} {o : Oper} {a b : AV} (hw : ∀ w O v, Rel w O a v → Rel w O b v) (q : QR P h f o a) : QR P h f o b := fun X ρ w he =>
  let ⟨v, e, r⟩ := q X ρ w he; ⟨v, e, hw _ _ _ r⟩
theorem qr_as {P : Program} {h : List Res} {f : Operand → Option AV} {o : Oper} {a b : AV} (q : QR P h f o a) (e : a = b) : QR P h f o b := e ▸ q
section
variable {P : Program} {ro : Option Nat} {nt : Nat} {dst : Option Tmp} {ty : TypeId} {pos : String} {after : Array Edge} {guard : Option (Nat × Bool)} {x y z : Operand} {t : Fr} {h h' : List Res} {ds : List Nat} {next : St → Prop} {f : Operand → Option AV}
  {K V : Type} [DecidableEq K] {enc : K → Value} {g : V → AV} {m : List (K × V)} {kt et T : TypeId} {r i : Nat} {k : K} {kv : AV}
theorem look_def {zv : Value} {d : V} [hz : ZV zv (g d)] {w : World} {O : Nat → Prop} {u : Value} (h : Rel w O ((lookM k (mapA g m)).getD (.v zv)) u) : Rel w O (g ((getT k m).getD d)) u := by
  rw [lookM_mapA] at h
  cases hg : getT k m with
  | some a => rw [hg] at h; exact h
  | none => rw [hg] at h; exact hz.h w O u h
theorem qr_lookT (d : V) {zv : Value} (hx : f x = some (.v (.map (some r)))) (hy : f y = some kv) [hkv : KeyV kv (enc k)] [hm : HasMap h r i (encM enc (mapA g m))] [hu : Und P T (.map kt et)] [hkt : KeyT P kt enc] [hz : ZerV P et zv] [hd : ZV zv (g d)] :
    QR P h f ⟨dst, .lookup T x y false, ty, pos, after, guard⟩ (g ((getT k m).getD d)) :=
  qr_weak (fun w O v hr => look_def hr) (qr_lookup hx hy rfl)
theorem oe_mapUpdT {v : V} (hx : ev t x = some (.v (.map (some r)))) (hy : ev t y = some kv) (hz : ev t z = some (g v)) [hkv : KeyV kv (enc k)] [hm : HasMap h r i (encM enc (mapA g m))] [hu : Und P T (.map kt et)] [hkt : KeyT P kt enc]
    [hset : SetAt h i (.map r (encM enc (mapA g (putT k v m)))) h'] (hk : next ⟨t, h', ds⟩) : OE P ro nt ⟨none, .mapUpdate T x y z, ty, pos, after, guard⟩ ⟨t, h, ds⟩ next := by
  have : SetAt h i (.map r (encM enc (updM k (g v) (mapA g m)))) h' := by rw [updM_mapA]; exact hset
  exact oe_mapUpdate hx hy hz hk
end
end Go.Ab
/- Who is led to, gone over edge by edge aS often aS there are nodes; an edge more. Conditions: aS each lemma states. -/
set_option linter.unusedVariables false
set_option linter.unusedSimpArgs false
namespace Go.H
open Go Go.Ab
def inM (m : List (Int × Bool)) (x : Int) : Prop := getT x m = some true
structure LdOk (g : Gr) (a : Nat) (k : Nat) (m : List (Int × Bool)) : Prop where
  sound : ∀ x, inM m x → ∃ v : Nat, x = (v : Int) ∧ Rch (Edg (adjG g)) a v
  all : ∀ v d, d ≤ k → DistI (Edg (adjG g)) a v d → inM m v
/-! An edge more. -/
end Go.H
