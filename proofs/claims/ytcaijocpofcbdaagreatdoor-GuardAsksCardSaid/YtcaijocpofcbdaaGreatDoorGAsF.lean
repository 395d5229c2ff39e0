/- Facts on the loaded program's types and functions, as instances. Conditions: none. -/
import Derived.Test.YtcaijocpofcbdaaGreatDoorGAsE
import Derived.Test.YtcaijocpofcbdaaGreatDoorProg
import Derived.KernelRfl
set_option linter.unusedSectionVars false
set_option linter.unusedSimpArgs false
set_option linter.unusedVariables false
set_option maxRecDepth 100000
namespace Go.Proofs
open Go Go.Ab
instance:Und Tryz.prog 3 (.int .i64):=⟨Tryz.underlying3⟩
instance:IsA Tryz.prog 3 false:=⟨⟨_,Tryz.underlying3,rfl⟩⟩
instance:Siz Tryz.prog 3 1:=⟨by kernel_rfl⟩
instance:Byt Tryz.prog 3 8:=⟨by kernel_rfl⟩
instance:ZerV Tryz.prog 3 (.int .i64 0):=⟨by kernel_rfl⟩
instance:Zer Tryz.prog 3 [.int .i64 0]:=⟨⟨(.int .i64 0:Value),by kernel_rfl,rfl,B7.1 rfl⟩⟩
instance:Und Tryz.prog 4 .bool:=⟨Tryz.underlying4⟩
instance:IsA Tryz.prog 4 false:=⟨⟨_,Tryz.underlying4,rfl⟩⟩
instance:Siz Tryz.prog 4 1:=⟨by kernel_rfl⟩
instance:ZerV Tryz.prog 4 (.bool false):=⟨by kernel_rfl⟩
instance:Zer Tryz.prog 4 [.bool false]:=⟨⟨(.bool false:Value),by kernel_rfl,rfl,B7.1 rfl⟩⟩
instance:Und Tryz.prog 5 (.int .u8):=⟨Tryz.underlying5⟩
instance:IsA Tryz.prog 5 false:=⟨⟨_,Tryz.underlying5,rfl⟩⟩
instance:Siz Tryz.prog 5 1:=⟨by kernel_rfl⟩
instance:Und Tryz.prog 9 .string:=⟨Tryz.underlying9⟩
instance:IsA Tryz.prog 9 false:=⟨⟨_,Tryz.underlying9,rfl⟩⟩
instance:Siz Tryz.prog 9 1:=⟨by kernel_rfl⟩
instance:Byt Tryz.prog 9 16:=⟨by kernel_rfl⟩
instance:ZerV Tryz.prog 9 (.string ⟨#[]⟩):=⟨by kernel_rfl⟩
instance:Und Tryz.prog 21 (.int .i32):=⟨Tryz.underlying21⟩
instance:IsA Tryz.prog 21 false:=⟨⟨_,Tryz.underlying21,rfl⟩⟩
instance:Siz Tryz.prog 21 1:=⟨by kernel_rfl⟩
instance:Zer Tryz.prog 21 [.int .i32 0]:=⟨⟨(.int .i32 0:Value),by kernel_rfl,rfl,B7.1 rfl⟩⟩
instance:Und Tryz.prog 22 (.slice 9):=⟨Tryz.underlying22⟩
instance:IsA Tryz.prog 22 false:=⟨⟨_,Tryz.underlying22,rfl⟩⟩
instance:Siz Tryz.prog 22 1:=⟨by kernel_rfl⟩
instance:Und Tryz.prog 23 (.slice 66):=⟨Tryz.underlying23⟩
instance:IsA Tryz.prog 23 false:=⟨⟨_,Tryz.underlying23,rfl⟩⟩
instance:Siz Tryz.prog 23 1:=⟨by kernel_rfl⟩
instance:Und Tryz.prog 24 (.slice 99):=⟨Tryz.underlying24⟩
instance:IsA Tryz.prog 24 false:=⟨⟨_,Tryz.underlying24,rfl⟩⟩
instance:Siz Tryz.prog 24 1:=⟨by kernel_rfl⟩
instance:Und Tryz.prog 25 (.slice 112):=⟨Tryz.underlying25⟩
instance:IsA Tryz.prog 25 false:=⟨⟨_,Tryz.underlying25,rfl⟩⟩
instance:Siz Tryz.prog 25 1:=⟨by kernel_rfl⟩
instance:Und Tryz.prog 26 (.slice 51):=⟨Tryz.underlying26⟩
instance:IsA Tryz.prog 26 false:=⟨⟨_,Tryz.underlying26,rfl⟩⟩
instance:Siz Tryz.prog 26 1:=⟨by kernel_rfl⟩
instance:IsA Tryz.prog 28 true:=⟨⟨_,Tryz.underlying28,rfl⟩⟩
instance:Siz Tryz.prog 28 8:=⟨by kernel_rfl⟩
instance:ZerV Tryz.prog 28 (.agg #[.slice none 0 0,.slice none 0 0,.slice none 0 0,.slice none 0 0,.slice none 0 0,.slice none 0 0,.slice none 0 0,.slice none 0 0]):=⟨by kernel_rfl⟩
instance:Zer Tryz.prog 28 [.slice none 0 0,.slice none 0 0,.slice none 0 0,.slice none 0 0,.slice none 0 0,.slice none 0 0,.slice none 0 0,.slice none 0 0]:=⟨⟨(.agg #[.slice none 0 0,.slice none 0 0,.slice none 0 0,.slice none 0 0,.slice none 0 0,.slice none 0 0,.slice none 0 0,.slice none 0 0]:Value),by kernel_rfl,rfl,B7.1 rfl⟩⟩
instance:Fld Tryz.prog 28 0 0 22:=⟨⟨_,_,Tryz.underlying28,rfl,rfl,rfl⟩⟩
instance:Fld Tryz.prog 28 1 1 22:=⟨⟨_,_,Tryz.underlying28,rfl,rfl,rfl⟩⟩
instance:Fld Tryz.prog 28 2 2 22:=⟨⟨_,_,Tryz.underlying28,rfl,rfl,rfl⟩⟩
instance:Fld Tryz.prog 28 3 3 22:=⟨⟨_,_,Tryz.underlying28,rfl,rfl,rfl⟩⟩
instance:Fld Tryz.prog 28 4 4 23:=⟨⟨_,_,Tryz.underlying28,rfl,rfl,rfl⟩⟩
instance:Fld Tryz.prog 28 5 5 24:=⟨⟨_,_,Tryz.underlying28,rfl,rfl,rfl⟩⟩
instance:Fld Tryz.prog 28 6 6 25:=⟨⟨_,_,Tryz.underlying28,rfl,rfl,rfl⟩⟩
instance:Fld Tryz.prog 28 7 7 26:=⟨⟨_,_,Tryz.underlying28,rfl,rfl,rfl⟩⟩
instance:Plc Tryz.prog 28 [(0,1),(1,1),(2,1),(3,1),(4,1),(5,1),(6,1),(7,1)]:=⟨⟨_,Tryz.underlying28,by kernel_rfl⟩⟩
instance:IsA Tryz.prog 32 false:=⟨⟨_,Tryz.underlying32,rfl⟩⟩
instance:Siz Tryz.prog 32 1:=⟨by kernel_rfl⟩
instance:Zer Tryz.prog 32 [.int .i64 0]:=⟨⟨(.int .i64 0:Value),by kernel_rfl,rfl,B7.1 rfl⟩⟩
instance:Und Tryz.prog 34 (.array 2 3):=⟨Tryz.underlying34⟩
instance:IsA Tryz.prog 34 true:=⟨⟨_,Tryz.underlying34,rfl⟩⟩
instance:Zer Tryz.prog 34 [.int .i64 0,.int .i64 0]:=⟨⟨(.agg #[.int .i64 0,.int .i64 0]:Value),by kernel_rfl,rfl,B7.1 rfl⟩⟩
instance:IsA Tryz.prog 36 true:=⟨⟨_,Tryz.underlying36,rfl⟩⟩
instance:Siz Tryz.prog 36 6:=⟨by kernel_rfl⟩
instance:Byt Tryz.prog 36 48:=⟨by kernel_rfl⟩
instance:ZerV Tryz.prog 36 (.agg #[.int .i64 0,.int .i64 0,.int .i64 0,.int .i64 0,.int .i64 0,.int .i64 0]):=⟨by kernel_rfl⟩
instance:Zer Tryz.prog 36 [.int .i64 0,.int .i64 0,.int .i64 0,.int .i64 0,.int .i64 0,.int .i64 0]:=⟨⟨(.agg #[.int .i64 0,.int .i64 0,.int .i64 0,.int .i64 0,.int .i64 0,.int .i64 0]:Value),by kernel_rfl,rfl,B7.1 rfl⟩⟩
instance:Fld Tryz.prog 36 0 0 3:=⟨⟨_,_,Tryz.underlying36,rfl,rfl,rfl⟩⟩
instance:Plc Tryz.prog 36 [(0,1),(1,1),(2,1),(3,1),(4,1),(5,1)]:=⟨⟨_,Tryz.underlying36,by kernel_rfl⟩⟩
instance:IsA Tryz.prog 42 false:=⟨⟨_,Tryz.underlying42,rfl⟩⟩
instance:Und Tryz.prog 44 (.slice 36):=⟨Tryz.underlying44⟩
instance:IsA Tryz.prog 44 false:=⟨⟨_,Tryz.underlying44,rfl⟩⟩
instance:Siz Tryz.prog 44 1:=⟨by kernel_rfl⟩
instance:Zer Tryz.prog 44 [.slice none 0 0]:=⟨⟨(.slice none 0 0:Value),by kernel_rfl,rfl,B7.1 rfl⟩⟩
instance:Und Tryz.prog 49 (.int .u64):=⟨Tryz.underlying49⟩
instance:IsA Tryz.prog 51 true:=⟨⟨_,Tryz.underlying51,rfl⟩⟩
instance:Siz Tryz.prog 51 2:=⟨by kernel_rfl⟩
instance:Byt Tryz.prog 51 16:=⟨by kernel_rfl⟩
instance:ZerV Tryz.prog 51 (.agg #[.int .i64 0,.int .i64 0]):=⟨by kernel_rfl⟩
instance:Zer Tryz.prog 51 [.int .i64 0,.int .i64 0]:=⟨⟨(.agg #[.int .i64 0,.int .i64 0]:Value),by kernel_rfl,rfl,B7.1 rfl⟩⟩
instance:Fld Tryz.prog 51 0 0 3:=⟨⟨_,_,Tryz.underlying51,rfl,rfl,rfl⟩⟩
instance:Fld Tryz.prog 51 1 1 3:=⟨⟨_,_,Tryz.underlying51,rfl,rfl,rfl⟩⟩
instance:Plc Tryz.prog 51 [(0,1),(1,1)]:=⟨⟨_,Tryz.underlying51,by kernel_rfl⟩⟩
instance:Und Tryz.prog 54 (.slice 3):=⟨Tryz.underlying54⟩
instance:IsA Tryz.prog 54 false:=⟨⟨_,Tryz.underlying54,rfl⟩⟩
instance:Siz Tryz.prog 54 1:=⟨by kernel_rfl⟩
instance:Zer Tryz.prog 54 [.slice none 0 0]:=⟨⟨(.slice none 0 0:Value),by kernel_rfl,rfl,B7.1 rfl⟩⟩
instance:IsA Tryz.prog 63 true:=⟨⟨_,Tryz.underlying63,rfl⟩⟩
instance:Siz Tryz.prog 63 2:=⟨by kernel_rfl⟩
instance:ZerV Tryz.prog 63 (.agg #[.int .i64 0,.int .i64 0]):=⟨by kernel_rfl⟩
instance:Zer Tryz.prog 63 [.int .i64 0,.int .i64 0]:=⟨⟨(.agg #[.int .i64 0,.int .i64 0]:Value),by kernel_rfl,rfl,B7.1 rfl⟩⟩
instance:Fld Tryz.prog 63 0 0 3:=⟨⟨_,_,Tryz.underlying63,rfl,rfl,rfl⟩⟩
instance:Fld Tryz.prog 63 1 1 3:=⟨⟨_,_,Tryz.underlying63,rfl,rfl,rfl⟩⟩
instance:Plc Tryz.prog 63 [(0,1),(1,1)]:=⟨⟨_,Tryz.underlying63,by kernel_rfl⟩⟩
instance:Und Tryz.prog 64 (.slice 139):=⟨Tryz.underlying64⟩
instance:IsA Tryz.prog 64 false:=⟨⟨_,Tryz.underlying64,rfl⟩⟩
instance:Siz Tryz.prog 64 1:=⟨by kernel_rfl⟩
instance:IsA Tryz.prog 66 true:=⟨⟨_,Tryz.underlying66,rfl⟩⟩
instance:Siz Tryz.prog 66 9:=⟨by kernel_rfl⟩
instance:Byt Tryz.prog 66 88:=⟨by kernel_rfl⟩
instance:ZerV Tryz.prog 66 (.agg #[.int .i64 0,.int .i64 0,.int .i64 0,.int .i64 0,.int .i64 0,.int .i64 0,.int .i64 0,.int .i64 0,.slice none 0 0]):=⟨by kernel_rfl⟩
instance:Zer Tryz.prog 66 [.int .i64 0,.int .i64 0,.int .i64 0,.int .i64 0,.int .i64 0,.int .i64 0,.int .i64 0,.int .i64 0,.slice none 0 0]:=⟨⟨(.agg #[.int .i64 0,.int .i64 0,.int .i64 0,.int .i64 0,.int .i64 0,.int .i64 0,.int .i64 0,.int .i64 0,.slice none 0 0]:Value),by kernel_rfl,rfl,B7.1 rfl⟩⟩
instance:Fld Tryz.prog 66 0 0 3:=⟨⟨_,_,Tryz.underlying66,rfl,rfl,rfl⟩⟩
instance:Fld Tryz.prog 66 1 1 3:=⟨⟨_,_,Tryz.underlying66,rfl,rfl,rfl⟩⟩
instance:Fld Tryz.prog 66 2 2 3:=⟨⟨_,_,Tryz.underlying66,rfl,rfl,rfl⟩⟩
instance:Fld Tryz.prog 66 3 3 3:=⟨⟨_,_,Tryz.underlying66,rfl,rfl,rfl⟩⟩
instance:Fld Tryz.prog 66 4 4 3:=⟨⟨_,_,Tryz.underlying66,rfl,rfl,rfl⟩⟩
instance:Fld Tryz.prog 66 5 5 63:=⟨⟨_,_,Tryz.underlying66,rfl,rfl,rfl⟩⟩
instance:Fld Tryz.prog 66 6 7 3:=⟨⟨_,_,Tryz.underlying66,rfl,rfl,rfl⟩⟩
instance:Fld Tryz.prog 66 7 8 64:=⟨⟨_,_,Tryz.underlying66,rfl,rfl,rfl⟩⟩
instance:Plc Tryz.prog 66 [(0,1),(1,1),(2,1),(3,1),(4,1),(5,2),(7,1),(8,1)]:=⟨⟨_,Tryz.underlying66,by kernel_rfl⟩⟩
instance:Und Tryz.prog 70 (.slice 81):=⟨Tryz.underlying70⟩
instance:IsA Tryz.prog 70 false:=⟨⟨_,Tryz.underlying70,rfl⟩⟩
instance:IsA Tryz.prog 81 true:=⟨⟨_,Tryz.underlying81,rfl⟩⟩
instance:Siz Tryz.prog 81 3:=⟨by kernel_rfl⟩
instance:Byt Tryz.prog 81 24:=⟨by kernel_rfl⟩
instance:ZerV Tryz.prog 81 (.agg #[.int .i64 0,.int .i64 0,.int .i64 0]):=⟨by kernel_rfl⟩
instance:Zer Tryz.prog 81 [.int .i64 0,.int .i64 0,.int .i64 0]:=⟨⟨(.agg #[.int .i64 0,.int .i64 0,.int .i64 0]:Value),by kernel_rfl,rfl,B7.1 rfl⟩⟩
instance:Fld Tryz.prog 81 0 0 3:=⟨⟨_,_,Tryz.underlying81,rfl,rfl,rfl⟩⟩
instance:Fld Tryz.prog 81 1 1 3:=⟨⟨_,_,Tryz.underlying81,rfl,rfl,rfl⟩⟩
instance:Fld Tryz.prog 81 2 2 3:=⟨⟨_,_,Tryz.underlying81,rfl,rfl,rfl⟩⟩
instance:Plc Tryz.prog 81 [(0,1),(1,1),(2,1)]:=⟨⟨_,Tryz.underlying81,by kernel_rfl⟩⟩
instance:Und Tryz.prog 89 (.slice 28):=⟨Tryz.underlying89⟩
instance:IsA Tryz.prog 94 false:=⟨⟨_,Tryz.underlying94,rfl⟩⟩
instance:IsA Tryz.prog 99 true:=⟨⟨_,Tryz.underlying99,rfl⟩⟩
instance:Siz Tryz.prog 99 2:=⟨by kernel_rfl⟩
instance:Byt Tryz.prog 99 32:=⟨by kernel_rfl⟩
instance:ZerV Tryz.prog 99 (.agg #[.int .i64 0,.slice none 0 0]):=⟨by kernel_rfl⟩
instance:Zer Tryz.prog 99 [.int .i64 0,.slice none 0 0]:=⟨⟨(.agg #[.int .i64 0,.slice none 0 0]:Value),by kernel_rfl,rfl,B7.1 rfl⟩⟩
instance:Fld Tryz.prog 99 0 0 3:=⟨⟨_,_,Tryz.underlying99,rfl,rfl,rfl⟩⟩
instance:Fld Tryz.prog 99 1 1 54:=⟨⟨_,_,Tryz.underlying99,rfl,rfl,rfl⟩⟩
instance:Plc Tryz.prog 99 [(0,1),(1,1)]:=⟨⟨_,Tryz.underlying99,by kernel_rfl⟩⟩
instance:Und Tryz.prog 101 (.slice 121):=⟨Tryz.underlying101⟩
instance:IsA Tryz.prog 101 false:=⟨⟨_,Tryz.underlying101,rfl⟩⟩
instance:IsA Tryz.prog 112 true:=⟨⟨_,Tryz.underlying112,rfl⟩⟩
instance:Siz Tryz.prog 112 4:=⟨by kernel_rfl⟩
instance:Byt Tryz.prog 112 48:=⟨by kernel_rfl⟩
instance:ZerV Tryz.prog 112 (.agg #[.int .i64 0,.int .i64 0,.bool false,.slice none 0 0]):=⟨by kernel_rfl⟩
instance:Zer Tryz.prog 112 [.int .i64 0,.int .i64 0,.bool false,.slice none 0 0]:=⟨⟨(.agg #[.int .i64 0,.int .i64 0,.bool false,.slice none 0 0]:Value),by kernel_rfl,rfl,B7.1 rfl⟩⟩
instance:Fld Tryz.prog 112 0 0 3:=⟨⟨_,_,Tryz.underlying112,rfl,rfl,rfl⟩⟩
instance:Fld Tryz.prog 112 1 1 3:=⟨⟨_,_,Tryz.underlying112,rfl,rfl,rfl⟩⟩
instance:Fld Tryz.prog 112 2 2 4:=⟨⟨_,_,Tryz.underlying112,rfl,rfl,rfl⟩⟩
instance:Fld Tryz.prog 112 3 3 54:=⟨⟨_,_,Tryz.underlying112,rfl,rfl,rfl⟩⟩
instance:IsA Tryz.prog 115 false:=⟨⟨_,Tryz.underlying115,rfl⟩⟩
instance:Siz Tryz.prog 115 1:=⟨by kernel_rfl⟩
instance:IsA Tryz.prog 116 true:=⟨⟨_,Tryz.underlying116,rfl⟩⟩
instance:Siz Tryz.prog 116 3:=⟨by kernel_rfl⟩
instance:Zer Tryz.prog 116 [.int .i64 0,.nilFunc,.nilFunc]:=⟨⟨(.agg #[.int .i64 0,.nilFunc,.nilFunc]:Value),by kernel_rfl,rfl,B7.1 rfl⟩⟩
instance:Fld Tryz.prog 116 0 0 3:=⟨⟨_,_,Tryz.underlying116,rfl,rfl,rfl⟩⟩
instance:Fld Tryz.prog 116 1 1 115:=⟨⟨_,_,Tryz.underlying116,rfl,rfl,rfl⟩⟩
instance:Fld Tryz.prog 116 2 2 115:=⟨⟨_,_,Tryz.underlying116,rfl,rfl,rfl⟩⟩
instance:Und Tryz.prog 117 (.array 4 116):=⟨Tryz.underlying117⟩
instance:IsA Tryz.prog 117 true:=⟨⟨_,Tryz.underlying117,rfl⟩⟩
instance:Siz Tryz.prog 117 12:=⟨by kernel_rfl⟩
instance:Und Tryz.prog 119 (.slice 178):=⟨Tryz.underlying119⟩
instance:IsA Tryz.prog 119 false:=⟨⟨_,Tryz.underlying119,rfl⟩⟩
instance:Siz Tryz.prog 119 1:=⟨by kernel_rfl⟩
instance:IsA Tryz.prog 121 true:=⟨⟨_,Tryz.underlying121,rfl⟩⟩
instance:Siz Tryz.prog 121 3:=⟨by kernel_rfl⟩
instance:Byt Tryz.prog 121 56:=⟨by kernel_rfl⟩
instance:ZerV Tryz.prog 121 (.agg #[.int .i64 0,.slice none 0 0,.slice none 0 0]):=⟨by kernel_rfl⟩
instance:Zer Tryz.prog 121 [.int .i64 0,.slice none 0 0,.slice none 0 0]:=⟨⟨(.agg #[.int .i64 0,.slice none 0 0,.slice none 0 0]:Value),by kernel_rfl,rfl,B7.1 rfl⟩⟩
instance:Fld Tryz.prog 121 0 0 3:=⟨⟨_,_,Tryz.underlying121,rfl,rfl,rfl⟩⟩
instance:Fld Tryz.prog 121 1 1 119:=⟨⟨_,_,Tryz.underlying121,rfl,rfl,rfl⟩⟩
instance:Fld Tryz.prog 121 2 2 119:=⟨⟨_,_,Tryz.underlying121,rfl,rfl,rfl⟩⟩
instance:Plc Tryz.prog 121 [(0,1),(1,1),(2,1)]:=⟨⟨_,Tryz.underlying121,by kernel_rfl⟩⟩
instance:Und Tryz.prog 126 (.map 3 4):=⟨Tryz.underlying126⟩
instance:IsA Tryz.prog 126 false:=⟨⟨_,Tryz.underlying126,rfl⟩⟩
instance:Siz Tryz.prog 126 1:=⟨by kernel_rfl⟩
instance:Zer Tryz.prog 126 [.map none]:=⟨⟨(.map none:Value),by kernel_rfl,rfl,B7.1 rfl⟩⟩
instance:IsA Tryz.prog 129 false:=⟨⟨_,Tryz.underlying129,rfl⟩⟩
instance:IsA Tryz.prog 139 true:=⟨⟨_,Tryz.underlying139,rfl⟩⟩
instance:Siz Tryz.prog 139 3:=⟨by kernel_rfl⟩
instance:Byt Tryz.prog 139 24:=⟨by kernel_rfl⟩
instance:ZerV Tryz.prog 139 (.agg #[.int .i64 0,.int .i64 0,.int .i64 0]):=⟨by kernel_rfl⟩
instance:Zer Tryz.prog 139 [.int .i64 0,.int .i64 0,.int .i64 0]:=⟨⟨(.agg #[.int .i64 0,.int .i64 0,.int .i64 0]:Value),by kernel_rfl,rfl,B7.1 rfl⟩⟩
instance:Fld Tryz.prog 139 0 0 3:=⟨⟨_,_,Tryz.underlying139,rfl,rfl,rfl⟩⟩
instance:Fld Tryz.prog 139 1 1 63:=⟨⟨_,_,Tryz.underlying139,rfl,rfl,rfl⟩⟩
instance:Plc Tryz.prog 139 [(0,1),(1,2)]:=⟨⟨_,Tryz.underlying139,by kernel_rfl⟩⟩
instance:Und Tryz.prog 141 (.map 3 3):=⟨Tryz.underlying141⟩
instance:IsA Tryz.prog 141 false:=⟨⟨_,Tryz.underlying141,rfl⟩⟩
instance:Siz Tryz.prog 141 1:=⟨by kernel_rfl⟩
instance:Zer Tryz.prog 141 [.map none]:=⟨⟨(.map none:Value),by kernel_rfl,rfl,B7.1 rfl⟩⟩
instance:Und Tryz.prog 148 (.array 4 3):=⟨Tryz.underlying148⟩
instance:Zer Tryz.prog 148 [.int .i64 0,.int .i64 0,.int .i64 0,.int .i64 0]:=⟨⟨(.agg #[.int .i64 0,.int .i64 0,.int .i64 0,.int .i64 0]:Value),by kernel_rfl,rfl,B7.1 rfl⟩⟩
instance:IsA Tryz.prog 152 true:=⟨⟨_,Tryz.underlying152,rfl⟩⟩
instance:Siz Tryz.prog 152 2:=⟨by kernel_rfl⟩
instance:Zer Tryz.prog 152 [.int .i64 0,.int .i64 0]:=⟨⟨(.agg #[.int .i64 0,.int .i64 0]:Value),by kernel_rfl,rfl,B7.1 rfl⟩⟩
instance:Plc Tryz.prog 152 [(0,1),(1,1)]:=⟨⟨_,Tryz.underlying152,by kernel_rfl⟩⟩
instance:Und Tryz.prog 156 (.array 4 22):=⟨Tryz.underlying156⟩
instance:IsA Tryz.prog 156 true:=⟨⟨_,Tryz.underlying156,rfl⟩⟩
instance:Siz Tryz.prog 156 4:=⟨by kernel_rfl⟩
instance:Zer Tryz.prog 156 [.slice none 0 0,.slice none 0 0,.slice none 0 0,.slice none 0 0]:=⟨⟨(.agg #[.slice none 0 0,.slice none 0 0,.slice none 0 0,.slice none 0 0]:Value),by kernel_rfl,rfl,B7.1 rfl⟩⟩
instance:IsA Tryz.prog 168 false:=⟨⟨_,Tryz.underlying168,rfl⟩⟩
instance:Und Tryz.prog 171 (.array 4 54):=⟨Tryz.underlying171⟩
instance:IsA Tryz.prog 171 true:=⟨⟨_,Tryz.underlying171,rfl⟩⟩
instance:Siz Tryz.prog 171 4:=⟨by kernel_rfl⟩
instance:Zer Tryz.prog 171 [.slice none 0 0,.slice none 0 0,.slice none 0 0,.slice none 0 0]:=⟨⟨(.agg #[.slice none 0 0,.slice none 0 0,.slice none 0 0,.slice none 0 0]:Value),by kernel_rfl,rfl,B7.1 rfl⟩⟩
instance:IsA Tryz.prog 175 false:=⟨⟨_,Tryz.underlying175,rfl⟩⟩
instance:IsA Tryz.prog 178 true:=⟨⟨_,Tryz.underlying178,rfl⟩⟩
instance:Siz Tryz.prog 178 3:=⟨by kernel_rfl⟩
instance:Byt Tryz.prog 178 24:=⟨by kernel_rfl⟩
instance:ZerV Tryz.prog 178 (.agg #[.int .i64 0,.int .i64 0,.int .i64 0]):=⟨by kernel_rfl⟩
instance:Zer Tryz.prog 178 [.int .i64 0,.int .i64 0,.int .i64 0]:=⟨⟨(.agg #[.int .i64 0,.int .i64 0,.int .i64 0]:Value),by kernel_rfl,rfl,B7.1 rfl⟩⟩
instance:Fld Tryz.prog 178 0 0 3:=⟨⟨_,_,Tryz.underlying178,rfl,rfl,rfl⟩⟩
instance:Fld Tryz.prog 178 1 1 3:=⟨⟨_,_,Tryz.underlying178,rfl,rfl,rfl⟩⟩
instance:Fld Tryz.prog 178 2 2 3:=⟨⟨_,_,Tryz.underlying178,rfl,rfl,rfl⟩⟩
instance:Plc Tryz.prog 178 [(0,1),(1,1),(2,1)]:=⟨⟨_,Tryz.underlying178,by kernel_rfl⟩⟩
instance:Und Tryz.prog 184 (.map 139 3):=⟨Tryz.underlying184⟩
instance:Und Tryz.prog 193 (.array 4 9):=⟨Tryz.underlying193⟩
instance:IsA Tryz.prog 196 false:=⟨⟨_,Tryz.underlying196,rfl⟩⟩
instance:Siz Tryz.prog 196 1:=⟨by kernel_rfl⟩
instance:Und Tryz.prog 197 (.array 11 196):=⟨Tryz.underlying197⟩
instance:IsA Tryz.prog 198 false:=⟨⟨_,Tryz.underlying198,rfl⟩⟩
instance:Und Tryz.prog 199 (.map 297 3):=⟨Tryz.underlying199⟩
instance:IsA Tryz.prog 199 false:=⟨⟨_,Tryz.underlying199,rfl⟩⟩
instance:Siz Tryz.prog 199 1:=⟨by kernel_rfl⟩
instance:Und Tryz.prog 200 (.map 297 63):=⟨Tryz.underlying200⟩
instance:IsA Tryz.prog 200 false:=⟨⟨_,Tryz.underlying200,rfl⟩⟩
instance:Siz Tryz.prog 200 1:=⟨by kernel_rfl⟩
instance:Und Tryz.prog 201 (.map 299 4):=⟨Tryz.underlying201⟩
instance:IsA Tryz.prog 201 false:=⟨⟨_,Tryz.underlying201,rfl⟩⟩
instance:Siz Tryz.prog 201 1:=⟨by kernel_rfl⟩
instance:Zer Tryz.prog 203 [.slice none 0 0,.slice none 0 0,.slice none 0 0,.slice none 0 0,.slice none 0 0,.slice none 0 0,.slice none 0 0,.slice none 0 0,.map none,.map none,.map none,.map none,.map none]:=⟨⟨(.agg #[.slice none 0 0,.slice none 0 0,.slice none 0 0,.slice none 0 0,.slice none 0 0,.slice none 0 0,.slice none 0 0,.slice none 0 0,.map none,.map none,.map none,.map none,.map none]:Value),by kernel_rfl,rfl,B7.1 rfl⟩⟩
instance:Fld Tryz.prog 203 0 0 28:=⟨⟨_,_,Tryz.underlying203,rfl,rfl,rfl⟩⟩
instance:Fld Tryz.prog 203 1 8 126:=⟨⟨_,_,Tryz.underlying203,rfl,rfl,rfl⟩⟩
instance:Fld Tryz.prog 203 2 9 126:=⟨⟨_,_,Tryz.underlying203,rfl,rfl,rfl⟩⟩
instance:Fld Tryz.prog 203 3 10 199:=⟨⟨_,_,Tryz.underlying203,rfl,rfl,rfl⟩⟩
instance:Fld Tryz.prog 203 4 11 200:=⟨⟨_,_,Tryz.underlying203,rfl,rfl,rfl⟩⟩
instance:Fld Tryz.prog 203 5 12 201:=⟨⟨_,_,Tryz.underlying203,rfl,rfl,rfl⟩⟩
instance:Plc Tryz.prog 203 [(0,8),(8,1),(9,1),(10,1),(11,1),(12,1)]:=⟨⟨_,Tryz.underlying203,by kernel_rfl⟩⟩
instance:Und Tryz.prog 204 (.map 9 4):=⟨Tryz.underlying204⟩
instance:IsA Tryz.prog 207 false:=⟨⟨_,Tryz.underlying207,rfl⟩⟩
instance:Siz Tryz.prog 207 1:=⟨by kernel_rfl⟩
instance:Zer Tryz.prog 207 [.nilFunc]:=⟨⟨(.nilFunc:Value),by kernel_rfl,rfl,B7.1 rfl⟩⟩
instance:IsA Tryz.prog 210 false:=⟨⟨_,Tryz.underlying210,rfl⟩⟩
instance:IsA Tryz.prog 212 false:=⟨⟨_,Tryz.underlying212,rfl⟩⟩
instance:IsA Tryz.prog 214 false:=⟨⟨_,Tryz.underlying214,rfl⟩⟩
instance:IsA Tryz.prog 215 false:=⟨⟨_,Tryz.underlying215,rfl⟩⟩
instance:IsA Tryz.prog 216 false:=⟨⟨_,Tryz.underlying216,rfl⟩⟩
instance:Siz Tryz.prog 216 1:=⟨by kernel_rfl⟩
instance:Zer Tryz.prog 216 [.nilFunc]:=⟨⟨(.nilFunc:Value),by kernel_rfl,rfl,B7.1 rfl⟩⟩
instance:Und Tryz.prog 226 (.map 34 63):=⟨Tryz.underlying226⟩
instance:IsA Tryz.prog 243 false:=⟨⟨_,Tryz.underlying243,rfl⟩⟩
instance:IsA Tryz.prog 246 false:=⟨⟨_,Tryz.underlying246,rfl⟩⟩
instance:Siz Tryz.prog 246 1:=⟨by kernel_rfl⟩
instance:IsA Tryz.prog 248 false:=⟨⟨_,Tryz.underlying248,rfl⟩⟩
instance:Und Tryz.prog 250 (.array 7 246):=⟨Tryz.underlying250⟩
instance:Siz Tryz.prog 250 7:=⟨by kernel_rfl⟩
instance:Zer Tryz.prog 250 [.nilFunc,.nilFunc,.nilFunc,.nilFunc,.nilFunc,.nilFunc,.nilFunc]:=⟨⟨(.agg #[.nilFunc,.nilFunc,.nilFunc,.nilFunc,.nilFunc,.nilFunc,.nilFunc]:Value),by kernel_rfl,rfl,B7.1 rfl⟩⟩
instance:Und Tryz.prog 276 (.array 256 5):=⟨Tryz.underlying276⟩
instance:IsA Tryz.prog 278 true:=⟨⟨_,Tryz.underlying278,rfl⟩⟩
instance:Siz Tryz.prog 278 2:=⟨by kernel_rfl⟩
instance:Zer Tryz.prog 278 [.int .u8 0,.int .u8 0]:=⟨⟨(.agg #[.int .u8 0,.int .u8 0]:Value),by kernel_rfl,rfl,B7.1 rfl⟩⟩
instance:Fld Tryz.prog 278 0 0 5:=⟨⟨_,_,Tryz.underlying278,rfl,rfl,rfl⟩⟩
instance:Fld Tryz.prog 278 1 1 5:=⟨⟨_,_,Tryz.underlying278,rfl,rfl,rfl⟩⟩
instance:Und Tryz.prog 279 (.array 16 278):=⟨Tryz.underlying279⟩
instance:IsA Tryz.prog 297 true:=⟨⟨_,Tryz.underlying297,rfl⟩⟩
instance:Siz Tryz.prog 297 2:=⟨by kernel_rfl⟩
instance:Zer Tryz.prog 297 [.int .i64 0,.int .i64 0]:=⟨⟨(.agg #[.int .i64 0,.int .i64 0]:Value),by kernel_rfl,rfl,B7.1 rfl⟩⟩
instance:Plc Tryz.prog 297 [(0,1),(1,1)]:=⟨⟨_,Tryz.underlying297,by kernel_rfl⟩⟩
instance:IsA Tryz.prog 299 true:=⟨⟨_,Tryz.underlying299,rfl⟩⟩
instance:Zer Tryz.prog 299 [.int .i64 0,.int .i64 0,.int .i64 0]:=⟨⟨(.agg #[.int .i64 0,.int .i64 0,.int .i64 0]:Value),by kernel_rfl,rfl,B7.1 rfl⟩⟩
instance:Plc Tryz.prog 299 [(0,1),(1,2)]:=⟨⟨_,Tryz.underlying299,by kernel_rfl⟩⟩
instance:Mixed Tryz.prog:=⟨by kernel_rfl⟩
theorem ywb (n:Nat) (w:World) (a b c d:Int):(Op.equalIn (n+2) 34 (.agg #[.int .i64 a,.int .i64 b]) (.agg #[.int .i64 c,.int .i64 d])).run Tryz.prog w= .ok (a==c && b==d) w:=by
 rw [Op.equalIn];simp only [A9,Go.run_underlying Tryz.underlying34,A3,Ab.run_sizeOf (P:=Tryz.prog) (T:=3) (n:=1)];simp [part,run_equalIn_int _ n 3 .i64 .i64 _ _ Tryz.underlying3,Std.Legacy.Range.forIn_eq_forIn_range',List.range'_succ];by_cases h1:a=c <;> by_cases h2:b=d <;> simp [h1,h2]
instance:EqInts Tryz.prog 34 2:= .mk2 (by kernel_rfl) (ywb 9998)
instance:Chk2 Tryz.prog 34:=⟨fun e w a b=>by kernel_rfl⟩
theorem ywa (n:Nat) (w:World) (a b c d:Int):(Op.equalIn (n+2) 51 (.agg #[.int .i64 a,.int .i64 b]) (.agg #[.int .i64 c,.int .i64 d])).run Tryz.prog w= .ok (a==c && b==d) w:=by
 rw [run_equalIn_struct w (n+1) 51 _ _ (by kernel_rfl) (by kernel_rfl)];simp only [Program.fieldsOf,Tryz.underlying51];simp [Op.eqFields,part,run_equalIn_int _ n 3 .i64 .i64 _ _ Tryz.underlying3];by_cases h1:a=c <;> by_cases h2:b=d <;> simp [h1,h2]
instance:EqInts Tryz.prog 51 2:= .mk2 (by kernel_rfl) (ywa 9998)
theorem yo0 (n:Nat) (w:World) (a b c d:Int):(Op.equalIn (n+2) 63 (.agg #[.int .i64 a,.int .i64 b]) (.agg #[.int .i64 c,.int .i64 d])).run Tryz.prog w= .ok (a==c && b==d) w:=by
 rw [run_equalIn_struct w (n+1) 63 _ _ (by kernel_rfl) (by kernel_rfl)];simp only [Program.fieldsOf,Tryz.underlying63];simp [Op.eqFields,part,run_equalIn_int _ n 3 .i64 .i64 _ _ Tryz.underlying3];by_cases h1:a=c <;> by_cases h2:b=d <;> simp [h1,h2]
instance:EqInts Tryz.prog 63 2:= .mk2 (by kernel_rfl) (yo0 9998)
instance:EqInts Tryz.prog 139 3:= .mk3 (by kernel_rfl) fun w a b c d e f=>by
 rw [run_equalIn_struct w 9999 139 _ _ (by kernel_rfl) (by kernel_rfl)];simp only [Program.fieldsOf,Tryz.underlying139];simp [Op.eqFields,part,run_equalIn_int _ 9998 3 .i64 .i64 _ _ Tryz.underlying3,yo0 9997];by_cases h1:a=d <;> by_cases h2:b=e <;> by_cases h3:c=f <;> simp [h1,h2,h3]
theorem yte (n:Nat) (w:World) (a b c d:Int):(Op.equalIn (n+2) 297 (.agg #[.int .i64 a,.int .i64 b]) (.agg #[.int .i64 c,.int .i64 d])).run Tryz.prog w= .ok (a==c && b==d) w:=by
 rw [run_equalIn_struct w (n+1) 297 _ _ (by kernel_rfl) (by kernel_rfl)];simp only [Program.fieldsOf,Tryz.underlying297];simp [Op.eqFields,part,run_equalIn_int _ n 3 .i64 .i64 _ _ Tryz.underlying3];by_cases h1:a=c <;> by_cases h2:b=d <;> simp [h1,h2]
instance:EqInts Tryz.prog 297 2:= .mk2 (by kernel_rfl) (yte 9998)
instance:EqInts Tryz.prog 299 3:= .mk3 (by kernel_rfl) fun w a b c d e f=>by
 rw [run_equalIn_struct w 9999 299 _ _ (by kernel_rfl) (by kernel_rfl)];simp only [Program.fieldsOf,Tryz.underlying299];simp [Op.eqFields,part,run_equalIn_int _ 9998 3 .i64 .i64 _ _ Tryz.underlying3,yo0 9997];by_cases h1:a=d <;> by_cases h2:b=e <;> by_cases h3:c=f <;> simp [h1,h2,h3]
instance:Enters Tryz.prog 14:=⟨⟨_,Tryz.func14,by kernel_rfl,by kernel_rfl⟩⟩
instance:Enters Tryz.prog 15:=⟨⟨_,Tryz.func15,by kernel_rfl,by kernel_rfl⟩⟩
instance:Enters Tryz.prog 20:=⟨⟨_,Tryz.func20,by kernel_rfl,by kernel_rfl⟩⟩
instance:Enters Tryz.prog 22:=⟨⟨_,Tryz.func22,by kernel_rfl,by kernel_rfl⟩⟩
instance:Enters Tryz.prog 23:=⟨⟨_,Tryz.func23,by kernel_rfl,by kernel_rfl⟩⟩
instance:Enters Tryz.prog 24:=⟨⟨_,Tryz.func24,by kernel_rfl,by kernel_rfl⟩⟩
instance:Enters Tryz.prog 25:=⟨⟨_,Tryz.func25,by kernel_rfl,by kernel_rfl⟩⟩
instance:Enters Tryz.prog 28:=⟨⟨_,Tryz.func28,by kernel_rfl,by kernel_rfl⟩⟩
instance:Enters Tryz.prog 29:=⟨⟨_,Tryz.func29,by kernel_rfl,by kernel_rfl⟩⟩
instance:Enters Tryz.prog 31:=⟨⟨_,Tryz.func31,by kernel_rfl,by kernel_rfl⟩⟩
instance:Enters Tryz.prog 32:=⟨⟨_,Tryz.func32,by kernel_rfl,by kernel_rfl⟩⟩
instance:Enters Tryz.prog 33:=⟨⟨_,Tryz.func33,by kernel_rfl,by kernel_rfl⟩⟩
instance:Enters Tryz.prog 34:=⟨⟨_,Tryz.func34,by kernel_rfl,by kernel_rfl⟩⟩
instance:Enters Tryz.prog 35:=⟨⟨_,Tryz.func35,by kernel_rfl,by kernel_rfl⟩⟩
instance:Enters Tryz.prog 37:=⟨⟨_,Tryz.func37,by kernel_rfl,by kernel_rfl⟩⟩
instance:Enters Tryz.prog 38:=⟨⟨_,Tryz.func38,by kernel_rfl,by kernel_rfl⟩⟩
instance:Enters Tryz.prog 39:=⟨⟨_,Tryz.func39,by kernel_rfl,by kernel_rfl⟩⟩
instance:Enters Tryz.prog 40:=⟨⟨_,Tryz.func40,by kernel_rfl,by kernel_rfl⟩⟩
instance:Enters Tryz.prog 41:=⟨⟨_,Tryz.func41,by kernel_rfl,by kernel_rfl⟩⟩
instance:Enters Tryz.prog 42:=⟨⟨_,Tryz.func42,by kernel_rfl,by kernel_rfl⟩⟩
instance:Enters Tryz.prog 43:=⟨⟨_,Tryz.func43,by kernel_rfl,by kernel_rfl⟩⟩
instance:Enters Tryz.prog 44:=⟨⟨_,Tryz.func44,by kernel_rfl,by kernel_rfl⟩⟩
instance:Enters Tryz.prog 45:=⟨⟨_,Tryz.func45,by kernel_rfl,by kernel_rfl⟩⟩
instance:Enters Tryz.prog 49:=⟨⟨_,Tryz.func49,by kernel_rfl,by kernel_rfl⟩⟩
instance:Enters Tryz.prog 51:=⟨⟨_,Tryz.func51,by kernel_rfl,by kernel_rfl⟩⟩
instance:Enters Tryz.prog 53:=⟨⟨_,Tryz.func53,by kernel_rfl,by kernel_rfl⟩⟩
instance:Enters Tryz.prog 54:=⟨⟨_,Tryz.func54,by kernel_rfl,by kernel_rfl⟩⟩
instance:Enters Tryz.prog 55:=⟨⟨_,Tryz.func55,by kernel_rfl,by kernel_rfl⟩⟩
instance:Enters Tryz.prog 56:=⟨⟨_,Tryz.func56,by kernel_rfl,by kernel_rfl⟩⟩
instance:Enters Tryz.prog 57:=⟨⟨_,Tryz.func57,by kernel_rfl,by kernel_rfl⟩⟩
instance:Enters Tryz.prog 58:=⟨⟨_,Tryz.func58,by kernel_rfl,by kernel_rfl⟩⟩
instance:Enters Tryz.prog 59:=⟨⟨_,Tryz.func59,by kernel_rfl,by kernel_rfl⟩⟩
instance:Enters Tryz.prog 60:=⟨⟨_,Tryz.func60,by kernel_rfl,by kernel_rfl⟩⟩
instance:Enters Tryz.prog 61:=⟨⟨_,Tryz.func61,by kernel_rfl,by kernel_rfl⟩⟩
instance:Enters Tryz.prog 62:=⟨⟨_,Tryz.func62,by kernel_rfl,by kernel_rfl⟩⟩
instance:Enters Tryz.prog 63:=⟨⟨_,Tryz.func63,by kernel_rfl,by kernel_rfl⟩⟩
instance:Enters Tryz.prog 64:=⟨⟨_,Tryz.func64,by kernel_rfl,by kernel_rfl⟩⟩
instance:Enters Tryz.prog 65:=⟨⟨_,Tryz.func65,by kernel_rfl,by kernel_rfl⟩⟩
instance:Enters Tryz.prog 69:=⟨⟨_,Tryz.func69,by kernel_rfl,by kernel_rfl⟩⟩
instance:Enters Tryz.prog 70:=⟨⟨_,Tryz.func70,by kernel_rfl,by kernel_rfl⟩⟩
instance:Enters Tryz.prog 71:=⟨⟨_,Tryz.func71,by kernel_rfl,by kernel_rfl⟩⟩
instance:Enters Tryz.prog 72:=⟨⟨_,Tryz.func72,by kernel_rfl,by kernel_rfl⟩⟩
instance:Enters Tryz.prog 73:=⟨⟨_,Tryz.func73,by kernel_rfl,by kernel_rfl⟩⟩
instance:Enters Tryz.prog 74:=⟨⟨_,Tryz.func74,by kernel_rfl,by kernel_rfl⟩⟩
instance:Enters Tryz.prog 75:=⟨⟨_,Tryz.func75,by kernel_rfl,by kernel_rfl⟩⟩
instance:Enters Tryz.prog 76:=⟨⟨_,Tryz.func76,by kernel_rfl,by kernel_rfl⟩⟩
instance:Enters Tryz.prog 79:=⟨⟨_,Tryz.func79,by kernel_rfl,by kernel_rfl⟩⟩
instance:Enters Tryz.prog 80:=⟨⟨_,Tryz.func80,by kernel_rfl,by kernel_rfl⟩⟩
instance:Enters Tryz.prog 81:=⟨⟨_,Tryz.func81,by kernel_rfl,by kernel_rfl⟩⟩
instance:Enters Tryz.prog 82:=⟨⟨_,Tryz.func82,by kernel_rfl,by kernel_rfl⟩⟩
instance:Enters Tryz.prog 83:=⟨⟨_,Tryz.func83,by kernel_rfl,by kernel_rfl⟩⟩
instance:Enters Tryz.prog 84:=⟨⟨_,Tryz.func84,by kernel_rfl,by kernel_rfl⟩⟩
instance:Enters Tryz.prog 85:=⟨⟨_,Tryz.func85,by kernel_rfl,by kernel_rfl⟩⟩
instance:Enters Tryz.prog 86:=⟨⟨_,Tryz.func86,by kernel_rfl,by kernel_rfl⟩⟩
instance:Enters Tryz.prog 87:=⟨⟨_,Tryz.func87,by kernel_rfl,by kernel_rfl⟩⟩
instance:Enters Tryz.prog 88:=⟨⟨_,Tryz.func88,by kernel_rfl,by kernel_rfl⟩⟩
instance:Enters Tryz.prog 89:=⟨⟨_,Tryz.func89,by kernel_rfl,by kernel_rfl⟩⟩
instance:Enters Tryz.prog 90:=⟨⟨_,Tryz.func90,by kernel_rfl,by kernel_rfl⟩⟩
instance:Enters Tryz.prog 91:=⟨⟨_,Tryz.func91,by kernel_rfl,by kernel_rfl⟩⟩
instance:Enters Tryz.prog 93:=⟨⟨_,Tryz.func93,by kernel_rfl,by kernel_rfl⟩⟩
instance:Enters Tryz.prog 94:=⟨⟨_,Tryz.func94,by kernel_rfl,by kernel_rfl⟩⟩
instance:Enters Tryz.prog 95:=⟨⟨_,Tryz.func95,by kernel_rfl,by kernel_rfl⟩⟩
instance:Enters Tryz.prog 96:=⟨⟨_,Tryz.func96,by kernel_rfl,by kernel_rfl⟩⟩
instance:Enters Tryz.prog 97:=⟨⟨_,Tryz.func97,by kernel_rfl,by kernel_rfl⟩⟩
instance:Enters Tryz.prog 98:=⟨⟨_,Tryz.func98,by kernel_rfl,by kernel_rfl⟩⟩
instance:Enters Tryz.prog 99:=⟨⟨_,Tryz.func99,by kernel_rfl,by kernel_rfl⟩⟩
instance:Enters Tryz.prog 100:=⟨⟨_,Tryz.func100,by kernel_rfl,by kernel_rfl⟩⟩
instance:Enters Tryz.prog 101:=⟨⟨_,Tryz.func101,by kernel_rfl,by kernel_rfl⟩⟩
instance:Enters Tryz.prog 102:=⟨⟨_,Tryz.func102,by kernel_rfl,by kernel_rfl⟩⟩
instance:Enters Tryz.prog 103:=⟨⟨_,Tryz.func103,by kernel_rfl,by kernel_rfl⟩⟩
instance:Enters Tryz.prog 104:=⟨⟨_,Tryz.func104,by kernel_rfl,by kernel_rfl⟩⟩
instance:Enters Tryz.prog 106:=⟨⟨_,Tryz.func106,by kernel_rfl,by kernel_rfl⟩⟩
instance:Enters Tryz.prog 107:=⟨⟨_,Tryz.func107,by kernel_rfl,by kernel_rfl⟩⟩
instance:Enters Tryz.prog 108:=⟨⟨_,Tryz.func108,by kernel_rfl,by kernel_rfl⟩⟩
instance:Enters Tryz.prog 109:=⟨⟨_,Tryz.func109,by kernel_rfl,by kernel_rfl⟩⟩
instance:Enters Tryz.prog 110:=⟨⟨_,Tryz.func110,by kernel_rfl,by kernel_rfl⟩⟩
instance:Enters Tryz.prog 111:=⟨⟨_,Tryz.func111,by kernel_rfl,by kernel_rfl⟩⟩
instance:Enters Tryz.prog 112:=⟨⟨_,Tryz.func112,by kernel_rfl,by kernel_rfl⟩⟩
instance:Enters Tryz.prog 113:=⟨⟨_,Tryz.func113,by kernel_rfl,by kernel_rfl⟩⟩
instance:Enters Tryz.prog 114:=⟨⟨_,Tryz.func114,by kernel_rfl,by kernel_rfl⟩⟩
instance:Enters Tryz.prog 115:=⟨⟨_,Tryz.func115,by kernel_rfl,by kernel_rfl⟩⟩
instance:Enters Tryz.prog 116:=⟨⟨_,Tryz.func116,by kernel_rfl,by kernel_rfl⟩⟩
instance:Enters Tryz.prog 117:=⟨⟨_,Tryz.func117,by kernel_rfl,by kernel_rfl⟩⟩
instance:Enters Tryz.prog 118:=⟨⟨_,Tryz.func118,by kernel_rfl,by kernel_rfl⟩⟩
instance:Enters Tryz.prog 119:=⟨⟨_,Tryz.func119,by kernel_rfl,by kernel_rfl⟩⟩
instance:Enters Tryz.prog 120:=⟨⟨_,Tryz.func120,by kernel_rfl,by kernel_rfl⟩⟩
instance:Enters Tryz.prog 121:=⟨⟨_,Tryz.func121,by kernel_rfl,by kernel_rfl⟩⟩
instance:Enters Tryz.prog 122:=⟨⟨_,Tryz.func122,by kernel_rfl,by kernel_rfl⟩⟩
instance:Enters Tryz.prog 124:=⟨⟨_,Tryz.func124,by kernel_rfl,by kernel_rfl⟩⟩
instance:Enters Tryz.prog 125:=⟨⟨_,Tryz.func125,by kernel_rfl,by kernel_rfl⟩⟩
instance:Enters Tryz.prog 126:=⟨⟨_,Tryz.func126,by kernel_rfl,by kernel_rfl⟩⟩
instance:Enters Tryz.prog 127:=⟨⟨_,Tryz.func127,by kernel_rfl,by kernel_rfl⟩⟩
instance:Enters Tryz.prog 128:=⟨⟨_,Tryz.func128,by kernel_rfl,by kernel_rfl⟩⟩
instance:Enters Tryz.prog 129:=⟨⟨_,Tryz.func129,by kernel_rfl,by kernel_rfl⟩⟩
instance:Enters Tryz.prog 130:=⟨⟨_,Tryz.func130,by kernel_rfl,by kernel_rfl⟩⟩
instance:Enters Tryz.prog 131:=⟨⟨_,Tryz.func131,by kernel_rfl,by kernel_rfl⟩⟩
instance:Enters Tryz.prog 132:=⟨⟨_,Tryz.func132,by kernel_rfl,by kernel_rfl⟩⟩
instance:Enters Tryz.prog 133:=⟨⟨_,Tryz.func133,by kernel_rfl,by kernel_rfl⟩⟩
instance:Enters Tryz.prog 134:=⟨⟨_,Tryz.func134,by kernel_rfl,by kernel_rfl⟩⟩
instance:Enters Tryz.prog 135:=⟨⟨_,Tryz.func135,by kernel_rfl,by kernel_rfl⟩⟩
instance:Enters Tryz.prog 136:=⟨⟨_,Tryz.func136,by kernel_rfl,by kernel_rfl⟩⟩
instance:Enters Tryz.prog 137:=⟨⟨_,Tryz.func137,by kernel_rfl,by kernel_rfl⟩⟩
instance:Enters Tryz.prog 138:=⟨⟨_,Tryz.func138,by kernel_rfl,by kernel_rfl⟩⟩
instance:Enters Tryz.prog 139:=⟨⟨_,Tryz.func139,by kernel_rfl,by kernel_rfl⟩⟩
instance:Enters Tryz.prog 140:=⟨⟨_,Tryz.func140,by kernel_rfl,by kernel_rfl⟩⟩
instance:Enters Tryz.prog 141:=⟨⟨_,Tryz.func141,by kernel_rfl,by kernel_rfl⟩⟩
instance:Enters Tryz.prog 142:=⟨⟨_,Tryz.func142,by kernel_rfl,by kernel_rfl⟩⟩
instance:Enters Tryz.prog 143:=⟨⟨_,Tryz.func143,by kernel_rfl,by kernel_rfl⟩⟩
instance:Enters Tryz.prog 144:=⟨⟨_,Tryz.func144,by kernel_rfl,by kernel_rfl⟩⟩
instance:Enters Tryz.prog 145:=⟨⟨_,Tryz.func145,by kernel_rfl,by kernel_rfl⟩⟩
instance:Enters Tryz.prog 146:=⟨⟨_,Tryz.func146,by kernel_rfl,by kernel_rfl⟩⟩
instance:Enters Tryz.prog 147:=⟨⟨_,Tryz.func147,by kernel_rfl,by kernel_rfl⟩⟩
instance:Enters Tryz.prog 148:=⟨⟨_,Tryz.func148,by kernel_rfl,by kernel_rfl⟩⟩
instance:Enters Tryz.prog 149:=⟨⟨_,Tryz.func149,by kernel_rfl,by kernel_rfl⟩⟩
instance:Enters Tryz.prog 150:=⟨⟨_,Tryz.func150,by kernel_rfl,by kernel_rfl⟩⟩
instance:Enters Tryz.prog 151:=⟨⟨_,Tryz.func151,by kernel_rfl,by kernel_rfl⟩⟩
instance:Enters Tryz.prog 152:=⟨⟨_,Tryz.func152,by kernel_rfl,by kernel_rfl⟩⟩
instance:Enters Tryz.prog 153:=⟨⟨_,Tryz.func153,by kernel_rfl,by kernel_rfl⟩⟩
instance:Enters Tryz.prog 154:=⟨⟨_,Tryz.func154,by kernel_rfl,by kernel_rfl⟩⟩
instance:Enters Tryz.prog 155:=⟨⟨_,Tryz.func155,by kernel_rfl,by kernel_rfl⟩⟩
instance:Enters Tryz.prog 156:=⟨⟨_,Tryz.func156,by kernel_rfl,by kernel_rfl⟩⟩
instance:Enters Tryz.prog 157:=⟨⟨_,Tryz.func157,by kernel_rfl,by kernel_rfl⟩⟩
instance:Enters Tryz.prog 158:=⟨⟨_,Tryz.func158,by kernel_rfl,by kernel_rfl⟩⟩
instance:Enters Tryz.prog 159:=⟨⟨_,Tryz.func159,by kernel_rfl,by kernel_rfl⟩⟩
instance:Enters Tryz.prog 160:=⟨⟨_,Tryz.func160,by kernel_rfl,by kernel_rfl⟩⟩
instance:Enters Tryz.prog 161:=⟨⟨_,Tryz.func161,by kernel_rfl,by kernel_rfl⟩⟩
instance:Enters Tryz.prog 162:=⟨⟨_,Tryz.func162,by kernel_rfl,by kernel_rfl⟩⟩
instance:Enters Tryz.prog 168:=⟨⟨_,Tryz.func168,by kernel_rfl,by kernel_rfl⟩⟩
instance:Enters Tryz.prog 169:=⟨⟨_,Tryz.func169,by kernel_rfl,by kernel_rfl⟩⟩
instance:Enters Tryz.prog 170:=⟨⟨_,Tryz.func170,by kernel_rfl,by kernel_rfl⟩⟩
instance:Enters Tryz.prog 171:=⟨⟨_,Tryz.func171,by kernel_rfl,by kernel_rfl⟩⟩
instance:Enters Tryz.prog 172:=⟨⟨_,Tryz.func172,by kernel_rfl,by kernel_rfl⟩⟩
instance:Enters Tryz.prog 173:=⟨⟨_,Tryz.func173,by kernel_rfl,by kernel_rfl⟩⟩
instance:Enters Tryz.prog 174:=⟨⟨_,Tryz.func174,by kernel_rfl,by kernel_rfl⟩⟩
instance:Enters Tryz.prog 175:=⟨⟨_,Tryz.func175,by kernel_rfl,by kernel_rfl⟩⟩
instance:Enters Tryz.prog 176:=⟨⟨_,Tryz.func176,by kernel_rfl,by kernel_rfl⟩⟩
instance:Enters Tryz.prog 177:=⟨⟨_,Tryz.func177,by kernel_rfl,by kernel_rfl⟩⟩
instance:Enters Tryz.prog 178:=⟨⟨_,Tryz.func178,by kernel_rfl,by kernel_rfl⟩⟩
instance:Enters Tryz.prog 179:=⟨⟨_,Tryz.func179,by kernel_rfl,by kernel_rfl⟩⟩
instance:Enters Tryz.prog 180:=⟨⟨_,Tryz.func180,by kernel_rfl,by kernel_rfl⟩⟩
instance:Enters Tryz.prog 181:=⟨⟨_,Tryz.func181,by kernel_rfl,by kernel_rfl⟩⟩
instance:Enters Tryz.prog 182:=⟨⟨_,Tryz.func182,by kernel_rfl,by kernel_rfl⟩⟩
instance:Enters Tryz.prog 183:=⟨⟨_,Tryz.func183,by kernel_rfl,by kernel_rfl⟩⟩
instance:Enters Tryz.prog 184:=⟨⟨_,Tryz.func184,by kernel_rfl,by kernel_rfl⟩⟩
instance:Enters Tryz.prog 185:=⟨⟨_,Tryz.func185,by kernel_rfl,by kernel_rfl⟩⟩
instance:Enters Tryz.prog 186:=⟨⟨_,Tryz.func186,by kernel_rfl,by kernel_rfl⟩⟩
instance:Enters Tryz.prog 187:=⟨⟨_,Tryz.func187,by kernel_rfl,by kernel_rfl⟩⟩
instance:Enters Tryz.prog 188:=⟨⟨_,Tryz.func188,by kernel_rfl,by kernel_rfl⟩⟩
instance:Enters Tryz.prog 189:=⟨⟨_,Tryz.func189,by kernel_rfl,by kernel_rfl⟩⟩
instance:Enters Tryz.prog 190:=⟨⟨_,Tryz.func190,by kernel_rfl,by kernel_rfl⟩⟩
instance:Enters Tryz.prog 191:=⟨⟨_,Tryz.func191,by kernel_rfl,by kernel_rfl⟩⟩
instance:Enters Tryz.prog 192:=⟨⟨_,Tryz.func192,by kernel_rfl,by kernel_rfl⟩⟩
instance:Enters Tryz.prog 193:=⟨⟨_,Tryz.func193,by kernel_rfl,by kernel_rfl⟩⟩
instance:Enters Tryz.prog 194:=⟨⟨_,Tryz.func194,by kernel_rfl,by kernel_rfl⟩⟩
instance:Enters Tryz.prog 195:=⟨⟨_,Tryz.func195,by kernel_rfl,by kernel_rfl⟩⟩
instance:Enters Tryz.prog 196:=⟨⟨_,Tryz.func196,by kernel_rfl,by kernel_rfl⟩⟩
instance:Enters Tryz.prog 197:=⟨⟨_,Tryz.func197,by kernel_rfl,by kernel_rfl⟩⟩
instance:Enters Tryz.prog 200:=⟨⟨_,Tryz.func200,by kernel_rfl,by kernel_rfl⟩⟩
instance:Enters Tryz.prog 201:=⟨⟨_,Tryz.func201,by kernel_rfl,by kernel_rfl⟩⟩
instance:Enters Tryz.prog 202:=⟨⟨_,Tryz.func202,by kernel_rfl,by kernel_rfl⟩⟩
instance:Enters Tryz.prog 203:=⟨⟨_,Tryz.func203,by kernel_rfl,by kernel_rfl⟩⟩
instance:Enters Tryz.prog 204:=⟨⟨_,Tryz.func204,by kernel_rfl,by kernel_rfl⟩⟩
instance:Enters Tryz.prog 205:=⟨⟨_,Tryz.func205,by kernel_rfl,by kernel_rfl⟩⟩
instance:Enters Tryz.prog 206:=⟨⟨_,Tryz.func206,by kernel_rfl,by kernel_rfl⟩⟩
instance:Enters Tryz.prog 207:=⟨⟨_,Tryz.func207,by kernel_rfl,by kernel_rfl⟩⟩
instance:Enters Tryz.prog 208:=⟨⟨_,Tryz.func208,by kernel_rfl,by kernel_rfl⟩⟩
instance:Enters Tryz.prog 209:=⟨⟨_,Tryz.func209,by kernel_rfl,by kernel_rfl⟩⟩
instance:Enters Tryz.prog 210:=⟨⟨_,Tryz.func210,by kernel_rfl,by kernel_rfl⟩⟩
instance:Enters Tryz.prog 211:=⟨⟨_,Tryz.func211,by kernel_rfl,by kernel_rfl⟩⟩
instance:Enters Tryz.prog 212:=⟨⟨_,Tryz.func212,by kernel_rfl,by kernel_rfl⟩⟩
instance:Enters Tryz.prog 213:=⟨⟨_,Tryz.func213,by kernel_rfl,by kernel_rfl⟩⟩
instance:Enters Tryz.prog 214:=⟨⟨_,Tryz.func214,by kernel_rfl,by kernel_rfl⟩⟩
instance:Enters Tryz.prog 215:=⟨⟨_,Tryz.func215,by kernel_rfl,by kernel_rfl⟩⟩
instance:Enters Tryz.prog 216:=⟨⟨_,Tryz.func216,by kernel_rfl,by kernel_rfl⟩⟩
instance:Enters Tryz.prog 219:=⟨⟨_,Tryz.func219,by kernel_rfl,by kernel_rfl⟩⟩
instance:Enters Tryz.prog 220:=⟨⟨_,Tryz.func220,by kernel_rfl,by kernel_rfl⟩⟩
instance:Enters Tryz.prog 221:=⟨⟨_,Tryz.func221,by kernel_rfl,by kernel_rfl⟩⟩
instance:Enters Tryz.prog 222:=⟨⟨_,Tryz.func222,by kernel_rfl,by kernel_rfl⟩⟩
instance:Enters Tryz.prog 223:=⟨⟨_,Tryz.func223,by kernel_rfl,by kernel_rfl⟩⟩
instance:Enters Tryz.prog 224:=⟨⟨_,Tryz.func224,by kernel_rfl,by kernel_rfl⟩⟩
instance:Enters Tryz.prog 225:=⟨⟨_,Tryz.func225,by kernel_rfl,by kernel_rfl⟩⟩
instance:Enters Tryz.prog 226:=⟨⟨_,Tryz.func226,by kernel_rfl,by kernel_rfl⟩⟩
instance:Enters Tryz.prog 227:=⟨⟨_,Tryz.func227,by kernel_rfl,by kernel_rfl⟩⟩
instance:Enters Tryz.prog 228:=⟨⟨_,Tryz.func228,by kernel_rfl,by kernel_rfl⟩⟩
instance:Enters Tryz.prog 244:=⟨⟨_,Tryz.func244,by kernel_rfl,by kernel_rfl⟩⟩
instance:Enters Tryz.prog 245:=⟨⟨_,Tryz.func245,by kernel_rfl,by kernel_rfl⟩⟩
instance:Enters Tryz.prog 248:=⟨⟨_,Tryz.func248,by kernel_rfl,by kernel_rfl⟩⟩
instance:Enters Tryz.prog 249:=⟨⟨_,Tryz.func249,by kernel_rfl,by kernel_rfl⟩⟩
instance:Enters Tryz.prog 250:=⟨⟨_,Tryz.func250,by kernel_rfl,by kernel_rfl⟩⟩
instance:Enters Tryz.prog 251:=⟨⟨_,Tryz.func251,by kernel_rfl,by kernel_rfl⟩⟩
instance:Enters Tryz.prog 252:=⟨⟨_,Tryz.func252,by kernel_rfl,by kernel_rfl⟩⟩
instance:Enters Tryz.prog 253:=⟨⟨_,Tryz.func253,by kernel_rfl,by kernel_rfl⟩⟩
instance:Enters Tryz.prog 254:=⟨⟨_,Tryz.func254,by kernel_rfl,by kernel_rfl⟩⟩
instance:Enters Tryz.prog 255:=⟨⟨_,Tryz.func255,by kernel_rfl,by kernel_rfl⟩⟩
instance:Enters Tryz.prog 256:=⟨⟨_,Tryz.func256,by kernel_rfl,by kernel_rfl⟩⟩
instance:Enters Tryz.prog 257:=⟨⟨_,Tryz.func257,by kernel_rfl,by kernel_rfl⟩⟩
instance:Enters Tryz.prog 258:=⟨⟨_,Tryz.func258,by kernel_rfl,by kernel_rfl⟩⟩
instance:Enters Tryz.prog 259:=⟨⟨_,Tryz.func259,by kernel_rfl,by kernel_rfl⟩⟩
instance:Enters Tryz.prog 260:=⟨⟨_,Tryz.func260,by kernel_rfl,by kernel_rfl⟩⟩
instance:Enters Tryz.prog 261:=⟨⟨_,Tryz.func261,by kernel_rfl,by kernel_rfl⟩⟩
instance:Enters Tryz.prog 262:=⟨⟨_,Tryz.func262,by kernel_rfl,by kernel_rfl⟩⟩
instance:Enters Tryz.prog 263:=⟨⟨_,Tryz.func263,by kernel_rfl,by kernel_rfl⟩⟩
instance:Enters Tryz.prog 264:=⟨⟨_,Tryz.func264,by kernel_rfl,by kernel_rfl⟩⟩
instance:Enters Tryz.prog 265:=⟨⟨_,Tryz.func265,by kernel_rfl,by kernel_rfl⟩⟩
instance:Enters Tryz.prog 266:=⟨⟨_,Tryz.func266,by kernel_rfl,by kernel_rfl⟩⟩
instance:Enters Tryz.prog 267:=⟨⟨_,Tryz.func267,by kernel_rfl,by kernel_rfl⟩⟩
instance:Enters Tryz.prog 268:=⟨⟨_,Tryz.func268,by kernel_rfl,by kernel_rfl⟩⟩
instance:Enters Tryz.prog 269:=⟨⟨_,Tryz.func269,by kernel_rfl,by kernel_rfl⟩⟩
instance:Enters Tryz.prog 270:=⟨⟨_,Tryz.func270,by kernel_rfl,by kernel_rfl⟩⟩
instance:Enters Tryz.prog 271:=⟨⟨_,Tryz.func271,by kernel_rfl,by kernel_rfl⟩⟩
instance:Enters Tryz.prog 272:=⟨⟨_,Tryz.func272,by kernel_rfl,by kernel_rfl⟩⟩
instance:Enters Tryz.prog 273:=⟨⟨_,Tryz.func273,by kernel_rfl,by kernel_rfl⟩⟩
instance:Enters Tryz.prog 274:=⟨⟨_,Tryz.func274,by kernel_rfl,by kernel_rfl⟩⟩
instance:Enters Tryz.prog 275:=⟨⟨_,Tryz.func275,by kernel_rfl,by kernel_rfl⟩⟩
instance:Enters Tryz.prog 276:=⟨⟨_,Tryz.func276,by kernel_rfl,by kernel_rfl⟩⟩
instance:Enters Tryz.prog 277:=⟨⟨_,Tryz.func277,by kernel_rfl,by kernel_rfl⟩⟩
instance:Enters Tryz.prog 278:=⟨⟨_,Tryz.func278,by kernel_rfl,by kernel_rfl⟩⟩
instance:Enters Tryz.prog 279:=⟨⟨_,Tryz.func279,by kernel_rfl,by kernel_rfl⟩⟩
instance:Enters Tryz.prog 280:=⟨⟨_,Tryz.func280,by kernel_rfl,by kernel_rfl⟩⟩
instance:Enters Tryz.prog 281:=⟨⟨_,Tryz.func281,by kernel_rfl,by kernel_rfl⟩⟩
instance:Enters Tryz.prog 282:=⟨⟨_,Tryz.func282,by kernel_rfl,by kernel_rfl⟩⟩
instance:Enters Tryz.prog 283:=⟨⟨_,Tryz.func283,by kernel_rfl,by kernel_rfl⟩⟩
instance:Enters Tryz.prog 284:=⟨⟨_,Tryz.func284,by kernel_rfl,by kernel_rfl⟩⟩
instance:Enters Tryz.prog 285:=⟨⟨_,Tryz.func285,by kernel_rfl,by kernel_rfl⟩⟩
instance:Enters Tryz.prog 286:=⟨⟨_,Tryz.func286,by kernel_rfl,by kernel_rfl⟩⟩
instance:Enters Tryz.prog 287:=⟨⟨_,Tryz.func287,by kernel_rfl,by kernel_rfl⟩⟩
end Go.Proofs
namespace Go.H
open Go Go.Ab
def yfq (l:List Ev):List (Int×Bool):=zxb (fun e:Ev=>e.kind==1) Ev.t [] l
def yfn (l:List Ev):List (Int×Bool):=zxb (fun e:Ev=>e.kind==5||e.kind==6) Ev.t [] l
def kTO (e:Ev):Int×Int:=(e.t,e.o)
def kOV (e:Ev):Int×Int×Int:=(e.o,e.v.t,e.v.k)
def zyv (l:List Ev):List ((Int×Int)×Int):=ytk (fun e:Ev=>e.kind==2) kTO [] l
def zrs (l:List Ev):List ((Int×Int)×Ver):=yr4 (fun e:Ev=>e.kind==2) kTO Ev.v [] l
def yfm (l:List Ev):List ((Int×Int×Int)×Bool):=zxb (fun e:Ev=>e.kind==2) kOV [] l
theorem yje (l:List Ev) (t:Int):zch t (yfq l)=if zhn l t then some true else none:=by
 rw [yfq,zie,zhn,zha];congr 1;have:(l.any fun e=>e.kind==1 && decide (e.t=t))=(l.any fun y=>y.t==t && y.kind==1):=by
  congr 1;funext e;rw [U6];rfl
 rw [this]
theorem yhj (l:List Ev) (t:Int):zch t (yfn l)=if zsr l t then some true else none:=by
 rw [yfn,zie,zsr];have:(l.any fun e=>(e.kind==5||e.kind==6) && decide (e.t=t))=(l.any fun y=>y.t==t && (y.kind==5||y.kind==6)):=by
  congr 1;funext e;rw [U6];rfl
 rw [this];rfl
theorem yke (e:Ev) (t x:Int):decide (kTO e=(t,x))=(e.t==t && e.o==x):=by
 simp only [kTO,Y5,Bool.decide_and];rfl
theorem zlv (l:List Ev) (t x:Int):(zch (t,x) (zyv l)).getD 0=((zcp l t x).length:Int):=by
 rw [zyv,zyh,zcp];simp only [yke,zch,Option.getD_none,Int.zero_add,N3]
theorem zmc (l:List Ev) (t x:Int):zch (t,x) (zrs l)=zvv l t x:=by
 rw [zrs,zxw,zvv,zcp];simp only [yke,zch,Option.or_none,N3]
theorem zwq (l:List Ev) (x:Int) (v:Ver):zch (x,v.t,v.k) (yfm l)=if zfh l x v then some true else none:=by
 rw [yfm,zie,zfh];have:(l.any fun e=>e.kind==2 && decide (kOV e=(x,v.t,v.k)))=(l.any fun y=>y.kind==2 && y.o==x && y.v==v):=by
  congr 1;funext e;have:decide (kOV e=(x,v.t,v.k))=(e.o==x && e.v==v):=by
   obtain ⟨vt,vk⟩:=v;obtain ⟨k,t,s,l,o,⟨et,ek⟩,p,sc⟩:=e;rw [K4];simp [kOV]
  rw [this,N3]
 rw [this];rfl
theorem zh8 (l:List Ev) (e:Ev):yfq (l++ [e])=if e.kind==1 then zf2 e.t true (yfq l) else yfq l:=by simp [yfq,zxb]
theorem zhx (l:List Ev) (e:Ev):yfn (l++ [e])=if e.kind==5||e.kind==6 then zf2 e.t true (yfn l) else yfn l:=by simp [yfn,zxb]
theorem zhp (l:List Ev) (e:Ev):zyv (l++ [e])=if e.kind==2 then zf2 (kTO e) ((zch (kTO e) (zyv l)).getD 0+1) (zyv l) else zyv l:=by simp [zyv,ytk]
theorem zex (l:List Ev) (e:Ev):zrs (l++ [e])=if e.kind==2 then zf2 (kTO e) e.v (zrs l) else zrs l:=by simp [zrs,yr4]
theorem zhs (l:List Ev) (e:Ev):yfm (l++ [e])=if e.kind==2 then zf2 (kOV e) true (yfm l) else yfm l:=by simp [yfm,zxb]
theorem zho (l:List Ev) (t x:Int):(zcp l t x).length≤l.length:=K6 _ _
theorem zkn {e:Ev} (h:e.scan.length≤4611686018427387904):(u5 e).length≤4611686018427387904:=by
 unfold u5;split
 ·exact A7 rfl
 exact h
theorem yax (a b:Ver):(a==b)=(a.t==b.t && a.k==b.k):=by
 obtain ⟨a1,a2⟩:=a;obtain ⟨b1,b2⟩:=b;rw [K4];simp
def zxq (l:List Seen):List (Int×Bool):=zxb (fun _:Seen=>true) Seen.o [] l
theorem zqg (l:List Seen) (x:Int):zch x (zxq l)=if l.any (fun s=>decide (s.o=x)) then some true else none:=by
 rw [zxq,zie];simp only [B9];rfl
theorem yct {l:List Seen} {k:Nat} (hk:k < l.length):zxq (l.take (k+1))=zf2 l[k].o true (zxq (l.take k)):=by
 rw [A5 hk,zxq,zxb,K0];rfl
theorem yrt {l:List Seen} {x:Int} (h:(zch x (zxq l)).getD false=false):x ∉ l.map Seen.o:=by
 rw [zqg] at h;intro hm;obtain ⟨s,hs,rfl⟩:=H2.1 hm;rw [A6 (F9.2 ⟨s,hs,by simp⟩)] at h;cases h
theorem ynp {l:List Seen} {x:Int} (h:(zch x (zxq l)).getD false=true):x∈l.map Seen.o:=by
 rw [zqg] at h;split at h
 ·rename_i h';obtain ⟨s,hs,e⟩:=F9.1 h';exact H2.2 ⟨s,hs,by simpa using e⟩
 cases h
theorem yhu {l:List Seen} {k:Nat} (hk:k < l.length) (hn:((l.take k).map Seen.o).Nodup) (hx:l[k].o ∉ (l.take k).map Seen.o):((l.take (k+1)).map Seen.o).Nodup:=by
 rw [A5 hk,D9,J2];refine ⟨hn,by simp,fun a ha b hb e=>?_⟩;simp only [F6,I1,D7] at hb;subst hb;subst e;exact hx ha
theorem ycu:∀(l:List Seen),(l.map Seen.o).Nodup→(zxq l).length=l.length:=by
 intro l;have key:∀n,n≤l.length→(l.map Seen.o).Nodup→(zxq (l.take n)).length=n:=by
  intro n;induction n with
  |zero=>intro _ _;rfl
  |succ n ih=>
   intro hn hd;have hlt:n < l.length:=hn;rw [yct hlt,ycg];have:zch l[n].o (zxq (l.take n))=none:=by
    rw [zqg];refine A0 fun h=>?_;obtain ⟨s,hs,e⟩:=F9.1 h;obtain ⟨j,hj,rfl⟩:=L3.1 hs;have hjn:j < n:=by omega
    have:=J6.1 hd j n (by simp;omega) (by simp;omega) hjn;simp at this e;exact this e
   rw [this];simp [ih (by omega) hd]
 intro hd;have:=key l.length (C5 _) hd;rwa [C7] at this
theorem yj5 {l:List Seen} (hn:((l.take l.length).map Seen.o).Nodup):decide (((zxq (l.take l.length)).length:Int) < ((l.map zav).length:Nat))= !decide ((l.map Seen.o).Nodup):=by
 rw [C7] at hn ⊢;rw [ycu l hn,oM,I4 hn];simp
theorem yj4 {l:List Seen} {k:Nat} (hk:k < l.length) (hn:((l.take k).map Seen.o).Nodup) (hx:(zch l[k].o (zxq (l.take k))).getD false=true):decide (((zxq (l.take k)).length:Int) < ((l.map zav).length:Nat))= !decide ((l.map Seen.o).Nodup):=by
 have h1:=ynp hx;rw [ycu _ hn,D5,oM]
 have:¬(l.map Seen.o).Nodup:=fun hd=>by
  obtain ⟨s,hs,e⟩:=H2.1 h1;obtain ⟨j,hj,rfl⟩:=L3.1 hs;have hjk:j < k:=by omega
  have:=J6.1 hd j k (by simp;omega) (by simpa using hk) hjk;simp at this e;exact this e
 rw [I9 this];simp;omega
theorem zd6 {α:Type} {w:Nat→α→Bool} {l:List α} {k:Nat} (hk:k < l.length) (hz:zdl w 0 l=zdl w k (l.drop k)) (hw:w k l[k]=false):zdl w 0 l=zdl w (k+1) (l.drop (k+1)):=by
 rw [hz,A8 hk,zdl,hw];rfl
theorem zhv {α:Type} {w:Nat→α→Bool} {l:List α} {k:Nat} (hk:k < l.length) (hz:zdl w 0 l=zdl w k (l.drop k)) (hw:w k l[k]=true):zdl w 0 l=some k:=by
 rw [hz,A8 hk,zdl,hw];rfl
theorem zjv {α:Type} {w:Nat→α→Bool} {l:List α} {k:Nat} (hk:k=l.length) (hz:zdl w 0 l=zdl w k (l.drop k)):zdl w 0 l=none:=by
 rw [hz,hk,E5];rfl
end Go.H
