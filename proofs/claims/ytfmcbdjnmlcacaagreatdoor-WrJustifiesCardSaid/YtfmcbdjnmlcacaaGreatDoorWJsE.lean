/- Facts on the loaded program's types and functions, as instances. Conditions: none. -/
import Derived.Test.YtfmcbdjnmlcacaaGreatDoorWJsD
import Derived.Test.YtfmcbdjnmlcacaaGreatDoorProg
import Derived.KernelRfl
set_option linter.unusedSimpArgs false
set_option linter.unusedVariables false
set_option maxRecDepth 100000
namespace Go.Proofs
open Go Go.Ab
instance:Und Tryz.prog 3 (.int .i64):=⟨Tryz.underlying3⟩
instance:IsA Tryz.prog 3 false:=⟨⟨_,Tryz.underlying3,rfl⟩⟩
instance:Siz Tryz.prog 3 1:=⟨by kernel_rfl⟩
instance:Byt Tryz.prog 3 8:=⟨by kernel_rfl⟩
instance:ZerV Tryz.prog 3 (.int .i64 0):=⟨by kernel_rfl⟩
instance:Zer Tryz.prog 3 [.int .i64 0]:=⟨⟨(.int .i64 0:Value),by kernel_rfl,rfl,List.all_eq_true.1 rfl⟩⟩
instance:Und Tryz.prog 4 .bool:=⟨Tryz.underlying4⟩
instance:IsA Tryz.prog 4 false:=⟨⟨_,Tryz.underlying4,rfl⟩⟩
instance:Siz Tryz.prog 4 1:=⟨by kernel_rfl⟩
instance:Byt Tryz.prog 4 1:=⟨by kernel_rfl⟩
instance:ZerV Tryz.prog 4 (.bool false):=⟨by kernel_rfl⟩
instance:Zer Tryz.prog 4 [.bool false]:=⟨⟨(.bool false:Value),by kernel_rfl,rfl,List.all_eq_true.1 rfl⟩⟩
instance:Und Tryz.prog 5 (.int .u8):=⟨Tryz.underlying5⟩
instance:IsA Tryz.prog 5 false:=⟨⟨_,Tryz.underlying5,rfl⟩⟩
instance:Siz Tryz.prog 5 1:=⟨by kernel_rfl⟩
instance:Und Tryz.prog 9 .string:=⟨Tryz.underlying9⟩
instance:IsA Tryz.prog 9 false:=⟨⟨_,Tryz.underlying9,rfl⟩⟩
instance:Siz Tryz.prog 9 1:=⟨by kernel_rfl⟩
instance:Byt Tryz.prog 9 16:=⟨by kernel_rfl⟩
instance:ZerV Tryz.prog 9 (.string ⟨#[]⟩):=⟨by kernel_rfl⟩
instance:Und Tryz.prog 21 (.int .i32):=⟨Tryz.underlying21⟩
instance:IsA Tryz.prog 21 false:=⟨⟨_,Tryz.underlying21,rfl⟩⟩
instance:Siz Tryz.prog 21 1:=⟨by kernel_rfl⟩
instance:Zer Tryz.prog 21 [.int .i32 0]:=⟨⟨(.int .i32 0:Value),by kernel_rfl,rfl,List.all_eq_true.1 rfl⟩⟩
instance:Und Tryz.prog 22 (.slice 9):=⟨Tryz.underlying22⟩
instance:IsA Tryz.prog 22 false:=⟨⟨_,Tryz.underlying22,rfl⟩⟩
instance:Siz Tryz.prog 22 1:=⟨by kernel_rfl⟩
instance:Und Tryz.prog 23 (.slice 60):=⟨Tryz.underlying23⟩
instance:IsA Tryz.prog 23 false:=⟨⟨_,Tryz.underlying23,rfl⟩⟩
instance:Siz Tryz.prog 23 1:=⟨by kernel_rfl⟩
instance:Und Tryz.prog 24 (.slice 87):=⟨Tryz.underlying24⟩
instance:IsA Tryz.prog 24 false:=⟨⟨_,Tryz.underlying24,rfl⟩⟩
instance:Siz Tryz.prog 24 1:=⟨by kernel_rfl⟩
instance:Und Tryz.prog 25 (.slice 109):=⟨Tryz.underlying25⟩
instance:IsA Tryz.prog 25 false:=⟨⟨_,Tryz.underlying25,rfl⟩⟩
instance:Siz Tryz.prog 25 1:=⟨by kernel_rfl⟩
instance:Und Tryz.prog 26 (.slice 111):=⟨Tryz.underlying26⟩
instance:IsA Tryz.prog 26 false:=⟨⟨_,Tryz.underlying26,rfl⟩⟩
instance:Siz Tryz.prog 26 1:=⟨by kernel_rfl⟩
instance:IsA Tryz.prog 28 true:=⟨⟨_,Tryz.underlying28,rfl⟩⟩
instance:Siz Tryz.prog 28 8:=⟨by kernel_rfl⟩
instance:Zer Tryz.prog 28 [.slice none 0 0,.slice none 0 0,.slice none 0 0,.slice none 0 0,.slice none 0 0,.slice none 0 0,.slice none 0 0,.slice none 0 0]:=⟨⟨(.agg #[.slice none 0 0,.slice none 0 0,.slice none 0 0,.slice none 0 0,.slice none 0 0,.slice none 0 0,.slice none 0 0,.slice none 0 0]:Value),by kernel_rfl,rfl,List.all_eq_true.1 rfl⟩⟩
instance:Fld Tryz.prog 28 0 0 22:=⟨⟨_,_,Tryz.underlying28,rfl,rfl,rfl⟩⟩
instance:Fld Tryz.prog 28 1 1 22:=⟨⟨_,_,Tryz.underlying28,rfl,rfl,rfl⟩⟩
instance:Fld Tryz.prog 28 2 2 22:=⟨⟨_,_,Tryz.underlying28,rfl,rfl,rfl⟩⟩
instance:Fld Tryz.prog 28 3 3 22:=⟨⟨_,_,Tryz.underlying28,rfl,rfl,rfl⟩⟩
instance:Fld Tryz.prog 28 4 4 23:=⟨⟨_,_,Tryz.underlying28,rfl,rfl,rfl⟩⟩
instance:Fld Tryz.prog 28 5 5 24:=⟨⟨_,_,Tryz.underlying28,rfl,rfl,rfl⟩⟩
instance:Fld Tryz.prog 28 6 6 25:=⟨⟨_,_,Tryz.underlying28,rfl,rfl,rfl⟩⟩
instance:Fld Tryz.prog 28 7 7 26:=⟨⟨_,_,Tryz.underlying28,rfl,rfl,rfl⟩⟩
instance:Plc Tryz.prog 28 [(0,1),(1,1),(2,1),(3,1),(4,1),(5,1),(6,1),(7,1)]:=⟨⟨_,Tryz.underlying28,by kernel_rfl⟩⟩
instance:Und Tryz.prog 29 (.slice 3):=⟨Tryz.underlying29⟩
instance:IsA Tryz.prog 29 false:=⟨⟨_,Tryz.underlying29,rfl⟩⟩
instance:Siz Tryz.prog 29 1:=⟨by kernel_rfl⟩
instance:Byt Tryz.prog 29 24:=⟨by kernel_rfl⟩
instance:ZerV Tryz.prog 29 (.slice none 0 0):=⟨by kernel_rfl⟩
instance:Zer Tryz.prog 29 [.slice none 0 0]:=⟨⟨(.slice none 0 0:Value),by kernel_rfl,rfl,List.all_eq_true.1 rfl⟩⟩
instance:IsA Tryz.prog 33 false:=⟨⟨_,Tryz.underlying33,rfl⟩⟩
instance:Siz Tryz.prog 33 1:=⟨by kernel_rfl⟩
instance:Zer Tryz.prog 33 [.int .i64 0]:=⟨⟨(.int .i64 0:Value),by kernel_rfl,rfl,List.all_eq_true.1 rfl⟩⟩
instance:Und Tryz.prog 35 (.slice 41):=⟨Tryz.underlying35⟩
instance:IsA Tryz.prog 35 false:=⟨⟨_,Tryz.underlying35,rfl⟩⟩
instance:Siz Tryz.prog 35 1:=⟨by kernel_rfl⟩
instance:ZerV Tryz.prog 35 (.slice none 0 0):=⟨by kernel_rfl⟩
instance:IsA Tryz.prog 41 true:=⟨⟨_,Tryz.underlying41,rfl⟩⟩
instance:Siz Tryz.prog 41 7:=⟨by kernel_rfl⟩
instance:Byt Tryz.prog 41 56:=⟨by kernel_rfl⟩
instance:ZerV Tryz.prog 41 (.agg #[.int .i64 0,.int .i64 0,.int .i64 0,.int .i64 0,.int .i64 0,.int .i64 0,.int .i64 0]):=⟨by kernel_rfl⟩
instance:Zer Tryz.prog 41 [.int .i64 0,.int .i64 0,.int .i64 0,.int .i64 0,.int .i64 0,.int .i64 0,.int .i64 0]:=⟨⟨(.agg #[.int .i64 0,.int .i64 0,.int .i64 0,.int .i64 0,.int .i64 0,.int .i64 0,.int .i64 0]:Value),by kernel_rfl,rfl,List.all_eq_true.1 rfl⟩⟩
instance:Fld Tryz.prog 41 0 0 3:=⟨⟨_,_,Tryz.underlying41,rfl,rfl,rfl⟩⟩
instance:Fld Tryz.prog 41 1 1 3:=⟨⟨_,_,Tryz.underlying41,rfl,rfl,rfl⟩⟩
instance:Fld Tryz.prog 41 2 2 3:=⟨⟨_,_,Tryz.underlying41,rfl,rfl,rfl⟩⟩
instance:Fld Tryz.prog 41 3 3 3:=⟨⟨_,_,Tryz.underlying41,rfl,rfl,rfl⟩⟩
instance:Fld Tryz.prog 41 4 4 3:=⟨⟨_,_,Tryz.underlying41,rfl,rfl,rfl⟩⟩
instance:Fld Tryz.prog 41 5 5 3:=⟨⟨_,_,Tryz.underlying41,rfl,rfl,rfl⟩⟩
instance:Fld Tryz.prog 41 6 6 3:=⟨⟨_,_,Tryz.underlying41,rfl,rfl,rfl⟩⟩
instance:Plc Tryz.prog 41 [(0,1),(1,1),(2,1),(3,1),(4,1),(5,1),(6,1)]:=⟨⟨_,Tryz.underlying41,by kernel_rfl⟩⟩
instance:Und Tryz.prog 45 (.array 2 3):=⟨Tryz.underlying45⟩
instance:IsA Tryz.prog 45 true:=⟨⟨_,Tryz.underlying45,rfl⟩⟩
instance:Siz Tryz.prog 45 2:=⟨by kernel_rfl⟩
instance:Zer Tryz.prog 45 [.int .i64 0,.int .i64 0]:=⟨⟨(.agg #[.int .i64 0,.int .i64 0]:Value),by kernel_rfl,rfl,List.all_eq_true.1 rfl⟩⟩
instance:IsA Tryz.prog 57 true:=⟨⟨_,Tryz.underlying57,rfl⟩⟩
instance:Siz Tryz.prog 57 2:=⟨by kernel_rfl⟩
instance:ZerV Tryz.prog 57 (.agg #[.int .i64 0,.int .i64 0]):=⟨by kernel_rfl⟩
instance:Zer Tryz.prog 57 [.int .i64 0,.int .i64 0]:=⟨⟨(.agg #[.int .i64 0,.int .i64 0]:Value),by kernel_rfl,rfl,List.all_eq_true.1 rfl⟩⟩
instance:Fld Tryz.prog 57 0 0 3:=⟨⟨_,_,Tryz.underlying57,rfl,rfl,rfl⟩⟩
instance:Fld Tryz.prog 57 1 1 3:=⟨⟨_,_,Tryz.underlying57,rfl,rfl,rfl⟩⟩
instance:Plc Tryz.prog 57 [(0,1),(1,1)]:=⟨⟨_,Tryz.underlying57,by kernel_rfl⟩⟩
instance:Und Tryz.prog 58 (.slice 70):=⟨Tryz.underlying58⟩
instance:IsA Tryz.prog 58 false:=⟨⟨_,Tryz.underlying58,rfl⟩⟩
instance:Siz Tryz.prog 58 1:=⟨by kernel_rfl⟩
instance:IsA Tryz.prog 60 true:=⟨⟨_,Tryz.underlying60,rfl⟩⟩
instance:Siz Tryz.prog 60 9:=⟨by kernel_rfl⟩
instance:Byt Tryz.prog 60 88:=⟨by kernel_rfl⟩
instance:ZerV Tryz.prog 60 (.agg #[.int .i64 0,.int .i64 0,.int .i64 0,.int .i64 0,.int .i64 0,.int .i64 0,.int .i64 0,.int .i64 0,.slice none 0 0]):=⟨by kernel_rfl⟩
instance:Zer Tryz.prog 60 [.int .i64 0,.int .i64 0,.int .i64 0,.int .i64 0,.int .i64 0,.int .i64 0,.int .i64 0,.int .i64 0,.slice none 0 0]:=⟨⟨(.agg #[.int .i64 0,.int .i64 0,.int .i64 0,.int .i64 0,.int .i64 0,.int .i64 0,.int .i64 0,.int .i64 0,.slice none 0 0]:Value),by kernel_rfl,rfl,List.all_eq_true.1 rfl⟩⟩
instance:Fld Tryz.prog 60 0 0 3:=⟨⟨_,_,Tryz.underlying60,rfl,rfl,rfl⟩⟩
instance:Fld Tryz.prog 60 1 1 3:=⟨⟨_,_,Tryz.underlying60,rfl,rfl,rfl⟩⟩
instance:Fld Tryz.prog 60 2 2 3:=⟨⟨_,_,Tryz.underlying60,rfl,rfl,rfl⟩⟩
instance:Fld Tryz.prog 60 3 3 3:=⟨⟨_,_,Tryz.underlying60,rfl,rfl,rfl⟩⟩
instance:Fld Tryz.prog 60 4 4 3:=⟨⟨_,_,Tryz.underlying60,rfl,rfl,rfl⟩⟩
instance:Fld Tryz.prog 60 5 5 57:=⟨⟨_,_,Tryz.underlying60,rfl,rfl,rfl⟩⟩
instance:Fld Tryz.prog 60 6 7 3:=⟨⟨_,_,Tryz.underlying60,rfl,rfl,rfl⟩⟩
instance:Fld Tryz.prog 60 7 8 58:=⟨⟨_,_,Tryz.underlying60,rfl,rfl,rfl⟩⟩
instance:Plc Tryz.prog 60 [(0,1),(1,1),(2,1),(3,1),(4,1),(5,2),(7,1),(8,1)]:=⟨⟨_,Tryz.underlying60,by kernel_rfl⟩⟩
instance:IsA Tryz.prog 70 true:=⟨⟨_,Tryz.underlying70,rfl⟩⟩
instance:Siz Tryz.prog 70 3:=⟨by kernel_rfl⟩
instance:Byt Tryz.prog 70 24:=⟨by kernel_rfl⟩
instance:ZerV Tryz.prog 70 (.agg #[.int .i64 0,.int .i64 0,.int .i64 0]):=⟨by kernel_rfl⟩
instance:Zer Tryz.prog 70 [.int .i64 0,.int .i64 0,.int .i64 0]:=⟨⟨(.agg #[.int .i64 0,.int .i64 0,.int .i64 0]:Value),by kernel_rfl,rfl,List.all_eq_true.1 rfl⟩⟩
instance:Fld Tryz.prog 70 0 0 3:=⟨⟨_,_,Tryz.underlying70,rfl,rfl,rfl⟩⟩
instance:Fld Tryz.prog 70 1 1 57:=⟨⟨_,_,Tryz.underlying70,rfl,rfl,rfl⟩⟩
instance:Plc Tryz.prog 70 [(0,1),(1,2)]:=⟨⟨_,Tryz.underlying70,by kernel_rfl⟩⟩
instance:IsA Tryz.prog 76 false:=⟨⟨_,Tryz.underlying76,rfl⟩⟩
instance:IsA Tryz.prog 87 true:=⟨⟨_,Tryz.underlying87,rfl⟩⟩
instance:Siz Tryz.prog 87 2:=⟨by kernel_rfl⟩
instance:Byt Tryz.prog 87 32:=⟨by kernel_rfl⟩
instance:ZerV Tryz.prog 87 (.agg #[.int .i64 0,.slice none 0 0]):=⟨by kernel_rfl⟩
instance:Zer Tryz.prog 87 [.int .i64 0,.slice none 0 0]:=⟨⟨(.agg #[.int .i64 0,.slice none 0 0]:Value),by kernel_rfl,rfl,List.all_eq_true.1 rfl⟩⟩
instance:Fld Tryz.prog 87 0 0 3:=⟨⟨_,_,Tryz.underlying87,rfl,rfl,rfl⟩⟩
instance:Fld Tryz.prog 87 1 1 29:=⟨⟨_,_,Tryz.underlying87,rfl,rfl,rfl⟩⟩
instance:Plc Tryz.prog 87 [(0,1),(1,1)]:=⟨⟨_,Tryz.underlying87,by kernel_rfl⟩⟩
instance:Und Tryz.prog 89 (.slice 29):=⟨Tryz.underlying89⟩
instance:IsA Tryz.prog 89 false:=⟨⟨_,Tryz.underlying89,rfl⟩⟩
instance:Siz Tryz.prog 89 1:=⟨by kernel_rfl⟩
instance:Und Tryz.prog 90 (.map 45 3):=⟨Tryz.underlying90⟩
instance:IsA Tryz.prog 90 false:=⟨⟨_,Tryz.underlying90,rfl⟩⟩
instance:Siz Tryz.prog 90 1:=⟨by kernel_rfl⟩
instance:IsA Tryz.prog 95 false:=⟨⟨_,Tryz.underlying95,rfl⟩⟩
instance:Siz Tryz.prog 95 1:=⟨by kernel_rfl⟩
instance:Und Tryz.prog 96 (.slice 35):=⟨Tryz.underlying96⟩
instance:IsA Tryz.prog 109 true:=⟨⟨_,Tryz.underlying109,rfl⟩⟩
instance:Siz Tryz.prog 109 4:=⟨by kernel_rfl⟩
instance:Byt Tryz.prog 109 48:=⟨by kernel_rfl⟩
instance:ZerV Tryz.prog 109 (.agg #[.int .i64 0,.int .i64 0,.bool false,.slice none 0 0]):=⟨by kernel_rfl⟩
instance:Zer Tryz.prog 109 [.int .i64 0,.int .i64 0,.bool false,.slice none 0 0]:=⟨⟨(.agg #[.int .i64 0,.int .i64 0,.bool false,.slice none 0 0]:Value),by kernel_rfl,rfl,List.all_eq_true.1 rfl⟩⟩
instance:Fld Tryz.prog 109 0 0 3:=⟨⟨_,_,Tryz.underlying109,rfl,rfl,rfl⟩⟩
instance:Fld Tryz.prog 109 1 1 3:=⟨⟨_,_,Tryz.underlying109,rfl,rfl,rfl⟩⟩
instance:Fld Tryz.prog 109 2 2 4:=⟨⟨_,_,Tryz.underlying109,rfl,rfl,rfl⟩⟩
instance:Fld Tryz.prog 109 3 3 29:=⟨⟨_,_,Tryz.underlying109,rfl,rfl,rfl⟩⟩
instance:Plc Tryz.prog 109 [(0,1),(1,1),(2,1),(3,1)]:=⟨⟨_,Tryz.underlying109,by kernel_rfl⟩⟩
instance:IsA Tryz.prog 111 true:=⟨⟨_,Tryz.underlying111,rfl⟩⟩
instance:Siz Tryz.prog 111 2:=⟨by kernel_rfl⟩
instance:Byt Tryz.prog 111 16:=⟨by kernel_rfl⟩
instance:ZerV Tryz.prog 111 (.agg #[.int .i64 0,.int .i64 0]):=⟨by kernel_rfl⟩
instance:Zer Tryz.prog 111 [.int .i64 0,.int .i64 0]:=⟨⟨(.agg #[.int .i64 0,.int .i64 0]:Value),by kernel_rfl,rfl,List.all_eq_true.1 rfl⟩⟩
instance:Fld Tryz.prog 111 0 0 3:=⟨⟨_,_,Tryz.underlying111,rfl,rfl,rfl⟩⟩
instance:Fld Tryz.prog 111 1 1 3:=⟨⟨_,_,Tryz.underlying111,rfl,rfl,rfl⟩⟩
instance:Und Tryz.prog 115 (.map 3 4):=⟨Tryz.underlying115⟩
instance:IsA Tryz.prog 115 false:=⟨⟨_,Tryz.underlying115,rfl⟩⟩
instance:Siz Tryz.prog 115 1:=⟨by kernel_rfl⟩
instance:Zer Tryz.prog 115 [.map none]:=⟨⟨(.map none:Value),by kernel_rfl,rfl,List.all_eq_true.1 rfl⟩⟩
instance:Und Tryz.prog 116 (.map 170 3):=⟨Tryz.underlying116⟩
instance:IsA Tryz.prog 116 false:=⟨⟨_,Tryz.underlying116,rfl⟩⟩
instance:Siz Tryz.prog 116 1:=⟨by kernel_rfl⟩
instance:Und Tryz.prog 117 (.map 45 29):=⟨Tryz.underlying117⟩
instance:IsA Tryz.prog 117 false:=⟨⟨_,Tryz.underlying117,rfl⟩⟩
instance:Siz Tryz.prog 117 1:=⟨by kernel_rfl⟩
instance:IsA Tryz.prog 119 true:=⟨⟨_,Tryz.underlying119,rfl⟩⟩
instance:Siz Tryz.prog 119 13:=⟨by kernel_rfl⟩
instance:Zer Tryz.prog 119 [.slice none 0 0,.slice none 0 0,.slice none 0 0,.slice none 0 0,.slice none 0 0,.slice none 0 0,.slice none 0 0,.slice none 0 0,.map none,.slice none 0 0,.map none,.map none,.map none]:=⟨⟨(.agg #[.slice none 0 0,.slice none 0 0,.slice none 0 0,.slice none 0 0,.slice none 0 0,.slice none 0 0,.slice none 0 0,.slice none 0 0,.map none,.slice none 0 0,.map none,.map none,.map none]:Value),by kernel_rfl,rfl,List.all_eq_true.1 rfl⟩⟩
instance:Fld Tryz.prog 119 0 0 28:=⟨⟨_,_,Tryz.underlying119,rfl,rfl,rfl⟩⟩
instance:Fld Tryz.prog 119 1 8 115:=⟨⟨_,_,Tryz.underlying119,rfl,rfl,rfl⟩⟩
instance:Fld Tryz.prog 119 2 9 89:=⟨⟨_,_,Tryz.underlying119,rfl,rfl,rfl⟩⟩
instance:Fld Tryz.prog 119 3 10 90:=⟨⟨_,_,Tryz.underlying119,rfl,rfl,rfl⟩⟩
instance:Fld Tryz.prog 119 4 11 116:=⟨⟨_,_,Tryz.underlying119,rfl,rfl,rfl⟩⟩
instance:Fld Tryz.prog 119 5 12 117:=⟨⟨_,_,Tryz.underlying119,rfl,rfl,rfl⟩⟩
instance:Plc Tryz.prog 119 [(0,8),(8,1),(9,1),(10,1),(11,1),(12,1)]:=⟨⟨_,Tryz.underlying119,by kernel_rfl⟩⟩
instance:Und Tryz.prog 129 (.map 3 57):=⟨Tryz.underlying129⟩
instance:Und Tryz.prog 130 (.slice 4):=⟨Tryz.underlying130⟩
instance:IsA Tryz.prog 130 false:=⟨⟨_,Tryz.underlying130,rfl⟩⟩
instance:IsA Tryz.prog 139 true:=⟨⟨_,Tryz.underlying139,rfl⟩⟩
instance:Siz Tryz.prog 139 3:=⟨by kernel_rfl⟩
instance:Byt Tryz.prog 139 24:=⟨by kernel_rfl⟩
instance:ZerV Tryz.prog 139 (.agg #[.int .i64 0,.int .i64 0,.int .i64 0]):=⟨by kernel_rfl⟩
instance:Zer Tryz.prog 139 [.int .i64 0,.int .i64 0,.int .i64 0]:=⟨⟨(.agg #[.int .i64 0,.int .i64 0,.int .i64 0]:Value),by kernel_rfl,rfl,List.all_eq_true.1 rfl⟩⟩
instance:Fld Tryz.prog 139 0 0 57:=⟨⟨_,_,Tryz.underlying139,rfl,rfl,rfl⟩⟩
instance:Fld Tryz.prog 139 1 2 3:=⟨⟨_,_,Tryz.underlying139,rfl,rfl,rfl⟩⟩
instance:Plc Tryz.prog 139 [(0,2),(2,1)]:=⟨⟨_,Tryz.underlying139,by kernel_rfl⟩⟩
instance:IsA Tryz.prog 142 false:=⟨⟨_,Tryz.underlying142,rfl⟩⟩
instance:IsA Tryz.prog 147 false:=⟨⟨_,Tryz.underlying147,rfl⟩⟩
instance:Und Tryz.prog 153 (.array 2 95):=⟨Tryz.underlying153⟩
instance:Zer Tryz.prog 153 [.nilFunc,.nilFunc]:=⟨⟨(.agg #[.nilFunc,.nilFunc]:Value),by kernel_rfl,rfl,List.all_eq_true.1 rfl⟩⟩
instance:Und Tryz.prog 154 (.array 4 29):=⟨Tryz.underlying154⟩
instance:IsA Tryz.prog 154 true:=⟨⟨_,Tryz.underlying154,rfl⟩⟩
instance:Siz Tryz.prog 154 4:=⟨by kernel_rfl⟩
instance:Zer Tryz.prog 154 [.slice none 0 0,.slice none 0 0,.slice none 0 0,.slice none 0 0]:=⟨⟨(.agg #[.slice none 0 0,.slice none 0 0,.slice none 0 0,.slice none 0 0]:Value),by kernel_rfl,rfl,List.all_eq_true.1 rfl⟩⟩
instance:Und Tryz.prog 156 (.array 4 3):=⟨Tryz.underlying156⟩
instance:Zer Tryz.prog 156 [.int .i64 0,.int .i64 0,.int .i64 0,.int .i64 0]:=⟨⟨(.agg #[.int .i64 0,.int .i64 0,.int .i64 0,.int .i64 0]:Value),by kernel_rfl,rfl,List.all_eq_true.1 rfl⟩⟩
instance:IsA Tryz.prog 158 true:=⟨⟨_,Tryz.underlying158,rfl⟩⟩
instance:Siz Tryz.prog 158 2:=⟨by kernel_rfl⟩
instance:Zer Tryz.prog 158 [.int .i64 0,.int .i64 0]:=⟨⟨(.agg #[.int .i64 0,.int .i64 0]:Value),by kernel_rfl,rfl,List.all_eq_true.1 rfl⟩⟩
instance:Plc Tryz.prog 158 [(0,1),(1,1)]:=⟨⟨_,Tryz.underlying158,by kernel_rfl⟩⟩
instance:Und Tryz.prog 166 (.map 45 41):=⟨Tryz.underlying166⟩
instance:IsA Tryz.prog 166 false:=⟨⟨_,Tryz.underlying166,rfl⟩⟩
instance:Siz Tryz.prog 166 1:=⟨by kernel_rfl⟩
instance:Zer Tryz.prog 166 [.map none]:=⟨⟨(.map none:Value),by kernel_rfl,rfl,List.all_eq_true.1 rfl⟩⟩
instance:IsA Tryz.prog 170 true:=⟨⟨_,Tryz.underlying170,rfl⟩⟩
instance:Zer Tryz.prog 170 [.int .i64 0,.int .i64 0,.int .i64 0]:=⟨⟨(.agg #[.int .i64 0,.int .i64 0,.int .i64 0]:Value),by kernel_rfl,rfl,List.all_eq_true.1 rfl⟩⟩
instance:Plc Tryz.prog 170 [(0,1),(1,2)]:=⟨⟨_,Tryz.underlying170,by kernel_rfl⟩⟩
instance:Und Tryz.prog 171 (.map 3 3):=⟨Tryz.underlying171⟩
instance:IsA Tryz.prog 171 false:=⟨⟨_,Tryz.underlying171,rfl⟩⟩
instance:Und Tryz.prog 173 (.slice 177):=⟨Tryz.underlying173⟩
instance:IsA Tryz.prog 174 false:=⟨⟨_,Tryz.underlying174,rfl⟩⟩
instance:Siz Tryz.prog 174 1:=⟨by kernel_rfl⟩
instance:Und Tryz.prog 175 (.array 7 174):=⟨Tryz.underlying175⟩
instance:IsA Tryz.prog 177 true:=⟨⟨_,Tryz.underlying177,rfl⟩⟩
instance:Siz Tryz.prog 177 2:=⟨by kernel_rfl⟩
instance:Byt Tryz.prog 177 32:=⟨by kernel_rfl⟩
instance:ZerV Tryz.prog 177 (.agg #[.int .i64 0,.slice none 0 0]):=⟨by kernel_rfl⟩
instance:Zer Tryz.prog 177 [.int .i64 0,.slice none 0 0]:=⟨⟨(.agg #[.int .i64 0,.slice none 0 0]:Value),by kernel_rfl,rfl,List.all_eq_true.1 rfl⟩⟩
instance:Fld Tryz.prog 177 0 0 3:=⟨⟨_,_,Tryz.underlying177,rfl,rfl,rfl⟩⟩
instance:Fld Tryz.prog 177 1 1 29:=⟨⟨_,_,Tryz.underlying177,rfl,rfl,rfl⟩⟩
instance:Plc Tryz.prog 177 [(0,1),(1,1)]:=⟨⟨_,Tryz.underlying177,by kernel_rfl⟩⟩
instance:IsA Tryz.prog 184 false:=⟨⟨_,Tryz.underlying184,rfl⟩⟩
instance:Und Tryz.prog 186 (.array 4 22):=⟨Tryz.underlying186⟩
instance:IsA Tryz.prog 186 true:=⟨⟨_,Tryz.underlying186,rfl⟩⟩
instance:Siz Tryz.prog 186 4:=⟨by kernel_rfl⟩
instance:Zer Tryz.prog 186 [.slice none 0 0,.slice none 0 0,.slice none 0 0,.slice none 0 0]:=⟨⟨(.agg #[.slice none 0 0,.slice none 0 0,.slice none 0 0,.slice none 0 0]:Value),by kernel_rfl,rfl,List.all_eq_true.1 rfl⟩⟩
instance:IsA Tryz.prog 193 false:=⟨⟨_,Tryz.underlying193,rfl⟩⟩
instance:Und Tryz.prog 197 (.slice 139):=⟨Tryz.underlying197⟩
instance:IsA Tryz.prog 197 false:=⟨⟨_,Tryz.underlying197,rfl⟩⟩
instance:Siz Tryz.prog 197 1:=⟨by kernel_rfl⟩
instance:Zer Tryz.prog 197 [.slice none 0 0]:=⟨⟨(.slice none 0 0:Value),by kernel_rfl,rfl,List.all_eq_true.1 rfl⟩⟩
instance:Und Tryz.prog 200 (.map 70 3):=⟨Tryz.underlying200⟩
instance:IsA Tryz.prog 200 false:=⟨⟨_,Tryz.underlying200,rfl⟩⟩
instance:Siz Tryz.prog 200 1:=⟨by kernel_rfl⟩
instance:Zer Tryz.prog 202 [.slice none 0 0,.slice none 0 0,.slice none 0 0,.slice none 0 0,.slice none 0 0,.slice none 0 0,.slice none 0 0,.slice none 0 0,.map none,.slice none 0 0,.map none,.map none,.map none]:=⟨⟨(.agg #[.slice none 0 0,.slice none 0 0,.slice none 0 0,.slice none 0 0,.slice none 0 0,.slice none 0 0,.slice none 0 0,.slice none 0 0,.map none,.slice none 0 0,.map none,.map none,.map none]:Value),by kernel_rfl,rfl,List.all_eq_true.1 rfl⟩⟩
instance:Fld Tryz.prog 202 0 0 28:=⟨⟨_,_,Tryz.underlying202,rfl,rfl,rfl⟩⟩
instance:Fld Tryz.prog 202 1 8 115:=⟨⟨_,_,Tryz.underlying202,rfl,rfl,rfl⟩⟩
instance:Fld Tryz.prog 202 2 9 89:=⟨⟨_,_,Tryz.underlying202,rfl,rfl,rfl⟩⟩
instance:Fld Tryz.prog 202 3 10 90:=⟨⟨_,_,Tryz.underlying202,rfl,rfl,rfl⟩⟩
instance:Fld Tryz.prog 202 4 11 200:=⟨⟨_,_,Tryz.underlying202,rfl,rfl,rfl⟩⟩
instance:Fld Tryz.prog 202 5 12 117:=⟨⟨_,_,Tryz.underlying202,rfl,rfl,rfl⟩⟩
instance:Plc Tryz.prog 202 [(0,8),(8,1),(9,1),(10,1),(11,1),(12,1)]:=⟨⟨_,Tryz.underlying202,by kernel_rfl⟩⟩
instance:IsA Tryz.prog 216 false:=⟨⟨_,Tryz.underlying216,rfl⟩⟩
instance:Und Tryz.prog 228 (.map 9 4):=⟨Tryz.underlying228⟩
instance:IsA Tryz.prog 231 false:=⟨⟨_,Tryz.underlying231,rfl⟩⟩
instance:Siz Tryz.prog 231 1:=⟨by kernel_rfl⟩
instance:Zer Tryz.prog 231 [.nilFunc]:=⟨⟨(.nilFunc:Value),by kernel_rfl,rfl,List.all_eq_true.1 rfl⟩⟩
instance:IsA Tryz.prog 233 false:=⟨⟨_,Tryz.underlying233,rfl⟩⟩
instance:IsA Tryz.prog 235 false:=⟨⟨_,Tryz.underlying235,rfl⟩⟩
instance:IsA Tryz.prog 238 false:=⟨⟨_,Tryz.underlying238,rfl⟩⟩
instance:IsA Tryz.prog 239 false:=⟨⟨_,Tryz.underlying239,rfl⟩⟩
instance:IsA Tryz.prog 240 false:=⟨⟨_,Tryz.underlying240,rfl⟩⟩
instance:Siz Tryz.prog 240 1:=⟨by kernel_rfl⟩
instance:Zer Tryz.prog 240 [.nilFunc]:=⟨⟨(.nilFunc:Value),by kernel_rfl,rfl,List.all_eq_true.1 rfl⟩⟩
instance:IsA Tryz.prog 245 false:=⟨⟨_,Tryz.underlying245,rfl⟩⟩
instance:Siz Tryz.prog 245 1:=⟨by kernel_rfl⟩
instance:Und Tryz.prog 246 (.array 11 245):=⟨Tryz.underlying246⟩
instance:IsA Tryz.prog 247 false:=⟨⟨_,Tryz.underlying247,rfl⟩⟩
instance:Und Tryz.prog 248 (.map 326 3):=⟨Tryz.underlying248⟩
instance:IsA Tryz.prog 248 false:=⟨⟨_,Tryz.underlying248,rfl⟩⟩
instance:Siz Tryz.prog 248 1:=⟨by kernel_rfl⟩
instance:Und Tryz.prog 249 (.map 326 57):=⟨Tryz.underlying249⟩
instance:IsA Tryz.prog 249 false:=⟨⟨_,Tryz.underlying249,rfl⟩⟩
instance:Siz Tryz.prog 249 1:=⟨by kernel_rfl⟩
instance:Und Tryz.prog 250 (.map 328 4):=⟨Tryz.underlying250⟩
instance:IsA Tryz.prog 250 false:=⟨⟨_,Tryz.underlying250,rfl⟩⟩
instance:Siz Tryz.prog 250 1:=⟨by kernel_rfl⟩
instance:Zer Tryz.prog 252 [.slice none 0 0,.slice none 0 0,.slice none 0 0,.slice none 0 0,.slice none 0 0,.slice none 0 0,.slice none 0 0,.slice none 0 0,.map none,.map none,.map none,.map none,.map none]:=⟨⟨(.agg #[.slice none 0 0,.slice none 0 0,.slice none 0 0,.slice none 0 0,.slice none 0 0,.slice none 0 0,.slice none 0 0,.slice none 0 0,.map none,.map none,.map none,.map none,.map none]:Value),by kernel_rfl,rfl,List.all_eq_true.1 rfl⟩⟩
instance:Fld Tryz.prog 252 0 0 28:=⟨⟨_,_,Tryz.underlying252,rfl,rfl,rfl⟩⟩
instance:Fld Tryz.prog 252 1 8 115:=⟨⟨_,_,Tryz.underlying252,rfl,rfl,rfl⟩⟩
instance:Fld Tryz.prog 252 2 9 115:=⟨⟨_,_,Tryz.underlying252,rfl,rfl,rfl⟩⟩
instance:Fld Tryz.prog 252 3 10 248:=⟨⟨_,_,Tryz.underlying252,rfl,rfl,rfl⟩⟩
instance:Fld Tryz.prog 252 4 11 249:=⟨⟨_,_,Tryz.underlying252,rfl,rfl,rfl⟩⟩
instance:Fld Tryz.prog 252 5 12 250:=⟨⟨_,_,Tryz.underlying252,rfl,rfl,rfl⟩⟩
instance:Plc Tryz.prog 252 [(0,8),(8,1),(9,1),(10,1),(11,1),(12,1)]:=⟨⟨_,Tryz.underlying252,by kernel_rfl⟩⟩
instance:IsA Tryz.prog 257 false:=⟨⟨_,Tryz.underlying257,rfl⟩⟩
instance:IsA Tryz.prog 270 false:=⟨⟨_,Tryz.underlying270,rfl⟩⟩
instance:IsA Tryz.prog 273 false:=⟨⟨_,Tryz.underlying273,rfl⟩⟩
instance:Siz Tryz.prog 273 1:=⟨by kernel_rfl⟩
instance:IsA Tryz.prog 275 false:=⟨⟨_,Tryz.underlying275,rfl⟩⟩
instance:Und Tryz.prog 277 (.array 7 273):=⟨Tryz.underlying277⟩
instance:Siz Tryz.prog 277 7:=⟨by kernel_rfl⟩
instance:Zer Tryz.prog 277 [.nilFunc,.nilFunc,.nilFunc,.nilFunc,.nilFunc,.nilFunc,.nilFunc]:=⟨⟨(.agg #[.nilFunc,.nilFunc,.nilFunc,.nilFunc,.nilFunc,.nilFunc,.nilFunc]:Value),by kernel_rfl,rfl,List.all_eq_true.1 rfl⟩⟩
instance:Und Tryz.prog 305 (.array 256 5):=⟨Tryz.underlying305⟩
instance:IsA Tryz.prog 307 true:=⟨⟨_,Tryz.underlying307,rfl⟩⟩
instance:Siz Tryz.prog 307 2:=⟨by kernel_rfl⟩
instance:Zer Tryz.prog 307 [.int .u8 0,.int .u8 0]:=⟨⟨(.agg #[.int .u8 0,.int .u8 0]:Value),by kernel_rfl,rfl,List.all_eq_true.1 rfl⟩⟩
instance:Fld Tryz.prog 307 0 0 5:=⟨⟨_,_,Tryz.underlying307,rfl,rfl,rfl⟩⟩
instance:Fld Tryz.prog 307 1 1 5:=⟨⟨_,_,Tryz.underlying307,rfl,rfl,rfl⟩⟩
instance:Und Tryz.prog 308 (.array 16 307):=⟨Tryz.underlying308⟩
instance:IsA Tryz.prog 326 true:=⟨⟨_,Tryz.underlying326,rfl⟩⟩
instance:Siz Tryz.prog 326 2:=⟨by kernel_rfl⟩
instance:Zer Tryz.prog 326 [.int .i64 0,.int .i64 0]:=⟨⟨(.agg #[.int .i64 0,.int .i64 0]:Value),by kernel_rfl,rfl,List.all_eq_true.1 rfl⟩⟩
instance:Plc Tryz.prog 326 [(0,1),(1,1)]:=⟨⟨_,Tryz.underlying326,by kernel_rfl⟩⟩
instance:IsA Tryz.prog 328 true:=⟨⟨_,Tryz.underlying328,rfl⟩⟩
instance:Zer Tryz.prog 328 [.int .i64 0,.int .i64 0,.int .i64 0]:=⟨⟨(.agg #[.int .i64 0,.int .i64 0,.int .i64 0]:Value),by kernel_rfl,rfl,List.all_eq_true.1 rfl⟩⟩
instance:Plc Tryz.prog 328 [(0,1),(1,2)]:=⟨⟨_,Tryz.underlying328,by kernel_rfl⟩⟩
instance:Mixed Tryz.prog:=⟨by kernel_rfl⟩
theorem yvd (n:Nat) (w:World) (a b c d:Int):(Op.equalIn (n+2) 45 (.agg #[.int .i64 a,.int .i64 b]) (.agg #[.int .i64 c,.int .i64 d])).run Tryz.prog w= .ok (a==c && b==d) w:=by
 rw [Op.equalIn]
 simp only [Sem.run_bind,Go.run_underlying Tryz.underlying45,Result.andThen_ok,Ab.run_sizeOf (P:=Tryz.prog) (T:=3) (n:=1)]
 simp [part,run_equalIn_int _ n 3 .i64 .i64 _ _ Tryz.underlying3,Std.Legacy.Range.forIn_eq_forIn_range',List.range'_succ]
 by_cases h1:a=c <;> by_cases h2:b=d <;> simp [h1,h2]
instance:EqInts Tryz.prog 45 2:= .mk2 (by kernel_rfl) (yvd 9998)
instance:Chk2 Tryz.prog 45:=⟨fun e w a b=>by kernel_rfl⟩
theorem yir (n:Nat) (w:World) (a b c d:Int):(Op.equalIn (n+2) 57 (.agg #[.int .i64 a,.int .i64 b]) (.agg #[.int .i64 c,.int .i64 d])).run Tryz.prog w= .ok (a==c && b==d) w:=by
 rw [run_equalIn_struct w (n+1) 57 _ _ (by kernel_rfl) (by kernel_rfl)]
 simp only [Program.fieldsOf,Tryz.underlying57]
 simp [Op.eqFields,part,run_equalIn_int _ n 3 .i64 .i64 _ _ Tryz.underlying3]
 by_cases h1:a=c <;> by_cases h2:b=d <;> simp [h1,h2]
instance:EqInts Tryz.prog 57 2:= .mk2 (by kernel_rfl) (yir 9998)
instance:EqInts Tryz.prog 70 3:= .mk3 (by kernel_rfl) fun w a b c d e f=>by
 rw [run_equalIn_struct w 9999 70 _ _ (by kernel_rfl) (by kernel_rfl)]
 simp only [Program.fieldsOf,Tryz.underlying70]
 simp [Op.eqFields,part,run_equalIn_int _ 9998 3 .i64 .i64 _ _ Tryz.underlying3,yir 9997]
 by_cases h1:a=d <;> by_cases h2:b=e <;> by_cases h3:c=f <;> simp [h1,h2,h3]
instance:EqInts Tryz.prog 170 3:= .mk3 (by kernel_rfl) fun w a b c d e f=>by
 rw [run_equalIn_struct w 9999 170 _ _ (by kernel_rfl) (by kernel_rfl)]
 simp only [Program.fieldsOf,Tryz.underlying170]
 simp [Op.eqFields,part,run_equalIn_int _ 9998 3 .i64 .i64 _ _ Tryz.underlying3,yir 9997]
 by_cases h1:a=d <;> by_cases h2:b=e <;> by_cases h3:c=f <;> simp [h1,h2,h3]
theorem yse (n:Nat) (w:World) (a b c d:Int):(Op.equalIn (n+2) 326 (.agg #[.int .i64 a,.int .i64 b]) (.agg #[.int .i64 c,.int .i64 d])).run Tryz.prog w= .ok (a==c && b==d) w:=by
 rw [run_equalIn_struct w (n+1) 326 _ _ (by kernel_rfl) (by kernel_rfl)]
 simp only [Program.fieldsOf,Tryz.underlying326]
 simp [Op.eqFields,part,run_equalIn_int _ n 3 .i64 .i64 _ _ Tryz.underlying3]
 by_cases h1:a=c <;> by_cases h2:b=d <;> simp [h1,h2]
instance:EqInts Tryz.prog 326 2:= .mk2 (by kernel_rfl) (yse 9998)
instance:EqInts Tryz.prog 328 3:= .mk3 (by kernel_rfl) fun w a b c d e f=>by
 rw [run_equalIn_struct w 9999 328 _ _ (by kernel_rfl) (by kernel_rfl)]
 simp only [Program.fieldsOf,Tryz.underlying328]
 simp [Op.eqFields,part,run_equalIn_int _ 9998 3 .i64 .i64 _ _ Tryz.underlying3,yir 9997]
 by_cases h1:a=d <;> by_cases h2:b=e <;> by_cases h3:c=f <;> simp [h1,h2,h3]
instance:Enters Tryz.prog 16:=⟨⟨_,Tryz.func16,by kernel_rfl,by kernel_rfl⟩⟩
instance:Enters Tryz.prog 19:=⟨⟨_,Tryz.func19,by kernel_rfl,by kernel_rfl⟩⟩
instance:Enters Tryz.prog 21:=⟨⟨_,Tryz.func21,by kernel_rfl,by kernel_rfl⟩⟩
instance:Enters Tryz.prog 36:=⟨⟨_,Tryz.func36,by kernel_rfl,by kernel_rfl⟩⟩
instance:Enters Tryz.prog 38:=⟨⟨_,Tryz.func38,by kernel_rfl,by kernel_rfl⟩⟩
instance:Enters Tryz.prog 41:=⟨⟨_,Tryz.func41,by kernel_rfl,by kernel_rfl⟩⟩
instance:Enters Tryz.prog 42:=⟨⟨_,Tryz.func42,by kernel_rfl,by kernel_rfl⟩⟩
instance:Enters Tryz.prog 44:=⟨⟨_,Tryz.func44,by kernel_rfl,by kernel_rfl⟩⟩
instance:Enters Tryz.prog 45:=⟨⟨_,Tryz.func45,by kernel_rfl,by kernel_rfl⟩⟩
instance:Enters Tryz.prog 51:=⟨⟨_,Tryz.func51,by kernel_rfl,by kernel_rfl⟩⟩
instance:Enters Tryz.prog 52:=⟨⟨_,Tryz.func52,by kernel_rfl,by kernel_rfl⟩⟩
instance:Enters Tryz.prog 53:=⟨⟨_,Tryz.func53,by kernel_rfl,by kernel_rfl⟩⟩
instance:Enters Tryz.prog 54:=⟨⟨_,Tryz.func54,by kernel_rfl,by kernel_rfl⟩⟩
instance:Enters Tryz.prog 56:=⟨⟨_,Tryz.func56,by kernel_rfl,by kernel_rfl⟩⟩
instance:Enters Tryz.prog 57:=⟨⟨_,Tryz.func57,by kernel_rfl,by kernel_rfl⟩⟩
instance:Enters Tryz.prog 59:=⟨⟨_,Tryz.func59,by kernel_rfl,by kernel_rfl⟩⟩
instance:Enters Tryz.prog 60:=⟨⟨_,Tryz.func60,by kernel_rfl,by kernel_rfl⟩⟩
instance:Enters Tryz.prog 64:=⟨⟨_,Tryz.func64,by kernel_rfl,by kernel_rfl⟩⟩
instance:Enters Tryz.prog 65:=⟨⟨_,Tryz.func65,by kernel_rfl,by kernel_rfl⟩⟩
instance:Enters Tryz.prog 66:=⟨⟨_,Tryz.func66,by kernel_rfl,by kernel_rfl⟩⟩
instance:Enters Tryz.prog 74:=⟨⟨_,Tryz.func74,by kernel_rfl,by kernel_rfl⟩⟩
instance:Enters Tryz.prog 75:=⟨⟨_,Tryz.func75,by kernel_rfl,by kernel_rfl⟩⟩
instance:Enters Tryz.prog 77:=⟨⟨_,Tryz.func77,by kernel_rfl,by kernel_rfl⟩⟩
instance:Enters Tryz.prog 79:=⟨⟨_,Tryz.func79,by kernel_rfl,by kernel_rfl⟩⟩
instance:Enters Tryz.prog 85:=⟨⟨_,Tryz.func85,by kernel_rfl,by kernel_rfl⟩⟩
instance:Enters Tryz.prog 87:=⟨⟨_,Tryz.func87,by kernel_rfl,by kernel_rfl⟩⟩
instance:Enters Tryz.prog 88:=⟨⟨_,Tryz.func88,by kernel_rfl,by kernel_rfl⟩⟩
instance:Enters Tryz.prog 89:=⟨⟨_,Tryz.func89,by kernel_rfl,by kernel_rfl⟩⟩
instance:Enters Tryz.prog 90:=⟨⟨_,Tryz.func90,by kernel_rfl,by kernel_rfl⟩⟩
instance:Enters Tryz.prog 91:=⟨⟨_,Tryz.func91,by kernel_rfl,by kernel_rfl⟩⟩
instance:Enters Tryz.prog 93:=⟨⟨_,Tryz.func93,by kernel_rfl,by kernel_rfl⟩⟩
instance:Enters Tryz.prog 94:=⟨⟨_,Tryz.func94,by kernel_rfl,by kernel_rfl⟩⟩
instance:Enters Tryz.prog 97:=⟨⟨_,Tryz.func97,by kernel_rfl,by kernel_rfl⟩⟩
instance:Enters Tryz.prog 98:=⟨⟨_,Tryz.func98,by kernel_rfl,by kernel_rfl⟩⟩
instance:Enters Tryz.prog 99:=⟨⟨_,Tryz.func99,by kernel_rfl,by kernel_rfl⟩⟩
instance:Enters Tryz.prog 100:=⟨⟨_,Tryz.func100,by kernel_rfl,by kernel_rfl⟩⟩
instance:Enters Tryz.prog 101:=⟨⟨_,Tryz.func101,by kernel_rfl,by kernel_rfl⟩⟩
instance:Enters Tryz.prog 102:=⟨⟨_,Tryz.func102,by kernel_rfl,by kernel_rfl⟩⟩
instance:Enters Tryz.prog 104:=⟨⟨_,Tryz.func104,by kernel_rfl,by kernel_rfl⟩⟩
instance:Enters Tryz.prog 105:=⟨⟨_,Tryz.func105,by kernel_rfl,by kernel_rfl⟩⟩
instance:Enters Tryz.prog 106:=⟨⟨_,Tryz.func106,by kernel_rfl,by kernel_rfl⟩⟩
instance:Enters Tryz.prog 108:=⟨⟨_,Tryz.func108,by kernel_rfl,by kernel_rfl⟩⟩
instance:Enters Tryz.prog 109:=⟨⟨_,Tryz.func109,by kernel_rfl,by kernel_rfl⟩⟩
instance:Enters Tryz.prog 110:=⟨⟨_,Tryz.func110,by kernel_rfl,by kernel_rfl⟩⟩
instance:Enters Tryz.prog 111:=⟨⟨_,Tryz.func111,by kernel_rfl,by kernel_rfl⟩⟩
instance:Enters Tryz.prog 112:=⟨⟨_,Tryz.func112,by kernel_rfl,by kernel_rfl⟩⟩
instance:Enters Tryz.prog 113:=⟨⟨_,Tryz.func113,by kernel_rfl,by kernel_rfl⟩⟩
instance:Enters Tryz.prog 114:=⟨⟨_,Tryz.func114,by kernel_rfl,by kernel_rfl⟩⟩
instance:Enters Tryz.prog 115:=⟨⟨_,Tryz.func115,by kernel_rfl,by kernel_rfl⟩⟩
instance:Enters Tryz.prog 117:=⟨⟨_,Tryz.func117,by kernel_rfl,by kernel_rfl⟩⟩
instance:Enters Tryz.prog 118:=⟨⟨_,Tryz.func118,by kernel_rfl,by kernel_rfl⟩⟩
instance:Enters Tryz.prog 119:=⟨⟨_,Tryz.func119,by kernel_rfl,by kernel_rfl⟩⟩
instance:Enters Tryz.prog 120:=⟨⟨_,Tryz.func120,by kernel_rfl,by kernel_rfl⟩⟩
instance:Enters Tryz.prog 121:=⟨⟨_,Tryz.func121,by kernel_rfl,by kernel_rfl⟩⟩
instance:Enters Tryz.prog 122:=⟨⟨_,Tryz.func122,by kernel_rfl,by kernel_rfl⟩⟩
instance:Enters Tryz.prog 123:=⟨⟨_,Tryz.func123,by kernel_rfl,by kernel_rfl⟩⟩
instance:Enters Tryz.prog 124:=⟨⟨_,Tryz.func124,by kernel_rfl,by kernel_rfl⟩⟩
instance:Enters Tryz.prog 129:=⟨⟨_,Tryz.func129,by kernel_rfl,by kernel_rfl⟩⟩
instance:Enters Tryz.prog 130:=⟨⟨_,Tryz.func130,by kernel_rfl,by kernel_rfl⟩⟩
instance:Enters Tryz.prog 133:=⟨⟨_,Tryz.func133,by kernel_rfl,by kernel_rfl⟩⟩
instance:Enters Tryz.prog 134:=⟨⟨_,Tryz.func134,by kernel_rfl,by kernel_rfl⟩⟩
instance:Enters Tryz.prog 135:=⟨⟨_,Tryz.func135,by kernel_rfl,by kernel_rfl⟩⟩
instance:Enters Tryz.prog 140:=⟨⟨_,Tryz.func140,by kernel_rfl,by kernel_rfl⟩⟩
instance:Enters Tryz.prog 141:=⟨⟨_,Tryz.func141,by kernel_rfl,by kernel_rfl⟩⟩
instance:Enters Tryz.prog 142:=⟨⟨_,Tryz.func142,by kernel_rfl,by kernel_rfl⟩⟩
instance:Enters Tryz.prog 143:=⟨⟨_,Tryz.func143,by kernel_rfl,by kernel_rfl⟩⟩
instance:Enters Tryz.prog 144:=⟨⟨_,Tryz.func144,by kernel_rfl,by kernel_rfl⟩⟩
instance:Enters Tryz.prog 145:=⟨⟨_,Tryz.func145,by kernel_rfl,by kernel_rfl⟩⟩
instance:Enters Tryz.prog 146:=⟨⟨_,Tryz.func146,by kernel_rfl,by kernel_rfl⟩⟩
instance:Enters Tryz.prog 147:=⟨⟨_,Tryz.func147,by kernel_rfl,by kernel_rfl⟩⟩
instance:Enters Tryz.prog 148:=⟨⟨_,Tryz.func148,by kernel_rfl,by kernel_rfl⟩⟩
instance:Enters Tryz.prog 149:=⟨⟨_,Tryz.func149,by kernel_rfl,by kernel_rfl⟩⟩
instance:Enters Tryz.prog 150:=⟨⟨_,Tryz.func150,by kernel_rfl,by kernel_rfl⟩⟩
instance:Enters Tryz.prog 151:=⟨⟨_,Tryz.func151,by kernel_rfl,by kernel_rfl⟩⟩
instance:Enters Tryz.prog 152:=⟨⟨_,Tryz.func152,by kernel_rfl,by kernel_rfl⟩⟩
instance:Enters Tryz.prog 153:=⟨⟨_,Tryz.func153,by kernel_rfl,by kernel_rfl⟩⟩
instance:Enters Tryz.prog 154:=⟨⟨_,Tryz.func154,by kernel_rfl,by kernel_rfl⟩⟩
instance:Enters Tryz.prog 155:=⟨⟨_,Tryz.func155,by kernel_rfl,by kernel_rfl⟩⟩
instance:Enters Tryz.prog 156:=⟨⟨_,Tryz.func156,by kernel_rfl,by kernel_rfl⟩⟩
instance:Enters Tryz.prog 157:=⟨⟨_,Tryz.func157,by kernel_rfl,by kernel_rfl⟩⟩
instance:Enters Tryz.prog 158:=⟨⟨_,Tryz.func158,by kernel_rfl,by kernel_rfl⟩⟩
instance:Enters Tryz.prog 159:=⟨⟨_,Tryz.func159,by kernel_rfl,by kernel_rfl⟩⟩
instance:Enters Tryz.prog 160:=⟨⟨_,Tryz.func160,by kernel_rfl,by kernel_rfl⟩⟩
instance:Enters Tryz.prog 161:=⟨⟨_,Tryz.func161,by kernel_rfl,by kernel_rfl⟩⟩
instance:Enters Tryz.prog 162:=⟨⟨_,Tryz.func162,by kernel_rfl,by kernel_rfl⟩⟩
instance:Enters Tryz.prog 163:=⟨⟨_,Tryz.func163,by kernel_rfl,by kernel_rfl⟩⟩
instance:Enters Tryz.prog 164:=⟨⟨_,Tryz.func164,by kernel_rfl,by kernel_rfl⟩⟩
instance:Enters Tryz.prog 165:=⟨⟨_,Tryz.func165,by kernel_rfl,by kernel_rfl⟩⟩
instance:Enters Tryz.prog 166:=⟨⟨_,Tryz.func166,by kernel_rfl,by kernel_rfl⟩⟩
instance:Enters Tryz.prog 167:=⟨⟨_,Tryz.func167,by kernel_rfl,by kernel_rfl⟩⟩
instance:Enters Tryz.prog 168:=⟨⟨_,Tryz.func168,by kernel_rfl,by kernel_rfl⟩⟩
instance:Enters Tryz.prog 172:=⟨⟨_,Tryz.func172,by kernel_rfl,by kernel_rfl⟩⟩
instance:Enters Tryz.prog 173:=⟨⟨_,Tryz.func173,by kernel_rfl,by kernel_rfl⟩⟩
instance:Enters Tryz.prog 174:=⟨⟨_,Tryz.func174,by kernel_rfl,by kernel_rfl⟩⟩
instance:Enters Tryz.prog 187:=⟨⟨_,Tryz.func187,by kernel_rfl,by kernel_rfl⟩⟩
instance:Enters Tryz.prog 188:=⟨⟨_,Tryz.func188,by kernel_rfl,by kernel_rfl⟩⟩
instance:Enters Tryz.prog 189:=⟨⟨_,Tryz.func189,by kernel_rfl,by kernel_rfl⟩⟩
instance:Enters Tryz.prog 190:=⟨⟨_,Tryz.func190,by kernel_rfl,by kernel_rfl⟩⟩
instance:Enters Tryz.prog 191:=⟨⟨_,Tryz.func191,by kernel_rfl,by kernel_rfl⟩⟩
instance:Enters Tryz.prog 192:=⟨⟨_,Tryz.func192,by kernel_rfl,by kernel_rfl⟩⟩
instance:Enters Tryz.prog 193:=⟨⟨_,Tryz.func193,by kernel_rfl,by kernel_rfl⟩⟩
instance:Enters Tryz.prog 194:=⟨⟨_,Tryz.func194,by kernel_rfl,by kernel_rfl⟩⟩
instance:Enters Tryz.prog 195:=⟨⟨_,Tryz.func195,by kernel_rfl,by kernel_rfl⟩⟩
instance:Enters Tryz.prog 196:=⟨⟨_,Tryz.func196,by kernel_rfl,by kernel_rfl⟩⟩
instance:Enters Tryz.prog 197:=⟨⟨_,Tryz.func197,by kernel_rfl,by kernel_rfl⟩⟩
instance:Enters Tryz.prog 198:=⟨⟨_,Tryz.func198,by kernel_rfl,by kernel_rfl⟩⟩
instance:Enters Tryz.prog 199:=⟨⟨_,Tryz.func199,by kernel_rfl,by kernel_rfl⟩⟩
instance:Enters Tryz.prog 200:=⟨⟨_,Tryz.func200,by kernel_rfl,by kernel_rfl⟩⟩
instance:Enters Tryz.prog 201:=⟨⟨_,Tryz.func201,by kernel_rfl,by kernel_rfl⟩⟩
instance:Enters Tryz.prog 202:=⟨⟨_,Tryz.func202,by kernel_rfl,by kernel_rfl⟩⟩
instance:Enters Tryz.prog 203:=⟨⟨_,Tryz.func203,by kernel_rfl,by kernel_rfl⟩⟩
instance:Enters Tryz.prog 204:=⟨⟨_,Tryz.func204,by kernel_rfl,by kernel_rfl⟩⟩
instance:Enters Tryz.prog 205:=⟨⟨_,Tryz.func205,by kernel_rfl,by kernel_rfl⟩⟩
instance:Enters Tryz.prog 206:=⟨⟨_,Tryz.func206,by kernel_rfl,by kernel_rfl⟩⟩
instance:Enters Tryz.prog 207:=⟨⟨_,Tryz.func207,by kernel_rfl,by kernel_rfl⟩⟩
instance:Enters Tryz.prog 208:=⟨⟨_,Tryz.func208,by kernel_rfl,by kernel_rfl⟩⟩
instance:Enters Tryz.prog 209:=⟨⟨_,Tryz.func209,by kernel_rfl,by kernel_rfl⟩⟩
instance:Enters Tryz.prog 210:=⟨⟨_,Tryz.func210,by kernel_rfl,by kernel_rfl⟩⟩
instance:Enters Tryz.prog 211:=⟨⟨_,Tryz.func211,by kernel_rfl,by kernel_rfl⟩⟩
instance:Enters Tryz.prog 212:=⟨⟨_,Tryz.func212,by kernel_rfl,by kernel_rfl⟩⟩
instance:Enters Tryz.prog 214:=⟨⟨_,Tryz.func214,by kernel_rfl,by kernel_rfl⟩⟩
instance:Enters Tryz.prog 215:=⟨⟨_,Tryz.func215,by kernel_rfl,by kernel_rfl⟩⟩
instance:Enters Tryz.prog 216:=⟨⟨_,Tryz.func216,by kernel_rfl,by kernel_rfl⟩⟩
instance:Enters Tryz.prog 217:=⟨⟨_,Tryz.func217,by kernel_rfl,by kernel_rfl⟩⟩
instance:Enters Tryz.prog 218:=⟨⟨_,Tryz.func218,by kernel_rfl,by kernel_rfl⟩⟩
instance:Enters Tryz.prog 224:=⟨⟨_,Tryz.func224,by kernel_rfl,by kernel_rfl⟩⟩
instance:Enters Tryz.prog 225:=⟨⟨_,Tryz.func225,by kernel_rfl,by kernel_rfl⟩⟩
instance:Enters Tryz.prog 226:=⟨⟨_,Tryz.func226,by kernel_rfl,by kernel_rfl⟩⟩
instance:Enters Tryz.prog 227:=⟨⟨_,Tryz.func227,by kernel_rfl,by kernel_rfl⟩⟩
instance:Enters Tryz.prog 228:=⟨⟨_,Tryz.func228,by kernel_rfl,by kernel_rfl⟩⟩
instance:Enters Tryz.prog 229:=⟨⟨_,Tryz.func229,by kernel_rfl,by kernel_rfl⟩⟩
instance:Enters Tryz.prog 230:=⟨⟨_,Tryz.func230,by kernel_rfl,by kernel_rfl⟩⟩
instance:Enters Tryz.prog 231:=⟨⟨_,Tryz.func231,by kernel_rfl,by kernel_rfl⟩⟩
instance:Enters Tryz.prog 232:=⟨⟨_,Tryz.func232,by kernel_rfl,by kernel_rfl⟩⟩
instance:Enters Tryz.prog 233:=⟨⟨_,Tryz.func233,by kernel_rfl,by kernel_rfl⟩⟩
instance:Enters Tryz.prog 234:=⟨⟨_,Tryz.func234,by kernel_rfl,by kernel_rfl⟩⟩
instance:Enters Tryz.prog 235:=⟨⟨_,Tryz.func235,by kernel_rfl,by kernel_rfl⟩⟩
instance:Enters Tryz.prog 236:=⟨⟨_,Tryz.func236,by kernel_rfl,by kernel_rfl⟩⟩
instance:Enters Tryz.prog 237:=⟨⟨_,Tryz.func237,by kernel_rfl,by kernel_rfl⟩⟩
instance:Enters Tryz.prog 238:=⟨⟨_,Tryz.func238,by kernel_rfl,by kernel_rfl⟩⟩
instance:Enters Tryz.prog 239:=⟨⟨_,Tryz.func239,by kernel_rfl,by kernel_rfl⟩⟩
instance:Enters Tryz.prog 240:=⟨⟨_,Tryz.func240,by kernel_rfl,by kernel_rfl⟩⟩
instance:Enters Tryz.prog 241:=⟨⟨_,Tryz.func241,by kernel_rfl,by kernel_rfl⟩⟩
instance:Enters Tryz.prog 242:=⟨⟨_,Tryz.func242,by kernel_rfl,by kernel_rfl⟩⟩
instance:Enters Tryz.prog 243:=⟨⟨_,Tryz.func243,by kernel_rfl,by kernel_rfl⟩⟩
instance:Enters Tryz.prog 244:=⟨⟨_,Tryz.func244,by kernel_rfl,by kernel_rfl⟩⟩
instance:Enters Tryz.prog 245:=⟨⟨_,Tryz.func245,by kernel_rfl,by kernel_rfl⟩⟩
instance:Enters Tryz.prog 246:=⟨⟨_,Tryz.func246,by kernel_rfl,by kernel_rfl⟩⟩
instance:Enters Tryz.prog 247:=⟨⟨_,Tryz.func247,by kernel_rfl,by kernel_rfl⟩⟩
instance:Enters Tryz.prog 256:=⟨⟨_,Tryz.func256,by kernel_rfl,by kernel_rfl⟩⟩
instance:Enters Tryz.prog 257:=⟨⟨_,Tryz.func257,by kernel_rfl,by kernel_rfl⟩⟩
instance:Enters Tryz.prog 258:=⟨⟨_,Tryz.func258,by kernel_rfl,by kernel_rfl⟩⟩
instance:Enters Tryz.prog 259:=⟨⟨_,Tryz.func259,by kernel_rfl,by kernel_rfl⟩⟩
instance:Enters Tryz.prog 260:=⟨⟨_,Tryz.func260,by kernel_rfl,by kernel_rfl⟩⟩
instance:Enters Tryz.prog 261:=⟨⟨_,Tryz.func261,by kernel_rfl,by kernel_rfl⟩⟩
instance:Enters Tryz.prog 262:=⟨⟨_,Tryz.func262,by kernel_rfl,by kernel_rfl⟩⟩
instance:Enters Tryz.prog 263:=⟨⟨_,Tryz.func263,by kernel_rfl,by kernel_rfl⟩⟩
instance:Enters Tryz.prog 264:=⟨⟨_,Tryz.func264,by kernel_rfl,by kernel_rfl⟩⟩
instance:Enters Tryz.prog 266:=⟨⟨_,Tryz.func266,by kernel_rfl,by kernel_rfl⟩⟩
instance:Enters Tryz.prog 267:=⟨⟨_,Tryz.func267,by kernel_rfl,by kernel_rfl⟩⟩
instance:Enters Tryz.prog 268:=⟨⟨_,Tryz.func268,by kernel_rfl,by kernel_rfl⟩⟩
instance:Enters Tryz.prog 269:=⟨⟨_,Tryz.func269,by kernel_rfl,by kernel_rfl⟩⟩
instance:Enters Tryz.prog 270:=⟨⟨_,Tryz.func270,by kernel_rfl,by kernel_rfl⟩⟩
instance:Enters Tryz.prog 271:=⟨⟨_,Tryz.func271,by kernel_rfl,by kernel_rfl⟩⟩
instance:Enters Tryz.prog 272:=⟨⟨_,Tryz.func272,by kernel_rfl,by kernel_rfl⟩⟩
instance:Enters Tryz.prog 276:=⟨⟨_,Tryz.func276,by kernel_rfl,by kernel_rfl⟩⟩
instance:Enters Tryz.prog 277:=⟨⟨_,Tryz.func277,by kernel_rfl,by kernel_rfl⟩⟩
instance:Enters Tryz.prog 278:=⟨⟨_,Tryz.func278,by kernel_rfl,by kernel_rfl⟩⟩
instance:Enters Tryz.prog 279:=⟨⟨_,Tryz.func279,by kernel_rfl,by kernel_rfl⟩⟩
instance:Enters Tryz.prog 280:=⟨⟨_,Tryz.func280,by kernel_rfl,by kernel_rfl⟩⟩
instance:Enters Tryz.prog 281:=⟨⟨_,Tryz.func281,by kernel_rfl,by kernel_rfl⟩⟩
instance:Enters Tryz.prog 282:=⟨⟨_,Tryz.func282,by kernel_rfl,by kernel_rfl⟩⟩
instance:Enters Tryz.prog 284:=⟨⟨_,Tryz.func284,by kernel_rfl,by kernel_rfl⟩⟩
instance:Enters Tryz.prog 300:=⟨⟨_,Tryz.func300,by kernel_rfl,by kernel_rfl⟩⟩
instance:Enters Tryz.prog 302:=⟨⟨_,Tryz.func302,by kernel_rfl,by kernel_rfl⟩⟩
instance:Enters Tryz.prog 303:=⟨⟨_,Tryz.func303,by kernel_rfl,by kernel_rfl⟩⟩
instance:Enters Tryz.prog 304:=⟨⟨_,Tryz.func304,by kernel_rfl,by kernel_rfl⟩⟩
instance:Enters Tryz.prog 305:=⟨⟨_,Tryz.func305,by kernel_rfl,by kernel_rfl⟩⟩
instance:Enters Tryz.prog 306:=⟨⟨_,Tryz.func306,by kernel_rfl,by kernel_rfl⟩⟩
instance:Enters Tryz.prog 307:=⟨⟨_,Tryz.func307,by kernel_rfl,by kernel_rfl⟩⟩
instance:Enters Tryz.prog 308:=⟨⟨_,Tryz.func308,by kernel_rfl,by kernel_rfl⟩⟩
instance:Enters Tryz.prog 309:=⟨⟨_,Tryz.func309,by kernel_rfl,by kernel_rfl⟩⟩
instance:Enters Tryz.prog 310:=⟨⟨_,Tryz.func310,by kernel_rfl,by kernel_rfl⟩⟩
instance:Enters Tryz.prog 311:=⟨⟨_,Tryz.func311,by kernel_rfl,by kernel_rfl⟩⟩
instance:Enters Tryz.prog 312:=⟨⟨_,Tryz.func312,by kernel_rfl,by kernel_rfl⟩⟩
instance:Enters Tryz.prog 313:=⟨⟨_,Tryz.func313,by kernel_rfl,by kernel_rfl⟩⟩
instance:Enters Tryz.prog 314:=⟨⟨_,Tryz.func314,by kernel_rfl,by kernel_rfl⟩⟩
instance:Enters Tryz.prog 315:=⟨⟨_,Tryz.func315,by kernel_rfl,by kernel_rfl⟩⟩
instance:Enters Tryz.prog 316:=⟨⟨_,Tryz.func316,by kernel_rfl,by kernel_rfl⟩⟩
instance:Enters Tryz.prog 317:=⟨⟨_,Tryz.func317,by kernel_rfl,by kernel_rfl⟩⟩
instance:Enters Tryz.prog 318:=⟨⟨_,Tryz.func318,by kernel_rfl,by kernel_rfl⟩⟩
instance:Enters Tryz.prog 319:=⟨⟨_,Tryz.func319,by kernel_rfl,by kernel_rfl⟩⟩
instance:Enters Tryz.prog 320:=⟨⟨_,Tryz.func320,by kernel_rfl,by kernel_rfl⟩⟩
instance:Enters Tryz.prog 321:=⟨⟨_,Tryz.func321,by kernel_rfl,by kernel_rfl⟩⟩
instance:Enters Tryz.prog 322:=⟨⟨_,Tryz.func322,by kernel_rfl,by kernel_rfl⟩⟩
instance:Enters Tryz.prog 323:=⟨⟨_,Tryz.func323,by kernel_rfl,by kernel_rfl⟩⟩
instance:Enters Tryz.prog 324:=⟨⟨_,Tryz.func324,by kernel_rfl,by kernel_rfl⟩⟩
instance:Enters Tryz.prog 325:=⟨⟨_,Tryz.func325,by kernel_rfl,by kernel_rfl⟩⟩
instance:Enters Tryz.prog 326:=⟨⟨_,Tryz.func326,by kernel_rfl,by kernel_rfl⟩⟩
instance:Enters Tryz.prog 327:=⟨⟨_,Tryz.func327,by kernel_rfl,by kernel_rfl⟩⟩
instance:Enters Tryz.prog 328:=⟨⟨_,Tryz.func328,by kernel_rfl,by kernel_rfl⟩⟩
instance:Enters Tryz.prog 329:=⟨⟨_,Tryz.func329,by kernel_rfl,by kernel_rfl⟩⟩
instance:Enters Tryz.prog 330:=⟨⟨_,Tryz.func330,by kernel_rfl,by kernel_rfl⟩⟩
instance:Enters Tryz.prog 331:=⟨⟨_,Tryz.func331,by kernel_rfl,by kernel_rfl⟩⟩
instance:Enters Tryz.prog 332:=⟨⟨_,Tryz.func332,by kernel_rfl,by kernel_rfl⟩⟩
instance:Enters Tryz.prog 333:=⟨⟨_,Tryz.func333,by kernel_rfl,by kernel_rfl⟩⟩
instance:Enters Tryz.prog 334:=⟨⟨_,Tryz.func334,by kernel_rfl,by kernel_rfl⟩⟩
instance:Enters Tryz.prog 335:=⟨⟨_,Tryz.func335,by kernel_rfl,by kernel_rfl⟩⟩
instance:Enters Tryz.prog 336:=⟨⟨_,Tryz.func336,by kernel_rfl,by kernel_rfl⟩⟩
instance:Enters Tryz.prog 337:=⟨⟨_,Tryz.func337,by kernel_rfl,by kernel_rfl⟩⟩
instance:Enters Tryz.prog 338:=⟨⟨_,Tryz.func338,by kernel_rfl,by kernel_rfl⟩⟩
instance:Enters Tryz.prog 339:=⟨⟨_,Tryz.func339,by kernel_rfl,by kernel_rfl⟩⟩
instance:Enters Tryz.prog 340:=⟨⟨_,Tryz.func340,by kernel_rfl,by kernel_rfl⟩⟩
instance:Enters Tryz.prog 341:=⟨⟨_,Tryz.func341,by kernel_rfl,by kernel_rfl⟩⟩
instance:Enters Tryz.prog 342:=⟨⟨_,Tryz.func342,by kernel_rfl,by kernel_rfl⟩⟩
instance:Enters Tryz.prog 343:=⟨⟨_,Tryz.func343,by kernel_rfl,by kernel_rfl⟩⟩
end Go.Proofs
namespace Go.H
open Go Go.Ab
def zd7 {α:Type} (f:Nat→Ev→Option α) (l:List Ev):Nat→List α
 |0=> []
 |k+1=>zd7 f l k++(match l[k]? with|some e=>(f k e).toList|none=> [])
theorem znw {α:Type} {f:Nat→Ev→Option α} {l:List Ev} {k:Nat} (h:k < l.length):zd7 f l (k+1)=zd7 f l k++(f k l[k]).toList:=by
 rw [zd7,List.getElem?_eq_getElem h]
theorem zfu {α:Type} (f:Nat→Ev→Option α) (l:List Ev):∀k,(zd7 f l k).length≤k
 |0=>by simp [zd7]
 |k+1=>by
  have:=zfu f l k
  rw [zd7,List.length_append]
  have:(match l[k]? with|some e=>(f k e).toList|none=> []).length≤1:=by
   cases l[k]? with
   |none=>simp
   |some e=>simp only [];cases f k e <;> simp
  omega
theorem znx {α:Type} {f:Nat→Ev→Option α} {p:Ev→Bool} {g:Ev→α} (hf:∀k e,f k e=if p e=true then some (g e) else none) (l:List Ev):∀k,k≤l.length→zd7 f l k=((l.take k).filter p).map g
 |0,_=>by simp [zd7]
 |k+1,h=>by
  have hk:k < l.length:=h
  rw [znw hk,znx hf l k (by omega),List.take_succ_eq_append_getElem hk,List.filter_append,List.map_append,hf]
  by_cases hp:p l[k]=true
  ·rw [if_pos hp,List.filter_cons_of_pos hp];rfl
  ·rw [if_neg hp,List.filter_cons_of_neg hp];rfl
theorem yif {α:Type} {f:Nat→Ev→Option α} {p:Ev→Bool} {g:Ev→α} (hf:∀k e,f k e=if p e=true then some (g e) else none) (l:List Ev):zd7 f l l.length=(l.filter p).map g:=by
 rw [znx hf l _ (Nat.le_refl _),List.take_length]
def zc8 (l:List Ev) (t x:Int):Nat→Option (Ver×Nat)
 |0=>none
 |k+1=>match l[k]? with
  |some e=>if zam t x e=true then some (e.v,k) else zc8 l t x k
  |none=>zc8 l t x k
def zge (t x:Int) (a:Nat) (k:Nat) (e:Ev):Option (Ver×Nat):=if (e.kind==2 && (e.t==t && e.o==x && decide (k < a)))=true then some (e.v,k) else none
theorem zyb (t x:Int) (e:Ev):zam t x e=(e.kind==2 && (e.t==t && e.o==x)):=by
 rw [zam,Bool.and_assoc]
theorem zla (l:List Ev) (t x:Int) (a:Nat):∀k,k≤l.length→(zd7 (zge t x a) l k).getLast? =zc8 l t x (min k a)
 |0,_=>by simp [zd7,zc8]
 |k+1,h=>by
  have hk:k < l.length:=h
  have ih:=zla l t x a k (by omega)
  rw [znw hk,zge]
  by_cases ha:k < a
  ·rw [show min (k+1) a=k+1 by omega,zc8,List.getElem?_eq_getElem hk]
   rw [show min k a=k by omega] at ih
   have e1:(l[k].kind==2 && (l[k].t==t && l[k].o==x && decide (k < a)))=zam t x l[k]:=by rw [zyb,decide_eq_true ha,Bool.and_true]
   rw [e1]
   by_cases hw:zam t x l[k]=true
   ·simp only [hw,if_true];simp
   ·rw [if_neg hw];simp only [hw,if_false];simpa using ih
  ·rw [show min (k+1) a=a by omega]
   rw [show min k a=a by omega] at ih
   rw [if_neg (by rw [decide_eq_false ha];simp)]
   simpa using ih
theorem zpn {l:List Ev} {t x:Int}:∀{k:Nat} {v:Ver} {i:Nat},k≤l.length→zc8 l t x k=some (v,i)→∃hi:i < l.length,i < k∧zam t x l[i]=true∧l[i].v=v∧∀j,(hj:j < l.length)→i < j→j < k→zam t x l[j]=false
 |0,v,i,_,h=>by cases h
 |k+1,v,i,hl,h=>by
  have hk:k < l.length:=hl
  rw [zc8,List.getElem?_eq_getElem hk] at h
  simp only at h
  split at h
  ·rename_i hw
   cases h
   exact ⟨hk,by omega,hw,rfl,fun j hj h1 h2=>by omega⟩
  ·rename_i hw
   obtain ⟨hi,h1,h2,h3,h4⟩:=zpn (by omega) h
   exact ⟨hi,by omega,h2,h3,fun j hj h5 h6=>by
    by_cases e:j=k
    ·subst e;simpa using hw
    ·exact h4 j hj h5 (by omega)⟩
theorem zpo {l:List Ev} {t x:Int}:∀{k:Nat},k≤l.length→zc8 l t x k=none→∀j,(hj:j < l.length)→j < k→zam t x l[j]=false
 |0,_,_,j,hj,h=>by omega
 |k+1,hl,h,j,hj,hjk=>by
  have hk:k < l.length:=hl
  rw [zc8,List.getElem?_eq_getElem hk] at h
  simp only at h
  split at h
  ·cases h
  ·rename_i hw
   by_cases e:j=k
   ·subst e;simpa using hw
   ·exact zpo (by omega) h j hj (by omega)
theorem zpm {l:List Ev} {t x:Int} {a:Nat}:∀{k:Nat},k≤a→zc8 (l.take a) t x k=zc8 l t x k
 |0,_=>rfl
 |k+1,h=>by
  rw [zc8,zc8,List.getElem?_take_of_lt (by omega),zpm (by omega)]
def zi0 (l:List Ev) (t x:Int):Option (Ver×Nat):=zc8 l t x l.length
def zqk:Option (Ver×Nat)→Ver
 |some p=>p.1
 |none=>⟨0,0⟩
def atO:Option (Ver×Nat)→Int
 |some p=>p.2
 |none=>0
def zdd (l:List Ev):List Int:=srt ((l.filter fun e=>e.kind==5).map Ev.t)
def zgi (h:Hist):List Int:=(upR h.ts.length).filter fun t=>ze6 h.evs t 5
def yo4 (l:List Ev) (x:Int):List Int:=(l.filter fun e=>e.kind==2 && (e.o==x && ze6 l e.t 5)).map Ev.t
def za0 (h:Hist) (x:Int):List Int:=match h.ords.find? (fun o=>o.o==x) with|some o=>o.ts|none=>zb6 (yo4 h.evs x)
def zby (h:Hist) (x:Int):List Int:=match h.ords.find? (fun o=>o.o==x) with|some o=>o.ts|none=>zbl h x
def v6 (h:Hist):Int:=if zfs h=true then (if zar h=true then 0 else 250) else 210
theorem za6 {h:Hist}:v6 h=0 ↔ zar h=true:=by
 unfold v6
 by_cases hm:zfs h=true
 ·rw [if_pos hm]
  by_cases hs:zar h=true
  ·rw [if_pos hs];simp [hs]
  ·rw [if_neg hs];simp [hs]
 ·rw [if_neg hm]
  have:zar h=false:=by rw [zar,Bool.eq_false_iff.2 hm];rfl
  simp [this]
theorem zfg {α:Type} (p:α→Bool):∀(l:List α) (i:Nat),(match l.find? p with|some x=>∃k,∃hk:k < l.length,zbq p i l=((i+k:Nat):Int)∧l[k]=x∧p x=true|none=>zbq p i l= -1)
 | [],i=>rfl
 |a::r,i=>by
  rw [List.find?_cons]
  cases ha:p a with
  |true=>exact ⟨0,by simp,by rw [zbq,if_pos ha];rfl,rfl,ha⟩
  |false=>
   have:=zfg p r (i+1)
   rw [zbq,if_neg (by rw [ha];decide)]
   dsimp only
   cases hf:r.find? p with
   |some x=>
    rw [hf] at this
    obtain ⟨k,hk,e1,e2,e3⟩:=this
    exact ⟨k+1,by simpa using hk,by rw [e1];congr 1;omega,by simpa using e2,e3⟩
   |none=>
    rw [hf] at this
    exact this
theorem zkv {h:Hist} (hs:zar h=true) {q:Nat} (h1:1≤q) (h2:q≤10):zcy h q=none:=
 zpu (zfc hs).2 q (by have:∀k,k < 11→1≤k→k∈rules10:=by decide
                      exact this q (by omega) h1)
theorem ymc {h:Hist} (hs:zar h=true) (q:Nat) (h1:1≤q) (h2:q≤6) {j:Nat} (hj:j < h.evs.length):zbg q h.evs[j] (h.evs.take j)=false:=by
 have hp:=zkv hs h1 (by omega)
 have:zdi (fun i e=>zbg q e (h.evs.take i)) 0 h.evs=none:=by
  unfold zcy at hp
  split at hp <;> first|omega|exact hp
 have:=(zf9 _ _).1 this j hj
 rwa [Nat.zero_add] at this
theorem yt6 {h:Hist} (hs:zar h=true) {j:Nat} (hj:j < h.evs.length):zot (h.evs.take j) h.evs[j].t=false:=ymc hs 2 (by omega) (by omega) hj
theorem ydn {l:List Ev} {t c:Int}:ze6 l t c=true ↔ ∃e∈l,e.t=t∧e.kind=c:=by
 rw [zft,List.any_eq_true]
 simp only [Bool.and_eq_true,beq_iff_eq]
theorem zgy {α:Type} {l:List α} {i j:Nat} (hi:i < l.length) (h:i < j):l[i]∈l.take j:=
 List.mem_take_iff_getElem.2 ⟨i,by omega,rfl⟩
theorem ycj {l:List Ev} {c:Int} (h:∀i j,(hi:i < l.length)→(hj:j < l.length)→i < j→l[i].kind=c→l[j].kind=c→l[i].t≠l[j].t) (p:Ev→Bool) (hp:∀e,p e=true→e.kind=c):((l.filter p).map Ev.t).Nodup:=by
 rw [List.Nodup,List.pairwise_map,List.pairwise_filter,List.pairwise_iff_getElem]
 intro i j hi hj hij h1 h2
 exact h i j hi hj hij (hp _ h1) (hp _ h2)
theorem zvx {h:Hist} (hs:zar h=true):∀i j,(hi:i < h.evs.length)→(hj:j < h.evs.length)→i < j→h.evs[i].kind=5→h.evs[j].kind=5→h.evs[i].t≠h.evs[j].t:=by
 intro i j hi hj hij h1 h2 he
 have:=yt6 hs hj
 rw [zot,List.any_eq_false] at this
 exact this _ (zgy hi hij) (by simp [he,h1])
theorem zkk {l:List Ev} {t:Int}:t∈zdd l ↔ ze6 l t 5=true:=by
 rw [zdd,(zcx _).mem_iff,List.mem_map,ydn]
 simp only [List.mem_filter,beq_iff_eq]
 constructor
 ·rintro ⟨e,⟨he,hk⟩,ht⟩;exact ⟨e,he,ht,hk⟩
 ·rintro ⟨e,he,ht,hk⟩;exact ⟨e,⟨he,hk⟩,ht⟩
theorem zzu {h:Hist} (hs:zar h=true):(zdd h.evs).Nodup:=
 (zcx _).nodup_iff.2 (ycj (zvx hs) _ (by intro e he;simpa using he))
theorem yeh {h:Hist} (hs:zar h=true):zdd h.evs=zgi h:=by
 have hm:=(zfc hs).1
 refine yke _ _ (yuv (zws _) (zzu hs)) ((yjo _).filter _) fun z=> ?_
 rw [zkk,zgi,List.mem_filter,zm6]
 constructor
 ·intro hz
  obtain ⟨e,he,rfl,_⟩:=ydn.1 hz
  exact ⟨yrb hm e he,hz⟩
 ·exact fun hz=>hz.2
theorem zn3 {a:Int}:∀l:List Int,l≠ []→(∀z∈l,z=a)→zb6 l= [a]
 | [],h,_=>absurd rfl h
 | [x],_,h=>by rw [h x (by simp)];rfl
 |x::y::r,_,h=>by
  rw [zb6,if_pos (by rw [h x (by simp),h y (by simp)])]
  exact zn3 (y::r) (by simp) (fun z hz=>h z (by simp only [List.mem_cons] at hz ⊢;exact .inr hz))
theorem yei {l:List Int} (h:(zb6 (srt l)).length≤1):zb6 l=zb6 (srt l):=by
 have hm:∀z,z∈zb6 (srt l) ↔ z∈l:=fun z=>by rw [zgj,(zcx l).mem_iff]
 match hc:zb6 (srt l),h with
 | [],_=>
   have:l= []:=by
    rw [List.eq_nil_iff_forall_not_mem];intro z hz
    have:=(hm z).2 hz;rw [hc] at this;cases this
   rw [this];rfl
 | [a],_=>
   refine zn3 l ?_ fun z hz=> ?_
   ·rintro rfl
    have:=(hm a).1 (by rw [hc];simp);cases this
   ·have:=(hm z).2 hz
    rw [hc] at this;simpa using this
 |a::b::r,h=>simp at h
theorem zlu (l:List Ev) (x:Int):zb6 (srt (yo4 l x))=za4 l x:=by
 rw [yo4,za4]
 congr 3
 refine List.filter_congr fun e _=> ?_
 rw [zft,Bool.and_assoc]
theorem ycq {h:Hist} (hs:zar h=true) {x:Int} (h0:0≤x) (h1:x < h.os.length) (hn:h.ords.find? (fun o=>o.o==x)=none):(za4 h.evs x).length≤1:=by
 have hp:=zkv hs (q:=8) (by omega) (by omega)
 have:=(zf9 _ _).1 hp x.toNat (by omega)
 rw [Nat.zero_add,show ((x.toNat:Nat):Int)=x by omega,zq2] at this
 rw [List.find?_eq_none] at hn
 have ha:h.ords.any (fun r=>r.o==x)=false:=by
  rw [List.any_eq_false];intro o ho;exact hn o ho
 rw [ha] at this
 simp at this
 exact this
theorem znt {h:Hist} (hs:zar h=true) {x:Int} (h0:0≤x) (h1:x < h.os.length):za0 h x=zby h x:=by
 unfold za0 zby
 cases hf:h.ords.find? (fun o=>o.o==x) with
 |some o=>rfl
 |none=>
  have:=ycq hs h0 h1 hf
  rw [←ze7 (zfc hs).1,←zlu,yei (by rw [zlu];exact this)]
def zl4 (h:Hist) (x:Int) (v:Ver):Int:=zbq (fun t=>zqk (zi0 h.evs t x)==v) 0 (za0 h x)
def yjt (l:List Ev) (t:Int) (scan:List Seen) (at_:Nat) (x:Int):Seen:=match scan.find? (fun s=>s.o==x) with|some s=>s|none=>⟨x,zqk (zc8 l t x at_)⟩
def yl0 (h:Hist) (e:Ev) (at_:Nat):List Seen:=(upR h.os.length).map (yjt h.evs e.t e.scan at_)
theorem zr4 {h:Hist} (hs:zar h=true):zae h=true:=by
 have:=(zfc hs).1
 unfold zfs at this;simp only [Bool.and_eq_true] at this;exact this.1
theorem ze4 {h:Hist} (hs:zar h=true):∀e∈h.evs,zb5 h e=true:=(zdv (zr4 hs)).2.1
theorem zt7 {h:Hist} {e:Ev} (he:zb5 h e=true) (h2:e.kind=2):0≤e.o∧e.o < h.os.length∧e.v.t=e.t∧0 < e.v.k:=by
 obtain ⟨_,_,_,hc,_⟩:=zco he
 rw [zf5,if_neg (by omega),if_pos h2] at hc
 simp only [zbx,Bool.and_eq_true,decide_eq_true_eq,beq_iff_eq,zbs] at hc
 exact ⟨hc.1.1.1.1,hc.1.1.1.2,hc.1.2,hc.2⟩
theorem zic {t x:Int} {e:Ev}:zam t x e=true ↔ e.kind=2∧e.t=t∧e.o=x:=by
 simp only [zam,Bool.and_eq_true,beq_iff_eq,and_assoc]
theorem zi6 {l:List Ev} {x z:Int}:z∈za4 l x ↔ (∃e∈l,zam z x e=true)∧ze6 l z 5=true:=by
 rw [za4,zgj,(zcx _).mem_iff]
 simp only [List.mem_map,List.mem_filter,Bool.and_eq_true,beq_iff_eq]
 constructor
 ·rintro ⟨e,⟨he,⟨h2,h3⟩,h4⟩,rfl⟩
  exact ⟨⟨e,he,zic.2 ⟨h2,rfl,h3⟩⟩,by rw [zft];exact h4⟩
 ·rintro ⟨⟨e,he,hw⟩,h5⟩
  obtain ⟨h2,rfl,h3⟩:=zic.1 hw
  exact ⟨e,⟨he,⟨h2,h3⟩,by rw [←zft];exact h5⟩,rfl⟩
theorem zjg {h:Hist} (hs:zar h=true) {x:Int} (h0:0≤x) (h1:x < h.os.length):(za0 h x).Nodup∧(za0 h x).length=(za4 h.evs x).length∧∀z,z∈za0 h x ↔ z∈za4 h.evs x:=by
 have hm:=(zfc hs).1
 cases hf:h.ords.find? (fun o=>o.o==x) with
 |none=>
  have e:za0 h x=za4 h.evs x:=by
   rw [znt hs h0 h1,zby,hf,ze7 hm]
  rw [e];exact ⟨zgk _ _,rfl,fun _=>Iff.rfl⟩
 |some o=>
  have e:za0 h x=o.ts:=by rw [za0,hf]
  have:=zfg (fun o:Ord=>o.o==x) h.ords 0
  rw [hf] at this
  obtain ⟨k,hk,_,ek,eo⟩:=this
  have hp:zdi (zhz h) 0 h.ords=none:=zkv hs (q:=7) (by omega) (by omega)
  have:=(zf9 _ _).1 hp k hk
  rw [Nat.zero_add,ek,zhz] at this
  have ex:o.o=x:=by simpa using eo
  simp only [Bool.or_eq_false_iff,Bool.not_eq_false',ex] at this
  obtain ⟨⟨_,h2⟩,h3⟩:=this
  rw [znm] at h2
  have h4:=(zwv (zgk h.evs x) h2).symm.trans h3
  simp only [zgo,Bool.and_eq_true,decide_eq_true_eq,List.all_eq_true,List.contains_iff_mem] at h2 h4
  rw [e]
  exact ⟨h2.1,by simpa using h3,fun z=>⟨h2.2 z,h4.2 z⟩⟩
theorem yd0 {l:List Ev} {t x:Int} (h:∃e∈l,zam t x e=true):∃v i,zi0 l t x=some (v,i):=by
 cases hf:zi0 l t x with
 |some p=>exact ⟨p.1,p.2,rfl⟩
 |none=>
  obtain ⟨e,he,hw⟩:=h
  obtain ⟨j,hj,rfl⟩:=List.mem_iff_getElem.1 he
  have:=zpo (Nat.le_refl _) hf j hj hj
  rw [hw] at this;cases this
theorem zkg {h:Hist} (hs:zar h=true) {t x:Int} {v:Ver} {i:Nat} (hf:zi0 h.evs t x=some (v,i)):∃hi:i < h.evs.length,h.evs[i].v=v∧zam t x h.evs[i]=true∧v.t=t∧0 < v.k∧∀j,(hj:j < h.evs.length)→i < j→zam t x h.evs[j]=false:=by
 obtain ⟨hi,_,hw,hv,hn⟩:=zpn (Nat.le_refl _) hf
 obtain ⟨h2,ht,hx⟩:=zic.1 hw
 obtain ⟨_,_,h3,h4⟩:=zt7 (ze4 hs _ (List.getElem_mem hi)) h2
 exact ⟨hi,hv,hw,by rw [←hv,h3,ht],by rw [←hv];exact h4,fun j hj hij=>hn j hj hij hj⟩
theorem zvm {α:Type} {p:α→Bool}:∀{l:List α} {k i:Nat} (hk:k < l.length),p l[k]=true→(∀j,(hj:j < k)→p (l[j]'(by omega))=false)→zbq p i l=((i+k:Nat):Int)
 | [],k,i,hk,_,_=>absurd hk (by simp)
 |a::r,0,i,_,h,_=>by rw [zbq,if_pos (by simpa using h)];rfl
 |a::r,k+1,i,hk,h,hz=>by
  have h0:p a=false:=hz 0 (by omega)
  rw [zbq,if_neg (by rw [h0];decide),zvm (k:=k) (i:=i+1) (by simpa using hk) (by simpa using h) (fun j hj=>by have:=hz (j+1) (by omega);simpa using this)]
  congr 1;omega
theorem zwf {h:Hist} (hs:zar h=true) {x:Int} (h0:0≤x) (h1:x < h.os.length) {k:Nat} (hk:k < (za0 h x).length):∃v i,zi0 h.evs (za0 h x)[k] x=some (v,i)∧(∃hi:i < h.evs.length,h.evs[i].v=v)∧0 < v.k∧zl4 h x v=k∧(za0 h x)[k]∈zdd h.evs∧(za0 h x)[k]∈za4 h.evs x:=by
 obtain ⟨hn,_,hm⟩:=zjg hs h0 h1
 have hw:=(hm _).1 (List.getElem_mem hk)
 obtain ⟨w1,w2⟩:=zi6.1 hw
 obtain ⟨v,i,hf⟩:=yd0 w1
 obtain ⟨hi,hv,_,vt,vk,_⟩:=zkg hs hf
 refine ⟨v,i,hf,⟨hi,hv⟩,vk,?_,zkk.2 w2,hw⟩
 have:=zvm (p:=fun t=>zqk (zi0 h.evs t x)==v) (l:=za0 h x) (i:=0) hk (by simp only [hf,zqk];exact beq_self_eq_true _) (fun j hj=>by
  rw [beq_eq_false_iff_ne]
  intro e
  obtain ⟨u1,_⟩:=zi6.1 ((hm _).1 (List.getElem_mem (l:=za0 h x) (n:=j) (by omega)))
  obtain ⟨v',i',hf'⟩:=yd0 u1
  obtain ⟨_,_,_,vt',_⟩:=zkg hs hf'
  rw [hf'] at e
  simp only [zqk] at e
  subst e
  exact (List.pairwise_iff_getElem.1 hn) j k (by omega) hk hj (vt'.symm.trans vt))
 rw [zl4,this,Nat.zero_add]
end Go.H
set_option linter.unusedSectionVars false
namespace Go.Ab
open Go
section
variable {K V:Type} [DecidableEq K]
def za9 (k:K):List (K×V)→Option V
 | []=>none
 |p::r=>if p.1=k then some p.2 else za9 k r
def zdw (k:K) (v:V):List (K×V)→List (K×V)
 | []=> [(k,v)]
 |p::r=>if p.1=k then (p.1,v)::r else p::zdw k v r
def zbe (f:V→AV) (m:List (K×V)):List (K×AV):=m.map fun p=>(p.1,f p.2)
theorem zk5 (f:V→AV) (k:K):∀m:List (K×V),zdx k (zbe f m)=(za9 k m).map f
 | []=>rfl
 |p::m=>by
  have ih:=zk5 f k m
  simp only [zbe,List.map_cons,zdx,za9] at ih ⊢
  by_cases h:p.1=k
  ·simp [h]
  ·rw [if_neg h,if_neg h,ih]
theorem zm5 (f:V→AV) (k:K) (v:V):∀m:List (K×V),zo2 k (f v) (zbe f m)=zbe f (zdw k v m)
 | []=>rfl
 |p::m=>by
  have ih:=zm5 f k v m
  simp only [zbe,List.map_cons,zo2,zdw] at ih ⊢
  by_cases h:p.1=k
  ·rw [if_pos h,if_pos h];rfl
  ·rw [if_neg h,if_neg h,ih];rfl
theorem zce (k k':K) (v:V):∀m:List (K×V),za9 k (zdw k' v m)=if k'=k then some v else za9 k m
 | []=>by simp only [zdw,za9]
 |p::m=>by
  have ih:=zce k k' v m
  simp only [zdw]
  by_cases h:p.1=k'
  ·rw [if_pos h];simp only [za9,h]
   by_cases hk:k'=k
   ·simp [hk]
   ·simp [hk]
  ·rw [if_neg h];simp only [za9,ih]
   by_cases hp:p.1=k
   ·rw [if_pos hp,if_neg (fun q=>h (hp.trans q.symm)),if_pos hp]
   ·rw [if_neg hp,if_neg hp]
theorem zux (k:K) (v:V):∀m:List (K×V),(zdw k v m).length=if (za9 k m).isSome then m.length else m.length+1
 | []=>rfl
 |p::m=>by
  have ih:=zux k v m
  by_cases h:p.1=k
  ·simp [zdw,za9,h]
  ·simp only [zdw,za9,if_neg h,List.length_cons,ih]
   split <;> simp
def zsb {α:Type} (p:α→Bool) (key:α→K) (m:List (K×Bool)) (l:List α):List (K×Bool):=l.foldl (fun m e=>if p e then zdw (key e) true m else m) m
theorem zgp {α:Type} (p:α→Bool) (key:α→K) (k:K):∀(l:List α) (m:List (K×Bool)),za9 k (zsb p key m l)=if l.any (fun e=>p e && decide (key e=k)) then some true else za9 k m
 | [],m=>by simp [zsb]
 |e::l,m=>by
  have ih:=zgp p key k l (if p e then zdw (key e) true m else m)
  simp only [zsb,List.foldl_cons,List.any_cons] at ih ⊢
  rw [ih]
  by_cases h:(l.any fun e=>p e && decide (key e=k))=true
  ·simp only [h,Bool.or_true,if_true]
  ·have h':=Bool.eq_false_iff.2 h
   simp only [h',Bool.or_false,Bool.false_eq_true,if_false]
   cases hp:p e with
   |false=>simp
   |true=>simp [zce]
def yfp {α:Type} (p:α→Bool) (key:α→K) (val:α→V) (m:List (K×V)) (l:List α):List (K×V):=l.foldl (fun m e=>if p e then zdw (key e) (val e) m else m) m
theorem zmm {α:Type} (p:α→Bool) (key:α→K) (val:α→V) (k:K):∀(l:List α) (m:List (K×V)),za9 k (yfp p key val m l)=(((l.filter fun e=>p e && decide (key e=k)).getLast?).map val).or (za9 k m)
 | [],m=>by simp [yfp]
 |e::l,m=>by
  have ih:=zmm p key val k l (if p e then zdw (key e) (val e) m else m)
  simp only [yfp,List.foldl_cons,List.filter_cons] at ih ⊢
  rw [ih]
  cases hp:p e with
  |false=>simp
  |true=>
   by_cases hk:key e=k
   ·simp only [hk,decide_true,Bool.and_self,if_true,zce]
    cases hl:(l.filter fun e=>p e && decide (key e=k)).getLast? with
    |none=>
     rw [List.getLast?_eq_none_iff] at hl
     simp [hl]
    |some y=>simp [List.getLast?_cons,hl]
   ·simp [hk,zce]
def ysk {α:Type} (p:α→Bool) (key:α→K) (m:List (K×Int)) (l:List α):List (K×Int):=l.foldl (fun m e=>if p e then zdw (key e) ((za9 (key e) m).getD 0+1) m else m) m
theorem zxv {α:Type} (p:α→Bool) (key:α→K) (k:K):∀(l:List α) (m:List (K×Int)),(za9 k (ysk p key m l)).getD 0=(za9 k m).getD 0+((l.filter fun e=>p e && decide (key e=k)).length:Int)
 | [],m=>by simp [ysk]
 |e::l,m=>by
  have ih:=zxv p key k l (if p e then zdw (key e) ((za9 (key e) m).getD 0+1) m else m)
  simp only [ysk,List.foldl_cons,List.filter_cons] at ih ⊢
  rw [ih]
  cases hp:p e with
  |false=>simp
  |true=>
   by_cases hk:key e=k
   ·simp only [hk,decide_true,Bool.and_self,if_true,zce,Option.getD_some,List.length_cons];omega
   ·simp [hk,zce]
end
end Go.Ab
namespace Go.H
open Go Go.Ab
def yfu (l:List Ev):List (Int×Bool):=zsb (fun e:Ev=>e.kind==1) Ev.t [] l
def yfl (l:List Ev):List (Int×Bool):=zsb (fun e:Ev=>e.kind==5||e.kind==6) Ev.t [] l
def kTO (e:Ev):Int×Int:=(e.t,e.o)
def kOV (e:Ev):Int×Int×Int:=(e.o,e.v.t,e.v.k)
def zyc (l:List Ev):List ((Int×Int)×Int):=ysk (fun e:Ev=>e.kind==2) kTO [] l
def yh3 (l:List Ev):List ((Int×Int)×Ver):=yfp (fun e:Ev=>e.kind==2) kTO Ev.v [] l
def yfj (l:List Ev):List ((Int×Int×Int)×Bool):=zsb (fun e:Ev=>e.kind==2) kOV [] l
theorem yi8 (l:List Ev) (t:Int):za9 t (yfu l)=if zhd l t then some true else none:=by
 rw [yfu,zgp,zhd,zft]
 congr 1
 have:(l.any fun e=>e.kind==1 && decide (e.t=t))=(l.any fun y=>y.t==t && y.kind==1):=by
  congr 1;funext e;rw [Bool.and_comm];rfl
 rw [this]
theorem yhe (l:List Ev) (t:Int):za9 t (yfl l)=if zot l t then some true else none:=by
 rw [yfl,zgp,zot]
 have:(l.any fun e=>(e.kind==5||e.kind==6) && decide (e.t=t))=(l.any fun y=>y.t==t && (y.kind==5||y.kind==6)):=by
  congr 1;funext e;rw [Bool.and_comm];rfl
 rw [this];rfl
theorem ykf (e:Ev) (t x:Int):decide (kTO e=(t,x))=(e.t==t && e.o==x):=by
 simp only [kTO,Prod.mk.injEq,Bool.decide_and];rfl
theorem zma (l:List Ev) (t x:Int):(za9 (t,x) (zyc l)).getD 0=((zcs l t x).length:Int):=by
 rw [zyc,zxv,zcs]
 simp only [ykf,za9,Option.getD_none,Int.zero_add,Bool.and_assoc]
theorem zmn (l:List Ev) (t x:Int):za9 (t,x) (yh3 l)=zvc l t x:=by
 rw [yh3,zmm,zvc,zcs]
 simp only [ykf,za9,Option.or_none,Bool.and_assoc]
theorem zwk (l:List Ev) (x:Int) (v:Ver):za9 (x,v.t,v.k) (yfj l)=if zfb l x v then some true else none:=by
 rw [yfj,zgp,zfb]
 have:(l.any fun e=>e.kind==2 && decide (kOV e=(x,v.t,v.k)))=(l.any fun y=>y.kind==2 && y.o==x && y.v==v):=by
  congr 1;funext e
  have:decide (kOV e=(x,v.t,v.k))=(e.o==x && e.v==v):=by
   obtain ⟨vt,vk⟩:=v
   obtain ⟨k,t,s,l,o,⟨et,ek⟩,p,sc⟩:=e
   rw [Bool.eq_iff_iff];simp [kOV]
  rw [this,Bool.and_assoc]
 rw [this];rfl
theorem zia (l:List Ev) (e:Ev):yfu (l++ [e])=if e.kind==1 then zdw e.t true (yfu l) else yfu l:=by simp [yfu,zsb]
theorem zhy (l:List Ev) (e:Ev):yfl (l++ [e])=if e.kind==5||e.kind==6 then zdw e.t true (yfl l) else yfl l:=by simp [yfl,zsb]
theorem zhk (l:List Ev) (e:Ev):zyc (l++ [e])=if e.kind==2 then zdw (kTO e) ((za9 (kTO e) (zyc l)).getD 0+1) (zyc l) else zyc l:=by simp [zyc,ysk]
theorem zh1 (l:List Ev) (e:Ev):yh3 (l++ [e])=if e.kind==2 then zdw (kTO e) e.v (yh3 l) else yh3 l:=by simp [yh3,yfp]
theorem zhn (l:List Ev) (e:Ev):yfj (l++ [e])=if e.kind==2 then zdw (kOV e) true (yfj l) else yfj l:=by simp [yfj,zsb]
theorem zhj (l:List Ev) (t x:Int):(zcs l t x).length≤l.length:=List.length_filter_le _ _
theorem zkw {e:Ev} (h:e.scan.length≤4611686018427387904):(u6 e).length≤4611686018427387904:=by
 unfold u6;split
 ·exact Nat.le_of_ble_eq_true rfl
 ·exact h
theorem yal (a b:Ver):(a==b)=(a.t==b.t && a.k==b.k):=by
 obtain ⟨a1,a2⟩:=a;obtain ⟨b1,b2⟩:=b
 rw [Bool.eq_iff_iff];simp
def zxa (l:List Seen):List (Int×Bool):=zsb (fun _:Seen=>true) Seen.o [] l
theorem zq3 (l:List Seen) (x:Int):za9 x (zxa l)=if l.any (fun s=>decide (s.o=x)) then some true else none:=by
 rw [zxa,zgp];simp only [Bool.true_and];rfl
theorem ycs {l:List Seen} {k:Nat} (hk:k < l.length):zxa (l.take (k+1))=zdw l[k].o true (zxa (l.take k)):=by
 rw [List.take_succ_eq_append_getElem hk,zxa,zsb,List.foldl_append];rfl
theorem yq8 {l:List Seen} {x:Int} (h:(za9 x (zxa l)).getD false=false):x ∉ l.map Seen.o:=by
 rw [zq3] at h
 intro hm
 obtain ⟨s,hs,rfl⟩:=List.mem_map.1 hm
 rw [if_pos (List.any_eq_true.2 ⟨s,hs,by simp⟩)] at h
 cases h
theorem yne {l:List Seen} {x:Int} (h:(za9 x (zxa l)).getD false=true):x∈l.map Seen.o:=by
 rw [zq3] at h
 split at h
 ·rename_i h'
  obtain ⟨s,hs,e⟩:=List.any_eq_true.1 h'
  exact List.mem_map.2 ⟨s,hs,by simpa using e⟩
 ·cases h
theorem yho {l:List Seen} {k:Nat} (hk:k < l.length) (hn:((l.take k).map Seen.o).Nodup) (hx:l[k].o ∉ (l.take k).map Seen.o):((l.take (k+1)).map Seen.o).Nodup:=by
 rw [List.take_succ_eq_append_getElem hk,List.map_append,List.nodup_append]
 refine ⟨hn,by simp,fun a ha b hb e=> ?_⟩
 simp only [List.map_cons,List.map_nil,List.mem_singleton] at hb
 subst hb;subst e;exact hx ha
theorem yct:∀(l:List Seen),(l.map Seen.o).Nodup→(zxa l).length=l.length:=by
 intro l
 have key:∀n,n≤l.length→(l.map Seen.o).Nodup→(zxa (l.take n)).length=n:=by
  intro n
  induction n with
  |zero=>intro _ _;rfl
  |succ n ih=>
   intro hn hd
   have hlt:n < l.length:=hn
   rw [ycs hlt,zux]
   have:za9 l[n].o (zxa (l.take n))=none:=by
    rw [zq3]
    refine if_neg fun h=> ?_
    obtain ⟨s,hs,e⟩:=List.any_eq_true.1 h
    obtain ⟨j,hj,rfl⟩:=List.mem_take_iff_getElem.1 hs
    have hjn:j < n:=by omega
    have:=List.pairwise_iff_getElem.1 hd j n (by simp;omega) (by simp;omega) hjn
    simp at this e
    exact this e
   rw [this];simp [ih (by omega) hd]
 intro hd
 have:=key l.length (Nat.le_refl _) hd
 rwa [List.take_length] at this
theorem yjw {l:List Seen} (hn:((l.take l.length).map Seen.o).Nodup):decide (((zxa (l.take l.length)).length:Int) < ((l.map zah).length:Nat))= !decide ((l.map Seen.o).Nodup):=by
 rw [List.take_length] at hn ⊢
 rw [yct l hn,oM,decide_eq_true hn];simp
theorem yjv {l:List Seen} {k:Nat} (hk:k < l.length) (hn:((l.take k).map Seen.o).Nodup) (hx:(za9 l[k].o (zxa (l.take k))).getD false=true):decide (((zxa (l.take k)).length:Int) < ((l.map zah).length:Nat))= !decide ((l.map Seen.o).Nodup):=by
 have h1:=yne hx
 rw [yct _ hn,List.length_take,oM]
 have:¬(l.map Seen.o).Nodup:=fun hd=>by
  obtain ⟨s,hs,e⟩:=List.mem_map.1 h1
  obtain ⟨j,hj,rfl⟩:=List.mem_take_iff_getElem.1 hs
  have hjk:j < k:=by omega
  have:=List.pairwise_iff_getElem.1 hd j k (by simp;omega) (by simpa using hk) hjk
  simp at this e
  exact this e
 rw [decide_eq_false this]
 simp;omega
theorem zd1 {α:Type} {w:Nat→α→Bool} {l:List α} {k:Nat} (hk:k < l.length) (hz:zdi w 0 l=zdi w k (l.drop k)) (hw:w k l[k]=false):zdi w 0 l=zdi w (k+1) (l.drop (k+1)):=by
 rw [hz,List.drop_eq_getElem_cons hk,zdi,hw];rfl
theorem zhr {α:Type} {w:Nat→α→Bool} {l:List α} {k:Nat} (hk:k < l.length) (hz:zdi w 0 l=zdi w k (l.drop k)) (hw:w k l[k]=true):zdi w 0 l=some k:=by
 rw [hz,List.drop_eq_getElem_cons hk,zdi,hw];rfl
theorem zj1 {α:Type} {w:Nat→α→Bool} {l:List α} {k:Nat} (hk:k=l.length) (hz:zdi w 0 l=zdi w k (l.drop k)):zdi w 0 l=none:=by
 rw [hz,hk,List.drop_length];rfl
end Go.H
