/-
  Theorems that the proofs of laws of this seat rest on.
  No condition.
-/
import Derived.Test.YtbgloceimmbliaaGreatED3
import Derived.Test.YtbgloceimmbliaaGreatProg
set_option maxHeartbeats 20000000
set_option linter.unusedVariables false
set_option linter.unusedSimpArgs false
section
set_option maxRecDepth 100000
namespace Tor
open Go Go.Proofs
instance:LayOf Tryz.prog 2 (.one):=⟨by kernel_rfl,by kernel_rfl⟩
instance:LayOf Tryz.prog 3 (.one):=⟨by kernel_rfl,by kernel_rfl⟩
instance:LayOf Tryz.prog 4 (.one):=⟨by kernel_rfl,by kernel_rfl⟩
instance:LayOf Tryz.prog 5 (.one):=⟨by kernel_rfl,by kernel_rfl⟩
instance:LayOf Tryz.prog 22 (.one):=⟨by kernel_rfl,by kernel_rfl⟩
instance:LayOf Tryz.prog 24 (.agg 3):=⟨by kernel_rfl,by kernel_rfl⟩
instance:LayOf Tryz.prog 25 (.one):=⟨by kernel_rfl,by kernel_rfl⟩
instance:LayOf Tryz.prog 28 (.one):=⟨by kernel_rfl,by kernel_rfl⟩
instance:LayOf Tryz.prog 30 (.agg 3):=⟨by kernel_rfl,by kernel_rfl⟩
instance:LayOf Tryz.prog 32 (.one):=⟨by kernel_rfl,by kernel_rfl⟩
instance:LayOf Tryz.prog 33 (.one):=⟨by kernel_rfl,by kernel_rfl⟩
instance:LayOf Tryz.prog 35 (.one):=⟨by kernel_rfl,by kernel_rfl⟩
instance:LayOf Tryz.prog 37 (.agg 2):=⟨by kernel_rfl,by kernel_rfl⟩
instance:LayOf Tryz.prog 39 (.one):=⟨by kernel_rfl,by kernel_rfl⟩
instance:LayOf Tryz.prog 43 (.one):=⟨by kernel_rfl,by kernel_rfl⟩
instance:LayOf Tryz.prog 44 (.one):=⟨by kernel_rfl,by kernel_rfl⟩
instance:LayOf Tryz.prog 58 (.agg 4):=⟨by kernel_rfl,by kernel_rfl⟩
instance:LayOf Tryz.prog 86 (.one):=⟨by kernel_rfl,by kernel_rfl⟩
instance:LayOf Tryz.prog 114 (.agg 4):=⟨by kernel_rfl,by kernel_rfl⟩
instance:LayOf Tryz.prog 115 (.one):=⟨by kernel_rfl,by kernel_rfl⟩
instance:LayOf Tryz.prog 128 (.one):=⟨by kernel_rfl,by kernel_rfl⟩
instance:LayOf Tryz.prog 137 (.agg 4):=⟨by kernel_rfl,by kernel_rfl⟩
instance:LayOf Tryz.prog 140 (.agg 4):=⟨by kernel_rfl,by kernel_rfl⟩
instance:LayOf Tryz.prog 169 (.agg 3):=⟨by kernel_rfl,by kernel_rfl⟩
instance:LayOf Tryz.prog 173 (.one):=⟨by kernel_rfl,by kernel_rfl⟩
instance:IntOf Tryz.prog 2 .i64:=⟨by kernel_rfl⟩
instance:IntOf Tryz.prog 3 .i64:=⟨by kernel_rfl⟩
instance:BoolOf Tryz.prog 4:=⟨by kernel_rfl⟩
instance:IntOf Tryz.prog 5 .u8:=⟨by kernel_rfl⟩
instance:SliceOf Tryz.prog 22 25:=⟨by kernel_rfl⟩
instance:FieldOf Tryz.prog 24 0 0 (.one):=FieldOf.by_info (ft:=5) inferInstance Z S
instance:FieldOf Tryz.prog 24 2 2 (.one):=FieldOf.by_info (ft:=22) inferInstance Z S
instance:IntOf Tryz.prog 25 .i8:=⟨by kernel_rfl⟩
instance:SliceOf Tryz.prog 28 32:=⟨by kernel_rfl⟩
instance:FieldOf Tryz.prog 30 0 0 (.one):=FieldOf.by_info (ft:=3) inferInstance Z S
instance:FieldOf Tryz.prog 30 1 1 (.one):=FieldOf.by_info (ft:=3) inferInstance Z S
instance:FieldOf Tryz.prog 30 2 2 (.one):=FieldOf.by_info (ft:=28) inferInstance Z S
instance:SliceOf Tryz.prog 32 37:=⟨by kernel_rfl⟩
instance:SliceOf Tryz.prog 33 37:=⟨by kernel_rfl⟩
instance:SliceOf Tryz.prog 35 86:=⟨by kernel_rfl⟩
instance:FieldOf Tryz.prog 37 0 0 (.one):=FieldOf.by_info (ft:=4) inferInstance Z S
instance:FieldOf Tryz.prog 37 1 1 (.one):=FieldOf.by_info (ft:=35) inferInstance Z S
instance:SliceOf Tryz.prog 39 58:=⟨by kernel_rfl⟩
instance:SliceOf Tryz.prog 43 33:=⟨by kernel_rfl⟩
instance:IntOf Tryz.prog 44 .u64:=⟨by kernel_rfl⟩
instance:FieldOf Tryz.prog 58 0 0 (.agg 2):=FieldOf.by_info (ft:=37) inferInstance Z S
instance:FieldOf Tryz.prog 58 1 2 (.agg 2):=FieldOf.by_info (ft:=37) inferInstance Z S
instance:SliceOf Tryz.prog 80 2:=⟨by kernel_rfl⟩
instance:IntOf Tryz.prog 86 .u32:=⟨by kernel_rfl⟩
instance:IntOf Tryz.prog 87 .u64:=⟨by kernel_rfl⟩
instance:FieldOf Tryz.prog 114 0 0 (.one):=FieldOf.by_info (ft:=28) inferInstance Z S
instance:FieldOf Tryz.prog 114 1 1 (.agg 2):=FieldOf.by_info (ft:=37) inferInstance Z S
instance:FieldOf Tryz.prog 114 2 3 (.one):=FieldOf.by_info (ft:=4) inferInstance Z S
instance:SliceOf Tryz.prog 115 3:=⟨by kernel_rfl⟩
instance:FieldOf Tryz.prog 117 0 0 (.agg 4):=FieldOf.by_info (ft:=114) inferInstance Z S
instance:FieldOf Tryz.prog 117 1 4 (.one):=FieldOf.by_info (ft:=115) inferInstance Z S
instance:ArrayOf Tryz.prog 120 2 30:=⟨by kernel_rfl⟩
instance:SliceOf Tryz.prog 128 173:=⟨by kernel_rfl⟩
instance:FieldOf Tryz.prog 137 0 0 (.agg 2):=FieldOf.by_info (ft:=37) inferInstance Z S
instance:FieldOf Tryz.prog 137 1 2 (.agg 2):=FieldOf.by_info (ft:=37) inferInstance Z S
instance:SliceOf Tryz.prog 143 39:=⟨by kernel_rfl⟩
instance:SliceOf Tryz.prog 159 30:=⟨by kernel_rfl⟩
instance:FieldOf Tryz.prog 169 0 0 (.one):=FieldOf.by_info (ft:=44) inferInstance Z S
instance:FieldOf Tryz.prog 169 1 1 (.one):=FieldOf.by_info (ft:=3) inferInstance Z S
instance:FieldOf Tryz.prog 169 2 2 (.one):=FieldOf.by_info (ft:=128) inferInstance Z S
instance:SliceOf Tryz.prog 173 44:=⟨by kernel_rfl⟩
instance:FieldOf Tryz.prog 180 0 0 (.agg 2):=FieldOf.by_info (ft:=37) inferInstance Z S
instance:FieldOf Tryz.prog 180 1 2 (.agg 2):=FieldOf.by_info (ft:=37) inferInstance Z S
instance:ArrayOf Tryz.prog 207 4 44:=⟨by kernel_rfl⟩
instance:ZeroOf Tryz.prog 2 (.int .i64 0) 8:=⟨by kernel_rfl⟩
instance:ZeroOf Tryz.prog 3 (.int .i64 0) 8:=⟨by kernel_rfl⟩
instance zf29:Flat (one (.agg #[.int .i64 0, .int .i64 0, .slice none 0 0])) (.agg 3):=ju S Z
instance:ZeroOf Tryz.prog 30 (.agg #[.int .i64 0, .int .i64 0, .slice none 0 0]) 40:=⟨by kernel_rfl⟩
instance:ZeroOf Tryz.prog 32 (.slice none 0 0) 24:=⟨by kernel_rfl⟩
instance:ZeroOf Tryz.prog 33 (.slice none 0 0) 24:=⟨by kernel_rfl⟩
instance zf36:Flat (one (.agg #[.bool false, .slice none 0 0])) (.agg 2):=ju S Z
instance:ZeroOf Tryz.prog 37 (.agg #[.bool false, .slice none 0 0]) 32:=⟨by kernel_rfl⟩
instance:ZeroOf Tryz.prog 39 (.slice none 0 0) 24:=⟨by kernel_rfl⟩
instance:ZeroOf Tryz.prog 43 (.slice none 0 0) 24:=⟨by kernel_rfl⟩
instance:ZeroOf Tryz.prog 44 (.int .u64 0) 8:=⟨by kernel_rfl⟩
instance zf57:Flat (one (.agg #[.bool false, .slice none 0 0, .bool false, .slice none 0 0])) (.agg 4):=ju S Z
instance:ZeroOf Tryz.prog 58 (.agg #[.bool false, .slice none 0 0, .bool false, .slice none 0 0]) 64:=⟨by kernel_rfl⟩
instance:ZeroOf Tryz.prog 86 (.int .u32 0) 4:=⟨by kernel_rfl⟩
instance:ZeroOf Tryz.prog 114 (.agg #[.slice none 0 0, .bool false, .slice none 0 0, .bool false]) 64:=⟨by kernel_rfl⟩
instance:ZeroOf Tryz.prog 117 (.agg #[.slice none 0 0, .bool false, .slice none 0 0, .bool false, .slice none 0 0]) 88:=⟨by kernel_rfl⟩
instance:ZeroOf Tryz.prog 120 (.agg #[.int .i64 0, .int .i64 0, .slice none 0 0, .int .i64 0, .int .i64 0, .slice none 0 0]) 80:=⟨by kernel_rfl⟩
instance:ZeroOf Tryz.prog 137 (.agg #[.bool false, .slice none 0 0, .bool false, .slice none 0 0]) 64:=⟨by kernel_rfl⟩
instance zf139:Flat (one (.agg #[.bool false, .bool false, .bool false, .bool false])) (.agg 4):=ju S Z
instance:ZeroOf Tryz.prog 140 (.agg #[.bool false, .bool false, .bool false, .bool false]) 4:=⟨by kernel_rfl⟩
instance zf168:Flat (one (.agg #[.int .u64 0, .int .i64 0, .slice none 0 0])) (.agg 3):=ju S Z
instance:ZeroOf Tryz.prog 169 (.agg #[.int .u64 0, .int .i64 0, .slice none 0 0]) 40:=⟨by kernel_rfl⟩
instance:ZeroOf Tryz.prog 173 (.slice none 0 0) 24:=⟨by kernel_rfl⟩
instance:ZeroOf Tryz.prog 180 (.agg #[.bool false, .slice none 0 0, .bool false, .slice none 0 0]) 64:=⟨by kernel_rfl⟩
instance:ZeroOf Tryz.prog 207 (.agg #[.int .u64 0, .int .u64 0, .int .u64 0, .int .u64 0]) 32:=⟨by kernel_rfl⟩
instance:BuildOf Tryz.prog 30 3 #[.int .i64 0, .int .i64 0, .slice none 0 0] [(0, .one),(1, .one),(2, .one)]:=BuildOf.by_struct (by':=40) inferInstance Y Z Z
instance:BuildOf Tryz.prog 37 2 #[.bool false, .slice none 0 0] [(0, .one),(1, .one)]:=BuildOf.by_struct (by':=32) inferInstance Y Z Z
instance:BuildOf Tryz.prog 58 4 #[.bool false, .slice none 0 0, .bool false, .slice none 0 0] [(0, .agg 2),(2, .agg 2)]:=BuildOf.by_struct (by':=64) inferInstance Y Z Z
instance:BuildOf Tryz.prog 114 4 #[.slice none 0 0, .bool false, .slice none 0 0, .bool false] [(0, .one),(1, .agg 2),(3, .one)]:=BuildOf.by_struct (by':=64) inferInstance Y Z Z
instance:BuildOf Tryz.prog 117 5 #[.slice none 0 0, .bool false, .slice none 0 0, .bool false, .slice none 0 0] [(0, .agg 4),(4, .one)]:=BuildOf.by_struct (by':=88) inferInstance Y Z Z
instance:BuildOf Tryz.prog 120 6 #[.int .i64 0, .int .i64 0, .slice none 0 0, .int .i64 0, .int .i64 0, .slice none 0 0] [(0, .agg 3),(3, .agg 3)]:=BuildOf.by_array (by':=80) (n:=2) (e:=30) (L := .agg 3) inferInstance inferInstance inferInstance Y Z Y S
instance:BuildOf Tryz.prog 137 4 #[.bool false, .slice none 0 0, .bool false, .slice none 0 0] [(0, .agg 2),(2, .agg 2)]:=BuildOf.by_struct (by':=64) inferInstance Y Z Z
instance:BuildOf Tryz.prog 140 4 #[.bool false, .bool false, .bool false, .bool false] [(0, .one),(1, .one),(2, .one),(3, .one)]:=BuildOf.by_struct (by':=4) inferInstance Y Z Z
instance:BuildOf Tryz.prog 169 3 #[.int .u64 0, .int .i64 0, .slice none 0 0] [(0, .one),(1, .one),(2, .one)]:=BuildOf.by_struct (by':=40) inferInstance Y Z Z
instance:BuildOf Tryz.prog 180 4 #[.bool false, .slice none 0 0, .bool false, .slice none 0 0] [(0, .agg 2),(2, .agg 2)]:=BuildOf.by_struct (by':=64) inferInstance Y Z Z
instance:BuildOf Tryz.prog 207 4 #[.int .u64 0, .int .u64 0, .int .u64 0, .int .u64 0] [(0, .one),(1, .one),(2, .one),(3, .one)]:=BuildOf.by_array (by':=32) (n:=4) (e:=44) (L := .one) inferInstance inferInstance inferInstance Y Z Y S
instance:Fn Tryz.prog 8:=Fn.of Tryz.func8 U Y
instance:Fn Tryz.prog 9:=Fn.of Tryz.func9 U Y
instance:Fn Tryz.prog 11:=Fn.of Tryz.func11 U Y
instance:Fn Tryz.prog 12:=Fn.of Tryz.func12 U Y
instance:Fn Tryz.prog 13:=Fn.of Tryz.func13 U Y
instance:Fn Tryz.prog 15:=Fn.of Tryz.func15 U Y
instance:Fn Tryz.prog 17:=Fn.of Tryz.func17 U Y
instance:Fn Tryz.prog 18:=Fn.of Tryz.func18 U Y
instance:Fn Tryz.prog 20:=Fn.of Tryz.func20 U Y
instance:Fn Tryz.prog 21:=Fn.of Tryz.func21 U Y
instance:Fn Tryz.prog 24:=Fn.of Tryz.func24 U Y
instance:Fn Tryz.prog 26:=Fn.of Tryz.func26 U Y
instance:Fn Tryz.prog 27:=Fn.of Tryz.func27 U Y
instance:Fn Tryz.prog 28:=Fn.of Tryz.func28 U Y
instance:Fn Tryz.prog 29:=Fn.of Tryz.func29 U Y
instance:Fn Tryz.prog 30:=Fn.of Tryz.func30 U Y
instance:Fn Tryz.prog 31:=Fn.of Tryz.func31 U Y
instance:Fn Tryz.prog 32:=Fn.of Tryz.func32 U Y
instance:Fn Tryz.prog 33:=Fn.of Tryz.func33 U Y
instance:Fn Tryz.prog 34:=Fn.of Tryz.func34 U Y
instance:Fn Tryz.prog 35:=Fn.of Tryz.func35 U Y
instance:Fn Tryz.prog 36:=Fn.of Tryz.func36 U Y
instance:Fn Tryz.prog 39:=Fn.of Tryz.func39 U Y
instance:Fn Tryz.prog 40:=Fn.of Tryz.func40 U Y
instance:Fn Tryz.prog 41:=Fn.of Tryz.func41 U Y
instance:Fn Tryz.prog 42:=Fn.of Tryz.func42 U Y
instance:Fn Tryz.prog 43:=Fn.of Tryz.func43 U Y
instance:Fn Tryz.prog 44:=Fn.of Tryz.func44 U Y
instance:Fn Tryz.prog 45:=Fn.of Tryz.func45 U Y
instance:Fn Tryz.prog 46:=Fn.of Tryz.func46 U Y
instance:Fn Tryz.prog 47:=Fn.of Tryz.func47 U Y
instance:Fn Tryz.prog 48:=Fn.of Tryz.func48 U Y
instance:Fn Tryz.prog 49:=Fn.of Tryz.func49 U Y
instance:Fn Tryz.prog 50:=Fn.of Tryz.func50 U Y
instance:Fn Tryz.prog 51:=Fn.of Tryz.func51 U Y
instance:Fn Tryz.prog 52:=Fn.of Tryz.func52 U Y
instance:Fn Tryz.prog 53:=Fn.of Tryz.func53 U Y
instance:Fn Tryz.prog 54:=Fn.of Tryz.func54 U Y
instance:Fn Tryz.prog 55:=Fn.of Tryz.func55 U Y
instance:Fn Tryz.prog 56:=Fn.of Tryz.func56 U Y
instance:Fn Tryz.prog 57:=Fn.of Tryz.func57 U Y
instance:Fn Tryz.prog 58:=Fn.of Tryz.func58 U Y
instance:Fn Tryz.prog 59:=Fn.of Tryz.func59 U Y
instance:Fn Tryz.prog 60:=Fn.of Tryz.func60 U Y
instance:Fn Tryz.prog 64:=Fn.of Tryz.func64 U Y
instance:Fn Tryz.prog 65:=Fn.of Tryz.func65 U Y
instance:Fn Tryz.prog 66:=Fn.of Tryz.func66 U Y
instance:Fn Tryz.prog 68:=Fn.of Tryz.func68 U Y
instance:Fn Tryz.prog 69:=Fn.of Tryz.func69 U Y
instance:Fn Tryz.prog 70:=Fn.of Tryz.func70 U Y
instance:Fn Tryz.prog 71:=Fn.of Tryz.func71 U Y
instance:Fn Tryz.prog 72:=Fn.of Tryz.func72 U Y
instance:Fn Tryz.prog 73:=Fn.of Tryz.func73 U Y
instance:Fn Tryz.prog 74:=Fn.of Tryz.func74 U Y
instance:Fn Tryz.prog 75:=Fn.of Tryz.func75 U Y
instance:Fn Tryz.prog 76:=Fn.of Tryz.func76 U Y
instance:Fn Tryz.prog 77:=Fn.of Tryz.func77 U Y
instance:Fn Tryz.prog 78:=Fn.of Tryz.func78 U Y
instance:Fn Tryz.prog 79:=Fn.of Tryz.func79 U Y
instance:Fn Tryz.prog 80:=Fn.of Tryz.func80 U Y
instance:Fn Tryz.prog 81:=Fn.of Tryz.func81 U Y
instance:Fn Tryz.prog 82:=Fn.of Tryz.func82 U Y
instance:Fn Tryz.prog 83:=Fn.of Tryz.func83 U Y
instance:Fn Tryz.prog 84:=Fn.of Tryz.func84 U Y
instance:Fn Tryz.prog 85:=Fn.of Tryz.func85 U Y
instance:Fn Tryz.prog 86:=Fn.of Tryz.func86 U Y
instance:Fn Tryz.prog 87:=Fn.of Tryz.func87 U Y
instance:Fn Tryz.prog 88:=Fn.of Tryz.func88 U Y
instance:Fn Tryz.prog 89:=Fn.of Tryz.func89 U Y
instance:Fn Tryz.prog 90:=Fn.of Tryz.func90 U Y
instance:Fn Tryz.prog 91:=Fn.of Tryz.func91 U Y
instance:Fn Tryz.prog 92:=Fn.of Tryz.func92 U Y
instance:Fn Tryz.prog 93:=Fn.of Tryz.func93 U Y
instance:Fn Tryz.prog 94:=Fn.of Tryz.func94 U Y
instance:Fn Tryz.prog 95:=Fn.of Tryz.func95 U Y
instance:Fn Tryz.prog 96:=Fn.of Tryz.func96 U Y
instance:Fn Tryz.prog 97:=Fn.of Tryz.func97 U Y
instance:Fn Tryz.prog 98:=Fn.of Tryz.func98 U Y
instance:Fn Tryz.prog 99:=Fn.of Tryz.func99 U Y
instance:Fn Tryz.prog 100:=Fn.of Tryz.func100 U Y
instance:Fn Tryz.prog 101:=Fn.of Tryz.func101 U Y
instance:Fn Tryz.prog 102:=Fn.of Tryz.func102 U Y
instance:Fn Tryz.prog 103:=Fn.of Tryz.func103 U Y
instance:Fn Tryz.prog 104:=Fn.of Tryz.func104 U Y
instance:Fn Tryz.prog 105:=Fn.of Tryz.func105 U Y
instance:Fn Tryz.prog 111:=Fn.of Tryz.func111 U Y
instance:Fn Tryz.prog 115:=Fn.of Tryz.func115 U Y
instance:Fn Tryz.prog 116:=Fn.of Tryz.func116 U Y
instance:Fn Tryz.prog 117:=Fn.of Tryz.func117 U Y
instance:Fn Tryz.prog 118:=Fn.of Tryz.func118 U Y
instance:Fn Tryz.prog 119:=Fn.of Tryz.func119 U Y
instance:Fn Tryz.prog 120:=Fn.of Tryz.func120 U Y
instance:Fn Tryz.prog 121:=Fn.of Tryz.func121 U Y
instance:Fn Tryz.prog 122:=Fn.of Tryz.func122 U Y
instance:Fn Tryz.prog 123:=Fn.of Tryz.func123 U Y
instance:Fn Tryz.prog 124:=Fn.of Tryz.func124 U Y
instance:Fn Tryz.prog 125:=Fn.of Tryz.func125 U Y
instance:Fn Tryz.prog 126:=Fn.of Tryz.func126 U Y
instance:Fn Tryz.prog 127:=Fn.of Tryz.func127 U Y
instance:Fn Tryz.prog 128:=Fn.of Tryz.func128 U Y
instance:Fn Tryz.prog 129:=Fn.of Tryz.func129 U Y
instance:Fn Tryz.prog 130:=Fn.of Tryz.func130 U Y
instance:Fn Tryz.prog 131:=Fn.of Tryz.func131 U Y
instance:Fn Tryz.prog 132:=Fn.of Tryz.func132 U Y
instance:Fn Tryz.prog 133:=Fn.of Tryz.func133 U Y
instance:Fn Tryz.prog 134:=Fn.of Tryz.func134 U Y
instance:Fn Tryz.prog 135:=Fn.of Tryz.func135 U Y
instance:Fn Tryz.prog 136:=Fn.of Tryz.func136 U Y
instance:Fn Tryz.prog 137:=Fn.of Tryz.func137 U Y
instance:Fn Tryz.prog 138:=Fn.of Tryz.func138 U Y
instance:Fn Tryz.prog 139:=Fn.of Tryz.func139 U Y
instance:Fn Tryz.prog 140:=Fn.of Tryz.func140 U Y
instance:Fn Tryz.prog 141:=Fn.of Tryz.func141 U Y
instance:Fn Tryz.prog 142:=Fn.of Tryz.func142 U Y
instance:Fn Tryz.prog 143:=Fn.of Tryz.func143 U Y
instance:Fn Tryz.prog 144:=Fn.of Tryz.func144 U Y
instance:Fn Tryz.prog 145:=Fn.of Tryz.func145 U Y
instance:Fn Tryz.prog 146:=Fn.of Tryz.func146 U Y
instance:Fn Tryz.prog 147:=Fn.of Tryz.func147 U Y
instance:Fn Tryz.prog 148:=Fn.of Tryz.func148 U Y
instance:Fn Tryz.prog 149:=Fn.of Tryz.func149 U Y
instance:Fn Tryz.prog 152:=Fn.of Tryz.func152 U Y
instance:Fn Tryz.prog 153:=Fn.of Tryz.func153 U Y
instance:Fn Tryz.prog 154:=Fn.of Tryz.func154 U Y
instance:Fn Tryz.prog 155:=Fn.of Tryz.func155 U Y
instance:Fn Tryz.prog 156:=Fn.of Tryz.func156 U Y
instance:Fn Tryz.prog 157:=Fn.of Tryz.func157 U Y
instance:Fn Tryz.prog 158:=Fn.of Tryz.func158 U Y
instance:Fn Tryz.prog 159:=Fn.of Tryz.func159 U Y
instance:Fn Tryz.prog 160:=Fn.of Tryz.func160 U Y
instance:Fn Tryz.prog 161:=Fn.of Tryz.func161 U Y
instance:Fn Tryz.prog 162:=Fn.of Tryz.func162 U Y
instance:Fn Tryz.prog 163:=Fn.of Tryz.func163 U Y
instance:Fn Tryz.prog 164:=Fn.of Tryz.func164 U Y
instance:Fn Tryz.prog 165:=Fn.of Tryz.func165 U Y
instance:Fn Tryz.prog 166:=Fn.of Tryz.func166 U Y
instance:Fn Tryz.prog 167:=Fn.of Tryz.func167 U Y
instance:Fn Tryz.prog 168:=Fn.of Tryz.func168 U Y
instance:Fn Tryz.prog 169:=Fn.of Tryz.func169 U Y
instance:Fn Tryz.prog 177:=Fn.of Tryz.func177 U Y
instance:Fn Tryz.prog 178:=Fn.of Tryz.func178 U Y
instance:Fn Tryz.prog 179:=Fn.of Tryz.func179 U Y
instance:Fn Tryz.prog 180:=Fn.of Tryz.func180 U Y
instance:Fn Tryz.prog 181:=Fn.of Tryz.func181 U Y
instance:Fn Tryz.prog 182:=Fn.of Tryz.func182 U Y
instance:Fn Tryz.prog 183:=Fn.of Tryz.func183 U Y
instance:Fn Tryz.prog 184:=Fn.of Tryz.func184 U Y
instance:Fn Tryz.prog 185:=Fn.of Tryz.func185 U Y
instance:Fn Tryz.prog 191:=Fn.of Tryz.func191 U Y
instance:Fn Tryz.prog 192:=Fn.of Tryz.func192 U Y
instance:Fn Tryz.prog 194:=Fn.of Tryz.func194 U Y
theorem a4:Tryz.prog.follows .mixedOrders=true:=by kernel_rfl
end Tor
end
section
namespace Tor
def lv:List Nat→Nat
 | [] => 0
 | d :: l => d + 4294967296 * lv l
def bF (l:List Nat):Prop := ∀ d∈l,d<4294967296
def gy:List Nat→Prop
 | [] => True
 | [d] => d ≠ 0
 | _ :: d :: l => gy (d :: l)
def mW:Nat→Nat→List Nat
 | 0, _ => []
 | f + 1, n => if n = 0 then [] else n % 4294967296 :: mW f (n / 4294967296)
def aK (n:Nat):List Nat:=mW n n
theorem r7 : ∀ (f n:Nat),n≤f → ∀ g,n≤g→mW f n=mW g n
 | 0, n, h, g, hg => by
  have:n=0:=by omega
  subst this;cases g <;> simp [mW]
 | f + 1, n, h, 0, hg => by
  have:n=0:=by omega
  subst this;simp [mW]
 | f + 1, n, h, g + 1, hg => by
  simp only [mW]
  split
  ·rfl
  ·rw [r7 f (n / 4294967296) X g X]
theorem iL:aK 0 = []:=rfl
theorem gU {n:Nat} (h:n≠0):aK n=n % 4294967296 :: aK (n / 4294967296):=by
 unfold aK
 obtain ⟨m,rfl⟩ : ∃ m,n=m+1:=⟨n - 1,by omega⟩
 rw [mW,if_neg h,r7 m _ X ((m+1) / 4294967296) (Nat.le_refl _)]
theorem bY (n:Nat):lv (aK n)=n:=by
 induction n using Nat.strongRecOn with
 | _ n ih =>
  by_cases h:n=0
  ·subst h;rfl
  ·rw [gU h,lv,ih _ X]; omega
theorem a6 (n:Nat):bF (aK n):=by
 induction n using Nat.strongRecOn with
 | _ n ih =>
  by_cases h:n=0
  ·subst h;intro d hd;cases hd
  ·rw [gU h]; intro d hd
   rcases List.mem_cons.1 hd with rfl | hd
   ·omega
   ·exact ih _ X d hd
theorem bF.tail {d:Nat} {l:List Nat} (h:bF (d :: l)):bF l:=fun x hx=>h x (List.mem_cons_of_mem _ hx)
theorem bF.head {d:Nat} {l:List Nat} (h:bF (d :: l)):d<4294967296:=h d List.mem_cons_self
theorem yq : ∀ {l:List Nat},l ≠ []→gy l→0<lv l
 | [], h, _ => absurd Y h
 | [d], _, h => by have h : d ≠ 0 := h; simp only [lv]; omega
 | d :: e :: l, _, h => by have := yq (l := e :: l) (by simp) h; simp only [lv] at *; omega
theorem gy.tail {d:Nat} : ∀ {l:List Nat},gy (d :: l)→gy l
 | [], _ => trivial
 | _ :: _, h => h
theorem vh : ∀ {l:List Nat},bF l→gy l→aK (lv l)=l
 | [], _, _ => rfl
 | d :: l, hl, ht => by
  have h0:lv (d :: l)≠0:=by have:=yq (l:=d :: l) (by simp) ht;omega
  have hd:=hl.head
  rw [gU h0]
  simp only [lv]
  rw [show (d+4294967296*lv l) % 4294967296=d by omega,show (d+4294967296*lv l) / 4294967296=lv l by omega,vh hl.tail ht.tail]
theorem lH (n:Nat):gy (aK n):=by
 induction n using Nat.strongRecOn with
 | _ n ih =>
  by_cases h:n=0
  ·subst h;trivial
  ·rw [gU h]
   have:=ih (n / 4294967296) X
   by_cases h2:n / 4294967296=0
   ·rw [h2,iL]; show n % 4294967296≠0;omega
   ·rw [gU h2] at this ⊢; exact this
theorem fM (l m:List Nat):lv (l ++ m)=lv l+4294967296^l.length*lv m:=by
 induction l with
 | nil => simp [lv]
 | cons d l ih =>
  simp only [List.cons_append,lv,ih,List.length_cons,Nat.pow_succ,Nat.mul_add]
  have:4294967296*(4294967296^l.length*lv m)=4294967296^l.length*4294967296*lv m:=by
   rw [← Nat.mul_assoc,Nat.mul_comm 4294967296]
  omega
theorem gV : ∀ {l:List Nat},bF l→lv l<4294967296^l.length
 | [], _ => by simp [lv]
 | d :: l, h => by
  have:=gV h.tail
  have hd:=h.head
  simp only [lv,List.length_cons,Nat.pow_succ]
  have h2:lv l+1≤4294967296^l.length:=this
  have:=Nat.mul_le_mul_right 4294967296 h2
  omega
theorem n8 {l:List Nat} {k:Nat} (h:k<l.length):l.take (k+1)=l.take k ++ [l.getD k 0]:=by
 rw [List.take_add_one]; simp [List.getD,h]
theorem bM {l:List Nat} {k:Nat} (h:k<l.length):lv (l.take (k+1))=lv (l.take k)+4294967296^k*l.getD k 0:=by
 rw [n8 h,fM,List.length_take_of_le X]; simp [lv]
theorem a9 {l:List Nat} (h:bF l) (k:Nat):l.getD k 0<4294967296:=by
 by_cases hk:k<l.length
 ·have:l.getD k 0=l[k]:=by simp [List.getD,hk]
  rw [this]; exact h _ (List.getElem_mem hk)
 ·have:l.getD k 0=0:=by simp [List.getD,List.getElem?_eq_none (Nat.le_of_not_lt hk)]
  omega
theorem j6 (l:List Nat) (x q:Nat):(l ++ [x]).getD q 0=if q=l.length then x else l.getD q 0:=by
 simp only [List.getD,List.getElem?_append]
 by_cases h:q<l.length
 ·rw [if_pos h,if_neg X]
 ·rw [if_neg h]
  by_cases h2:q=l.length
  ·subst h2;simp
  ·rw [if_neg h2,List.getElem?_eq_none (by simp;omega),List.getElem?_eq_none X]
theorem bF.take {l:List Nat} (h:bF l) (k:Nat):bF (l.take k):=fun d hd=>h d (List.mem_of_mem_take hd)
def gW (l:List Nat):Nat→Nat
 | 0 => 0
 | n + 1 => if l.getD n 0 = 0 then gW l n else n + 1
theorem qK {l:List Nat} : ∀ {n:Nat},n<l.length→l.getD n 0≠0→gy (l.take (n+1)):=by
  induction l with
  | nil => intro n h; simp at h
  | cons d l ih =>
    intro n h h0
    cases n with
    | zero => simp at h0 ⊢; exact h0
    | succ n =>
      have:=ih (n:=n) (by simpa using h) (by simpa using h0)
      rw [List.take_succ_cons]
      cases hl:l.take (n+1) with
      | nil => rw [List.take_eq_nil_iff] at hl; rcases hl with hl | hl
               · omega
               · subst hl;simp at h
      | cons e r => rw [hl] at this; exact this
theorem pF {l:List Nat} (hl:bF l) : ∀ {n:Nat},n≤l.length→lv l=lv (l.take n)→l.take (gW l n)=aK (lv l)
 | 0, _, h => by rw [gW, h]; simp [lv, iL]
 | n + 1, hn, h => by
  rw [gW]
  split
  ·rename_i h0
   refine pF hl X ?_
   rw [h,bM X,h0]; simp
  ·rename_i h0
   rw [h]
   exact (vh (hl.take _) (qK X h0)).symm
theorem n9 {l:List Nat} (hl:bF l):l.take (gW l l.length)=aK (lv l):=pF hl (Nat.le_refl _) (by rw [List.take_length])
theorem cF : ∀ {k n:Nat},n<4294967296^k→(aK n).length≤k
  | 0, n, h => by have : n = 0 := by simpa using h
                  subst this;simp [iL]
  | k + 1, n, h => by
    by_cases h0:n=0
    · subst h0;simp [iL]
    · rw [gU h0,List.length_cons]
      have:n / 4294967296<4294967296^k:=by
        rw [Nat.pow_succ] at h
        exact Nat.div_lt_of_lt_mul (by rw [Nat.mul_comm]; exact h)
      have:=cF this
      omega
theorem cY (n:Nat):n<4294967296^(aK n).length:=by
 have:=gV (a6 n);rwa [bY] at this
theorem r8 {a b:Nat} (h:aK a=aK b):a=b:=by rw [← bY a, ← bY b,h]
theorem gg (l:List Nat) (k:Nat) (hk:k≤l.length):lv l=lv (l.take k)+4294967296^k*lv (l.drop k):=by
 have h:=fM (l.take k) (l.drop k)
 rwa [List.take_append_drop,List.length_take_of_le hk] at h
theorem fN {l:List Nat} {k:Nat} (h:k<l.length):l.drop k=l.getD k 0 :: l.drop (k+1):=by
 rw [List.drop_eq_getElem_cons h]; simp [List.getD,h]
theorem qL {l m:List Nat} (hl:bF l) (hm:bF m) (hn:l.length=m.length) {i:Nat} (hi:i<l.length) (hd:l.drop (i+1)=m.drop (i+1)) (hlt:l.getD i 0<m.getD i 0):lv l<lv m:=by
 have e1:=fN hi
 have e2:=fN (hn▸hi:i<m.length)
 rw [gg l i X,gg m i X,e1,e2,hd]
 simp only [lv]
 have h1:=gV (hl.take i)
 rw [List.length_take_of_le X] at h1
 generalize 4294967296^i=B at *
 generalize lv (m.drop (i+1))=t
 have h2:B*(l.getD i 0+4294967296*t)+B≤B*(m.getD i 0+4294967296*t):=by
  rw [← Nat.mul_succ]; exact Nat.mul_le_mul_left B X
 omega
theorem iD {a b:Nat} (h:(aK a).length<(aK b).length):a<b:=by
 rcases Nat.lt_or_ge a b with h' | h'
 ·exact h'
 ·have h1:b<4294967296^(aK a).length:=Nat.lt_of_le_of_lt h' (cY a)
  have:=cF h1;omega
theorem cd {a b:Nat} (h:a≤b):(aK a).length≤(aK b).length:=cF (Nat.lt_of_le_of_lt h (cY b))
def cV (a b:Int):Int:=if a<b then -1 else if b<a then 1 else 0
def mq (a b:Nat):Int:=if a<b then -1 else if b<a then 1 else 0
theorem d5 {l:List Nat} {k v q:Nat} (h:k<l.length):(l.set k v).getD q 0=if q=k then v else l.getD q 0:=by
 simp only [List.getD,List.getElem?_set]
 by_cases e:k=q
 ·subst e;simp [h]
 ·rw [if_neg e,if_neg (fun h=>e h.symm)]
theorem fO {l:List Nat} : ∀ {k v:Nat},k<l.length→lv (l.set k v)+4294967296^k*l.getD k 0=lv l+4294967296^k*v:=by
 induction l with
 | nil => intro k v h; simp at h
 | cons d l ih =>
  intro k v h
  cases k with
  | zero => simp [lv]; omega
  | succ k =>
   have:=ih (k:=k) (v:=v) (by simpa using h)
   simp only [List.set_cons_succ,lv,List.getD_cons_succ,Nat.pow_succ]
   have e1:4294967296^k*4294967296*l.getD k 0=4294967296*(4294967296^k*l.getD k 0):=by rw [Nat.mul_comm (4294967296^k),Nat.mul_assoc]
   have e2:4294967296^k*4294967296*v=4294967296*(4294967296^k*v):=by rw [Nat.mul_comm (4294967296^k),Nat.mul_assoc]
   rw [e1,e2]; omega
theorem bF.set {l:List Nat} (h:bF l) {k v:Nat} (hv:v<4294967296):bF (l.set k v):=fun d hd=>by
 rcases List.mem_or_eq_of_mem_set hd with h' | h'
 ·exact h d h'
 ·omega
theorem lI {a b c d:Nat} (ha:a<4294967296) (hb:b<4294967296) (hc:c<4294967296) (hd:d<4294967296):d+(a*b+c)<18446744073709551616∧a*b<18446744073709551616∧a*b+c<18446744073709551616:=by
 have:a*b≤4294967295*4294967295:=Nat.mul_le_mul X X
 omega
end Tor
end
section
namespace Tor
open Go Go.RowKit Go.Proofs
abbrev co (l:List Nat):VT:=slT .one l.length (fun i=>one (.int .u32 (l.getD i 0)))
def lJ (v:Nat):VT:=exT fun l:List Nat=>bZ (bF l∧lv l=v) (co l)
def oY (v:Nat):VT:=exT fun l:List Nat=>bZ (bF l∧lv l=v∧l.length≤4398046511104) (co l)
def aL (x:Int):VT:=bC 2 [(0, .one,one (.bool (decide (x<0)))),(1, .one,co (aK x.natAbs))]
instance {x:Int} : Flat (aL x) (.agg 2):=by unfold aL;infer_instance
theorem iq {l:List Nat} {v:Nat} (h:bF l) (hv:lv l=v) (hl:l.length≤4398046511104):VT.le (co l) (oY v):=nI l (lc ⟨h,hv,hl⟩ H)
theorem fv {l:List Nat} {v:Nat} (h:bF l) (hv:lv l=v):VT.le (co l) (lJ v):=nI l (lc ⟨h,hv⟩ H)
theorem cz (n:Nat):VT.le (co (aK n)) (lJ n):=fv (a6 n) (bY n)
theorem lK {l l':List Nat} (h:l=l'):VT.le (co l) (co l'):=h▸VT.le_refl _
theorem AB {neg:Bool} {v:Nat} (h:v≠0):VT.le (bC 2 [(0, .one,one (.bool neg)),(1, .one,co (aK v))]) (aL (if neg then -(v:Int) else v)):=by
 refine eW (fun q hq => ?_)
 simp only [List.mem_cons,List.not_mem_nil,or_false] at hq
 rcases hq with rfl | rfl
 ·have e:decide ((if neg then -(v:Int) else v)<0)=neg:=by cases neg <;> simp <;> omega
  exact ⟨_,List.mem_cons_self,gN (by rw [e])⟩
 ·refine ⟨_,List.mem_cons_of_mem _ List.mem_cons_self,lK ?_⟩
  cases neg <;> simp
theorem iM:VT.le (bC 2 [(0, .one,one (.bool false)),(1, .one,one (.slice none 0 0))]) (aL 0):=by
 refine eW (fun q hq => ?_)
 simp only [List.mem_cons,List.not_mem_nil,or_false] at hq
 rcases hq with rfl | rfl
 ·exact ⟨_,List.mem_cons_self,gN (by simp)⟩
 ·exact ⟨_,List.mem_cons_of_mem _ List.mem_cons_self,eX⟩
theorem cf {x y:Int} (h:x=y):VT.le (aL x) (aL y):=h▸VT.le_refl _
attribute [local irreducible] J PJ aJ one slT bQ bC bv exT bZ eP aP aI slV VT.le Ret bJ
theorem cZ (v:Nat):Ok Tryz.prog 81 [lJ v] (co (aK v)):=by
 refine Ok.enter Tryz.func81 Y Tryz.ntmps81 Y (fun w O => ?_)
 refine wb (t:=0) Y (fun l=>po (t:=0) Y (fun ⟨hL,hv⟩=>iy (t:=0) Y (fun _ _=>eE) (fun hb => ?_)))
 subst hv
 refine ae (ai (En Y (Ep (aa (ij (ae (ai (Em Y (El (aW Y) ?_)))))))))
 refine En Y (Ep (aa (ae (jU (aa (ae (au ?_)))))))
 refine cw (σ:=Nat) (fun n => [(0,co l),(3,one (.int .i64 n))]) (fun _ => []) (fun n=>n≤l.length∧gW l n=gW l l.length) (fun n=>n) l.length ⟨Nat.le_refl _,rfl⟩ Ei (SubM.refl _) (fun n ⟨hn,ht⟩ => ?_)
 have hd:=n9 hL
 refine ae (ae (ai (Em Y (El (db Y Y) (Ep (aa ?_))))))
 refine a5 Y (fun hc => ?_) (fun hc => ?_) <;> simp at hc
 ·obtain ⟨n,rfl⟩ : ∃ m,n=m+1:=⟨n - 1,by omega⟩
  refine az (aa (au (ae (ai (Em Y (Em Y ?_))))))
  (refine El (eo Y Y (aO ?_ ?_)) ?_;omega;omega)
  (refine El (f9 Y Y ?_ ?_) ?_;omega;omega)
  refine El (aM Y) (Ep (aa (au (ae (ai (El (cm Y Y) (En Y (Ep (aa ?_)))))))))
  refine a5 Y (fun hc => ?_) (fun hc => ?_) <;> simp at hc
  ·refine ai (Em Y ?_)
   (refine El (eo Y Y (aO ?_ ?_)) ?_;omega;omega)
   refine En Y (Ep (aD (aD ?_)))
   have h0:l.getD n 0=0:=by simpa using hc
   refine bO n ⟨by omega,by rw [← ht,gW,if_pos h0]⟩ X Ei (SubM.refl _)
  ·refine aX (c9 Y (c9 Y (av (aE (aa (ae (ai (Em Y (Em Y ?_)))))))))
   refine Em Y ?_
   (refine El (fT Y Y Y Y (fun _=>rfl) ?_ ?_ ?_ ?_) ?_;omega;omega;omega;omega)
   refine En Y (Ep (aa (aF (eh ?_))))
   have h0 : ¬ l.getD n 0=0:=by simpa using hc
   rw [← ht,gW,if_neg h0] at hd
   refine aV Tryz.results81 (.tmp Y (VT.le_trans (cB ?_ ?_) (lK hd)))
   ·simp;omega
   ·intro i hi;simp at hi ⊢; rw [List.getElem?_take_of_lt X]
 ·subst hc
  refine aX (av (av (aE (aa (ae (ai (Em Y (Em Y (Em Y ?_)))))))))
  (refine El (fT Y Y Y Y (fun _=>rfl) ?_ ?_ ?_ ?_) ?_;omega;omega;omega;omega)
  refine En Y (Ep (aa (aF (eh ?_))))
  rw [← ht,gW] at hd
  refine aV Tryz.results81 (.tmp Y (VT.le_trans (cB ?_ ?_) (lK hd)))
  ·simp
  ·intro i hi;simp at hi
end Tor
end
section
namespace Tor
open Go Go.RowKit Go.Proofs
attribute [local irreducible] J PJ aJ one slT bQ bC bv exT bZ eP aP aI slV VT.le Ret bJ
theorem dE (neg:Bool) (v:Nat):Ok Tryz.prog 86 [one (.bool neg),lJ v] (aL (if neg then -(v:Int) else v)):=by
 refine Ok.enter Tryz.func86 Y Tryz.ntmps86 Y (fun w O => ?_)
 refine ae (ai ?_)
 refine aG (T:=37) Y (ltN Y) (fun b => ?_)
 refine Ep (aa (ae (ai (Em Y ?_))))
 refine El (am (cZ _) Y ⟨H,Er⟩) ?_
 refine En Y (Ep (aa (ae (ae (ai (Em Y (El (aW Y) (El (cm Y Y) (Ep ?_)))))))))
 refine aa ?_
 refine a5 Y (fun hc => ?_) (fun hc => ?_) <;> simp at hc
 ·have hv:v=0:=by rw [← bY v,hc]; rfl
  subst hv
  refine ae (ai (stB Y Y Y (BuildK.nil (aA 0 Y Y Y Y Y (leN Y) Y (Ep (aa (aF (aU ?_))))))))
  exact aV Tryz.results86 (.cellB 0 Y Y Y (VT.le_trans iM (cf (by simp))))
 ·have hv:v≠0:=by intro e;subst e;exact hc Y
  refine az (aa (ae (ai (Em Y (Em Y (stB Y Y Y (BuildK.cons Y Y Y (BuildK.cons Y Y Y (BuildK.nil ?_)))))))))
  refine aA 0 Y Y Y Y Y (leN Y) Y (Ep (aa (aF ?_)))
  exact aV Tryz.results86 (.cellB 0 Y Y Y (AB hv))
structure PlusR (lx ly:List Nat) (zl:List Nat) (c:Nat):Prop where
 len:zl.length≤lx.length
 lim:bF zl
 c1:c≤1
 val:lv zl+4294967296^zl.length*c=lv (lx.take zl.length)+lv (ly.take zl.length)
theorem PlusR.step {lx ly zl:List Nat} {c:Nat} (h:PlusR lx ly zl c) (hx:bF lx) (hy:bF ly) (hl:ly.length≤lx.length) (hlt:zl.length<lx.length) :
  PlusR lx ly (zl ++ [(c+lx.getD zl.length 0+ly.getD zl.length 0) % 4294967296]) ((c+lx.getD zl.length 0+ly.getD zl.length 0) / 4294967296):=by
 have h1:=a9 hx zl.length
 have h2:=a9 hy zl.length
 have h3:=h.c1
 refine ⟨by simp;omega,fun d hd => ?_,by omega,?_⟩
 ·rcases List.mem_append.1 hd with hd | hd
  ·exact h.lim d hd
  ·simp at hd;omega
 ·have hy2:lv (ly.take (zl.length+1))=lv (ly.take zl.length)+4294967296^zl.length*ly.getD zl.length 0:=by
   by_cases hk:zl.length<ly.length
   ·exact bM hk
   ·rw [List.take_of_length_le X,List.take_of_length_le X]; simp [List.getElem?_eq_none (Nat.le_of_not_lt hk)]
  simp only [List.length_append,List.length_cons,List.length_nil,Nat.zero_add]
  rw [fM,bM hlt,hy2,Nat.pow_succ]
  have hv:=h.val
  generalize lx.getD zl.length 0=x at *
  generalize ly.getD zl.length 0=y at *
  generalize 4294967296^zl.length=B at *
  have e:(c+x+y)=4294967296*((c+x+y) / 4294967296)+(c+x+y) % 4294967296:=by omega
  generalize (c+x+y) / 4294967296=q at *
  generalize (c+x+y) % 4294967296=r at *
  simp only [lv,Nat.mul_zero,Nat.add_zero]
  have e2:B*(c+x+y)=B*(4294967296*q+r):=by rw [e]
  simp only [Nat.mul_add,Nat.mul_assoc] at e2 ⊢
  omega
theorem vj (a b:Nat) (ha:(aK a).length≤1099511627776) (hb:(aK b).length≤1099511627776):Ok Tryz.prog 97 [co (aK a),co (aK b)] (lJ (a+b)):=by
 refine Ok.enter Tryz.func97 Y Tryz.ntmps97 Y (fun w O => ?_)
 refine ae (ai (En Y (Ep (aa (ae (ae (ai (Em Y (El (aW Y) ?_)))))))))
 refine Em Y (El (aW Y) (El (a7 Y Y) (Ep (aa ?_))))
 refine fJ (σ:=List Nat × List Nat) (fun s => [(0,co s.1),(1,co s.2)]) (fun _ => []) (fun s=>bF s.1∧bF s.2∧s.2.length≤s.1.length∧s.1.length≤1099511627776∧lv s.1+lv s.2=a+b) ?_ (fun s ⟨hx,hy,hl,hs,hv⟩ => ?_)
 ·refine a5 Y (fun hc => ?_) (fun hc => ?_) <;> simp at hc
  ·refine ai (Em Y (Em Y (En Y (En Y (Ep ?_)))))
   exact cU (aK b,aK a) ⟨a6 _,a6 _,Nat.le_of_lt hc,hb,by simp only [bY]; omega⟩ Ei (SubM.refl _)
  ·refine az ?_
   exact cU (aK a,aK b) ⟨a6 _,a6 _,hc,ha,by simp only [bY]⟩ Ei (SubM.refl _)
 ·obtain ⟨lx,ly⟩:=s
  simp only at hx hy hl hs hv ⊢
  refine aa (ae (ai (Em Y (El (aW Y) ?_))))
  (refine El (ci Y Y (aO ?_ ?_)) ?_;omega;omega)
  refine bV (lx.length+1) (lx.length+1) Y Y (by simp) (by simp) (Nat.le_refl _) Y Y X Y Y (fun bz => ?_)
  refine En Y (Ep (aa (ae (ai (En Y (Ep (aa (ae (ae ?_)))))))))
  refine ai (Em Y (El (aW Y) (Em Y (Ep (aa (au ?_))))))
  refine cw (σ:=List Nat × Nat) (fun s => [(0,co lx),(1,co ly),(5,one (slV (some bz) (lx.length+1) (lx.length+1))),(6,one (.int .u64 (s.2:Nat))),(20,one (.int .i64 lx.length)),(21,one (.int .i64 s.1.length))])
   (fun s => [aI (some bz) 86 .one (lx.length+1) (lx.length+1) (fun q=>one (.int .u32 (s.1.getD q 0:Nat)))]) (fun s=>PlusR lx ly s.1 s.2) (fun s=>lx.length - s.1.length) ([],0)
   ⟨by simp,(fun d hd=>by cases hd),by decide,by simp [lv]⟩ Ei (.keep (bg (by simp)) .nil) (fun s hR => ?_)
  obtain ⟨zl,c⟩:=s
  simp only at hR ⊢
  refine ae (ai (El (a7 Y Y) (Ep (aa (ae ?_)))))
  refine a5 Y (fun hc => ?_) (fun hc => ?_) <;> simp at hc
  ·have h1:=a9 hx zl.length
   have h2:=a9 hy zl.length
   have h3:=hR.c1
   refine az (aa (ae (au (ae (ai (Em Y (En Y (Ep (aa ?_)))))))))
   refine ae (ai (Em Y (Em Y (Em Y ?_))))
   (refine El (aC Y Y ?_) ?_;omega)
   refine El (aM Y) ?_
   (refine El (bT Y ?_) ?_;omega)
   (refine El (dK Y Y ?_) ?_;omega)
   refine En Y (Ep (aa (ae (ae (ai (Em Y (Em Y (El (aW Y) (El (a7 Y Y) ?_)))))))))
   refine Ep (aa ?_)
   refine fJ (σ:=Unit) (fun _ => [(0,co lx),(1,co ly),(5,one (slV (some bz) (lx.length+1) (lx.length+1))),(6,one (.int .u64 ((c+lx.getD zl.length 0+ly.getD zl.length 0:Nat):Int))),(7,one (.int .i64 zl.length)),(20,one (.int .i64 lx.length)),(21,one (.int .i64 zl.length))])
    (fun _ => [aI (some bz) 86 .one (lx.length+1) (lx.length+1) (fun q=>one (.int .u32 (zl.getD q 0:Nat)))]) (fun _=>True) ?_ (fun _ _ => ?_)
   ·refine a5 Y (fun hc => ?_) (fun hc => ?_) <;> simp at hc
    ·refine ai (Em Y (Em Y (Em Y ?_)))
     (refine El (aC Y Y ?_) ?_;omega)
     refine El (aM Y) ?_
     (refine El (bT Y ?_) ?_;omega)
     (refine El (dK Y Y ?_) ?_;omega)
     refine En Y (Ep ?_)
     exact cU () trivial Ei (SubM.refl _)
    ·have e0:ly.getD zl.length 0=0:=by simp [List.getElem?_eq_none hc]
     refine az ?_
     exact cU () trivial Ei (SubM.refl _)
   ·refine aa (ae (ai (Em Y (Em Y (Em Y (El (cH Y) ?_))))))
    (refine El (ao Y Y ?_) ?_;omega)
    (refine aw 0 Y Y Y ?_ Y ?_;omega)
    refine Ep (aa (ai (Em Y (El (gv Y) (En Y (Ep (aD (aa (ai ?_)))))))))
    (refine El (ci Y Y (aO ?_ ?_)) ?_;omega;omega)
    refine Em Y (Ep ?_)
    have hstep:=hR.step hx hy hl hc
    refine bO (s:=(zl,c)) (zl ++ [(c+lx.getD zl.length 0+ly.getD zl.length 0) % 4294967296],(c+lx.getD zl.length 0+ly.getD zl.length 0) / 4294967296) hstep (by simp;omega) Ei (.keep (bg (fun q hq => ?_)) .nil)
    unfold upd;rw [j6]; split <;> rfl
  ·have hlen:zl.length=lx.length:=by have:=hR.len;omega
   refine aX (av (av (aE (aa (ae (ai (Em Y (Em Y (El (aW Y) ?_)))))))))
   refine Em Y (El (cH Y) ?_)
   (refine El (ao Y Y ?_) ?_;omega)
   (refine aw 0 Y Y Y ?_ Y ?_;omega)
   refine Ep (aa (ae (ai (Em Y (En Y (Ep (aa (aF (cq (t:=4) (i:=0) Y Y ?_)))))))))
   refine aV Tryz.results97 (.tmp Y (VT.le_trans (cB (m:=(zl ++ [c]).length) (ψ:=fun i=>one (.int .u32 ((zl ++ [c]).getD i 0:Nat))) (by simp [hlen]) (fun q hq => ?_)) (fv (l:=zl ++ [c]) ?_ ?_)))
   ·have h3:=hR.c1
    unfold upd;rw [j6,hlen]
    split
    ·rw [Nat.mod_eq_of_lt X]
    ·rfl
   ·intro d hd
    have h3:=hR.c1
    rcases List.mem_append.1 hd with hd | hd
    ·exact hR.lim d hd
    ·simp at hd;omega
   ·have h4:=hR.val
    rw [hlen,List.take_length,List.take_of_length_le X] at h4
    rw [fM,hlen]; simp only [lv,Nat.mul_zero,Nat.add_zero]; omega
end Tor
end
section
namespace Tor
open Go Go.RowKit Go.Proofs
attribute [local irreducible] J PJ aJ one slT bQ bC bv exT bZ eP aP aI slV VT.le Ret bJ
theorem pG (a:Int):Ok Tryz.prog 146 [one (.int .i64 a)] (one (.bool false)):=by
 refine Ok.enter Tryz.func146 Y Tryz.ntmps146 Y (fun w O => ?_)
 refine ae (ai (En Y (Ep (aa (ae (ai (Em Y (Em Y (El (dy Y Y) ?_)))))))))
 refine En Y (Ep (aa (aF ?_)))
 exact aV Tryz.results146 (.tmp Y (aq (by simp)))
theorem pH (a:Int):Ok Tryz.prog 167 [one (.int .u32 a)] (one (.bool false)):=by
 refine Ok.enter Tryz.func167 Y Tryz.ntmps167 Y (fun w O => ?_)
 refine ae (ai (En Y (Ep (aa (ae (ai (Em Y (Em Y (El (dy Y Y) ?_)))))))))
 refine En Y (Ep (aa (aF ?_)))
 exact aV Tryz.results167 (.tmp Y (aq (by simp)))
theorem jC (a b:Int):Ok Tryz.prog 100 [one (.int .i64 a),one (.int .i64 b)] (one (.int .i64 (cV a b))):=by
 refine Ok.enter Tryz.func100 Y Tryz.ntmps100 Y (fun w O => ?_)
 refine ae (ai (En Y (Ep (aa (ae (ai (Em Y ?_)))))))
 refine El (am (pG _) Y ⟨H,Er⟩) ?_
 refine En Y (Ep (aa (ae (ai (Em Y ?_)))))
 refine El (am (pG _) Y ⟨H,Er⟩) ?_
 refine En Y (Ep (aa (ae (ae (ai (Em Y (Ep (aa ?_))))))))
 refine a5 Y (fun hc=>by cases hc) (fun hc => ?_)
 refine az (aa (ae (ae (ai (Em Y (Ep (aa ?_)))))))
 refine a5 Y (fun hc=>by cases hc) (fun hc => ?_)
 refine az (aa (ae (ae (ai (Em Y (Em Y (El (a7 Y Y) (Ep (aa ?_)))))))))
 refine a5 Y (fun hc => ?_) (fun hc => ?_) <;> simp at hc
 ·refine ae (ai (En Y (Ep (aa (aF (aU ?_))))))
  exact aV Tryz.results100 (.tmp Y (aq (by rw [cV,if_pos hc])))
 ·refine az (aa (ae (ae (ai (Em Y (Em Y (El (db Y Y) (Ep (aa ?_)))))))))
  refine a5 Y (fun hc2 => ?_) (fun hc2 => ?_) <;> simp at hc2
  ·refine ae (ai (En Y (Ep (aa (aF (aU ?_))))))
   exact aV Tryz.results100 (.tmp Y (aq (by rw [cV,if_neg X,if_pos hc2])))
  ·refine az (aa (ae (ai (En Y (Ep (aa (aF ?_)))))))
   exact aV Tryz.results100 (.tmp Y (aq (by rw [cV,if_neg X,if_neg X])))
theorem oa (a b:Int):Ok Tryz.prog 145 [one (.int .u32 a),one (.int .u32 b)] (one (.int .i64 (cV a b))):=by
 refine Ok.enter Tryz.func145 Y Tryz.ntmps145 Y (fun w O => ?_)
 refine ae (ai (En Y (Ep (aa (ae (ai (Em Y ?_)))))))
 refine El (am (pH _) Y ⟨H,Er⟩) ?_
 refine En Y (Ep (aa (ae (ai (Em Y ?_)))))
 refine El (am (pH _) Y ⟨H,Er⟩) ?_
 refine En Y (Ep (aa (ae (ae (ai (Em Y (Ep (aa ?_))))))))
 refine a5 Y (fun hc=>by cases hc) (fun hc => ?_)
 refine az (aa (ae (ae (ai (Em Y (Ep (aa ?_)))))))
 refine a5 Y (fun hc=>by cases hc) (fun hc => ?_)
 refine az (aa (ae (ae (ai (Em Y (Em Y (El (a7 Y Y) (Ep (aa ?_)))))))))
 refine a5 Y (fun hc => ?_) (fun hc => ?_) <;> simp at hc
 ·refine ae (ai (En Y (Ep (aa (aF (aU ?_))))))
  exact aV Tryz.results145 (.tmp Y (aq (by rw [cV,if_pos hc])))
 ·refine az (aa (ae (ae (ai (Em Y (Em Y (El (db Y Y) (Ep (aa ?_)))))))))
  refine a5 Y (fun hc2 => ?_) (fun hc2 => ?_) <;> simp at hc2
  ·refine ae (ai (En Y (Ep (aa (aF (aU ?_))))))
   exact aV Tryz.results145 (.tmp Y (aq (by rw [cV,if_neg X,if_pos hc2])))
  ·refine az (aa (ae (ai (En Y (Ep (aa (aF ?_)))))))
   exact aV Tryz.results145 (.tmp Y (aq (by rw [cV,if_neg X,if_neg X])))
theorem kF (a b:Nat):Ok Tryz.prog 98 [co (aK a),co (aK b)] (one (.int .i64 (mq a b))):=by
 refine Ok.enter Tryz.func98 Y Tryz.ntmps98 Y (fun w O => ?_)
 refine iy (t:=0) Y (fun _ _=>eE) (fun hb => ?_)
 refine ae (ai (En Y (Ep (aa (ae (ae (ai (Em Y (El (aW Y) ?_)))))))))
 refine Em Y (El (aW Y) ?_)
 refine El (am (jC _ _) Y ⟨H,H,Er⟩) ?_
 refine En Y (Ep (aa (ae (ai (Em Y (El (dy Y Y) (Ep (aa ?_))))))))
 refine a5 Y (fun hc => ?_) (fun hc => ?_) <;> simp at hc
 ·refine ae (ai (Em Y (En Y (Ep (aa (aF (aU ?_)))))))
  refine aV Tryz.results98 (.tmp Y (aq ?_))
  unfold cV at hc ⊢
  unfold mq
  congr 1
  by_cases h1:(aK a).length<(aK b).length
  ·have:=iD h1
   rw [if_pos X,if_pos this]
  ·by_cases h2:(aK b).length<(aK a).length
   ·have:=iD h2
    rw [if_neg X,if_pos X,if_neg X,if_pos this]
   ·rw [if_neg X,if_neg X] at hc;exact absurd Y hc
 ·have hlen:(aK a).length=(aK b).length:=by
   unfold cV at hc
   split at hc
   ·cases hc
   ·split at hc
    ·cases hc
    ·omega
  refine az (aa (ae (ae (ai (Em Y (El (aW Y) ?_))))))
  (refine El (eo Y Y (aO ?_ ?_)) ?_;omega;omega)
  refine En Y (Ep (aa (au ?_)))
  refine cw (σ:=Nat) (fun n => [(0,co (aK a)),(1,co (aK b)),(6,one (.int .i64 ((n:Int) - 1)))]) (fun _ => []) (fun n=>n≤(aK a).length∧(aK a).drop n=(aK b).drop n) (fun n=>n) (aK a).length
   ⟨Nat.le_refl _,by rw [List.drop_length,hlen,List.drop_length]⟩ Ei (SubM.refl _) (fun n ⟨hn,hd⟩ => ?_)
  refine ae (ae (ai (Em Y (El (fh Y Y) (Ep (aa ?_))))))
  refine a5 Y (fun hc2 => ?_) (fun hc2 => ?_) <;> simp at hc2
  ·obtain ⟨n,rfl⟩ : ∃ m,n=m+1:=⟨n - 1,by omega⟩
   have e:((n+1:Nat):Int) - 1=n:=by omega
   rw [e]
   refine az (aa (ae (au (ae (a8 10 a4 Z S (Em Y (Em Y ?_)))))))
   (refine El (aC Y Y ?_) ?_;omega)
   refine El (aM Y) (Em Y (Em Y ?_))
   (refine El (aC Y Y ?_) ?_;omega)
   refine El (aM Y) ?_
   refine El (am (oa _ _) Y ⟨H,H,Er⟩) ?_
   refine En Y (Ep (Ep (aa (ae (ai (Em Y (El (dy Y Y) (Ep (aa ?_)))))))))
   refine a5 Y (fun hc3 => ?_) (fun hc3 => ?_) <;> simp only [decide_eq_true_eq,decide_eq_false_iff_not,ne_eq,Decidable.not_not] at hc3
   ·refine ae (ai (Em Y (En Y (Ep (aa (aF (bK (aU (aU ?_)))))))))
    refine bK (aU ?_)
    refine aV Tryz.results98 (.tmp Y (aq ?_))
    congr 1
    unfold cV at hc3 ⊢
    unfold mq
    by_cases h1:(aK a).getD n 0<(aK b).getD n 0
    ·have:=qL (a6 a) (a6 b) hlen (i:=n) X hd h1
     rw [bY,bY] at this
     rw [if_pos X,if_pos this]
    ·by_cases h2:(aK b).getD n 0<(aK a).getD n 0
     ·have:=qL (a6 b) (a6 a) hlen.symm (i:=n) X hd.symm h2
      rw [bY,bY] at this
      rw [if_neg X,if_pos X,if_neg X,if_pos this]
     ·rw [if_neg X,if_neg X] at hc3;exact absurd Y hc3
   ·refine az (aD (aa (ai (Em Y ?_))))
    (refine El (eo Y Y (aO ?_ ?_)) ?_;omega;omega)
    refine En Y (Ep ?_)
    refine bO (s:=n+1) n ⟨by omega,?_⟩ X Ei (SubM.refl _)
    have h3:(aK a).getD n 0=(aK b).getD n 0:=by
     unfold cV at hc3
     split at hc3
     ·cases hc3
     ·split at hc3
      ·cases hc3
      ·omega
    have e1:=fN (l:=aK a) (k:=n) X
    have e2:=fN (l:=aK b) (k:=n) X
    rw [e1,e2,h3,hd]
  ·refine aX (av (av (aE (aa (ae (ai (En Y (Ep (aa ?_)))))))))
   refine aF ?_
   have h0:n=0:=by omega
   subst h0
   have h4:a=b:=r8 (by simpa using hd)
   exact aV Tryz.results98 (.tmp Y (aq (by subst h4;simp [mq])))
end Tor
end
section
namespace Tor
open Go Go.RowKit Go.Proofs
attribute [local irreducible] J PJ aJ one slT bQ bC bv exT bZ eP aP aI slV VT.le Ret bJ
structure MinusR (lx ly:List Nat) (zl:List Nat) (c:Nat):Prop where
 len:zl.length≤lx.length
 lim:bF zl
 c1:c≤1
 val:lv zl+lv (ly.take zl.length)=lv (lx.take zl.length)+4294967296^zl.length*c
theorem r9 {x y c d:Nat} (hx:x<4294967296) (hy:y<4294967296) (hc:c≤1) (hd:d=((x+18446744073709551616 - c) % 18446744073709551616+18446744073709551616 - y) % 18446744073709551616) :
  d % 4294967296+y+c=x+4294967296*(d / 9223372036854775808)∧d / 9223372036854775808≤1:=by
 rcases Nat.lt_or_ge x (y+c) with h | h
 ·have h1:d=x+18446744073709551616 - (y+c):=by omega
  omega
 ·have h1:d=x - (y+c):=by omega
  omega
theorem MinusR.step {lx ly zl:List Nat} {c d:Nat} (h:MinusR lx ly zl c) (hx:bF lx) (hy:bF ly) (hl:ly.length≤lx.length) (hlt:zl.length<lx.length)
  (hd:d=((lx.getD zl.length 0+18446744073709551616 - c) % 18446744073709551616+18446744073709551616 - ly.getD zl.length 0) % 18446744073709551616) :
  MinusR lx ly (zl ++ [d % 4294967296]) (d / 9223372036854775808):=by
 obtain ⟨h1,h2⟩:=r9 (a9 hx zl.length) (a9 hy zl.length) h.c1 hd
 refine ⟨by simp;omega,fun e he => ?_,h2,?_⟩
 ·rcases List.mem_append.1 he with he | he
  ·exact h.lim e he
  ·simp at he;omega
 ·have hy2:lv (ly.take (zl.length+1))=lv (ly.take zl.length)+4294967296^zl.length*ly.getD zl.length 0:=by
   by_cases hk:zl.length<ly.length
   ·exact bM hk
   ·rw [List.take_of_length_le X,List.take_of_length_le X]; simp [List.getElem?_eq_none (Nat.le_of_not_lt hk)]
  simp only [List.length_append,List.length_cons,List.length_nil,Nat.zero_add]
  rw [fM,bM hlt,hy2,Nat.pow_succ]
  have hv:=h.val
  clear hd
  generalize lx.getD zl.length 0=x at *
  generalize ly.getD zl.length 0=y at *
  generalize 4294967296^zl.length=B at *
  generalize d % 4294967296=r at *
  generalize d / 9223372036854775808=q at *
  simp only [lv,Nat.mul_zero,Nat.add_zero]
  have e2:B*(r+y+c)=B*(x+4294967296*q):=by rw [h1]
  simp only [Nat.mul_add,Nat.mul_assoc] at e2 ⊢
  omega
theorem ob (a b:Nat) (hab:b≤a) (ha:(aK a).length≤1099511627776):Ok Tryz.prog 99 [co (aK a),co (aK b)] (lJ (a - b)):=by
 refine Ok.enter Tryz.func99 Y Tryz.ntmps99 Y (fun w O => ?_)
 have hx:=a6 a
 have hy:=a6 b
 have hl:=cd hab
 have hva:=bY a
 have hvb:=bY b
 generalize aK a=lx at *
 generalize aK b=ly at *
 refine ae (ai (En Y (Ep (aa (ae (ai (Em Y (El (aW Y) ?_))))))))
 refine bV lx.length lx.length Y Y Y Y (Nat.le_refl _) Y Y X Y Y (fun bz => ?_)
 refine En Y (Ep (aa (ae (ai (En Y (Ep (aa (ae (ae ?_)))))))))
 refine ai (Em Y (El (aW Y) (Em Y (Ep (aa (au ?_))))))
 refine cw (σ:=List Nat × Nat) (fun s => [(0,co lx),(1,co ly),(5,one (slV (some bz) lx.length lx.length)),(6,one (.int .u64 (s.2:Nat))),(13,one (.int .i64 lx.length)),(14,one (.int .i64 s.1.length))])
   (fun s => [aI (some bz) 86 .one lx.length lx.length (fun q=>one (.int .u32 (s.1.getD q 0:Nat)))]) (fun s=>MinusR lx ly s.1 s.2) (fun s=>lx.length - s.1.length) ([],0)
   ⟨by simp,(fun d hd=>by cases hd),by decide,by simp [lv]⟩ Ei (.keep (bg (by simp)) .nil) (fun s hR => ?_)
 obtain ⟨zl,c⟩:=s
 simp only at hR ⊢
 refine ae (ai (El (a7 Y Y) (Ep (aa (ae ?_)))))
 refine a5 Y (fun hc => ?_) (fun hc => ?_) <;> simp at hc
 ·have h1:=a9 hx zl.length
  have h2:=a9 hy zl.length
  have h3:=hR.c1
  refine az (aa (ae (au (ae (ai (Em Y (En Y (Ep (aa ?_)))))))))
  refine ae (ai (Em Y (Em Y ?_)))
  (refine El (aC Y Y ?_) ?_;omega)
  refine El (aM Y) ?_
  (refine El (bT Y ?_) ?_;omega)
  refine Em Y ?_
  (refine El (fk Y Y ?_ ?_) ?_;omega;omega)
  refine En Y (Ep (aa (ae (ae (ai (Em Y (Em Y (El (aW Y) (El (a7 Y Y) ?_)))))))))
  refine Ep (aa ?_)
  generalize hD:((lx.getD zl.length 0+18446744073709551616 - c) % 18446744073709551616+18446744073709551616 - ly.getD zl.length 0) % 18446744073709551616=d
  refine fJ (σ:=Unit) (fun _ => [(0,co lx),(1,co ly),(5,one (slV (some bz) lx.length lx.length)),(8,one (.int .u64 (d:Nat))),(7,one (.int .i64 zl.length)),(13,one (.int .i64 lx.length)),(14,one (.int .i64 zl.length))])
    (fun _ => [aI (some bz) 86 .one lx.length lx.length (fun q=>one (.int .u32 (zl.getD q 0:Nat)))]) (fun _=>True) ?_ (fun _ _ => ?_)
  ·refine a5 Y (fun hc => ?_) (fun hc => ?_) <;> simp at hc
   ·refine ai (Em Y (Em Y (Em Y ?_)))
    (refine El (aC Y Y ?_) ?_;omega)
    refine El (aM Y) ?_
    (refine El (bT Y ?_) ?_;omega)
    (refine El (fk Y Y ?_ ?_) ?_;omega;omega)
    refine En Y (Ep ?_)
    exact cU () trivial Ei (SubM.refl _)
   ·have e0:ly.getD zl.length 0=0:=by simp [List.getElem?_eq_none hc]
    refine az ?_
    exact cU () trivial Ei (SubM.refl _)
  ·refine aa (ae (ai (Em Y (Em Y (Em Y (El (cH Y) ?_))))))
   (refine El (ao Y Y ?_) ?_;omega)
   (refine aw 0 Y Y Y ?_ Y ?_;omega)
   refine Ep (aa (ai (Em Y (El (qk Y) (En Y (Ep (aD (aa (ai ?_)))))))))
   (refine El (ci Y Y (aO ?_ ?_)) ?_;omega;omega)
   refine Em Y (Ep ?_)
   have hstep:=hR.step hx hy hl hc hD.symm
   refine bO (s:=(zl,c)) (zl ++ [d % 4294967296],d / 9223372036854775808) hstep (by simp;omega) Ei (.keep (bg (fun q hq => ?_)) .nil)
   unfold upd;rw [j6]; split <;> rfl
 ·have hlen:zl.length=lx.length:=by have:=hR.len;omega
  refine aX (av (av (aE (aa (ae (ai (Em Y (En Y (Ep ?_)))))))))
  refine aa (aF (cq (t:=4) (i:=0) Y Y ?_))
  refine aV Tryz.results99 (.tmp Y (VT.le_trans (cB (m:=zl.length) (ψ:=fun i=>one (.int .u32 (zl.getD i 0:Nat))) hlen.symm (fun q hq=>rfl)) (fv (l:=zl) hR.lim ?_)))
  have h4:=hR.val
  rw [hlen,List.take_length,List.take_of_length_le X,hva,hvb] at h4
  have h5:=gV hR.lim
  rw [hlen] at h5
  have h3:=hR.c1
  have:c=0:=by
   rcases Nat.eq_zero_or_pos c with h | h
   ·exact h
   ·have:c=1:=by omega
    subst this;omega
  subst this;omega
end Tor
end
section
namespace Tor
open Go Go.RowKit Go.Proofs
attribute [local irreducible] J PJ aJ one slT bQ bC bv exT bZ eP aP aI slV VT.le Ret bJ
structure TimesR (lx ly zz:List Nat) (i:Nat):Prop where
 le:i≤lx.length
 len:zz.length=lx.length+ly.length
 lim:bF zz
 zero : ∀ k,i+ly.length≤k→zz.getD k 0=0
 val:lv zz=lv (lx.take i)*lv ly
structure TimesI (lx ly z0 zz:List Nat) (i j c:Nat):Prop where
 le:j≤ly.length
 len:zz.length=lx.length+ly.length
 lim:bF zz
 zero : ∀ k,i+ly.length≤k→zz.getD k 0=0
 c1:c<4294967296
 val:lv zz+4294967296^(i+j)*c=lv z0+4294967296^i*(lx.getD i 0*lv (ly.take j))
theorem TimesI.step {lx ly z0 zz:List Nat} {i j c:Nat} (h:TimesI lx ly z0 zz i j c) (hx:bF lx) (hy:bF ly) (hi:i<lx.length) (hj:j<ly.length) :
  TimesI lx ly z0 (zz.set (i+j) ((c+(lx.getD i 0*ly.getD j 0+zz.getD (i+j) 0)) % 4294967296)) i (j+1) ((c+(lx.getD i 0*ly.getD j 0+zz.getD (i+j) 0)) / 4294967296):=by
 have hlim:=lI (a9 hx i) (a9 hy j) (a9 h.lim (i+j)) h.c1
 have hlt:i+j<zz.length:=by rw [h.len]; omega
 refine ⟨hj,by rw [List.length_set]; exact h.len,h.lim.set X,fun k hk => ?_,by omega,?_⟩
 ·rw [d5 hlt,if_neg X]; exact h.zero k hk
 ·have hs:=fO (l:=zz) (k:=i+j) (v:=(c+(lx.getD i 0*ly.getD j 0+zz.getD (i+j) 0)) % 4294967296) hlt
  have hv:=h.val
  rw [bM hj]
  generalize lx.getD i 0=x at *
  generalize ly.getD j 0=y at *
  generalize zz.getD (i+j) 0=z at *
  have e:c+(x*y+z)=4294967296*((c+(x*y+z)) / 4294967296)+(c+(x*y+z)) % 4294967296:=by omega
  generalize (c+(x*y+z)) / 4294967296=q at *
  generalize (c+(x*y+z)) % 4294967296=r at *
  rw [show i+(j+1)=(i+j)+1 by omega,Nat.pow_succ]
  have eB:4294967296^i*4294967296^j=4294967296^(i+j):=(Nat.pow_add _ _ _).symm
  have e3:4294967296^i*(x*(lv (ly.take j)+4294967296^j*y))=4294967296^i*(x*lv (ly.take j))+4294967296^(i+j)*(x*y):=by
   rw [Nat.mul_add,Nat.mul_add, ← eB]
   congr 1
   rw [Nat.mul_assoc]; congr 1
   rw [Nat.mul_left_comm]
  rw [e3]
  generalize 4294967296^(i+j)=B at *
  have e2:B*(c+(x*y+z))=B*(4294967296*q+r):=by rw [e]
  simp only [Nat.mul_add, ← Nat.mul_assoc] at e2 ⊢ hs hv
  omega
theorem TimesR.start {lx ly z0:List Nat} {i:Nat} (h:TimesR lx ly z0 i):TimesI lx ly z0 z0 i 0 0:=⟨Nat.zero_le _,h.len,h.lim,h.zero,by decide,by simp [lv]⟩
theorem TimesI.finish {lx ly z0 zz:List Nat} {i c:Nat} (h0:TimesR lx ly z0 i) (h:TimesI lx ly z0 zz i ly.length c) (hi:i<lx.length):TimesR lx ly (zz.set (i+ly.length) (c % 4294967296)) (i+1):=by
 have hlt:i+ly.length<zz.length:=by rw [h.len]; omega
 have hc:=h.c1
 refine ⟨hi,by rw [List.length_set]; exact h.len,h.lim.set X,fun k hk => ?_,?_⟩
 ·rw [d5 hlt,if_neg X]; exact h.zero k X
 ·have hs:=fO (l:=zz) (k:=i+ly.length) (v:=c % 4294967296) hlt
  rw [h.zero _ (Nat.le_refl _),Nat.mul_zero,Nat.add_zero,Nat.mod_eq_of_lt hc] at hs
  rw [Nat.mod_eq_of_lt hc,hs,h.val,List.take_length,h0.val,bM hi,Nat.add_mul,Nat.mul_assoc]
theorem bF.replicate (n:Nat):bF (List.replicate n 0):=fun d hd=>by
 have:=(List.mem_replicate.1 hd).2;omega
theorem dT : ∀ n,lv (List.replicate n 0)=0
 | 0 => rfl
 | n + 1 => by rw [List.replicate_succ, lv, dT n]
theorem cx (n q:Nat):(List.replicate n 0).getD q 0=0:=by
 simp only [List.getD,List.getElem?_replicate]; split <;> rfl
theorem yr (a b:Nat) (ha:(aK a).length≤1099511627776) (hb:(aK b).length≤1099511627776):Ok Tryz.prog 87 [co (aK a),co (aK b)] (lJ (a*b)):=by
 refine Ok.enter Tryz.func87 Y Tryz.ntmps87 Y (fun w O => ?_)
 have hx:=a6 a
 have hy:=a6 b
 have hva:=bY a
 have hvb:=bY b
 generalize aK a=lx at *
 generalize aK b=ly at *
 refine ae (ai (En Y (Ep (aa (ae (ai (Em Y (El (aW Y) (Em Y ?_)))))))))
 refine El (aW Y) ?_
 (refine El (ci Y Y (aO ?_ ?_)) ?_;omega;omega)
 refine bV (lx.length+ly.length) (lx.length+ly.length) Y Y (by simp) (by simp) (Nat.le_refl _) Y Y X Y Y (fun bz => ?_)
 refine En Y (Ep (aa (ae (ae (ai (Em Y (El (aW Y) (Em Y (Ep ?_)))))))))
 refine aa (au ?_)
 refine cw (σ:=List Nat × Nat) (fun s => [(1,co ly),(5,one (slV (some bz) (lx.length+ly.length) (lx.length+ly.length))),(17,co lx),(18,one (.int .i64 lx.length)),(19,one (.int .i64 (s.2:Nat)))])
   (fun s => [aI (some bz) 86 .one (lx.length+ly.length) (lx.length+ly.length) (fun q=>one (.int .u32 (s.1.getD q 0:Nat)))]) (fun s=>TimesR lx ly s.1 s.2) (fun s=>lx.length - s.2) (List.replicate (lx.length+ly.length) 0,0)
   ⟨by simp,by simp,bF.replicate _,fun k _=>cx _ _,by simp [dT,lv]⟩ Ei (.keep (bg (fun q _=>by rw [cx]; rfl)) .nil) (fun s hR => ?_)
 obtain ⟨z0,i⟩:=s
 simp only at hR ⊢
 refine ae (ai (El (a7 Y Y) (Ep (aa (ae ?_)))))
 refine a5 Y (fun hc => ?_) (fun hc => ?_) <;> simp at hc
 ·have h1:=a9 hx i
  refine az (aa (ae (au (ae (ai (Em Y ?_))))))
  (refine El (aC Y Y ?_) ?_;omega)
  refine El (aM Y) (En Y (En Y (Ep (aa (ae (ai (En Y (Ep (aa ?_)))))))))
  refine ae (ae (ai (Em Y (El (aW Y) (Em Y (Ep (aa (au ?_))))))))
  refine cw (σ:=List Nat × Nat × Nat) (fun s => [(1,co ly),(5,one (slV (some bz) (lx.length+ly.length) (lx.length+ly.length))),(6,one (.int .i64 i)),(7,one (.int .u32 (lx.getD i 0:Nat))),(8,one (.int .u64 (s.2.2:Nat))),(24,co ly),(25,one (.int .i64 ly.length)),(26,one (.int .i64 (s.2.1:Nat))),(17,co lx),(18,one (.int .i64 lx.length)),(19,one (.int .i64 i))])
   (fun s => [aI (some bz) 86 .one (lx.length+ly.length) (lx.length+ly.length) (fun q=>one (.int .u32 (s.1.getD q 0:Nat)))]) (fun s=>TimesI lx ly z0 s.1 i s.2.1 s.2.2) (fun s=>ly.length - s.2.1) (z0,0,0)
   hR.start Ei (SubM.refl _) (fun s hI => ?_)
  obtain ⟨zz,j,c⟩:=s
  simp only at hI ⊢
  refine ae (ai (El (a7 Y Y) (Ep (aa (ae ?_)))))
  refine a5 Y (fun hc2 => ?_) (fun hc2 => ?_) <;> simp at hc2
  ·have h2:=a9 hy j
   have h3:=a9 hI.lim (i+j)
   have h4:=lI h1 h2 h3 hI.c1
   have h5:=hI.c1
   refine az (aa (ae (au (ae (ai (Em Y ?_))))))
   (refine El (aC Y Y ?_) ?_;omega)
   refine El (aM Y) (En Y (En Y (Ep (aa (ae (ai (Em Y (Em Y ?_))))))))
   (refine El (bT Y ?_) ?_;omega)
   refine Em Y ?_
   (refine El (bT Y ?_) ?_;omega)
   (refine El (fK Y Y ?_) ?_;omega)
   refine Em Y (Em Y (Em Y ?_))
   (refine El (ci Y Y (aO ?_ ?_)) ?_;omega;omega)
   (refine El (ao Y Y ?_) ?_;omega)
   (refine El (be 0 Y Y ?_) ?_;omega)
   (refine El (bT Y ?_) ?_;omega)
   (refine El (dK Y Y ?_) ?_;omega)
   (refine El (dK Y Y ?_) ?_;omega)
   refine En Y (Ep (aa (ae (ai (Em Y (Em Y (Em Y ?_)))))))
   (refine El (ci Y Y (aO ?_ ?_)) ?_;omega;omega)
   refine Em Y (El (cH Y) ?_)
   (refine El (ao Y Y ?_) ?_;omega)
   (refine aw 0 Y Y Y ?_ Y ?_;omega)
   refine Ep (aa (ai (Em Y (El (gv Y) (En Y (Ep (aD (aa (ai ?_)))))))))
   (refine El (ci Y Y (aO ?_ ?_)) ?_;omega;omega)
   refine Em Y (Ep ?_)
   have hstep:=hI.step hx hy hc hc2
   have hlt:i+j<zz.length:=by rw [hI.len]; omega
   refine bO (s:=(zz,j,c)) (zz.set (i+j) ((c+(lx.getD i 0*ly.getD j 0+zz.getD (i+j) 0)) % 4294967296),j+1,(c+(lx.getD i 0*ly.getD j 0+zz.getD (i+j) 0)) / 4294967296) hstep (by simp;omega) Ei (.keep (bg (fun q hq => ?_)) .nil)
   unfold upd;rw [d5 hlt]; split <;> rfl
  ·have hj:j=ly.length:=by have:=hI.le;omega
   subst hj
   refine aX (av (av (aE (aa (ai (Em Y (Em Y (Em Y (El (aW Y) ?_)))))))))
   (refine El (ci Y Y (aO ?_ ?_)) ?_;omega;omega)
   refine Em Y (El (cH Y) ?_)
   (refine El (ao Y Y ?_) ?_;omega)
   (refine aw 0 Y Y Y ?_ Y ?_;omega)
   refine Ep (aD (aa (ai ?_)))
   (refine El (ci Y Y (aO ?_ ?_)) ?_;omega;omega)
   refine Em Y (Ep ?_)
   have hfin:=hI.finish hR hc
   have hlt:i+ly.length<zz.length:=by rw [hI.len]; omega
   refine bO (s:=(z0,i)) (zz.set (i+ly.length) (c % 4294967296),i+1) hfin (by simp;omega) Ei (.keep (bg (fun q hq => ?_)) .nil)
   unfold upd;rw [d5 hlt]; split <;> rfl
 ·have hi:i=lx.length:=by have:=hR.le;omega
  refine aX (av (av (aE (aa (ae (ai (Em Y (En Y (Ep ?_)))))))))
  refine aa (aF (cq (t:=4) (i:=0) Y Y ?_))
  refine aV Tryz.results87 (.tmp Y (VT.le_trans (cB (m:=z0.length) (ψ:=fun i=>one (.int .u32 (z0.getD i 0:Nat))) hR.len.symm (fun q hq=>rfl)) (fv (l:=z0) hR.lim ?_)))
  rw [hR.val,hi,List.take_length,hva,hvb]
end Tor
end
section
namespace Tor
open Go Go.RowKit Go.Proofs
def sgT (neg:Bool) (v:Nat):VT:=bC 2 [(0, .one,one (.bool neg)),(1, .one,co (aK v))]
def sv (neg:Bool) (v:Nat):Int:=if neg then -(v:Int) else v
theorem er (x:Int):VT.le (aL x) (sgT (decide (x<0)) x.natAbs):=VT.le_refl _
theorem fw (x:Int):sv (decide (x<0)) x.natAbs=x:=by
 unfold sv;by_cases h:x<0
 ·rw [decide_eq_true h,if_pos Y]; omega
 ·rw [decide_eq_false h]; simp only [Bool.false_eq_true,if_false]; omega
attribute [local irreducible] J PJ aJ one slT bQ bC bv exT bZ eP aP aI slV VT.le Ret bJ
attribute [local irreducible] aL
theorem jD (u:Nat) (hu:u<18446744073709551616):Ok Tryz.prog 88 [one (.int .u64 u)] (lJ u):=by
 refine Ok.enter Tryz.func88 Y Tryz.ntmps88 Y (fun w O => ?_)
 refine ae (ai (En Y (Ep (aa (ae (ai (Em Y (El (cH Y) (Em Y ?_)))))))))
 refine El (gv Y) (El (cH Y) (stS Y Y Y Y (PartsK.cons Y (PartsK.cons Y (PartsK.nil (En Y (Ep (aa (aF ?_)))))))))
 refine aV Tryz.results88 (.tmp Y (VT.le_trans (cB (m := [u % 4294967296,u / 4294967296 % 4294967296].length) (ψ:=fun i=>one (.int .u32 ([u % 4294967296,u / 4294967296 % 4294967296].getD i 0:Nat))) Y (fun q hq => ?_)) (fv (l := [u % 4294967296,u / 4294967296 % 4294967296]) ?_ ?_)))
 ·match q,hq with
  | 0, _ => rfl
  | 1, _ => rfl
 ·intro d hd;simp at hd;omega
 ·simp only [lv]; omega
theorem jm (n:Int) (h1 : -9223372036854775808≤n) (h2:n≤9223372036854775807):Ok Tryz.prog 55 [one (.int .i64 n)] (aL n):=by
 refine Ok.enter Tryz.func55 Y Tryz.ntmps55 Y (fun w O => ?_)
 by_cases hn:n<0
 ·refine ae (ai ?_)
  refine aG (T:=37) Y (ltN Y) (fun b => ?_)
  refine Ep (aa (ae (ai (Em Y (El (jr (r:=((18446744073709551616 - n.natAbs:Nat):Int)) Y (by rw [dz]; omega)) (En Y (Ep (aa (ae ?_)))))))))
  refine ae (ai (Em Y (El (a7 Y Y) (Ep (aa ?_)))))
  refine a5 Y (fun hc => ?_) (fun hc => ?_) <;> simp at hc
  ·refine ai (Em Y (El (Ca (r:=(n.natAbs:Int)) Y (by rw [dz]; omega)) (En Y (Ep (aa (ae (ai (Em Y (El (a7 Y Y) ?_)))))))))
   refine Em Y ?_
   refine El (am (jD _ X) Y ⟨H,Er⟩) ?_
   refine El (am (dE _ _) Y ⟨H,H,Er⟩) ?_
   refine aA 0 Y Y Y Y Y (leN Y) Y (Ep (aa (aF ?_)))
   exact aV Tryz.results55 (.cellB 0 Y Y Y (cf (by rw [decide_eq_true hn,if_pos Y]; omega)))
  ·omega
 ·refine ae (ai ?_)
  refine aG (T:=37) Y (ltN Y) (fun b => ?_)
  refine Ep (aa (ae (ai (Em Y (El (jr (r:=(n.natAbs:Int)) Y (by rw [dz]; omega)) (En Y (Ep (aa (ae ?_)))))))))
  refine ae (ai (Em Y (El (a7 Y Y) (Ep (aa ?_)))))
  refine a5 Y (fun hc => ?_) (fun hc => ?_) <;> simp at hc
  ·omega
  ·refine az (aa (ae (ai (Em Y (El (a7 Y Y) (Em Y ?_))))))
   refine El (am (jD _ X) Y ⟨H,Er⟩) ?_
   refine El (am (dE _ _) Y ⟨H,H,Er⟩) ?_
   refine aA 0 Y Y Y Y Y (leN Y) Y (Ep (aa (aF ?_)))
   exact aV Tryz.results55 (.cellB 0 Y Y Y (cf (by rw [decide_eq_false hn]; simp;omega)))
def c6 (x:Int):Int:=if x=0 then 0 else if x<0 then -1 else 1
theorem qM (neg:Bool) (v:Nat):Ok Tryz.prog 51 [sgT neg v] (one (.int .i64 (c6 (sv neg v)))):=by
 refine Ok.enter Tryz.func51 Y Tryz.ntmps51 Y (fun w O => ?_)
 refine ae (ai ?_)
 refine aS Y Y (ltN Y) (fun b => ?_)
 refine En Y (Ep (aa (ae (au (ae (ai (El (aj Y) (El (ak 0 Y Y Y) ?_))))))))
 refine El (am (cZ _) Y ⟨cz _,Er⟩) ?_
 refine El (aW Y) (El (cm Y Y) (En Y (Ep (aa ?_))))
 refine a5 Y (fun hc => ?_) (fun hc => ?_) <;> simp at hc
 ·have hv:v=0:=by rw [← bY v,hc]; rfl
  refine ae (ai (En Y (Ep (aa (aF (bK (aU ?_)))))))
  exact aV Tryz.results51 (.tmp Y (aq (by subst hv;simp [c6,sv])))
 ·have hv:v≠0:=by intro e;subst e;exact hc Y
  refine ae (ai (El (aj Y) (El (ak 0 Y Y Y) (En Y (Ep (aa ?_))))))
  refine a5 Y (fun hc2 => ?_) (fun hc2 => ?_)
  ·subst hc2
   refine ae (ai (En Y (Ep (aa (aF (bK (aU ?_)))))))
   exact aV Tryz.results51 (.tmp Y (aq (by congr 1;unfold c6 sv;simp only [if_true]; rw [if_neg X,if_pos X])))
  ·subst hc2
   refine az (aD (aa (ae (ai (En Y (Ep (aa (aF ?_))))))))
   exact aV Tryz.results51 (.tmp Y (aq (by congr 1;unfold c6 sv;simp only [Bool.false_eq_true,if_false]; rw [if_neg X,if_neg X])))
theorem ys (n1 n2:Bool) (v1 v2:Nat) (h1:(aK v1).length≤1099511627776) (h2:(aK v2).length≤1099511627776):Ok Tryz.prog 58 [sgT n1 v1,sgT n2 v2] (aL (sv n1 v1+sv n2 v2)):=by
 refine Ok.enter Tryz.func58 Y Tryz.ntmps58 Y (fun w O => ?_)
 refine ae (ai ?_)
 refine aS Y Y (ltN Y) (fun b => ?_)
 refine aS Y Y (ltN Y) (fun b => ?_)
 refine aG (T:=37) Y (ltN Y) (fun b => ?_)
 refine Ep (aa (ae (a8 8 a4 Z S (El (aj Y) (El (ak 2 Y Y Y) ?_)))))
 refine El (am (cZ _) Y ⟨cz _,Er⟩) ?_
 refine El (aj Y) (El (ak 1 Y Y Y) ?_)
 refine El (am (cZ _) Y ⟨cz _,Er⟩) ?_
 refine En Y (En Y (Ep (Ep (aa (ae (au (ae (ai (El (aj Y) ?_)))))))))
 refine El (ak 2 Y Y Y) (El (aj Y) (El (ak 1 Y Y Y) (El (xI Y Y) (En Y (Ep (aa ?_))))))
 refine a5 Y (fun hc => ?_) (fun hc => ?_) <;> simp at hc
 ·subst hc
  refine ae (a8 6 a4 Z S (El (aj Y) (El (ak 2 Y Y Y) (Em Y (Em Y ?_)))))
  refine El (am (vj _ _ h1 h2) Y ⟨H,H,Er⟩) ?_
  refine El (am (dE _ _) Y ⟨H,H,Er⟩) ?_
  refine Ep (aA 0 Y Y Y Y Y (leN Y) Y (Ep (aa (aF (bK (aU ?_))))))
  exact aV Tryz.results58 (.cellB 0 Y Y Y (cf (by unfold sv;split <;> omega)))
 ·refine ae (ai (Em Y (Em Y ?_)))
  refine El (am (kF _ _) Y ⟨H,H,Er⟩) ?_
  refine El (a7 Y Y) (En Y (Ep (aa ?_)))
  refine a5 Y (fun hc2 => ?_) (fun hc2 => ?_) <;> simp at hc2
  ·have hlt:v1<v2:=by
    unfold mq at hc2;split at hc2
    ·assumption
    ·split at hc2 <;> omega
   refine ae (a8 6 a4 Z S (El (aj Y) (El (ak 1 Y Y Y) (Em Y (Em Y ?_)))))
   refine El (am (ob _ _ X h2) Y ⟨H,H,Er⟩) ?_
   refine El (am (dE _ _) Y ⟨H,H,Er⟩) ?_
   refine Ep (aA 0 Y Y Y Y Y (leN Y) Y (Ep (aa (aF (bK (aU ?_))))))
   exact aV Tryz.results58 (.cellB 0 Y Y Y (cf (by unfold sv;cases n1 <;> cases n2 <;> simp at hc ⊢ <;> omega)))
  ·have hge:v2≤v1:=by
    unfold mq at hc2;split at hc2 <;> omega
   refine az (aD (aa (ae (a8 6 a4 Z S (El (aj Y) (El (ak 2 Y Y Y) (Em Y (Em Y ?_))))))))
   refine El (am (ob _ _ X h1) Y ⟨H,H,Er⟩) ?_
   refine El (am (dE _ _) Y ⟨H,H,Er⟩) ?_
   refine Ep (aA 0 Y Y Y Y Y (leN Y) Y (Ep (aa (aF ?_))))
   exact aV Tryz.results58 (.cellB 0 Y Y Y (cf (by unfold sv;cases n1 <;> cases n2 <;> simp at hc ⊢ <;> omega)))
theorem CA (n1 n2:Bool) (v1 v2:Nat) (h1:(aK v1).length≤1099511627776) (h2:(aK v2).length≤1099511627776):Ok Tryz.prog 96 [sgT n1 v1,sgT n2 v2] (aL (sv n1 v1 - sv n2 v2)):=by
 refine Ok.enter Tryz.func96 Y Tryz.ntmps96 Y (fun w O => ?_)
 refine ae (ai ?_)
 refine aS Y Y (ltN Y) (fun b => ?_)
 refine aS Y Y (ltN Y) (fun b => ?_)
 refine aG (T:=37) Y (ltN Y) (fun b => ?_)
 refine Ep (aa (ae (ai (El (aQ 2 Y Y) (El (aj Y) (El (ak 1 Y Y Y) (El (cR Y) (El (aj Y) (El (ak 1 Y Y Y) ?_)))))))))
 refine stB Y Y Y (BuildK.cons Y Y Y (BuildK.cons Y Y Y (BuildK.nil ?_)))
 refine El (am (ys n1 (!n2) v1 v2 h1 h2) Y ⟨H,H,Er⟩) ?_
 refine aA 0 Y Y Y Y Y (leN Y) Y (Ep (aa (aF ?_)))
 exact aV Tryz.results96 (.cellB 0 Y Y Y (cf (by unfold sv;cases n2 <;> simp <;> omega)))
theorem CB (n1 n2:Bool) (v1 v2:Nat) (h1:(aK v1).length≤1099511627776) (h2:(aK v2).length≤1099511627776):Ok Tryz.prog 54 [sgT n1 v1,sgT n2 v2] (aL (sv n1 v1*sv n2 v2)):=by
 refine Ok.enter Tryz.func54 Y Tryz.ntmps54 Y (fun w O => ?_)
 refine ae (ai ?_)
 refine aS Y Y (ltN Y) (fun b => ?_)
 refine aS Y Y (ltN Y) (fun b => ?_)
 refine aG (T:=37) Y (ltN Y) (fun b => ?_)
 refine Ep (aa (ae (a8 13 a4 Z S (El (aj Y) (El (ak 2 Y Y Y) (El (aj Y) (El (ak 1 Y Y Y) (El (jq Y Y) (El (aj Y) ?_)))))))))
 refine El (ak 2 Y Y Y) ?_
 refine El (am (cZ _) Y ⟨cz _,Er⟩) ?_
 refine El (aj Y) (El (ak 1 Y Y Y) ?_)
 refine El (am (cZ _) Y ⟨cz _,Er⟩) ?_
 skip
 refine El (am (yr _ _ h1 h2) Y ⟨H,H,Er⟩) ?_
 refine El (am (dE _ _) Y ⟨H,H,Er⟩) ?_
 refine Ep (aA 0 Y Y Y Y Y (leN Y) Y (Ep (aa (aF ?_))))
 exact aV Tryz.results54 (.cellB 0 Y Y Y (cf (by unfold sv;cases n1 <;> cases n2 <;> simp [Int.neg_mul,Int.mul_neg])))
theorem AC {n1 n2:Bool} {v1 v2:Nat} (h:c6 (sv n1 v1)=c6 (sv n2 v2)):IntKind.i64.wrap (c6 (sv n1 v1)*mq v1 v2)=cV (sv n1 v1) (sv n2 v2):=by
 have key:c6 (sv n1 v1)*mq v1 v2=cV (sv n1 v1) (sv n2 v2):=by
  unfold c6 sv mq cV at *
  cases n1 <;> cases n2 <;> simp only [if_true,if_false,Bool.false_eq_true] at * <;> (repeat' split at h) <;> (try omega) <;> (repeat' split) <;> omega
 rw [key]
 unfold cV;split
 ·decide
 ·split <;> decide
theorem CD (n1 n2:Bool) (v1 v2:Nat):Ok Tryz.prog 59 [sgT n1 v1,sgT n2 v2] (one (.int .i64 (cV (sv n1 v1) (sv n2 v2)))):=by
 refine Ok.enter Tryz.func59 Y Tryz.ntmps59 Y (fun w O => ?_)
 refine ae (ai ?_)
 refine aS Y Y (ltN Y) (fun b => ?_)
 refine aS Y Y (ltN Y) (fun b => ?_)
 refine En Y (Ep (aa (ae (a8 6 a4 Z S (El (aQ 1 Y Y) ?_)))))
 refine El (am (qM n1 v1) Y ⟨H,Er⟩) ?_
 refine El (aQ 0 Y Y) ?_
 refine El (am (qM n2 v2) Y ⟨H,Er⟩) ?_
 refine En Y (En Y (Ep (Ep (aa (ae (ae (ai (Em Y (Em Y ?_)))))))))
 refine El (dy Y Y) (Ep (aa ?_))
 refine a5 Y (fun hc => ?_) (fun hc => ?_) <;> simp only [decide_eq_true_eq,decide_eq_false_iff_not,ne_eq,Decidable.not_not] at hc
 ·refine ae (ai (Em Y (Em Y ?_)))
  refine El (am (jC _ _) Y ⟨H,H,Er⟩) ?_
  refine En Y (Ep (aa (aF (aU ?_))))
  exact aV Tryz.results59 (.tmp Y (aq (by congr 1;unfold c6 at *; unfold cV;split at hc <;> split at hc <;> (try split at hc) <;> (try split at hc) <;> simp at * <;> (repeat' split) <;> omega)))
 ·refine az (aa (ae (a8 10 a4 Z S (Em Y (El (aj Y) (El (ak 1 Y Y Y) ?_))))))
  refine El (am (cZ _) Y ⟨cz _,Er⟩) ?_
  refine El (aj Y) (El (ak 0 Y Y Y) ?_)
  refine El (am (cZ _) Y ⟨cz _,Er⟩) ?_
  skip
  refine El (am (kF _ _) Y ⟨H,H,Er⟩) ?_
  refine El (mS (r:=cV (sv n1 v1) (sv n2 v2)) Y Y (AC hc)) (En Y (Ep (Ep (aa (aF ?_)))))
  exact aV Tryz.results59 (.tmp Y H)
end Tor
end
section
namespace Tor
open Go Go.RowKit Go.Proofs
theorem pI {nb neg:Bool} {v:Nat} (h:nb=(neg && decide (v≠0))):VT.le (bC 2 [(0, .one,one (.bool nb)),(1, .one,co (aK v))]) (aL (if neg then -(v:Int) else v)):=by
 refine eW (fun q hq => ?_)
 simp only [List.mem_cons,List.not_mem_nil,or_false] at hq
 rcases hq with rfl | rfl
 ·have e:decide ((if neg then -(v:Int) else v)<0)=nb:=by rw [h]; cases neg <;> simp <;> (try omega) <;> (rw [Bool.eq_iff_iff]; simp;omega)
  exact ⟨_,List.mem_cons_self,gN (by rw [e])⟩
 ·refine ⟨_,List.mem_cons_of_mem _ List.mem_cons_self,lK ?_⟩
  cases neg <;> simp
theorem vk {b:Bool} {φ ψ:VT} (h:VT.le φ ψ):VT.le (bC 2 [(0, .one,one (.bool b)),(1, .one, φ)]) (bC 2 [(0, .one,one (.bool b)),(1, .one, ψ)]):=by
 refine eW (fun q hq => ?_)
 simp only [List.mem_cons,List.not_mem_nil,or_false] at hq
 rcases hq with rfl | rfl
 ·exact ⟨_,List.mem_cons_self,H⟩
 ·exact ⟨_,List.mem_cons_of_mem _ List.mem_cons_self,h⟩
attribute [local irreducible] J PJ aJ one slT bQ bC bv exT bZ eP aP aI slV VT.le Ret bJ
attribute [local irreducible] aL
theorem dm (neg:Bool) (v:Nat):Ok Tryz.prog 48 [oY v,one (.bool neg)] (aL (if neg then -(v:Int) else v)):=by
 refine Ok.enter Tryz.func48 Y Tryz.ntmps48 Y (fun w O => ?_)
 refine wb (t:=0) Y (fun l=>po (t:=0) Y (fun ⟨hL,hv,hb⟩ => ?_))
 subst hv
 refine ae (ai ?_)
 refine aG (T:=37) Y (ltN Y) (fun b => ?_)
 refine Ep (aa (ae (ai (Em Y (El (aW Y) (En Y (Ep (aa (ae ?_)))))))))
 refine au ?_
 refine cw (σ:=Nat) (fun n => [(0,co l),(1,one (.bool neg)),(4,one (.pointer (some ⟨b,0,none⟩))),(5,one (.int .i64 n))]) (fun _ => [aP b 37 2 [(0, .agg 2,one (.agg #[.bool false, .slice none 0 0]))]]) (fun n=>n≤l.length∧gW l n=gW l l.length) (fun n=>n) l.length ⟨Nat.le_refl _,rfl⟩ Ei (SubM.refl _) (fun n ⟨hn,ht⟩ => ?_)
 have hd:=n9 hL
 refine ae (ae ?_)
 refine fJ (σ:=Unit) (fun _ => [(0,co l),(1,one (.bool neg)),(4,one (.pointer (some ⟨b,0,none⟩))),(5,one (.int .i64 n)),(17,one (.bool (decide (0<n∧l.getD (n - 1) 0=0))))]) (fun _ => [aP b 37 2 [(0, .agg 2,one (.agg #[.bool false, .slice none 0 0]))]]) (fun _=>True) ?_ (fun _ _ => ?_)
 ·by_cases h0:0<n
  ·obtain ⟨n,rfl⟩ : ∃ m,n=m+1:=⟨n - 1,by omega⟩
   refine ai (Em Y (El (db Y Y) (Em Y ?_)))
   refine m6 (t:=10) Y (fun b hb => ?_)
   rw [hb]
   have:b=true:=by rw [← hb]; simp
   subst this
   refine Eo (ab Y) (Eo (ab Y) ?_)
   (refine Eo (eo Y Y (aO ?_ ?_)) ?_;omega;omega)
   (refine Eo (f9 Y Y ?_ ?_) ?_;omega;omega)
   refine Eo (aM Y) (Eo (cm Y Y) (El (bp Y Y) (Ep ?_)))
   exact cU () trivial (.cons Y H (.cons Y H (.cons Y H (.cons Y H (.cons Y (aq (by simp)) .nil))))) (SubM.refl _)
  ·refine ai (Em Y (El (db Y Y) (Em Y ?_)))
   refine m6 (t:=10) Y (fun b hb => ?_)
   rw [hb]
   have:b=false:=by rw [← hb]; simp;omega
   subst this
   refine sg0 Y Y Y Y (sg0 Y Y Y Y (sg0 Y Y Y Y (sg0 Y Y Y Y (sg0 Y Y Y Y (sg0 Y Y Y Y (El (bE Y Y) (Ep ?_)))))))
   exact cU () trivial (.cons Y H (.cons Y H (.cons Y H (.cons Y H (.cons Y (aq (by simp;omega)) .nil))))) (SubM.refl _)
 ·refine aa ?_
  refine a5 Y (fun hc => ?_) (fun hc => ?_) <;> simp only [decide_eq_true_eq,decide_eq_false_iff_not] at hc
  ·obtain ⟨n,rfl⟩ : ∃ m,n=m+1:=⟨n - 1,by omega⟩
   refine az (aa (au (ai (Em Y ?_))))
   (refine El (eo Y Y (aO ?_ ?_)) ?_;omega;omega)
   refine En Y (Ep (aD ?_))
   refine bO (s:=n+1) n ⟨by omega,by have h2:l.getD n 0=0:=hc.2;rw [← ht,gW,if_pos h2]⟩ X Ei (SubM.refl _)
  ·have hz:gW l n=n:=by
    cases n with
    | zero => rfl
    | succ n =>
     have h2 : ¬ l.getD n 0=0:=fun h=>hc ⟨by omega,h⟩
     rw [gW,if_neg h2]
   rw [ht] at hz
   rw [hz] at hd
   have hlen:(aK (lv l)).length=n:=by rw [← hd,List.length_take_of_le hn]
   have hnz:(0<n)↔lv l≠0:=by
    constructor
    ·intro h e;rw [e] at hlen;simp [iL] at hlen;omega
    ·intro h;rw [← hlen]; exact Nat.pos_of_ne_zero (fun e=>h (by rw [← bY (lv l),List.eq_nil_of_length_eq_zero e]; rfl))
   have hmag:VT.le (slT .one (0+((n:Int) - 0).toNat) fun q=>if q<0 then [].reverse.getD q bJ else one (.int .u32 (l.getD (Int.toNat 0+(q - 0)) 0:Nat))) (co (aK (lv l))) :=
    VT.le_trans (cB (m:=(l.take n).length) (ψ:=fun q=>one (.int .u32 ((l.take n).getD q 0:Nat))) (by rw [List.length_take_of_le hn]; omega) (fun q hq=>by
     simp only [Nat.not_lt_zero,if_false]
     rw [show Int.toNat 0+(q - 0)=q from by simp]
     simp [List.getElem?_take_of_lt (show q<n by omega)])) (lK hd)
   cases neg
   ·refine aX (av (av (aE (aa (ae (ai (Em Y (Em Y (sg0 Y Y Y Y ?_)))))))))
    refine sg0 Y Y Y Y (El (bE Y Y) (nJ (n:=0) Y Y Y Y Y ?_))
    refine PartsK.nil (fun b => ?_)
    refine Em Y (Em Y ?_)
    (refine El (fT Y Y Y Y (fun _=>rfl) ?_ ?_ ?_ ?_) ?_;omega;omega;omega;omega)
    (refine cW 0 Y Y Y (leN Y) ?_ ?_ Y (ltN Y) (fun sv cap => ?_);omega;omega)
    refine gK (t:=29) (j:=0) Y Y (stB Y Y Y (BuildK.cons Y Y Y (BuildK.cons Y Y Y (BuildK.nil (aA 0 Y Y Y Y Y (leN Y) Y (Ep (aa (aF ?_))))))))
    exact aV Tryz.results48 (.cellB 0 Y Y Y (VT.le_trans (vk hmag) (pI (by simp))))
   ·refine aX (av (av (aE (aa (ae (ai (Em Y (Em Y (Eo (ab Y) ?_)))))))))
    refine Eo (db Y Y) (El (bp Y Y) (nJ (n:=0) Y Y Y Y Y ?_))
    refine PartsK.nil (fun b => ?_)
    refine Em Y (Em Y ?_)
    (refine El (fT Y Y Y Y (fun _=>rfl) ?_ ?_ ?_ ?_) ?_;omega;omega;omega;omega)
    (refine cW 0 Y Y Y (leN Y) ?_ ?_ Y (ltN Y) (fun sv cap => ?_);omega;omega)
    refine gK (t:=29) (j:=0) Y Y (stB Y Y Y (BuildK.cons Y Y Y (BuildK.cons Y Y Y (BuildK.nil (aA 0 Y Y Y Y Y (leN Y) Y (Ep (aa (aF ?_))))))))
    exact aV Tryz.results48 (.cellB 0 Y Y Y (VT.le_trans (vk hmag) (pI (by rw [Bool.true_and]; exact decide_eq_decide.2 (by rw [← hnz]; omega)))))
end Tor
end
section
namespace Tor
open Go Go.RowKit Go.Proofs
attribute [local irreducible] J PJ aJ one slT bQ bC bv exT bZ eP aP aI slV VT.le Ret bJ
theorem lL (a b:Nat):Ok Tryz.prog 120 [co (aK a),co (aK b)] (one (.bool (decide (a<b)))):=by
 refine Ok.enter Tryz.func120 Y Tryz.ntmps120 Y (fun w O => ?_)
 refine iy (t:=0) Y (fun _ _=>eE) (fun hb => ?_)
 refine ae (ai (En Y (Ep (aa (ae (ae (ai (Em Y (El (aW Y) ?_)))))))))
 refine Em Y (El (aW Y) (El (dy Y Y) (Ep (aa ?_))))
 refine a5 Y (fun hc => ?_) (fun hc => ?_) <;> simp only [decide_eq_true_eq,decide_eq_false_iff_not,ne_eq,Decidable.not_not] at hc
 ·refine ae (ai (Em Y (El (aW Y) (Em Y (El (aW Y) (El (a7 Y Y) (En Y (Ep (aa ?_)))))))))
  refine aF (aU ?_)
  refine aV Tryz.results120 (.tmp Y (aq ?_))
  congr 1
  rw [decide_eq_decide]
  constructor
  ·intro h;exact iD X
  ·intro h;have:=cd (Nat.le_of_lt h);omega
 ·have hlen:(aK a).length=(aK b).length:=by omega
  refine az (aa (ae (ae (ai (Em Y (El (aW Y) ?_))))))
  (refine El (eo Y Y (aO ?_ ?_)) ?_;omega;omega)
  refine En Y (Ep (aa (au ?_)))
  refine cw (σ:=Nat) (fun n => [(0,co (aK a)),(1,co (aK b)),(5,one (.int .i64 ((n:Int) - 1)))]) (fun _ => []) (fun n=>n≤(aK a).length∧(aK a).drop n=(aK b).drop n) (fun n=>n) (aK a).length
   ⟨Nat.le_refl _,by rw [List.drop_length,hlen,List.drop_length]⟩ Ei (SubM.refl _) (fun n ⟨hn,hd⟩ => ?_)
  refine ae (ae (ai (Em Y (El (fh Y Y) (Ep (aa ?_))))))
  refine a5 Y (fun hc2 => ?_) (fun hc2 => ?_) <;> simp only [decide_eq_true_eq,decide_eq_false_iff_not] at hc2
  ·obtain ⟨n,rfl⟩ : ∃ m,n=m+1:=⟨n - 1,by omega⟩
   have e:((n+1:Nat):Int) - 1=n:=by omega
   rw [e]
   refine az (aa (ae (au (ae (a8 9 a4 Z S (Em Y (Em Y ?_)))))))
   (refine El (aC Y Y ?_) ?_;omega)
   refine El (aM Y) (Em Y (Em Y ?_))
   (refine El (aC Y Y ?_) ?_;omega)
   refine El (aM Y) (El (dy Y Y) (Ep (Ep (aa ?_))))
   refine a5 Y (fun hc3 => ?_) (fun hc3 => ?_) <;> simp only [decide_eq_true_eq,decide_eq_false_iff_not,ne_eq,Decidable.not_not] at hc3
   ·refine ae (a8 10 a4 Z S (Em Y (Em Y ?_)))
    (refine El (aC Y Y ?_) ?_;omega)
    refine El (aM Y) (Em Y (Em Y ?_))
    (refine El (aC Y Y ?_) ?_;omega)
    refine El (aM Y) (El (a7 Y Y) (En Y (Ep (Ep (aa (aF (bK (aU (aU ?_)))))))))
    refine bK (aU ?_)
    refine aV Tryz.results120 (.tmp Y (aq ?_))
    congr 1
    rw [decide_eq_decide]
    by_cases h1:(aK a).getD n 0<(aK b).getD n 0
    ·have:=qL (a6 a) (a6 b) hlen (i:=n) X hd h1
     rw [bY,bY] at this
     exact ⟨fun _=>this,fun _=>by omega⟩
    ·have:=qL (a6 b) (a6 a) hlen.symm (i:=n) X hd.symm X
     rw [bY,bY] at this
     exact ⟨fun h=>by omega,fun h=>by omega⟩
   ·refine az (aD (aa (ai (Em Y ?_))))
    (refine El (eo Y Y (aO ?_ ?_)) ?_;omega;omega)
    refine En Y (Ep ?_)
    refine bO (s:=n+1) n ⟨by omega,?_⟩ X Ei (SubM.refl _)
    have h3:(aK a).getD n 0=(aK b).getD n 0:=by omega
    have e1:=fN (l:=aK a) (k:=n) X
    have e2:=fN (l:=aK b) (k:=n) X
    rw [e1,e2,h3,hd]
  ·refine aX (av (av (aE (aa (ae (ai (En Y (Ep (aa ?_)))))))))
   refine aF ?_
   have h0:n=0:=by omega
   subst h0
   have h4:a=b:=r8 (by simpa using hd)
   exact aV Tryz.results120 (.tmp Y (aq (by subst h4;simp)))
theorem yt (neg:Bool) (v:Nat):Ok Tryz.prog 21 [sgT neg v] (one (.int .i64 (c6 (sv neg v)))):=by
 refine Ok.enter Tryz.func21 Y Tryz.ntmps21 Y (fun w O => ?_)
 refine ae (ai ?_)
 refine aS Y Y (ltN Y) (fun b => ?_)
 refine En Y (Ep (aa (ae (ae (ai (El (aj Y) (El (ak 0 Y Y Y) (El (aW Y) (El (cm Y Y) ?_)))))))))
 refine Ep (aa ?_)
 refine a5 Y (fun hc => ?_) (fun hc => ?_) <;> simp at hc
 ·have hv:v=0:=by rw [← bY v,hc]; rfl
  refine ae (ai (En Y (Ep (aa (aF (aU ?_))))))
  exact aV Tryz.results21 (.tmp Y (aq (by subst hv;simp [c6,sv])))
 ·have hv:v≠0:=by intro e;subst e;exact hc Y
  refine az (aa (ae (ae (ai (El (aj Y) (El (ak 0 Y Y Y) (Ep (aa ?_))))))))
  refine a5 Y (fun hc2 => ?_) (fun hc2 => ?_)
  ·subst hc2
   refine ae (ai (En Y (Ep (aa (aF (aU ?_))))))
   exact aV Tryz.results21 (.tmp Y (aq (by congr 1;unfold c6 sv;simp only [if_true]; rw [if_neg X,if_pos X])))
  ·subst hc2
   refine az (aa (ae (ai (En Y (Ep (aa (aF ?_)))))))
   exact aV Tryz.results21 (.tmp Y (aq (by congr 1;unfold c6 sv;simp only [Bool.false_eq_true,if_false]; rw [if_neg X,if_neg X])))
theorem oc (x y:Int):Ok Tryz.prog 76 [aL x,aL y] (one (.bool (decide (x=y)))):=by
 refine Ok.enter Tryz.func76 Y Tryz.ntmps76 Y (fun w O => ?_)
 refine ae (ai ?_)
 refine aS Y Y (ltN Y) (fun b => ?_)
 refine aS Y Y (ltN Y) (fun b => ?_)
 refine En Y (Ep (aa (ae (ai (El (aj Y) (El (ak 1 Y Y Y) (El (aj Y) (El (ak 0 Y Y Y) (El (xI Y Y) ?_)))))))))
 refine Em Y ?_
 refine m6 (t:=10) Y (fun b hb => ?_)
 rw [hb]
 cases b
 ·refine sg0 Y Y Y Y (sg0 Y Y Y Y (sg0 Y Y Y Y (sg0 Y Y Y Y (sg0 Y Y Y Y (sg0 Y Y Y Y (El (bE Y Y) (Em Y (sg0 Y Y Y Y (sg0 Y Y Y Y ?_)))))))))
  refine sg0 Y Y Y Y (sg0 Y Y Y Y (sg0 Y Y Y Y (sg0 Y Y Y Y (El (bE Y Y) (En Y (Ep (aa (aF ?_))))))))
  refine aV Tryz.results76 (.tmp Y (aq ?_))
  congr 1
  have : ¬ (x=y):=by intro e;subst e;simp at hb
  simp [this]
 ·have hs:(x<0)↔(y<0):=by simpa using hb
  refine Eo (aj Y) (Eo (ak 1 Y Y Y) (Eo (aj Y) (Eo (ak 0 Y Y Y) ?_)))
  refine Eo (am (lL _ _) Y ⟨H,H,Er⟩) ?_
  refine Eo (cR Y) (El (bp Y Y) (Em Y ?_))
  refine m6 (t:=18) Y (fun b hb2 => ?_)
  rw [hb2]
  cases b
  ·refine sg0 Y Y Y Y (sg0 Y Y Y Y (sg0 Y Y Y Y (sg0 Y Y Y Y (sg0 Y Y Y Y (sg0 Y Y Y Y (El (bE Y Y) (En Y (Ep (aa ?_)))))))))
   refine aF ?_
   refine aV Tryz.results76 (.tmp Y (aq ?_))
   congr 1
   simp at hb2
   have : ¬ (x=y):=by intro e;subst e;omega
   simp [this]
  ·simp at hb2
   refine Eo (aj Y) (Eo (ak 0 Y Y Y) (Eo (aj Y) (Eo (ak 1 Y Y Y) ?_)))
   refine Eo (am (lL _ _) Y ⟨H,H,Er⟩) ?_
   refine Eo (cR Y) (El (bp Y Y) (En Y (Ep (aa (aF ?_)))))
   refine aV Tryz.results76 (.tmp Y (aq ?_))
   congr 1
   rw [← decide_not,decide_eq_decide]
   omega
end Tor
end
section
namespace Tor
open Go Go.RowKit Go.Proofs
theorem gX (l:List Nat) (k:Nat):lv (l.take (k+1))=lv (l.take k)+4294967296^k*l.getD k 0:=by
 by_cases hk:k<l.length
 ·exact bM hk
 ·rw [List.take_of_length_le X,List.take_of_length_le X]; simp [List.getElem?_eq_none (Nat.le_of_not_lt hk)]
structure RPlus (lx ly zl:List Nat) (c:Nat):Prop where
 lim:bF zl
 c1:c≤1
 val:lv zl+4294967296^zl.length*c=lv (lx.take zl.length)+lv (ly.take zl.length)
 len:zl.length≤max lx.length ly.length+1
 big:max lx.length ly.length<zl.length→c=0
theorem RPlus.step {lx ly zl:List Nat} {c:Nat} (h:RPlus lx ly zl c) (hx:bF lx) (hy:bF ly) (hgo:zl.length<lx.length∨zl.length<ly.length∨0<c) :
  RPlus lx ly (zl ++ [(c+lx.getD zl.length 0+ly.getD zl.length 0) % 4294967296]) ((c+lx.getD zl.length 0+ly.getD zl.length 0) / 4294967296):=by
 have h1:=a9 hx zl.length
 have h2:=a9 hy zl.length
 have h3:=h.c1
 refine ⟨fun d hd => ?_,by omega,?_,?_,?_⟩
 ·rcases List.mem_append.1 hd with hd | hd
  ·exact h.lim d hd
  ·simp at hd;omega
 ·simp only [List.length_append,List.length_cons,List.length_nil,Nat.zero_add]
  rw [fM,gX,gX,Nat.pow_succ]
  have hv:=h.val
  generalize lx.getD zl.length 0=x at *
  generalize ly.getD zl.length 0=y at *
  generalize 4294967296^zl.length=B at *
  have e:(c+x+y)=4294967296*((c+x+y) / 4294967296)+(c+x+y) % 4294967296:=by omega
  generalize (c+x+y) / 4294967296=q at *
  generalize (c+x+y) % 4294967296=r at *
  simp only [lv,Nat.mul_zero,Nat.add_zero]
  have e2:B*(c+x+y)=B*(4294967296*q+r):=by rw [e]
  simp only [Nat.mul_add,Nat.mul_assoc] at e2 ⊢
  omega
 ·simp only [List.length_append,List.length_cons,List.length_nil,Nat.zero_add]
  have:=h.big;omega
 ·simp only [List.length_append,List.length_cons,List.length_nil,Nat.zero_add]
  intro hb
  have e1:lx.getD zl.length 0=0:=by simp [List.getElem?_eq_none (show lx.length≤zl.length by omega)]
  have e2:ly.getD zl.length 0=0:=by simp [List.getElem?_eq_none (show ly.length≤zl.length by omega)]
  rw [e1,e2]; omega
theorem sa (zl:List Nat) (v:Nat) : ∀ q,q<zl.length+1→(if q<zl.length then one (.int .u32 (zl.getD q 0:Nat)) else one (.int .u32 (v:Nat)))=one (.int .u32 ((zl ++ [v]).getD q 0:Nat)):=by
 intro q hq
 rw [j6]
 by_cases h:q<zl.length
 ·rw [if_pos h,if_neg X]
 ·have:q=zl.length:=by omega
  subst this
  rw [if_neg h,if_pos Y]
theorem gY {sv:Option Nat} {T:TypeId} {L:Lay} {cap n m:Nat} {φ ψ:Nat→VT} (h:n=m) (Ef : ∀ q,q<n→φ q=ψ q):Own.le (aI sv T L cap n φ) (aI sv T L cap m ψ):=by
 subst h;exact bg Ef
theorem lM {sv:Option Nat} {n m cap:Nat} (h:n=m):VT.le (one (slV sv n cap)) (one (slV sv m cap)):=h▸VT.le_refl _
attribute [local irreducible] J PJ aJ one slT bQ bC bv exT bZ eP aP aI slV VT.le Ret bJ
theorem yu (a b:Nat) (ha:(aK a).length≤1099511627776) (hb:(aK b).length≤1099511627776):Ok Tryz.prog 119 [co (aK a),co (aK b)] (oY (a+b)):=by
 refine Ok.enter Tryz.func119 Y Tryz.ntmps119 Y (fun w O => ?_)
 have hx:=a6 a
 have hy:=a6 b
 have hva:=bY a
 have hvb:=bY b
 generalize aK a=lx at *
 generalize aK b=ly at *
 refine ae (ai (En Y (Ep (aa (ae (ai (nJ (n:=0) Y Y Y Y Y ?_)))))))
 refine PartsK.nil (fun b => ?_)
 refine En Y (En Y (Ep (aa (ae (ae (ai (En Y (Ep (aa ?_)))))))))
 refine au ?_
 refine cw (σ:=List Nat × Nat × Option Nat × Nat) (fun s => [(0,co lx),(1,co ly),(5,one (slV s.2.2.1 s.1.length s.2.2.2)),(6,one (.int .u64 (s.2.1:Nat))),(7,one (.int .i64 s.1.length))])
   (fun s => [aI s.2.2.1 86 .one s.2.2.2 s.1.length (fun q=>one (.int .u32 (s.1.getD q 0:Nat)))]) (fun s=>RPlus lx ly s.1 s.2.1) (fun s=>2*(max lx.length ly.length - s.1.length)+s.2.1) ([],0,some b,0)
   ⟨(fun d hd=>by cases hd),Nat.zero_le _,by simp [lv],by simp,by simp⟩ Ei (.keep (bg (fun q hq=>by omega)) .nil) (fun s hR => ?_)
 obtain ⟨zl,c,sv0,cap0⟩:=s
 simp only at hR ⊢
 have h3:=hR.c1
 have hlen:=hR.len
 refine ae (ae ?_)
 refine fJ (σ:=Unit) (fun _ => [(0,co lx),(1,co ly),(5,one (slV sv0 zl.length cap0)),(6,one (.int .u64 (c:Nat))),(7,one (.int .i64 zl.length)),(22,one (.bool (decide (zl.length<lx.length∨zl.length<ly.length∨0<c))))])
  (fun _ => [aI sv0 86 .one cap0 zl.length (fun q=>one (.int .u32 (zl.getD q 0:Nat)))]) (fun _=>True) ?_ (fun _ _ => ?_)
 ·refine ai (Em Y (Em Y (El (aW Y) (El (a7 Y Y) (Em Y ?_)))))
  refine m6 (t:=13) Y (fun b h1 => ?_)
  rw [h1]
  cases b
  ·simp at h1
   refine Eo (ab Y) (Eo (ab Y) (Eo (aW Y) (Eo (a7 Y Y) (El (bE Y Y) (Em Y ?_)))))
   refine m6 (t:=19) Y (fun b h2 => ?_)
   rw [h2]
   cases b
   ·simp at h2
    refine Eo (ab Y) (Eo (db Y Y) (El (bE Y Y) (Ep ?_)))
    exact cU () trivial (.cons Y H (.cons Y H (.cons Y H (.cons Y H (.cons Y H (.cons Y (aq (by congr 1;rw [decide_eq_decide]; omega)) .nil)))))) (SubM.refl _)
   ·simp at h2
    refine sg0 Y Y Y Y (sg0 Y Y Y Y (El (bp Y Y) (Ep ?_)))
    exact cU () trivial (.cons Y H (.cons Y H (.cons Y H (.cons Y H (.cons Y H (.cons Y (aq (by simp;omega)) .nil)))))) (SubM.refl _)
  ·simp at h1
   refine sg0 Y Y Y Y (sg0 Y Y Y Y (sg0 Y Y Y Y (sg0 Y Y Y Y (El (bp Y Y) (Em Y (sg0 Y Y Y Y (sg0 Y Y Y Y (El (bp Y Y) (Ep ?_)))))))))
   exact cU () trivial (.cons Y H (.cons Y H (.cons Y H (.cons Y H (.cons Y H (.cons Y (aq (by simp;omega)) .nil)))))) (SubM.refl _)
 ·refine aa ?_
  refine a5 Y (fun hc => ?_) (fun hc => ?_) <;> simp only [decide_eq_true_eq,decide_eq_false_iff_not] at hc
  ·have hstep:=hR.step hx hy hc
   have g1:=a9 hx zl.length
   have g2:=a9 hy zl.length
   refine az (aa (ae (au (ae (ae (ai (Em Y (Em Y (El (aW Y) ?_)))))))))
   refine El (a7 Y Y) (Ep (aa ?_))
   refine fJ (σ:=Unit) (fun _ => [(0,co lx),(1,co ly),(5,one (slV sv0 zl.length cap0)),(6,one (.int .u64 (c+lx.getD zl.length 0:Nat))),(7,one (.int .i64 zl.length))])
    (fun _ => [aI sv0 86 .one cap0 zl.length (fun q=>one (.int .u32 (zl.getD q 0:Nat)))]) (fun _=>True) ?_ (fun _ _ => ?_)
   ·refine a5 Y (fun hc2 => ?_) (fun hc2 => ?_) <;> simp only [decide_eq_true_eq,decide_eq_false_iff_not] at hc2
    ·refine ai (Em Y (Em Y (Em Y ?_)))
     (refine El (aC Y Y ?_) ?_;omega)
     refine El (aM Y) ?_
     (refine El (bT Y ?_) ?_;omega)
     (refine El (dK Y Y ?_) ?_;omega)
     refine En Y (Ep ?_)
     exact cU () trivial Ei (SubM.refl _)
    ·have e0:lx.getD zl.length 0=0:=by simp [List.getElem?_eq_none (show lx.length≤zl.length by omega)]
     refine az ?_
     exact cU () trivial Ei (SubM.refl _)
   ·refine aa (ae (ae (ai (Em Y (Em Y (El (aW Y) (El (a7 Y Y) (Ep (aa ?_)))))))))
    refine fJ (σ:=Unit) (fun _ => [(0,co lx),(1,co ly),(5,one (slV sv0 zl.length cap0)),(6,one (.int .u64 (c+lx.getD zl.length 0+ly.getD zl.length 0:Nat))),(7,one (.int .i64 zl.length))])
     (fun _ => [aI sv0 86 .one cap0 zl.length (fun q=>one (.int .u32 (zl.getD q 0:Nat)))]) (fun _=>True) ?_ (fun _ _ => ?_)
    ·refine a5 Y (fun hc2 => ?_) (fun hc2 => ?_) <;> simp only [decide_eq_true_eq,decide_eq_false_iff_not] at hc2
     ·refine ai (Em Y (Em Y (Em Y ?_)))
      (refine El (aC Y Y ?_) ?_;omega)
      refine El (aM Y) ?_
      (refine El (bT Y ?_) ?_;omega)
      (refine El (dK Y Y ?_) ?_;omega)
      refine En Y (Ep ?_)
      exact cU () trivial Ei (SubM.refl _)
     ·have e0:ly.getD zl.length 0=0:=by simp [List.getElem?_eq_none (show ly.length≤zl.length by omega)]
      refine az ?_
      exact cU () trivial Ei (SubM.refl _)
    ·refine aa (ae (ai (Em Y (Em Y (El (cH Y) (gm Y Y Y Y ?_))))))
     (refine cW 0 Y Y Y (leN Y) ?_ ?_ Y (ltN Y) (fun sv cap => ?_);omega;omega)
     refine En Y (Ep (aa (ai (Em Y ?_))))
     (refine El (uV Y ?_) ?_;omega)
     refine En Y (Ep (aD (aa (ai (Em Y ?_)))))
     (refine El (ci Y Y (aO ?_ ?_)) ?_;omega;omega)
     refine En Y (Ep ?_)
     refine bO (s:=(zl,c,sv0,cap0)) (zl ++ [(c+lx.getD zl.length 0+ly.getD zl.length 0) % 4294967296],(c+lx.getD zl.length 0+ly.getD zl.length 0) / 4294967296,sv,cap) hstep ?_ (.cons Y H (.cons Y H (.cons Y (lM (by simp)) (.cons Y H (.cons Y (aq (by simp)) .nil))))) (.keep (gY (by simp) (fun q hq=>sa zl _ q (by simpa using hq))) .nil)
     have h8:=hstep.c1
     have h9:=hstep.big
     have h10:=hR.big
     simp only [List.length_append,List.length_cons,List.length_nil,Nat.zero_add] at *
     omega
  ·refine aX (av (av (aE (aa (ae (ai (Em Y (En Y (Ep ?_)))))))))
   refine aa (aF (cq (t:=4) (i:=0) Y Y ?_))
   refine aV Tryz.results119 (.tmp Y (iq (l:=zl) hR.lim ?_ X))
   have h4:=hR.val
   have h5:c=0:=by omega
   rw [h5,List.take_of_length_le X,List.take_of_length_le X,hva,hvb] at h4
   omega
end Tor
end
section
namespace Tor
open Go Go.RowKit Go.Proofs
theorem RMinus.step {lx ly zl:List Nat} {c:Nat} (h:MinusR lx ly zl c) (hx:bF lx) (hy:bF ly) (hl:ly.length≤lx.length) (hlt:zl.length<lx.length) :
  MinusR lx ly (zl ++ [(lx.getD zl.length 0+4294967296 - c - ly.getD zl.length 0) % 4294967296]) (if lx.getD zl.length 0<c+ly.getD zl.length 0 then 1 else 0):=by
 have h1:=a9 hx zl.length
 have h2:=a9 hy zl.length
 have h3:=h.c1
 have:=h.step hx hy hl hlt Y
 generalize lx.getD zl.length 0=x at *
 generalize ly.getD zl.length 0=y at *
 have e1:((x+18446744073709551616 - c) % 18446744073709551616+18446744073709551616 - y) % 18446744073709551616 % 4294967296=(x+4294967296 - c - y) % 4294967296:=by omega
 have e2:((x+18446744073709551616 - c) % 18446744073709551616+18446744073709551616 - y) % 18446744073709551616 / 9223372036854775808=if x<c+y then 1 else 0:=by split <;> omega
 rw [e1,e2] at this
 exact this
theorem wv (zl:List Nat) (v:Nat) : ∀ q,q<zl.length+1→v<4294967296→(if q<zl.length then one (.int .u32 (zl.getD q 0:Nat)) else one (.int .u32 (v % 4294967296:Nat)))=one (.int .u32 ((zl ++ [v]).getD q 0:Nat)):=by
 intro q hq hv
 rw [Nat.mod_eq_of_lt hv]
 exact sa zl v q hq
attribute [local irreducible] J PJ aJ one slT bQ bC bv exT bZ eP aP aI slV VT.le Ret bJ
theorem pJ (a b:Nat) (hab:b≤a) (ha:(aK a).length≤1099511627776):Ok Tryz.prog 121 [co (aK a),co (aK b)] (oY (a - b)):=by
 refine Ok.enter Tryz.func121 Y Tryz.ntmps121 Y (fun w O => ?_)
 have hx:=a6 a
 have hy:=a6 b
 have hl:=cd hab
 have hva:=bY a
 have hvb:=bY b
 generalize aK a=lx at *
 generalize aK b=ly at *
 refine ae (ai (En Y (Ep (aa (ae (ai (nJ (n:=0) Y Y Y Y Y ?_)))))))
 refine PartsK.nil (fun b => ?_)
 refine En Y (En Y (Ep (aa (ae (ae (ai (En Y (Ep (aa ?_)))))))))
 refine au ?_
 refine cw (σ:=List Nat × Nat × Option Nat × Nat) (fun s => [(0,co lx),(1,co ly),(5,one (slV s.2.2.1 s.1.length s.2.2.2)),(6,one (.int .i64 (s.2.1:Nat))),(7,one (.int .i64 s.1.length))])
   (fun s => [aI s.2.2.1 86 .one s.2.2.2 s.1.length (fun q=>one (.int .u32 (s.1.getD q 0:Nat)))]) (fun s=>MinusR lx ly s.1 s.2.1) (fun s=>lx.length - s.1.length) ([],0,some b,0)
   ⟨by simp,(fun d hd=>by cases hd),Nat.zero_le _,by simp [lv]⟩ Ei (.keep (bg (fun q hq=>by omega)) .nil) (fun s hR => ?_)
 obtain ⟨zl,c,sv0,cap0⟩:=s
 simp only at hR ⊢
 have h3:=hR.c1
 have hlen:=hR.len
 refine ae (ae (ai (Em Y (Em Y (El (aW Y) (El (a7 Y Y) (Ep (aa ?_))))))))
 refine a5 Y (fun hc => ?_) (fun hc => ?_) <;> simp at hc
 ·have hstep:=RMinus.step hR hx hy hl hc
  have g1:=a9 hx zl.length
  have g2:=a9 hy zl.length
  refine az (aa (ae (au (ae (ai (Em Y (Em Y ?_)))))))
  (refine El (aC Y Y ?_) ?_;omega)
  refine El (aM Y) ?_
  (refine El (dG Y ?_ ?_) ?_;omega;omega)
  refine Em Y ?_
  (refine El (eo Y Y (aO ?_ ?_)) ?_;omega;omega)
  refine En Y (Ep (aa (ae (ae (ai (Em Y (Em Y (El (aW Y) (El (a7 Y Y) ?_)))))))))
  refine Ep (aa ?_)
  refine fJ (σ:=Unit) (fun _ => [(0,co lx),(1,co ly),(5,one (slV sv0 zl.length cap0)),(8,one (.int .i64 ((lx.getD zl.length 0:Nat) - (c:Nat) - (ly.getD zl.length 0:Nat)))),(7,one (.int .i64 zl.length))])
   (fun _ => [aI sv0 86 .one cap0 zl.length (fun q=>one (.int .u32 (zl.getD q 0:Nat)))]) (fun _=>True) ?_ (fun _ _ => ?_)
  ·refine a5 Y (fun hc => ?_) (fun hc => ?_) <;> simp at hc
   ·refine ai (Em Y (Em Y (Em Y ?_)))
    (refine El (aC Y Y ?_) ?_;omega)
    refine El (aM Y) ?_
    (refine El (dG Y ?_ ?_) ?_;omega;omega)
    (refine El (eo Y Y (aO ?_ ?_)) ?_;omega;omega)
    refine En Y (Ep ?_)
    exact cU () trivial Ei (SubM.refl _)
   ·have e0:ly.getD zl.length 0=0:=by simp [List.getElem?_eq_none (show ly.length≤zl.length by omega)]
    refine az ?_
    exact cU () trivial Ei (SubM.refl _)
  ·generalize lx.getD zl.length 0=x at *
   generalize ly.getD zl.length 0=y at *
   refine aa (ae (ai (En Y (Ep (aa (ae (ae (ai (Em Y ?_)))))))))
   refine El (a7 Y Y) (Ep (aa ?_))
   refine fJ (σ:=Unit) (fun _ => [(0,co lx),(1,co ly),(5,one (slV sv0 zl.length cap0)),(6,one (.int .i64 ((if x<c+y then 1 else 0:Nat)))),(8,one (.int .i64 ((x+4294967296 - c - y) % 4294967296:Nat))),(7,one (.int .i64 zl.length))])
    (fun _ => [aI sv0 86 .one cap0 zl.length (fun q=>one (.int .u32 (zl.getD q 0:Nat)))]) (fun _=>True) ?_ (fun _ _ => ?_)
   ·refine a5 Y (fun hc => ?_) (fun hc => ?_) <;> simp at hc
    ·refine ae (ai (Em Y ?_))
     (refine El (ci Y Y (aO ?_ ?_)) ?_;omega;omega)
     refine En Y (Ep (aa (ai (En Y (Ep ?_)))))
     rw [if_pos X]
     exact cU () trivial (.cons Y H (.cons Y H (.cons Y H (.cons Y H (.cons Y (aq (by congr 1;omega)) (.cons Y H .nil)))))) (SubM.refl _)
    ·refine az ?_
     rw [if_neg X]
     exact cU () trivial (.cons Y H (.cons Y H (.cons Y H (.cons Y H (.cons Y (aq (by congr 1;omega)) (.cons Y H .nil)))))) (SubM.refl _)
   ·generalize (x+4294967296 - c - y) % 4294967296=d at *
    generalize (if x<c+y then 1 else 0)=c2 at *
    refine aa (ai (Em Y (Em Y (El (cH Y) (gm Y Y Y Y ?_)))))
    (refine cW 0 Y Y Y (leN Y) ?_ ?_ Y (ltN Y) (fun sv cap => ?_);omega;omega)
    refine En Y (Ep (aD (aa (ai (Em Y ?_)))))
    (refine El (ci Y Y (aO ?_ ?_)) ?_;omega;omega)
    refine En Y (Ep ?_)
    refine bO (s:=(zl,c,sv0,cap0)) (zl ++ [d],c2,sv,cap) hstep ?_ (.cons Y H (.cons Y H (.cons Y (lM (by simp)) (.cons Y H (.cons Y (aq (by simp)) .nil))))) (.keep (gY (by simp) (fun q hq=>wv zl _ q (by simpa using hq) (hstep.lim d (by simp)))) .nil)
    simp only [List.length_append,List.length_cons,List.length_nil,Nat.zero_add] at *
    omega
 ·have hlen:zl.length=lx.length:=by have:=hR.len;omega
  refine aX (av (av (aE (aa (ae (ai (Em Y (En Y (Ep ?_)))))))))
  refine aa (aF (cq (t:=4) (i:=0) Y Y ?_))
  refine aV Tryz.results121 (.tmp Y (iq (l:=zl) hR.lim ?_ X))
  have h4:=hR.val
  rw [hlen,List.take_length,List.take_of_length_le X,hva,hvb] at h4
  have h5:=gV hR.lim
  rw [hlen] at h5
  have h6:=gV hx
  rcases Nat.le_one_iff_eq_zero_or_eq_one.1 hR.c1 with h7 | h7 <;> simp only [h7,Nat.mul_zero,Nat.mul_one,Nat.add_zero] at h4 <;> omega
end Tor
end
section
namespace Tor
open Go Go.RowKit Go.Proofs
theorem sb (u:Nat) (h:u<18446744073709551616):VT.le (slT .one 2 (fun q => [one (.int .u32 ((u / 4294967296 % 4294967296:Nat):Int)),one (.int .u32 ((u % 4294967296:Nat):Int))].reverse.getD q bJ)) (oY u):=by
 refine VT.le_trans (cB (m:=2) (ψ:=fun i=>one (.int .u32 ([u % 4294967296,u / 4294967296 % 4294967296].getD i 0:Nat))) Y (fun q hq => ?_)) (iq (l := [u % 4294967296,u / 4294967296 % 4294967296]) (fun d hd => ?_) ?_ (by simp))
 ·match q,hq with
  | 0, _ => rfl
  | 1, _ => rfl
 ·simp at hd;omega
 ·simp only [lv]; omega
attribute [local irreducible] J PJ aJ one slT bQ bC bv exT bZ eP aP aI slV VT.le Ret bJ
theorem gZ (n:Int) (h1 : -9223372036854775808≤n) (h2:n≤9223372036854775807):Ok Tryz.prog 12 [one (.int .i64 n)] (aL n):=by
 refine Ok.enter Tryz.func12 Y Tryz.ntmps12 Y (fun w O => ?_)
 by_cases hn:n<0
 ·refine ae (ai ?_)
  refine aG (T:=37) Y (ltN Y) (fun b => ?_)
  refine Ep (aa (ae (ai (Em Y (El (jr (r:=((18446744073709551616 - n.natAbs:Nat):Int)) Y (by rw [dz]; omega)) (En Y (Ep (aa (ae ?_)))))))))
  refine ae (ai (Em Y (El (a7 Y Y) (Ep (aa ?_)))))
  refine a5 Y (fun hc => ?_) (fun hc => ?_) <;> simp at hc
  ·refine ai (Em Y (El (Ca (r:=(n.natAbs:Int)) Y (by rw [dz]; omega)) (En Y (Ep (aa (ae (ai (Em Y (El (cH Y) ?_)))))))))
   refine Em Y (El (gv Y) (El (cH Y) (stS Y Y Y Y (PartsK.cons Y (PartsK.cons Y (PartsK.nil (Em Y (El (a7 Y Y) ?_))))))))
   refine El (am (dm (decide (n<0)) n.natAbs) Y ⟨sb _ X,H,Er⟩) ?_
   refine aA 0 Y Y Y Y Y (leN Y) Y (Ep (aa (aF ?_)))
   exact aV Tryz.results12 (.cellB 0 Y Y Y (cf (by rw [decide_eq_true hn,if_pos Y]; omega)))
  ·omega
 ·refine ae (ai ?_)
  refine aG (T:=37) Y (ltN Y) (fun b => ?_)
  refine Ep (aa (ae (ai (Em Y (El (jr (r:=(n.natAbs:Int)) Y (by rw [dz]; omega)) (En Y (Ep (aa (ae ?_)))))))))
  refine ae (ai (Em Y (El (a7 Y Y) (Ep (aa ?_)))))
  refine a5 Y (fun hc => ?_) (fun hc => ?_) <;> simp at hc
  ·omega
  ·refine az (aa (ae (ai (Em Y (El (cH Y) (Em Y (El (gv Y) (El (cH Y) (stS Y Y Y Y ?_)))))))))
   refine PartsK.cons Y (PartsK.cons Y (PartsK.nil (Em Y (El (a7 Y Y) ?_))))
   refine El (am (dm (decide (n<0)) n.natAbs) Y ⟨sb _ X,H,Er⟩) ?_
   refine aA 0 Y Y Y Y Y (leN Y) Y (Ep (aa (aF ?_)))
   exact aV Tryz.results12 (.cellB 0 Y Y Y (cf (by rw [decide_eq_false hn]; simp;omega)))
theorem AD (n1 n2:Bool) (v1 v2:Nat) (h1:(aK v1).length≤1099511627776) (h2:(aK v2).length≤1099511627776):Ok Tryz.prog 71 [sgT n1 v1,sgT n2 v2] (aL (sv n1 v1+sv n2 v2)):=by
 refine Ok.enter Tryz.func71 Y Tryz.ntmps71 Y (fun w O => ?_)
 refine ae (ai ?_)
 refine aS Y Y (ltN Y) (fun b => ?_)
 refine aS Y Y (ltN Y) (fun b => ?_)
 refine aG (T:=37) Y (ltN Y) (fun b => ?_)
 refine Ep (aa (ae (ae (ai (El (aj Y) (El (ak 2 Y Y Y) (El (aj Y) (El (ak 1 Y Y Y) (El (xI Y Y) ?_)))))))))
 refine Ep (aa ?_)
 refine a5 Y (fun hc => ?_) (fun hc => ?_) <;> simp at hc
 ·subst hc
  refine ae (a8 8 a4 Z S (El (aj Y) (El (ak 2 Y Y Y) (El (aj Y) (El (ak 1 Y Y Y) ?_)))))
  refine El (am (yu _ _ h1 h2) Y ⟨H,H,Er⟩) ?_
  refine El (aj Y) (El (ak 2 Y Y Y) ?_)
  refine El (am (dm _ _) Y ⟨H,H,Er⟩) ?_
  refine Ep (aA 0 Y Y Y Y Y (leN Y) Y (Ep (aa (aF (aU ?_)))))
  exact aV Tryz.results71 (.cellB 0 Y Y Y (cf (by unfold sv;split <;> omega)))
 ·refine az (aa (ae (ae (ai (El (aj Y) (El (ak 2 Y Y Y) (El (aj Y) (El (ak 1 Y Y Y) ?_))))))))
  refine El (am (lL _ _) Y ⟨H,H,Er⟩) ?_
  refine Ep (aa ?_)
  refine a5 Y (fun hc2 => ?_) (fun hc2 => ?_) <;> simp at hc2
  ·refine ae (a8 8 a4 Z S (El (aj Y) (El (ak 1 Y Y Y) (El (aj Y) (El (ak 2 Y Y Y) ?_)))))
   refine El (am (pJ _ _ X h2) Y ⟨H,H,Er⟩) ?_
   refine El (aj Y) (El (ak 1 Y Y Y) ?_)
   refine El (am (dm _ _) Y ⟨H,H,Er⟩) ?_
   refine Ep (aA 0 Y Y Y Y Y (leN Y) Y (Ep (aa (aF (aU ?_)))))
   exact aV Tryz.results71 (.cellB 0 Y Y Y (cf (by unfold sv;cases n1 <;> cases n2 <;> simp at hc ⊢ <;> omega)))
  ·refine az (aa (ae (a8 8 a4 Z S (El (aj Y) (El (ak 2 Y Y Y) (El (aj Y) (El (ak 1 Y Y Y) ?_)))))))
   refine El (am (pJ _ _ X h1) Y ⟨H,H,Er⟩) ?_
   refine El (aj Y) (El (ak 2 Y Y Y) ?_)
   refine El (am (dm _ _) Y ⟨H,H,Er⟩) ?_
   refine Ep (aA 0 Y Y Y Y Y (leN Y) Y (Ep (aa (aF ?_))))
   exact aV Tryz.results71 (.cellB 0 Y Y Y (cf (by unfold sv;cases n1 <;> cases n2 <;> simp at hc ⊢ <;> omega)))
end Tor
end
section
namespace Tor
open Go Go.RowKit Go.Proofs
structure RTimesR (lx ly zz:List Nat) (i:Nat):Prop where
 le:i≤lx.length
 len:zz.length=lx.length+ly.length+1
 lim:bF zz
 zero : ∀ k,i+ly.length≤k→zz.getD k 0=0
 val:lv zz=lv (lx.take i)*lv ly
structure RTimesI (lx ly z0 zz:List Nat) (i j c:Nat):Prop where
 le:j≤ly.length+1
 top:ly.length<j→c=0
 len:zz.length=lx.length+ly.length+1
 lim:bF zz
 zero : ∀ k,i+ly.length<k→zz.getD k 0=0
 zer1:j≤ly.length→zz.getD (i+ly.length) 0=0
 c1:c<4294967296
 val:lv zz+4294967296^(i+j)*c=lv z0+4294967296^i*(lx.getD i 0*lv (ly.take j))
theorem RTimesI.step {lx ly z0 zz:List Nat} {i j c:Nat} (h:RTimesI lx ly z0 zz i j c) (hx:bF lx) (hy:bF ly) (hi:i<lx.length) (hgo:j<ly.length∨0<c) :
  RTimesI lx ly z0 (zz.set (i+j) ((c+zz.getD (i+j) 0+lx.getD i 0*ly.getD j 0) % 4294967296)) i (j+1) ((c+zz.getD (i+j) 0+lx.getD i 0*ly.getD j 0) / 4294967296):=by
 have hj:j≤ly.length:=by have:=h.le;have:=h.top;omega
 have hlim:=lI (a9 hx i) (a9 hy j) (a9 h.lim (i+j)) h.c1
 have hlt:i+j<zz.length:=by rw [h.len]; omega
 refine ⟨by omega,fun ht => ?_,by rw [List.length_set]; exact h.len,h.lim.set X,fun k hk => ?_,fun hk => ?_,by omega,?_⟩
 ·have e:j=ly.length:=by omega
  subst e
  rw [h.zer1 (Nat.le_refl _)]
  have e2:ly.getD ly.length 0=0:=by simp
  rw [e2,Nat.mul_zero]
  have:=h.c1;omega
 ·rw [d5 hlt,if_neg X]; exact h.zero k hk
 ·rw [d5 hlt,if_neg X]; exact h.zer1 X
 ·have hs:=fO (l:=zz) (k:=i+j) (v:=(c+zz.getD (i+j) 0+lx.getD i 0*ly.getD j 0) % 4294967296) hlt
  have hv:=h.val
  rw [gX]
  generalize lx.getD i 0=x at *
  generalize ly.getD j 0=y at *
  generalize zz.getD (i+j) 0=z at *
  have e:c+z+x*y=4294967296*((c+z+x*y) / 4294967296)+(c+z+x*y) % 4294967296:=by omega
  generalize (c+z+x*y) / 4294967296=q at *
  generalize (c+z+x*y) % 4294967296=r at *
  rw [show i+(j+1)=(i+j)+1 by omega,Nat.pow_succ]
  have eB:4294967296^i*4294967296^j=4294967296^(i+j):=(Nat.pow_add _ _ _).symm
  have e3:4294967296^i*(x*(lv (ly.take j)+4294967296^j*y))=4294967296^i*(x*lv (ly.take j))+4294967296^(i+j)*(x*y):=by
   rw [Nat.mul_add,Nat.mul_add, ← eB]
   congr 1
   rw [Nat.mul_assoc]; congr 1
   rw [Nat.mul_left_comm]
  rw [e3]
  generalize 4294967296^(i+j)=B at *
  have e2:B*(c+z+x*y)=B*(4294967296*q+r):=by rw [e]
  simp only [Nat.mul_add, ← Nat.mul_assoc] at e2 ⊢ hs hv
  omega
theorem RTimesR.start {lx ly z0:List Nat} {i:Nat} (h:RTimesR lx ly z0 i):RTimesI lx ly z0 z0 i 0 0 :=
 ⟨Nat.zero_le _,fun _=>rfl,h.len,h.lim,fun k hk=>h.zero k X,fun _=>h.zero _ (Nat.le_refl _),by omega,by simp [lv]⟩
theorem RTimesI.finish {lx ly z0 zz:List Nat} {i j:Nat} (h0:RTimesR lx ly z0 i) (h:RTimesI lx ly z0 zz i j 0) (hj:ly.length≤j) (hi:i<lx.length):RTimesR lx ly zz (i+1):=by
 refine ⟨hi,h.len,h.lim,fun k hk=>h.zero k X,?_⟩
 have hv:=h.val
 rw [Nat.mul_zero,Nat.add_zero,List.take_of_length_le hj,h0.val] at hv
 rw [hv,bM hi,Nat.add_mul,Nat.mul_assoc]
attribute [local irreducible] J PJ aJ one slT bQ bC bv exT bZ eP aP aI slV VT.le Ret bJ
attribute [local irreducible] aL
theorem AE (n1 n2:Bool) (v1 v2:Nat) (h1:(aK v1).length≤1099511627776) (h2:(aK v2).length≤1099511627776):Ok Tryz.prog 35 [sgT n1 v1,sgT n2 v2] (aL (sv n1 v1*sv n2 v2)):=by
 unfold sgT
 refine Ok.enter Tryz.func35 Y Tryz.ntmps35 Y (fun w O => ?_)
 have hx:=a6 v1
 have hy:=a6 v2
 have hva:=bY v1
 have hvb:=bY v2
 generalize aK v1=lx at *
 generalize aK v2=ly at *
 refine ae (ai ?_)
 refine aS Y Y (ltN Y) (fun b => ?_)
 refine aS Y Y (ltN Y) (fun b => ?_)
 refine aG (T:=37) Y (ltN Y) (fun b => ?_)
 refine Ep (aa (ae (ai (El (aj Y) (El (ak 2 Y Y Y) (El (aW Y) (El (aj Y) (El (ak 1 Y Y Y) (El (aW Y) ?_)))))))))
 (refine El (ci Y Y (aO ?_ ?_)) ?_;omega;omega)
 (refine El (ci Y Y (aO ?_ ?_)) ?_;omega;omega)
 rename_i ba bb
 refine bV (lx.length+ly.length+1) (lx.length+ly.length+1) Y Y (by simp) (by simp) (Nat.le_refl _) Y Y X Y Y (fun bz => ?_)
 refine En Y (Ep (aa (ae (ae (ai (En Y (Ep (aa (au ?_)))))))))
 refine cw (σ:=List Nat × Nat) (fun s => [(2,one (.pointer (some ⟨ba,0,none⟩))),(3,one (.pointer (some ⟨bb,0,none⟩))),(4,one (.pointer (some ⟨b,0,none⟩))),(5,one (slV (some bz) (lx.length+ly.length+1) (lx.length+ly.length+1))),(6,one (.int .i64 (s.2:Nat)))])
   (fun s => [aI (some bz) 86 .one (lx.length+ly.length+1) (lx.length+ly.length+1) (fun q=>one (.int .u32 (s.1.getD q 0:Nat))),aP b 37 2 [(0, .agg 2,one (.agg #[.bool false, .slice none 0 0]))],aP bb 37 2 [(0, .one,one (.bool n2)),(1, .one,co ly)],aP ba 37 2 [(0, .one,one (.bool n1)),(1, .one,co lx)]])
   (fun s=>RTimesR lx ly s.1 s.2) (fun s=>lx.length - s.2) (List.replicate (lx.length+ly.length+1) 0,0)
   ⟨Nat.zero_le _,by simp,bF.replicate _,fun k _=>cx _ _,by simp [dT,lv]⟩ Ei (.keep (bg (fun q _=>by rw [cx]; rfl)) (SubM.refl _)) (fun s hR => ?_)
 obtain ⟨z0,i⟩:=s
 simp only at hR ⊢
 refine ae (ae (ai (Em Y (El (aj Y) (El (ak 3 Y Y Y) (El (aW Y) (El (a7 Y Y) (Ep (aa ?_)))))))))
 refine a5 Y (fun hc => ?_) (fun hc => ?_) <;> simp at hc
 ·have g1:=a9 hx i
  refine az (aa (ae (au (ae (ai (En Y (Ep (aa (ae ?_)))))))))
  refine ai (En Y (Ep (aa (au ?_))))
  refine cw (σ:=List Nat × Nat × Nat) (fun s => [(2,one (.pointer (some ⟨ba,0,none⟩))),(3,one (.pointer (some ⟨bb,0,none⟩))),(4,one (.pointer (some ⟨b,0,none⟩))),(5,one (slV (some bz) (lx.length+ly.length+1) (lx.length+ly.length+1))),(6,one (.int .i64 (i:Nat))),(7,one (.int .u64 (s.2.2:Nat))),(8,one (.int .i64 (s.2.1:Nat)))])
   (fun s => [aI (some bz) 86 .one (lx.length+ly.length+1) (lx.length+ly.length+1) (fun q=>one (.int .u32 (s.1.getD q 0:Nat))),aP b 37 2 [(0, .agg 2,one (.agg #[.bool false, .slice none 0 0]))],aP bb 37 2 [(0, .one,one (.bool n2)),(1, .one,co ly)],aP ba 37 2 [(0, .one,one (.bool n1)),(1, .one,co lx)]])
   (fun s=>RTimesI lx ly z0 s.1 i s.2.1 s.2.2) (fun s=>ly.length+1 - s.2.1) (z0,0,0)
   hR.start Ei (SubM.refl _) (fun s hI => ?_)
  obtain ⟨zz,j,c⟩:=s
  simp only at hI ⊢
  have g0:=hI.c1
  have gj:=hI.le
  refine ae (ae ?_)
  refine fJ (σ:=Unit) (fun _ => [(2,one (.pointer (some ⟨ba,0,none⟩))),(3,one (.pointer (some ⟨bb,0,none⟩))),(4,one (.pointer (some ⟨b,0,none⟩))),(5,one (slV (some bz) (lx.length+ly.length+1) (lx.length+ly.length+1))),(6,one (.int .i64 (i:Nat))),(7,one (.int .u64 (c:Nat))),(8,one (.int .i64 (j:Nat))),(33,one (.bool (decide (j<ly.length∨0<c))))])
   (fun _ => [aI (some bz) 86 .one (lx.length+ly.length+1) (lx.length+ly.length+1) (fun q=>one (.int .u32 (zz.getD q 0:Nat))),aP b 37 2 [(0, .agg 2,one (.agg #[.bool false, .slice none 0 0]))],aP bb 37 2 [(0, .one,one (.bool n2)),(1, .one,co ly)],aP ba 37 2 [(0, .one,one (.bool n1)),(1, .one,co lx)]]) (fun _=>True) ?_ (fun _ _ => ?_)
  ·refine ai (Em Y (El (aj Y) (El (ak 2 Y Y Y) (El (aW Y) (El (a7 Y Y) (Em Y ?_))))))
   refine m6 (t:=29) Y (fun bo hb => ?_)
   rw [hb]
   cases bo
   ·simp at hb
    refine Eo (ab Y) (Eo (db Y Y) (El (bE Y Y) (Ep ?_)))
    exact cU () trivial (.cons Y H (.cons Y H (.cons Y H (.cons Y H (.cons Y H (.cons Y H (.cons Y H (.cons Y (aq (by congr 1;rw [decide_eq_decide]; omega)) .nil)))))))) (SubM.refl _)
   ·simp at hb
    refine sg0 Y Y Y Y (sg0 Y Y Y Y (El (bp Y Y) (Ep ?_)))
    exact cU () trivial (.cons Y H (.cons Y H (.cons Y H (.cons Y H (.cons Y H (.cons Y H (.cons Y H (.cons Y (aq (by simp;omega)) .nil)))))))) (SubM.refl _)
  ·refine aa ?_
   refine a5 Y (fun hc2 => ?_) (fun hc2 => ?_) <;> simp only [decide_eq_true_eq,decide_eq_false_iff_not] at hc2
   ·have hstep:=hI.step hx hy hc hc2
    have hjl:j≤ly.length:=by have:=hI.top;omega
    have g2:=a9 hy j
    have g3:=a9 hI.lim (i+j)
    have g4:=lI g1 g2 g3 g0
    have hlt:i+j<zz.length:=by rw [hI.len]; omega
    refine az (aa (ae (au (ae (ai (Em Y (Em Y (Em Y (Em Y ?_)))))))))
    (refine El (ci Y Y (aO ?_ ?_)) ?_;omega;omega)
    (refine El (ao Y Y ?_) ?_;omega)
    (refine El (be 0 Y Y ?_) ?_;omega)
    (refine El (bT Y ?_) ?_;omega)
    (refine El (dK Y Y ?_) ?_;omega)
    refine En Y (Ep (aa (ae (ae (ai (Em Y (El (aj Y) (El (ak 2 Y Y Y) (El (aW Y) ?_)))))))))
    refine El (a7 Y Y) (Ep (aa ?_))
    refine fJ (σ:=Unit) (fun _ => [(2,one (.pointer (some ⟨ba,0,none⟩))),(3,one (.pointer (some ⟨bb,0,none⟩))),(4,one (.pointer (some ⟨b,0,none⟩))),(5,one (slV (some bz) (lx.length+ly.length+1) (lx.length+ly.length+1))),(6,one (.int .i64 (i:Nat))),(7,one (.int .u64 (c+zz.getD (i+j) 0+lx.getD i 0*ly.getD j 0:Nat))),(8,one (.int .i64 (j:Nat)))])
     (fun _ => [aI (some bz) 86 .one (lx.length+ly.length+1) (lx.length+ly.length+1) (fun q=>one (.int .u32 (zz.getD q 0:Nat))),aP b 37 2 [(0, .agg 2,one (.agg #[.bool false, .slice none 0 0]))],aP bb 37 2 [(0, .one,one (.bool n2)),(1, .one,co ly)],aP ba 37 2 [(0, .one,one (.bool n1)),(1, .one,co lx)]]) (fun _=>True) ?_ (fun _ _ => ?_)
    ·refine a5 Y (fun hc3 => ?_) (fun hc3 => ?_) <;> simp only [decide_eq_true_eq,decide_eq_false_iff_not] at hc3
     ·skip
      refine a8 16 a4 Z S (Em Y (El (aj Y) (El (ak 3 Y Y Y) (Em Y ?_))))
      (refine El (aC Y Y ?_) ?_;omega)
      refine El (aM Y) ?_
      (refine El (bT Y ?_) ?_;omega)
      refine El (aj Y) (El (ak 2 Y Y Y) (Em Y ?_))
      (refine El (aC Y Y ?_) ?_;omega)
      refine El (aM Y) ?_
      (refine El (bT Y ?_) ?_;omega)
      (refine El (fK Y Y ?_) ?_;omega)
      (refine El (dK Y Y ?_) ?_;omega)
      refine En Y (Ep (Ep ?_))
      exact cU () trivial Ei (SubM.refl _)
     ·have e0:ly.getD j 0=0:=by simp [List.getElem?_eq_none (show ly.length≤j by omega)]
      refine az ?_
      refine cU () trivial ?_ (SubM.refl _)
      rw [e0,Nat.mul_zero,Nat.add_zero]
      exact Ei
    ·refine aa (ae (ai (Em Y (Em Y (Em Y ?_)))))
     (refine El (ci Y Y (aO ?_ ?_)) ?_;omega;omega)
     refine Em Y (El (cH Y) ?_)
     (refine El (ao Y Y ?_) ?_;omega)
     (refine aw 0 Y Y Y ?_ Y ?_;omega)
     refine Ep (aa (ai (Em Y ?_)))
     (refine El (uV Y ?_) ?_;omega)
     refine En Y (Ep (aD (aa (ai (Em Y ?_)))))
     (refine El (ci Y Y (aO ?_ ?_)) ?_;omega;omega)
     refine En Y (Ep ?_)
     refine bO (s:=(zz,j,c)) (zz.set (i+j) ((c+zz.getD (i+j) 0+lx.getD i 0*ly.getD j 0) % 4294967296),j+1,(c+zz.getD (i+j) 0+lx.getD i 0*ly.getD j 0) / 4294967296) hstep (by show ly.length+1 - (j+1)<ly.length+1 - j;omega) Ei (.keep (bg (fun q hq => ?_)) (SubM.refl _))
     unfold upd;rw [d5 hlt]; split <;> rfl
   ·have hc0:c=0:=by omega
    subst hc0
    have hfin:=hI.finish hR X hc
    refine aX (av (av (aE (aD (aa (ai (Em Y ?_)))))))
    (refine El (ci Y Y (aO ?_ ?_)) ?_;omega;omega)
    refine En Y (Ep ?_)
    exact bO (s:=(z0,i)) (zz,i+1) hfin (by show lx.length - (i+1)<lx.length - i;omega) Ei (SubM.refl _)
 ·have hi:i=lx.length:=by have:=hR.le;omega
  refine aX (av (av (aE (aa (ae (ai (Em Y (El (aj Y) (El (ak 3 Y Y Y) ?_)))))))))
  refine El (aj Y) (El (ak 2 Y Y Y) (El (jq Y Y) (gK (t:=74) (j:=0) Y Y ?_)))
  skip
  refine El (am (dm _ (v1*v2)) Y ⟨VT.le_trans (cB (m:=z0.length) (ψ:=fun i=>one (.int .u32 (z0.getD i 0:Nat))) hR.len.symm (fun q hq=>rfl)) (iq (l:=z0) hR.lim ?_ ?_),H,Er⟩) ?_
  ·rw [hR.val,hi,List.take_length,hva,hvb]
  ·rw [hR.len]; omega
  refine aA 0 Y Y Y Y Y (leN Y) Y (Ep (aa (aF ?_)))
  exact aV Tryz.results35 (.cellB 0 Y Y Y (cf (by cases n1 <;> cases n2 <;> simp [sv,Int.neg_mul,Int.mul_neg])))
end Tor
end
section
namespace Tor
open Go Go.RowKit Go.Proofs
def kG (neg:Bool) (l:List Nat):VT:=bC 2 [(0, .one,one (.bool neg)),(1, .one,co l)]
def fx (neg:Bool) (l:List Nat):Bool:=if l.length=0 then !neg else decide (l.getD (l.length - 1) 0≠0)
theorem yv (x:Int):VT.le (aL x) (kG (decide (x<0)) (aK x.natAbs)):=VT.le_refl _
attribute [local irreducible] J PJ aJ one slT bQ bC bv exT bZ eP aP aI slV VT.le Ret bJ
theorem ww (neg:Bool) (l:List Nat) (hl:l.length≤4398046511104):Ok Tryz.prog 69 [kG neg l] (one (.bool (fx neg l))):=by
 unfold kG
 refine Ok.enter Tryz.func69 Y Tryz.ntmps69 Y (fun w O => ?_)
 by_cases h0:l.length=0
 ·refine ae (ai ?_)
  refine aS Y Y (ltN Y) (fun b => ?_)
  refine En Y (Ep (aa (ae (ae (ai (El (aj Y) (El (ak 0 Y Y Y) (El (aW Y) (El (cm Y Y) ?_)))))))))
  refine Ep (aa ?_)
  refine a5 Y (fun hc => ?_) (fun hc => ?_) <;> simp only [decide_eq_true_eq,decide_eq_false_iff_not] at hc
  ·refine ae (ai (El (aj Y) (El (ak 0 Y Y Y) (El (cR Y) (En Y (Ep (aa (aF (aU ?_)))))))))
   exact aV Tryz.results69 (.tmp Y (aq (by unfold fx;rw [if_pos h0])))
  ·omega
 ·refine ae (ai ?_)
  refine aS Y Y (ltN Y) (fun b => ?_)
  refine En Y (Ep (aa (ae (ae (ai (El (aj Y) (El (ak 0 Y Y Y) (El (aW Y) (El (cm Y Y) ?_)))))))))
  refine Ep (aa ?_)
  refine a5 Y (fun hc => ?_) (fun hc => ?_) <;> simp only [decide_eq_true_eq,decide_eq_false_iff_not] at hc
  ·omega
  ·refine az (aa (ae (ai (El (aj Y) (El (ak 0 Y Y Y) (El (aj Y) (El (ak 0 Y Y Y) (El (aW Y) ?_))))))))
   (refine El (eo Y Y (aO ?_ ?_)) ?_;omega;omega)
   (refine El (f9 Y Y ?_ ?_) ?_;omega;omega)
   refine El (aM Y) (El (dy Y Y) (En Y (Ep (aa (aF ?_)))))
   refine aV Tryz.results69 (.tmp Y (aq ?_))
   have e:(↑l.length - 1:Int).toNat=l.length - 1:=by omega
   unfold fx;rw [if_neg h0,e]; congr 1;rw [decide_eq_decide]; omega
end Tor
end
section
namespace Tor
open Go Go.RowKit Go.Proofs
def bm (x:Int):Prop:=(aK x.natAbs).length≤1099511627776
theorem dU {x:Int} (h:x.natAbs<2^2048):bm x:=by
 have:(aK x.natAbs).length≤64:=cF (Nat.lt_of_lt_of_le h U)
 unfold bm;omega
theorem j7 (x y:Int) (hx:bm x) (hy:bm y):Ok Tryz.prog 58 [aL x,aL y] (aL (x+y)):=by
 have h:=ys (decide (x<0)) (decide (y<0)) x.natAbs y.natAbs hx hy
 rw [fw,fw] at h
 exact h.le ⟨er _,er _,Er⟩ H
theorem lN (x y:Int) (hx:bm x) (hy:bm y):Ok Tryz.prog 96 [aL x,aL y] (aL (x - y)):=by
 have h:=CA (decide (x<0)) (decide (y<0)) x.natAbs y.natAbs hx hy
 rw [fw,fw] at h
 exact h.le ⟨er _,er _,Er⟩ H
theorem eY (x y:Int) (hx:bm x) (hy:bm y):Ok Tryz.prog 54 [aL x,aL y] (aL (x*y)):=by
 have h:=CB (decide (x<0)) (decide (y<0)) x.natAbs y.natAbs hx hy
 rw [fw,fw] at h
 exact h.le ⟨er _,er _,Er⟩ H
theorem dc (x:Int):Ok Tryz.prog 51 [aL x] (one (.int .i64 (c6 x))):=by
 have h:=qM (decide (x<0)) x.natAbs
 rw [fw] at h
 exact h.le ⟨er _,Er⟩ H
theorem gz (x y:Int):Ok Tryz.prog 59 [aL x,aL y] (one (.int .i64 (cV x y))):=by
 have h:=CD (decide (x<0)) (decide (y<0)) x.natAbs y.natAbs
 rw [fw,fw] at h
 exact h.le ⟨er _,er _,Er⟩ H
theorem iN (x y:Int) (hx:bm x) (hy:bm y):Ok Tryz.prog 71 [aL x,aL y] (aL (x+y)):=by
 have h:=AD (decide (x<0)) (decide (y<0)) x.natAbs y.natAbs hx hy
 rw [fw,fw] at h
 exact h.le ⟨er _,er _,Er⟩ H
theorem d6 (x y:Int) (hx:bm x) (hy:bm y):Ok Tryz.prog 35 [aL x,aL y] (aL (x*y)):=by
 have h:=AE (decide (x<0)) (decide (y<0)) x.natAbs y.natAbs hx hy
 rw [fw,fw] at h
 exact h.le ⟨er _,er _,Er⟩ H
def kH (x:Int):Prop:=x.natAbs≤2^400
theorem iO {x y:Int} (hx:kH x) (hy:kH y):(x*y).natAbs≤2^800:=by
 rw [Int.natAbs_mul]
 exact Nat.le_trans (Nat.mul_le_mul hx hy) U
theorem cA {x:Int} {n:Nat} (h:x.natAbs≤n) (hn:n<2^2048):bm x:=dU (Nat.lt_of_le_of_lt h hn)
theorem fP {x:Int} (hx:kH x):bm x:=cA hx U
theorem mr:bm 1:=dU U
theorem ms {x:Int} (h:bm x):bm (-x):=by unfold bm at *; rw [Int.natAbs_neg]; exact h
theorem jE (φ:VT):VT.le φ bJ:=fun _ _ _=>trivial
instance {neg:Bool} {l:List Nat} : Flat (kG neg l) (.agg 2):=by unfold kG;infer_instance
attribute [local irreducible] J PJ aJ one slT bQ bC bv exT bZ eP aP aI slV VT.le Ret bJ
theorem jF (l:List Nat) (hl:l.length≤1099511627776):Ok Tryz.prog 128 [co l] (co l):=by
 unfold co
 refine Ok.enter Tryz.func128 Y Tryz.ntmps128 Y (fun w O => ?_)
 refine ae (ai (En Y (Ep (aa (ae (ae (ai (Em Y (El (qq Y) ?_)))))))))
 refine Ep (aa ?_)
 refine wb (t:=4) Y (fun b => ?_)
 refine po (t:=4) Y (fun hb => ?_)
 refine a5 Y (fun hc => ?_) (fun hc => ?_)
 ·have h0:=hb hc
  refine ae (ai (En Y (Ep (aa (aF (aU ?_))))))
  refine aV Tryz.results128 (.tmp Y (by (rw [h0]; exact eX)))
 ·refine az (aa (ae (ai (nJ (n:=0) Y Y Y Y Y ?_))))
  refine PartsK.nil (fun bl => ?_)
  refine Em Y ?_
  (refine cW 0 Y Y Y (leN Y) ?_ ?_ Y (ltN Y) (fun sv7 cap7 => ?_);omega;omega)
  refine En Y (Ep (aa (aF (cq (t:=2) (i:=0) Y Y ?_))))
  refine aV Tryz.results128 (.tmp Y (cB (by simp) (fun i hi=>by simp)))
theorem vl (x:Int) (hx:bm x):Ok Tryz.prog 80 [aL x] (aL (-x)):=by
 have hcl:=jF (aK x.natAbs) hx
 have hv:=(dE (!decide (x<0)) x.natAbs).le (de _) (cf (y := -x) (by by_cases h:x<0 <;> simp [h] <;> omega))
 unfold aL at *
 refine Ok.enter Tryz.func80 Y Tryz.ntmps80 Y (fun w O => ?_)
 refine ae (ai ?_)
 refine aS Y Y (ltN Y) (fun b1 => ?_)
 refine aG (T:=37) Y (ltN Y) (fun b2 => ?_)
 refine Ep (aa (ae (a8 7 a4 Z S (El (aj Y) (El (ak 1 Y Y Y) (El (cR Y) (El (aj Y) (El (ak 1 Y Y Y) ?_))))))))
 refine El (am (hcl) Y ⟨H,Er⟩) ?_
 refine El (am (hv) Y ⟨H,(cz _),Er⟩) ?_
 refine Ep (aA 0 Y Y Y Y Y (leN Y) Y (Ep (aa (aF ?_))))
 refine aV Tryz.results80 (.cellB 0 Y Y Y H)
theorem AF (x:Int) (hx:bm x):Ok Tryz.prog 104 [aL x] (aL x.natAbs):=by
 have hcl:=jF (aK x.natAbs) hx
 have hv:=(dE false x.natAbs).le (de _) (cf (y:=(x.natAbs:Int)) (by simp))
 unfold aL at *
 refine Ok.enter Tryz.func104 Y Tryz.ntmps104 Y (fun w O => ?_)
 refine ae (ai ?_)
 refine aS Y Y (ltN Y) (fun b1 => ?_)
 refine aG (T:=37) Y (ltN Y) (fun b2 => ?_)
 refine Ep (aa (ae (ai (El (aj Y) (El (ak 1 Y Y Y) ?_)))))
 refine El (am (hcl) Y ⟨H,Er⟩) ?_
 refine El (am (hv) Y ⟨H,(cz _),Er⟩) ?_
 refine aA 0 Y Y Y Y Y (leN Y) Y (Ep (aa (aF ?_)))
 refine aV Tryz.results104 (.cellB 0 Y Y Y H)
theorem cM {n:Nat} (h:(aK n).length≤1099511627776):VT.le (co (aK n)) (oY n):=iq (a6 n) (bY n) X
theorem iP (x:Int) (hx:bm x):Ok Tryz.prog 74 [aL x] (aL (-x)):=by
 have hv:=(dm (!decide (x<0)) x.natAbs).le (de _) (cf (y := -x) (by by_cases h:x<0 <;> simp [h] <;> omega))
 have hx:(aK x.natAbs).length≤1099511627776:=hx
 unfold aL at *
 refine Ok.enter Tryz.func74 Y Tryz.ntmps74 Y (fun w O => ?_)
 refine ae (ai ?_)
 refine aS Y Y (ltN Y) (fun b1 => ?_)
 refine aG (T:=37) Y (ltN Y) (fun b2 => ?_)
 refine Ep (aa (ae (ai (El (aj Y) (El (ak 1 Y Y Y) (El (aj Y) (El (ak 1 Y Y Y) (El (cR Y) ?_))))))))
 refine El (am (hv) Y ⟨(cM hx),H,Er⟩) ?_
 refine aA 0 Y Y Y Y Y (leN Y) Y (Ep (aa (aF ?_)))
 refine aV Tryz.results74 (.cellB 0 Y Y Y H)
theorem dq (x:Int):Ok Tryz.prog 21 [aL x] (one (.int .i64 (c6 x))):=by
 have h:=yt (decide (x<0)) x.natAbs
 rw [fw] at h
 exact h.le ⟨er _,Er⟩ H
theorem lO (x y:Int) (hx:bm x) (hy:bm y):Ok Tryz.prog 70 [aL x,aL y] (aL (x - y)):=by
 have hv:=(iN x (-y) hx (ms hy)).le (de _) (cf (y:=x - y) X)
 refine Ok.enter Tryz.func70 Y Tryz.ntmps70 Y (fun w O => ?_)
 refine ae (ai ?_)
 refine aS Y Y (ltN Y) (fun b2 => ?_)
 refine aS Y Y (ltN Y) (fun b3 => ?_)
 refine aG (T:=37) Y (ltN Y) (fun b4 => ?_)
 refine Ep (aa (ae (a8 4 a4 Z S (El (aQ 2 Y Y) (El (aQ 1 Y Y) ?_)))))
 refine El (am (iP _ (by assumption)) Y ⟨H,Er⟩) ?_
 refine El (am (hv) Y ⟨H,H,Er⟩) ?_
 refine Ep (aA 0 Y Y Y Y Y (leN Y) Y (Ep (aa (aF ?_))))
 refine aV Tryz.results70 (.cellB 0 Y Y Y H)
theorem AG (x y:Int):c6 (x - y)=cV x y:=by
 unfold c6 cV
 by_cases h:x<y
 ·rw [if_neg X,if_pos X,if_pos h]
 ·by_cases h2:y<x
  ·rw [if_neg X,if_neg X,if_neg h,if_pos h2]
  ·rw [if_pos X,if_neg h,if_neg h2]
theorem yw (x y:Int) (hx:bm x) (hy:bm y):Ok Tryz.prog 32 [aL x,aL y] (one (.int .i64 (cV x y))):=by
 refine Ok.enter Tryz.func32 Y Tryz.ntmps32 Y (fun w O => ?_)
 refine ae (ai ?_)
 refine aS Y Y (ltN Y) (fun b2 => ?_)
 refine aS Y Y (ltN Y) (fun b3 => ?_)
 refine En Y (Ep (aa (ae (ai (El (aQ 1 Y Y) (El (aQ 0 Y Y) ?_))))))
 refine El (am (lO _ _ (by assumption) (by assumption)) Y ⟨H,H,Er⟩) ?_
 refine El (am (dq _) Y ⟨H,Er⟩) ?_
 refine En Y (Ep (aa (aF ?_)))
 refine aV Tryz.results32 (.tmp Y (aq (by rw [AG])))
end Tor
end
