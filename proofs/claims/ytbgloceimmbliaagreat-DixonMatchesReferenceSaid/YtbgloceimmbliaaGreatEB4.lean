/-
  Theorems that the proofs of laws of this seat rest on.
  No condition.
-/
import Derived.Test.YtbgloceimmbliaaGreatEB3
import Derived.Test.YtbgloceimmbliaaGreatProg
set_option maxHeartbeats 20000000
set_option linter.unusedVariables false
set_option linter.unusedSimpArgs false
section
set_option maxRecDepth 100000
namespace Tor
open Go Go.Proofs
instance:LayOf Tryz.prog 2 (.one):=⟨by kernel_rfl,by kernel_rfl⟩
instance:LayOf Tryz.prog 3 (.one):=⟨by kernel_rfl,by kernel_rfl⟩
instance:LayOf Tryz.prog 4 (.one):=⟨by kernel_rfl,by kernel_rfl⟩
instance:LayOf Tryz.prog 5 (.one):=⟨by kernel_rfl,by kernel_rfl⟩
instance:LayOf Tryz.prog 22 (.one):=⟨by kernel_rfl,by kernel_rfl⟩
instance:LayOf Tryz.prog 24 (.agg 3):=⟨by kernel_rfl,by kernel_rfl⟩
instance:LayOf Tryz.prog 25 (.one):=⟨by kernel_rfl,by kernel_rfl⟩
instance:LayOf Tryz.prog 28 (.one):=⟨by kernel_rfl,by kernel_rfl⟩
instance:LayOf Tryz.prog 30 (.agg 3):=⟨by kernel_rfl,by kernel_rfl⟩
instance:LayOf Tryz.prog 32 (.one):=⟨by kernel_rfl,by kernel_rfl⟩
instance:LayOf Tryz.prog 33 (.one):=⟨by kernel_rfl,by kernel_rfl⟩
instance:LayOf Tryz.prog 35 (.one):=⟨by kernel_rfl,by kernel_rfl⟩
instance:LayOf Tryz.prog 37 (.agg 2):=⟨by kernel_rfl,by kernel_rfl⟩
instance:LayOf Tryz.prog 39 (.one):=⟨by kernel_rfl,by kernel_rfl⟩
instance:LayOf Tryz.prog 43 (.one):=⟨by kernel_rfl,by kernel_rfl⟩
instance:LayOf Tryz.prog 44 (.one):=⟨by kernel_rfl,by kernel_rfl⟩
instance:LayOf Tryz.prog 58 (.agg 4):=⟨by kernel_rfl,by kernel_rfl⟩
instance:LayOf Tryz.prog 86 (.one):=⟨by kernel_rfl,by kernel_rfl⟩
instance:LayOf Tryz.prog 114 (.agg 4):=⟨by kernel_rfl,by kernel_rfl⟩
instance:LayOf Tryz.prog 115 (.one):=⟨by kernel_rfl,by kernel_rfl⟩
instance:LayOf Tryz.prog 128 (.one):=⟨by kernel_rfl,by kernel_rfl⟩
instance:LayOf Tryz.prog 137 (.agg 4):=⟨by kernel_rfl,by kernel_rfl⟩
instance:LayOf Tryz.prog 140 (.agg 4):=⟨by kernel_rfl,by kernel_rfl⟩
instance:LayOf Tryz.prog 169 (.agg 3):=⟨by kernel_rfl,by kernel_rfl⟩
instance:LayOf Tryz.prog 173 (.one):=⟨by kernel_rfl,by kernel_rfl⟩
instance:IntOf Tryz.prog 2 .i64:=⟨by kernel_rfl⟩
instance:IntOf Tryz.prog 3 .i64:=⟨by kernel_rfl⟩
instance:BoolOf Tryz.prog 4:=⟨by kernel_rfl⟩
instance:IntOf Tryz.prog 5 .u8:=⟨by kernel_rfl⟩
instance:SliceOf Tryz.prog 22 25:=⟨by kernel_rfl⟩
instance:FieldOf Tryz.prog 24 0 0 (.one):=FieldOf.by_info (ft:=5) inferInstance Z U
instance:FieldOf Tryz.prog 24 1 1 (.one):=FieldOf.by_info (ft:=5) inferInstance Z U
instance:FieldOf Tryz.prog 24 2 2 (.one):=FieldOf.by_info (ft:=22) inferInstance Z U
instance:IntOf Tryz.prog 25 .i8:=⟨by kernel_rfl⟩
instance:ArrayOf Tryz.prog 26 2 25:=⟨by kernel_rfl⟩
instance:SliceOf Tryz.prog 28 32:=⟨by kernel_rfl⟩
instance:FieldOf Tryz.prog 30 0 0 (.one):=FieldOf.by_info (ft:=3) inferInstance Z U
instance:FieldOf Tryz.prog 30 1 1 (.one):=FieldOf.by_info (ft:=3) inferInstance Z U
instance:FieldOf Tryz.prog 30 2 2 (.one):=FieldOf.by_info (ft:=28) inferInstance Z U
instance:SliceOf Tryz.prog 32 37:=⟨by kernel_rfl⟩
instance:SliceOf Tryz.prog 33 37:=⟨by kernel_rfl⟩
instance:SliceOf Tryz.prog 35 86:=⟨by kernel_rfl⟩
instance:FieldOf Tryz.prog 37 0 0 (.one):=FieldOf.by_info (ft:=4) inferInstance Z U
instance:FieldOf Tryz.prog 37 1 1 (.one):=FieldOf.by_info (ft:=35) inferInstance Z U
instance:SliceOf Tryz.prog 39 58:=⟨by kernel_rfl⟩
instance:SliceOf Tryz.prog 43 33:=⟨by kernel_rfl⟩
instance:IntOf Tryz.prog 44 .u64:=⟨by kernel_rfl⟩
instance:FieldOf Tryz.prog 58 0 0 (.agg 2):=FieldOf.by_info (ft:=37) inferInstance Z U
instance:FieldOf Tryz.prog 58 1 2 (.agg 2):=FieldOf.by_info (ft:=37) inferInstance Z U
instance:SliceOf Tryz.prog 80 2:=⟨by kernel_rfl⟩
instance:IntOf Tryz.prog 86 .u32:=⟨by kernel_rfl⟩
instance:IntOf Tryz.prog 87 .u64:=⟨by kernel_rfl⟩
instance:FieldOf Tryz.prog 114 0 0 (.one):=FieldOf.by_info (ft:=28) inferInstance Z U
instance:FieldOf Tryz.prog 114 1 1 (.agg 2):=FieldOf.by_info (ft:=37) inferInstance Z U
instance:FieldOf Tryz.prog 114 2 3 (.one):=FieldOf.by_info (ft:=4) inferInstance Z U
instance:SliceOf Tryz.prog 115 3:=⟨by kernel_rfl⟩
instance:FieldOf Tryz.prog 117 0 0 (.agg 4):=FieldOf.by_info (ft:=114) inferInstance Z U
instance:FieldOf Tryz.prog 117 1 4 (.one):=FieldOf.by_info (ft:=115) inferInstance Z U
instance:ArrayOf Tryz.prog 120 2 30:=⟨by kernel_rfl⟩
instance:SliceOf Tryz.prog 128 173:=⟨by kernel_rfl⟩
instance:FieldOf Tryz.prog 137 0 0 (.agg 2):=FieldOf.by_info (ft:=37) inferInstance Z U
instance:FieldOf Tryz.prog 137 1 2 (.agg 2):=FieldOf.by_info (ft:=37) inferInstance Z U
instance:SliceOf Tryz.prog 143 39:=⟨by kernel_rfl⟩
instance:SliceOf Tryz.prog 159 30:=⟨by kernel_rfl⟩
instance:FieldOf Tryz.prog 169 0 0 (.one):=FieldOf.by_info (ft:=44) inferInstance Z U
instance:FieldOf Tryz.prog 169 1 1 (.one):=FieldOf.by_info (ft:=3) inferInstance Z U
instance:FieldOf Tryz.prog 169 2 2 (.one):=FieldOf.by_info (ft:=128) inferInstance Z U
instance:SliceOf Tryz.prog 173 44:=⟨by kernel_rfl⟩
instance:FieldOf Tryz.prog 180 0 0 (.agg 2):=FieldOf.by_info (ft:=37) inferInstance Z U
instance:FieldOf Tryz.prog 180 1 2 (.agg 2):=FieldOf.by_info (ft:=37) inferInstance Z U
instance:ArrayOf Tryz.prog 207 4 44:=⟨by kernel_rfl⟩
instance:ZeroOf Tryz.prog 2 (.int .i64 0) 8:=⟨by kernel_rfl⟩
instance:ZeroOf Tryz.prog 3 (.int .i64 0) 8:=⟨by kernel_rfl⟩
instance zf29:Flat (one (.agg #[.int .i64 0, .int .i64 0, .slice none 0 0])) (.agg 3):=kr U Z
instance:ZeroOf Tryz.prog 30 (.agg #[.int .i64 0, .int .i64 0, .slice none 0 0]) 40:=⟨by kernel_rfl⟩
instance:ZeroOf Tryz.prog 32 (.slice none 0 0) 24:=⟨by kernel_rfl⟩
instance:ZeroOf Tryz.prog 33 (.slice none 0 0) 24:=⟨by kernel_rfl⟩
instance zf36:Flat (one (.agg #[.bool false, .slice none 0 0])) (.agg 2):=kr U Z
instance:ZeroOf Tryz.prog 37 (.agg #[.bool false, .slice none 0 0]) 32:=⟨by kernel_rfl⟩
instance:ZeroOf Tryz.prog 39 (.slice none 0 0) 24:=⟨by kernel_rfl⟩
instance:ZeroOf Tryz.prog 43 (.slice none 0 0) 24:=⟨by kernel_rfl⟩
instance:ZeroOf Tryz.prog 44 (.int .u64 0) 8:=⟨by kernel_rfl⟩
instance zf57:Flat (one (.agg #[.bool false, .slice none 0 0, .bool false, .slice none 0 0])) (.agg 4):=kr U Z
instance:ZeroOf Tryz.prog 58 (.agg #[.bool false, .slice none 0 0, .bool false, .slice none 0 0]) 64:=⟨by kernel_rfl⟩
instance:ZeroOf Tryz.prog 86 (.int .u32 0) 4:=⟨by kernel_rfl⟩
instance:ZeroOf Tryz.prog 114 (.agg #[.slice none 0 0, .bool false, .slice none 0 0, .bool false]) 64:=⟨by kernel_rfl⟩
instance:ZeroOf Tryz.prog 117 (.agg #[.slice none 0 0, .bool false, .slice none 0 0, .bool false, .slice none 0 0]) 88:=⟨by kernel_rfl⟩
instance:ZeroOf Tryz.prog 120 (.agg #[.int .i64 0, .int .i64 0, .slice none 0 0, .int .i64 0, .int .i64 0, .slice none 0 0]) 80:=⟨by kernel_rfl⟩
instance:ZeroOf Tryz.prog 137 (.agg #[.bool false, .slice none 0 0, .bool false, .slice none 0 0]) 64:=⟨by kernel_rfl⟩
instance zf139:Flat (one (.agg #[.bool false, .bool false, .bool false, .bool false])) (.agg 4):=kr U Z
instance:ZeroOf Tryz.prog 140 (.agg #[.bool false, .bool false, .bool false, .bool false]) 4:=⟨by kernel_rfl⟩
instance zf168:Flat (one (.agg #[.int .u64 0, .int .i64 0, .slice none 0 0])) (.agg 3):=kr U Z
instance:ZeroOf Tryz.prog 169 (.agg #[.int .u64 0, .int .i64 0, .slice none 0 0]) 40:=⟨by kernel_rfl⟩
instance:ZeroOf Tryz.prog 173 (.slice none 0 0) 24:=⟨by kernel_rfl⟩
instance:ZeroOf Tryz.prog 180 (.agg #[.bool false, .slice none 0 0, .bool false, .slice none 0 0]) 64:=⟨by kernel_rfl⟩
instance:ZeroOf Tryz.prog 207 (.agg #[.int .u64 0, .int .u64 0, .int .u64 0, .int .u64 0]) 32:=⟨by kernel_rfl⟩
instance:BuildOf Tryz.prog 30 3 #[.int .i64 0, .int .i64 0, .slice none 0 0] [(0, .one),(1, .one),(2, .one)]:=BuildOf.by_struct (by':=40) inferInstance Y Z Z
instance:BuildOf Tryz.prog 37 2 #[.bool false, .slice none 0 0] [(0, .one),(1, .one)]:=BuildOf.by_struct (by':=32) inferInstance Y Z Z
instance:BuildOf Tryz.prog 58 4 #[.bool false, .slice none 0 0, .bool false, .slice none 0 0] [(0, .agg 2),(2, .agg 2)]:=BuildOf.by_struct (by':=64) inferInstance Y Z Z
instance:BuildOf Tryz.prog 114 4 #[.slice none 0 0, .bool false, .slice none 0 0, .bool false] [(0, .one),(1, .agg 2),(3, .one)]:=BuildOf.by_struct (by':=64) inferInstance Y Z Z
instance:BuildOf Tryz.prog 117 5 #[.slice none 0 0, .bool false, .slice none 0 0, .bool false, .slice none 0 0] [(0, .agg 4),(4, .one)]:=BuildOf.by_struct (by':=88) inferInstance Y Z Z
instance:BuildOf Tryz.prog 120 6 #[.int .i64 0, .int .i64 0, .slice none 0 0, .int .i64 0, .int .i64 0, .slice none 0 0] [(0, .agg 3),(3, .agg 3)]:=BuildOf.by_array (by':=80) (n:=2) (e:=30) (L := .agg 3) inferInstance inferInstance inferInstance Y Z Y U
instance:BuildOf Tryz.prog 137 4 #[.bool false, .slice none 0 0, .bool false, .slice none 0 0] [(0, .agg 2),(2, .agg 2)]:=BuildOf.by_struct (by':=64) inferInstance Y Z Z
instance:BuildOf Tryz.prog 140 4 #[.bool false, .bool false, .bool false, .bool false] [(0, .one),(1, .one),(2, .one),(3, .one)]:=BuildOf.by_struct (by':=4) inferInstance Y Z Z
instance:BuildOf Tryz.prog 169 3 #[.int .u64 0, .int .i64 0, .slice none 0 0] [(0, .one),(1, .one),(2, .one)]:=BuildOf.by_struct (by':=40) inferInstance Y Z Z
instance:BuildOf Tryz.prog 180 4 #[.bool false, .slice none 0 0, .bool false, .slice none 0 0] [(0, .agg 2),(2, .agg 2)]:=BuildOf.by_struct (by':=64) inferInstance Y Z Z
instance:BuildOf Tryz.prog 207 4 #[.int .u64 0, .int .u64 0, .int .u64 0, .int .u64 0] [(0, .one),(1, .one),(2, .one),(3, .one)]:=BuildOf.by_array (by':=32) (n:=4) (e:=44) (L := .one) inferInstance inferInstance inferInstance Y Z Y U
instance:Fn Tryz.prog 8:=Fn.of Tryz.func8 H Y
instance:Fn Tryz.prog 9:=Fn.of Tryz.func9 H Y
instance:Fn Tryz.prog 10:=Fn.of Tryz.func10 H Y
instance:Fn Tryz.prog 11:=Fn.of Tryz.func11 H Y
instance:Fn Tryz.prog 12:=Fn.of Tryz.func12 H Y
instance:Fn Tryz.prog 13:=Fn.of Tryz.func13 H Y
instance:Fn Tryz.prog 14:=Fn.of Tryz.func14 H Y
instance:Fn Tryz.prog 15:=Fn.of Tryz.func15 H Y
instance:Fn Tryz.prog 16:=Fn.of Tryz.func16 H Y
instance:Fn Tryz.prog 17:=Fn.of Tryz.func17 H Y
instance:Fn Tryz.prog 18:=Fn.of Tryz.func18 H Y
instance:Fn Tryz.prog 19:=Fn.of Tryz.func19 H Y
instance:Fn Tryz.prog 20:=Fn.of Tryz.func20 H Y
instance:Fn Tryz.prog 21:=Fn.of Tryz.func21 H Y
instance:Fn Tryz.prog 24:=Fn.of Tryz.func24 H Y
instance:Fn Tryz.prog 26:=Fn.of Tryz.func26 H Y
instance:Fn Tryz.prog 27:=Fn.of Tryz.func27 H Y
instance:Fn Tryz.prog 28:=Fn.of Tryz.func28 H Y
instance:Fn Tryz.prog 35:=Fn.of Tryz.func35 H Y
instance:Fn Tryz.prog 36:=Fn.of Tryz.func36 H Y
instance:Fn Tryz.prog 38:=Fn.of Tryz.func38 H Y
instance:Fn Tryz.prog 39:=Fn.of Tryz.func39 H Y
instance:Fn Tryz.prog 40:=Fn.of Tryz.func40 H Y
instance:Fn Tryz.prog 41:=Fn.of Tryz.func41 H Y
instance:Fn Tryz.prog 42:=Fn.of Tryz.func42 H Y
instance:Fn Tryz.prog 43:=Fn.of Tryz.func43 H Y
instance:Fn Tryz.prog 44:=Fn.of Tryz.func44 H Y
instance:Fn Tryz.prog 45:=Fn.of Tryz.func45 H Y
instance:Fn Tryz.prog 46:=Fn.of Tryz.func46 H Y
instance:Fn Tryz.prog 47:=Fn.of Tryz.func47 H Y
instance:Fn Tryz.prog 48:=Fn.of Tryz.func48 H Y
instance:Fn Tryz.prog 49:=Fn.of Tryz.func49 H Y
instance:Fn Tryz.prog 50:=Fn.of Tryz.func50 H Y
instance:Fn Tryz.prog 51:=Fn.of Tryz.func51 H Y
instance:Fn Tryz.prog 52:=Fn.of Tryz.func52 H Y
instance:Fn Tryz.prog 53:=Fn.of Tryz.func53 H Y
instance:Fn Tryz.prog 54:=Fn.of Tryz.func54 H Y
instance:Fn Tryz.prog 55:=Fn.of Tryz.func55 H Y
instance:Fn Tryz.prog 56:=Fn.of Tryz.func56 H Y
instance:Fn Tryz.prog 57:=Fn.of Tryz.func57 H Y
instance:Fn Tryz.prog 58:=Fn.of Tryz.func58 H Y
instance:Fn Tryz.prog 59:=Fn.of Tryz.func59 H Y
instance:Fn Tryz.prog 60:=Fn.of Tryz.func60 H Y
instance:Fn Tryz.prog 61:=Fn.of Tryz.func61 H Y
instance:Fn Tryz.prog 62:=Fn.of Tryz.func62 H Y
instance:Fn Tryz.prog 63:=Fn.of Tryz.func63 H Y
instance:Fn Tryz.prog 64:=Fn.of Tryz.func64 H Y
instance:Fn Tryz.prog 65:=Fn.of Tryz.func65 H Y
instance:Fn Tryz.prog 66:=Fn.of Tryz.func66 H Y
instance:Fn Tryz.prog 68:=Fn.of Tryz.func68 H Y
instance:Fn Tryz.prog 70:=Fn.of Tryz.func70 H Y
instance:Fn Tryz.prog 71:=Fn.of Tryz.func71 H Y
instance:Fn Tryz.prog 73:=Fn.of Tryz.func73 H Y
instance:Fn Tryz.prog 74:=Fn.of Tryz.func74 H Y
instance:Fn Tryz.prog 75:=Fn.of Tryz.func75 H Y
instance:Fn Tryz.prog 76:=Fn.of Tryz.func76 H Y
instance:Fn Tryz.prog 77:=Fn.of Tryz.func77 H Y
instance:Fn Tryz.prog 78:=Fn.of Tryz.func78 H Y
instance:Fn Tryz.prog 79:=Fn.of Tryz.func79 H Y
instance:Fn Tryz.prog 80:=Fn.of Tryz.func80 H Y
instance:Fn Tryz.prog 81:=Fn.of Tryz.func81 H Y
instance:Fn Tryz.prog 82:=Fn.of Tryz.func82 H Y
instance:Fn Tryz.prog 83:=Fn.of Tryz.func83 H Y
instance:Fn Tryz.prog 84:=Fn.of Tryz.func84 H Y
instance:Fn Tryz.prog 85:=Fn.of Tryz.func85 H Y
instance:Fn Tryz.prog 86:=Fn.of Tryz.func86 H Y
instance:Fn Tryz.prog 87:=Fn.of Tryz.func87 H Y
instance:Fn Tryz.prog 88:=Fn.of Tryz.func88 H Y
instance:Fn Tryz.prog 89:=Fn.of Tryz.func89 H Y
instance:Fn Tryz.prog 90:=Fn.of Tryz.func90 H Y
instance:Fn Tryz.prog 91:=Fn.of Tryz.func91 H Y
instance:Fn Tryz.prog 92:=Fn.of Tryz.func92 H Y
instance:Fn Tryz.prog 93:=Fn.of Tryz.func93 H Y
instance:Fn Tryz.prog 94:=Fn.of Tryz.func94 H Y
instance:Fn Tryz.prog 95:=Fn.of Tryz.func95 H Y
instance:Fn Tryz.prog 96:=Fn.of Tryz.func96 H Y
instance:Fn Tryz.prog 97:=Fn.of Tryz.func97 H Y
instance:Fn Tryz.prog 98:=Fn.of Tryz.func98 H Y
instance:Fn Tryz.prog 99:=Fn.of Tryz.func99 H Y
instance:Fn Tryz.prog 100:=Fn.of Tryz.func100 H Y
instance:Fn Tryz.prog 101:=Fn.of Tryz.func101 H Y
instance:Fn Tryz.prog 102:=Fn.of Tryz.func102 H Y
instance:Fn Tryz.prog 103:=Fn.of Tryz.func103 H Y
instance:Fn Tryz.prog 104:=Fn.of Tryz.func104 H Y
instance:Fn Tryz.prog 105:=Fn.of Tryz.func105 H Y
instance:Fn Tryz.prog 106:=Fn.of Tryz.func106 H Y
instance:Fn Tryz.prog 107:=Fn.of Tryz.func107 H Y
instance:Fn Tryz.prog 108:=Fn.of Tryz.func108 H Y
instance:Fn Tryz.prog 109:=Fn.of Tryz.func109 H Y
instance:Fn Tryz.prog 110:=Fn.of Tryz.func110 H Y
instance:Fn Tryz.prog 111:=Fn.of Tryz.func111 H Y
instance:Fn Tryz.prog 112:=Fn.of Tryz.func112 H Y
instance:Fn Tryz.prog 113:=Fn.of Tryz.func113 H Y
instance:Fn Tryz.prog 114:=Fn.of Tryz.func114 H Y
instance:Fn Tryz.prog 115:=Fn.of Tryz.func115 H Y
instance:Fn Tryz.prog 116:=Fn.of Tryz.func116 H Y
instance:Fn Tryz.prog 117:=Fn.of Tryz.func117 H Y
instance:Fn Tryz.prog 118:=Fn.of Tryz.func118 H Y
instance:Fn Tryz.prog 119:=Fn.of Tryz.func119 H Y
instance:Fn Tryz.prog 120:=Fn.of Tryz.func120 H Y
instance:Fn Tryz.prog 121:=Fn.of Tryz.func121 H Y
instance:Fn Tryz.prog 122:=Fn.of Tryz.func122 H Y
instance:Fn Tryz.prog 123:=Fn.of Tryz.func123 H Y
instance:Fn Tryz.prog 124:=Fn.of Tryz.func124 H Y
instance:Fn Tryz.prog 125:=Fn.of Tryz.func125 H Y
instance:Fn Tryz.prog 126:=Fn.of Tryz.func126 H Y
instance:Fn Tryz.prog 127:=Fn.of Tryz.func127 H Y
instance:Fn Tryz.prog 128:=Fn.of Tryz.func128 H Y
instance:Fn Tryz.prog 129:=Fn.of Tryz.func129 H Y
instance:Fn Tryz.prog 130:=Fn.of Tryz.func130 H Y
instance:Fn Tryz.prog 131:=Fn.of Tryz.func131 H Y
instance:Fn Tryz.prog 132:=Fn.of Tryz.func132 H Y
instance:Fn Tryz.prog 133:=Fn.of Tryz.func133 H Y
instance:Fn Tryz.prog 134:=Fn.of Tryz.func134 H Y
instance:Fn Tryz.prog 135:=Fn.of Tryz.func135 H Y
instance:Fn Tryz.prog 136:=Fn.of Tryz.func136 H Y
instance:Fn Tryz.prog 137:=Fn.of Tryz.func137 H Y
instance:Fn Tryz.prog 138:=Fn.of Tryz.func138 H Y
instance:Fn Tryz.prog 139:=Fn.of Tryz.func139 H Y
instance:Fn Tryz.prog 140:=Fn.of Tryz.func140 H Y
instance:Fn Tryz.prog 141:=Fn.of Tryz.func141 H Y
instance:Fn Tryz.prog 142:=Fn.of Tryz.func142 H Y
instance:Fn Tryz.prog 143:=Fn.of Tryz.func143 H Y
instance:Fn Tryz.prog 144:=Fn.of Tryz.func144 H Y
instance:Fn Tryz.prog 145:=Fn.of Tryz.func145 H Y
instance:Fn Tryz.prog 146:=Fn.of Tryz.func146 H Y
instance:Fn Tryz.prog 147:=Fn.of Tryz.func147 H Y
instance:Fn Tryz.prog 148:=Fn.of Tryz.func148 H Y
instance:Fn Tryz.prog 149:=Fn.of Tryz.func149 H Y
instance:Fn Tryz.prog 150:=Fn.of Tryz.func150 H Y
instance:Fn Tryz.prog 151:=Fn.of Tryz.func151 H Y
instance:Fn Tryz.prog 152:=Fn.of Tryz.func152 H Y
instance:Fn Tryz.prog 153:=Fn.of Tryz.func153 H Y
instance:Fn Tryz.prog 154:=Fn.of Tryz.func154 H Y
instance:Fn Tryz.prog 155:=Fn.of Tryz.func155 H Y
instance:Fn Tryz.prog 156:=Fn.of Tryz.func156 H Y
instance:Fn Tryz.prog 157:=Fn.of Tryz.func157 H Y
instance:Fn Tryz.prog 158:=Fn.of Tryz.func158 H Y
instance:Fn Tryz.prog 159:=Fn.of Tryz.func159 H Y
instance:Fn Tryz.prog 160:=Fn.of Tryz.func160 H Y
instance:Fn Tryz.prog 161:=Fn.of Tryz.func161 H Y
instance:Fn Tryz.prog 162:=Fn.of Tryz.func162 H Y
instance:Fn Tryz.prog 163:=Fn.of Tryz.func163 H Y
instance:Fn Tryz.prog 164:=Fn.of Tryz.func164 H Y
instance:Fn Tryz.prog 165:=Fn.of Tryz.func165 H Y
instance:Fn Tryz.prog 166:=Fn.of Tryz.func166 H Y
instance:Fn Tryz.prog 167:=Fn.of Tryz.func167 H Y
instance:Fn Tryz.prog 168:=Fn.of Tryz.func168 H Y
instance:Fn Tryz.prog 169:=Fn.of Tryz.func169 H Y
instance:Fn Tryz.prog 177:=Fn.of Tryz.func177 H Y
instance:Fn Tryz.prog 178:=Fn.of Tryz.func178 H Y
instance:Fn Tryz.prog 179:=Fn.of Tryz.func179 H Y
instance:Fn Tryz.prog 180:=Fn.of Tryz.func180 H Y
instance:Fn Tryz.prog 181:=Fn.of Tryz.func181 H Y
instance:Fn Tryz.prog 182:=Fn.of Tryz.func182 H Y
instance:Fn Tryz.prog 183:=Fn.of Tryz.func183 H Y
instance:Fn Tryz.prog 184:=Fn.of Tryz.func184 H Y
instance:Fn Tryz.prog 185:=Fn.of Tryz.func185 H Y
instance:Fn Tryz.prog 191:=Fn.of Tryz.func191 H Y
instance:Fn Tryz.prog 192:=Fn.of Tryz.func192 H Y
instance:Fn Tryz.prog 194:=Fn.of Tryz.func194 H Y
theorem a4:Tryz.prog.follows .mixedOrders=true:=by kernel_rfl
end Tor
end
section
namespace Tor
def lv:List Nat→Nat
 | [] => 0
 | d :: l => d + 4294967296 * lv l
def bL (l:List Nat):Prop := ∀ d∈l,d<4294967296
def gW:List Nat→Prop
 | [] => True
 | [d] => d ≠ 0
 | _ :: d :: l => gW (d :: l)
def nU:Nat→Nat→List Nat
 | 0, _ => []
 | f + 1, n => if n = 0 then [] else n % 4294967296 :: nU f (n / 4294967296)
def aL (n:Nat):List Nat:=nU n n
theorem tu : ∀ (f n:Nat),n≤f → ∀ g,n≤g→nU f n=nU g n
 | 0, n, h, g, hg => by
  have:n=0:=by omega
  subst this;cases g <;> simp [nU]
 | f + 1, n, h, 0, hg => by
  have:n=0:=by omega
  subst this;simp [nU]
 | f + 1, n, h, g + 1, hg => by
  simp only [nU]
  split
  ·rfl
  ·rw [tu f (n / 4294967296) X g X]
theorem jv:aL 0 = []:=rfl
theorem ix {n:Nat} (h:n≠0):aL n=n % 4294967296 :: aL (n / 4294967296):=by
 unfold aL
 obtain ⟨m,rfl⟩ : ∃ m,n=m+1:=⟨n - 1,by omega⟩
 rw [nU,if_neg h,tu m _ X ((m+1) / 4294967296) (Nat.le_refl _)]
theorem cd (n:Nat):lv (aL n)=n:=by
 induction n using Nat.strongRecOn with
 | _ n ih =>
  by_cases h:n=0
  ·subst h;rfl
  ·rw [ix h,lv,ih _ X]; omega
theorem a9 (n:Nat):bL (aL n):=by
 induction n using Nat.strongRecOn with
 | _ n ih =>
  by_cases h:n=0
  ·subst h;intro d hd;cases hd
  ·rw [ix h]; intro d hd
   rcases List.mem_cons.1 hd with rfl | hd
   ·omega
   ·exact ih _ X d hd
theorem bL.tail {d:Nat} {l:List Nat} (h:bL (d :: l)):bL l:=fun x hx=>h x (List.mem_cons_of_mem _ hx)
theorem bL.head {d:Nat} {l:List Nat} (h:bL (d :: l)):d<4294967296:=h d List.mem_cons_self
theorem zO : ∀ {l:List Nat},l ≠ []→gW l→0<lv l
 | [], h, _ => absurd Y h
 | [d], _, h => by have h : d ≠ 0 := h; simp only [lv]; omega
 | d :: e :: l, _, h => by have := zO (l := e :: l) (by simp) h; simp only [lv] at *; omega
theorem gW.tail {d:Nat} : ∀ {l:List Nat},gW (d :: l)→gW l
 | [], _ => trivial
 | _ :: _, h => h
theorem ww : ∀ {l:List Nat},bL l→gW l→aL (lv l)=l
 | [], _, _ => rfl
 | d :: l, hl, ht => by
  have h0:lv (d :: l)≠0:=by have:=zO (l:=d :: l) (by simp) ht;omega
  have hd:=hl.head
  rw [ix h0]
  simp only [lv]
  rw [show (d+4294967296*lv l) % 4294967296=d by omega,show (d+4294967296*lv l) / 4294967296=lv l by omega,ww hl.tail ht.tail]
theorem mD (n:Nat):gW (aL n):=by
 induction n using Nat.strongRecOn with
 | _ n ih =>
  by_cases h:n=0
  ·subst h;trivial
  ·rw [ix h]
   have:=ih (n / 4294967296) X
   by_cases h2:n / 4294967296=0
   ·rw [h2,jv]; show n % 4294967296≠0;omega
   ·rw [ix h2] at this ⊢; exact this
theorem gn (l m:List Nat):lv (l ++ m)=lv l+4294967296^l.length*lv m:=by
 induction l with
 | nil => simp [lv]
 | cons d l ih =>
  simp only [List.cons_append,lv,ih,List.length_cons,Nat.pow_succ,Nat.mul_add]
  have:4294967296*(4294967296^l.length*lv m)=4294967296^l.length*4294967296*lv m:=by
   rw [← Nat.mul_assoc,Nat.mul_comm 4294967296]
  omega
theorem iy : ∀ {l:List Nat},bL l→lv l<4294967296^l.length
 | [], _ => by simp [lv]
 | d :: l, h => by
  have:=iy h.tail
  have hd:=h.head
  simp only [lv,List.length_cons,Nat.pow_succ]
  have h2:lv l+1≤4294967296^l.length:=this
  have:=Nat.mul_le_mul_right 4294967296 h2
  omega
theorem pk {l:List Nat} {k:Nat} (h:k<l.length):l.take (k+1)=l.take k ++ [l.getD k 0]:=by
 rw [List.take_add_one]; simp [List.getD,h]
theorem bR {l:List Nat} {k:Nat} (h:k<l.length):lv (l.take (k+1))=lv (l.take k)+4294967296^k*l.getD k 0:=by
 rw [pk h,gn,List.length_take_of_le X]; simp [lv]
theorem bh {l:List Nat} (h:bL l) (k:Nat):l.getD k 0<4294967296:=by
 by_cases hk:k<l.length
 ·have:l.getD k 0=l[k]:=by simp [List.getD,hk]
  rw [this]; exact h _ (List.getElem_mem hk)
 ·have:l.getD k 0=0:=by simp [List.getD,List.getElem?_eq_none (Nat.le_of_not_lt hk)]
  omega
theorem kU (l:List Nat) (x q:Nat):(l ++ [x]).getD q 0=if q=l.length then x else l.getD q 0:=by
 simp only [List.getD,List.getElem?_append]
 by_cases h:q<l.length
 ·rw [if_pos h,if_neg X]
 ·rw [if_neg h]
  by_cases h2:q=l.length
  ·subst h2;simp
  ·rw [if_neg h2,List.getElem?_eq_none (by simp;omega),List.getElem?_eq_none X]
theorem bL.take {l:List Nat} (h:bL l) (k:Nat):bL (l.take k):=fun d hd=>h d (List.mem_of_mem_take hd)
def iz (l:List Nat):Nat→Nat
 | 0 => 0
 | n + 1 => if l.getD n 0 = 0 then iz l n else n + 1
theorem rT {l:List Nat} : ∀ {n:Nat},n<l.length→l.getD n 0≠0→gW (l.take (n+1)):=by
  induction l with
  | nil => intro n h; simp at h
  | cons d l ih =>
    intro n h h0
    cases n with
    | zero => simp at h0 ⊢; exact h0
    | succ n =>
      have:=ih (n:=n) (by simpa using h) (by simpa using h0)
      rw [List.take_succ_cons]
      cases hl:l.take (n+1) with
      | nil => rw [List.take_eq_nil_iff] at hl; rcases hl with hl | hl
               · omega
               · subst hl;simp at h
      | cons e r => rw [hl] at this; exact this
theorem qK {l:List Nat} (hl:bL l) : ∀ {n:Nat},n≤l.length→lv l=lv (l.take n)→l.take (iz l n)=aL (lv l)
 | 0, _, h => by rw [iz, h]; simp [lv, jv]
 | n + 1, hn, h => by
  rw [iz]
  split
  ·rename_i h0
   refine qK hl X ?_
   rw [h,bR X,h0]; simp
  ·rename_i h0
   rw [h]
   exact (ww (hl.take _) (rT X h0)).symm
theorem pn {l:List Nat} (hl:bL l):l.take (iz l l.length)=aL (lv l):=qK hl (Nat.le_refl _) (by rw [List.take_length])
theorem cw : ∀ {k n:Nat},n<4294967296^k→(aL n).length≤k
  | 0, n, h => by have : n = 0 := by simpa using h
                  subst this;simp [jv]
  | k + 1, n, h => by
    by_cases h0:n=0
    · subst h0;simp [jv]
    · rw [ix h0,List.length_cons]
      have:n / 4294967296<4294967296^k:=by
        rw [Nat.pow_succ] at h
        exact Nat.div_lt_of_lt_mul (by rw [Nat.mul_comm]; exact h)
      have:=cw this
      omega
theorem dc (n:Nat):n<4294967296^(aL n).length:=by
 have:=iy (a9 n);rwa [cd] at this
theorem tv {a b:Nat} (h:aL a=aL b):a=b:=by rw [← cd a, ← cd b,h]
theorem fS (l:List Nat) (k:Nat) (hk:k≤l.length):lv l=lv (l.take k)+4294967296^k*lv (l.drop k):=by
 have h:=gn (l.take k) (l.drop k)
 rwa [List.take_append_drop,List.length_take_of_le hk] at h
theorem fE {l:List Nat} {k:Nat} (h:k<l.length):l.drop k=l.getD k 0 :: l.drop (k+1):=by
 rw [List.drop_eq_getElem_cons h]; simp [List.getD,h]
theorem rU {l m:List Nat} (hl:bL l) (hm:bL m) (hn:l.length=m.length) {i:Nat} (hi:i<l.length) (hd:l.drop (i+1)=m.drop (i+1)) (hlt:l.getD i 0<m.getD i 0):lv l<lv m:=by
 have e1:=fE hi
 have e2:=fE (hn▸hi:i<m.length)
 rw [fS l i X,fS m i X,e1,e2,hd]
 simp only [lv]
 have h1:=iy (hl.take i)
 rw [List.length_take_of_le X] at h1
 generalize 4294967296^i=B at *
 generalize lv (m.drop (i+1))=t
 have h2:B*(l.getD i 0+4294967296*t)+B≤B*(m.getD i 0+4294967296*t):=by
  rw [← Nat.mul_succ]; exact Nat.mul_le_mul_left B X
 omega
theorem jm {a b:Nat} (h:(aL a).length<(aL b).length):a<b:=by
 rcases Nat.lt_or_ge a b with h' | h'
 ·exact h'
 ·have h1:b<4294967296^(aL a).length:=Nat.lt_of_le_of_lt h' (dc a)
  have:=cw h1;omega
theorem ck {a b:Nat} (h:a≤b):(aL a).length≤(aL b).length:=cw (Nat.lt_of_le_of_lt h (dc b))
def dt (a b:Int):Int:=if a<b then -1 else if b<a then 1 else 0
def np (a b:Nat):Int:=if a<b then -1 else if b<a then 1 else 0
theorem el {l:List Nat} {k v q:Nat} (h:k<l.length):(l.set k v).getD q 0=if q=k then v else l.getD q 0:=by
 simp only [List.getD,List.getElem?_set]
 by_cases e:k=q
 ·subst e;simp [h]
 ·rw [if_neg e,if_neg (fun h=>e h.symm)]
theorem gp {l:List Nat} : ∀ {k v:Nat},k<l.length→lv (l.set k v)+4294967296^k*l.getD k 0=lv l+4294967296^k*v:=by
 induction l with
 | nil => intro k v h; simp at h
 | cons d l ih =>
  intro k v h
  cases k with
  | zero => simp [lv]; omega
  | succ k =>
   have:=ih (k:=k) (v:=v) (by simpa using h)
   simp only [List.set_cons_succ,lv,List.getD_cons_succ,Nat.pow_succ]
   have e1:4294967296^k*4294967296*l.getD k 0=4294967296*(4294967296^k*l.getD k 0):=by rw [Nat.mul_comm (4294967296^k),Nat.mul_assoc]
   have e2:4294967296^k*4294967296*v=4294967296*(4294967296^k*v):=by rw [Nat.mul_comm (4294967296^k),Nat.mul_assoc]
   rw [e1,e2]; omega
theorem bL.set {l:List Nat} (h:bL l) {k v:Nat} (hv:v<4294967296):bL (l.set k v):=fun d hd=>by
 rcases List.mem_or_eq_of_mem_set hd with h' | h'
 ·exact h d h'
 ·omega
theorem mE {a b c d:Nat} (ha:a<4294967296) (hb:b<4294967296) (hc:c<4294967296) (hd:d<4294967296):d+(a*b+c)<18446744073709551616∧a*b<18446744073709551616∧a*b+c<18446744073709551616:=by
 have:a*b≤4294967295*4294967295:=Nat.mul_le_mul X X
 omega
end Tor
end
section
namespace Tor
open Go Go.RowKit Go.Proofs
abbrev cz (l:List Nat):VT:=slT .one l.length (fun i=>one (.int .u32 (l.getD i 0)))
def mF (v:Nat):VT:=exT fun l:List Nat=>cn (bL l∧lv l=v) (cz l)
def qh (v:Nat):VT:=exT fun l:List Nat=>cn (bL l∧lv l=v∧l.length≤4398046511104) (cz l)
def aO (x:Int):VT:=bH 2 [(0, .one,one (.bool (decide (x<0)))),(1, .one,cz (aL x.natAbs))]
instance {x:Int} : Flat (aO x) (.agg 2):=by unfold aO;infer_instance
theorem iY {l:List Nat} {v:Nat} (h:bL l) (hv:lv l=v) (hl:l.length≤4398046511104):VT.le (cz l) (qh v):=oT l (mf ⟨h,hv,hl⟩ S)
theorem fT {l:List Nat} {v:Nat} (h:bL l) (hv:lv l=v):VT.le (cz l) (mF v):=oT l (mf ⟨h,hv⟩ S)
theorem cH (n:Nat):VT.le (cz (aL n)) (mF n):=fT (a9 n) (cd n)
theorem mG {l l':List Nat} (h:l=l'):VT.le (cz l) (cz l'):=h▸VT.le_refl _
theorem BX {neg:Bool} {v:Nat} (h:v≠0):VT.le (bH 2 [(0, .one,one (.bool neg)),(1, .one,cz (aL v))]) (aO (if neg then -(v:Int) else v)):=by
 refine fL (fun q hq => ?_)
 simp only [List.mem_cons,List.not_mem_nil,or_false] at hq
 rcases hq with rfl | rfl
 ·have e:decide ((if neg then -(v:Int) else v)<0)=neg:=by cases neg <;> simp <;> omega
  exact ⟨_,List.mem_cons_self,fK (by rw [e])⟩
 ·refine ⟨_,List.mem_cons_of_mem _ List.mem_cons_self,mG ?_⟩
  cases neg <;> simp
theorem jx:VT.le (bH 2 [(0, .one,one (.bool false)),(1, .one,one (.slice none 0 0))]) (aO 0):=by
 refine fL (fun q hq => ?_)
 simp only [List.mem_cons,List.not_mem_nil,or_false] at hq
 rcases hq with rfl | rfl
 ·exact ⟨_,List.mem_cons_self,fK (by simp)⟩
 ·exact ⟨_,List.mem_cons_of_mem _ List.mem_cons_self,ey⟩
theorem cp {x y:Int} (h:x=y):VT.le (aO x) (aO y):=h▸VT.le_refl _
attribute [local irreducible] J PJ aM one slT bW bH bj exT cn eP aX aH slV VT.le Ret bP
theorem de (v:Nat):Ok Tryz.prog 81 [mF v] (cz (aL v)):=by
 refine Ok.enter Tryz.func81 Y Tryz.ntmps81 Y (fun w O => ?_)
 refine xt (t:=0) Y (fun l=>qw (t:=0) Y (fun ⟨hL,hv⟩=>jE (t:=0) Y (fun _ _=>fB) (fun hb => ?_)))
 subst hv
 refine ae (ai (FJ Y (FL (aa (iR (ae (ai (FI Y (FH (aY Y) ?_)))))))))
 refine FJ Y (FL (aa (ae (kP (aa (ae (au ?_)))))))
 refine cO (σ:=Nat) (fun n => [(0,cz l),(3,one (.int .i64 n))]) (fun _ => []) (fun n=>n≤l.length∧iz l n=iz l l.length) (fun n=>n) l.length ⟨Nat.le_refl _,rfl⟩ FE (SubM.refl _) (fun n ⟨hn,ht⟩ => ?_)
 have hd:=pn hL
 refine ae (ae (ai (FI Y (FH (cU Y Y) (FL (aa ?_))))))
 refine bm Y (fun hc => ?_) (fun hc => ?_) <;> simp at hc
 ·obtain ⟨n,rfl⟩ : ∃ m,n=m+1:=⟨n - 1,by omega⟩
  refine aw (aa (au (ae (ai (FI Y (FI Y ?_))))))
  (refine FH (d4 Y Y (aR ?_ ?_)) ?_;omega;omega)
  (refine FH (im Y Y ?_ ?_) ?_;omega;omega)
  refine FH (aN Y) (FL (aa (au (ae (ai (FH (bV Y Y) (FJ Y (FL (aa ?_)))))))))
  refine bm Y (fun hc => ?_) (fun hc => ?_) <;> simp at hc
  ·refine ai (FI Y ?_)
   (refine FH (d4 Y Y (aR ?_ ?_)) ?_;omega;omega)
   refine FJ Y (FL (aF (aF ?_)))
   have h0:l.getD n 0=0:=by simpa using hc
   refine ci n ⟨by omega,by rw [← ht,iz,if_pos h0]⟩ X FE (SubM.refl _)
  ·refine aV (dm Y (dm Y (av (aE (aa (ae (ai (FI Y (FI Y ?_)))))))))
   refine FI Y ?_
   (refine FH (gS Y Y Y Y (fun _=>rfl) ?_ ?_ ?_ ?_) ?_;omega;omega;omega;omega)
   refine FJ Y (FL (aa (aG (eA ?_))))
   have h0 : ¬ l.getD n 0=0:=by simpa using hc
   rw [← ht,iz,if_neg h0] at hd
   refine aT Tryz.results81 (.tmp Y (VT.le_trans (cI ?_ ?_) (mG hd)))
   ·simp;omega
   ·intro i hi;simp at hi ⊢; rw [List.getElem?_take_of_lt X]
 ·subst hc
  refine aV (av (av (aE (aa (ae (ai (FI Y (FI Y (FI Y ?_)))))))))
  (refine FH (gS Y Y Y Y (fun _=>rfl) ?_ ?_ ?_ ?_) ?_;omega;omega;omega;omega)
  refine FJ Y (FL (aa (aG (eA ?_))))
  rw [← ht,iz] at hd
  refine aT Tryz.results81 (.tmp Y (VT.le_trans (cI ?_ ?_) (mG hd)))
  ·simp
  ·intro i hi;simp at hi
end Tor
end
section
namespace Tor
open Go Go.RowKit Go.Proofs
attribute [local irreducible] J PJ aM one slT bW bH bj exT cn eP aX aH slV VT.le Ret bP
theorem dL (neg:Bool) (v:Nat):Ok Tryz.prog 86 [one (.bool neg),mF v] (aO (if neg then -(v:Int) else v)):=by
 refine Ok.enter Tryz.func86 Y Tryz.ntmps86 Y (fun w O => ?_)
 refine ae (ai ?_)
 refine aJ (T:=37) Y (ltN Y) (fun b => ?_)
 refine FL (aa (ae (ai (FI Y ?_))))
 refine FH (am (de _) Y ⟨S,FM⟩) ?_
 refine FJ Y (FL (aa (ae (ae (ai (FI Y (FH (aY Y) (FH (bV Y Y) (FL ?_)))))))))
 refine aa ?_
 refine bm Y (fun hc => ?_) (fun hc => ?_) <;> simp at hc
 ·have hv:v=0:=by rw [← cd v,hc]; rfl
  subst hv
  refine ae (ai (stB Y Y Y (BuildK.nil (aB 0 Y Y Y Y Y (leN Y) Y (FL (aa (aG (aS ?_))))))))
  exact aT Tryz.results86 (.cellB 0 Y Y Y (VT.le_trans jx (cp (by simp))))
 ·have hv:v≠0:=by intro e;subst e;exact hc Y
  refine aw (aa (ae (ai (FI Y (FI Y (stB Y Y Y (BuildK.cons Y Y Y (BuildK.cons Y Y Y (BuildK.nil ?_)))))))))
  refine aB 0 Y Y Y Y Y (leN Y) Y (FL (aa (aG ?_)))
  exact aT Tryz.results86 (.cellB 0 Y Y Y (BX hv))
structure PlusR (lx ly:List Nat) (zl:List Nat) (c:Nat):Prop where
 len:zl.length≤lx.length
 lim:bL zl
 c1:c≤1
 val:lv zl+4294967296^zl.length*c=lv (lx.take zl.length)+lv (ly.take zl.length)
theorem PlusR.step {lx ly zl:List Nat} {c:Nat} (h:PlusR lx ly zl c) (hx:bL lx) (hy:bL ly) (hl:ly.length≤lx.length) (hlt:zl.length<lx.length) :
  PlusR lx ly (zl ++ [(c+lx.getD zl.length 0+ly.getD zl.length 0) % 4294967296]) ((c+lx.getD zl.length 0+ly.getD zl.length 0) / 4294967296):=by
 have h1:=bh hx zl.length
 have h2:=bh hy zl.length
 have h3:=h.c1
 refine ⟨by simp;omega,fun d hd => ?_,by omega,?_⟩
 ·rcases List.mem_append.1 hd with hd | hd
  ·exact h.lim d hd
  ·simp at hd;omega
 ·have hy2:lv (ly.take (zl.length+1))=lv (ly.take zl.length)+4294967296^zl.length*ly.getD zl.length 0:=by
   by_cases hk:zl.length<ly.length
   ·exact bR hk
   ·rw [List.take_of_length_le X,List.take_of_length_le X]; simp [List.getElem?_eq_none (Nat.le_of_not_lt hk)]
  simp only [List.length_append,List.length_cons,List.length_nil,Nat.zero_add]
  rw [gn,bR hlt,hy2,Nat.pow_succ]
  have hv:=h.val
  generalize lx.getD zl.length 0=x at *
  generalize ly.getD zl.length 0=y at *
  generalize 4294967296^zl.length=B at *
  have e:(c+x+y)=4294967296*((c+x+y) / 4294967296)+(c+x+y) % 4294967296:=by omega
  generalize (c+x+y) / 4294967296=q at *
  generalize (c+x+y) % 4294967296=r at *
  simp only [lv,Nat.mul_zero,Nat.add_zero]
  have e2:B*(c+x+y)=B*(4294967296*q+r):=by rw [e]
  simp only [Nat.mul_add,Nat.mul_assoc] at e2 ⊢
  omega
theorem wy (a b:Nat) (ha:(aL a).length≤1099511627776) (hb:(aL b).length≤1099511627776):Ok Tryz.prog 97 [cz (aL a),cz (aL b)] (mF (a+b)):=by
 refine Ok.enter Tryz.func97 Y Tryz.ntmps97 Y (fun w O => ?_)
 refine ae (ai (FJ Y (FL (aa (ae (ae (ai (FI Y (FH (aY Y) ?_)))))))))
 refine FI Y (FH (aY Y) (FH (a6 Y Y) (FL (aa ?_))))
 refine gk (σ:=List Nat × List Nat) (fun s => [(0,cz s.1),(1,cz s.2)]) (fun _ => []) (fun s=>bL s.1∧bL s.2∧s.2.length≤s.1.length∧s.1.length≤1099511627776∧lv s.1+lv s.2=a+b) ?_ (fun s ⟨hx,hy,hl,hs,hv⟩ => ?_)
 ·refine bm Y (fun hc => ?_) (fun hc => ?_) <;> simp at hc
  ·refine ai (FI Y (FI Y (FJ Y (FJ Y (FL ?_)))))
   exact c7 (aL b,aL a) ⟨a9 _,a9 _,Nat.le_of_lt hc,hb,by simp only [cd]; omega⟩ FE (SubM.refl _)
  ·refine aw ?_
   exact c7 (aL a,aL b) ⟨a9 _,a9 _,hc,ha,by simp only [cd]⟩ FE (SubM.refl _)
 ·obtain ⟨lx,ly⟩:=s
  simp only at hx hy hl hs hv ⊢
  refine aa (ae (ai (FI Y (FH (aY Y) ?_))))
  (refine FH (cA Y Y (aR ?_ ?_)) ?_;omega;omega)
  refine bY (lx.length+1) (lx.length+1) Y Y (by simp) (by simp) (Nat.le_refl _) Y Y X Y Y (fun bz => ?_)
  refine FJ Y (FL (aa (ae (ai (FJ Y (FL (aa (ae (ae ?_)))))))))
  refine ai (FI Y (FH (aY Y) (FI Y (FL (aa (au ?_))))))
  refine cO (σ:=List Nat × Nat) (fun s => [(0,cz lx),(1,cz ly),(5,one (slV (some bz) (lx.length+1) (lx.length+1))),(6,one (.int .u64 (s.2:Nat))),(20,one (.int .i64 lx.length)),(21,one (.int .i64 s.1.length))])
   (fun s => [aH (some bz) 86 .one (lx.length+1) (lx.length+1) (fun q=>one (.int .u32 (s.1.getD q 0:Nat)))]) (fun s=>PlusR lx ly s.1 s.2) (fun s=>lx.length - s.1.length) ([],0)
   ⟨by simp,(fun d hd=>by cases hd),by decide,by simp [lv]⟩ FE (.keep (a7 (by simp)) .nil) (fun s hR => ?_)
  obtain ⟨zl,c⟩:=s
  simp only at hR ⊢
  refine ae (ai (FH (a6 Y Y) (FL (aa (ae ?_)))))
  refine bm Y (fun hc => ?_) (fun hc => ?_) <;> simp at hc
  ·have h1:=bh hx zl.length
   have h2:=bh hy zl.length
   have h3:=hR.c1
   refine aw (aa (ae (au (ae (ai (FI Y (FJ Y (FL (aa ?_)))))))))
   refine ae (ai (FI Y (FI Y (FI Y ?_))))
   (refine FH (aC Y Y ?_) ?_;omega)
   refine FH (aN Y) ?_
   (refine FH (bU Y ?_) ?_;omega)
   (refine FH (dK Y Y ?_) ?_;omega)
   refine FJ Y (FL (aa (ae (ae (ai (FI Y (FI Y (FH (aY Y) (FH (a6 Y Y) ?_)))))))))
   refine FL (aa ?_)
   refine gk (σ:=Unit) (fun _ => [(0,cz lx),(1,cz ly),(5,one (slV (some bz) (lx.length+1) (lx.length+1))),(6,one (.int .u64 ((c+lx.getD zl.length 0+ly.getD zl.length 0:Nat):Int))),(7,one (.int .i64 zl.length)),(20,one (.int .i64 lx.length)),(21,one (.int .i64 zl.length))])
    (fun _ => [aH (some bz) 86 .one (lx.length+1) (lx.length+1) (fun q=>one (.int .u32 (zl.getD q 0:Nat)))]) (fun _=>True) ?_ (fun _ _ => ?_)
   ·refine bm Y (fun hc => ?_) (fun hc => ?_) <;> simp at hc
    ·refine ai (FI Y (FI Y (FI Y ?_)))
     (refine FH (aC Y Y ?_) ?_;omega)
     refine FH (aN Y) ?_
     (refine FH (bU Y ?_) ?_;omega)
     (refine FH (dK Y Y ?_) ?_;omega)
     refine FJ Y (FL ?_)
     exact c7 () trivial FE (SubM.refl _)
    ·have e0:ly.getD zl.length 0=0:=by simp [List.getElem?_eq_none hc]
     refine aw ?_
     exact c7 () trivial FE (SubM.refl _)
   ·refine aa (ae (ai (FI Y (FI Y (FI Y (FH (cM Y) ?_))))))
    (refine FH (aq Y Y ?_) ?_;omega)
    (refine az 0 Y Y Y ?_ Y ?_;omega)
    refine FL (aa (ai (FI Y (FH (gT Y) (FJ Y (FL (aF (aa (ai ?_)))))))))
    (refine FH (cA Y Y (aR ?_ ?_)) ?_;omega;omega)
    refine FI Y (FL ?_)
    have hstep:=hR.step hx hy hl hc
    refine ci (s:=(zl,c)) (zl ++ [(c+lx.getD zl.length 0+ly.getD zl.length 0) % 4294967296],(c+lx.getD zl.length 0+ly.getD zl.length 0) / 4294967296) hstep (by simp;omega) FE (.keep (a7 (fun q hq => ?_)) .nil)
    unfold upd;rw [kU]; split <;> rfl
  ·have hlen:zl.length=lx.length:=by have:=hR.len;omega
   refine aV (av (av (aE (aa (ae (ai (FI Y (FI Y (FH (aY Y) ?_)))))))))
   refine FI Y (FH (cM Y) ?_)
   (refine FH (aq Y Y ?_) ?_;omega)
   (refine az 0 Y Y Y ?_ Y ?_;omega)
   refine FL (aa (ae (ai (FI Y (FJ Y (FL (aa (aG (bZ (t:=4) (i:=0) Y Y ?_)))))))))
   refine aT Tryz.results97 (.tmp Y (VT.le_trans (cI (m:=(zl ++ [c]).length) (ψ:=fun i=>one (.int .u32 ((zl ++ [c]).getD i 0:Nat))) (by simp [hlen]) (fun q hq => ?_)) (fT (l:=zl ++ [c]) ?_ ?_)))
   ·have h3:=hR.c1
    unfold upd;rw [kU,hlen]
    split
    ·rw [Nat.mod_eq_of_lt X]
    ·rfl
   ·intro d hd
    have h3:=hR.c1
    rcases List.mem_append.1 hd with hd | hd
    ·exact hR.lim d hd
    ·simp at hd;omega
   ·have h4:=hR.val
    rw [hlen,List.take_length,List.take_of_length_le X] at h4
    rw [gn,hlen]; simp only [lv,Nat.mul_zero,Nat.add_zero]; omega
end Tor
end
section
namespace Tor
open Go Go.RowKit Go.Proofs
attribute [local irreducible] J PJ aM one slT bW bH bj exT cn eP aX aH slV VT.le Ret bP
theorem qL (a:Int):Ok Tryz.prog 146 [one (.int .i64 a)] (one (.bool false)):=by
 refine Ok.enter Tryz.func146 Y Tryz.ntmps146 Y (fun w O => ?_)
 refine ae (ai (FJ Y (FL (aa (ae (ai (FI Y (FI Y (FH (dj Y Y) ?_)))))))))
 refine FJ Y (FL (aa (aG ?_)))
 exact aT Tryz.results146 (.tmp Y (ar (by simp)))
theorem qM (a:Int):Ok Tryz.prog 167 [one (.int .u32 a)] (one (.bool false)):=by
 refine Ok.enter Tryz.func167 Y Tryz.ntmps167 Y (fun w O => ?_)
 refine ae (ai (FJ Y (FL (aa (ae (ai (FI Y (FI Y (FH (dj Y Y) ?_)))))))))
 refine FJ Y (FL (aa (aG ?_)))
 exact aT Tryz.results167 (.tmp Y (ar (by simp)))
theorem ky (a b:Int):Ok Tryz.prog 100 [one (.int .i64 a),one (.int .i64 b)] (one (.int .i64 (dt a b))):=by
 refine Ok.enter Tryz.func100 Y Tryz.ntmps100 Y (fun w O => ?_)
 refine ae (ai (FJ Y (FL (aa (ae (ai (FI Y ?_)))))))
 refine FH (am (qL _) Y ⟨S,FM⟩) ?_
 refine FJ Y (FL (aa (ae (ai (FI Y ?_)))))
 refine FH (am (qL _) Y ⟨S,FM⟩) ?_
 refine FJ Y (FL (aa (ae (ae (ai (FI Y (FL (aa ?_))))))))
 refine bm Y (fun hc=>by cases hc) (fun hc => ?_)
 refine aw (aa (ae (ae (ai (FI Y (FL (aa ?_)))))))
 refine bm Y (fun hc=>by cases hc) (fun hc => ?_)
 refine aw (aa (ae (ae (ai (FI Y (FI Y (FH (a6 Y Y) (FL (aa ?_)))))))))
 refine bm Y (fun hc => ?_) (fun hc => ?_) <;> simp at hc
 ·refine ae (ai (FJ Y (FL (aa (aG (aS ?_))))))
  exact aT Tryz.results100 (.tmp Y (ar (by rw [dt,if_pos hc])))
 ·refine aw (aa (ae (ae (ai (FI Y (FI Y (FH (cU Y Y) (FL (aa ?_)))))))))
  refine bm Y (fun hc2 => ?_) (fun hc2 => ?_) <;> simp at hc2
  ·refine ae (ai (FJ Y (FL (aa (aG (aS ?_))))))
   exact aT Tryz.results100 (.tmp Y (ar (by rw [dt,if_neg X,if_pos hc2])))
  ·refine aw (aa (ae (ai (FJ Y (FL (aa (aG ?_)))))))
   exact aT Tryz.results100 (.tmp Y (ar (by rw [dt,if_neg X,if_neg X])))
theorem po (a b:Int):Ok Tryz.prog 145 [one (.int .u32 a),one (.int .u32 b)] (one (.int .i64 (dt a b))):=by
 refine Ok.enter Tryz.func145 Y Tryz.ntmps145 Y (fun w O => ?_)
 refine ae (ai (FJ Y (FL (aa (ae (ai (FI Y ?_)))))))
 refine FH (am (qM _) Y ⟨S,FM⟩) ?_
 refine FJ Y (FL (aa (ae (ai (FI Y ?_)))))
 refine FH (am (qM _) Y ⟨S,FM⟩) ?_
 refine FJ Y (FL (aa (ae (ae (ai (FI Y (FL (aa ?_))))))))
 refine bm Y (fun hc=>by cases hc) (fun hc => ?_)
 refine aw (aa (ae (ae (ai (FI Y (FL (aa ?_)))))))
 refine bm Y (fun hc=>by cases hc) (fun hc => ?_)
 refine aw (aa (ae (ae (ai (FI Y (FI Y (FH (a6 Y Y) (FL (aa ?_)))))))))
 refine bm Y (fun hc => ?_) (fun hc => ?_) <;> simp at hc
 ·refine ae (ai (FJ Y (FL (aa (aG (aS ?_))))))
  exact aT Tryz.results145 (.tmp Y (ar (by rw [dt,if_pos hc])))
 ·refine aw (aa (ae (ae (ai (FI Y (FI Y (FH (cU Y Y) (FL (aa ?_)))))))))
  refine bm Y (fun hc2 => ?_) (fun hc2 => ?_) <;> simp at hc2
  ·refine ae (ai (FJ Y (FL (aa (aG (aS ?_))))))
   exact aT Tryz.results145 (.tmp Y (ar (by rw [dt,if_neg X,if_pos hc2])))
  ·refine aw (aa (ae (ai (FJ Y (FL (aa (aG ?_)))))))
   exact aT Tryz.results145 (.tmp Y (ar (by rw [dt,if_neg X,if_neg X])))
theorem lS (a b:Nat):Ok Tryz.prog 98 [cz (aL a),cz (aL b)] (one (.int .i64 (np a b))):=by
 refine Ok.enter Tryz.func98 Y Tryz.ntmps98 Y (fun w O => ?_)
 refine jE (t:=0) Y (fun _ _=>fB) (fun hb => ?_)
 refine ae (ai (FJ Y (FL (aa (ae (ae (ai (FI Y (FH (aY Y) ?_)))))))))
 refine FI Y (FH (aY Y) ?_)
 refine FH (am (ky _ _) Y ⟨S,S,FM⟩) ?_
 refine FJ Y (FL (aa (ae (ai (FI Y (FH (dj Y Y) (FL (aa ?_))))))))
 refine bm Y (fun hc => ?_) (fun hc => ?_) <;> simp at hc
 ·refine ae (ai (FI Y (FJ Y (FL (aa (aG (aS ?_)))))))
  refine aT Tryz.results98 (.tmp Y (ar ?_))
  unfold dt at hc ⊢
  unfold np
  congr 1
  by_cases h1:(aL a).length<(aL b).length
  ·have:=jm h1
   rw [if_pos X,if_pos this]
  ·by_cases h2:(aL b).length<(aL a).length
   ·have:=jm h2
    rw [if_neg X,if_pos X,if_neg X,if_pos this]
   ·rw [if_neg X,if_neg X] at hc;exact absurd Y hc
 ·have hlen:(aL a).length=(aL b).length:=by
   unfold dt at hc
   split at hc
   ·cases hc
   ·split at hc
    ·cases hc
    ·omega
  refine aw (aa (ae (ae (ai (FI Y (FH (aY Y) ?_))))))
  (refine FH (d4 Y Y (aR ?_ ?_)) ?_;omega;omega)
  refine FJ Y (FL (aa (au ?_)))
  refine cO (σ:=Nat) (fun n => [(0,cz (aL a)),(1,cz (aL b)),(6,one (.int .i64 ((n:Int) - 1)))]) (fun _ => []) (fun n=>n≤(aL a).length∧(aL a).drop n=(aL b).drop n) (fun n=>n) (aL a).length
   ⟨Nat.le_refl _,by rw [List.drop_length,hlen,List.drop_length]⟩ FE (SubM.refl _) (fun n ⟨hn,hd⟩ => ?_)
  refine ae (ae (ai (FI Y (FH (eu Y Y) (FL (aa ?_))))))
  refine bm Y (fun hc2 => ?_) (fun hc2 => ?_) <;> simp at hc2
  ·obtain ⟨n,rfl⟩ : ∃ m,n=m+1:=⟨n - 1,by omega⟩
   have e:((n+1:Nat):Int) - 1=n:=by omega
   rw [e]
   refine aw (aa (ae (au (ae (be 10 a4 Z U (FI Y (FI Y ?_)))))))
   (refine FH (aC Y Y ?_) ?_;omega)
   refine FH (aN Y) (FI Y (FI Y ?_))
   (refine FH (aC Y Y ?_) ?_;omega)
   refine FH (aN Y) ?_
   refine FH (am (po _ _) Y ⟨S,S,FM⟩) ?_
   refine FJ Y (FL (FL (aa (ae (ai (FI Y (FH (dj Y Y) (FL (aa ?_)))))))))
   refine bm Y (fun hc3 => ?_) (fun hc3 => ?_) <;> simp only [decide_eq_true_eq,decide_eq_false_iff_not,ne_eq,Decidable.not_not] at hc3
   ·refine ae (ai (FI Y (FJ Y (FL (aa (aG (bJ (aS (aS ?_)))))))))
    refine bJ (aS ?_)
    refine aT Tryz.results98 (.tmp Y (ar ?_))
    congr 1
    unfold dt at hc3 ⊢
    unfold np
    by_cases h1:(aL a).getD n 0<(aL b).getD n 0
    ·have:=rU (a9 a) (a9 b) hlen (i:=n) X hd h1
     rw [cd,cd] at this
     rw [if_pos X,if_pos this]
    ·by_cases h2:(aL b).getD n 0<(aL a).getD n 0
     ·have:=rU (a9 b) (a9 a) hlen.symm (i:=n) X hd.symm h2
      rw [cd,cd] at this
      rw [if_neg X,if_pos X,if_neg X,if_pos this]
     ·rw [if_neg X,if_neg X] at hc3;exact absurd Y hc3
   ·refine aw (aF (aa (ai (FI Y ?_))))
    (refine FH (d4 Y Y (aR ?_ ?_)) ?_;omega;omega)
    refine FJ Y (FL ?_)
    refine ci (s:=n+1) n ⟨by omega,?_⟩ X FE (SubM.refl _)
    have h3:(aL a).getD n 0=(aL b).getD n 0:=by
     unfold dt at hc3
     split at hc3
     ·cases hc3
     ·split at hc3
      ·cases hc3
      ·omega
    have e1:=fE (l:=aL a) (k:=n) X
    have e2:=fE (l:=aL b) (k:=n) X
    rw [e1,e2,h3,hd]
  ·refine aV (av (av (aE (aa (ae (ai (FJ Y (FL (aa ?_)))))))))
   refine aG ?_
   have h0:n=0:=by omega
   subst h0
   have h4:a=b:=tv (by simpa using hd)
   exact aT Tryz.results98 (.tmp Y (ar (by subst h4;simp [np])))
end Tor
end
section
namespace Tor
open Go Go.RowKit Go.Proofs
attribute [local irreducible] J PJ aM one slT bW bH bj exT cn eP aX aH slV VT.le Ret bP
structure MinusR (lx ly:List Nat) (zl:List Nat) (c:Nat):Prop where
 len:zl.length≤lx.length
 lim:bL zl
 c1:c≤1
 val:lv zl+lv (ly.take zl.length)=lv (lx.take zl.length)+4294967296^zl.length*c
theorem tx {x y c d:Nat} (hx:x<4294967296) (hy:y<4294967296) (hc:c≤1) (hd:d=((x+18446744073709551616 - c) % 18446744073709551616+18446744073709551616 - y) % 18446744073709551616) :
  d % 4294967296+y+c=x+4294967296*(d / 9223372036854775808)∧d / 9223372036854775808≤1:=by
 rcases Nat.lt_or_ge x (y+c) with h | h
 ·have h1:d=x+18446744073709551616 - (y+c):=by omega
  omega
 ·have h1:d=x - (y+c):=by omega
  omega
theorem MinusR.step {lx ly zl:List Nat} {c d:Nat} (h:MinusR lx ly zl c) (hx:bL lx) (hy:bL ly) (hl:ly.length≤lx.length) (hlt:zl.length<lx.length)
  (hd:d=((lx.getD zl.length 0+18446744073709551616 - c) % 18446744073709551616+18446744073709551616 - ly.getD zl.length 0) % 18446744073709551616) :
  MinusR lx ly (zl ++ [d % 4294967296]) (d / 9223372036854775808):=by
 obtain ⟨h1,h2⟩:=tx (bh hx zl.length) (bh hy zl.length) h.c1 hd
 refine ⟨by simp;omega,fun e he => ?_,h2,?_⟩
 ·rcases List.mem_append.1 he with he | he
  ·exact h.lim e he
  ·simp at he;omega
 ·have hy2:lv (ly.take (zl.length+1))=lv (ly.take zl.length)+4294967296^zl.length*ly.getD zl.length 0:=by
   by_cases hk:zl.length<ly.length
   ·exact bR hk
   ·rw [List.take_of_length_le X,List.take_of_length_le X]; simp [List.getElem?_eq_none (Nat.le_of_not_lt hk)]
  simp only [List.length_append,List.length_cons,List.length_nil,Nat.zero_add]
  rw [gn,bR hlt,hy2,Nat.pow_succ]
  have hv:=h.val
  clear hd
  generalize lx.getD zl.length 0=x at *
  generalize ly.getD zl.length 0=y at *
  generalize 4294967296^zl.length=B at *
  generalize d % 4294967296=r at *
  generalize d / 9223372036854775808=q at *
  simp only [lv,Nat.mul_zero,Nat.add_zero]
  have e2:B*(r+y+c)=B*(x+4294967296*q):=by rw [h1]
  simp only [Nat.mul_add,Nat.mul_assoc] at e2 ⊢
  omega
theorem pp (a b:Nat) (hab:b≤a) (ha:(aL a).length≤1099511627776):Ok Tryz.prog 99 [cz (aL a),cz (aL b)] (mF (a - b)):=by
 refine Ok.enter Tryz.func99 Y Tryz.ntmps99 Y (fun w O => ?_)
 have hx:=a9 a
 have hy:=a9 b
 have hl:=ck hab
 have hva:=cd a
 have hvb:=cd b
 generalize aL a=lx at *
 generalize aL b=ly at *
 refine ae (ai (FJ Y (FL (aa (ae (ai (FI Y (FH (aY Y) ?_))))))))
 refine bY lx.length lx.length Y Y Y Y (Nat.le_refl _) Y Y X Y Y (fun bz => ?_)
 refine FJ Y (FL (aa (ae (ai (FJ Y (FL (aa (ae (ae ?_)))))))))
 refine ai (FI Y (FH (aY Y) (FI Y (FL (aa (au ?_))))))
 refine cO (σ:=List Nat × Nat) (fun s => [(0,cz lx),(1,cz ly),(5,one (slV (some bz) lx.length lx.length)),(6,one (.int .u64 (s.2:Nat))),(13,one (.int .i64 lx.length)),(14,one (.int .i64 s.1.length))])
   (fun s => [aH (some bz) 86 .one lx.length lx.length (fun q=>one (.int .u32 (s.1.getD q 0:Nat)))]) (fun s=>MinusR lx ly s.1 s.2) (fun s=>lx.length - s.1.length) ([],0)
   ⟨by simp,(fun d hd=>by cases hd),by decide,by simp [lv]⟩ FE (.keep (a7 (by simp)) .nil) (fun s hR => ?_)
 obtain ⟨zl,c⟩:=s
 simp only at hR ⊢
 refine ae (ai (FH (a6 Y Y) (FL (aa (ae ?_)))))
 refine bm Y (fun hc => ?_) (fun hc => ?_) <;> simp at hc
 ·have h1:=bh hx zl.length
  have h2:=bh hy zl.length
  have h3:=hR.c1
  refine aw (aa (ae (au (ae (ai (FI Y (FJ Y (FL (aa ?_)))))))))
  refine ae (ai (FI Y (FI Y ?_)))
  (refine FH (aC Y Y ?_) ?_;omega)
  refine FH (aN Y) ?_
  (refine FH (bU Y ?_) ?_;omega)
  refine FI Y ?_
  (refine FH (fM Y Y ?_ ?_) ?_;omega;omega)
  refine FJ Y (FL (aa (ae (ae (ai (FI Y (FI Y (FH (aY Y) (FH (a6 Y Y) ?_)))))))))
  refine FL (aa ?_)
  generalize hD:((lx.getD zl.length 0+18446744073709551616 - c) % 18446744073709551616+18446744073709551616 - ly.getD zl.length 0) % 18446744073709551616=d
  refine gk (σ:=Unit) (fun _ => [(0,cz lx),(1,cz ly),(5,one (slV (some bz) lx.length lx.length)),(8,one (.int .u64 (d:Nat))),(7,one (.int .i64 zl.length)),(13,one (.int .i64 lx.length)),(14,one (.int .i64 zl.length))])
    (fun _ => [aH (some bz) 86 .one lx.length lx.length (fun q=>one (.int .u32 (zl.getD q 0:Nat)))]) (fun _=>True) ?_ (fun _ _ => ?_)
  ·refine bm Y (fun hc => ?_) (fun hc => ?_) <;> simp at hc
   ·refine ai (FI Y (FI Y (FI Y ?_)))
    (refine FH (aC Y Y ?_) ?_;omega)
    refine FH (aN Y) ?_
    (refine FH (bU Y ?_) ?_;omega)
    (refine FH (fM Y Y ?_ ?_) ?_;omega;omega)
    refine FJ Y (FL ?_)
    exact c7 () trivial FE (SubM.refl _)
   ·have e0:ly.getD zl.length 0=0:=by simp [List.getElem?_eq_none hc]
    refine aw ?_
    exact c7 () trivial FE (SubM.refl _)
  ·refine aa (ae (ai (FI Y (FI Y (FI Y (FH (cM Y) ?_))))))
   (refine FH (aq Y Y ?_) ?_;omega)
   (refine az 0 Y Y Y ?_ Y ?_;omega)
   refine FL (aa (ai (FI Y (FH (rx Y) (FJ Y (FL (aF (aa (ai ?_)))))))))
   (refine FH (cA Y Y (aR ?_ ?_)) ?_;omega;omega)
   refine FI Y (FL ?_)
   have hstep:=hR.step hx hy hl hc hD.symm
   refine ci (s:=(zl,c)) (zl ++ [d % 4294967296],d / 9223372036854775808) hstep (by simp;omega) FE (.keep (a7 (fun q hq => ?_)) .nil)
   unfold upd;rw [kU]; split <;> rfl
 ·have hlen:zl.length=lx.length:=by have:=hR.len;omega
  refine aV (av (av (aE (aa (ae (ai (FI Y (FJ Y (FL ?_)))))))))
  refine aa (aG (bZ (t:=4) (i:=0) Y Y ?_))
  refine aT Tryz.results99 (.tmp Y (VT.le_trans (cI (m:=zl.length) (ψ:=fun i=>one (.int .u32 (zl.getD i 0:Nat))) hlen.symm (fun q hq=>rfl)) (fT (l:=zl) hR.lim ?_)))
  have h4:=hR.val
  rw [hlen,List.take_length,List.take_of_length_le X,hva,hvb] at h4
  have h5:=iy hR.lim
  rw [hlen] at h5
  have h3:=hR.c1
  have:c=0:=by
   rcases Nat.eq_zero_or_pos c with h | h
   ·exact h
   ·have:c=1:=by omega
    subst this;omega
  subst this;omega
end Tor
end
section
namespace Tor
open Go Go.RowKit Go.Proofs
attribute [local irreducible] J PJ aM one slT bW bH bj exT cn eP aX aH slV VT.le Ret bP
structure TimesR (lx ly zz:List Nat) (i:Nat):Prop where
 le:i≤lx.length
 len:zz.length=lx.length+ly.length
 lim:bL zz
 zero : ∀ k,i+ly.length≤k→zz.getD k 0=0
 val:lv zz=lv (lx.take i)*lv ly
structure TimesI (lx ly z0 zz:List Nat) (i j c:Nat):Prop where
 le:j≤ly.length
 len:zz.length=lx.length+ly.length
 lim:bL zz
 zero : ∀ k,i+ly.length≤k→zz.getD k 0=0
 c1:c<4294967296
 val:lv zz+4294967296^(i+j)*c=lv z0+4294967296^i*(lx.getD i 0*lv (ly.take j))
theorem TimesI.step {lx ly z0 zz:List Nat} {i j c:Nat} (h:TimesI lx ly z0 zz i j c) (hx:bL lx) (hy:bL ly) (hi:i<lx.length) (hj:j<ly.length) :
  TimesI lx ly z0 (zz.set (i+j) ((c+(lx.getD i 0*ly.getD j 0+zz.getD (i+j) 0)) % 4294967296)) i (j+1) ((c+(lx.getD i 0*ly.getD j 0+zz.getD (i+j) 0)) / 4294967296):=by
 have hlim:=mE (bh hx i) (bh hy j) (bh h.lim (i+j)) h.c1
 have hlt:i+j<zz.length:=by rw [h.len]; omega
 refine ⟨hj,by rw [List.length_set]; exact h.len,h.lim.set X,fun k hk => ?_,by omega,?_⟩
 ·rw [el hlt,if_neg X]; exact h.zero k hk
 ·have hs:=gp (l:=zz) (k:=i+j) (v:=(c+(lx.getD i 0*ly.getD j 0+zz.getD (i+j) 0)) % 4294967296) hlt
  have hv:=h.val
  rw [bR hj]
  generalize lx.getD i 0=x at *
  generalize ly.getD j 0=y at *
  generalize zz.getD (i+j) 0=z at *
  have e:c+(x*y+z)=4294967296*((c+(x*y+z)) / 4294967296)+(c+(x*y+z)) % 4294967296:=by omega
  generalize (c+(x*y+z)) / 4294967296=q at *
  generalize (c+(x*y+z)) % 4294967296=r at *
  rw [show i+(j+1)=(i+j)+1 by omega,Nat.pow_succ]
  have eB:4294967296^i*4294967296^j=4294967296^(i+j):=(Nat.pow_add _ _ _).symm
  have e3:4294967296^i*(x*(lv (ly.take j)+4294967296^j*y))=4294967296^i*(x*lv (ly.take j))+4294967296^(i+j)*(x*y):=by
   rw [Nat.mul_add,Nat.mul_add, ← eB]
   congr 1
   rw [Nat.mul_assoc]; congr 1
   rw [Nat.mul_left_comm]
  rw [e3]
  generalize 4294967296^(i+j)=B at *
  have e2:B*(c+(x*y+z))=B*(4294967296*q+r):=by rw [e]
  simp only [Nat.mul_add, ← Nat.mul_assoc] at e2 ⊢ hs hv
  omega
theorem TimesR.start {lx ly z0:List Nat} {i:Nat} (h:TimesR lx ly z0 i):TimesI lx ly z0 z0 i 0 0:=⟨Nat.zero_le _,h.len,h.lim,h.zero,by decide,by simp [lv]⟩
theorem TimesI.finish {lx ly z0 zz:List Nat} {i c:Nat} (h0:TimesR lx ly z0 i) (h:TimesI lx ly z0 zz i ly.length c) (hi:i<lx.length):TimesR lx ly (zz.set (i+ly.length) (c % 4294967296)) (i+1):=by
 have hlt:i+ly.length<zz.length:=by rw [h.len]; omega
 have hc:=h.c1
 refine ⟨hi,by rw [List.length_set]; exact h.len,h.lim.set X,fun k hk => ?_,?_⟩
 ·rw [el hlt,if_neg X]; exact h.zero k X
 ·have hs:=gp (l:=zz) (k:=i+ly.length) (v:=c % 4294967296) hlt
  rw [h.zero _ (Nat.le_refl _),Nat.mul_zero,Nat.add_zero,Nat.mod_eq_of_lt hc] at hs
  rw [Nat.mod_eq_of_lt hc,hs,h.val,List.take_length,h0.val,bR hi,Nat.add_mul,Nat.mul_assoc]
theorem bL.replicate (n:Nat):bL (List.replicate n 0):=fun d hd=>by
 have:=(List.mem_replicate.1 hd).2;omega
theorem d8 : ∀ n,lv (List.replicate n 0)=0
 | 0 => rfl
 | n + 1 => by rw [List.replicate_succ, lv, d8 n]
theorem cF (n q:Nat):(List.replicate n 0).getD q 0=0:=by
 simp only [List.getD,List.getElem?_replicate]; split <;> rfl
theorem zP (a b:Nat) (ha:(aL a).length≤1099511627776) (hb:(aL b).length≤1099511627776):Ok Tryz.prog 87 [cz (aL a),cz (aL b)] (mF (a*b)):=by
 refine Ok.enter Tryz.func87 Y Tryz.ntmps87 Y (fun w O => ?_)
 have hx:=a9 a
 have hy:=a9 b
 have hva:=cd a
 have hvb:=cd b
 generalize aL a=lx at *
 generalize aL b=ly at *
 refine ae (ai (FJ Y (FL (aa (ae (ai (FI Y (FH (aY Y) (FI Y ?_)))))))))
 refine FH (aY Y) ?_
 (refine FH (cA Y Y (aR ?_ ?_)) ?_;omega;omega)
 refine bY (lx.length+ly.length) (lx.length+ly.length) Y Y (by simp) (by simp) (Nat.le_refl _) Y Y X Y Y (fun bz => ?_)
 refine FJ Y (FL (aa (ae (ae (ai (FI Y (FH (aY Y) (FI Y (FL ?_)))))))))
 refine aa (au ?_)
 refine cO (σ:=List Nat × Nat) (fun s => [(1,cz ly),(5,one (slV (some bz) (lx.length+ly.length) (lx.length+ly.length))),(17,cz lx),(18,one (.int .i64 lx.length)),(19,one (.int .i64 (s.2:Nat)))])
   (fun s => [aH (some bz) 86 .one (lx.length+ly.length) (lx.length+ly.length) (fun q=>one (.int .u32 (s.1.getD q 0:Nat)))]) (fun s=>TimesR lx ly s.1 s.2) (fun s=>lx.length - s.2) (List.replicate (lx.length+ly.length) 0,0)
   ⟨by simp,by simp,bL.replicate _,fun k _=>cF _ _,by simp [d8,lv]⟩ FE (.keep (a7 (fun q _=>by rw [cF]; rfl)) .nil) (fun s hR => ?_)
 obtain ⟨z0,i⟩:=s
 simp only at hR ⊢
 refine ae (ai (FH (a6 Y Y) (FL (aa (ae ?_)))))
 refine bm Y (fun hc => ?_) (fun hc => ?_) <;> simp at hc
 ·have h1:=bh hx i
  refine aw (aa (ae (au (ae (ai (FI Y ?_))))))
  (refine FH (aC Y Y ?_) ?_;omega)
  refine FH (aN Y) (FJ Y (FJ Y (FL (aa (ae (ai (FJ Y (FL (aa ?_)))))))))
  refine ae (ae (ai (FI Y (FH (aY Y) (FI Y (FL (aa (au ?_))))))))
  refine cO (σ:=List Nat × Nat × Nat) (fun s => [(1,cz ly),(5,one (slV (some bz) (lx.length+ly.length) (lx.length+ly.length))),(6,one (.int .i64 i)),(7,one (.int .u32 (lx.getD i 0:Nat))),(8,one (.int .u64 (s.2.2:Nat))),(24,cz ly),(25,one (.int .i64 ly.length)),(26,one (.int .i64 (s.2.1:Nat))),(17,cz lx),(18,one (.int .i64 lx.length)),(19,one (.int .i64 i))])
   (fun s => [aH (some bz) 86 .one (lx.length+ly.length) (lx.length+ly.length) (fun q=>one (.int .u32 (s.1.getD q 0:Nat)))]) (fun s=>TimesI lx ly z0 s.1 i s.2.1 s.2.2) (fun s=>ly.length - s.2.1) (z0,0,0)
   hR.start FE (SubM.refl _) (fun s hI => ?_)
  obtain ⟨zz,j,c⟩:=s
  simp only at hI ⊢
  refine ae (ai (FH (a6 Y Y) (FL (aa (ae ?_)))))
  refine bm Y (fun hc2 => ?_) (fun hc2 => ?_) <;> simp at hc2
  ·have h2:=bh hy j
   have h3:=bh hI.lim (i+j)
   have h4:=mE h1 h2 h3 hI.c1
   have h5:=hI.c1
   refine aw (aa (ae (au (ae (ai (FI Y ?_))))))
   (refine FH (aC Y Y ?_) ?_;omega)
   refine FH (aN Y) (FJ Y (FJ Y (FL (aa (ae (ai (FI Y (FI Y ?_))))))))
   (refine FH (bU Y ?_) ?_;omega)
   refine FI Y ?_
   (refine FH (bU Y ?_) ?_;omega)
   (refine FH (fa Y Y ?_) ?_;omega)
   refine FI Y (FI Y (FI Y ?_))
   (refine FH (cA Y Y (aR ?_ ?_)) ?_;omega;omega)
   (refine FH (aq Y Y ?_) ?_;omega)
   (refine FH (bg 0 Y Y ?_) ?_;omega)
   (refine FH (bU Y ?_) ?_;omega)
   (refine FH (dK Y Y ?_) ?_;omega)
   (refine FH (dK Y Y ?_) ?_;omega)
   refine FJ Y (FL (aa (ae (ai (FI Y (FI Y (FI Y ?_)))))))
   (refine FH (cA Y Y (aR ?_ ?_)) ?_;omega;omega)
   refine FI Y (FH (cM Y) ?_)
   (refine FH (aq Y Y ?_) ?_;omega)
   (refine az 0 Y Y Y ?_ Y ?_;omega)
   refine FL (aa (ai (FI Y (FH (gT Y) (FJ Y (FL (aF (aa (ai ?_)))))))))
   (refine FH (cA Y Y (aR ?_ ?_)) ?_;omega;omega)
   refine FI Y (FL ?_)
   have hstep:=hI.step hx hy hc hc2
   have hlt:i+j<zz.length:=by rw [hI.len]; omega
   refine ci (s:=(zz,j,c)) (zz.set (i+j) ((c+(lx.getD i 0*ly.getD j 0+zz.getD (i+j) 0)) % 4294967296),j+1,(c+(lx.getD i 0*ly.getD j 0+zz.getD (i+j) 0)) / 4294967296) hstep (by simp;omega) FE (.keep (a7 (fun q hq => ?_)) .nil)
   unfold upd;rw [el hlt]; split <;> rfl
  ·have hj:j=ly.length:=by have:=hI.le;omega
   subst hj
   refine aV (av (av (aE (aa (ai (FI Y (FI Y (FI Y (FH (aY Y) ?_)))))))))
   (refine FH (cA Y Y (aR ?_ ?_)) ?_;omega;omega)
   refine FI Y (FH (cM Y) ?_)
   (refine FH (aq Y Y ?_) ?_;omega)
   (refine az 0 Y Y Y ?_ Y ?_;omega)
   refine FL (aF (aa (ai ?_)))
   (refine FH (cA Y Y (aR ?_ ?_)) ?_;omega;omega)
   refine FI Y (FL ?_)
   have hfin:=hI.finish hR hc
   have hlt:i+ly.length<zz.length:=by rw [hI.len]; omega
   refine ci (s:=(z0,i)) (zz.set (i+ly.length) (c % 4294967296),i+1) hfin (by simp;omega) FE (.keep (a7 (fun q hq => ?_)) .nil)
   unfold upd;rw [el hlt]; split <;> rfl
 ·have hi:i=lx.length:=by have:=hR.le;omega
  refine aV (av (av (aE (aa (ae (ai (FI Y (FJ Y (FL ?_)))))))))
  refine aa (aG (bZ (t:=4) (i:=0) Y Y ?_))
  refine aT Tryz.results87 (.tmp Y (VT.le_trans (cI (m:=z0.length) (ψ:=fun i=>one (.int .u32 (z0.getD i 0:Nat))) hR.len.symm (fun q hq=>rfl)) (fT (l:=z0) hR.lim ?_)))
  rw [hR.val,hi,List.take_length,hva,hvb]
end Tor
end
section
namespace Tor
open Go Go.RowKit Go.Proofs
def sgT (neg:Bool) (v:Nat):VT:=bH 2 [(0, .one,one (.bool neg)),(1, .one,cz (aL v))]
def sv (neg:Bool) (v:Nat):Int:=if neg then -(v:Int) else v
theorem eG (x:Int):VT.le (aO x) (sgT (decide (x<0)) x.natAbs):=VT.le_refl _
theorem fU (x:Int):sv (decide (x<0)) x.natAbs=x:=by
 unfold sv;by_cases h:x<0
 ·rw [decide_eq_true h,if_pos Y]; omega
 ·rw [decide_eq_false h]; simp only [Bool.false_eq_true,if_false]; omega
attribute [local irreducible] J PJ aM one slT bW bH bj exT cn eP aX aH slV VT.le Ret bP
attribute [local irreducible] aO
theorem kA (u:Nat) (hu:u<18446744073709551616):Ok Tryz.prog 88 [one (.int .u64 u)] (mF u):=by
 refine Ok.enter Tryz.func88 Y Tryz.ntmps88 Y (fun w O => ?_)
 refine ae (ai (FJ Y (FL (aa (ae (ai (FI Y (FH (cM Y) (FI Y ?_)))))))))
 refine FH (gT Y) (FH (cM Y) (stS Y Y Y Y (PartsK.cons Y (PartsK.cons Y (PartsK.nil (FJ Y (FL (aa (aG ?_)))))))))
 refine aT Tryz.results88 (.tmp Y (VT.le_trans (cI (m := [u % 4294967296,u / 4294967296 % 4294967296].length) (ψ:=fun i=>one (.int .u32 ([u % 4294967296,u / 4294967296 % 4294967296].getD i 0:Nat))) Y (fun q hq => ?_)) (fT (l := [u % 4294967296,u / 4294967296 % 4294967296]) ?_ ?_)))
 ·match q,hq with
  | 0, _ => rfl
  | 1, _ => rfl
 ·intro d hd;simp at hd;omega
 ·simp only [lv]; omega
theorem kd (n:Int) (h1 : -9223372036854775808≤n) (h2:n≤9223372036854775807):Ok Tryz.prog 55 [one (.int .i64 n)] (aO n):=by
 refine Ok.enter Tryz.func55 Y Tryz.ntmps55 Y (fun w O => ?_)
 by_cases hn:n<0
 ·refine ae (ai ?_)
  refine aJ (T:=37) Y (ltN Y) (fun b => ?_)
  refine FL (aa (ae (ai (FI Y (FH (ko (r:=((18446744073709551616 - n.natAbs:Nat):Int)) Y (by rw [dD]; omega)) (FJ Y (FL (aa (ae ?_)))))))))
  refine ae (ai (FI Y (FH (a6 Y Y) (FL (aa ?_)))))
  refine bm Y (fun hc => ?_) (fun hc => ?_) <;> simp at hc
  ·refine ai (FI Y (FH (Dw (r:=(n.natAbs:Int)) Y (by rw [dD]; omega)) (FJ Y (FL (aa (ae (ai (FI Y (FH (a6 Y Y) ?_)))))))))
   refine FI Y ?_
   refine FH (am (kA _ X) Y ⟨S,FM⟩) ?_
   refine FH (am (dL _ _) Y ⟨S,S,FM⟩) ?_
   refine aB 0 Y Y Y Y Y (leN Y) Y (FL (aa (aG ?_)))
   exact aT Tryz.results55 (.cellB 0 Y Y Y (cp (by rw [decide_eq_true hn,if_pos Y]; omega)))
  ·omega
 ·refine ae (ai ?_)
  refine aJ (T:=37) Y (ltN Y) (fun b => ?_)
  refine FL (aa (ae (ai (FI Y (FH (ko (r:=(n.natAbs:Int)) Y (by rw [dD]; omega)) (FJ Y (FL (aa (ae ?_)))))))))
  refine ae (ai (FI Y (FH (a6 Y Y) (FL (aa ?_)))))
  refine bm Y (fun hc => ?_) (fun hc => ?_) <;> simp at hc
  ·omega
  ·refine aw (aa (ae (ai (FI Y (FH (a6 Y Y) (FI Y ?_))))))
   refine FH (am (kA _ X) Y ⟨S,FM⟩) ?_
   refine FH (am (dL _ _) Y ⟨S,S,FM⟩) ?_
   refine aB 0 Y Y Y Y Y (leN Y) Y (FL (aa (aG ?_)))
   exact aT Tryz.results55 (.cellB 0 Y Y Y (cp (by rw [decide_eq_false hn]; simp;omega)))
def dn (x:Int):Int:=if x=0 then 0 else if x<0 then -1 else 1
theorem rV (neg:Bool) (v:Nat):Ok Tryz.prog 51 [sgT neg v] (one (.int .i64 (dn (sv neg v)))):=by
 refine Ok.enter Tryz.func51 Y Tryz.ntmps51 Y (fun w O => ?_)
 refine ae (ai ?_)
 refine aQ Y Y (ltN Y) (fun b => ?_)
 refine FJ Y (FL (aa (ae (au (ae (ai (FH (aj Y) (FH (ak 0 Y Y Y) ?_))))))))
 refine FH (am (de _) Y ⟨cH _,FM⟩) ?_
 refine FH (aY Y) (FH (bV Y Y) (FJ Y (FL (aa ?_))))
 refine bm Y (fun hc => ?_) (fun hc => ?_) <;> simp at hc
 ·have hv:v=0:=by rw [← cd v,hc]; rfl
  refine ae (ai (FJ Y (FL (aa (aG (bJ (aS ?_)))))))
  exact aT Tryz.results51 (.tmp Y (ar (by subst hv;simp [dn,sv])))
 ·have hv:v≠0:=by intro e;subst e;exact hc Y
  refine ae (ai (FH (aj Y) (FH (ak 0 Y Y Y) (FJ Y (FL (aa ?_))))))
  refine bm Y (fun hc2 => ?_) (fun hc2 => ?_)
  ·subst hc2
   refine ae (ai (FJ Y (FL (aa (aG (bJ (aS ?_)))))))
   exact aT Tryz.results51 (.tmp Y (ar (by congr 1;unfold dn sv;simp only [if_true]; rw [if_neg X,if_pos X])))
  ·subst hc2
   refine aw (aF (aa (ae (ai (FJ Y (FL (aa (aG ?_))))))))
   exact aT Tryz.results51 (.tmp Y (ar (by congr 1;unfold dn sv;simp only [Bool.false_eq_true,if_false]; rw [if_neg X,if_neg X])))
theorem zQ (n1 n2:Bool) (v1 v2:Nat) (h1:(aL v1).length≤1099511627776) (h2:(aL v2).length≤1099511627776):Ok Tryz.prog 58 [sgT n1 v1,sgT n2 v2] (aO (sv n1 v1+sv n2 v2)):=by
 refine Ok.enter Tryz.func58 Y Tryz.ntmps58 Y (fun w O => ?_)
 refine ae (ai ?_)
 refine aQ Y Y (ltN Y) (fun b => ?_)
 refine aQ Y Y (ltN Y) (fun b => ?_)
 refine aJ (T:=37) Y (ltN Y) (fun b => ?_)
 refine FL (aa (ae (be 8 a4 Z U (FH (aj Y) (FH (ak 2 Y Y Y) ?_)))))
 refine FH (am (de _) Y ⟨cH _,FM⟩) ?_
 refine FH (aj Y) (FH (ak 1 Y Y Y) ?_)
 refine FH (am (de _) Y ⟨cH _,FM⟩) ?_
 refine FJ Y (FJ Y (FL (FL (aa (ae (au (ae (ai (FH (aj Y) ?_)))))))))
 refine FH (ak 2 Y Y Y) (FH (aj Y) (FH (ak 1 Y Y Y) (FH (y6 Y Y) (FJ Y (FL (aa ?_))))))
 refine bm Y (fun hc => ?_) (fun hc => ?_) <;> simp at hc
 ·subst hc
  refine ae (be 6 a4 Z U (FH (aj Y) (FH (ak 2 Y Y Y) (FI Y (FI Y ?_)))))
  refine FH (am (wy _ _ h1 h2) Y ⟨S,S,FM⟩) ?_
  refine FH (am (dL _ _) Y ⟨S,S,FM⟩) ?_
  refine FL (aB 0 Y Y Y Y Y (leN Y) Y (FL (aa (aG (bJ (aS ?_))))))
  exact aT Tryz.results58 (.cellB 0 Y Y Y (cp (by unfold sv;split <;> omega)))
 ·refine ae (ai (FI Y (FI Y ?_)))
  refine FH (am (lS _ _) Y ⟨S,S,FM⟩) ?_
  refine FH (a6 Y Y) (FJ Y (FL (aa ?_)))
  refine bm Y (fun hc2 => ?_) (fun hc2 => ?_) <;> simp at hc2
  ·have hlt:v1<v2:=by
    unfold np at hc2;split at hc2
    ·assumption
    ·split at hc2 <;> omega
   refine ae (be 6 a4 Z U (FH (aj Y) (FH (ak 1 Y Y Y) (FI Y (FI Y ?_)))))
   refine FH (am (pp _ _ X h2) Y ⟨S,S,FM⟩) ?_
   refine FH (am (dL _ _) Y ⟨S,S,FM⟩) ?_
   refine FL (aB 0 Y Y Y Y Y (leN Y) Y (FL (aa (aG (bJ (aS ?_))))))
   exact aT Tryz.results58 (.cellB 0 Y Y Y (cp (by unfold sv;cases n1 <;> cases n2 <;> simp at hc ⊢ <;> omega)))
  ·have hge:v2≤v1:=by
    unfold np at hc2;split at hc2 <;> omega
   refine aw (aF (aa (ae (be 6 a4 Z U (FH (aj Y) (FH (ak 2 Y Y Y) (FI Y (FI Y ?_))))))))
   refine FH (am (pp _ _ X h1) Y ⟨S,S,FM⟩) ?_
   refine FH (am (dL _ _) Y ⟨S,S,FM⟩) ?_
   refine FL (aB 0 Y Y Y Y Y (leN Y) Y (FL (aa (aG ?_))))
   exact aT Tryz.results58 (.cellB 0 Y Y Y (cp (by unfold sv;cases n1 <;> cases n2 <;> simp at hc ⊢ <;> omega)))
theorem DX (n1 n2:Bool) (v1 v2:Nat) (h1:(aL v1).length≤1099511627776) (h2:(aL v2).length≤1099511627776):Ok Tryz.prog 96 [sgT n1 v1,sgT n2 v2] (aO (sv n1 v1 - sv n2 v2)):=by
 refine Ok.enter Tryz.func96 Y Tryz.ntmps96 Y (fun w O => ?_)
 refine ae (ai ?_)
 refine aQ Y Y (ltN Y) (fun b => ?_)
 refine aQ Y Y (ltN Y) (fun b => ?_)
 refine aJ (T:=37) Y (ltN Y) (fun b => ?_)
 refine FL (aa (ae (ai (FH (aI 2 Y Y) (FH (aj Y) (FH (ak 1 Y Y Y) (FH (dk Y) (FH (aj Y) (FH (ak 1 Y Y Y) ?_)))))))))
 refine stB Y Y Y (BuildK.cons Y Y Y (BuildK.cons Y Y Y (BuildK.nil ?_)))
 refine FH (am (zQ n1 (!n2) v1 v2 h1 h2) Y ⟨S,S,FM⟩) ?_
 refine aB 0 Y Y Y Y Y (leN Y) Y (FL (aa (aG ?_)))
 exact aT Tryz.results96 (.cellB 0 Y Y Y (cp (by unfold sv;cases n2 <;> simp <;> omega)))
theorem DY (n1 n2:Bool) (v1 v2:Nat) (h1:(aL v1).length≤1099511627776) (h2:(aL v2).length≤1099511627776):Ok Tryz.prog 54 [sgT n1 v1,sgT n2 v2] (aO (sv n1 v1*sv n2 v2)):=by
 refine Ok.enter Tryz.func54 Y Tryz.ntmps54 Y (fun w O => ?_)
 refine ae (ai ?_)
 refine aQ Y Y (ltN Y) (fun b => ?_)
 refine aQ Y Y (ltN Y) (fun b => ?_)
 refine aJ (T:=37) Y (ltN Y) (fun b => ?_)
 refine FL (aa (ae (be 13 a4 Z U (FH (aj Y) (FH (ak 2 Y Y Y) (FH (aj Y) (FH (ak 1 Y Y Y) (FH (kn Y Y) (FH (aj Y) ?_)))))))))
 refine FH (ak 2 Y Y Y) ?_
 refine FH (am (de _) Y ⟨cH _,FM⟩) ?_
 refine FH (aj Y) (FH (ak 1 Y Y Y) ?_)
 refine FH (am (de _) Y ⟨cH _,FM⟩) ?_
 skip
 refine FH (am (zP _ _ h1 h2) Y ⟨S,S,FM⟩) ?_
 refine FH (am (dL _ _) Y ⟨S,S,FM⟩) ?_
 refine FL (aB 0 Y Y Y Y Y (leN Y) Y (FL (aa (aG ?_))))
 exact aT Tryz.results54 (.cellB 0 Y Y Y (cp (by unfold sv;cases n1 <;> cases n2 <;> simp [Int.neg_mul,Int.mul_neg])))
theorem BY {n1 n2:Bool} {v1 v2:Nat} (h:dn (sv n1 v1)=dn (sv n2 v2)):IntKind.i64.wrap (dn (sv n1 v1)*np v1 v2)=dt (sv n1 v1) (sv n2 v2):=by
 have key:dn (sv n1 v1)*np v1 v2=dt (sv n1 v1) (sv n2 v2):=by
  unfold dn sv np dt at *
  cases n1 <;> cases n2 <;> simp only [if_true,if_false,Bool.false_eq_true] at * <;> (repeat' split at h) <;> (try omega) <;> (repeat' split) <;> omega
 rw [key]
 unfold dt;split
 ·decide
 ·split <;> decide
theorem DZ (n1 n2:Bool) (v1 v2:Nat):Ok Tryz.prog 59 [sgT n1 v1,sgT n2 v2] (one (.int .i64 (dt (sv n1 v1) (sv n2 v2)))):=by
 refine Ok.enter Tryz.func59 Y Tryz.ntmps59 Y (fun w O => ?_)
 refine ae (ai ?_)
 refine aQ Y Y (ltN Y) (fun b => ?_)
 refine aQ Y Y (ltN Y) (fun b => ?_)
 refine FJ Y (FL (aa (ae (be 6 a4 Z U (FH (aI 1 Y Y) ?_)))))
 refine FH (am (rV n1 v1) Y ⟨S,FM⟩) ?_
 refine FH (aI 0 Y Y) ?_
 refine FH (am (rV n2 v2) Y ⟨S,FM⟩) ?_
 refine FJ Y (FJ Y (FL (FL (aa (ae (ae (ai (FI Y (FI Y ?_)))))))))
 refine FH (dj Y Y) (FL (aa ?_))
 refine bm Y (fun hc => ?_) (fun hc => ?_) <;> simp only [decide_eq_true_eq,decide_eq_false_iff_not,ne_eq,Decidable.not_not] at hc
 ·refine ae (ai (FI Y (FI Y ?_)))
  refine FH (am (ky _ _) Y ⟨S,S,FM⟩) ?_
  refine FJ Y (FL (aa (aG (aS ?_))))
  exact aT Tryz.results59 (.tmp Y (ar (by congr 1;unfold dn at *; unfold dt;split at hc <;> split at hc <;> (try split at hc) <;> (try split at hc) <;> simp at * <;> (repeat' split) <;> omega)))
 ·refine aw (aa (ae (be 10 a4 Z U (FI Y (FH (aj Y) (FH (ak 1 Y Y Y) ?_))))))
  refine FH (am (de _) Y ⟨cH _,FM⟩) ?_
  refine FH (aj Y) (FH (ak 0 Y Y Y) ?_)
  refine FH (am (de _) Y ⟨cH _,FM⟩) ?_
  skip
  refine FH (am (lS _ _) Y ⟨S,S,FM⟩) ?_
  refine FH (nQ (r:=dt (sv n1 v1) (sv n2 v2)) Y Y (BY hc)) (FJ Y (FL (FL (aa (aG ?_)))))
  exact aT Tryz.results59 (.tmp Y S)
end Tor
end
section
namespace Tor
open Go Go.RowKit Go.Proofs
theorem qN {nb neg:Bool} {v:Nat} (h:nb=(neg && decide (v≠0))):VT.le (bH 2 [(0, .one,one (.bool nb)),(1, .one,cz (aL v))]) (aO (if neg then -(v:Int) else v)):=by
 refine fL (fun q hq => ?_)
 simp only [List.mem_cons,List.not_mem_nil,or_false] at hq
 rcases hq with rfl | rfl
 ·have e:decide ((if neg then -(v:Int) else v)<0)=nb:=by rw [h]; cases neg <;> simp <;> (try omega) <;> (rw [Bool.eq_iff_iff]; simp;omega)
  exact ⟨_,List.mem_cons_self,fK (by rw [e])⟩
 ·refine ⟨_,List.mem_cons_of_mem _ List.mem_cons_self,mG ?_⟩
  cases neg <;> simp
theorem wz {b:Bool} {φ ψ:VT} (h:VT.le φ ψ):VT.le (bH 2 [(0, .one,one (.bool b)),(1, .one, φ)]) (bH 2 [(0, .one,one (.bool b)),(1, .one, ψ)]):=by
 refine fL (fun q hq => ?_)
 simp only [List.mem_cons,List.not_mem_nil,or_false] at hq
 rcases hq with rfl | rfl
 ·exact ⟨_,List.mem_cons_self,S⟩
 ·exact ⟨_,List.mem_cons_of_mem _ List.mem_cons_self,h⟩
attribute [local irreducible] J PJ aM one slT bW bH bj exT cn eP aX aH slV VT.le Ret bP
attribute [local irreducible] aO
theorem dz (neg:Bool) (v:Nat):Ok Tryz.prog 48 [qh v,one (.bool neg)] (aO (if neg then -(v:Int) else v)):=by
 refine Ok.enter Tryz.func48 Y Tryz.ntmps48 Y (fun w O => ?_)
 refine xt (t:=0) Y (fun l=>qw (t:=0) Y (fun ⟨hL,hv,hb⟩ => ?_))
 subst hv
 refine ae (ai ?_)
 refine aJ (T:=37) Y (ltN Y) (fun b => ?_)
 refine FL (aa (ae (ai (FI Y (FH (aY Y) (FJ Y (FL (aa (ae ?_)))))))))
 refine au ?_
 refine cO (σ:=Nat) (fun n => [(0,cz l),(1,one (.bool neg)),(4,one (.pointer (some ⟨b,0,none⟩))),(5,one (.int .i64 n))]) (fun _ => [aX b 37 2 [(0, .agg 2,one (.agg #[.bool false, .slice none 0 0]))]]) (fun n=>n≤l.length∧iz l n=iz l l.length) (fun n=>n) l.length ⟨Nat.le_refl _,rfl⟩ FE (SubM.refl _) (fun n ⟨hn,ht⟩ => ?_)
 have hd:=pn hL
 refine ae (ae ?_)
 refine gk (σ:=Unit) (fun _ => [(0,cz l),(1,one (.bool neg)),(4,one (.pointer (some ⟨b,0,none⟩))),(5,one (.int .i64 n)),(17,one (.bool (decide (0<n∧l.getD (n - 1) 0=0))))]) (fun _ => [aX b 37 2 [(0, .agg 2,one (.agg #[.bool false, .slice none 0 0]))]]) (fun _=>True) ?_ (fun _ _ => ?_)
 ·by_cases h0:0<n
  ·obtain ⟨n,rfl⟩ : ∃ m,n=m+1:=⟨n - 1,by omega⟩
   refine ai (FI Y (FH (cU Y Y) (FI Y ?_)))
   refine oN (t:=10) Y (fun b hb => ?_)
   rw [hb]
   have:b=true:=by rw [← hb]; simp
   subst this
   refine FK (ab Y) (FK (ab Y) ?_)
   (refine FK (d4 Y Y (aR ?_ ?_)) ?_;omega;omega)
   (refine FK (im Y Y ?_ ?_) ?_;omega;omega)
   refine FK (aN Y) (FK (bV Y Y) (FH (a5 Y Y) (FL ?_)))
   exact c7 () trivial (.cons Y S (.cons Y S (.cons Y S (.cons Y S (.cons Y (ar (by simp)) .nil))))) (SubM.refl _)
  ·refine ai (FI Y (FH (cU Y Y) (FI Y ?_)))
   refine oN (t:=10) Y (fun b hb => ?_)
   rw [hb]
   have:b=false:=by rw [← hb]; simp;omega
   subst this
   refine sg0 Y Y Y Y (sg0 Y Y Y Y (sg0 Y Y Y Y (sg0 Y Y Y Y (sg0 Y Y Y Y (sg0 Y Y Y Y (FH (bG Y Y) (FL ?_)))))))
   exact c7 () trivial (.cons Y S (.cons Y S (.cons Y S (.cons Y S (.cons Y (ar (by simp;omega)) .nil))))) (SubM.refl _)
 ·refine aa ?_
  refine bm Y (fun hc => ?_) (fun hc => ?_) <;> simp only [decide_eq_true_eq,decide_eq_false_iff_not] at hc
  ·obtain ⟨n,rfl⟩ : ∃ m,n=m+1:=⟨n - 1,by omega⟩
   refine aw (aa (au (ai (FI Y ?_))))
   (refine FH (d4 Y Y (aR ?_ ?_)) ?_;omega;omega)
   refine FJ Y (FL (aF ?_))
   refine ci (s:=n+1) n ⟨by omega,by have h2:l.getD n 0=0:=hc.2;rw [← ht,iz,if_pos h2]⟩ X FE (SubM.refl _)
  ·have hz:iz l n=n:=by
    cases n with
    | zero => rfl
    | succ n =>
     have h2 : ¬ l.getD n 0=0:=fun h=>hc ⟨by omega,h⟩
     rw [iz,if_neg h2]
   rw [ht] at hz
   rw [hz] at hd
   have hlen:(aL (lv l)).length=n:=by rw [← hd,List.length_take_of_le hn]
   have hnz:(0<n)↔lv l≠0:=by
    constructor
    ·intro h e;rw [e] at hlen;simp [jv] at hlen;omega
    ·intro h;rw [← hlen]; exact Nat.pos_of_ne_zero (fun e=>h (by rw [← cd (lv l),List.eq_nil_of_length_eq_zero e]; rfl))
   have hmag:VT.le (slT .one (0+((n:Int) - 0).toNat) fun q=>if q<0 then [].reverse.getD q bP else one (.int .u32 (l.getD (Int.toNat 0+(q - 0)) 0:Nat))) (cz (aL (lv l))) :=
    VT.le_trans (cI (m:=(l.take n).length) (ψ:=fun q=>one (.int .u32 ((l.take n).getD q 0:Nat))) (by rw [List.length_take_of_le hn]; omega) (fun q hq=>by
     simp only [Nat.not_lt_zero,if_false]
     rw [show Int.toNat 0+(q - 0)=q from by simp]
     simp [List.getElem?_take_of_lt (show q<n by omega)])) (mG hd)
   cases neg
   ·refine aV (av (av (aE (aa (ae (ai (FI Y (FI Y (sg0 Y Y Y Y ?_)))))))))
    refine sg0 Y Y Y Y (FH (bG Y Y) (iL (n:=0) Y Y Y Y Y ?_))
    refine PartsK.nil (fun b => ?_)
    refine FI Y (FI Y ?_)
    (refine FH (gS Y Y Y Y (fun _=>rfl) ?_ ?_ ?_ ?_) ?_;omega;omega;omega;omega)
    (refine cq 0 Y Y Y (leN Y) ?_ ?_ Y (ltN Y) (fun sv cap => ?_);omega;omega)
    refine gg (t:=29) (j:=0) Y Y (stB Y Y Y (BuildK.cons Y Y Y (BuildK.cons Y Y Y (BuildK.nil (aB 0 Y Y Y Y Y (leN Y) Y (FL (aa (aG ?_))))))))
    exact aT Tryz.results48 (.cellB 0 Y Y Y (VT.le_trans (wz hmag) (qN (by simp))))
   ·refine aV (av (av (aE (aa (ae (ai (FI Y (FI Y (FK (ab Y) ?_)))))))))
    refine FK (cU Y Y) (FH (a5 Y Y) (iL (n:=0) Y Y Y Y Y ?_))
    refine PartsK.nil (fun b => ?_)
    refine FI Y (FI Y ?_)
    (refine FH (gS Y Y Y Y (fun _=>rfl) ?_ ?_ ?_ ?_) ?_;omega;omega;omega;omega)
    (refine cq 0 Y Y Y (leN Y) ?_ ?_ Y (ltN Y) (fun sv cap => ?_);omega;omega)
    refine gg (t:=29) (j:=0) Y Y (stB Y Y Y (BuildK.cons Y Y Y (BuildK.cons Y Y Y (BuildK.nil (aB 0 Y Y Y Y Y (leN Y) Y (FL (aa (aG ?_))))))))
    exact aT Tryz.results48 (.cellB 0 Y Y Y (VT.le_trans (wz hmag) (qN (by rw [Bool.true_and]; exact decide_eq_decide.2 (by rw [← hnz]; omega)))))
end Tor
end
section
namespace Tor
open Go Go.RowKit Go.Proofs
attribute [local irreducible] J PJ aM one slT bW bH bj exT cn eP aX aH slV VT.le Ret bP
theorem mH (a b:Nat):Ok Tryz.prog 120 [cz (aL a),cz (aL b)] (one (.bool (decide (a<b)))):=by
 refine Ok.enter Tryz.func120 Y Tryz.ntmps120 Y (fun w O => ?_)
 refine jE (t:=0) Y (fun _ _=>fB) (fun hb => ?_)
 refine ae (ai (FJ Y (FL (aa (ae (ae (ai (FI Y (FH (aY Y) ?_)))))))))
 refine FI Y (FH (aY Y) (FH (dj Y Y) (FL (aa ?_))))
 refine bm Y (fun hc => ?_) (fun hc => ?_) <;> simp only [decide_eq_true_eq,decide_eq_false_iff_not,ne_eq,Decidable.not_not] at hc
 ·refine ae (ai (FI Y (FH (aY Y) (FI Y (FH (aY Y) (FH (a6 Y Y) (FJ Y (FL (aa ?_)))))))))
  refine aG (aS ?_)
  refine aT Tryz.results120 (.tmp Y (ar ?_))
  congr 1
  rw [decide_eq_decide]
  constructor
  ·intro h;exact jm X
  ·intro h;have:=ck (Nat.le_of_lt h);omega
 ·have hlen:(aL a).length=(aL b).length:=by omega
  refine aw (aa (ae (ae (ai (FI Y (FH (aY Y) ?_))))))
  (refine FH (d4 Y Y (aR ?_ ?_)) ?_;omega;omega)
  refine FJ Y (FL (aa (au ?_)))
  refine cO (σ:=Nat) (fun n => [(0,cz (aL a)),(1,cz (aL b)),(5,one (.int .i64 ((n:Int) - 1)))]) (fun _ => []) (fun n=>n≤(aL a).length∧(aL a).drop n=(aL b).drop n) (fun n=>n) (aL a).length
   ⟨Nat.le_refl _,by rw [List.drop_length,hlen,List.drop_length]⟩ FE (SubM.refl _) (fun n ⟨hn,hd⟩ => ?_)
  refine ae (ae (ai (FI Y (FH (eu Y Y) (FL (aa ?_))))))
  refine bm Y (fun hc2 => ?_) (fun hc2 => ?_) <;> simp only [decide_eq_true_eq,decide_eq_false_iff_not] at hc2
  ·obtain ⟨n,rfl⟩ : ∃ m,n=m+1:=⟨n - 1,by omega⟩
   have e:((n+1:Nat):Int) - 1=n:=by omega
   rw [e]
   refine aw (aa (ae (au (ae (be 9 a4 Z U (FI Y (FI Y ?_)))))))
   (refine FH (aC Y Y ?_) ?_;omega)
   refine FH (aN Y) (FI Y (FI Y ?_))
   (refine FH (aC Y Y ?_) ?_;omega)
   refine FH (aN Y) (FH (dj Y Y) (FL (FL (aa ?_))))
   refine bm Y (fun hc3 => ?_) (fun hc3 => ?_) <;> simp only [decide_eq_true_eq,decide_eq_false_iff_not,ne_eq,Decidable.not_not] at hc3
   ·refine ae (be 10 a4 Z U (FI Y (FI Y ?_)))
    (refine FH (aC Y Y ?_) ?_;omega)
    refine FH (aN Y) (FI Y (FI Y ?_))
    (refine FH (aC Y Y ?_) ?_;omega)
    refine FH (aN Y) (FH (a6 Y Y) (FJ Y (FL (FL (aa (aG (bJ (aS (aS ?_)))))))))
    refine bJ (aS ?_)
    refine aT Tryz.results120 (.tmp Y (ar ?_))
    congr 1
    rw [decide_eq_decide]
    by_cases h1:(aL a).getD n 0<(aL b).getD n 0
    ·have:=rU (a9 a) (a9 b) hlen (i:=n) X hd h1
     rw [cd,cd] at this
     exact ⟨fun _=>this,fun _=>by omega⟩
    ·have:=rU (a9 b) (a9 a) hlen.symm (i:=n) X hd.symm X
     rw [cd,cd] at this
     exact ⟨fun h=>by omega,fun h=>by omega⟩
   ·refine aw (aF (aa (ai (FI Y ?_))))
    (refine FH (d4 Y Y (aR ?_ ?_)) ?_;omega;omega)
    refine FJ Y (FL ?_)
    refine ci (s:=n+1) n ⟨by omega,?_⟩ X FE (SubM.refl _)
    have h3:(aL a).getD n 0=(aL b).getD n 0:=by omega
    have e1:=fE (l:=aL a) (k:=n) X
    have e2:=fE (l:=aL b) (k:=n) X
    rw [e1,e2,h3,hd]
  ·refine aV (av (av (aE (aa (ae (ai (FJ Y (FL (aa ?_)))))))))
   refine aG ?_
   have h0:n=0:=by omega
   subst h0
   have h4:a=b:=tv (by simpa using hd)
   exact aT Tryz.results120 (.tmp Y (ar (by subst h4;simp)))
theorem zR (neg:Bool) (v:Nat):Ok Tryz.prog 21 [sgT neg v] (one (.int .i64 (dn (sv neg v)))):=by
 refine Ok.enter Tryz.func21 Y Tryz.ntmps21 Y (fun w O => ?_)
 refine ae (ai ?_)
 refine aQ Y Y (ltN Y) (fun b => ?_)
 refine FJ Y (FL (aa (ae (ae (ai (FH (aj Y) (FH (ak 0 Y Y Y) (FH (aY Y) (FH (bV Y Y) ?_)))))))))
 refine FL (aa ?_)
 refine bm Y (fun hc => ?_) (fun hc => ?_) <;> simp at hc
 ·have hv:v=0:=by rw [← cd v,hc]; rfl
  refine ae (ai (FJ Y (FL (aa (aG (aS ?_))))))
  exact aT Tryz.results21 (.tmp Y (ar (by subst hv;simp [dn,sv])))
 ·have hv:v≠0:=by intro e;subst e;exact hc Y
  refine aw (aa (ae (ae (ai (FH (aj Y) (FH (ak 0 Y Y Y) (FL (aa ?_))))))))
  refine bm Y (fun hc2 => ?_) (fun hc2 => ?_)
  ·subst hc2
   refine ae (ai (FJ Y (FL (aa (aG (aS ?_))))))
   exact aT Tryz.results21 (.tmp Y (ar (by congr 1;unfold dn sv;simp only [if_true]; rw [if_neg X,if_pos X])))
  ·subst hc2
   refine aw (aa (ae (ai (FJ Y (FL (aa (aG ?_)))))))
   exact aT Tryz.results21 (.tmp Y (ar (by congr 1;unfold dn sv;simp only [Bool.false_eq_true,if_false]; rw [if_neg X,if_neg X])))
theorem pq (x y:Int):Ok Tryz.prog 76 [aO x,aO y] (one (.bool (decide (x=y)))):=by
 refine Ok.enter Tryz.func76 Y Tryz.ntmps76 Y (fun w O => ?_)
 refine ae (ai ?_)
 refine aQ Y Y (ltN Y) (fun b => ?_)
 refine aQ Y Y (ltN Y) (fun b => ?_)
 refine FJ Y (FL (aa (ae (ai (FH (aj Y) (FH (ak 1 Y Y Y) (FH (aj Y) (FH (ak 0 Y Y Y) (FH (y6 Y Y) ?_)))))))))
 refine FI Y ?_
 refine oN (t:=10) Y (fun b hb => ?_)
 rw [hb]
 cases b
 ·refine sg0 Y Y Y Y (sg0 Y Y Y Y (sg0 Y Y Y Y (sg0 Y Y Y Y (sg0 Y Y Y Y (sg0 Y Y Y Y (FH (bG Y Y) (FI Y (sg0 Y Y Y Y (sg0 Y Y Y Y ?_)))))))))
  refine sg0 Y Y Y Y (sg0 Y Y Y Y (sg0 Y Y Y Y (sg0 Y Y Y Y (FH (bG Y Y) (FJ Y (FL (aa (aG ?_))))))))
  refine aT Tryz.results76 (.tmp Y (ar ?_))
  congr 1
  have : ¬ (x=y):=by intro e;subst e;simp at hb
  simp [this]
 ·have hs:(x<0)↔(y<0):=by simpa using hb
  refine FK (aj Y) (FK (ak 1 Y Y Y) (FK (aj Y) (FK (ak 0 Y Y Y) ?_)))
  refine FK (am (mH _ _) Y ⟨S,S,FM⟩) ?_
  refine FK (dk Y) (FH (a5 Y Y) (FI Y ?_))
  refine oN (t:=18) Y (fun b hb2 => ?_)
  rw [hb2]
  cases b
  ·refine sg0 Y Y Y Y (sg0 Y Y Y Y (sg0 Y Y Y Y (sg0 Y Y Y Y (sg0 Y Y Y Y (sg0 Y Y Y Y (FH (bG Y Y) (FJ Y (FL (aa ?_)))))))))
   refine aG ?_
   refine aT Tryz.results76 (.tmp Y (ar ?_))
   congr 1
   simp at hb2
   have : ¬ (x=y):=by intro e;subst e;omega
   simp [this]
  ·simp at hb2
   refine FK (aj Y) (FK (ak 0 Y Y Y) (FK (aj Y) (FK (ak 1 Y Y Y) ?_)))
   refine FK (am (mH _ _) Y ⟨S,S,FM⟩) ?_
   refine FK (dk Y) (FH (a5 Y Y) (FJ Y (FL (aa (aG ?_)))))
   refine aT Tryz.results76 (.tmp Y (ar ?_))
   congr 1
   rw [← decide_not,decide_eq_decide]
   omega
end Tor
end
section
namespace Tor
open Go Go.RowKit Go.Proofs
theorem iA (l:List Nat) (k:Nat):lv (l.take (k+1))=lv (l.take k)+4294967296^k*l.getD k 0:=by
 by_cases hk:k<l.length
 ·exact bR hk
 ·rw [List.take_of_length_le X,List.take_of_length_le X]; simp [List.getElem?_eq_none (Nat.le_of_not_lt hk)]
structure RPlus (lx ly zl:List Nat) (c:Nat):Prop where
 lim:bL zl
 c1:c≤1
 val:lv zl+4294967296^zl.length*c=lv (lx.take zl.length)+lv (ly.take zl.length)
 len:zl.length≤max lx.length ly.length+1
 big:max lx.length ly.length<zl.length→c=0
theorem RPlus.step {lx ly zl:List Nat} {c:Nat} (h:RPlus lx ly zl c) (hx:bL lx) (hy:bL ly) (hgo:zl.length<lx.length∨zl.length<ly.length∨0<c) :
  RPlus lx ly (zl ++ [(c+lx.getD zl.length 0+ly.getD zl.length 0) % 4294967296]) ((c+lx.getD zl.length 0+ly.getD zl.length 0) / 4294967296):=by
 have h1:=bh hx zl.length
 have h2:=bh hy zl.length
 have h3:=h.c1
 refine ⟨fun d hd => ?_,by omega,?_,?_,?_⟩
 ·rcases List.mem_append.1 hd with hd | hd
  ·exact h.lim d hd
  ·simp at hd;omega
 ·simp only [List.length_append,List.length_cons,List.length_nil,Nat.zero_add]
  rw [gn,iA,iA,Nat.pow_succ]
  have hv:=h.val
  generalize lx.getD zl.length 0=x at *
  generalize ly.getD zl.length 0=y at *
  generalize 4294967296^zl.length=B at *
  have e:(c+x+y)=4294967296*((c+x+y) / 4294967296)+(c+x+y) % 4294967296:=by omega
  generalize (c+x+y) / 4294967296=q at *
  generalize (c+x+y) % 4294967296=r at *
  simp only [lv,Nat.mul_zero,Nat.add_zero]
  have e2:B*(c+x+y)=B*(4294967296*q+r):=by rw [e]
  simp only [Nat.mul_add,Nat.mul_assoc] at e2 ⊢
  omega
 ·simp only [List.length_append,List.length_cons,List.length_nil,Nat.zero_add]
  have:=h.big;omega
 ·simp only [List.length_append,List.length_cons,List.length_nil,Nat.zero_add]
  intro hb
  have e1:lx.getD zl.length 0=0:=by simp [List.getElem?_eq_none (show lx.length≤zl.length by omega)]
  have e2:ly.getD zl.length 0=0:=by simp [List.getElem?_eq_none (show ly.length≤zl.length by omega)]
  rw [e1,e2]; omega
theorem tz (zl:List Nat) (v:Nat) : ∀ q,q<zl.length+1→(if q<zl.length then one (.int .u32 (zl.getD q 0:Nat)) else one (.int .u32 (v:Nat)))=one (.int .u32 ((zl ++ [v]).getD q 0:Nat)):=by
 intro q hq
 rw [kU]
 by_cases h:q<zl.length
 ·rw [if_pos h,if_neg X]
 ·have:q=zl.length:=by omega
  subst this
  rw [if_neg h,if_pos Y]
theorem ff {sv:Option Nat} {T:TypeId} {L:Lay} {cap n m:Nat} {φ ψ:Nat→VT} (h:n=m) (FA : ∀ q,q<n→φ q=ψ q):Own.le (aH sv T L cap n φ) (aH sv T L cap m ψ):=by
 subst h;exact a7 FA
theorem gB {sv:Option Nat} {n m cap:Nat} (h:n=m):VT.le (one (slV sv n cap)) (one (slV sv m cap)):=h▸VT.le_refl _
attribute [local irreducible] J PJ aM one slT bW bH bj exT cn eP aX aH slV VT.le Ret bP
theorem zS (a b:Nat) (ha:(aL a).length≤1099511627776) (hb:(aL b).length≤1099511627776):Ok Tryz.prog 119 [cz (aL a),cz (aL b)] (qh (a+b)):=by
 refine Ok.enter Tryz.func119 Y Tryz.ntmps119 Y (fun w O => ?_)
 have hx:=a9 a
 have hy:=a9 b
 have hva:=cd a
 have hvb:=cd b
 generalize aL a=lx at *
 generalize aL b=ly at *
 refine ae (ai (FJ Y (FL (aa (ae (ai (iL (n:=0) Y Y Y Y Y ?_)))))))
 refine PartsK.nil (fun b => ?_)
 refine FJ Y (FJ Y (FL (aa (ae (ae (ai (FJ Y (FL (aa ?_)))))))))
 refine au ?_
 refine cO (σ:=List Nat × Nat × Option Nat × Nat) (fun s => [(0,cz lx),(1,cz ly),(5,one (slV s.2.2.1 s.1.length s.2.2.2)),(6,one (.int .u64 (s.2.1:Nat))),(7,one (.int .i64 s.1.length))])
   (fun s => [aH s.2.2.1 86 .one s.2.2.2 s.1.length (fun q=>one (.int .u32 (s.1.getD q 0:Nat)))]) (fun s=>RPlus lx ly s.1 s.2.1) (fun s=>2*(max lx.length ly.length - s.1.length)+s.2.1) ([],0,some b,0)
   ⟨(fun d hd=>by cases hd),Nat.zero_le _,by simp [lv],by simp,by simp⟩ FE (.keep (a7 (fun q hq=>by omega)) .nil) (fun s hR => ?_)
 obtain ⟨zl,c,sv0,cap0⟩:=s
 simp only at hR ⊢
 have h3:=hR.c1
 have hlen:=hR.len
 refine ae (ae ?_)
 refine gk (σ:=Unit) (fun _ => [(0,cz lx),(1,cz ly),(5,one (slV sv0 zl.length cap0)),(6,one (.int .u64 (c:Nat))),(7,one (.int .i64 zl.length)),(22,one (.bool (decide (zl.length<lx.length∨zl.length<ly.length∨0<c))))])
  (fun _ => [aH sv0 86 .one cap0 zl.length (fun q=>one (.int .u32 (zl.getD q 0:Nat)))]) (fun _=>True) ?_ (fun _ _ => ?_)
 ·refine ai (FI Y (FI Y (FH (aY Y) (FH (a6 Y Y) (FI Y ?_)))))
  refine oN (t:=13) Y (fun b h1 => ?_)
  rw [h1]
  cases b
  ·simp at h1
   refine FK (ab Y) (FK (ab Y) (FK (aY Y) (FK (a6 Y Y) (FH (bG Y Y) (FI Y ?_)))))
   refine oN (t:=19) Y (fun b h2 => ?_)
   rw [h2]
   cases b
   ·simp at h2
    refine FK (ab Y) (FK (cU Y Y) (FH (bG Y Y) (FL ?_)))
    exact c7 () trivial (.cons Y S (.cons Y S (.cons Y S (.cons Y S (.cons Y S (.cons Y (ar (by congr 1;rw [decide_eq_decide]; omega)) .nil)))))) (SubM.refl _)
   ·simp at h2
    refine sg0 Y Y Y Y (sg0 Y Y Y Y (FH (a5 Y Y) (FL ?_)))
    exact c7 () trivial (.cons Y S (.cons Y S (.cons Y S (.cons Y S (.cons Y S (.cons Y (ar (by simp;omega)) .nil)))))) (SubM.refl _)
  ·simp at h1
   refine sg0 Y Y Y Y (sg0 Y Y Y Y (sg0 Y Y Y Y (sg0 Y Y Y Y (FH (a5 Y Y) (FI Y (sg0 Y Y Y Y (sg0 Y Y Y Y (FH (a5 Y Y) (FL ?_)))))))))
   exact c7 () trivial (.cons Y S (.cons Y S (.cons Y S (.cons Y S (.cons Y S (.cons Y (ar (by simp;omega)) .nil)))))) (SubM.refl _)
 ·refine aa ?_
  refine bm Y (fun hc => ?_) (fun hc => ?_) <;> simp only [decide_eq_true_eq,decide_eq_false_iff_not] at hc
  ·have hstep:=hR.step hx hy hc
   have g1:=bh hx zl.length
   have g2:=bh hy zl.length
   refine aw (aa (ae (au (ae (ae (ai (FI Y (FI Y (FH (aY Y) ?_)))))))))
   refine FH (a6 Y Y) (FL (aa ?_))
   refine gk (σ:=Unit) (fun _ => [(0,cz lx),(1,cz ly),(5,one (slV sv0 zl.length cap0)),(6,one (.int .u64 (c+lx.getD zl.length 0:Nat))),(7,one (.int .i64 zl.length))])
    (fun _ => [aH sv0 86 .one cap0 zl.length (fun q=>one (.int .u32 (zl.getD q 0:Nat)))]) (fun _=>True) ?_ (fun _ _ => ?_)
   ·refine bm Y (fun hc2 => ?_) (fun hc2 => ?_) <;> simp only [decide_eq_true_eq,decide_eq_false_iff_not] at hc2
    ·refine ai (FI Y (FI Y (FI Y ?_)))
     (refine FH (aC Y Y ?_) ?_;omega)
     refine FH (aN Y) ?_
     (refine FH (bU Y ?_) ?_;omega)
     (refine FH (dK Y Y ?_) ?_;omega)
     refine FJ Y (FL ?_)
     exact c7 () trivial FE (SubM.refl _)
    ·have e0:lx.getD zl.length 0=0:=by simp [List.getElem?_eq_none (show lx.length≤zl.length by omega)]
     refine aw ?_
     exact c7 () trivial FE (SubM.refl _)
   ·refine aa (ae (ae (ai (FI Y (FI Y (FH (aY Y) (FH (a6 Y Y) (FL (aa ?_)))))))))
    refine gk (σ:=Unit) (fun _ => [(0,cz lx),(1,cz ly),(5,one (slV sv0 zl.length cap0)),(6,one (.int .u64 (c+lx.getD zl.length 0+ly.getD zl.length 0:Nat))),(7,one (.int .i64 zl.length))])
     (fun _ => [aH sv0 86 .one cap0 zl.length (fun q=>one (.int .u32 (zl.getD q 0:Nat)))]) (fun _=>True) ?_ (fun _ _ => ?_)
    ·refine bm Y (fun hc2 => ?_) (fun hc2 => ?_) <;> simp only [decide_eq_true_eq,decide_eq_false_iff_not] at hc2
     ·refine ai (FI Y (FI Y (FI Y ?_)))
      (refine FH (aC Y Y ?_) ?_;omega)
      refine FH (aN Y) ?_
      (refine FH (bU Y ?_) ?_;omega)
      (refine FH (dK Y Y ?_) ?_;omega)
      refine FJ Y (FL ?_)
      exact c7 () trivial FE (SubM.refl _)
     ·have e0:ly.getD zl.length 0=0:=by simp [List.getElem?_eq_none (show ly.length≤zl.length by omega)]
      refine aw ?_
      exact c7 () trivial FE (SubM.refl _)
    ·refine aa (ae (ai (FI Y (FI Y (FH (cM Y) (eH Y Y Y Y ?_))))))
     (refine cq 0 Y Y Y (leN Y) ?_ ?_ Y (ltN Y) (fun sv cap => ?_);omega;omega)
     refine FJ Y (FL (aa (ai (FI Y ?_))))
     (refine FH (wc Y ?_) ?_;omega)
     refine FJ Y (FL (aF (aa (ai (FI Y ?_)))))
     (refine FH (cA Y Y (aR ?_ ?_)) ?_;omega;omega)
     refine FJ Y (FL ?_)
     refine ci (s:=(zl,c,sv0,cap0)) (zl ++ [(c+lx.getD zl.length 0+ly.getD zl.length 0) % 4294967296],(c+lx.getD zl.length 0+ly.getD zl.length 0) / 4294967296,sv,cap) hstep ?_ (.cons Y S (.cons Y S (.cons Y (gB (by simp)) (.cons Y S (.cons Y (ar (by simp)) .nil))))) (.keep (ff (by simp) (fun q hq=>tz zl _ q (by simpa using hq))) .nil)
     have h8:=hstep.c1
     have h9:=hstep.big
     have h10:=hR.big
     simp only [List.length_append,List.length_cons,List.length_nil,Nat.zero_add] at *
     omega
  ·refine aV (av (av (aE (aa (ae (ai (FI Y (FJ Y (FL ?_)))))))))
   refine aa (aG (bZ (t:=4) (i:=0) Y Y ?_))
   refine aT Tryz.results119 (.tmp Y (iY (l:=zl) hR.lim ?_ X))
   have h4:=hR.val
   have h5:c=0:=by omega
   rw [h5,List.take_of_length_le X,List.take_of_length_le X,hva,hvb] at h4
   omega
end Tor
end
section
namespace Tor
open Go Go.RowKit Go.Proofs
theorem RMinus.step {lx ly zl:List Nat} {c:Nat} (h:MinusR lx ly zl c) (hx:bL lx) (hy:bL ly) (hl:ly.length≤lx.length) (hlt:zl.length<lx.length) :
  MinusR lx ly (zl ++ [(lx.getD zl.length 0+4294967296 - c - ly.getD zl.length 0) % 4294967296]) (if lx.getD zl.length 0<c+ly.getD zl.length 0 then 1 else 0):=by
 have h1:=bh hx zl.length
 have h2:=bh hy zl.length
 have h3:=h.c1
 have:=h.step hx hy hl hlt Y
 generalize lx.getD zl.length 0=x at *
 generalize ly.getD zl.length 0=y at *
 have e1:((x+18446744073709551616 - c) % 18446744073709551616+18446744073709551616 - y) % 18446744073709551616 % 4294967296=(x+4294967296 - c - y) % 4294967296:=by omega
 have e2:((x+18446744073709551616 - c) % 18446744073709551616+18446744073709551616 - y) % 18446744073709551616 / 9223372036854775808=if x<c+y then 1 else 0:=by split <;> omega
 rw [e1,e2] at this
 exact this
theorem xK (zl:List Nat) (v:Nat) : ∀ q,q<zl.length+1→v<4294967296→(if q<zl.length then one (.int .u32 (zl.getD q 0:Nat)) else one (.int .u32 (v % 4294967296:Nat)))=one (.int .u32 ((zl ++ [v]).getD q 0:Nat)):=by
 intro q hq hv
 rw [Nat.mod_eq_of_lt hv]
 exact tz zl v q hq
attribute [local irreducible] J PJ aM one slT bW bH bj exT cn eP aX aH slV VT.le Ret bP
theorem qO (a b:Nat) (hab:b≤a) (ha:(aL a).length≤1099511627776):Ok Tryz.prog 121 [cz (aL a),cz (aL b)] (qh (a - b)):=by
 refine Ok.enter Tryz.func121 Y Tryz.ntmps121 Y (fun w O => ?_)
 have hx:=a9 a
 have hy:=a9 b
 have hl:=ck hab
 have hva:=cd a
 have hvb:=cd b
 generalize aL a=lx at *
 generalize aL b=ly at *
 refine ae (ai (FJ Y (FL (aa (ae (ai (iL (n:=0) Y Y Y Y Y ?_)))))))
 refine PartsK.nil (fun b => ?_)
 refine FJ Y (FJ Y (FL (aa (ae (ae (ai (FJ Y (FL (aa ?_)))))))))
 refine au ?_
 refine cO (σ:=List Nat × Nat × Option Nat × Nat) (fun s => [(0,cz lx),(1,cz ly),(5,one (slV s.2.2.1 s.1.length s.2.2.2)),(6,one (.int .i64 (s.2.1:Nat))),(7,one (.int .i64 s.1.length))])
   (fun s => [aH s.2.2.1 86 .one s.2.2.2 s.1.length (fun q=>one (.int .u32 (s.1.getD q 0:Nat)))]) (fun s=>MinusR lx ly s.1 s.2.1) (fun s=>lx.length - s.1.length) ([],0,some b,0)
   ⟨by simp,(fun d hd=>by cases hd),Nat.zero_le _,by simp [lv]⟩ FE (.keep (a7 (fun q hq=>by omega)) .nil) (fun s hR => ?_)
 obtain ⟨zl,c,sv0,cap0⟩:=s
 simp only at hR ⊢
 have h3:=hR.c1
 have hlen:=hR.len
 refine ae (ae (ai (FI Y (FI Y (FH (aY Y) (FH (a6 Y Y) (FL (aa ?_))))))))
 refine bm Y (fun hc => ?_) (fun hc => ?_) <;> simp at hc
 ·have hstep:=RMinus.step hR hx hy hl hc
  have g1:=bh hx zl.length
  have g2:=bh hy zl.length
  refine aw (aa (ae (au (ae (ai (FI Y (FI Y ?_)))))))
  (refine FH (aC Y Y ?_) ?_;omega)
  refine FH (aN Y) ?_
  (refine FH (c6 Y ?_ ?_) ?_;omega;omega)
  refine FI Y ?_
  (refine FH (d4 Y Y (aR ?_ ?_)) ?_;omega;omega)
  refine FJ Y (FL (aa (ae (ae (ai (FI Y (FI Y (FH (aY Y) (FH (a6 Y Y) ?_)))))))))
  refine FL (aa ?_)
  refine gk (σ:=Unit) (fun _ => [(0,cz lx),(1,cz ly),(5,one (slV sv0 zl.length cap0)),(8,one (.int .i64 ((lx.getD zl.length 0:Nat) - (c:Nat) - (ly.getD zl.length 0:Nat)))),(7,one (.int .i64 zl.length))])
   (fun _ => [aH sv0 86 .one cap0 zl.length (fun q=>one (.int .u32 (zl.getD q 0:Nat)))]) (fun _=>True) ?_ (fun _ _ => ?_)
  ·refine bm Y (fun hc => ?_) (fun hc => ?_) <;> simp at hc
   ·refine ai (FI Y (FI Y (FI Y ?_)))
    (refine FH (aC Y Y ?_) ?_;omega)
    refine FH (aN Y) ?_
    (refine FH (c6 Y ?_ ?_) ?_;omega;omega)
    (refine FH (d4 Y Y (aR ?_ ?_)) ?_;omega;omega)
    refine FJ Y (FL ?_)
    exact c7 () trivial FE (SubM.refl _)
   ·have e0:ly.getD zl.length 0=0:=by simp [List.getElem?_eq_none (show ly.length≤zl.length by omega)]
    refine aw ?_
    exact c7 () trivial FE (SubM.refl _)
  ·generalize lx.getD zl.length 0=x at *
   generalize ly.getD zl.length 0=y at *
   refine aa (ae (ai (FJ Y (FL (aa (ae (ae (ai (FI Y ?_)))))))))
   refine FH (a6 Y Y) (FL (aa ?_))
   refine gk (σ:=Unit) (fun _ => [(0,cz lx),(1,cz ly),(5,one (slV sv0 zl.length cap0)),(6,one (.int .i64 ((if x<c+y then 1 else 0:Nat)))),(8,one (.int .i64 ((x+4294967296 - c - y) % 4294967296:Nat))),(7,one (.int .i64 zl.length))])
    (fun _ => [aH sv0 86 .one cap0 zl.length (fun q=>one (.int .u32 (zl.getD q 0:Nat)))]) (fun _=>True) ?_ (fun _ _ => ?_)
   ·refine bm Y (fun hc => ?_) (fun hc => ?_) <;> simp at hc
    ·refine ae (ai (FI Y ?_))
     (refine FH (cA Y Y (aR ?_ ?_)) ?_;omega;omega)
     refine FJ Y (FL (aa (ai (FJ Y (FL ?_)))))
     rw [if_pos X]
     exact c7 () trivial (.cons Y S (.cons Y S (.cons Y S (.cons Y S (.cons Y (ar (by congr 1;omega)) (.cons Y S .nil)))))) (SubM.refl _)
    ·refine aw ?_
     rw [if_neg X]
     exact c7 () trivial (.cons Y S (.cons Y S (.cons Y S (.cons Y S (.cons Y (ar (by congr 1;omega)) (.cons Y S .nil)))))) (SubM.refl _)
   ·generalize (x+4294967296 - c - y) % 4294967296=d at *
    generalize (if x<c+y then 1 else 0)=c2 at *
    refine aa (ai (FI Y (FI Y (FH (cM Y) (eH Y Y Y Y ?_)))))
    (refine cq 0 Y Y Y (leN Y) ?_ ?_ Y (ltN Y) (fun sv cap => ?_);omega;omega)
    refine FJ Y (FL (aF (aa (ai (FI Y ?_)))))
    (refine FH (cA Y Y (aR ?_ ?_)) ?_;omega;omega)
    refine FJ Y (FL ?_)
    refine ci (s:=(zl,c,sv0,cap0)) (zl ++ [d],c2,sv,cap) hstep ?_ (.cons Y S (.cons Y S (.cons Y (gB (by simp)) (.cons Y S (.cons Y (ar (by simp)) .nil))))) (.keep (ff (by simp) (fun q hq=>xK zl _ q (by simpa using hq) (hstep.lim d (by simp)))) .nil)
    simp only [List.length_append,List.length_cons,List.length_nil,Nat.zero_add] at *
    omega
 ·have hlen:zl.length=lx.length:=by have:=hR.len;omega
  refine aV (av (av (aE (aa (ae (ai (FI Y (FJ Y (FL ?_)))))))))
  refine aa (aG (bZ (t:=4) (i:=0) Y Y ?_))
  refine aT Tryz.results121 (.tmp Y (iY (l:=zl) hR.lim ?_ X))
  have h4:=hR.val
  rw [hlen,List.take_length,List.take_of_length_le X,hva,hvb] at h4
  have h5:=iy hR.lim
  rw [hlen] at h5
  have h6:=iy hx
  rcases Nat.le_one_iff_eq_zero_or_eq_one.1 hR.c1 with h7 | h7 <;> simp only [h7,Nat.mul_zero,Nat.mul_one,Nat.add_zero] at h4 <;> omega
end Tor
end
section
namespace Tor
open Go Go.RowKit Go.Proofs
theorem tA (u:Nat) (h:u<18446744073709551616):VT.le (slT .one 2 (fun q => [one (.int .u32 ((u / 4294967296 % 4294967296:Nat):Int)),one (.int .u32 ((u % 4294967296:Nat):Int))].reverse.getD q bP)) (qh u):=by
 refine VT.le_trans (cI (m:=2) (ψ:=fun i=>one (.int .u32 ([u % 4294967296,u / 4294967296 % 4294967296].getD i 0:Nat))) Y (fun q hq => ?_)) (iY (l := [u % 4294967296,u / 4294967296 % 4294967296]) (fun d hd => ?_) ?_ (by simp))
 ·match q,hq with
  | 0, _ => rfl
  | 1, _ => rfl
 ·simp at hd;omega
 ·simp only [lv]; omega
attribute [local irreducible] J PJ aM one slT bW bH bj exT cn eP aX aH slV VT.le Ret bP
theorem iB (n:Int) (h1 : -9223372036854775808≤n) (h2:n≤9223372036854775807):Ok Tryz.prog 12 [one (.int .i64 n)] (aO n):=by
 refine Ok.enter Tryz.func12 Y Tryz.ntmps12 Y (fun w O => ?_)
 by_cases hn:n<0
 ·refine ae (ai ?_)
  refine aJ (T:=37) Y (ltN Y) (fun b => ?_)
  refine FL (aa (ae (ai (FI Y (FH (ko (r:=((18446744073709551616 - n.natAbs:Nat):Int)) Y (by rw [dD]; omega)) (FJ Y (FL (aa (ae ?_)))))))))
  refine ae (ai (FI Y (FH (a6 Y Y) (FL (aa ?_)))))
  refine bm Y (fun hc => ?_) (fun hc => ?_) <;> simp at hc
  ·refine ai (FI Y (FH (Dw (r:=(n.natAbs:Int)) Y (by rw [dD]; omega)) (FJ Y (FL (aa (ae (ai (FI Y (FH (cM Y) ?_)))))))))
   refine FI Y (FH (gT Y) (FH (cM Y) (stS Y Y Y Y (PartsK.cons Y (PartsK.cons Y (PartsK.nil (FI Y (FH (a6 Y Y) ?_))))))))
   refine FH (am (dz (decide (n<0)) n.natAbs) Y ⟨tA _ X,S,FM⟩) ?_
   refine aB 0 Y Y Y Y Y (leN Y) Y (FL (aa (aG ?_)))
   exact aT Tryz.results12 (.cellB 0 Y Y Y (cp (by rw [decide_eq_true hn,if_pos Y]; omega)))
  ·omega
 ·refine ae (ai ?_)
  refine aJ (T:=37) Y (ltN Y) (fun b => ?_)
  refine FL (aa (ae (ai (FI Y (FH (ko (r:=(n.natAbs:Int)) Y (by rw [dD]; omega)) (FJ Y (FL (aa (ae ?_)))))))))
  refine ae (ai (FI Y (FH (a6 Y Y) (FL (aa ?_)))))
  refine bm Y (fun hc => ?_) (fun hc => ?_) <;> simp at hc
  ·omega
  ·refine aw (aa (ae (ai (FI Y (FH (cM Y) (FI Y (FH (gT Y) (FH (cM Y) (stS Y Y Y Y ?_)))))))))
   refine PartsK.cons Y (PartsK.cons Y (PartsK.nil (FI Y (FH (a6 Y Y) ?_))))
   refine FH (am (dz (decide (n<0)) n.natAbs) Y ⟨tA _ X,S,FM⟩) ?_
   refine aB 0 Y Y Y Y Y (leN Y) Y (FL (aa (aG ?_)))
   exact aT Tryz.results12 (.cellB 0 Y Y Y (cp (by rw [decide_eq_false hn]; simp;omega)))
theorem BZ (n1 n2:Bool) (v1 v2:Nat) (h1:(aL v1).length≤1099511627776) (h2:(aL v2).length≤1099511627776):Ok Tryz.prog 71 [sgT n1 v1,sgT n2 v2] (aO (sv n1 v1+sv n2 v2)):=by
 refine Ok.enter Tryz.func71 Y Tryz.ntmps71 Y (fun w O => ?_)
 refine ae (ai ?_)
 refine aQ Y Y (ltN Y) (fun b => ?_)
 refine aQ Y Y (ltN Y) (fun b => ?_)
 refine aJ (T:=37) Y (ltN Y) (fun b => ?_)
 refine FL (aa (ae (ae (ai (FH (aj Y) (FH (ak 2 Y Y Y) (FH (aj Y) (FH (ak 1 Y Y Y) (FH (y6 Y Y) ?_)))))))))
 refine FL (aa ?_)
 refine bm Y (fun hc => ?_) (fun hc => ?_) <;> simp at hc
 ·subst hc
  refine ae (be 8 a4 Z U (FH (aj Y) (FH (ak 2 Y Y Y) (FH (aj Y) (FH (ak 1 Y Y Y) ?_)))))
  refine FH (am (zS _ _ h1 h2) Y ⟨S,S,FM⟩) ?_
  refine FH (aj Y) (FH (ak 2 Y Y Y) ?_)
  refine FH (am (dz _ _) Y ⟨S,S,FM⟩) ?_
  refine FL (aB 0 Y Y Y Y Y (leN Y) Y (FL (aa (aG (aS ?_)))))
  exact aT Tryz.results71 (.cellB 0 Y Y Y (cp (by unfold sv;split <;> omega)))
 ·refine aw (aa (ae (ae (ai (FH (aj Y) (FH (ak 2 Y Y Y) (FH (aj Y) (FH (ak 1 Y Y Y) ?_))))))))
  refine FH (am (mH _ _) Y ⟨S,S,FM⟩) ?_
  refine FL (aa ?_)
  refine bm Y (fun hc2 => ?_) (fun hc2 => ?_) <;> simp at hc2
  ·refine ae (be 8 a4 Z U (FH (aj Y) (FH (ak 1 Y Y Y) (FH (aj Y) (FH (ak 2 Y Y Y) ?_)))))
   refine FH (am (qO _ _ X h2) Y ⟨S,S,FM⟩) ?_
   refine FH (aj Y) (FH (ak 1 Y Y Y) ?_)
   refine FH (am (dz _ _) Y ⟨S,S,FM⟩) ?_
   refine FL (aB 0 Y Y Y Y Y (leN Y) Y (FL (aa (aG (aS ?_)))))
   exact aT Tryz.results71 (.cellB 0 Y Y Y (cp (by unfold sv;cases n1 <;> cases n2 <;> simp at hc ⊢ <;> omega)))
  ·refine aw (aa (ae (be 8 a4 Z U (FH (aj Y) (FH (ak 2 Y Y Y) (FH (aj Y) (FH (ak 1 Y Y Y) ?_)))))))
   refine FH (am (qO _ _ X h1) Y ⟨S,S,FM⟩) ?_
   refine FH (aj Y) (FH (ak 2 Y Y Y) ?_)
   refine FH (am (dz _ _) Y ⟨S,S,FM⟩) ?_
   refine FL (aB 0 Y Y Y Y Y (leN Y) Y (FL (aa (aG ?_))))
   exact aT Tryz.results71 (.cellB 0 Y Y Y (cp (by unfold sv;cases n1 <;> cases n2 <;> simp at hc ⊢ <;> omega)))
end Tor
end
section
namespace Tor
open Go Go.RowKit Go.Proofs
structure RTimesR (lx ly zz:List Nat) (i:Nat):Prop where
 le:i≤lx.length
 len:zz.length=lx.length+ly.length+1
 lim:bL zz
 zero : ∀ k,i+ly.length≤k→zz.getD k 0=0
 val:lv zz=lv (lx.take i)*lv ly
structure RTimesI (lx ly z0 zz:List Nat) (i j c:Nat):Prop where
 le:j≤ly.length+1
 top:ly.length<j→c=0
 len:zz.length=lx.length+ly.length+1
 lim:bL zz
 zero : ∀ k,i+ly.length<k→zz.getD k 0=0
 zer1:j≤ly.length→zz.getD (i+ly.length) 0=0
 c1:c<4294967296
 val:lv zz+4294967296^(i+j)*c=lv z0+4294967296^i*(lx.getD i 0*lv (ly.take j))
theorem RTimesI.step {lx ly z0 zz:List Nat} {i j c:Nat} (h:RTimesI lx ly z0 zz i j c) (hx:bL lx) (hy:bL ly) (hi:i<lx.length) (hgo:j<ly.length∨0<c) :
  RTimesI lx ly z0 (zz.set (i+j) ((c+zz.getD (i+j) 0+lx.getD i 0*ly.getD j 0) % 4294967296)) i (j+1) ((c+zz.getD (i+j) 0+lx.getD i 0*ly.getD j 0) / 4294967296):=by
 have hj:j≤ly.length:=by have:=h.le;have:=h.top;omega
 have hlim:=mE (bh hx i) (bh hy j) (bh h.lim (i+j)) h.c1
 have hlt:i+j<zz.length:=by rw [h.len]; omega
 refine ⟨by omega,fun ht => ?_,by rw [List.length_set]; exact h.len,h.lim.set X,fun k hk => ?_,fun hk => ?_,by omega,?_⟩
 ·have e:j=ly.length:=by omega
  subst e
  rw [h.zer1 (Nat.le_refl _)]
  have e2:ly.getD ly.length 0=0:=by simp
  rw [e2,Nat.mul_zero]
  have:=h.c1;omega
 ·rw [el hlt,if_neg X]; exact h.zero k hk
 ·rw [el hlt,if_neg X]; exact h.zer1 X
 ·have hs:=gp (l:=zz) (k:=i+j) (v:=(c+zz.getD (i+j) 0+lx.getD i 0*ly.getD j 0) % 4294967296) hlt
  have hv:=h.val
  rw [iA]
  generalize lx.getD i 0=x at *
  generalize ly.getD j 0=y at *
  generalize zz.getD (i+j) 0=z at *
  have e:c+z+x*y=4294967296*((c+z+x*y) / 4294967296)+(c+z+x*y) % 4294967296:=by omega
  generalize (c+z+x*y) / 4294967296=q at *
  generalize (c+z+x*y) % 4294967296=r at *
  rw [show i+(j+1)=(i+j)+1 by omega,Nat.pow_succ]
  have eB:4294967296^i*4294967296^j=4294967296^(i+j):=(Nat.pow_add _ _ _).symm
  have e3:4294967296^i*(x*(lv (ly.take j)+4294967296^j*y))=4294967296^i*(x*lv (ly.take j))+4294967296^(i+j)*(x*y):=by
   rw [Nat.mul_add,Nat.mul_add, ← eB]
   congr 1
   rw [Nat.mul_assoc]; congr 1
   rw [Nat.mul_left_comm]
  rw [e3]
  generalize 4294967296^(i+j)=B at *
  have e2:B*(c+z+x*y)=B*(4294967296*q+r):=by rw [e]
  simp only [Nat.mul_add, ← Nat.mul_assoc] at e2 ⊢ hs hv
  omega
theorem RTimesR.start {lx ly z0:List Nat} {i:Nat} (h:RTimesR lx ly z0 i):RTimesI lx ly z0 z0 i 0 0 :=
 ⟨Nat.zero_le _,fun _=>rfl,h.len,h.lim,fun k hk=>h.zero k X,fun _=>h.zero _ (Nat.le_refl _),by omega,by simp [lv]⟩
theorem RTimesI.finish {lx ly z0 zz:List Nat} {i j:Nat} (h0:RTimesR lx ly z0 i) (h:RTimesI lx ly z0 zz i j 0) (hj:ly.length≤j) (hi:i<lx.length):RTimesR lx ly zz (i+1):=by
 refine ⟨hi,h.len,h.lim,fun k hk=>h.zero k X,?_⟩
 have hv:=h.val
 rw [Nat.mul_zero,Nat.add_zero,List.take_of_length_le hj,h0.val] at hv
 rw [hv,bR hi,Nat.add_mul,Nat.mul_assoc]
attribute [local irreducible] J PJ aM one slT bW bH bj exT cn eP aX aH slV VT.le Ret bP
attribute [local irreducible] aO
theorem B1 (n1 n2:Bool) (v1 v2:Nat) (h1:(aL v1).length≤1099511627776) (h2:(aL v2).length≤1099511627776):Ok Tryz.prog 35 [sgT n1 v1,sgT n2 v2] (aO (sv n1 v1*sv n2 v2)):=by
 unfold sgT
 refine Ok.enter Tryz.func35 Y Tryz.ntmps35 Y (fun w O => ?_)
 have hx:=a9 v1
 have hy:=a9 v2
 have hva:=cd v1
 have hvb:=cd v2
 generalize aL v1=lx at *
 generalize aL v2=ly at *
 refine ae (ai ?_)
 refine aQ Y Y (ltN Y) (fun b => ?_)
 refine aQ Y Y (ltN Y) (fun b => ?_)
 refine aJ (T:=37) Y (ltN Y) (fun b => ?_)
 refine FL (aa (ae (ai (FH (aj Y) (FH (ak 2 Y Y Y) (FH (aY Y) (FH (aj Y) (FH (ak 1 Y Y Y) (FH (aY Y) ?_)))))))))
 (refine FH (cA Y Y (aR ?_ ?_)) ?_;omega;omega)
 (refine FH (cA Y Y (aR ?_ ?_)) ?_;omega;omega)
 rename_i ba bb
 refine bY (lx.length+ly.length+1) (lx.length+ly.length+1) Y Y (by simp) (by simp) (Nat.le_refl _) Y Y X Y Y (fun bz => ?_)
 refine FJ Y (FL (aa (ae (ae (ai (FJ Y (FL (aa (au ?_)))))))))
 refine cO (σ:=List Nat × Nat) (fun s => [(2,one (.pointer (some ⟨ba,0,none⟩))),(3,one (.pointer (some ⟨bb,0,none⟩))),(4,one (.pointer (some ⟨b,0,none⟩))),(5,one (slV (some bz) (lx.length+ly.length+1) (lx.length+ly.length+1))),(6,one (.int .i64 (s.2:Nat)))])
   (fun s => [aH (some bz) 86 .one (lx.length+ly.length+1) (lx.length+ly.length+1) (fun q=>one (.int .u32 (s.1.getD q 0:Nat))),aX b 37 2 [(0, .agg 2,one (.agg #[.bool false, .slice none 0 0]))],aX bb 37 2 [(0, .one,one (.bool n2)),(1, .one,cz ly)],aX ba 37 2 [(0, .one,one (.bool n1)),(1, .one,cz lx)]])
   (fun s=>RTimesR lx ly s.1 s.2) (fun s=>lx.length - s.2) (List.replicate (lx.length+ly.length+1) 0,0)
   ⟨Nat.zero_le _,by simp,bL.replicate _,fun k _=>cF _ _,by simp [d8,lv]⟩ FE (.keep (a7 (fun q _=>by rw [cF]; rfl)) (SubM.refl _)) (fun s hR => ?_)
 obtain ⟨z0,i⟩:=s
 simp only at hR ⊢
 refine ae (ae (ai (FI Y (FH (aj Y) (FH (ak 3 Y Y Y) (FH (aY Y) (FH (a6 Y Y) (FL (aa ?_)))))))))
 refine bm Y (fun hc => ?_) (fun hc => ?_) <;> simp at hc
 ·have g1:=bh hx i
  refine aw (aa (ae (au (ae (ai (FJ Y (FL (aa (ae ?_)))))))))
  refine ai (FJ Y (FL (aa (au ?_))))
  refine cO (σ:=List Nat × Nat × Nat) (fun s => [(2,one (.pointer (some ⟨ba,0,none⟩))),(3,one (.pointer (some ⟨bb,0,none⟩))),(4,one (.pointer (some ⟨b,0,none⟩))),(5,one (slV (some bz) (lx.length+ly.length+1) (lx.length+ly.length+1))),(6,one (.int .i64 (i:Nat))),(7,one (.int .u64 (s.2.2:Nat))),(8,one (.int .i64 (s.2.1:Nat)))])
   (fun s => [aH (some bz) 86 .one (lx.length+ly.length+1) (lx.length+ly.length+1) (fun q=>one (.int .u32 (s.1.getD q 0:Nat))),aX b 37 2 [(0, .agg 2,one (.agg #[.bool false, .slice none 0 0]))],aX bb 37 2 [(0, .one,one (.bool n2)),(1, .one,cz ly)],aX ba 37 2 [(0, .one,one (.bool n1)),(1, .one,cz lx)]])
   (fun s=>RTimesI lx ly z0 s.1 i s.2.1 s.2.2) (fun s=>ly.length+1 - s.2.1) (z0,0,0)
   hR.start FE (SubM.refl _) (fun s hI => ?_)
  obtain ⟨zz,j,c⟩:=s
  simp only at hI ⊢
  have g0:=hI.c1
  have gj:=hI.le
  refine ae (ae ?_)
  refine gk (σ:=Unit) (fun _ => [(2,one (.pointer (some ⟨ba,0,none⟩))),(3,one (.pointer (some ⟨bb,0,none⟩))),(4,one (.pointer (some ⟨b,0,none⟩))),(5,one (slV (some bz) (lx.length+ly.length+1) (lx.length+ly.length+1))),(6,one (.int .i64 (i:Nat))),(7,one (.int .u64 (c:Nat))),(8,one (.int .i64 (j:Nat))),(33,one (.bool (decide (j<ly.length∨0<c))))])
   (fun _ => [aH (some bz) 86 .one (lx.length+ly.length+1) (lx.length+ly.length+1) (fun q=>one (.int .u32 (zz.getD q 0:Nat))),aX b 37 2 [(0, .agg 2,one (.agg #[.bool false, .slice none 0 0]))],aX bb 37 2 [(0, .one,one (.bool n2)),(1, .one,cz ly)],aX ba 37 2 [(0, .one,one (.bool n1)),(1, .one,cz lx)]]) (fun _=>True) ?_ (fun _ _ => ?_)
  ·refine ai (FI Y (FH (aj Y) (FH (ak 2 Y Y Y) (FH (aY Y) (FH (a6 Y Y) (FI Y ?_))))))
   refine oN (t:=29) Y (fun bo hb => ?_)
   rw [hb]
   cases bo
   ·simp at hb
    refine FK (ab Y) (FK (cU Y Y) (FH (bG Y Y) (FL ?_)))
    exact c7 () trivial (.cons Y S (.cons Y S (.cons Y S (.cons Y S (.cons Y S (.cons Y S (.cons Y S (.cons Y (ar (by congr 1;rw [decide_eq_decide]; omega)) .nil)))))))) (SubM.refl _)
   ·simp at hb
    refine sg0 Y Y Y Y (sg0 Y Y Y Y (FH (a5 Y Y) (FL ?_)))
    exact c7 () trivial (.cons Y S (.cons Y S (.cons Y S (.cons Y S (.cons Y S (.cons Y S (.cons Y S (.cons Y (ar (by simp;omega)) .nil)))))))) (SubM.refl _)
  ·refine aa ?_
   refine bm Y (fun hc2 => ?_) (fun hc2 => ?_) <;> simp only [decide_eq_true_eq,decide_eq_false_iff_not] at hc2
   ·have hstep:=hI.step hx hy hc hc2
    have hjl:j≤ly.length:=by have:=hI.top;omega
    have g2:=bh hy j
    have g3:=bh hI.lim (i+j)
    have g4:=mE g1 g2 g3 g0
    have hlt:i+j<zz.length:=by rw [hI.len]; omega
    refine aw (aa (ae (au (ae (ai (FI Y (FI Y (FI Y (FI Y ?_)))))))))
    (refine FH (cA Y Y (aR ?_ ?_)) ?_;omega;omega)
    (refine FH (aq Y Y ?_) ?_;omega)
    (refine FH (bg 0 Y Y ?_) ?_;omega)
    (refine FH (bU Y ?_) ?_;omega)
    (refine FH (dK Y Y ?_) ?_;omega)
    refine FJ Y (FL (aa (ae (ae (ai (FI Y (FH (aj Y) (FH (ak 2 Y Y Y) (FH (aY Y) ?_)))))))))
    refine FH (a6 Y Y) (FL (aa ?_))
    refine gk (σ:=Unit) (fun _ => [(2,one (.pointer (some ⟨ba,0,none⟩))),(3,one (.pointer (some ⟨bb,0,none⟩))),(4,one (.pointer (some ⟨b,0,none⟩))),(5,one (slV (some bz) (lx.length+ly.length+1) (lx.length+ly.length+1))),(6,one (.int .i64 (i:Nat))),(7,one (.int .u64 (c+zz.getD (i+j) 0+lx.getD i 0*ly.getD j 0:Nat))),(8,one (.int .i64 (j:Nat)))])
     (fun _ => [aH (some bz) 86 .one (lx.length+ly.length+1) (lx.length+ly.length+1) (fun q=>one (.int .u32 (zz.getD q 0:Nat))),aX b 37 2 [(0, .agg 2,one (.agg #[.bool false, .slice none 0 0]))],aX bb 37 2 [(0, .one,one (.bool n2)),(1, .one,cz ly)],aX ba 37 2 [(0, .one,one (.bool n1)),(1, .one,cz lx)]]) (fun _=>True) ?_ (fun _ _ => ?_)
    ·refine bm Y (fun hc3 => ?_) (fun hc3 => ?_) <;> simp only [decide_eq_true_eq,decide_eq_false_iff_not] at hc3
     ·skip
      refine be 16 a4 Z U (FI Y (FH (aj Y) (FH (ak 3 Y Y Y) (FI Y ?_))))
      (refine FH (aC Y Y ?_) ?_;omega)
      refine FH (aN Y) ?_
      (refine FH (bU Y ?_) ?_;omega)
      refine FH (aj Y) (FH (ak 2 Y Y Y) (FI Y ?_))
      (refine FH (aC Y Y ?_) ?_;omega)
      refine FH (aN Y) ?_
      (refine FH (bU Y ?_) ?_;omega)
      (refine FH (fa Y Y ?_) ?_;omega)
      (refine FH (dK Y Y ?_) ?_;omega)
      refine FJ Y (FL (FL ?_))
      exact c7 () trivial FE (SubM.refl _)
     ·have e0:ly.getD j 0=0:=by simp [List.getElem?_eq_none (show ly.length≤j by omega)]
      refine aw ?_
      refine c7 () trivial ?_ (SubM.refl _)
      rw [e0,Nat.mul_zero,Nat.add_zero]
      exact FE
    ·refine aa (ae (ai (FI Y (FI Y (FI Y ?_)))))
     (refine FH (cA Y Y (aR ?_ ?_)) ?_;omega;omega)
     refine FI Y (FH (cM Y) ?_)
     (refine FH (aq Y Y ?_) ?_;omega)
     (refine az 0 Y Y Y ?_ Y ?_;omega)
     refine FL (aa (ai (FI Y ?_)))
     (refine FH (wc Y ?_) ?_;omega)
     refine FJ Y (FL (aF (aa (ai (FI Y ?_)))))
     (refine FH (cA Y Y (aR ?_ ?_)) ?_;omega;omega)
     refine FJ Y (FL ?_)
     refine ci (s:=(zz,j,c)) (zz.set (i+j) ((c+zz.getD (i+j) 0+lx.getD i 0*ly.getD j 0) % 4294967296),j+1,(c+zz.getD (i+j) 0+lx.getD i 0*ly.getD j 0) / 4294967296) hstep (by show ly.length+1 - (j+1)<ly.length+1 - j;omega) FE (.keep (a7 (fun q hq => ?_)) (SubM.refl _))
     unfold upd;rw [el hlt]; split <;> rfl
   ·have hc0:c=0:=by omega
    subst hc0
    have hfin:=hI.finish hR X hc
    refine aV (av (av (aE (aF (aa (ai (FI Y ?_)))))))
    (refine FH (cA Y Y (aR ?_ ?_)) ?_;omega;omega)
    refine FJ Y (FL ?_)
    exact ci (s:=(z0,i)) (zz,i+1) hfin (by show lx.length - (i+1)<lx.length - i;omega) FE (SubM.refl _)
 ·have hi:i=lx.length:=by have:=hR.le;omega
  refine aV (av (av (aE (aa (ae (ai (FI Y (FH (aj Y) (FH (ak 3 Y Y Y) ?_)))))))))
  refine FH (aj Y) (FH (ak 2 Y Y Y) (FH (kn Y Y) (gg (t:=74) (j:=0) Y Y ?_)))
  skip
  refine FH (am (dz _ (v1*v2)) Y ⟨VT.le_trans (cI (m:=z0.length) (ψ:=fun i=>one (.int .u32 (z0.getD i 0:Nat))) hR.len.symm (fun q hq=>rfl)) (iY (l:=z0) hR.lim ?_ ?_),S,FM⟩) ?_
  ·rw [hR.val,hi,List.take_length,hva,hvb]
  ·rw [hR.len]; omega
  refine aB 0 Y Y Y Y Y (leN Y) Y (FL (aa (aG ?_)))
  exact aT Tryz.results35 (.cellB 0 Y Y Y (cp (by cases n1 <;> cases n2 <;> simp [sv,Int.neg_mul,Int.mul_neg])))
end Tor
end
section
namespace Tor
open Go Go.RowKit Go.Proofs
def nq (neg:Bool) (l:List Nat):VT:=bH 2 [(0, .one,one (.bool neg)),(1, .one,cz l)]
def kB (neg:Bool) (l:List Nat):Bool:=if l.length=0 then !neg else decide (l.getD (l.length - 1) 0≠0)
theorem zT (x:Int):VT.le (aO x) (nq (decide (x<0)) (aL x.natAbs)):=VT.le_refl _
attribute [local irreducible] J PJ aM one slT bW bH bj exT cn eP aX aH slV VT.le Ret bP
end Tor
end
section
namespace Tor
open Go Go.RowKit Go.Proofs
def bE (x:Int):Prop:=(aL x.natAbs).length≤1099511627776
theorem d9 {x:Int} (h:x.natAbs<2^2048):bE x:=by
 have:(aL x.natAbs).length≤64:=cw (Nat.lt_of_lt_of_le h H)
 unfold bE;omega
theorem kV (x y:Int) (hx:bE x) (hy:bE y):Ok Tryz.prog 58 [aO x,aO y] (aO (x+y)):=by
 have h:=zQ (decide (x<0)) (decide (y<0)) x.natAbs y.natAbs hx hy
 rw [fU,fU] at h
 exact h.le ⟨eG _,eG _,FM⟩ S
theorem mI (x y:Int) (hx:bE x) (hy:bE y):Ok Tryz.prog 96 [aO x,aO y] (aO (x - y)):=by
 have h:=DX (decide (x<0)) (decide (y<0)) x.natAbs y.natAbs hx hy
 rw [fU,fU] at h
 exact h.le ⟨eG _,eG _,FM⟩ S
theorem fo (x y:Int) (hx:bE x) (hy:bE y):Ok Tryz.prog 54 [aO x,aO y] (aO (x*y)):=by
 have h:=DY (decide (x<0)) (decide (y<0)) x.natAbs y.natAbs hx hy
 rw [fU,fU] at h
 exact h.le ⟨eG _,eG _,FM⟩ S
theorem dg (x:Int):Ok Tryz.prog 51 [aO x] (one (.int .i64 (dn x))):=by
 have h:=rV (decide (x<0)) x.natAbs
 rw [fU] at h
 exact h.le ⟨eG _,FM⟩ S
theorem gX (x y:Int):Ok Tryz.prog 59 [aO x,aO y] (one (.int .i64 (dt x y))):=by
 have h:=DZ (decide (x<0)) (decide (y<0)) x.natAbs y.natAbs
 rw [fU,fU] at h
 exact h.le ⟨eG _,eG _,FM⟩ S
theorem mJ (x y:Int) (hx:bE x) (hy:bE y):Ok Tryz.prog 71 [aO x,aO y] (aO (x+y)):=by
 have h:=BZ (decide (x<0)) (decide (y<0)) x.natAbs y.natAbs hx hy
 rw [fU,fU] at h
 exact h.le ⟨eG _,eG _,FM⟩ S
theorem fh (x y:Int) (hx:bE x) (hy:bE y):Ok Tryz.prog 35 [aO x,aO y] (aO (x*y)):=by
 have h:=B1 (decide (x<0)) (decide (y<0)) x.natAbs y.natAbs hx hy
 rw [fU,fU] at h
 exact h.le ⟨eG _,eG _,FM⟩ S
def pt (x:Int):Prop:=x.natAbs≤2^400
theorem mK {x y:Int} (hx:pt x) (hy:pt y):(x*y).natAbs≤2^800:=by
 rw [Int.natAbs_mul]
 exact Nat.le_trans (Nat.mul_le_mul hx hy) H
theorem dM {x:Int} {n:Nat} (h:x.natAbs≤n) (hn:n<2^2048):bE x:=d9 (Nat.lt_of_le_of_lt h hn)
theorem jM {x:Int} (hx:pt x):bE x:=dM hx H
theorem nr:bE 1:=d9 H
theorem ns {x:Int} (h:bE x):bE (-x):=by unfold bE at *; rw [Int.natAbs_neg]; exact h
theorem kC (φ:VT):VT.le φ bP:=fun _ _ _=>trivial
instance {neg:Bool} {l:List Nat} : Flat (nq neg l) (.agg 2):=by unfold nq;infer_instance
attribute [local irreducible] J PJ aM one slT bW bH bj exT cn eP aX aH slV VT.le Ret bP
theorem kD (l:List Nat) (hl:l.length≤1099511627776):Ok Tryz.prog 128 [cz l] (cz l):=by
 unfold cz
 refine Ok.enter Tryz.func128 Y Tryz.ntmps128 Y (fun w O => ?_)
 refine ae (ai (FJ Y (FL (aa (ae (ae (ai (FI Y (FH (rC Y) ?_)))))))))
 refine FL (aa ?_)
 refine xt (t:=4) Y (fun b => ?_)
 refine qw (t:=4) Y (fun hb => ?_)
 refine bm Y (fun hc => ?_) (fun hc => ?_)
 ·have h0:=hb hc
  refine ae (ai (FJ Y (FL (aa (aG (aS ?_))))))
  refine aT Tryz.results128 (.tmp Y (by (rw [h0]; exact ey)))
 ·refine aw (aa (ae (ai (iL (n:=0) Y Y Y Y Y ?_))))
  refine PartsK.nil (fun bl => ?_)
  refine FI Y ?_
  (refine cq 0 Y Y Y (leN Y) ?_ ?_ Y (ltN Y) (fun sv7 cap7 => ?_);omega;omega)
  refine FJ Y (FL (aa (aG (bZ (t:=2) (i:=0) Y Y ?_))))
  refine aT Tryz.results128 (.tmp Y (cI (by simp) (fun i hi=>by simp)))
theorem wA (x:Int) (hx:bE x):Ok Tryz.prog 80 [aO x] (aO (-x)):=by
 have hcl:=kD (aL x.natAbs) hx
 have hv:=(dL (!decide (x<0)) x.natAbs).le (dq _) (cp (y := -x) (by by_cases h:x<0 <;> simp [h] <;> omega))
 unfold aO at *
 refine Ok.enter Tryz.func80 Y Tryz.ntmps80 Y (fun w O => ?_)
 refine ae (ai ?_)
 refine aQ Y Y (ltN Y) (fun b1 => ?_)
 refine aJ (T:=37) Y (ltN Y) (fun b2 => ?_)
 refine FL (aa (ae (be 7 a4 Z U (FH (aj Y) (FH (ak 1 Y Y Y) (FH (dk Y) (FH (aj Y) (FH (ak 1 Y Y Y) ?_))))))))
 refine FH (am (hcl) Y ⟨S,FM⟩) ?_
 refine FH (am (hv) Y ⟨S,(cH _),FM⟩) ?_
 refine FL (aB 0 Y Y Y Y Y (leN Y) Y (FL (aa (aG ?_))))
 refine aT Tryz.results80 (.cellB 0 Y Y Y S)
theorem B2 (x:Int) (hx:bE x):Ok Tryz.prog 104 [aO x] (aO x.natAbs):=by
 have hcl:=kD (aL x.natAbs) hx
 have hv:=(dL false x.natAbs).le (dq _) (cp (y:=(x.natAbs:Int)) (by simp))
 unfold aO at *
 refine Ok.enter Tryz.func104 Y Tryz.ntmps104 Y (fun w O => ?_)
 refine ae (ai ?_)
 refine aQ Y Y (ltN Y) (fun b1 => ?_)
 refine aJ (T:=37) Y (ltN Y) (fun b2 => ?_)
 refine FL (aa (ae (ai (FH (aj Y) (FH (ak 1 Y Y Y) ?_)))))
 refine FH (am (hcl) Y ⟨S,FM⟩) ?_
 refine FH (am (hv) Y ⟨S,(cH _),FM⟩) ?_
 refine aB 0 Y Y Y Y Y (leN Y) Y (FL (aa (aG ?_)))
 refine aT Tryz.results104 (.cellB 0 Y Y Y S)
theorem cT {n:Nat} (h:(aL n).length≤1099511627776):VT.le (cz (aL n)) (qh n):=iY (a9 n) (cd n) X
theorem jy (x:Int) (hx:bE x):Ok Tryz.prog 74 [aO x] (aO (-x)):=by
 have hv:=(dz (!decide (x<0)) x.natAbs).le (dq _) (cp (y := -x) (by by_cases h:x<0 <;> simp [h] <;> omega))
 have hx:(aL x.natAbs).length≤1099511627776:=hx
 unfold aO at *
 refine Ok.enter Tryz.func74 Y Tryz.ntmps74 Y (fun w O => ?_)
 refine ae (ai ?_)
 refine aQ Y Y (ltN Y) (fun b1 => ?_)
 refine aJ (T:=37) Y (ltN Y) (fun b2 => ?_)
 refine FL (aa (ae (ai (FH (aj Y) (FH (ak 1 Y Y Y) (FH (aj Y) (FH (ak 1 Y Y Y) (FH (dk Y) ?_))))))))
 refine FH (am (hv) Y ⟨(cT hx),S,FM⟩) ?_
 refine aB 0 Y Y Y Y Y (leN Y) Y (FL (aa (aG ?_)))
 refine aT Tryz.results74 (.cellB 0 Y Y Y S)
theorem eo (x:Int):Ok Tryz.prog 21 [aO x] (one (.int .i64 (dn x))):=by
 have h:=zR (decide (x<0)) x.natAbs
 rw [fU] at h
 exact h.le ⟨eG _,FM⟩ S
theorem pu (x y:Int) (hx:bE x) (hy:bE y):Ok Tryz.prog 70 [aO x,aO y] (aO (x - y)):=by
 have hv:=(mJ x (-y) hx (ns hy)).le (dq _) (cp (y:=x - y) X)
 refine Ok.enter Tryz.func70 Y Tryz.ntmps70 Y (fun w O => ?_)
 refine ae (ai ?_)
 refine aQ Y Y (ltN Y) (fun b2 => ?_)
 refine aQ Y Y (ltN Y) (fun b3 => ?_)
 refine aJ (T:=37) Y (ltN Y) (fun b4 => ?_)
 refine FL (aa (ae (be 4 a4 Z U (FH (aI 2 Y Y) (FH (aI 1 Y Y) ?_)))))
 refine FH (am (jy _ (by assumption)) Y ⟨S,FM⟩) ?_
 refine FH (am (hv) Y ⟨S,S,FM⟩) ?_
 refine FL (aB 0 Y Y Y Y Y (leN Y) Y (FL (aa (aG ?_))))
 refine aT Tryz.results70 (.cellB 0 Y Y Y S)
end Tor
end
