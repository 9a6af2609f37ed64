/-
  Theorems that the proofs of laws of this seat rest on.
  No condition.
-/
import Derived.Test.YtbgloceimmbliaaGreatEA3
import Derived.Test.YtbgloceimmbliaaGreatProg
set_option linter.unusedVariables false
set_option linter.unusedSimpArgs false
section
set_option maxRecDepth 100000
namespace Tor
open Go Go.Proofs
instance:LayOf Go.Proofs.Tryz.prog 2 (.one):=⟨by kernel_rfl,by kernel_rfl⟩
instance:LayOf Go.Proofs.Tryz.prog 3 (.one):=⟨by kernel_rfl,by kernel_rfl⟩
instance:LayOf Go.Proofs.Tryz.prog 4 (.one):=⟨by kernel_rfl,by kernel_rfl⟩
instance:LayOf Go.Proofs.Tryz.prog 5 (.one):=⟨by kernel_rfl,by kernel_rfl⟩
instance:LayOf Go.Proofs.Tryz.prog 22 (.one):=⟨by kernel_rfl,by kernel_rfl⟩
instance:LayOf Go.Proofs.Tryz.prog 24 (.agg 3):=⟨by kernel_rfl,by kernel_rfl⟩
instance:LayOf Go.Proofs.Tryz.prog 25 (.one):=⟨by kernel_rfl,by kernel_rfl⟩
instance:LayOf Go.Proofs.Tryz.prog 28 (.one):=⟨by kernel_rfl,by kernel_rfl⟩
instance:LayOf Go.Proofs.Tryz.prog 30 (.agg 3):=⟨by kernel_rfl,by kernel_rfl⟩
instance:LayOf Go.Proofs.Tryz.prog 32 (.one):=⟨by kernel_rfl,by kernel_rfl⟩
instance:LayOf Go.Proofs.Tryz.prog 33 (.one):=⟨by kernel_rfl,by kernel_rfl⟩
instance:LayOf Go.Proofs.Tryz.prog 35 (.one):=⟨by kernel_rfl,by kernel_rfl⟩
instance:LayOf Go.Proofs.Tryz.prog 37 (.agg 2):=⟨by kernel_rfl,by kernel_rfl⟩
instance:LayOf Go.Proofs.Tryz.prog 39 (.one):=⟨by kernel_rfl,by kernel_rfl⟩
instance:LayOf Go.Proofs.Tryz.prog 43 (.one):=⟨by kernel_rfl,by kernel_rfl⟩
instance:LayOf Go.Proofs.Tryz.prog 44 (.one):=⟨by kernel_rfl,by kernel_rfl⟩
instance:LayOf Go.Proofs.Tryz.prog 58 (.agg 4):=⟨by kernel_rfl,by kernel_rfl⟩
instance:LayOf Go.Proofs.Tryz.prog 86 (.one):=⟨by kernel_rfl,by kernel_rfl⟩
instance:LayOf Go.Proofs.Tryz.prog 114 (.agg 4):=⟨by kernel_rfl,by kernel_rfl⟩
instance:LayOf Go.Proofs.Tryz.prog 115 (.one):=⟨by kernel_rfl,by kernel_rfl⟩
instance:LayOf Go.Proofs.Tryz.prog 128 (.one):=⟨by kernel_rfl,by kernel_rfl⟩
instance:LayOf Go.Proofs.Tryz.prog 137 (.agg 4):=⟨by kernel_rfl,by kernel_rfl⟩
instance:LayOf Go.Proofs.Tryz.prog 140 (.agg 4):=⟨by kernel_rfl,by kernel_rfl⟩
instance:LayOf Go.Proofs.Tryz.prog 169 (.agg 3):=⟨by kernel_rfl,by kernel_rfl⟩
instance:LayOf Go.Proofs.Tryz.prog 173 (.one):=⟨by kernel_rfl,by kernel_rfl⟩
instance:IntOf Go.Proofs.Tryz.prog 2 .i64:=⟨by kernel_rfl⟩
instance:IntOf Go.Proofs.Tryz.prog 3 .i64:=⟨by kernel_rfl⟩
instance:BoolOf Go.Proofs.Tryz.prog 4:=⟨by kernel_rfl⟩
instance:IntOf Go.Proofs.Tryz.prog 5 .u8:=⟨by kernel_rfl⟩
instance:SliceOf Go.Proofs.Tryz.prog 22 25:=⟨by kernel_rfl⟩
instance:FieldOf Go.Proofs.Tryz.prog 24 0 0 (.one):=FieldOf.by_info (ft:=5) inferInstance X S
instance:FieldOf Go.Proofs.Tryz.prog 24 2 2 (.one):=FieldOf.by_info (ft:=22) inferInstance X S
instance:IntOf Go.Proofs.Tryz.prog 25 .i8:=⟨by kernel_rfl⟩
instance:SliceOf Go.Proofs.Tryz.prog 28 32:=⟨by kernel_rfl⟩
instance:FieldOf Go.Proofs.Tryz.prog 30 0 0 (.one):=FieldOf.by_info (ft:=3) inferInstance X S
instance:FieldOf Go.Proofs.Tryz.prog 30 1 1 (.one):=FieldOf.by_info (ft:=3) inferInstance X S
instance:FieldOf Go.Proofs.Tryz.prog 30 2 2 (.one):=FieldOf.by_info (ft:=28) inferInstance X S
instance:SliceOf Go.Proofs.Tryz.prog 32 37:=⟨by kernel_rfl⟩
instance:SliceOf Go.Proofs.Tryz.prog 33 37:=⟨by kernel_rfl⟩
instance:SliceOf Go.Proofs.Tryz.prog 35 86:=⟨by kernel_rfl⟩
instance:FieldOf Go.Proofs.Tryz.prog 37 0 0 (.one):=FieldOf.by_info (ft:=4) inferInstance X S
instance:FieldOf Go.Proofs.Tryz.prog 37 1 1 (.one):=FieldOf.by_info (ft:=35) inferInstance X S
instance:SliceOf Go.Proofs.Tryz.prog 39 58:=⟨by kernel_rfl⟩
instance:SliceOf Go.Proofs.Tryz.prog 43 33:=⟨by kernel_rfl⟩
instance:IntOf Go.Proofs.Tryz.prog 44 .u64:=⟨by kernel_rfl⟩
instance:FieldOf Go.Proofs.Tryz.prog 58 0 0 (.agg 2):=FieldOf.by_info (ft:=37) inferInstance X S
instance:FieldOf Go.Proofs.Tryz.prog 58 1 2 (.agg 2):=FieldOf.by_info (ft:=37) inferInstance X S
instance:SliceOf Go.Proofs.Tryz.prog 80 2:=⟨by kernel_rfl⟩
instance:IntOf Go.Proofs.Tryz.prog 86 .u32:=⟨by kernel_rfl⟩
instance:IntOf Go.Proofs.Tryz.prog 87 .u64:=⟨by kernel_rfl⟩
instance:FieldOf Go.Proofs.Tryz.prog 114 0 0 (.one):=FieldOf.by_info (ft:=28) inferInstance X S
instance:FieldOf Go.Proofs.Tryz.prog 114 1 1 (.agg 2):=FieldOf.by_info (ft:=37) inferInstance X S
instance:FieldOf Go.Proofs.Tryz.prog 114 2 3 (.one):=FieldOf.by_info (ft:=4) inferInstance X S
instance:SliceOf Go.Proofs.Tryz.prog 115 3:=⟨by kernel_rfl⟩
instance:FieldOf Go.Proofs.Tryz.prog 117 0 0 (.agg 4):=FieldOf.by_info (ft:=114) inferInstance X S
instance:FieldOf Go.Proofs.Tryz.prog 117 1 4 (.one):=FieldOf.by_info (ft:=115) inferInstance X S
instance:ArrayOf Go.Proofs.Tryz.prog 120 2 30:=⟨by kernel_rfl⟩
instance:SliceOf Go.Proofs.Tryz.prog 128 173:=⟨by kernel_rfl⟩
instance:FieldOf Go.Proofs.Tryz.prog 137 0 0 (.agg 2):=FieldOf.by_info (ft:=37) inferInstance X S
instance:FieldOf Go.Proofs.Tryz.prog 137 1 2 (.agg 2):=FieldOf.by_info (ft:=37) inferInstance X S
instance:SliceOf Go.Proofs.Tryz.prog 143 39:=⟨by kernel_rfl⟩
instance:SliceOf Go.Proofs.Tryz.prog 159 30:=⟨by kernel_rfl⟩
instance:FieldOf Go.Proofs.Tryz.prog 169 0 0 (.one):=FieldOf.by_info (ft:=44) inferInstance X S
instance:FieldOf Go.Proofs.Tryz.prog 169 1 1 (.one):=FieldOf.by_info (ft:=3) inferInstance X S
instance:FieldOf Go.Proofs.Tryz.prog 169 2 2 (.one):=FieldOf.by_info (ft:=128) inferInstance X S
instance:SliceOf Go.Proofs.Tryz.prog 173 44:=⟨by kernel_rfl⟩
instance:FieldOf Go.Proofs.Tryz.prog 180 0 0 (.agg 2):=FieldOf.by_info (ft:=37) inferInstance X S
instance:FieldOf Go.Proofs.Tryz.prog 180 1 2 (.agg 2):=FieldOf.by_info (ft:=37) inferInstance X S
instance:ArrayOf Go.Proofs.Tryz.prog 207 4 44:=⟨by kernel_rfl⟩
instance:ZeroOf Go.Proofs.Tryz.prog 2 (.int .i64 0) 8:=⟨by kernel_rfl⟩
instance:ZeroOf Go.Proofs.Tryz.prog 3 (.int .i64 0) 8:=⟨by kernel_rfl⟩
instance zf29:Flat (one (.agg #[.int .i64 0, .int .i64 0, .slice none 0 0])) (.agg 3):=jv S X
instance:ZeroOf Go.Proofs.Tryz.prog 30 (.agg #[.int .i64 0, .int .i64 0, .slice none 0 0]) 40:=⟨by kernel_rfl⟩
instance:ZeroOf Go.Proofs.Tryz.prog 32 (.slice none 0 0) 24:=⟨by kernel_rfl⟩
instance:ZeroOf Go.Proofs.Tryz.prog 33 (.slice none 0 0) 24:=⟨by kernel_rfl⟩
instance zf36:Flat (one (.agg #[.bool false, .slice none 0 0])) (.agg 2):=jv S X
instance:ZeroOf Go.Proofs.Tryz.prog 37 (.agg #[.bool false, .slice none 0 0]) 32:=⟨by kernel_rfl⟩
instance:ZeroOf Go.Proofs.Tryz.prog 39 (.slice none 0 0) 24:=⟨by kernel_rfl⟩
instance:ZeroOf Go.Proofs.Tryz.prog 43 (.slice none 0 0) 24:=⟨by kernel_rfl⟩
instance:ZeroOf Go.Proofs.Tryz.prog 44 (.int .u64 0) 8:=⟨by kernel_rfl⟩
instance zf57:Flat (one (.agg #[.bool false, .slice none 0 0, .bool false, .slice none 0 0])) (.agg 4):=jv S X
instance:ZeroOf Go.Proofs.Tryz.prog 58 (.agg #[.bool false, .slice none 0 0, .bool false, .slice none 0 0]) 64:=⟨by kernel_rfl⟩
instance:ZeroOf Go.Proofs.Tryz.prog 86 (.int .u32 0) 4:=⟨by kernel_rfl⟩
instance:ZeroOf Go.Proofs.Tryz.prog 114 (.agg #[.slice none 0 0, .bool false, .slice none 0 0, .bool false]) 64:=⟨by kernel_rfl⟩
instance:ZeroOf Go.Proofs.Tryz.prog 117 (.agg #[.slice none 0 0, .bool false, .slice none 0 0, .bool false, .slice none 0 0]) 88:=⟨by kernel_rfl⟩
instance:ZeroOf Go.Proofs.Tryz.prog 120 (.agg #[.int .i64 0, .int .i64 0, .slice none 0 0, .int .i64 0, .int .i64 0, .slice none 0 0]) 80:=⟨by kernel_rfl⟩
instance:ZeroOf Go.Proofs.Tryz.prog 137 (.agg #[.bool false, .slice none 0 0, .bool false, .slice none 0 0]) 64:=⟨by kernel_rfl⟩
instance zf139:Flat (one (.agg #[.bool false, .bool false, .bool false, .bool false])) (.agg 4):=jv S X
instance:ZeroOf Go.Proofs.Tryz.prog 140 (.agg #[.bool false, .bool false, .bool false, .bool false]) 4:=⟨by kernel_rfl⟩
instance zf168:Flat (one (.agg #[.int .u64 0, .int .i64 0, .slice none 0 0])) (.agg 3):=jv S X
instance:ZeroOf Go.Proofs.Tryz.prog 169 (.agg #[.int .u64 0, .int .i64 0, .slice none 0 0]) 40:=⟨by kernel_rfl⟩
instance:ZeroOf Go.Proofs.Tryz.prog 173 (.slice none 0 0) 24:=⟨by kernel_rfl⟩
instance:ZeroOf Go.Proofs.Tryz.prog 180 (.agg #[.bool false, .slice none 0 0, .bool false, .slice none 0 0]) 64:=⟨by kernel_rfl⟩
instance:ZeroOf Go.Proofs.Tryz.prog 207 (.agg #[.int .u64 0, .int .u64 0, .int .u64 0, .int .u64 0]) 32:=⟨by kernel_rfl⟩
instance:BuildOf Go.Proofs.Tryz.prog 30 3 #[.int .i64 0, .int .i64 0, .slice none 0 0] [(0, .one),(1, .one),(2, .one)]:=BuildOf.by_struct (by':=40) inferInstance Y X X
instance:BuildOf Go.Proofs.Tryz.prog 37 2 #[.bool false, .slice none 0 0] [(0, .one),(1, .one)]:=BuildOf.by_struct (by':=32) inferInstance Y X X
instance:BuildOf Go.Proofs.Tryz.prog 58 4 #[.bool false, .slice none 0 0, .bool false, .slice none 0 0] [(0, .agg 2),(2, .agg 2)]:=BuildOf.by_struct (by':=64) inferInstance Y X X
instance:BuildOf Go.Proofs.Tryz.prog 114 4 #[.slice none 0 0, .bool false, .slice none 0 0, .bool false] [(0, .one),(1, .agg 2),(3, .one)]:=BuildOf.by_struct (by':=64) inferInstance Y X X
instance:BuildOf Go.Proofs.Tryz.prog 117 5 #[.slice none 0 0, .bool false, .slice none 0 0, .bool false, .slice none 0 0] [(0, .agg 4),(4, .one)]:=BuildOf.by_struct (by':=88) inferInstance Y X X
instance:BuildOf Go.Proofs.Tryz.prog 120 6 #[.int .i64 0, .int .i64 0, .slice none 0 0, .int .i64 0, .int .i64 0, .slice none 0 0] [(0, .agg 3),(3, .agg 3)]:=BuildOf.by_array (by':=80) (n:=2) (e:=30) (L := .agg 3) inferInstance inferInstance inferInstance Y X Y S
instance:BuildOf Go.Proofs.Tryz.prog 137 4 #[.bool false, .slice none 0 0, .bool false, .slice none 0 0] [(0, .agg 2),(2, .agg 2)]:=BuildOf.by_struct (by':=64) inferInstance Y X X
instance:BuildOf Go.Proofs.Tryz.prog 140 4 #[.bool false, .bool false, .bool false, .bool false] [(0, .one),(1, .one),(2, .one),(3, .one)]:=BuildOf.by_struct (by':=4) inferInstance Y X X
instance:BuildOf Go.Proofs.Tryz.prog 169 3 #[.int .u64 0, .int .i64 0, .slice none 0 0] [(0, .one),(1, .one),(2, .one)]:=BuildOf.by_struct (by':=40) inferInstance Y X X
instance:BuildOf Go.Proofs.Tryz.prog 180 4 #[.bool false, .slice none 0 0, .bool false, .slice none 0 0] [(0, .agg 2),(2, .agg 2)]:=BuildOf.by_struct (by':=64) inferInstance Y X X
instance:BuildOf Go.Proofs.Tryz.prog 207 4 #[.int .u64 0, .int .u64 0, .int .u64 0, .int .u64 0] [(0, .one),(1, .one),(2, .one),(3, .one)]:=BuildOf.by_array (by':=32) (n:=4) (e:=44) (L := .one) inferInstance inferInstance inferInstance Y X Y S
instance:Fn Go.Proofs.Tryz.prog 8:=Fn.of Tryz.func8 U Y
instance:Fn Go.Proofs.Tryz.prog 9:=Fn.of Tryz.func9 U Y
instance:Fn Go.Proofs.Tryz.prog 11:=Fn.of Tryz.func11 U Y
instance:Fn Go.Proofs.Tryz.prog 12:=Fn.of Tryz.func12 U Y
instance:Fn Go.Proofs.Tryz.prog 13:=Fn.of Tryz.func13 U Y
instance:Fn Go.Proofs.Tryz.prog 15:=Fn.of Tryz.func15 U Y
instance:Fn Go.Proofs.Tryz.prog 17:=Fn.of Tryz.func17 U Y
instance:Fn Go.Proofs.Tryz.prog 18:=Fn.of Tryz.func18 U Y
instance:Fn Go.Proofs.Tryz.prog 20:=Fn.of Tryz.func20 U Y
instance:Fn Go.Proofs.Tryz.prog 21:=Fn.of Tryz.func21 U Y
instance:Fn Go.Proofs.Tryz.prog 22:=Fn.of Tryz.func22 U Y
instance:Fn Go.Proofs.Tryz.prog 23:=Fn.of Tryz.func23 U Y
instance:Fn Go.Proofs.Tryz.prog 24:=Fn.of Tryz.func24 U Y
instance:Fn Go.Proofs.Tryz.prog 25:=Fn.of Tryz.func25 U Y
instance:Fn Go.Proofs.Tryz.prog 26:=Fn.of Tryz.func26 U Y
instance:Fn Go.Proofs.Tryz.prog 27:=Fn.of Tryz.func27 U Y
instance:Fn Go.Proofs.Tryz.prog 29:=Fn.of Tryz.func29 U Y
instance:Fn Go.Proofs.Tryz.prog 30:=Fn.of Tryz.func30 U Y
instance:Fn Go.Proofs.Tryz.prog 32:=Fn.of Tryz.func32 U Y
instance:Fn Go.Proofs.Tryz.prog 33:=Fn.of Tryz.func33 U Y
instance:Fn Go.Proofs.Tryz.prog 35:=Fn.of Tryz.func35 U Y
instance:Fn Go.Proofs.Tryz.prog 36:=Fn.of Tryz.func36 U Y
instance:Fn Go.Proofs.Tryz.prog 39:=Fn.of Tryz.func39 U Y
instance:Fn Go.Proofs.Tryz.prog 40:=Fn.of Tryz.func40 U Y
instance:Fn Go.Proofs.Tryz.prog 41:=Fn.of Tryz.func41 U Y
instance:Fn Go.Proofs.Tryz.prog 42:=Fn.of Tryz.func42 U Y
instance:Fn Go.Proofs.Tryz.prog 43:=Fn.of Tryz.func43 U Y
instance:Fn Go.Proofs.Tryz.prog 44:=Fn.of Tryz.func44 U Y
instance:Fn Go.Proofs.Tryz.prog 45:=Fn.of Tryz.func45 U Y
instance:Fn Go.Proofs.Tryz.prog 46:=Fn.of Tryz.func46 U Y
instance:Fn Go.Proofs.Tryz.prog 47:=Fn.of Tryz.func47 U Y
instance:Fn Go.Proofs.Tryz.prog 48:=Fn.of Tryz.func48 U Y
instance:Fn Go.Proofs.Tryz.prog 49:=Fn.of Tryz.func49 U Y
instance:Fn Go.Proofs.Tryz.prog 50:=Fn.of Tryz.func50 U Y
instance:Fn Go.Proofs.Tryz.prog 51:=Fn.of Tryz.func51 U Y
instance:Fn Go.Proofs.Tryz.prog 52:=Fn.of Tryz.func52 U Y
instance:Fn Go.Proofs.Tryz.prog 53:=Fn.of Tryz.func53 U Y
instance:Fn Go.Proofs.Tryz.prog 54:=Fn.of Tryz.func54 U Y
instance:Fn Go.Proofs.Tryz.prog 55:=Fn.of Tryz.func55 U Y
instance:Fn Go.Proofs.Tryz.prog 56:=Fn.of Tryz.func56 U Y
instance:Fn Go.Proofs.Tryz.prog 57:=Fn.of Tryz.func57 U Y
instance:Fn Go.Proofs.Tryz.prog 58:=Fn.of Tryz.func58 U Y
instance:Fn Go.Proofs.Tryz.prog 59:=Fn.of Tryz.func59 U Y
instance:Fn Go.Proofs.Tryz.prog 60:=Fn.of Tryz.func60 U Y
instance:Fn Go.Proofs.Tryz.prog 64:=Fn.of Tryz.func64 U Y
instance:Fn Go.Proofs.Tryz.prog 65:=Fn.of Tryz.func65 U Y
instance:Fn Go.Proofs.Tryz.prog 66:=Fn.of Tryz.func66 U Y
instance:Fn Go.Proofs.Tryz.prog 67:=Fn.of Tryz.func67 U Y
instance:Fn Go.Proofs.Tryz.prog 68:=Fn.of Tryz.func68 U Y
instance:Fn Go.Proofs.Tryz.prog 69:=Fn.of Tryz.func69 U Y
instance:Fn Go.Proofs.Tryz.prog 70:=Fn.of Tryz.func70 U Y
instance:Fn Go.Proofs.Tryz.prog 71:=Fn.of Tryz.func71 U Y
instance:Fn Go.Proofs.Tryz.prog 73:=Fn.of Tryz.func73 U Y
instance:Fn Go.Proofs.Tryz.prog 74:=Fn.of Tryz.func74 U Y
instance:Fn Go.Proofs.Tryz.prog 75:=Fn.of Tryz.func75 U Y
instance:Fn Go.Proofs.Tryz.prog 76:=Fn.of Tryz.func76 U Y
instance:Fn Go.Proofs.Tryz.prog 77:=Fn.of Tryz.func77 U Y
instance:Fn Go.Proofs.Tryz.prog 78:=Fn.of Tryz.func78 U Y
instance:Fn Go.Proofs.Tryz.prog 79:=Fn.of Tryz.func79 U Y
instance:Fn Go.Proofs.Tryz.prog 80:=Fn.of Tryz.func80 U Y
instance:Fn Go.Proofs.Tryz.prog 81:=Fn.of Tryz.func81 U Y
instance:Fn Go.Proofs.Tryz.prog 82:=Fn.of Tryz.func82 U Y
instance:Fn Go.Proofs.Tryz.prog 83:=Fn.of Tryz.func83 U Y
instance:Fn Go.Proofs.Tryz.prog 84:=Fn.of Tryz.func84 U Y
instance:Fn Go.Proofs.Tryz.prog 85:=Fn.of Tryz.func85 U Y
instance:Fn Go.Proofs.Tryz.prog 86:=Fn.of Tryz.func86 U Y
instance:Fn Go.Proofs.Tryz.prog 87:=Fn.of Tryz.func87 U Y
instance:Fn Go.Proofs.Tryz.prog 88:=Fn.of Tryz.func88 U Y
instance:Fn Go.Proofs.Tryz.prog 89:=Fn.of Tryz.func89 U Y
instance:Fn Go.Proofs.Tryz.prog 90:=Fn.of Tryz.func90 U Y
instance:Fn Go.Proofs.Tryz.prog 91:=Fn.of Tryz.func91 U Y
instance:Fn Go.Proofs.Tryz.prog 92:=Fn.of Tryz.func92 U Y
instance:Fn Go.Proofs.Tryz.prog 93:=Fn.of Tryz.func93 U Y
instance:Fn Go.Proofs.Tryz.prog 94:=Fn.of Tryz.func94 U Y
instance:Fn Go.Proofs.Tryz.prog 95:=Fn.of Tryz.func95 U Y
instance:Fn Go.Proofs.Tryz.prog 96:=Fn.of Tryz.func96 U Y
instance:Fn Go.Proofs.Tryz.prog 97:=Fn.of Tryz.func97 U Y
instance:Fn Go.Proofs.Tryz.prog 98:=Fn.of Tryz.func98 U Y
instance:Fn Go.Proofs.Tryz.prog 99:=Fn.of Tryz.func99 U Y
instance:Fn Go.Proofs.Tryz.prog 100:=Fn.of Tryz.func100 U Y
instance:Fn Go.Proofs.Tryz.prog 101:=Fn.of Tryz.func101 U Y
instance:Fn Go.Proofs.Tryz.prog 102:=Fn.of Tryz.func102 U Y
instance:Fn Go.Proofs.Tryz.prog 103:=Fn.of Tryz.func103 U Y
instance:Fn Go.Proofs.Tryz.prog 104:=Fn.of Tryz.func104 U Y
instance:Fn Go.Proofs.Tryz.prog 105:=Fn.of Tryz.func105 U Y
instance:Fn Go.Proofs.Tryz.prog 111:=Fn.of Tryz.func111 U Y
instance:Fn Go.Proofs.Tryz.prog 115:=Fn.of Tryz.func115 U Y
instance:Fn Go.Proofs.Tryz.prog 116:=Fn.of Tryz.func116 U Y
instance:Fn Go.Proofs.Tryz.prog 117:=Fn.of Tryz.func117 U Y
instance:Fn Go.Proofs.Tryz.prog 118:=Fn.of Tryz.func118 U Y
instance:Fn Go.Proofs.Tryz.prog 119:=Fn.of Tryz.func119 U Y
instance:Fn Go.Proofs.Tryz.prog 120:=Fn.of Tryz.func120 U Y
instance:Fn Go.Proofs.Tryz.prog 121:=Fn.of Tryz.func121 U Y
instance:Fn Go.Proofs.Tryz.prog 122:=Fn.of Tryz.func122 U Y
instance:Fn Go.Proofs.Tryz.prog 123:=Fn.of Tryz.func123 U Y
instance:Fn Go.Proofs.Tryz.prog 124:=Fn.of Tryz.func124 U Y
instance:Fn Go.Proofs.Tryz.prog 125:=Fn.of Tryz.func125 U Y
instance:Fn Go.Proofs.Tryz.prog 126:=Fn.of Tryz.func126 U Y
instance:Fn Go.Proofs.Tryz.prog 127:=Fn.of Tryz.func127 U Y
instance:Fn Go.Proofs.Tryz.prog 128:=Fn.of Tryz.func128 U Y
instance:Fn Go.Proofs.Tryz.prog 129:=Fn.of Tryz.func129 U Y
instance:Fn Go.Proofs.Tryz.prog 130:=Fn.of Tryz.func130 U Y
instance:Fn Go.Proofs.Tryz.prog 131:=Fn.of Tryz.func131 U Y
instance:Fn Go.Proofs.Tryz.prog 132:=Fn.of Tryz.func132 U Y
instance:Fn Go.Proofs.Tryz.prog 133:=Fn.of Tryz.func133 U Y
instance:Fn Go.Proofs.Tryz.prog 134:=Fn.of Tryz.func134 U Y
instance:Fn Go.Proofs.Tryz.prog 135:=Fn.of Tryz.func135 U Y
instance:Fn Go.Proofs.Tryz.prog 136:=Fn.of Tryz.func136 U Y
instance:Fn Go.Proofs.Tryz.prog 137:=Fn.of Tryz.func137 U Y
instance:Fn Go.Proofs.Tryz.prog 138:=Fn.of Tryz.func138 U Y
instance:Fn Go.Proofs.Tryz.prog 139:=Fn.of Tryz.func139 U Y
instance:Fn Go.Proofs.Tryz.prog 140:=Fn.of Tryz.func140 U Y
instance:Fn Go.Proofs.Tryz.prog 141:=Fn.of Tryz.func141 U Y
instance:Fn Go.Proofs.Tryz.prog 142:=Fn.of Tryz.func142 U Y
instance:Fn Go.Proofs.Tryz.prog 143:=Fn.of Tryz.func143 U Y
instance:Fn Go.Proofs.Tryz.prog 144:=Fn.of Tryz.func144 U Y
instance:Fn Go.Proofs.Tryz.prog 145:=Fn.of Tryz.func145 U Y
instance:Fn Go.Proofs.Tryz.prog 146:=Fn.of Tryz.func146 U Y
instance:Fn Go.Proofs.Tryz.prog 147:=Fn.of Tryz.func147 U Y
instance:Fn Go.Proofs.Tryz.prog 148:=Fn.of Tryz.func148 U Y
instance:Fn Go.Proofs.Tryz.prog 149:=Fn.of Tryz.func149 U Y
instance:Fn Go.Proofs.Tryz.prog 152:=Fn.of Tryz.func152 U Y
instance:Fn Go.Proofs.Tryz.prog 153:=Fn.of Tryz.func153 U Y
instance:Fn Go.Proofs.Tryz.prog 154:=Fn.of Tryz.func154 U Y
instance:Fn Go.Proofs.Tryz.prog 155:=Fn.of Tryz.func155 U Y
instance:Fn Go.Proofs.Tryz.prog 156:=Fn.of Tryz.func156 U Y
instance:Fn Go.Proofs.Tryz.prog 157:=Fn.of Tryz.func157 U Y
instance:Fn Go.Proofs.Tryz.prog 158:=Fn.of Tryz.func158 U Y
instance:Fn Go.Proofs.Tryz.prog 159:=Fn.of Tryz.func159 U Y
instance:Fn Go.Proofs.Tryz.prog 160:=Fn.of Tryz.func160 U Y
instance:Fn Go.Proofs.Tryz.prog 161:=Fn.of Tryz.func161 U Y
instance:Fn Go.Proofs.Tryz.prog 162:=Fn.of Tryz.func162 U Y
instance:Fn Go.Proofs.Tryz.prog 163:=Fn.of Tryz.func163 U Y
instance:Fn Go.Proofs.Tryz.prog 164:=Fn.of Tryz.func164 U Y
instance:Fn Go.Proofs.Tryz.prog 165:=Fn.of Tryz.func165 U Y
instance:Fn Go.Proofs.Tryz.prog 166:=Fn.of Tryz.func166 U Y
instance:Fn Go.Proofs.Tryz.prog 167:=Fn.of Tryz.func167 U Y
instance:Fn Go.Proofs.Tryz.prog 168:=Fn.of Tryz.func168 U Y
instance:Fn Go.Proofs.Tryz.prog 169:=Fn.of Tryz.func169 U Y
instance:Fn Go.Proofs.Tryz.prog 177:=Fn.of Tryz.func177 U Y
instance:Fn Go.Proofs.Tryz.prog 178:=Fn.of Tryz.func178 U Y
instance:Fn Go.Proofs.Tryz.prog 179:=Fn.of Tryz.func179 U Y
instance:Fn Go.Proofs.Tryz.prog 180:=Fn.of Tryz.func180 U Y
instance:Fn Go.Proofs.Tryz.prog 181:=Fn.of Tryz.func181 U Y
instance:Fn Go.Proofs.Tryz.prog 182:=Fn.of Tryz.func182 U Y
instance:Fn Go.Proofs.Tryz.prog 183:=Fn.of Tryz.func183 U Y
instance:Fn Go.Proofs.Tryz.prog 184:=Fn.of Tryz.func184 U Y
instance:Fn Go.Proofs.Tryz.prog 185:=Fn.of Tryz.func185 U Y
instance:Fn Go.Proofs.Tryz.prog 191:=Fn.of Tryz.func191 U Y
instance:Fn Go.Proofs.Tryz.prog 192:=Fn.of Tryz.func192 U Y
instance:Fn Go.Proofs.Tryz.prog 194:=Fn.of Tryz.func194 U Y
theorem aZ:Go.Proofs.Tryz.prog.follows .mixedOrders=true:=by kernel_rfl
end Tor
end
section
namespace Tor
def lv:List Nat→Nat
 | [] => 0
 | d :: l => d + 4294967296 * lv l
def bE (l:List Nat):Prop := ∀ d∈l,d<4294967296
def gp:List Nat→Prop
 | [] => True
 | [d] => d ≠ 0
 | _ :: d :: l => gp (d :: l)
def mP:Nat→Nat→List Nat
 | 0, _ => []
 | f + 1, n => if n = 0 then [] else n % 4294967296 :: mP f (n / 4294967296)
def aJ (n:Nat):List Nat:=mP n n
theorem sb : ∀ (f n:Nat),n≤f → ∀ g,n≤g→mP f n=mP g n
 | 0, n, h, g, hg => by
  have:n=0:=by omega
  subst this;cases g <;> simp [mP]
 | f + 1, n, h, 0, hg => by
  have:n=0:=by omega
  subst this;simp [mP]
 | f + 1, n, h, g + 1, hg => by
  simp only [mP]
  split
  ·rfl
  ·rw [sb f (n / 4294967296) Z g Z]
theorem iJ:aJ 0 = []:=rfl
theorem gN {n:Nat} (h:n≠0):aJ n=n % 4294967296 :: aJ (n / 4294967296):=by
 unfold aJ
 obtain ⟨m,rfl⟩ : ∃ m,n=m+1:=⟨n - 1,by omega⟩
 rw [mP,if_neg h,sb m _ Z ((m+1) / 4294967296) (Nat.le_refl _)]
theorem bX (n:Nat):lv (aJ n)=n:=by
 induction n using Nat.strongRecOn with
 | _ n ih =>
  by_cases h:n=0
  ·subst h;rfl
  ·rw [gN h,lv,ih _ Z]; omega
theorem a5 (n:Nat):bE (aJ n):=by
 induction n using Nat.strongRecOn with
 | _ n ih =>
  by_cases h:n=0
  ·subst h;intro d hd;cases hd
  ·rw [gN h]; intro d hd
   rcases List.mem_cons.1 hd with rfl | hd
   ·omega
   ·exact ih _ Z d hd
theorem bE.tail {d:Nat} {l:List Nat} (h:bE (d :: l)):bE l:=fun x hx=>h x (List.mem_cons_of_mem _ hx)
theorem bE.head {d:Nat} {l:List Nat} (h:bE (d :: l)):d<4294967296:=h d List.mem_cons_self
theorem yp : ∀ {l:List Nat},l ≠ []→gp l→0<lv l
 | [], h, _ => absurd Y h
 | [d], _, h => by have h : d ≠ 0 := h; simp only [lv]; omega
 | d :: e :: l, _, h => by have := yp (l := e :: l) (by simp) h; simp only [lv] at *; omega
theorem gp.tail {d:Nat} : ∀ {l:List Nat},gp (d :: l)→gp l
 | [], _ => trivial
 | _ :: _, h => h
theorem u6 : ∀ {l:List Nat},bE l→gp l→aJ (lv l)=l
 | [], _, _ => rfl
 | d :: l, hl, ht => by
  have h0:lv (d :: l)≠0:=by have:=yp (l:=d :: l) (by simp) ht;omega
  have hd:=hl.head
  rw [gN h0]
  simp only [lv]
  rw [show (d+4294967296*lv l) % 4294967296=d by omega,show (d+4294967296*lv l) / 4294967296=lv l by omega,u6 hl.tail ht.tail]
theorem lE (n:Nat):gp (aJ n):=by
 induction n using Nat.strongRecOn with
 | _ n ih =>
  by_cases h:n=0
  ·subst h;trivial
  ·rw [gN h]
   have:=ih (n / 4294967296) Z
   by_cases h2:n / 4294967296=0
   ·rw [h2,iJ]; show n % 4294967296≠0;omega
   ·rw [gN h2] at this ⊢; exact this
theorem fD (l m:List Nat):lv (l ++ m)=lv l+4294967296^l.length*lv m:=by
 induction l with
 | nil => simp [lv]
 | cons d l ih =>
  simp only [List.cons_append,lv,ih,List.length_cons,Nat.pow_succ,Nat.mul_add]
  have:4294967296*(4294967296^l.length*lv m)=4294967296^l.length*4294967296*lv m:=by
   rw [← Nat.mul_assoc,Nat.mul_comm 4294967296]
  omega
theorem gO : ∀ {l:List Nat},bE l→lv l<4294967296^l.length
 | [], _ => by simp [lv]
 | d :: l, h => by
  have:=gO h.tail
  have hd:=h.head
  simp only [lv,List.length_cons,Nat.pow_succ]
  have h2:lv l+1≤4294967296^l.length:=this
  have:=Nat.mul_le_mul_right 4294967296 h2
  omega
theorem n7 {l:List Nat} {k:Nat} (h:k<l.length):l.take (k+1)=l.take k ++ [l.getD k 0]:=by
 rw [List.take_add_one]; simp [List.getD,h]
theorem bL {l:List Nat} {k:Nat} (h:k<l.length):lv (l.take (k+1))=lv (l.take k)+4294967296^k*l.getD k 0:=by
 rw [n7 h,fD,List.length_take_of_le Z]; simp [lv]
theorem a9 {l:List Nat} (h:bE l) (k:Nat):l.getD k 0<4294967296:=by
 by_cases hk:k<l.length
 ·have:l.getD k 0=l[k]:=by simp [List.getD,hk]
  rw [this]; exact h _ (List.getElem_mem hk)
 ·have:l.getD k 0=0:=by simp [List.getD,List.getElem?_eq_none (Nat.le_of_not_lt hk)]
  omega
theorem j5 (l:List Nat) (x q:Nat):(l ++ [x]).getD q 0=if q=l.length then x else l.getD q 0:=by
 simp only [List.getD,List.getElem?_append]
 by_cases h:q<l.length
 ·rw [if_pos h,if_neg Z]
 ·rw [if_neg h]
  by_cases h2:q=l.length
  ·subst h2;simp
  ·rw [if_neg h2,List.getElem?_eq_none (by simp;omega),List.getElem?_eq_none Z]
theorem bE.take {l:List Nat} (h:bE l) (k:Nat):bE (l.take k):=fun d hd=>h d (List.mem_of_mem_take hd)
def gP (l:List Nat):Nat→Nat
 | 0 => 0
 | n + 1 => if l.getD n 0 = 0 then gP l n else n + 1
theorem qP {l:List Nat} : ∀ {n:Nat},n<l.length→l.getD n 0≠0→gp (l.take (n+1)):=by
  induction l with
  | nil => intro n h; simp at h
  | cons d l ih =>
    intro n h h0
    cases n with
    | zero => simp at h0 ⊢; exact h0
    | succ n =>
      have:=ih (n:=n) (by simpa using h) (by simpa using h0)
      rw [List.take_succ_cons]
      cases hl:l.take (n+1) with
      | nil => rw [List.take_eq_nil_iff] at hl; rcases hl with hl | hl
               · omega
               · subst hl;simp at h
      | cons e r => rw [hl] at this; exact this
theorem pJ {l:List Nat} (hl:bE l) : ∀ {n:Nat},n≤l.length→lv l=lv (l.take n)→l.take (gP l n)=aJ (lv l)
 | 0, _, h => by rw [gP, h]; simp [lv, iJ]
 | n + 1, hn, h => by
  rw [gP]
  split
  ·rename_i h0
   refine pJ hl Z ?_
   rw [h,bL Z,h0]; simp
  ·rename_i h0
   rw [h]
   exact (u6 (hl.take _) (qP Z h0)).symm
theorem n8 {l:List Nat} (hl:bE l):l.take (gP l l.length)=aJ (lv l):=pJ hl (Nat.le_refl _) (by rw [List.take_length])
theorem cr : ∀ {k n:Nat},n<4294967296^k→(aJ n).length≤k
  | 0, n, h => by have : n = 0 := by simpa using h
                  subst this;simp [iJ]
  | k + 1, n, h => by
    by_cases h0:n=0
    · subst h0;simp [iJ]
    · rw [gN h0,List.length_cons]
      have:n / 4294967296<4294967296^k:=by
        rw [Nat.pow_succ] at h
        exact Nat.div_lt_of_lt_mul (by rw [Nat.mul_comm]; exact h)
      have:=cr this
      omega
theorem cW (n:Nat):n<4294967296^(aJ n).length:=by
 have:=gO (a5 n);rwa [bX] at this
theorem sc {a b:Nat} (h:aJ a=aJ b):a=b:=by rw [← bX a, ← bX b,h]
theorem fU (l:List Nat) (k:Nat) (hk:k≤l.length):lv l=lv (l.take k)+4294967296^k*lv (l.drop k):=by
 have h:=fD (l.take k) (l.drop k)
 rwa [List.take_append_drop,List.length_take_of_le hk] at h
theorem fE {l:List Nat} {k:Nat} (h:k<l.length):l.drop k=l.getD k 0 :: l.drop (k+1):=by
 rw [List.drop_eq_getElem_cons h]; simp [List.getD,h]
theorem qQ {l m:List Nat} (hl:bE l) (hm:bE m) (hn:l.length=m.length) {i:Nat} (hi:i<l.length) (hd:l.drop (i+1)=m.drop (i+1)) (hlt:l.getD i 0<m.getD i 0):lv l<lv m:=by
 have e1:=fE hi
 have e2:=fE (hn▸hi:i<m.length)
 rw [fU l i Z,fU m i Z,e1,e2,hd]
 simp only [lv]
 have h1:=gO (hl.take i)
 rw [List.length_take_of_le Z] at h1
 generalize 4294967296^i=B at *
 generalize lv (m.drop (i+1))=t
 have h2:B*(l.getD i 0+4294967296*t)+B≤B*(m.getD i 0+4294967296*t):=by
  rw [← Nat.mul_succ]; exact Nat.mul_le_mul_left B Z
 omega
theorem iF {a b:Nat} (h:(aJ a).length<(aJ b).length):a<b:=by
 rcases Nat.lt_or_ge a b with h' | h'
 ·exact h'
 ·have h1:b<4294967296^(aJ a).length:=Nat.lt_of_le_of_lt h' (cW a)
  have:=cr h1;omega
theorem bZ {a b:Nat} (h:a≤b):(aJ a).length≤(aJ b).length:=cr (Nat.lt_of_le_of_lt h (cW b))
def cU (a b:Int):Int:=if a<b then -1 else if b<a then 1 else 0
def mp (a b:Nat):Int:=if a<b then -1 else if b<a then 1 else 0
theorem d4 {l:List Nat} {k v q:Nat} (h:k<l.length):(l.set k v).getD q 0=if q=k then v else l.getD q 0:=by
 simp only [List.getD,List.getElem?_set]
 by_cases e:k=q
 ·subst e;simp [h]
 ·rw [if_neg e,if_neg (fun h=>e h.symm)]
theorem fF {l:List Nat} : ∀ {k v:Nat},k<l.length→lv (l.set k v)+4294967296^k*l.getD k 0=lv l+4294967296^k*v:=by
 induction l with
 | nil => intro k v h; simp at h
 | cons d l ih =>
  intro k v h
  cases k with
  | zero => simp [lv]; omega
  | succ k =>
   have:=ih (k:=k) (v:=v) (by simpa using h)
   simp only [List.set_cons_succ,lv,List.getD_cons_succ,Nat.pow_succ]
   have e1:4294967296^k*4294967296*l.getD k 0=4294967296*(4294967296^k*l.getD k 0):=by rw [Nat.mul_comm (4294967296^k),Nat.mul_assoc]
   have e2:4294967296^k*4294967296*v=4294967296*(4294967296^k*v):=by rw [Nat.mul_comm (4294967296^k),Nat.mul_assoc]
   rw [e1,e2]; omega
theorem bE.set {l:List Nat} (h:bE l) {k v:Nat} (hv:v<4294967296):bE (l.set k v):=fun d hd=>by
 rcases List.mem_or_eq_of_mem_set hd with h' | h'
 ·exact h d h'
 ·omega
theorem lG {a b c d:Nat} (ha:a<4294967296) (hb:b<4294967296) (hc:c<4294967296) (hd:d<4294967296):d+(a*b+c)<18446744073709551616∧a*b<18446744073709551616∧a*b+c<18446744073709551616:=by
 have:a*b≤4294967295*4294967295:=Nat.mul_le_mul Z Z
 omega
end Tor
end
section
namespace Tor
open Go Go.RowKit Go.Proofs
abbrev co (l:List Nat):VT:=slT .one l.length (fun i=>one (.int .u32 (l.getD i 0)))
def lH (v:Nat):VT:=exT fun l:List Nat=>cd (bE l∧lv l=v) (co l)
def o7 (v:Nat):VT:=exT fun l:List Nat=>cd (bE l∧lv l=v∧l.length≤4398046511104) (co l)
def aL (x:Int):VT:=bC 2 [(0, .one,one (.bool (decide (x<0)))),(1, .one,co (aJ x.natAbs))]
instance {x:Int} : Flat (aL x) (.agg 2):=by unfold aL;infer_instance
theorem iq {l:List Nat} {v:Nat} (h:bE l) (hv:lv l=v) (hl:l.length≤4398046511104):VT.le (co l) (o7 v):=nK l (kZ ⟨h,hv,hl⟩ H)
theorem fj {l:List Nat} {v:Nat} (h:bE l) (hv:lv l=v):VT.le (co l) (lH v):=nK l (kZ ⟨h,hv⟩ H)
theorem cA (n:Nat):VT.le (co (aJ n)) (lH n):=fj (a5 n) (bX n)
theorem lI {l l':List Nat} (h:l=l'):VT.le (co l) (co l'):=h▸VT.le_refl _
theorem Az {neg:Bool} {v:Nat} (h:v≠0):VT.le (bC 2 [(0, .one,one (.bool neg)),(1, .one,co (aJ v))]) (aL (if neg then -(v:Int) else v)):=by
 refine eO (fun q hq => ?_)
 simp only [List.mem_cons,List.not_mem_nil,or_false] at hq
 rcases hq with rfl | rfl
 ·have e:decide ((if neg then -(v:Int) else v)<0)=neg:=by cases neg <;> simp <;> omega
  exact ⟨_,List.mem_cons_self,gE (by rw [e])⟩
 ·refine ⟨_,List.mem_cons_of_mem _ List.mem_cons_self,lI ?_⟩
  cases neg <;> simp
theorem iK:VT.le (bC 2 [(0, .one,one (.bool false)),(1, .one,one (.slice none 0 0))]) (aL 0):=by
 refine eO (fun q hq => ?_)
 simp only [List.mem_cons,List.not_mem_nil,or_false] at hq
 rcases hq with rfl | rfl
 ·exact ⟨_,List.mem_cons_self,gE (by simp)⟩
 ·exact ⟨_,List.mem_cons_of_mem _ List.mem_cons_self,eQ⟩
theorem cf {x y:Int} (h:x=y):VT.le (aL x) (aL y):=h▸VT.le_refl _
attribute [local irreducible] Tor.J Tor.PJ Tor.aK Tor.one Tor.slT Tor.bO Tor.bC Tor.bv Tor.exT Tor.cd Tor.eP Tor.aR Tor.aI Tor.slV Tor.VT.le Tor.Ret Tor.bJ
theorem cX (v:Nat):Ok Tryz.prog 81 [lH v] (co (aJ v)):=by
 refine Ok.enter Tryz.func81 Y Tryz.ntmps81 Y (fun w O => ?_)
 refine v6 (t:=0) Y (fun l=>pu (t:=0) Y (fun ⟨hL,hv⟩=>iA (t:=0) Y (fun _ _=>eC) (fun hb => ?_)))
 subst hv
 refine ae (ai (st (ah Y) Y (Run.nil (aa (ig (ae (ai (st (ab Y) Y (st (aU Y) Y ?_)))))))))
 refine st (ah Y) Y (Run.nil (aa (ae (jU (aa (ae (au ?_)))))))
 refine cC (σ:=Nat) (fun n => [(0,co l),(3,one (.int .i64 n))]) (fun _ => []) (fun n=>n≤l.length∧gP l n=gP l l.length) (fun n=>n) l.length ⟨Nat.le_refl _,rfl⟩ DS (SubM.refl _) (fun n ⟨hn,ht⟩ => ?_)
 have hd:=n8 hL
 refine ae (ae (ai (st (ab Y) Y (st (c7 Y Y) Y (Run.nil (aa ?_))))))
 refine a8 Y (fun hc => ?_) (fun hc => ?_) <;> simp at hc
 ·obtain ⟨n,rfl⟩ : ∃ m,n=m+1:=⟨n - 1,by omega⟩
  refine az (aa (au (ae (ai (st (ab Y) Y (st (ab Y) Y ?_))))))
  (refine st (ei Y Y (aP ?_ ?_)) Y ?_;omega;omega)
  (refine st (fP Y Y ?_ ?_) Y ?_;omega;omega)
  refine st (aM Y) Y (Run.nil (aa (au (ae (ai (st (ci Y Y) Y (st (ah Y) Y (Run.nil (aa ?_)))))))))
  refine a8 Y (fun hc => ?_) (fun hc => ?_) <;> simp at hc
  ·refine ai (st (ab Y) Y ?_)
   (refine st (ei Y Y (aP ?_ ?_)) Y ?_;omega;omega)
   refine st (ah Y) Y (Run.nil (aD (aD ?_)))
   have h0:l.getD n 0=0:=by simpa using hc
   refine bU n ⟨by omega,by rw [← ht,gP,if_pos h0]⟩ Z DS (SubM.refl _)
  ·refine aX (c6 Y (c6 Y (av (aF (aa (ae (ai (st (ab Y) Y (st (ab Y) Y ?_)))))))))
   refine st (ab Y) Y ?_
   (refine st (gi Y Y Y Y (fun _=>rfl) ?_ ?_ ?_ ?_) Y ?_;omega;omega;omega;omega)
   refine st (ah Y) Y (Run.nil (aa (aE (ee ?_))))
   have h0 : ¬ l.getD n 0=0:=by simpa using hc
   rw [← ht,gP,if_neg h0] at hd
   refine aT Tryz.results81 (.tmp Y (VT.le_trans (cE ?_ ?_) (lI hd)))
   ·simp;omega
   ·intro i hi;simp at hi ⊢; rw [List.getElem?_take_of_lt Z]
 ·subst hc
  refine aX (av (av (aF (aa (ae (ai (st (ab Y) Y (st (ab Y) Y (st (ab Y) Y ?_)))))))))
  (refine st (gi Y Y Y Y (fun _=>rfl) ?_ ?_ ?_ ?_) Y ?_;omega;omega;omega;omega)
  refine st (ah Y) Y (Run.nil (aa (aE (ee ?_))))
  rw [← ht,gP] at hd
  refine aT Tryz.results81 (.tmp Y (VT.le_trans (cE ?_ ?_) (lI hd)))
  ·simp
  ·intro i hi;simp at hi
end Tor
end
section
namespace Tor
open Go Go.RowKit Go.Proofs
attribute [local irreducible] Tor.J Tor.PJ Tor.aK Tor.one Tor.slT Tor.bO Tor.bC Tor.bv Tor.exT Tor.cd Tor.eP Tor.aR Tor.aI Tor.slV Tor.VT.le Tor.Ret Tor.bJ
theorem dC (neg:Bool) (v:Nat):Ok Tryz.prog 86 [one (.bool neg),lH v] (aL (if neg then -(v:Int) else v)):=by
 refine Ok.enter Tryz.func86 Y Tryz.ntmps86 Y (fun w O => ?_)
 refine ae (ai ?_)
 refine aG (T:=37) Y (ltN Y) (fun b => ?_)
 refine Run.nil (aa (ae (ai (st (ab Y) Y ?_))))
 refine st (am (cX _) Y ⟨VT.le_refl _,trivial⟩) Y ?_
 refine st (ah Y) Y (Run.nil (aa (ae (ae (ai (st (ab Y) Y (st (aU Y) Y (st (ci Y Y) Y (Run.nil ?_)))))))))
 refine aa ?_
 refine a8 Y (fun hc => ?_) (fun hc => ?_) <;> simp at hc
 ·have hv:v=0:=by rw [← bX v,hc]; rfl
  subst hv
  refine ae (ai (stB Y Y Y (BuildK.nil (aA 0 Y Y Y Y Y (leN Y) Y (Run.nil (aa (aE (aW ?_))))))))
  exact aT Tryz.results86 (.cellB 0 Y Y Y (VT.le_trans iK (cf (by simp))))
 ·have hv:v≠0:=by intro e;subst e;exact hc Y
  refine az (aa (ae (ai (st (ab Y) Y (st (ab Y) Y (stB Y Y Y (BuildK.cons Y Y Y (BuildK.cons Y Y Y (BuildK.nil ?_)))))))))
  refine aA 0 Y Y Y Y Y (leN Y) Y (Run.nil (aa (aE ?_)))
  exact aT Tryz.results86 (.cellB 0 Y Y Y (Az hv))
structure PlusR (lx ly:List Nat) (zl:List Nat) (c:Nat):Prop where
 len:zl.length≤lx.length
 lim:bE zl
 c1:c≤1
 val:lv zl+4294967296^zl.length*c=lv (lx.take zl.length)+lv (ly.take zl.length)
theorem PlusR.step {lx ly zl:List Nat} {c:Nat} (h:PlusR lx ly zl c) (hx:bE lx) (hy:bE ly) (hl:ly.length≤lx.length) (hlt:zl.length<lx.length) :
  PlusR lx ly (zl ++ [(c+lx.getD zl.length 0+ly.getD zl.length 0) % 4294967296]) ((c+lx.getD zl.length 0+ly.getD zl.length 0) / 4294967296):=by
 have h1:=a9 hx zl.length
 have h2:=a9 hy zl.length
 have h3:=h.c1
 refine ⟨by simp;omega,fun d hd => ?_,by omega,?_⟩
 ·rcases List.mem_append.1 hd with hd | hd
  ·exact h.lim d hd
  ·simp at hd;omega
 ·have hy2:lv (ly.take (zl.length+1))=lv (ly.take zl.length)+4294967296^zl.length*ly.getD zl.length 0:=by
   by_cases hk:zl.length<ly.length
   ·exact bL hk
   ·rw [List.take_of_length_le Z,List.take_of_length_le Z]; simp [List.getElem?_eq_none (Nat.le_of_not_lt hk)]
  simp only [List.length_append,List.length_cons,List.length_nil,Nat.zero_add]
  rw [fD,bL hlt,hy2,Nat.pow_succ]
  have hv:=h.val
  generalize lx.getD zl.length 0=x at *
  generalize ly.getD zl.length 0=y at *
  generalize 4294967296^zl.length=B at *
  have e:(c+x+y)=4294967296*((c+x+y) / 4294967296)+(c+x+y) % 4294967296:=by omega
  generalize (c+x+y) / 4294967296=q at *
  generalize (c+x+y) % 4294967296=r at *
  simp only [lv,Nat.mul_zero,Nat.add_zero]
  have e2:B*(c+x+y)=B*(4294967296*q+r):=by rw [e]
  simp only [Nat.mul_add,Nat.mul_assoc] at e2 ⊢
  omega
theorem u7 (a b:Nat) (ha:(aJ a).length≤1099511627776) (hb:(aJ b).length≤1099511627776):Ok Tryz.prog 97 [co (aJ a),co (aJ b)] (lH (a+b)):=by
 refine Ok.enter Tryz.func97 Y Tryz.ntmps97 Y (fun w O => ?_)
 refine ae (ai (st (ah Y) Y (Run.nil (aa (ae (ae (ai (st (ab Y) Y (st (aU Y) Y ?_)))))))))
 refine st (ab Y) Y (st (aU Y) Y (st (a7 Y Y) Y (Run.nil (aa ?_))))
 refine fA (σ:=List Nat × List Nat) (fun s => [(0,co s.1),(1,co s.2)]) (fun _ => []) (fun s=>bE s.1∧bE s.2∧s.2.length≤s.1.length∧s.1.length≤1099511627776∧lv s.1+lv s.2=a+b) ?_ (fun s ⟨hx,hy,hl,hs,hv⟩ => ?_)
 ·refine a8 Y (fun hc => ?_) (fun hc => ?_) <;> simp at hc
  ·refine ai (st (ab Y) Y (st (ab Y) Y (st (ah Y) Y (st (ah Y) Y (Run.nil ?_)))))
   exact cT (aJ b,aJ a) ⟨a5 _,a5 _,Nat.le_of_lt hc,hb,by simp only [bX]; omega⟩ DS (SubM.refl _)
  ·refine az ?_
   exact cT (aJ a,aJ b) ⟨a5 _,a5 _,hc,ha,by simp only [bX]⟩ DS (SubM.refl _)
 ·obtain ⟨lx,ly⟩:=s
  simp only at hx hy hl hs hv ⊢
  refine aa (ae (ai (st (ab Y) Y (st (aU Y) Y ?_))))
  (refine st (cp Y Y (aP ?_ ?_)) Y ?_;omega;omega)
  refine bV (lx.length+1) (lx.length+1) Y Y (by simp) (by simp) (Nat.le_refl _) Y Y Z Y Y (fun bz => ?_)
  refine st (ah Y) Y (Run.nil (aa (ae (ai (st (ah Y) Y (Run.nil (aa (ae (ae ?_)))))))))
  refine ai (st (ab Y) Y (st (aU Y) Y (st (ab Y) Y (Run.nil (aa (au ?_))))))
  refine cC (σ:=List Nat × Nat) (fun s => [(0,co lx),(1,co ly),(5,one (slV (some bz) (lx.length+1) (lx.length+1))),(6,one (.int .u64 (s.2:Nat))),(20,one (.int .i64 lx.length)),(21,one (.int .i64 s.1.length))])
   (fun s => [aI (some bz) 86 .one (lx.length+1) (lx.length+1) (fun q=>one (.int .u32 (s.1.getD q 0:Nat)))]) (fun s=>PlusR lx ly s.1 s.2) (fun s=>lx.length - s.1.length) ([],0)
   ⟨by simp,(fun d hd=>by cases hd),by decide,by simp [lv]⟩ DS (.keep (be (by simp)) .nil) (fun s hR => ?_)
  obtain ⟨zl,c⟩:=s
  simp only at hR ⊢
  refine ae (ai (st (a7 Y Y) Y (Run.nil (aa (ae ?_)))))
  refine a8 Y (fun hc => ?_) (fun hc => ?_) <;> simp at hc
  ·have h1:=a9 hx zl.length
   have h2:=a9 hy zl.length
   have h3:=hR.c1
   refine az (aa (ae (au (ae (ai (st (ab Y) Y (st (ah Y) Y (Run.nil (aa ?_)))))))))
   refine ae (ai (st (ab Y) Y (st (ab Y) Y (st (ab Y) Y ?_))))
   (refine st (aC Y Y ?_) Y ?_;omega)
   refine st (aM Y) Y ?_
   (refine st (bT Y ?_) Y ?_;omega)
   (refine st (dT Y Y ?_) Y ?_;omega)
   refine st (ah Y) Y (Run.nil (aa (ae (ae (ai (st (ab Y) Y (st (ab Y) Y (st (aU Y) Y (st (a7 Y Y) Y ?_)))))))))
   refine Run.nil (aa ?_)
   refine fA (σ:=Unit) (fun _ => [(0,co lx),(1,co ly),(5,one (slV (some bz) (lx.length+1) (lx.length+1))),(6,one (.int .u64 ((c+lx.getD zl.length 0+ly.getD zl.length 0:Nat):Int))),(7,one (.int .i64 zl.length)),(20,one (.int .i64 lx.length)),(21,one (.int .i64 zl.length))])
    (fun _ => [aI (some bz) 86 .one (lx.length+1) (lx.length+1) (fun q=>one (.int .u32 (zl.getD q 0:Nat)))]) (fun _=>True) ?_ (fun _ _ => ?_)
   ·refine a8 Y (fun hc => ?_) (fun hc => ?_) <;> simp at hc
    ·refine ai (st (ab Y) Y (st (ab Y) Y (st (ab Y) Y ?_)))
     (refine st (aC Y Y ?_) Y ?_;omega)
     refine st (aM Y) Y ?_
     (refine st (bT Y ?_) Y ?_;omega)
     (refine st (dT Y Y ?_) Y ?_;omega)
     refine st (ah Y) Y (Run.nil ?_)
     exact cT () trivial DS (SubM.refl _)
    ·have e0:ly.getD zl.length 0=0:=by simp [List.getElem?_eq_none hc]
     refine az ?_
     exact cT () trivial DS (SubM.refl _)
   ·refine aa (ae (ai (st (ab Y) Y (st (ab Y) Y (st (ab Y) Y (st (cG Y) Y ?_))))))
    (refine st (ao Y Y ?_) Y ?_;omega)
    (refine aw 0 Y Y Y ?_ Y ?_;omega)
    refine Run.nil (aa (ai (st (ab Y) Y (st (gk Y) Y (st (ah Y) Y (Run.nil (aD (aa (ai ?_)))))))))
    (refine st (cp Y Y (aP ?_ ?_)) Y ?_;omega;omega)
    refine st (ab Y) Y (Run.nil ?_)
    have hstep:=hR.step hx hy hl hc
    refine bU (s:=(zl,c)) (zl ++ [(c+lx.getD zl.length 0+ly.getD zl.length 0) % 4294967296],(c+lx.getD zl.length 0+ly.getD zl.length 0) / 4294967296) hstep (by simp;omega) DS (.keep (be (fun q hq => ?_)) .nil)
    unfold upd;rw [j5]; split <;> rfl
  ·have hlen:zl.length=lx.length:=by have:=hR.len;omega
   refine aX (av (av (aF (aa (ae (ai (st (ab Y) Y (st (ab Y) Y (st (aU Y) Y ?_)))))))))
   refine st (ab Y) Y (st (cG Y) Y ?_)
   (refine st (ao Y Y ?_) Y ?_;omega)
   (refine aw 0 Y Y Y ?_ Y ?_;omega)
   refine Run.nil (aa (ae (ai (st (ab Y) Y (st (ah Y) Y (Run.nil (aa (aE (cq (t:=4) (i:=0) Y Y ?_)))))))))
   refine aT Tryz.results97 (.tmp Y (VT.le_trans (cE (m:=(zl ++ [c]).length) (ψ:=fun i=>one (.int .u32 ((zl ++ [c]).getD i 0:Nat))) (by simp [hlen]) (fun q hq => ?_)) (fj (l:=zl ++ [c]) ?_ ?_)))
   ·have h3:=hR.c1
    unfold upd;rw [j5,hlen]
    split
    ·rw [Nat.mod_eq_of_lt Z]
    ·rfl
   ·intro d hd
    have h3:=hR.c1
    rcases List.mem_append.1 hd with hd | hd
    ·exact hR.lim d hd
    ·simp at hd;omega
   ·have h4:=hR.val
    rw [hlen,List.take_length,List.take_of_length_le Z] at h4
    rw [fD,hlen]; simp only [lv,Nat.mul_zero,Nat.add_zero]; omega
end Tor
end
section
namespace Tor
open Go Go.RowKit Go.Proofs
attribute [local irreducible] Tor.J Tor.PJ Tor.aK Tor.one Tor.slT Tor.bO Tor.bC Tor.bv Tor.exT Tor.cd Tor.eP Tor.aR Tor.aI Tor.slV Tor.VT.le Tor.Ret Tor.bJ
theorem pK (a:Int):Ok Tryz.prog 146 [one (.int .i64 a)] (one (.bool false)):=by
 refine Ok.enter Tryz.func146 Y Tryz.ntmps146 Y (fun w O => ?_)
 refine ae (ai (st (ah Y) Y (Run.nil (aa (ae (ai (st (ab Y) Y (st (ab Y) Y (st (di Y Y) Y ?_)))))))))
 refine st (ah Y) Y (Run.nil (aa (aE ?_)))
 exact aT Tryz.results146 (.tmp Y (ar (by simp)))
theorem pL (a:Int):Ok Tryz.prog 167 [one (.int .u32 a)] (one (.bool false)):=by
 refine Ok.enter Tryz.func167 Y Tryz.ntmps167 Y (fun w O => ?_)
 refine ae (ai (st (ah Y) Y (Run.nil (aa (ae (ai (st (ab Y) Y (st (ab Y) Y (st (di Y Y) Y ?_)))))))))
 refine st (ah Y) Y (Run.nil (aa (aE ?_)))
 exact aT Tryz.results167 (.tmp Y (ar (by simp)))
theorem jD (a b:Int):Ok Tryz.prog 100 [one (.int .i64 a),one (.int .i64 b)] (one (.int .i64 (cU a b))):=by
 refine Ok.enter Tryz.func100 Y Tryz.ntmps100 Y (fun w O => ?_)
 refine ae (ai (st (ah Y) Y (Run.nil (aa (ae (ai (st (ab Y) Y ?_)))))))
 refine st (am (pK _) Y ⟨VT.le_refl _,trivial⟩) Y ?_
 refine st (ah Y) Y (Run.nil (aa (ae (ai (st (ab Y) Y ?_)))))
 refine st (am (pK _) Y ⟨VT.le_refl _,trivial⟩) Y ?_
 refine st (ah Y) Y (Run.nil (aa (ae (ae (ai (st (ab Y) Y (Run.nil (aa ?_))))))))
 refine a8 Y (fun hc=>by cases hc) (fun hc => ?_)
 refine az (aa (ae (ae (ai (st (ab Y) Y (Run.nil (aa ?_)))))))
 refine a8 Y (fun hc=>by cases hc) (fun hc => ?_)
 refine az (aa (ae (ae (ai (st (ab Y) Y (st (ab Y) Y (st (a7 Y Y) Y (Run.nil (aa ?_)))))))))
 refine a8 Y (fun hc => ?_) (fun hc => ?_) <;> simp at hc
 ·refine ae (ai (st (ah Y) Y (Run.nil (aa (aE (aW ?_))))))
  exact aT Tryz.results100 (.tmp Y (ar (by rw [cU,if_pos hc])))
 ·refine az (aa (ae (ae (ai (st (ab Y) Y (st (ab Y) Y (st (c7 Y Y) Y (Run.nil (aa ?_)))))))))
  refine a8 Y (fun hc2 => ?_) (fun hc2 => ?_) <;> simp at hc2
  ·refine ae (ai (st (ah Y) Y (Run.nil (aa (aE (aW ?_))))))
   exact aT Tryz.results100 (.tmp Y (ar (by rw [cU,if_neg Z,if_pos hc2])))
  ·refine az (aa (ae (ai (st (ah Y) Y (Run.nil (aa (aE ?_)))))))
   exact aT Tryz.results100 (.tmp Y (ar (by rw [cU,if_neg Z,if_neg Z])))
theorem n9 (a b:Int):Ok Tryz.prog 145 [one (.int .u32 a),one (.int .u32 b)] (one (.int .i64 (cU a b))):=by
 refine Ok.enter Tryz.func145 Y Tryz.ntmps145 Y (fun w O => ?_)
 refine ae (ai (st (ah Y) Y (Run.nil (aa (ae (ai (st (ab Y) Y ?_)))))))
 refine st (am (pL _) Y ⟨VT.le_refl _,trivial⟩) Y ?_
 refine st (ah Y) Y (Run.nil (aa (ae (ai (st (ab Y) Y ?_)))))
 refine st (am (pL _) Y ⟨VT.le_refl _,trivial⟩) Y ?_
 refine st (ah Y) Y (Run.nil (aa (ae (ae (ai (st (ab Y) Y (Run.nil (aa ?_))))))))
 refine a8 Y (fun hc=>by cases hc) (fun hc => ?_)
 refine az (aa (ae (ae (ai (st (ab Y) Y (Run.nil (aa ?_)))))))
 refine a8 Y (fun hc=>by cases hc) (fun hc => ?_)
 refine az (aa (ae (ae (ai (st (ab Y) Y (st (ab Y) Y (st (a7 Y Y) Y (Run.nil (aa ?_)))))))))
 refine a8 Y (fun hc => ?_) (fun hc => ?_) <;> simp at hc
 ·refine ae (ai (st (ah Y) Y (Run.nil (aa (aE (aW ?_))))))
  exact aT Tryz.results145 (.tmp Y (ar (by rw [cU,if_pos hc])))
 ·refine az (aa (ae (ae (ai (st (ab Y) Y (st (ab Y) Y (st (c7 Y Y) Y (Run.nil (aa ?_)))))))))
  refine a8 Y (fun hc2 => ?_) (fun hc2 => ?_) <;> simp at hc2
  ·refine ae (ai (st (ah Y) Y (Run.nil (aa (aE (aW ?_))))))
   exact aT Tryz.results145 (.tmp Y (ar (by rw [cU,if_neg Z,if_pos hc2])))
  ·refine az (aa (ae (ai (st (ah Y) Y (Run.nil (aa (aE ?_)))))))
   exact aT Tryz.results145 (.tmp Y (ar (by rw [cU,if_neg Z,if_neg Z])))
theorem kF (a b:Nat):Ok Tryz.prog 98 [co (aJ a),co (aJ b)] (one (.int .i64 (mp a b))):=by
 refine Ok.enter Tryz.func98 Y Tryz.ntmps98 Y (fun w O => ?_)
 refine iA (t:=0) Y (fun _ _=>eC) (fun hb => ?_)
 refine ae (ai (st (ah Y) Y (Run.nil (aa (ae (ae (ai (st (ab Y) Y (st (aU Y) Y ?_)))))))))
 refine st (ab Y) Y (st (aU Y) Y ?_)
 refine st (am (jD _ _) Y ⟨VT.le_refl _,VT.le_refl _,trivial⟩) Y ?_
 refine st (ah Y) Y (Run.nil (aa (ae (ai (st (ab Y) Y (st (di Y Y) Y (Run.nil (aa ?_))))))))
 refine a8 Y (fun hc => ?_) (fun hc => ?_) <;> simp at hc
 ·refine ae (ai (st (ab Y) Y (st (ah Y) Y (Run.nil (aa (aE (aW ?_)))))))
  refine aT Tryz.results98 (.tmp Y (ar ?_))
  unfold cU at hc ⊢
  unfold mp
  congr 1
  by_cases h1:(aJ a).length<(aJ b).length
  ·have:=iF h1
   rw [if_pos Z,if_pos this]
  ·by_cases h2:(aJ b).length<(aJ a).length
   ·have:=iF h2
    rw [if_neg Z,if_pos Z,if_neg Z,if_pos this]
   ·rw [if_neg Z,if_neg Z] at hc;exact absurd Y hc
 ·have hlen:(aJ a).length=(aJ b).length:=by
   unfold cU at hc
   split at hc
   ·cases hc
   ·split at hc
    ·cases hc
    ·omega
  refine az (aa (ae (ae (ai (st (ab Y) Y (st (aU Y) Y ?_))))))
  (refine st (ei Y Y (aP ?_ ?_)) Y ?_;omega;omega)
  refine st (ah Y) Y (Run.nil (aa (au ?_)))
  refine cC (σ:=Nat) (fun n => [(0,co (aJ a)),(1,co (aJ b)),(6,one (.int .i64 ((n:Int) - 1)))]) (fun _ => []) (fun n=>n≤(aJ a).length∧(aJ a).drop n=(aJ b).drop n) (fun n=>n) (aJ a).length
   ⟨Nat.le_refl _,by rw [List.drop_length,hlen,List.drop_length]⟩ DS (SubM.refl _) (fun n ⟨hn,hd⟩ => ?_)
  refine ae (ae (ai (st (ab Y) Y (st (fx Y Y) Y (Run.nil (aa ?_))))))
  refine a8 Y (fun hc2 => ?_) (fun hc2 => ?_) <;> simp at hc2
  ·obtain ⟨n,rfl⟩ : ∃ m,n=m+1:=⟨n - 1,by omega⟩
   have e:((n+1:Nat):Int) - 1=n:=by omega
   rw [e]
   refine az (aa (ae (au (ae (a6 10 aZ X S (st (ab Y) Y (st (ab Y) Y ?_)))))))
   (refine st (aC Y Y ?_) Y ?_;omega)
   refine st (aM Y) Y (st (ab Y) Y (st (ab Y) Y ?_))
   (refine st (aC Y Y ?_) Y ?_;omega)
   refine st (aM Y) Y ?_
   refine st (am (n9 _ _) Y ⟨VT.le_refl _,VT.le_refl _,trivial⟩) Y ?_
   refine st (ah Y) Y (Run.nil (Run.nil (aa (ae (ai (st (ab Y) Y (st (di Y Y) Y (Run.nil (aa ?_)))))))))
   refine a8 Y (fun hc3 => ?_) (fun hc3 => ?_) <;> simp only [decide_eq_true_eq,decide_eq_false_iff_not,ne_eq,Decidable.not_not] at hc3
   ·refine ae (ai (st (ab Y) Y (st (ah Y) Y (Run.nil (aa (aE (bN (aW (aW ?_)))))))))
    refine bN (aW ?_)
    refine aT Tryz.results98 (.tmp Y (ar ?_))
    congr 1
    unfold cU at hc3 ⊢
    unfold mp
    by_cases h1:(aJ a).getD n 0<(aJ b).getD n 0
    ·have:=qQ (a5 a) (a5 b) hlen (i:=n) Z hd h1
     rw [bX,bX] at this
     rw [if_pos Z,if_pos this]
    ·by_cases h2:(aJ b).getD n 0<(aJ a).getD n 0
     ·have:=qQ (a5 b) (a5 a) hlen.symm (i:=n) Z hd.symm h2
      rw [bX,bX] at this
      rw [if_neg Z,if_pos Z,if_neg Z,if_pos this]
     ·rw [if_neg Z,if_neg Z] at hc3;exact absurd Y hc3
   ·refine az (aD (aa (ai (st (ab Y) Y ?_))))
    (refine st (ei Y Y (aP ?_ ?_)) Y ?_;omega;omega)
    refine st (ah Y) Y (Run.nil ?_)
    refine bU (s:=n+1) n ⟨by omega,?_⟩ Z DS (SubM.refl _)
    have h3:(aJ a).getD n 0=(aJ b).getD n 0:=by
     unfold cU at hc3
     split at hc3
     ·cases hc3
     ·split at hc3
      ·cases hc3
      ·omega
    have e1:=fE (l:=aJ a) (k:=n) Z
    have e2:=fE (l:=aJ b) (k:=n) Z
    rw [e1,e2,h3,hd]
  ·refine aX (av (av (aF (aa (ae (ai (st (ah Y) Y (Run.nil (aa ?_)))))))))
   refine aE ?_
   have h0:n=0:=by omega
   subst h0
   have h4:a=b:=sc (by simpa using hd)
   exact aT Tryz.results98 (.tmp Y (ar (by subst h4;simp [mp])))
end Tor
end
section
namespace Tor
open Go Go.RowKit Go.Proofs
attribute [local irreducible] Tor.J Tor.PJ Tor.aK Tor.one Tor.slT Tor.bO Tor.bC Tor.bv Tor.exT Tor.cd Tor.eP Tor.aR Tor.aI Tor.slV Tor.VT.le Tor.Ret Tor.bJ
structure MinusR (lx ly:List Nat) (zl:List Nat) (c:Nat):Prop where
 len:zl.length≤lx.length
 lim:bE zl
 c1:c≤1
 val:lv zl+lv (ly.take zl.length)=lv (lx.take zl.length)+4294967296^zl.length*c
theorem se {x y c d:Nat} (hx:x<4294967296) (hy:y<4294967296) (hc:c≤1) (hd:d=((x+18446744073709551616 - c) % 18446744073709551616+18446744073709551616 - y) % 18446744073709551616) :
  d % 4294967296+y+c=x+4294967296*(d / 9223372036854775808)∧d / 9223372036854775808≤1:=by
 rcases Nat.lt_or_ge x (y+c) with h | h
 ·have h1:d=x+18446744073709551616 - (y+c):=by omega
  omega
 ·have h1:d=x - (y+c):=by omega
  omega
theorem MinusR.step {lx ly zl:List Nat} {c d:Nat} (h:MinusR lx ly zl c) (hx:bE lx) (hy:bE ly) (hl:ly.length≤lx.length) (hlt:zl.length<lx.length)
  (hd:d=((lx.getD zl.length 0+18446744073709551616 - c) % 18446744073709551616+18446744073709551616 - ly.getD zl.length 0) % 18446744073709551616) :
  MinusR lx ly (zl ++ [d % 4294967296]) (d / 9223372036854775808):=by
 obtain ⟨h1,h2⟩:=se (a9 hx zl.length) (a9 hy zl.length) h.c1 hd
 refine ⟨by simp;omega,fun e he => ?_,h2,?_⟩
 ·rcases List.mem_append.1 he with he | he
  ·exact h.lim e he
  ·simp at he;omega
 ·have hy2:lv (ly.take (zl.length+1))=lv (ly.take zl.length)+4294967296^zl.length*ly.getD zl.length 0:=by
   by_cases hk:zl.length<ly.length
   ·exact bL hk
   ·rw [List.take_of_length_le Z,List.take_of_length_le Z]; simp [List.getElem?_eq_none (Nat.le_of_not_lt hk)]
  simp only [List.length_append,List.length_cons,List.length_nil,Nat.zero_add]
  rw [fD,bL hlt,hy2,Nat.pow_succ]
  have hv:=h.val
  clear hd
  generalize lx.getD zl.length 0=x at *
  generalize ly.getD zl.length 0=y at *
  generalize 4294967296^zl.length=B at *
  generalize d % 4294967296=r at *
  generalize d / 9223372036854775808=q at *
  simp only [lv,Nat.mul_zero,Nat.add_zero]
  have e2:B*(r+y+c)=B*(x+4294967296*q):=by rw [h1]
  simp only [Nat.mul_add,Nat.mul_assoc] at e2 ⊢
  omega
theorem oa (a b:Nat) (hab:b≤a) (ha:(aJ a).length≤1099511627776):Ok Tryz.prog 99 [co (aJ a),co (aJ b)] (lH (a - b)):=by
 refine Ok.enter Tryz.func99 Y Tryz.ntmps99 Y (fun w O => ?_)
 have hx:=a5 a
 have hy:=a5 b
 have hl:=bZ hab
 have hva:=bX a
 have hvb:=bX b
 generalize aJ a=lx at *
 generalize aJ b=ly at *
 refine ae (ai (st (ah Y) Y (Run.nil (aa (ae (ai (st (ab Y) Y (st (aU Y) Y ?_))))))))
 refine bV lx.length lx.length Y Y Y Y (Nat.le_refl _) Y Y Z Y Y (fun bz => ?_)
 refine st (ah Y) Y (Run.nil (aa (ae (ai (st (ah Y) Y (Run.nil (aa (ae (ae ?_)))))))))
 refine ai (st (ab Y) Y (st (aU Y) Y (st (ab Y) Y (Run.nil (aa (au ?_))))))
 refine cC (σ:=List Nat × Nat) (fun s => [(0,co lx),(1,co ly),(5,one (slV (some bz) lx.length lx.length)),(6,one (.int .u64 (s.2:Nat))),(13,one (.int .i64 lx.length)),(14,one (.int .i64 s.1.length))])
   (fun s => [aI (some bz) 86 .one lx.length lx.length (fun q=>one (.int .u32 (s.1.getD q 0:Nat)))]) (fun s=>MinusR lx ly s.1 s.2) (fun s=>lx.length - s.1.length) ([],0)
   ⟨by simp,(fun d hd=>by cases hd),by decide,by simp [lv]⟩ DS (.keep (be (by simp)) .nil) (fun s hR => ?_)
 obtain ⟨zl,c⟩:=s
 simp only at hR ⊢
 refine ae (ai (st (a7 Y Y) Y (Run.nil (aa (ae ?_)))))
 refine a8 Y (fun hc => ?_) (fun hc => ?_) <;> simp at hc
 ·have h1:=a9 hx zl.length
  have h2:=a9 hy zl.length
  have h3:=hR.c1
  refine az (aa (ae (au (ae (ai (st (ab Y) Y (st (ah Y) Y (Run.nil (aa ?_)))))))))
  refine ae (ai (st (ab Y) Y (st (ab Y) Y ?_)))
  (refine st (aC Y Y ?_) Y ?_;omega)
  refine st (aM Y) Y ?_
  (refine st (bT Y ?_) Y ?_;omega)
  refine st (ab Y) Y ?_
  (refine st (fb Y Y ?_ ?_) Y ?_;omega;omega)
  refine st (ah Y) Y (Run.nil (aa (ae (ae (ai (st (ab Y) Y (st (ab Y) Y (st (aU Y) Y (st (a7 Y Y) Y ?_)))))))))
  refine Run.nil (aa ?_)
  generalize hD:((lx.getD zl.length 0+18446744073709551616 - c) % 18446744073709551616+18446744073709551616 - ly.getD zl.length 0) % 18446744073709551616=d
  refine fA (σ:=Unit) (fun _ => [(0,co lx),(1,co ly),(5,one (slV (some bz) lx.length lx.length)),(8,one (.int .u64 (d:Nat))),(7,one (.int .i64 zl.length)),(13,one (.int .i64 lx.length)),(14,one (.int .i64 zl.length))])
    (fun _ => [aI (some bz) 86 .one lx.length lx.length (fun q=>one (.int .u32 (zl.getD q 0:Nat)))]) (fun _=>True) ?_ (fun _ _ => ?_)
  ·refine a8 Y (fun hc => ?_) (fun hc => ?_) <;> simp at hc
   ·refine ai (st (ab Y) Y (st (ab Y) Y (st (ab Y) Y ?_)))
    (refine st (aC Y Y ?_) Y ?_;omega)
    refine st (aM Y) Y ?_
    (refine st (bT Y ?_) Y ?_;omega)
    (refine st (fb Y Y ?_ ?_) Y ?_;omega;omega)
    refine st (ah Y) Y (Run.nil ?_)
    exact cT () trivial DS (SubM.refl _)
   ·have e0:ly.getD zl.length 0=0:=by simp [List.getElem?_eq_none hc]
    refine az ?_
    exact cT () trivial DS (SubM.refl _)
  ·refine aa (ae (ai (st (ab Y) Y (st (ab Y) Y (st (ab Y) Y (st (cG Y) Y ?_))))))
   (refine st (ao Y Y ?_) Y ?_;omega)
   (refine aw 0 Y Y Y ?_ Y ?_;omega)
   refine Run.nil (aa (ai (st (ab Y) Y (st (qp Y) Y (st (ah Y) Y (Run.nil (aD (aa (ai ?_)))))))))
   (refine st (cp Y Y (aP ?_ ?_)) Y ?_;omega;omega)
   refine st (ab Y) Y (Run.nil ?_)
   have hstep:=hR.step hx hy hl hc hD.symm
   refine bU (s:=(zl,c)) (zl ++ [d % 4294967296],d / 9223372036854775808) hstep (by simp;omega) DS (.keep (be (fun q hq => ?_)) .nil)
   unfold upd;rw [j5]; split <;> rfl
 ·have hlen:zl.length=lx.length:=by have:=hR.len;omega
  refine aX (av (av (aF (aa (ae (ai (st (ab Y) Y (st (ah Y) Y (Run.nil ?_)))))))))
  refine aa (aE (cq (t:=4) (i:=0) Y Y ?_))
  refine aT Tryz.results99 (.tmp Y (VT.le_trans (cE (m:=zl.length) (ψ:=fun i=>one (.int .u32 (zl.getD i 0:Nat))) hlen.symm (fun q hq=>rfl)) (fj (l:=zl) hR.lim ?_)))
  have h4:=hR.val
  rw [hlen,List.take_length,List.take_of_length_le Z,hva,hvb] at h4
  have h5:=gO hR.lim
  rw [hlen] at h5
  have h3:=hR.c1
  have:c=0:=by
   rcases Nat.eq_zero_or_pos c with h | h
   ·exact h
   ·have:c=1:=by omega
    subst this;omega
  subst this;omega
end Tor
end
section
namespace Tor
open Go Go.RowKit Go.Proofs
attribute [local irreducible] Tor.J Tor.PJ Tor.aK Tor.one Tor.slT Tor.bO Tor.bC Tor.bv Tor.exT Tor.cd Tor.eP Tor.aR Tor.aI Tor.slV Tor.VT.le Tor.Ret Tor.bJ
structure TimesR (lx ly zz:List Nat) (i:Nat):Prop where
 le:i≤lx.length
 len:zz.length=lx.length+ly.length
 lim:bE zz
 zero : ∀ k,i+ly.length≤k→zz.getD k 0=0
 val:lv zz=lv (lx.take i)*lv ly
structure TimesI (lx ly z0 zz:List Nat) (i j c:Nat):Prop where
 le:j≤ly.length
 len:zz.length=lx.length+ly.length
 lim:bE zz
 zero : ∀ k,i+ly.length≤k→zz.getD k 0=0
 c1:c<4294967296
 val:lv zz+4294967296^(i+j)*c=lv z0+4294967296^i*(lx.getD i 0*lv (ly.take j))
theorem TimesI.step {lx ly z0 zz:List Nat} {i j c:Nat} (h:TimesI lx ly z0 zz i j c) (hx:bE lx) (hy:bE ly) (hi:i<lx.length) (hj:j<ly.length) :
  TimesI lx ly z0 (zz.set (i+j) ((c+(lx.getD i 0*ly.getD j 0+zz.getD (i+j) 0)) % 4294967296)) i (j+1) ((c+(lx.getD i 0*ly.getD j 0+zz.getD (i+j) 0)) / 4294967296):=by
 have hlim:=lG (a9 hx i) (a9 hy j) (a9 h.lim (i+j)) h.c1
 have hlt:i+j<zz.length:=by rw [h.len]; omega
 refine ⟨hj,by rw [List.length_set]; exact h.len,h.lim.set Z,fun k hk => ?_,by omega,?_⟩
 ·rw [d4 hlt,if_neg Z]; exact h.zero k hk
 ·have hs:=fF (l:=zz) (k:=i+j) (v:=(c+(lx.getD i 0*ly.getD j 0+zz.getD (i+j) 0)) % 4294967296) hlt
  have hv:=h.val
  rw [bL hj]
  generalize lx.getD i 0=x at *
  generalize ly.getD j 0=y at *
  generalize zz.getD (i+j) 0=z at *
  have e:c+(x*y+z)=4294967296*((c+(x*y+z)) / 4294967296)+(c+(x*y+z)) % 4294967296:=by omega
  generalize (c+(x*y+z)) / 4294967296=q at *
  generalize (c+(x*y+z)) % 4294967296=r at *
  rw [show i+(j+1)=(i+j)+1 by omega,Nat.pow_succ]
  have eB:4294967296^i*4294967296^j=4294967296^(i+j):=(Nat.pow_add _ _ _).symm
  have e3:4294967296^i*(x*(lv (ly.take j)+4294967296^j*y))=4294967296^i*(x*lv (ly.take j))+4294967296^(i+j)*(x*y):=by
   rw [Nat.mul_add,Nat.mul_add, ← eB]
   congr 1
   rw [Nat.mul_assoc]; congr 1
   rw [Nat.mul_left_comm]
  rw [e3]
  generalize 4294967296^(i+j)=B at *
  have e2:B*(c+(x*y+z))=B*(4294967296*q+r):=by rw [e]
  simp only [Nat.mul_add, ← Nat.mul_assoc] at e2 ⊢ hs hv
  omega
theorem TimesR.start {lx ly z0:List Nat} {i:Nat} (h:TimesR lx ly z0 i):TimesI lx ly z0 z0 i 0 0:=⟨Nat.zero_le _,h.len,h.lim,h.zero,by decide,by simp [lv]⟩
theorem TimesI.finish {lx ly z0 zz:List Nat} {i c:Nat} (h0:TimesR lx ly z0 i) (h:TimesI lx ly z0 zz i ly.length c) (hi:i<lx.length):TimesR lx ly (zz.set (i+ly.length) (c % 4294967296)) (i+1):=by
 have hlt:i+ly.length<zz.length:=by rw [h.len]; omega
 have hc:=h.c1
 refine ⟨hi,by rw [List.length_set]; exact h.len,h.lim.set Z,fun k hk => ?_,?_⟩
 ·rw [d4 hlt,if_neg Z]; exact h.zero k Z
 ·have hs:=fF (l:=zz) (k:=i+ly.length) (v:=c % 4294967296) hlt
  rw [h.zero _ (Nat.le_refl _),Nat.mul_zero,Nat.add_zero,Nat.mod_eq_of_lt hc] at hs
  rw [Nat.mod_eq_of_lt hc,hs,h.val,List.take_length,h0.val,bL hi,Nat.add_mul,Nat.mul_assoc]
theorem bE.replicate (n:Nat):bE (List.replicate n 0):=fun d hd=>by
 have:=(List.mem_replicate.1 hd).2;omega
theorem dQ : ∀ n,lv (List.replicate n 0)=0
 | 0 => rfl
 | n + 1 => by rw [List.replicate_succ, lv, dQ n]
theorem cy (n q:Nat):(List.replicate n 0).getD q 0=0:=by
 simp only [List.getD,List.getElem?_replicate]; split <;> rfl
theorem yq (a b:Nat) (ha:(aJ a).length≤1099511627776) (hb:(aJ b).length≤1099511627776):Ok Tryz.prog 87 [co (aJ a),co (aJ b)] (lH (a*b)):=by
 refine Ok.enter Tryz.func87 Y Tryz.ntmps87 Y (fun w O => ?_)
 have hx:=a5 a
 have hy:=a5 b
 have hva:=bX a
 have hvb:=bX b
 generalize aJ a=lx at *
 generalize aJ b=ly at *
 refine ae (ai (st (ah Y) Y (Run.nil (aa (ae (ai (st (ab Y) Y (st (aU Y) Y (st (ab Y) Y ?_)))))))))
 refine st (aU Y) Y ?_
 (refine st (cp Y Y (aP ?_ ?_)) Y ?_;omega;omega)
 refine bV (lx.length+ly.length) (lx.length+ly.length) Y Y (by simp) (by simp) (Nat.le_refl _) Y Y Z Y Y (fun bz => ?_)
 refine st (ah Y) Y (Run.nil (aa (ae (ae (ai (st (ab Y) Y (st (aU Y) Y (st (ab Y) Y (Run.nil ?_)))))))))
 refine aa (au ?_)
 refine cC (σ:=List Nat × Nat) (fun s => [(1,co ly),(5,one (slV (some bz) (lx.length+ly.length) (lx.length+ly.length))),(17,co lx),(18,one (.int .i64 lx.length)),(19,one (.int .i64 (s.2:Nat)))])
   (fun s => [aI (some bz) 86 .one (lx.length+ly.length) (lx.length+ly.length) (fun q=>one (.int .u32 (s.1.getD q 0:Nat)))]) (fun s=>TimesR lx ly s.1 s.2) (fun s=>lx.length - s.2) (List.replicate (lx.length+ly.length) 0,0)
   ⟨by simp,by simp,bE.replicate _,fun k _=>cy _ _,by simp [dQ,lv]⟩ DS (.keep (be (fun q _=>by rw [cy]; rfl)) .nil) (fun s hR => ?_)
 obtain ⟨z0,i⟩:=s
 simp only at hR ⊢
 refine ae (ai (st (a7 Y Y) Y (Run.nil (aa (ae ?_)))))
 refine a8 Y (fun hc => ?_) (fun hc => ?_) <;> simp at hc
 ·have h1:=a9 hx i
  refine az (aa (ae (au (ae (ai (st (ab Y) Y ?_))))))
  (refine st (aC Y Y ?_) Y ?_;omega)
  refine st (aM Y) Y (st (ah Y) Y (st (ah Y) Y (Run.nil (aa (ae (ai (st (ah Y) Y (Run.nil (aa ?_)))))))))
  refine ae (ae (ai (st (ab Y) Y (st (aU Y) Y (st (ab Y) Y (Run.nil (aa (au ?_))))))))
  refine cC (σ:=List Nat × Nat × Nat) (fun s => [(1,co ly),(5,one (slV (some bz) (lx.length+ly.length) (lx.length+ly.length))),(6,one (.int .i64 i)),(7,one (.int .u32 (lx.getD i 0:Nat))),(8,one (.int .u64 (s.2.2:Nat))),(24,co ly),(25,one (.int .i64 ly.length)),(26,one (.int .i64 (s.2.1:Nat))),(17,co lx),(18,one (.int .i64 lx.length)),(19,one (.int .i64 i))])
   (fun s => [aI (some bz) 86 .one (lx.length+ly.length) (lx.length+ly.length) (fun q=>one (.int .u32 (s.1.getD q 0:Nat)))]) (fun s=>TimesI lx ly z0 s.1 i s.2.1 s.2.2) (fun s=>ly.length - s.2.1) (z0,0,0)
   hR.start DS (SubM.refl _) (fun s hI => ?_)
  obtain ⟨zz,j,c⟩:=s
  simp only at hI ⊢
  refine ae (ai (st (a7 Y Y) Y (Run.nil (aa (ae ?_)))))
  refine a8 Y (fun hc2 => ?_) (fun hc2 => ?_) <;> simp at hc2
  ·have h2:=a9 hy j
   have h3:=a9 hI.lim (i+j)
   have h4:=lG h1 h2 h3 hI.c1
   have h5:=hI.c1
   refine az (aa (ae (au (ae (ai (st (ab Y) Y ?_))))))
   (refine st (aC Y Y ?_) Y ?_;omega)
   refine st (aM Y) Y (st (ah Y) Y (st (ah Y) Y (Run.nil (aa (ae (ai (st (ab Y) Y (st (ab Y) Y ?_))))))))
   (refine st (bT Y ?_) Y ?_;omega)
   refine st (ab Y) Y ?_
   (refine st (bT Y ?_) Y ?_;omega)
   (refine st (gF Y Y ?_) Y ?_;omega)
   refine st (ab Y) Y (st (ab Y) Y (st (ab Y) Y ?_))
   (refine st (cp Y Y (aP ?_ ?_)) Y ?_;omega;omega)
   (refine st (ao Y Y ?_) Y ?_;omega)
   (refine st (bh 0 Y Y ?_) Y ?_;omega)
   (refine st (bT Y ?_) Y ?_;omega)
   (refine st (dT Y Y ?_) Y ?_;omega)
   (refine st (dT Y Y ?_) Y ?_;omega)
   refine st (ah Y) Y (Run.nil (aa (ae (ai (st (ab Y) Y (st (ab Y) Y (st (ab Y) Y ?_)))))))
   (refine st (cp Y Y (aP ?_ ?_)) Y ?_;omega;omega)
   refine st (ab Y) Y (st (cG Y) Y ?_)
   (refine st (ao Y Y ?_) Y ?_;omega)
   (refine aw 0 Y Y Y ?_ Y ?_;omega)
   refine Run.nil (aa (ai (st (ab Y) Y (st (gk Y) Y (st (ah Y) Y (Run.nil (aD (aa (ai ?_)))))))))
   (refine st (cp Y Y (aP ?_ ?_)) Y ?_;omega;omega)
   refine st (ab Y) Y (Run.nil ?_)
   have hstep:=hI.step hx hy hc hc2
   have hlt:i+j<zz.length:=by rw [hI.len]; omega
   refine bU (s:=(zz,j,c)) (zz.set (i+j) ((c+(lx.getD i 0*ly.getD j 0+zz.getD (i+j) 0)) % 4294967296),j+1,(c+(lx.getD i 0*ly.getD j 0+zz.getD (i+j) 0)) / 4294967296) hstep (by simp;omega) DS (.keep (be (fun q hq => ?_)) .nil)
   unfold upd;rw [d4 hlt]; split <;> rfl
  ·have hj:j=ly.length:=by have:=hI.le;omega
   subst hj
   refine aX (av (av (aF (aa (ai (st (ab Y) Y (st (ab Y) Y (st (ab Y) Y (st (aU Y) Y ?_)))))))))
   (refine st (cp Y Y (aP ?_ ?_)) Y ?_;omega;omega)
   refine st (ab Y) Y (st (cG Y) Y ?_)
   (refine st (ao Y Y ?_) Y ?_;omega)
   (refine aw 0 Y Y Y ?_ Y ?_;omega)
   refine Run.nil (aD (aa (ai ?_)))
   (refine st (cp Y Y (aP ?_ ?_)) Y ?_;omega;omega)
   refine st (ab Y) Y (Run.nil ?_)
   have hfin:=hI.finish hR hc
   have hlt:i+ly.length<zz.length:=by rw [hI.len]; omega
   refine bU (s:=(z0,i)) (zz.set (i+ly.length) (c % 4294967296),i+1) hfin (by simp;omega) DS (.keep (be (fun q hq => ?_)) .nil)
   unfold upd;rw [d4 hlt]; split <;> rfl
 ·have hi:i=lx.length:=by have:=hR.le;omega
  refine aX (av (av (aF (aa (ae (ai (st (ab Y) Y (st (ah Y) Y (Run.nil ?_)))))))))
  refine aa (aE (cq (t:=4) (i:=0) Y Y ?_))
  refine aT Tryz.results87 (.tmp Y (VT.le_trans (cE (m:=z0.length) (ψ:=fun i=>one (.int .u32 (z0.getD i 0:Nat))) hR.len.symm (fun q hq=>rfl)) (fj (l:=z0) hR.lim ?_)))
  rw [hR.val,hi,List.take_length,hva,hvb]
end Tor
end
section
namespace Tor
open Go Go.RowKit Go.Proofs
def sgT (neg:Bool) (v:Nat):VT:=bC 2 [(0, .one,one (.bool neg)),(1, .one,co (aJ v))]
def sv (neg:Bool) (v:Nat):Int:=if neg then -(v:Int) else v
theorem ej (x:Int):VT.le (aL x) (sgT (decide (x<0)) x.natAbs):=VT.le_refl _
theorem fk (x:Int):sv (decide (x<0)) x.natAbs=x:=by
 unfold sv;by_cases h:x<0
 ·rw [decide_eq_true h,if_pos Y]; omega
 ·rw [decide_eq_false h]; simp only [Bool.false_eq_true,if_false]; omega
attribute [local irreducible] Tor.J Tor.PJ Tor.aK Tor.one Tor.slT Tor.bO Tor.bC Tor.bv Tor.exT Tor.cd Tor.eP Tor.aR Tor.aI Tor.slV Tor.VT.le Tor.Ret Tor.bJ
attribute [local irreducible] aL
theorem jE (u:Nat) (hu:u<18446744073709551616):Ok Tryz.prog 88 [one (.int .u64 u)] (lH u):=by
 refine Ok.enter Tryz.func88 Y Tryz.ntmps88 Y (fun w O => ?_)
 refine ae (ai (st (ah Y) Y (Run.nil (aa (ae (ai (st (ab Y) Y (st (cG Y) Y (st (ab Y) Y ?_)))))))))
 refine st (gk Y) Y (st (cG Y) Y (stS Y Y Y Y (PartsK.cons Y (PartsK.cons Y (PartsK.nil (st (ah Y) Y (Run.nil (aa (aE ?_)))))))))
 refine aT Tryz.results88 (.tmp Y (VT.le_trans (cE (m := [u % 4294967296,u / 4294967296 % 4294967296].length) (ψ:=fun i=>one (.int .u32 ([u % 4294967296,u / 4294967296 % 4294967296].getD i 0:Nat))) Y (fun q hq => ?_)) (fj (l := [u % 4294967296,u / 4294967296 % 4294967296]) ?_ ?_)))
 ·match q,hq with
  | 0, _ => rfl
  | 1, _ => rfl
 ·intro d hd;simp at hd;omega
 ·simp only [lv]; omega
theorem jn (n:Int) (h1 : -9223372036854775808≤n) (h2:n≤9223372036854775807):Ok Tryz.prog 55 [one (.int .i64 n)] (aL n):=by
 refine Ok.enter Tryz.func55 Y Tryz.ntmps55 Y (fun w O => ?_)
 by_cases hn:n<0
 ·refine ae (ai ?_)
  refine aG (T:=37) Y (ltN Y) (fun b => ?_)
  refine Run.nil (aa (ae (ai (st (ab Y) Y (st (js (r:=((18446744073709551616 - n.natAbs:Nat):Int)) Y (by rw [dq]; omega)) Y (st (ah Y) Y (Run.nil (aa (ae ?_)))))))))
  refine ae (ai (st (ab Y) Y (st (a7 Y Y) Y (Run.nil (aa ?_)))))
  refine a8 Y (fun hc => ?_) (fun hc => ?_) <;> simp at hc
  ·refine ai (st (ab Y) Y (st (BU (r:=(n.natAbs:Int)) Y (by rw [dq]; omega)) Y (st (ah Y) Y (Run.nil (aa (ae (ai (st (ab Y) Y (st (a7 Y Y) Y ?_)))))))))
   refine st (ab Y) Y ?_
   refine st (am (jE _ Z) Y ⟨VT.le_refl _,trivial⟩) Y ?_
   refine st (am (dC _ _) Y ⟨VT.le_refl _,VT.le_refl _,trivial⟩) Y ?_
   refine aA 0 Y Y Y Y Y (leN Y) Y (Run.nil (aa (aE ?_)))
   exact aT Tryz.results55 (.cellB 0 Y Y Y (cf (by rw [decide_eq_true hn,if_pos Y]; omega)))
  ·omega
 ·refine ae (ai ?_)
  refine aG (T:=37) Y (ltN Y) (fun b => ?_)
  refine Run.nil (aa (ae (ai (st (ab Y) Y (st (js (r:=(n.natAbs:Int)) Y (by rw [dq]; omega)) Y (st (ah Y) Y (Run.nil (aa (ae ?_)))))))))
  refine ae (ai (st (ab Y) Y (st (a7 Y Y) Y (Run.nil (aa ?_)))))
  refine a8 Y (fun hc => ?_) (fun hc => ?_) <;> simp at hc
  ·omega
  ·refine az (aa (ae (ai (st (ab Y) Y (st (a7 Y Y) Y (st (ab Y) Y ?_))))))
   refine st (am (jE _ Z) Y ⟨VT.le_refl _,trivial⟩) Y ?_
   refine st (am (dC _ _) Y ⟨VT.le_refl _,VT.le_refl _,trivial⟩) Y ?_
   refine aA 0 Y Y Y Y Y (leN Y) Y (Run.nil (aa (aE ?_)))
   exact aT Tryz.results55 (.cellB 0 Y Y Y (cf (by rw [decide_eq_false hn]; simp;omega)))
def c8 (x:Int):Int:=if x=0 then 0 else if x<0 then -1 else 1
theorem qR (neg:Bool) (v:Nat):Ok Tryz.prog 51 [sgT neg v] (one (.int .i64 (c8 (sv neg v)))):=by
 refine Ok.enter Tryz.func51 Y Tryz.ntmps51 Y (fun w O => ?_)
 refine ae (ai ?_)
 refine aS Y Y (ltN Y) (fun b => ?_)
 refine st (ah Y) Y (Run.nil (aa (ae (au (ae (ai (st (aj Y) Y (st (ak 0 Y Y Y) Y ?_))))))))
 refine st (am (cX _) Y ⟨cA _,trivial⟩) Y ?_
 refine st (aU Y) Y (st (ci Y Y) Y (st (ah Y) Y (Run.nil (aa ?_))))
 refine a8 Y (fun hc => ?_) (fun hc => ?_) <;> simp at hc
 ·have hv:v=0:=by rw [← bX v,hc]; rfl
  refine ae (ai (st (ah Y) Y (Run.nil (aa (aE (bN (aW ?_)))))))
  exact aT Tryz.results51 (.tmp Y (ar (by subst hv;simp [c8,sv])))
 ·have hv:v≠0:=by intro e;subst e;exact hc Y
  refine ae (ai (st (aj Y) Y (st (ak 0 Y Y Y) Y (st (ah Y) Y (Run.nil (aa ?_))))))
  refine a8 Y (fun hc2 => ?_) (fun hc2 => ?_)
  ·subst hc2
   refine ae (ai (st (ah Y) Y (Run.nil (aa (aE (bN (aW ?_)))))))
   exact aT Tryz.results51 (.tmp Y (ar (by congr 1;unfold c8 sv;simp only [if_true]; rw [if_neg Z,if_pos Z])))
  ·subst hc2
   refine az (aD (aa (ae (ai (st (ah Y) Y (Run.nil (aa (aE ?_))))))))
   exact aT Tryz.results51 (.tmp Y (ar (by congr 1;unfold c8 sv;simp only [Bool.false_eq_true,if_false]; rw [if_neg Z,if_neg Z])))
theorem yr (n1 n2:Bool) (v1 v2:Nat) (h1:(aJ v1).length≤1099511627776) (h2:(aJ v2).length≤1099511627776):Ok Tryz.prog 58 [sgT n1 v1,sgT n2 v2] (aL (sv n1 v1+sv n2 v2)):=by
 refine Ok.enter Tryz.func58 Y Tryz.ntmps58 Y (fun w O => ?_)
 refine ae (ai ?_)
 refine aS Y Y (ltN Y) (fun b => ?_)
 refine aS Y Y (ltN Y) (fun b => ?_)
 refine aG (T:=37) Y (ltN Y) (fun b => ?_)
 refine Run.nil (aa (ae (a6 8 aZ X S (st (aj Y) Y (st (ak 2 Y Y Y) Y ?_)))))
 refine st (am (cX _) Y ⟨cA _,trivial⟩) Y ?_
 refine st (aj Y) Y (st (ak 1 Y Y Y) Y ?_)
 refine st (am (cX _) Y ⟨cA _,trivial⟩) Y ?_
 refine st (ah Y) Y (st (ah Y) Y (Run.nil (Run.nil (aa (ae (au (ae (ai (st (aj Y) Y ?_)))))))))
 refine st (ak 2 Y Y Y) Y (st (aj Y) Y (st (ak 1 Y Y Y) Y (st (xE Y Y) Y (st (ah Y) Y (Run.nil (aa ?_))))))
 refine a8 Y (fun hc => ?_) (fun hc => ?_) <;> simp at hc
 ·subst hc
  refine ae (a6 6 aZ X S (st (aj Y) Y (st (ak 2 Y Y Y) Y (st (ab Y) Y (st (ab Y) Y ?_)))))
  refine st (am (u7 _ _ h1 h2) Y ⟨VT.le_refl _,VT.le_refl _,trivial⟩) Y ?_
  refine st (am (dC _ _) Y ⟨VT.le_refl _,VT.le_refl _,trivial⟩) Y ?_
  refine Run.nil (aA 0 Y Y Y Y Y (leN Y) Y (Run.nil (aa (aE (bN (aW ?_))))))
  exact aT Tryz.results58 (.cellB 0 Y Y Y (cf (by unfold sv;split <;> omega)))
 ·refine ae (ai (st (ab Y) Y (st (ab Y) Y ?_)))
  refine st (am (kF _ _) Y ⟨VT.le_refl _,VT.le_refl _,trivial⟩) Y ?_
  refine st (a7 Y Y) Y (st (ah Y) Y (Run.nil (aa ?_)))
  refine a8 Y (fun hc2 => ?_) (fun hc2 => ?_) <;> simp at hc2
  ·have hlt:v1<v2:=by
    unfold mp at hc2;split at hc2
    ·assumption
    ·split at hc2 <;> omega
   refine ae (a6 6 aZ X S (st (aj Y) Y (st (ak 1 Y Y Y) Y (st (ab Y) Y (st (ab Y) Y ?_)))))
   refine st (am (oa _ _ Z h2) Y ⟨VT.le_refl _,VT.le_refl _,trivial⟩) Y ?_
   refine st (am (dC _ _) Y ⟨VT.le_refl _,VT.le_refl _,trivial⟩) Y ?_
   refine Run.nil (aA 0 Y Y Y Y Y (leN Y) Y (Run.nil (aa (aE (bN (aW ?_))))))
   exact aT Tryz.results58 (.cellB 0 Y Y Y (cf (by unfold sv;cases n1 <;> cases n2 <;> simp at hc ⊢ <;> omega)))
  ·have hge:v2≤v1:=by
    unfold mp at hc2;split at hc2 <;> omega
   refine az (aD (aa (ae (a6 6 aZ X S (st (aj Y) Y (st (ak 2 Y Y Y) Y (st (ab Y) Y (st (ab Y) Y ?_))))))))
   refine st (am (oa _ _ Z h1) Y ⟨VT.le_refl _,VT.le_refl _,trivial⟩) Y ?_
   refine st (am (dC _ _) Y ⟨VT.le_refl _,VT.le_refl _,trivial⟩) Y ?_
   refine Run.nil (aA 0 Y Y Y Y Y (leN Y) Y (Run.nil (aa (aE ?_))))
   exact aT Tryz.results58 (.cellB 0 Y Y Y (cf (by unfold sv;cases n1 <;> cases n2 <;> simp at hc ⊢ <;> omega)))
theorem Ck (n1 n2:Bool) (v1 v2:Nat) (h1:(aJ v1).length≤1099511627776) (h2:(aJ v2).length≤1099511627776):Ok Tryz.prog 96 [sgT n1 v1,sgT n2 v2] (aL (sv n1 v1 - sv n2 v2)):=by
 refine Ok.enter Tryz.func96 Y Tryz.ntmps96 Y (fun w O => ?_)
 refine ae (ai ?_)
 refine aS Y Y (ltN Y) (fun b => ?_)
 refine aS Y Y (ltN Y) (fun b => ?_)
 refine aG (T:=37) Y (ltN Y) (fun b => ?_)
 refine Run.nil (aa (ae (ai (st (aO 2 Y Y) Y (st (aj Y) Y (st (ak 1 Y Y Y) Y (st (cK Y) Y (st (aj Y) Y (st (ak 1 Y Y Y) Y ?_)))))))))
 refine stB Y Y Y (BuildK.cons Y Y Y (BuildK.cons Y Y Y (BuildK.nil ?_)))
 refine st (am (yr n1 (!n2) v1 v2 h1 h2) Y ⟨VT.le_refl _,VT.le_refl _,trivial⟩) Y ?_
 refine aA 0 Y Y Y Y Y (leN Y) Y (Run.nil (aa (aE ?_)))
 exact aT Tryz.results96 (.cellB 0 Y Y Y (cf (by unfold sv;cases n2 <;> simp <;> omega)))
theorem Cl (n1 n2:Bool) (v1 v2:Nat) (h1:(aJ v1).length≤1099511627776) (h2:(aJ v2).length≤1099511627776):Ok Tryz.prog 54 [sgT n1 v1,sgT n2 v2] (aL (sv n1 v1*sv n2 v2)):=by
 refine Ok.enter Tryz.func54 Y Tryz.ntmps54 Y (fun w O => ?_)
 refine ae (ai ?_)
 refine aS Y Y (ltN Y) (fun b => ?_)
 refine aS Y Y (ltN Y) (fun b => ?_)
 refine aG (T:=37) Y (ltN Y) (fun b => ?_)
 refine Run.nil (aa (ae (a6 13 aZ X S (st (aj Y) Y (st (ak 2 Y Y Y) Y (st (aj Y) Y (st (ak 1 Y Y Y) Y (st (jr Y Y) Y (st (aj Y) Y ?_)))))))))
 refine st (ak 2 Y Y Y) Y ?_
 refine st (am (cX _) Y ⟨cA _,trivial⟩) Y ?_
 refine st (aj Y) Y (st (ak 1 Y Y Y) Y ?_)
 refine st (am (cX _) Y ⟨cA _,trivial⟩) Y ?_
 skip
 refine st (am (yq _ _ h1 h2) Y ⟨VT.le_refl _,VT.le_refl _,trivial⟩) Y ?_
 refine st (am (dC _ _) Y ⟨VT.le_refl _,VT.le_refl _,trivial⟩) Y ?_
 refine Run.nil (aA 0 Y Y Y Y Y (leN Y) Y (Run.nil (aa (aE ?_))))
 exact aT Tryz.results54 (.cellB 0 Y Y Y (cf (by unfold sv;cases n1 <;> cases n2 <;> simp [Int.neg_mul,Int.mul_neg])))
theorem AA {n1 n2:Bool} {v1 v2:Nat} (h:c8 (sv n1 v1)=c8 (sv n2 v2)):IntKind.i64.wrap (c8 (sv n1 v1)*mp v1 v2)=cU (sv n1 v1) (sv n2 v2):=by
 have key:c8 (sv n1 v1)*mp v1 v2=cU (sv n1 v1) (sv n2 v2):=by
  unfold c8 sv mp cU at *
  cases n1 <;> cases n2 <;> simp only [if_true,if_false,Bool.false_eq_true] at * <;> (repeat' split at h) <;> (try omega) <;> (repeat' split) <;> omega
 rw [key]
 unfold cU;split
 ·decide
 ·split <;> decide
theorem Cm (n1 n2:Bool) (v1 v2:Nat):Ok Tryz.prog 59 [sgT n1 v1,sgT n2 v2] (one (.int .i64 (cU (sv n1 v1) (sv n2 v2)))):=by
 refine Ok.enter Tryz.func59 Y Tryz.ntmps59 Y (fun w O => ?_)
 refine ae (ai ?_)
 refine aS Y Y (ltN Y) (fun b => ?_)
 refine aS Y Y (ltN Y) (fun b => ?_)
 refine st (ah Y) Y (Run.nil (aa (ae (a6 6 aZ X S (st (aO 1 Y Y) Y ?_)))))
 refine st (am (qR n1 v1) Y ⟨VT.le_refl _,trivial⟩) Y ?_
 refine st (aO 0 Y Y) Y ?_
 refine st (am (qR n2 v2) Y ⟨VT.le_refl _,trivial⟩) Y ?_
 refine st (ah Y) Y (st (ah Y) Y (Run.nil (Run.nil (aa (ae (ae (ai (st (ab Y) Y (st (ab Y) Y ?_)))))))))
 refine st (di Y Y) Y (Run.nil (aa ?_))
 refine a8 Y (fun hc => ?_) (fun hc => ?_) <;> simp only [decide_eq_true_eq,decide_eq_false_iff_not,ne_eq,Decidable.not_not] at hc
 ·refine ae (ai (st (ab Y) Y (st (ab Y) Y ?_)))
  refine st (am (jD _ _) Y ⟨VT.le_refl _,VT.le_refl _,trivial⟩) Y ?_
  refine st (ah Y) Y (Run.nil (aa (aE (aW ?_))))
  exact aT Tryz.results59 (.tmp Y (ar (by congr 1;unfold c8 at *; unfold cU;split at hc <;> split at hc <;> (try split at hc) <;> (try split at hc) <;> simp at * <;> (repeat' split) <;> omega)))
 ·refine az (aa (ae (a6 10 aZ X S (st (ab Y) Y (st (aj Y) Y (st (ak 1 Y Y Y) Y ?_))))))
  refine st (am (cX _) Y ⟨cA _,trivial⟩) Y ?_
  refine st (aj Y) Y (st (ak 0 Y Y Y) Y ?_)
  refine st (am (cX _) Y ⟨cA _,trivial⟩) Y ?_
  skip
  refine st (am (kF _ _) Y ⟨VT.le_refl _,VT.le_refl _,trivial⟩) Y ?_
  refine st (mL (r:=cU (sv n1 v1) (sv n2 v2)) Y Y (AA hc)) Y (st (ah Y) Y (Run.nil (Run.nil (aa (aE ?_)))))
  exact aT Tryz.results59 (.tmp Y H)
end Tor
end
section
namespace Tor
open Go Go.RowKit Go.Proofs
theorem pM {nb neg:Bool} {v:Nat} (h:nb=(neg && decide (v≠0))):VT.le (bC 2 [(0, .one,one (.bool nb)),(1, .one,co (aJ v))]) (aL (if neg then -(v:Int) else v)):=by
 refine eO (fun q hq => ?_)
 simp only [List.mem_cons,List.not_mem_nil,or_false] at hq
 rcases hq with rfl | rfl
 ·have e:decide ((if neg then -(v:Int) else v)<0)=nb:=by rw [h]; cases neg <;> simp <;> (try omega) <;> (rw [Bool.eq_iff_iff]; simp;omega)
  exact ⟨_,List.mem_cons_self,gE (by rw [e])⟩
 ·refine ⟨_,List.mem_cons_of_mem _ List.mem_cons_self,lI ?_⟩
  cases neg <;> simp
theorem u9 {b:Bool} {φ ψ:VT} (h:VT.le φ ψ):VT.le (bC 2 [(0, .one,one (.bool b)),(1, .one, φ)]) (bC 2 [(0, .one,one (.bool b)),(1, .one, ψ)]):=by
 refine eO (fun q hq => ?_)
 simp only [List.mem_cons,List.not_mem_nil,or_false] at hq
 rcases hq with rfl | rfl
 ·exact ⟨_,List.mem_cons_self,VT.le_refl _⟩
 ·exact ⟨_,List.mem_cons_of_mem _ List.mem_cons_self,h⟩
attribute [local irreducible] Tor.J Tor.PJ Tor.aK Tor.one Tor.slT Tor.bO Tor.bC Tor.bv Tor.exT Tor.cd Tor.eP Tor.aR Tor.aI Tor.slV Tor.VT.le Tor.Ret Tor.bJ
attribute [local irreducible] aL
set_option maxHeartbeats 2000000 in
theorem dh (neg:Bool) (v:Nat):Ok Tryz.prog 48 [o7 v,one (.bool neg)] (aL (if neg then -(v:Int) else v)):=by
 refine Ok.enter Tryz.func48 Y Tryz.ntmps48 Y (fun w O => ?_)
 refine v6 (t:=0) Y (fun l=>pu (t:=0) Y (fun ⟨hL,hv,hb⟩ => ?_))
 subst hv
 refine ae (ai ?_)
 refine aG (T:=37) Y (ltN Y) (fun b => ?_)
 refine Run.nil (aa (ae (ai (st (ab Y) Y (st (aU Y) Y (st (ah Y) Y (Run.nil (aa (ae ?_)))))))))
 refine au ?_
 refine cC (σ:=Nat) (fun n => [(0,co l),(1,one (.bool neg)),(4,one (.pointer (some ⟨b,0,none⟩))),(5,one (.int .i64 n))]) (fun _ => [aR b 37 2 [(0, .agg 2,one (.agg #[.bool false, .slice none 0 0]))]]) (fun n=>n≤l.length∧gP l n=gP l l.length) (fun n=>n) l.length ⟨Nat.le_refl _,rfl⟩ DS (SubM.refl _) (fun n ⟨hn,ht⟩ => ?_)
 have hd:=n8 hL
 refine ae (ae ?_)
 refine fA (σ:=Unit) (fun _ => [(0,co l),(1,one (.bool neg)),(4,one (.pointer (some ⟨b,0,none⟩))),(5,one (.int .i64 n)),(17,one (.bool (decide (0<n∧l.getD (n - 1) 0=0))))]) (fun _ => [aR b 37 2 [(0, .agg 2,one (.agg #[.bool false, .slice none 0 0]))]]) (fun _=>True) ?_ (fun _ _ => ?_)
 ·by_cases h0:0<n
  ·obtain ⟨n,rfl⟩ : ∃ m,n=m+1:=⟨n - 1,by omega⟩
   refine ai (st (ab Y) Y (st (c7 Y Y) Y (st (ab Y) Y ?_)))
   refine mZ (t:=10) Y (fun b hb => ?_)
   rw [hb]
   have:b=true:=by rw [← hb]; simp
   subst this
   refine sg1 Y Y (ab Y) Y (sg1 Y Y (ab Y) Y ?_)
   (refine sg1 Y Y (ei Y Y (aP ?_ ?_)) Y ?_;omega;omega)
   (refine sg1 Y Y (fP Y Y ?_ ?_) Y ?_;omega;omega)
   refine sg1 Y Y (aM Y) Y (sg1 Y Y (ci Y Y) Y (st (bj Y Y) Y (Run.nil ?_)))
   exact cT () trivial (.cons Y H (.cons Y H (.cons Y H (.cons Y H (.cons Y (ar (by simp)) .nil))))) (SubM.refl _)
  ·refine ai (st (ab Y) Y (st (c7 Y Y) Y (st (ab Y) Y ?_)))
   refine mZ (t:=10) Y (fun b hb => ?_)
   rw [hb]
   have:b=false:=by rw [← hb]; simp;omega
   subst this
   refine sg0 Y Y Y Y (sg0 Y Y Y Y (sg0 Y Y Y Y (sg0 Y Y Y Y (sg0 Y Y Y Y (sg0 Y Y Y Y (st (bF Y Y) Y (Run.nil ?_)))))))
   exact cT () trivial (.cons Y H (.cons Y H (.cons Y H (.cons Y H (.cons Y (ar (by simp;omega)) .nil))))) (SubM.refl _)
 ·refine aa ?_
  refine a8 Y (fun hc => ?_) (fun hc => ?_) <;> simp only [decide_eq_true_eq,decide_eq_false_iff_not] at hc
  ·obtain ⟨n,rfl⟩ : ∃ m,n=m+1:=⟨n - 1,by omega⟩
   refine az (aa (au (ai (st (ab Y) Y ?_))))
   (refine st (ei Y Y (aP ?_ ?_)) Y ?_;omega;omega)
   refine st (ah Y) Y (Run.nil (aD ?_))
   refine bU (s:=n+1) n ⟨by omega,by have h2:l.getD n 0=0:=hc.2;rw [← ht,gP,if_pos h2]⟩ Z DS (SubM.refl _)
  ·have hz:gP l n=n:=by
    cases n with
    | zero => rfl
    | succ n =>
     have h2 : ¬ l.getD n 0=0:=fun h=>hc ⟨by omega,h⟩
     rw [gP,if_neg h2]
   rw [ht] at hz
   rw [hz] at hd
   have hlen:(aJ (lv l)).length=n:=by rw [← hd,List.length_take_of_le hn]
   have hnz:(0<n)↔lv l≠0:=by
    constructor
    ·intro h e;rw [e] at hlen;simp [iJ] at hlen;omega
    ·intro h;rw [← hlen]; exact Nat.pos_of_ne_zero (fun e=>h (by rw [← bX (lv l),List.eq_nil_of_length_eq_zero e]; rfl))
   have hmag:VT.le (slT .one (0+((n:Int) - 0).toNat) fun q=>if q<0 then [].reverse.getD q bJ else one (.int .u32 (l.getD (Int.toNat 0+(q - 0)) 0:Nat))) (co (aJ (lv l))) :=
    VT.le_trans (cE (m:=(l.take n).length) (ψ:=fun q=>one (.int .u32 ((l.take n).getD q 0:Nat))) (by rw [List.length_take_of_le hn]; omega) (fun q hq=>by
     simp only [Nat.not_lt_zero,if_false]
     rw [show Int.toNat 0+(q - 0)=q from by simp]
     simp [List.getElem?_take_of_lt (show q<n by omega)])) (lI hd)
   cases neg
   ·refine aX (av (av (aF (aa (ae (ai (st (ab Y) Y (st (ab Y) Y (sg0 Y Y Y Y ?_)))))))))
    refine sg0 Y Y Y Y (st (bF Y Y) Y (m0 (n:=0) Y Y Y Y Y ?_))
    refine PartsK.nil (fun b => ?_)
    refine st (ab Y) Y (st (ab Y) Y ?_)
    (refine st (gi Y Y Y Y (fun _=>rfl) ?_ ?_ ?_ ?_) Y ?_;omega;omega;omega;omega)
    (refine cS 0 Y Y Y (leN Y) ?_ ?_ Y (ltN Y) (fun sv cap => ?_);omega;omega)
    refine gB (t:=29) (j:=0) Y Y (stB Y Y Y (BuildK.cons Y Y Y (BuildK.cons Y Y Y (BuildK.nil (aA 0 Y Y Y Y Y (leN Y) Y (Run.nil (aa (aE ?_))))))))
    exact aT Tryz.results48 (.cellB 0 Y Y Y (VT.le_trans (u9 hmag) (pM (by simp))))
   ·refine aX (av (av (aF (aa (ae (ai (st (ab Y) Y (st (ab Y) Y (sg1 Y Y (ab Y) Y ?_)))))))))
    refine sg1 Y Y (c7 Y Y) Y (st (bj Y Y) Y (m0 (n:=0) Y Y Y Y Y ?_))
    refine PartsK.nil (fun b => ?_)
    refine st (ab Y) Y (st (ab Y) Y ?_)
    (refine st (gi Y Y Y Y (fun _=>rfl) ?_ ?_ ?_ ?_) Y ?_;omega;omega;omega;omega)
    (refine cS 0 Y Y Y (leN Y) ?_ ?_ Y (ltN Y) (fun sv cap => ?_);omega;omega)
    refine gB (t:=29) (j:=0) Y Y (stB Y Y Y (BuildK.cons Y Y Y (BuildK.cons Y Y Y (BuildK.nil (aA 0 Y Y Y Y Y (leN Y) Y (Run.nil (aa (aE ?_))))))))
    exact aT Tryz.results48 (.cellB 0 Y Y Y (VT.le_trans (u9 hmag) (pM (by rw [Bool.true_and]; exact decide_eq_decide.2 (by rw [← hnz]; omega)))))
end Tor
end
section
namespace Tor
open Go Go.RowKit Go.Proofs
attribute [local irreducible] Tor.J Tor.PJ Tor.aK Tor.one Tor.slT Tor.bO Tor.bC Tor.bv Tor.exT Tor.cd Tor.eP Tor.aR Tor.aI Tor.slV Tor.VT.le Tor.Ret Tor.bJ
set_option maxHeartbeats 1000000 in
theorem lJ (a b:Nat):Ok Tryz.prog 120 [co (aJ a),co (aJ b)] (one (.bool (decide (a<b)))):=by
 refine Ok.enter Tryz.func120 Y Tryz.ntmps120 Y (fun w O => ?_)
 refine iA (t:=0) Y (fun _ _=>eC) (fun hb => ?_)
 refine ae (ai (st (ah Y) Y (Run.nil (aa (ae (ae (ai (st (ab Y) Y (st (aU Y) Y ?_)))))))))
 refine st (ab Y) Y (st (aU Y) Y (st (di Y Y) Y (Run.nil (aa ?_))))
 refine a8 Y (fun hc => ?_) (fun hc => ?_) <;> simp only [decide_eq_true_eq,decide_eq_false_iff_not,ne_eq,Decidable.not_not] at hc
 ·refine ae (ai (st (ab Y) Y (st (aU Y) Y (st (ab Y) Y (st (aU Y) Y (st (a7 Y Y) Y (st (ah Y) Y (Run.nil (aa ?_)))))))))
  refine aE (aW ?_)
  refine aT Tryz.results120 (.tmp Y (ar ?_))
  congr 1
  rw [decide_eq_decide]
  constructor
  ·intro h;exact iF Z
  ·intro h;have:=bZ (Nat.le_of_lt h);omega
 ·have hlen:(aJ a).length=(aJ b).length:=by omega
  refine az (aa (ae (ae (ai (st (ab Y) Y (st (aU Y) Y ?_))))))
  (refine st (ei Y Y (aP ?_ ?_)) Y ?_;omega;omega)
  refine st (ah Y) Y (Run.nil (aa (au ?_)))
  refine cC (σ:=Nat) (fun n => [(0,co (aJ a)),(1,co (aJ b)),(5,one (.int .i64 ((n:Int) - 1)))]) (fun _ => []) (fun n=>n≤(aJ a).length∧(aJ a).drop n=(aJ b).drop n) (fun n=>n) (aJ a).length
   ⟨Nat.le_refl _,by rw [List.drop_length,hlen,List.drop_length]⟩ DS (SubM.refl _) (fun n ⟨hn,hd⟩ => ?_)
  refine ae (ae (ai (st (ab Y) Y (st (fx Y Y) Y (Run.nil (aa ?_))))))
  refine a8 Y (fun hc2 => ?_) (fun hc2 => ?_) <;> simp only [decide_eq_true_eq,decide_eq_false_iff_not] at hc2
  ·obtain ⟨n,rfl⟩ : ∃ m,n=m+1:=⟨n - 1,by omega⟩
   have e:((n+1:Nat):Int) - 1=n:=by omega
   rw [e]
   refine az (aa (ae (au (ae (a6 9 aZ X S (st (ab Y) Y (st (ab Y) Y ?_)))))))
   (refine st (aC Y Y ?_) Y ?_;omega)
   refine st (aM Y) Y (st (ab Y) Y (st (ab Y) Y ?_))
   (refine st (aC Y Y ?_) Y ?_;omega)
   refine st (aM Y) Y (st (di Y Y) Y (Run.nil (Run.nil (aa ?_))))
   refine a8 Y (fun hc3 => ?_) (fun hc3 => ?_) <;> simp only [decide_eq_true_eq,decide_eq_false_iff_not,ne_eq,Decidable.not_not] at hc3
   ·refine ae (a6 10 aZ X S (st (ab Y) Y (st (ab Y) Y ?_)))
    (refine st (aC Y Y ?_) Y ?_;omega)
    refine st (aM Y) Y (st (ab Y) Y (st (ab Y) Y ?_))
    (refine st (aC Y Y ?_) Y ?_;omega)
    refine st (aM Y) Y (st (a7 Y Y) Y (st (ah Y) Y (Run.nil (Run.nil (aa (aE (bN (aW (aW ?_)))))))))
    refine bN (aW ?_)
    refine aT Tryz.results120 (.tmp Y (ar ?_))
    congr 1
    rw [decide_eq_decide]
    by_cases h1:(aJ a).getD n 0<(aJ b).getD n 0
    ·have:=qQ (a5 a) (a5 b) hlen (i:=n) Z hd h1
     rw [bX,bX] at this
     exact ⟨fun _=>this,fun _=>by omega⟩
    ·have:=qQ (a5 b) (a5 a) hlen.symm (i:=n) Z hd.symm Z
     rw [bX,bX] at this
     exact ⟨fun h=>by omega,fun h=>by omega⟩
   ·refine az (aD (aa (ai (st (ab Y) Y ?_))))
    (refine st (ei Y Y (aP ?_ ?_)) Y ?_;omega;omega)
    refine st (ah Y) Y (Run.nil ?_)
    refine bU (s:=n+1) n ⟨by omega,?_⟩ Z DS (SubM.refl _)
    have h3:(aJ a).getD n 0=(aJ b).getD n 0:=by omega
    have e1:=fE (l:=aJ a) (k:=n) Z
    have e2:=fE (l:=aJ b) (k:=n) Z
    rw [e1,e2,h3,hd]
  ·refine aX (av (av (aF (aa (ae (ai (st (ah Y) Y (Run.nil (aa ?_)))))))))
   refine aE ?_
   have h0:n=0:=by omega
   subst h0
   have h4:a=b:=sc (by simpa using hd)
   exact aT Tryz.results120 (.tmp Y (ar (by subst h4;simp)))
theorem ys (neg:Bool) (v:Nat):Ok Tryz.prog 21 [sgT neg v] (one (.int .i64 (c8 (sv neg v)))):=by
 refine Ok.enter Tryz.func21 Y Tryz.ntmps21 Y (fun w O => ?_)
 refine ae (ai ?_)
 refine aS Y Y (ltN Y) (fun b => ?_)
 refine st (ah Y) Y (Run.nil (aa (ae (ae (ai (st (aj Y) Y (st (ak 0 Y Y Y) Y (st (aU Y) Y (st (ci Y Y) Y ?_)))))))))
 refine Run.nil (aa ?_)
 refine a8 Y (fun hc => ?_) (fun hc => ?_) <;> simp at hc
 ·have hv:v=0:=by rw [← bX v,hc]; rfl
  refine ae (ai (st (ah Y) Y (Run.nil (aa (aE (aW ?_))))))
  exact aT Tryz.results21 (.tmp Y (ar (by subst hv;simp [c8,sv])))
 ·have hv:v≠0:=by intro e;subst e;exact hc Y
  refine az (aa (ae (ae (ai (st (aj Y) Y (st (ak 0 Y Y Y) Y (Run.nil (aa ?_))))))))
  refine a8 Y (fun hc2 => ?_) (fun hc2 => ?_)
  ·subst hc2
   refine ae (ai (st (ah Y) Y (Run.nil (aa (aE (aW ?_))))))
   exact aT Tryz.results21 (.tmp Y (ar (by congr 1;unfold c8 sv;simp only [if_true]; rw [if_neg Z,if_pos Z])))
  ·subst hc2
   refine az (aa (ae (ai (st (ah Y) Y (Run.nil (aa (aE ?_)))))))
   exact aT Tryz.results21 (.tmp Y (ar (by congr 1;unfold c8 sv;simp only [Bool.false_eq_true,if_false]; rw [if_neg Z,if_neg Z])))
set_option maxHeartbeats 1000000 in
theorem ob (x y:Int):Ok Tryz.prog 76 [aL x,aL y] (one (.bool (decide (x=y)))):=by
 refine Ok.enter Tryz.func76 Y Tryz.ntmps76 Y (fun w O => ?_)
 refine ae (ai ?_)
 refine aS Y Y (ltN Y) (fun b => ?_)
 refine aS Y Y (ltN Y) (fun b => ?_)
 refine st (ah Y) Y (Run.nil (aa (ae (ai (st (aj Y) Y (st (ak 1 Y Y Y) Y (st (aj Y) Y (st (ak 0 Y Y Y) Y (st (xE Y Y) Y ?_)))))))))
 refine st (ab Y) Y ?_
 refine mZ (t:=10) Y (fun b hb => ?_)
 rw [hb]
 cases b
 ·refine sg0 Y Y Y Y (sg0 Y Y Y Y (sg0 Y Y Y Y (sg0 Y Y Y Y (sg0 Y Y Y Y (sg0 Y Y Y Y (st (bF Y Y) Y (st (ab Y) Y (sg0 Y Y Y Y (sg0 Y Y Y Y ?_)))))))))
  refine sg0 Y Y Y Y (sg0 Y Y Y Y (sg0 Y Y Y Y (sg0 Y Y Y Y (st (bF Y Y) Y (st (ah Y) Y (Run.nil (aa (aE ?_))))))))
  refine aT Tryz.results76 (.tmp Y (ar ?_))
  congr 1
  have : ¬ (x=y):=by intro e;subst e;simp at hb
  simp [this]
 ·have hs:(x<0)↔(y<0):=by simpa using hb
  refine sg1 Y Y (aj Y) Y (sg1 Y Y (ak 1 Y Y Y) Y (sg1 Y Y (aj Y) Y (sg1 Y Y (ak 0 Y Y Y) Y ?_)))
  refine sg1 Y Y (am (lJ _ _) Y ⟨VT.le_refl _,VT.le_refl _,trivial⟩) Y ?_
  refine sg1 Y Y (cK Y) Y (st (bj Y Y) Y (st (ab Y) Y ?_))
  refine mZ (t:=18) Y (fun b hb2 => ?_)
  rw [hb2]
  cases b
  ·refine sg0 Y Y Y Y (sg0 Y Y Y Y (sg0 Y Y Y Y (sg0 Y Y Y Y (sg0 Y Y Y Y (sg0 Y Y Y Y (st (bF Y Y) Y (st (ah Y) Y (Run.nil (aa ?_)))))))))
   refine aE ?_
   refine aT Tryz.results76 (.tmp Y (ar ?_))
   congr 1
   simp at hb2
   have : ¬ (x=y):=by intro e;subst e;omega
   simp [this]
  ·simp at hb2
   refine sg1 Y Y (aj Y) Y (sg1 Y Y (ak 0 Y Y Y) Y (sg1 Y Y (aj Y) Y (sg1 Y Y (ak 1 Y Y Y) Y ?_)))
   refine sg1 Y Y (am (lJ _ _) Y ⟨VT.le_refl _,VT.le_refl _,trivial⟩) Y ?_
   refine sg1 Y Y (cK Y) Y (st (bj Y Y) Y (st (ah Y) Y (Run.nil (aa (aE ?_)))))
   refine aT Tryz.results76 (.tmp Y (ar ?_))
   congr 1
   rw [← decide_not,decide_eq_decide]
   omega
end Tor
end
section
namespace Tor
open Go Go.RowKit Go.Proofs
theorem gQ (l:List Nat) (k:Nat):lv (l.take (k+1))=lv (l.take k)+4294967296^k*l.getD k 0:=by
 by_cases hk:k<l.length
 ·exact bL hk
 ·rw [List.take_of_length_le Z,List.take_of_length_le Z]; simp [List.getElem?_eq_none (Nat.le_of_not_lt hk)]
structure RPlus (lx ly zl:List Nat) (c:Nat):Prop where
 lim:bE zl
 c1:c≤1
 val:lv zl+4294967296^zl.length*c=lv (lx.take zl.length)+lv (ly.take zl.length)
 len:zl.length≤max lx.length ly.length+1
 big:max lx.length ly.length<zl.length→c=0
theorem RPlus.step {lx ly zl:List Nat} {c:Nat} (h:RPlus lx ly zl c) (hx:bE lx) (hy:bE ly) (hgo:zl.length<lx.length∨zl.length<ly.length∨0<c) :
  RPlus lx ly (zl ++ [(c+lx.getD zl.length 0+ly.getD zl.length 0) % 4294967296]) ((c+lx.getD zl.length 0+ly.getD zl.length 0) / 4294967296):=by
 have h1:=a9 hx zl.length
 have h2:=a9 hy zl.length
 have h3:=h.c1
 refine ⟨fun d hd => ?_,by omega,?_,?_,?_⟩
 ·rcases List.mem_append.1 hd with hd | hd
  ·exact h.lim d hd
  ·simp at hd;omega
 ·simp only [List.length_append,List.length_cons,List.length_nil,Nat.zero_add]
  rw [fD,gQ,gQ,Nat.pow_succ]
  have hv:=h.val
  generalize lx.getD zl.length 0=x at *
  generalize ly.getD zl.length 0=y at *
  generalize 4294967296^zl.length=B at *
  have e:(c+x+y)=4294967296*((c+x+y) / 4294967296)+(c+x+y) % 4294967296:=by omega
  generalize (c+x+y) / 4294967296=q at *
  generalize (c+x+y) % 4294967296=r at *
  simp only [lv,Nat.mul_zero,Nat.add_zero]
  have e2:B*(c+x+y)=B*(4294967296*q+r):=by rw [e]
  simp only [Nat.mul_add,Nat.mul_assoc] at e2 ⊢
  omega
 ·simp only [List.length_append,List.length_cons,List.length_nil,Nat.zero_add]
  have:=h.big;omega
 ·simp only [List.length_append,List.length_cons,List.length_nil,Nat.zero_add]
  intro hb
  have e1:lx.getD zl.length 0=0:=by simp [List.getElem?_eq_none (show lx.length≤zl.length by omega)]
  have e2:ly.getD zl.length 0=0:=by simp [List.getElem?_eq_none (show ly.length≤zl.length by omega)]
  rw [e1,e2]; omega
theorem sf (zl:List Nat) (v:Nat) : ∀ q,q<zl.length+1→(if q<zl.length then one (.int .u32 (zl.getD q 0:Nat)) else one (.int .u32 (v:Nat)))=one (.int .u32 ((zl ++ [v]).getD q 0:Nat)):=by
 intro q hq
 rw [j5]
 by_cases h:q<zl.length
 ·rw [if_pos h,if_neg Z]
 ·have:q=zl.length:=by omega
  subst this
  rw [if_neg h,if_pos Y]
theorem gR {sv:Option Nat} {T:TypeId} {L:Lay} {cap n m:Nat} {φ ψ:Nat→VT} (h:n=m) (DP : ∀ q,q<n→φ q=ψ q):Own.le (aI sv T L cap n φ) (aI sv T L cap m ψ):=by
 subst h;exact be DP
theorem lK {sv:Option Nat} {n m cap:Nat} (h:n=m):VT.le (one (slV sv n cap)) (one (slV sv m cap)):=h▸VT.le_refl _
attribute [local irreducible] Tor.J Tor.PJ Tor.aK Tor.one Tor.slT Tor.bO Tor.bC Tor.bv Tor.exT Tor.cd Tor.eP Tor.aR Tor.aI Tor.slV Tor.VT.le Tor.Ret Tor.bJ
set_option maxHeartbeats 2000000 in
theorem yt (a b:Nat) (ha:(aJ a).length≤1099511627776) (hb:(aJ b).length≤1099511627776):Ok Tryz.prog 119 [co (aJ a),co (aJ b)] (o7 (a+b)):=by
 refine Ok.enter Tryz.func119 Y Tryz.ntmps119 Y (fun w O => ?_)
 have hx:=a5 a
 have hy:=a5 b
 have hva:=bX a
 have hvb:=bX b
 generalize aJ a=lx at *
 generalize aJ b=ly at *
 refine ae (ai (st (ah Y) Y (Run.nil (aa (ae (ai (m0 (n:=0) Y Y Y Y Y ?_)))))))
 refine PartsK.nil (fun b => ?_)
 refine st (ah Y) Y (st (ah Y) Y (Run.nil (aa (ae (ae (ai (st (ah Y) Y (Run.nil (aa ?_)))))))))
 refine au ?_
 refine cC (σ:=List Nat × Nat × Option Nat × Nat) (fun s => [(0,co lx),(1,co ly),(5,one (slV s.2.2.1 s.1.length s.2.2.2)),(6,one (.int .u64 (s.2.1:Nat))),(7,one (.int .i64 s.1.length))])
   (fun s => [aI s.2.2.1 86 .one s.2.2.2 s.1.length (fun q=>one (.int .u32 (s.1.getD q 0:Nat)))]) (fun s=>RPlus lx ly s.1 s.2.1) (fun s=>2*(max lx.length ly.length - s.1.length)+s.2.1) ([],0,some b,0)
   ⟨(fun d hd=>by cases hd),Nat.zero_le _,by simp [lv],by simp,by simp⟩ DS (.keep (be (fun q hq=>by omega)) .nil) (fun s hR => ?_)
 obtain ⟨zl,c,sv0,cap0⟩:=s
 simp only at hR ⊢
 have h3:=hR.c1
 have hlen:=hR.len
 refine ae (ae ?_)
 refine fA (σ:=Unit) (fun _ => [(0,co lx),(1,co ly),(5,one (slV sv0 zl.length cap0)),(6,one (.int .u64 (c:Nat))),(7,one (.int .i64 zl.length)),(22,one (.bool (decide (zl.length<lx.length∨zl.length<ly.length∨0<c))))])
  (fun _ => [aI sv0 86 .one cap0 zl.length (fun q=>one (.int .u32 (zl.getD q 0:Nat)))]) (fun _=>True) ?_ (fun _ _ => ?_)
 ·refine ai (st (ab Y) Y (st (ab Y) Y (st (aU Y) Y (st (a7 Y Y) Y (st (ab Y) Y ?_)))))
  refine mZ (t:=13) Y (fun b h1 => ?_)
  rw [h1]
  cases b
  ·simp at h1
   refine sg1 Y Y (ab Y) Y (sg1 Y Y (ab Y) Y (sg1 Y Y (aU Y) Y (sg1 Y Y (a7 Y Y) Y (st (bF Y Y) Y (st (ab Y) Y ?_)))))
   refine mZ (t:=19) Y (fun b h2 => ?_)
   rw [h2]
   cases b
   ·simp at h2
    refine sg1 Y Y (ab Y) Y (sg1 Y Y (c7 Y Y) Y (st (bF Y Y) Y (Run.nil ?_)))
    exact cT () trivial (.cons Y H (.cons Y H (.cons Y H (.cons Y H (.cons Y H (.cons Y (ar (by congr 1;rw [decide_eq_decide]; omega)) .nil)))))) (SubM.refl _)
   ·simp at h2
    refine sg0 Y Y Y Y (sg0 Y Y Y Y (st (bj Y Y) Y (Run.nil ?_)))
    exact cT () trivial (.cons Y H (.cons Y H (.cons Y H (.cons Y H (.cons Y H (.cons Y (ar (by simp;omega)) .nil)))))) (SubM.refl _)
  ·simp at h1
   refine sg0 Y Y Y Y (sg0 Y Y Y Y (sg0 Y Y Y Y (sg0 Y Y Y Y (st (bj Y Y) Y (st (ab Y) Y (sg0 Y Y Y Y (sg0 Y Y Y Y (st (bj Y Y) Y (Run.nil ?_)))))))))
   exact cT () trivial (.cons Y H (.cons Y H (.cons Y H (.cons Y H (.cons Y H (.cons Y (ar (by simp;omega)) .nil)))))) (SubM.refl _)
 ·refine aa ?_
  refine a8 Y (fun hc => ?_) (fun hc => ?_) <;> simp only [decide_eq_true_eq,decide_eq_false_iff_not] at hc
  ·have hstep:=hR.step hx hy hc
   have g1:=a9 hx zl.length
   have g2:=a9 hy zl.length
   refine az (aa (ae (au (ae (ae (ai (st (ab Y) Y (st (ab Y) Y (st (aU Y) Y ?_)))))))))
   refine st (a7 Y Y) Y (Run.nil (aa ?_))
   refine fA (σ:=Unit) (fun _ => [(0,co lx),(1,co ly),(5,one (slV sv0 zl.length cap0)),(6,one (.int .u64 (c+lx.getD zl.length 0:Nat))),(7,one (.int .i64 zl.length))])
    (fun _ => [aI sv0 86 .one cap0 zl.length (fun q=>one (.int .u32 (zl.getD q 0:Nat)))]) (fun _=>True) ?_ (fun _ _ => ?_)
   ·refine a8 Y (fun hc2 => ?_) (fun hc2 => ?_) <;> simp only [decide_eq_true_eq,decide_eq_false_iff_not] at hc2
    ·refine ai (st (ab Y) Y (st (ab Y) Y (st (ab Y) Y ?_)))
     (refine st (aC Y Y ?_) Y ?_;omega)
     refine st (aM Y) Y ?_
     (refine st (bT Y ?_) Y ?_;omega)
     (refine st (dT Y Y ?_) Y ?_;omega)
     refine st (ah Y) Y (Run.nil ?_)
     exact cT () trivial DS (SubM.refl _)
    ·have e0:lx.getD zl.length 0=0:=by simp [List.getElem?_eq_none (show lx.length≤zl.length by omega)]
     refine az ?_
     exact cT () trivial DS (SubM.refl _)
   ·refine aa (ae (ae (ai (st (ab Y) Y (st (ab Y) Y (st (aU Y) Y (st (a7 Y Y) Y (Run.nil (aa ?_)))))))))
    refine fA (σ:=Unit) (fun _ => [(0,co lx),(1,co ly),(5,one (slV sv0 zl.length cap0)),(6,one (.int .u64 (c+lx.getD zl.length 0+ly.getD zl.length 0:Nat))),(7,one (.int .i64 zl.length))])
     (fun _ => [aI sv0 86 .one cap0 zl.length (fun q=>one (.int .u32 (zl.getD q 0:Nat)))]) (fun _=>True) ?_ (fun _ _ => ?_)
    ·refine a8 Y (fun hc2 => ?_) (fun hc2 => ?_) <;> simp only [decide_eq_true_eq,decide_eq_false_iff_not] at hc2
     ·refine ai (st (ab Y) Y (st (ab Y) Y (st (ab Y) Y ?_)))
      (refine st (aC Y Y ?_) Y ?_;omega)
      refine st (aM Y) Y ?_
      (refine st (bT Y ?_) Y ?_;omega)
      (refine st (dT Y Y ?_) Y ?_;omega)
      refine st (ah Y) Y (Run.nil ?_)
      exact cT () trivial DS (SubM.refl _)
     ·have e0:ly.getD zl.length 0=0:=by simp [List.getElem?_eq_none (show ly.length≤zl.length by omega)]
      refine az ?_
      exact cT () trivial DS (SubM.refl _)
    ·refine aa (ae (ai (st (ab Y) Y (st (ab Y) Y (st (cG Y) Y (fS Y Y Y Y ?_))))))
     (refine cS 0 Y Y Y (leN Y) ?_ ?_ Y (ltN Y) (fun sv cap => ?_);omega;omega)
     refine st (ah Y) Y (Run.nil (aa (ai (st (ab Y) Y ?_))))
     (refine st (uP Y ?_) Y ?_;omega)
     refine st (ah Y) Y (Run.nil (aD (aa (ai (st (ab Y) Y ?_)))))
     (refine st (cp Y Y (aP ?_ ?_)) Y ?_;omega;omega)
     refine st (ah Y) Y (Run.nil ?_)
     refine bU (s:=(zl,c,sv0,cap0)) (zl ++ [(c+lx.getD zl.length 0+ly.getD zl.length 0) % 4294967296],(c+lx.getD zl.length 0+ly.getD zl.length 0) / 4294967296,sv,cap) hstep ?_ (.cons Y H (.cons Y H (.cons Y (lK (by simp)) (.cons Y H (.cons Y (ar (by simp)) .nil))))) (.keep (gR (by simp) (fun q hq=>sf zl _ q (by simpa using hq))) .nil)
     have h8:=hstep.c1
     have h9:=hstep.big
     have h10:=hR.big
     simp only [List.length_append,List.length_cons,List.length_nil,Nat.zero_add] at *
     omega
  ·refine aX (av (av (aF (aa (ae (ai (st (ab Y) Y (st (ah Y) Y (Run.nil ?_)))))))))
   refine aa (aE (cq (t:=4) (i:=0) Y Y ?_))
   refine aT Tryz.results119 (.tmp Y (iq (l:=zl) hR.lim ?_ Z))
   have h4:=hR.val
   have h5:c=0:=by omega
   rw [h5,List.take_of_length_le Z,List.take_of_length_le Z,hva,hvb] at h4
   omega
end Tor
end
section
namespace Tor
open Go Go.RowKit Go.Proofs
theorem RMinus.step {lx ly zl:List Nat} {c:Nat} (h:MinusR lx ly zl c) (hx:bE lx) (hy:bE ly) (hl:ly.length≤lx.length) (hlt:zl.length<lx.length) :
  MinusR lx ly (zl ++ [(lx.getD zl.length 0+4294967296 - c - ly.getD zl.length 0) % 4294967296]) (if lx.getD zl.length 0<c+ly.getD zl.length 0 then 1 else 0):=by
 have h1:=a9 hx zl.length
 have h2:=a9 hy zl.length
 have h3:=h.c1
 have:=h.step hx hy hl hlt Y
 generalize lx.getD zl.length 0=x at *
 generalize ly.getD zl.length 0=y at *
 have e1:((x+18446744073709551616 - c) % 18446744073709551616+18446744073709551616 - y) % 18446744073709551616 % 4294967296=(x+4294967296 - c - y) % 4294967296:=by omega
 have e2:((x+18446744073709551616 - c) % 18446744073709551616+18446744073709551616 - y) % 18446744073709551616 / 9223372036854775808=if x<c+y then 1 else 0:=by split <;> omega
 rw [e1,e2] at this
 exact this
theorem wo (zl:List Nat) (v:Nat) : ∀ q,q<zl.length+1→v<4294967296→(if q<zl.length then one (.int .u32 (zl.getD q 0:Nat)) else one (.int .u32 (v % 4294967296:Nat)))=one (.int .u32 ((zl ++ [v]).getD q 0:Nat)):=by
 intro q hq hv
 rw [Nat.mod_eq_of_lt hv]
 exact sf zl v q hq
attribute [local irreducible] Tor.J Tor.PJ Tor.aK Tor.one Tor.slT Tor.bO Tor.bC Tor.bv Tor.exT Tor.cd Tor.eP Tor.aR Tor.aI Tor.slV Tor.VT.le Tor.Ret Tor.bJ
set_option maxHeartbeats 2000000 in
theorem pN (a b:Nat) (hab:b≤a) (ha:(aJ a).length≤1099511627776):Ok Tryz.prog 121 [co (aJ a),co (aJ b)] (o7 (a - b)):=by
 refine Ok.enter Tryz.func121 Y Tryz.ntmps121 Y (fun w O => ?_)
 have hx:=a5 a
 have hy:=a5 b
 have hl:=bZ hab
 have hva:=bX a
 have hvb:=bX b
 generalize aJ a=lx at *
 generalize aJ b=ly at *
 refine ae (ai (st (ah Y) Y (Run.nil (aa (ae (ai (m0 (n:=0) Y Y Y Y Y ?_)))))))
 refine PartsK.nil (fun b => ?_)
 refine st (ah Y) Y (st (ah Y) Y (Run.nil (aa (ae (ae (ai (st (ah Y) Y (Run.nil (aa ?_)))))))))
 refine au ?_
 refine cC (σ:=List Nat × Nat × Option Nat × Nat) (fun s => [(0,co lx),(1,co ly),(5,one (slV s.2.2.1 s.1.length s.2.2.2)),(6,one (.int .i64 (s.2.1:Nat))),(7,one (.int .i64 s.1.length))])
   (fun s => [aI s.2.2.1 86 .one s.2.2.2 s.1.length (fun q=>one (.int .u32 (s.1.getD q 0:Nat)))]) (fun s=>MinusR lx ly s.1 s.2.1) (fun s=>lx.length - s.1.length) ([],0,some b,0)
   ⟨by simp,(fun d hd=>by cases hd),Nat.zero_le _,by simp [lv]⟩ DS (.keep (be (fun q hq=>by omega)) .nil) (fun s hR => ?_)
 obtain ⟨zl,c,sv0,cap0⟩:=s
 simp only at hR ⊢
 have h3:=hR.c1
 have hlen:=hR.len
 refine ae (ae (ai (st (ab Y) Y (st (ab Y) Y (st (aU Y) Y (st (a7 Y Y) Y (Run.nil (aa ?_))))))))
 refine a8 Y (fun hc => ?_) (fun hc => ?_) <;> simp at hc
 ·have hstep:=RMinus.step hR hx hy hl hc
  have g1:=a9 hx zl.length
  have g2:=a9 hy zl.length
  refine az (aa (ae (au (ae (ai (st (ab Y) Y (st (ab Y) Y ?_)))))))
  (refine st (aC Y Y ?_) Y ?_;omega)
  refine st (aM Y) Y ?_
  (refine st (ed Y ?_ ?_) Y ?_;omega;omega)
  refine st (ab Y) Y ?_
  (refine st (ei Y Y (aP ?_ ?_)) Y ?_;omega;omega)
  refine st (ah Y) Y (Run.nil (aa (ae (ae (ai (st (ab Y) Y (st (ab Y) Y (st (aU Y) Y (st (a7 Y Y) Y ?_)))))))))
  refine Run.nil (aa ?_)
  refine fA (σ:=Unit) (fun _ => [(0,co lx),(1,co ly),(5,one (slV sv0 zl.length cap0)),(8,one (.int .i64 ((lx.getD zl.length 0:Nat) - (c:Nat) - (ly.getD zl.length 0:Nat)))),(7,one (.int .i64 zl.length))])
   (fun _ => [aI sv0 86 .one cap0 zl.length (fun q=>one (.int .u32 (zl.getD q 0:Nat)))]) (fun _=>True) ?_ (fun _ _ => ?_)
  ·refine a8 Y (fun hc => ?_) (fun hc => ?_) <;> simp at hc
   ·refine ai (st (ab Y) Y (st (ab Y) Y (st (ab Y) Y ?_)))
    (refine st (aC Y Y ?_) Y ?_;omega)
    refine st (aM Y) Y ?_
    (refine st (ed Y ?_ ?_) Y ?_;omega;omega)
    (refine st (ei Y Y (aP ?_ ?_)) Y ?_;omega;omega)
    refine st (ah Y) Y (Run.nil ?_)
    exact cT () trivial DS (SubM.refl _)
   ·have e0:ly.getD zl.length 0=0:=by simp [List.getElem?_eq_none (show ly.length≤zl.length by omega)]
    refine az ?_
    exact cT () trivial DS (SubM.refl _)
  ·generalize lx.getD zl.length 0=x at *
   generalize ly.getD zl.length 0=y at *
   refine aa (ae (ai (st (ah Y) Y (Run.nil (aa (ae (ae (ai (st (ab Y) Y ?_)))))))))
   refine st (a7 Y Y) Y (Run.nil (aa ?_))
   refine fA (σ:=Unit) (fun _ => [(0,co lx),(1,co ly),(5,one (slV sv0 zl.length cap0)),(6,one (.int .i64 ((if x<c+y then 1 else 0:Nat)))),(8,one (.int .i64 ((x+4294967296 - c - y) % 4294967296:Nat))),(7,one (.int .i64 zl.length))])
    (fun _ => [aI sv0 86 .one cap0 zl.length (fun q=>one (.int .u32 (zl.getD q 0:Nat)))]) (fun _=>True) ?_ (fun _ _ => ?_)
   ·refine a8 Y (fun hc => ?_) (fun hc => ?_) <;> simp at hc
    ·refine ae (ai (st (ab Y) Y ?_))
     (refine st (cp Y Y (aP ?_ ?_)) Y ?_;omega;omega)
     refine st (ah Y) Y (Run.nil (aa (ai (st (ah Y) Y (Run.nil ?_)))))
     rw [if_pos Z]
     exact cT () trivial (.cons Y H (.cons Y H (.cons Y H (.cons Y H (.cons Y (ar (by congr 1;omega)) (.cons Y H .nil)))))) (SubM.refl _)
    ·refine az ?_
     rw [if_neg Z]
     exact cT () trivial (.cons Y H (.cons Y H (.cons Y H (.cons Y H (.cons Y (ar (by congr 1;omega)) (.cons Y H .nil)))))) (SubM.refl _)
   ·generalize (x+4294967296 - c - y) % 4294967296=d at *
    generalize (if x<c+y then 1 else 0)=c2 at *
    refine aa (ai (st (ab Y) Y (st (ab Y) Y (st (cG Y) Y (fS Y Y Y Y ?_)))))
    (refine cS 0 Y Y Y (leN Y) ?_ ?_ Y (ltN Y) (fun sv cap => ?_);omega;omega)
    refine st (ah Y) Y (Run.nil (aD (aa (ai (st (ab Y) Y ?_)))))
    (refine st (cp Y Y (aP ?_ ?_)) Y ?_;omega;omega)
    refine st (ah Y) Y (Run.nil ?_)
    refine bU (s:=(zl,c,sv0,cap0)) (zl ++ [d],c2,sv,cap) hstep ?_ (.cons Y H (.cons Y H (.cons Y (lK (by simp)) (.cons Y H (.cons Y (ar (by simp)) .nil))))) (.keep (gR (by simp) (fun q hq=>wo zl _ q (by simpa using hq) (hstep.lim d (by simp)))) .nil)
    simp only [List.length_append,List.length_cons,List.length_nil,Nat.zero_add] at *
    omega
 ·have hlen:zl.length=lx.length:=by have:=hR.len;omega
  refine aX (av (av (aF (aa (ae (ai (st (ab Y) Y (st (ah Y) Y (Run.nil ?_)))))))))
  refine aa (aE (cq (t:=4) (i:=0) Y Y ?_))
  refine aT Tryz.results121 (.tmp Y (iq (l:=zl) hR.lim ?_ Z))
  have h4:=hR.val
  rw [hlen,List.take_length,List.take_of_length_le Z,hva,hvb] at h4
  have h5:=gO hR.lim
  rw [hlen] at h5
  have h6:=gO hx
  rcases Nat.le_one_iff_eq_zero_or_eq_one.1 hR.c1 with h7 | h7 <;> simp only [h7,Nat.mul_zero,Nat.mul_one,Nat.add_zero] at h4 <;> omega
end Tor
end
section
namespace Tor
open Go Go.RowKit Go.Proofs
theorem sh (u:Nat) (h:u<18446744073709551616):VT.le (slT .one 2 (fun q => [one (.int .u32 ((u / 4294967296 % 4294967296:Nat):Int)),one (.int .u32 ((u % 4294967296:Nat):Int))].reverse.getD q bJ)) (o7 u):=by
 refine VT.le_trans (cE (m:=2) (ψ:=fun i=>one (.int .u32 ([u % 4294967296,u / 4294967296 % 4294967296].getD i 0:Nat))) Y (fun q hq => ?_)) (iq (l := [u % 4294967296,u / 4294967296 % 4294967296]) (fun d hd => ?_) ?_ (by simp))
 ·match q,hq with
  | 0, _ => rfl
  | 1, _ => rfl
 ·simp at hd;omega
 ·simp only [lv]; omega
attribute [local irreducible] Tor.J Tor.PJ Tor.aK Tor.one Tor.slT Tor.bO Tor.bC Tor.bv Tor.exT Tor.cd Tor.eP Tor.aR Tor.aI Tor.slV Tor.VT.le Tor.Ret Tor.bJ
theorem gS (n:Int) (h1 : -9223372036854775808≤n) (h2:n≤9223372036854775807):Ok Tryz.prog 12 [one (.int .i64 n)] (aL n):=by
 refine Ok.enter Tryz.func12 Y Tryz.ntmps12 Y (fun w O => ?_)
 by_cases hn:n<0
 ·refine ae (ai ?_)
  refine aG (T:=37) Y (ltN Y) (fun b => ?_)
  refine Run.nil (aa (ae (ai (st (ab Y) Y (st (js (r:=((18446744073709551616 - n.natAbs:Nat):Int)) Y (by rw [dq]; omega)) Y (st (ah Y) Y (Run.nil (aa (ae ?_)))))))))
  refine ae (ai (st (ab Y) Y (st (a7 Y Y) Y (Run.nil (aa ?_)))))
  refine a8 Y (fun hc => ?_) (fun hc => ?_) <;> simp at hc
  ·refine ai (st (ab Y) Y (st (BU (r:=(n.natAbs:Int)) Y (by rw [dq]; omega)) Y (st (ah Y) Y (Run.nil (aa (ae (ai (st (ab Y) Y (st (cG Y) Y ?_)))))))))
   refine st (ab Y) Y (st (gk Y) Y (st (cG Y) Y (stS Y Y Y Y (PartsK.cons Y (PartsK.cons Y (PartsK.nil (st (ab Y) Y (st (a7 Y Y) Y ?_))))))))
   refine st (am (dh (decide (n<0)) n.natAbs) Y ⟨sh _ Z,VT.le_refl _,trivial⟩) Y ?_
   refine aA 0 Y Y Y Y Y (leN Y) Y (Run.nil (aa (aE ?_)))
   exact aT Tryz.results12 (.cellB 0 Y Y Y (cf (by rw [decide_eq_true hn,if_pos Y]; omega)))
  ·omega
 ·refine ae (ai ?_)
  refine aG (T:=37) Y (ltN Y) (fun b => ?_)
  refine Run.nil (aa (ae (ai (st (ab Y) Y (st (js (r:=(n.natAbs:Int)) Y (by rw [dq]; omega)) Y (st (ah Y) Y (Run.nil (aa (ae ?_)))))))))
  refine ae (ai (st (ab Y) Y (st (a7 Y Y) Y (Run.nil (aa ?_)))))
  refine a8 Y (fun hc => ?_) (fun hc => ?_) <;> simp at hc
  ·omega
  ·refine az (aa (ae (ai (st (ab Y) Y (st (cG Y) Y (st (ab Y) Y (st (gk Y) Y (st (cG Y) Y (stS Y Y Y Y ?_)))))))))
   refine PartsK.cons Y (PartsK.cons Y (PartsK.nil (st (ab Y) Y (st (a7 Y Y) Y ?_))))
   refine st (am (dh (decide (n<0)) n.natAbs) Y ⟨sh _ Z,VT.le_refl _,trivial⟩) Y ?_
   refine aA 0 Y Y Y Y Y (leN Y) Y (Run.nil (aa (aE ?_)))
   exact aT Tryz.results12 (.cellB 0 Y Y Y (cf (by rw [decide_eq_false hn]; simp;omega)))
set_option maxHeartbeats 1000000 in
theorem AB (n1 n2:Bool) (v1 v2:Nat) (h1:(aJ v1).length≤1099511627776) (h2:(aJ v2).length≤1099511627776):Ok Tryz.prog 71 [sgT n1 v1,sgT n2 v2] (aL (sv n1 v1+sv n2 v2)):=by
 refine Ok.enter Tryz.func71 Y Tryz.ntmps71 Y (fun w O => ?_)
 refine ae (ai ?_)
 refine aS Y Y (ltN Y) (fun b => ?_)
 refine aS Y Y (ltN Y) (fun b => ?_)
 refine aG (T:=37) Y (ltN Y) (fun b => ?_)
 refine Run.nil (aa (ae (ae (ai (st (aj Y) Y (st (ak 2 Y Y Y) Y (st (aj Y) Y (st (ak 1 Y Y Y) Y (st (xE Y Y) Y ?_)))))))))
 refine Run.nil (aa ?_)
 refine a8 Y (fun hc => ?_) (fun hc => ?_) <;> simp at hc
 ·subst hc
  refine ae (a6 8 aZ X S (st (aj Y) Y (st (ak 2 Y Y Y) Y (st (aj Y) Y (st (ak 1 Y Y Y) Y ?_)))))
  refine st (am (yt _ _ h1 h2) Y ⟨VT.le_refl _,VT.le_refl _,trivial⟩) Y ?_
  refine st (aj Y) Y (st (ak 2 Y Y Y) Y ?_)
  refine st (am (dh _ _) Y ⟨VT.le_refl _,VT.le_refl _,trivial⟩) Y ?_
  refine Run.nil (aA 0 Y Y Y Y Y (leN Y) Y (Run.nil (aa (aE (aW ?_)))))
  exact aT Tryz.results71 (.cellB 0 Y Y Y (cf (by unfold sv;split <;> omega)))
 ·refine az (aa (ae (ae (ai (st (aj Y) Y (st (ak 2 Y Y Y) Y (st (aj Y) Y (st (ak 1 Y Y Y) Y ?_))))))))
  refine st (am (lJ _ _) Y ⟨VT.le_refl _,VT.le_refl _,trivial⟩) Y ?_
  refine Run.nil (aa ?_)
  refine a8 Y (fun hc2 => ?_) (fun hc2 => ?_) <;> simp at hc2
  ·refine ae (a6 8 aZ X S (st (aj Y) Y (st (ak 1 Y Y Y) Y (st (aj Y) Y (st (ak 2 Y Y Y) Y ?_)))))
   refine st (am (pN _ _ Z h2) Y ⟨VT.le_refl _,VT.le_refl _,trivial⟩) Y ?_
   refine st (aj Y) Y (st (ak 1 Y Y Y) Y ?_)
   refine st (am (dh _ _) Y ⟨VT.le_refl _,VT.le_refl _,trivial⟩) Y ?_
   refine Run.nil (aA 0 Y Y Y Y Y (leN Y) Y (Run.nil (aa (aE (aW ?_)))))
   exact aT Tryz.results71 (.cellB 0 Y Y Y (cf (by unfold sv;cases n1 <;> cases n2 <;> simp at hc ⊢ <;> omega)))
  ·refine az (aa (ae (a6 8 aZ X S (st (aj Y) Y (st (ak 2 Y Y Y) Y (st (aj Y) Y (st (ak 1 Y Y Y) Y ?_)))))))
   refine st (am (pN _ _ Z h1) Y ⟨VT.le_refl _,VT.le_refl _,trivial⟩) Y ?_
   refine st (aj Y) Y (st (ak 2 Y Y Y) Y ?_)
   refine st (am (dh _ _) Y ⟨VT.le_refl _,VT.le_refl _,trivial⟩) Y ?_
   refine Run.nil (aA 0 Y Y Y Y Y (leN Y) Y (Run.nil (aa (aE ?_))))
   exact aT Tryz.results71 (.cellB 0 Y Y Y (cf (by unfold sv;cases n1 <;> cases n2 <;> simp at hc ⊢ <;> omega)))
end Tor
end
section
namespace Tor
open Go Go.RowKit Go.Proofs
structure RTimesR (lx ly zz:List Nat) (i:Nat):Prop where
 le:i≤lx.length
 len:zz.length=lx.length+ly.length+1
 lim:bE zz
 zero : ∀ k,i+ly.length≤k→zz.getD k 0=0
 val:lv zz=lv (lx.take i)*lv ly
structure RTimesI (lx ly z0 zz:List Nat) (i j c:Nat):Prop where
 le:j≤ly.length+1
 top:ly.length<j→c=0
 len:zz.length=lx.length+ly.length+1
 lim:bE zz
 zero : ∀ k,i+ly.length<k→zz.getD k 0=0
 zer1:j≤ly.length→zz.getD (i+ly.length) 0=0
 c1:c<4294967296
 val:lv zz+4294967296^(i+j)*c=lv z0+4294967296^i*(lx.getD i 0*lv (ly.take j))
theorem RTimesI.step {lx ly z0 zz:List Nat} {i j c:Nat} (h:RTimesI lx ly z0 zz i j c) (hx:bE lx) (hy:bE ly) (hi:i<lx.length) (hgo:j<ly.length∨0<c) :
  RTimesI lx ly z0 (zz.set (i+j) ((c+zz.getD (i+j) 0+lx.getD i 0*ly.getD j 0) % 4294967296)) i (j+1) ((c+zz.getD (i+j) 0+lx.getD i 0*ly.getD j 0) / 4294967296):=by
 have hj:j≤ly.length:=by have:=h.le;have:=h.top;omega
 have hlim:=lG (a9 hx i) (a9 hy j) (a9 h.lim (i+j)) h.c1
 have hlt:i+j<zz.length:=by rw [h.len]; omega
 refine ⟨by omega,fun ht => ?_,by rw [List.length_set]; exact h.len,h.lim.set Z,fun k hk => ?_,fun hk => ?_,by omega,?_⟩
 ·have e:j=ly.length:=by omega
  subst e
  rw [h.zer1 (Nat.le_refl _)]
  have e2:ly.getD ly.length 0=0:=by simp
  rw [e2,Nat.mul_zero]
  have:=h.c1;omega
 ·rw [d4 hlt,if_neg Z]; exact h.zero k hk
 ·rw [d4 hlt,if_neg Z]; exact h.zer1 Z
 ·have hs:=fF (l:=zz) (k:=i+j) (v:=(c+zz.getD (i+j) 0+lx.getD i 0*ly.getD j 0) % 4294967296) hlt
  have hv:=h.val
  rw [gQ]
  generalize lx.getD i 0=x at *
  generalize ly.getD j 0=y at *
  generalize zz.getD (i+j) 0=z at *
  have e:c+z+x*y=4294967296*((c+z+x*y) / 4294967296)+(c+z+x*y) % 4294967296:=by omega
  generalize (c+z+x*y) / 4294967296=q at *
  generalize (c+z+x*y) % 4294967296=r at *
  rw [show i+(j+1)=(i+j)+1 by omega,Nat.pow_succ]
  have eB:4294967296^i*4294967296^j=4294967296^(i+j):=(Nat.pow_add _ _ _).symm
  have e3:4294967296^i*(x*(lv (ly.take j)+4294967296^j*y))=4294967296^i*(x*lv (ly.take j))+4294967296^(i+j)*(x*y):=by
   rw [Nat.mul_add,Nat.mul_add, ← eB]
   congr 1
   rw [Nat.mul_assoc]; congr 1
   rw [Nat.mul_left_comm]
  rw [e3]
  generalize 4294967296^(i+j)=B at *
  have e2:B*(c+z+x*y)=B*(4294967296*q+r):=by rw [e]
  simp only [Nat.mul_add, ← Nat.mul_assoc] at e2 ⊢ hs hv
  omega
theorem RTimesR.start {lx ly z0:List Nat} {i:Nat} (h:RTimesR lx ly z0 i):RTimesI lx ly z0 z0 i 0 0 :=
 ⟨Nat.zero_le _,fun _=>rfl,h.len,h.lim,fun k hk=>h.zero k Z,fun _=>h.zero _ (Nat.le_refl _),by omega,by simp [lv]⟩
theorem RTimesI.finish {lx ly z0 zz:List Nat} {i j:Nat} (h0:RTimesR lx ly z0 i) (h:RTimesI lx ly z0 zz i j 0) (hj:ly.length≤j) (hi:i<lx.length):RTimesR lx ly zz (i+1):=by
 refine ⟨hi,h.len,h.lim,fun k hk=>h.zero k Z,?_⟩
 have hv:=h.val
 rw [Nat.mul_zero,Nat.add_zero,List.take_of_length_le hj,h0.val] at hv
 rw [hv,bL hi,Nat.add_mul,Nat.mul_assoc]
attribute [local irreducible] Tor.J Tor.PJ Tor.aK Tor.one Tor.slT Tor.bO Tor.bC Tor.bv Tor.exT Tor.cd Tor.eP Tor.aR Tor.aI Tor.slV Tor.VT.le Tor.Ret Tor.bJ
attribute [local irreducible] aL
set_option maxHeartbeats 4000000 in
theorem AC (n1 n2:Bool) (v1 v2:Nat) (h1:(aJ v1).length≤1099511627776) (h2:(aJ v2).length≤1099511627776):Ok Tryz.prog 35 [sgT n1 v1,sgT n2 v2] (aL (sv n1 v1*sv n2 v2)):=by
 unfold sgT
 refine Ok.enter Tryz.func35 Y Tryz.ntmps35 Y (fun w O => ?_)
 have hx:=a5 v1
 have hy:=a5 v2
 have hva:=bX v1
 have hvb:=bX v2
 generalize aJ v1=lx at *
 generalize aJ v2=ly at *
 refine ae (ai ?_)
 refine aS Y Y (ltN Y) (fun b => ?_)
 refine aS Y Y (ltN Y) (fun b => ?_)
 refine aG (T:=37) Y (ltN Y) (fun b => ?_)
 refine Run.nil (aa (ae (ai (st (aj Y) Y (st (ak 2 Y Y Y) Y (st (aU Y) Y (st (aj Y) Y (st (ak 1 Y Y Y) Y (st (aU Y) Y ?_)))))))))
 (refine st (cp Y Y (aP ?_ ?_)) Y ?_;omega;omega)
 (refine st (cp Y Y (aP ?_ ?_)) Y ?_;omega;omega)
 rename_i ba bb
 refine bV (lx.length+ly.length+1) (lx.length+ly.length+1) Y Y (by simp) (by simp) (Nat.le_refl _) Y Y Z Y Y (fun bz => ?_)
 refine st (ah Y) Y (Run.nil (aa (ae (ae (ai (st (ah Y) Y (Run.nil (aa (au ?_)))))))))
 refine cC (σ:=List Nat × Nat) (fun s => [(2,one (.pointer (some ⟨ba,0,none⟩))),(3,one (.pointer (some ⟨bb,0,none⟩))),(4,one (.pointer (some ⟨b,0,none⟩))),(5,one (slV (some bz) (lx.length+ly.length+1) (lx.length+ly.length+1))),(6,one (.int .i64 (s.2:Nat)))])
   (fun s => [aI (some bz) 86 .one (lx.length+ly.length+1) (lx.length+ly.length+1) (fun q=>one (.int .u32 (s.1.getD q 0:Nat))),aR b 37 2 [(0, .agg 2,one (.agg #[.bool false, .slice none 0 0]))],aR bb 37 2 [(0, .one,one (.bool n2)),(1, .one,co ly)],aR ba 37 2 [(0, .one,one (.bool n1)),(1, .one,co lx)]])
   (fun s=>RTimesR lx ly s.1 s.2) (fun s=>lx.length - s.2) (List.replicate (lx.length+ly.length+1) 0,0)
   ⟨Nat.zero_le _,by simp,bE.replicate _,fun k _=>cy _ _,by simp [dQ,lv]⟩ DS (.keep (be (fun q _=>by rw [cy]; rfl)) (SubM.refl _)) (fun s hR => ?_)
 obtain ⟨z0,i⟩:=s
 simp only at hR ⊢
 refine ae (ae (ai (st (ab Y) Y (st (aj Y) Y (st (ak 3 Y Y Y) Y (st (aU Y) Y (st (a7 Y Y) Y (Run.nil (aa ?_)))))))))
 refine a8 Y (fun hc => ?_) (fun hc => ?_) <;> simp at hc
 ·have g1:=a9 hx i
  refine az (aa (ae (au (ae (ai (st (ah Y) Y (Run.nil (aa (ae ?_)))))))))
  refine ai (st (ah Y) Y (Run.nil (aa (au ?_))))
  refine cC (σ:=List Nat × Nat × Nat) (fun s => [(2,one (.pointer (some ⟨ba,0,none⟩))),(3,one (.pointer (some ⟨bb,0,none⟩))),(4,one (.pointer (some ⟨b,0,none⟩))),(5,one (slV (some bz) (lx.length+ly.length+1) (lx.length+ly.length+1))),(6,one (.int .i64 (i:Nat))),(7,one (.int .u64 (s.2.2:Nat))),(8,one (.int .i64 (s.2.1:Nat)))])
   (fun s => [aI (some bz) 86 .one (lx.length+ly.length+1) (lx.length+ly.length+1) (fun q=>one (.int .u32 (s.1.getD q 0:Nat))),aR b 37 2 [(0, .agg 2,one (.agg #[.bool false, .slice none 0 0]))],aR bb 37 2 [(0, .one,one (.bool n2)),(1, .one,co ly)],aR ba 37 2 [(0, .one,one (.bool n1)),(1, .one,co lx)]])
   (fun s=>RTimesI lx ly z0 s.1 i s.2.1 s.2.2) (fun s=>ly.length+1 - s.2.1) (z0,0,0)
   hR.start DS (SubM.refl _) (fun s hI => ?_)
  obtain ⟨zz,j,c⟩:=s
  simp only at hI ⊢
  have g0:=hI.c1
  have gj:=hI.le
  refine ae (ae ?_)
  refine fA (σ:=Unit) (fun _ => [(2,one (.pointer (some ⟨ba,0,none⟩))),(3,one (.pointer (some ⟨bb,0,none⟩))),(4,one (.pointer (some ⟨b,0,none⟩))),(5,one (slV (some bz) (lx.length+ly.length+1) (lx.length+ly.length+1))),(6,one (.int .i64 (i:Nat))),(7,one (.int .u64 (c:Nat))),(8,one (.int .i64 (j:Nat))),(33,one (.bool (decide (j<ly.length∨0<c))))])
   (fun _ => [aI (some bz) 86 .one (lx.length+ly.length+1) (lx.length+ly.length+1) (fun q=>one (.int .u32 (zz.getD q 0:Nat))),aR b 37 2 [(0, .agg 2,one (.agg #[.bool false, .slice none 0 0]))],aR bb 37 2 [(0, .one,one (.bool n2)),(1, .one,co ly)],aR ba 37 2 [(0, .one,one (.bool n1)),(1, .one,co lx)]]) (fun _=>True) ?_ (fun _ _ => ?_)
  ·refine ai (st (ab Y) Y (st (aj Y) Y (st (ak 2 Y Y Y) Y (st (aU Y) Y (st (a7 Y Y) Y (st (ab Y) Y ?_))))))
   refine mZ (t:=29) Y (fun bo hb => ?_)
   rw [hb]
   cases bo
   ·simp at hb
    refine sg1 Y Y (ab Y) Y (sg1 Y Y (c7 Y Y) Y (st (bF Y Y) Y (Run.nil ?_)))
    exact cT () trivial (.cons Y H (.cons Y H (.cons Y H (.cons Y H (.cons Y H (.cons Y H (.cons Y H (.cons Y (ar (by congr 1;rw [decide_eq_decide]; omega)) .nil)))))))) (SubM.refl _)
   ·simp at hb
    refine sg0 Y Y Y Y (sg0 Y Y Y Y (st (bj Y Y) Y (Run.nil ?_)))
    exact cT () trivial (.cons Y H (.cons Y H (.cons Y H (.cons Y H (.cons Y H (.cons Y H (.cons Y H (.cons Y (ar (by simp;omega)) .nil)))))))) (SubM.refl _)
  ·refine aa ?_
   refine a8 Y (fun hc2 => ?_) (fun hc2 => ?_) <;> simp only [decide_eq_true_eq,decide_eq_false_iff_not] at hc2
   ·have hstep:=hI.step hx hy hc hc2
    have hjl:j≤ly.length:=by have:=hI.top;omega
    have g2:=a9 hy j
    have g3:=a9 hI.lim (i+j)
    have g4:=lG g1 g2 g3 g0
    have hlt:i+j<zz.length:=by rw [hI.len]; omega
    refine az (aa (ae (au (ae (ai (st (ab Y) Y (st (ab Y) Y (st (ab Y) Y (st (ab Y) Y ?_)))))))))
    (refine st (cp Y Y (aP ?_ ?_)) Y ?_;omega;omega)
    (refine st (ao Y Y ?_) Y ?_;omega)
    (refine st (bh 0 Y Y ?_) Y ?_;omega)
    (refine st (bT Y ?_) Y ?_;omega)
    (refine st (dT Y Y ?_) Y ?_;omega)
    refine st (ah Y) Y (Run.nil (aa (ae (ae (ai (st (ab Y) Y (st (aj Y) Y (st (ak 2 Y Y Y) Y (st (aU Y) Y ?_)))))))))
    refine st (a7 Y Y) Y (Run.nil (aa ?_))
    refine fA (σ:=Unit) (fun _ => [(2,one (.pointer (some ⟨ba,0,none⟩))),(3,one (.pointer (some ⟨bb,0,none⟩))),(4,one (.pointer (some ⟨b,0,none⟩))),(5,one (slV (some bz) (lx.length+ly.length+1) (lx.length+ly.length+1))),(6,one (.int .i64 (i:Nat))),(7,one (.int .u64 (c+zz.getD (i+j) 0+lx.getD i 0*ly.getD j 0:Nat))),(8,one (.int .i64 (j:Nat)))])
     (fun _ => [aI (some bz) 86 .one (lx.length+ly.length+1) (lx.length+ly.length+1) (fun q=>one (.int .u32 (zz.getD q 0:Nat))),aR b 37 2 [(0, .agg 2,one (.agg #[.bool false, .slice none 0 0]))],aR bb 37 2 [(0, .one,one (.bool n2)),(1, .one,co ly)],aR ba 37 2 [(0, .one,one (.bool n1)),(1, .one,co lx)]]) (fun _=>True) ?_ (fun _ _ => ?_)
    ·refine a8 Y (fun hc3 => ?_) (fun hc3 => ?_) <;> simp only [decide_eq_true_eq,decide_eq_false_iff_not] at hc3
     ·skip
      refine a6 16 aZ X S (st (ab Y) Y (st (aj Y) Y (st (ak 3 Y Y Y) Y (st (ab Y) Y ?_))))
      (refine st (aC Y Y ?_) Y ?_;omega)
      refine st (aM Y) Y ?_
      (refine st (bT Y ?_) Y ?_;omega)
      refine st (aj Y) Y (st (ak 2 Y Y Y) Y (st (ab Y) Y ?_))
      (refine st (aC Y Y ?_) Y ?_;omega)
      refine st (aM Y) Y ?_
      (refine st (bT Y ?_) Y ?_;omega)
      (refine st (gF Y Y ?_) Y ?_;omega)
      (refine st (dT Y Y ?_) Y ?_;omega)
      refine st (ah Y) Y (Run.nil (Run.nil ?_))
      exact cT () trivial DS (SubM.refl _)
     ·have e0:ly.getD j 0=0:=by simp [List.getElem?_eq_none (show ly.length≤j by omega)]
      refine az ?_
      refine cT () trivial ?_ (SubM.refl _)
      rw [e0,Nat.mul_zero,Nat.add_zero]
      exact DS
    ·refine aa (ae (ai (st (ab Y) Y (st (ab Y) Y (st (ab Y) Y ?_)))))
     (refine st (cp Y Y (aP ?_ ?_)) Y ?_;omega;omega)
     refine st (ab Y) Y (st (cG Y) Y ?_)
     (refine st (ao Y Y ?_) Y ?_;omega)
     (refine aw 0 Y Y Y ?_ Y ?_;omega)
     refine Run.nil (aa (ai (st (ab Y) Y ?_)))
     (refine st (uP Y ?_) Y ?_;omega)
     refine st (ah Y) Y (Run.nil (aD (aa (ai (st (ab Y) Y ?_)))))
     (refine st (cp Y Y (aP ?_ ?_)) Y ?_;omega;omega)
     refine st (ah Y) Y (Run.nil ?_)
     refine bU (s:=(zz,j,c)) (zz.set (i+j) ((c+zz.getD (i+j) 0+lx.getD i 0*ly.getD j 0) % 4294967296),j+1,(c+zz.getD (i+j) 0+lx.getD i 0*ly.getD j 0) / 4294967296) hstep (by show ly.length+1 - (j+1)<ly.length+1 - j;omega) DS (.keep (be (fun q hq => ?_)) (SubM.refl _))
     unfold upd;rw [d4 hlt]; split <;> rfl
   ·have hc0:c=0:=by omega
    subst hc0
    have hfin:=hI.finish hR Z hc
    refine aX (av (av (aF (aD (aa (ai (st (ab Y) Y ?_)))))))
    (refine st (cp Y Y (aP ?_ ?_)) Y ?_;omega;omega)
    refine st (ah Y) Y (Run.nil ?_)
    exact bU (s:=(z0,i)) (zz,i+1) hfin (by show lx.length - (i+1)<lx.length - i;omega) DS (SubM.refl _)
 ·have hi:i=lx.length:=by have:=hR.le;omega
  refine aX (av (av (aF (aa (ae (ai (st (ab Y) Y (st (aj Y) Y (st (ak 3 Y Y Y) Y ?_)))))))))
  refine st (aj Y) Y (st (ak 2 Y Y Y) Y (st (jr Y Y) Y (gB (t:=74) (j:=0) Y Y ?_)))
  skip
  refine st (am (dh _ (v1*v2)) Y ⟨VT.le_trans (cE (m:=z0.length) (ψ:=fun i=>one (.int .u32 (z0.getD i 0:Nat))) hR.len.symm (fun q hq=>rfl)) (iq (l:=z0) hR.lim ?_ ?_),VT.le_refl _,trivial⟩) Y ?_
  ·rw [hR.val,hi,List.take_length,hva,hvb]
  ·rw [hR.len]; omega
  refine aA 0 Y Y Y Y Y (leN Y) Y (Run.nil (aa (aE ?_)))
  exact aT Tryz.results35 (.cellB 0 Y Y Y (cf (by cases n1 <;> cases n2 <;> simp [sv,Int.neg_mul,Int.mul_neg])))
end Tor
end
section
namespace Tor
open Go Go.RowKit Go.Proofs
def kG (neg:Bool) (l:List Nat):VT:=bC 2 [(0, .one,one (.bool neg)),(1, .one,co l)]
def fG (neg:Bool) (l:List Nat):Bool:=if l.length=0 then !neg else decide (l.getD (l.length - 1) 0≠0)
theorem yu (x:Int):VT.le (aL x) (kG (decide (x<0)) (aJ x.natAbs)):=VT.le_refl _
attribute [local irreducible] Tor.J Tor.PJ Tor.aK Tor.one Tor.slT Tor.bO Tor.bC Tor.bv Tor.exT Tor.cd Tor.eP Tor.aR Tor.aI Tor.slV Tor.VT.le Tor.Ret Tor.bJ
theorem wq (neg:Bool) (l:List Nat) (hl:l.length≤4398046511104):Ok Tryz.prog 69 [kG neg l] (one (.bool (fG neg l))):=by
 unfold kG
 refine Ok.enter Tryz.func69 Y Tryz.ntmps69 Y (fun w O => ?_)
 by_cases h0:l.length=0
 ·refine ae (ai ?_)
  refine aS Y Y (ltN Y) (fun b => ?_)
  refine st (ah Y) Y (Run.nil (aa (ae (ae (ai (st (aj Y) Y (st (ak 0 Y Y Y) Y (st (aU Y) Y (st (ci Y Y) Y ?_)))))))))
  refine Run.nil (aa ?_)
  refine a8 Y (fun hc => ?_) (fun hc => ?_) <;> simp only [decide_eq_true_eq,decide_eq_false_iff_not] at hc
  ·refine ae (ai (st (aj Y) Y (st (ak 0 Y Y Y) Y (st (cK Y) Y (st (ah Y) Y (Run.nil (aa (aE (aW ?_)))))))))
   exact aT Tryz.results69 (.tmp Y (ar (by unfold fG;rw [if_pos h0])))
  ·omega
 ·refine ae (ai ?_)
  refine aS Y Y (ltN Y) (fun b => ?_)
  refine st (ah Y) Y (Run.nil (aa (ae (ae (ai (st (aj Y) Y (st (ak 0 Y Y Y) Y (st (aU Y) Y (st (ci Y Y) Y ?_)))))))))
  refine Run.nil (aa ?_)
  refine a8 Y (fun hc => ?_) (fun hc => ?_) <;> simp only [decide_eq_true_eq,decide_eq_false_iff_not] at hc
  ·omega
  ·refine az (aa (ae (ai (st (aj Y) Y (st (ak 0 Y Y Y) Y (st (aj Y) Y (st (ak 0 Y Y Y) Y (st (aU Y) Y ?_))))))))
   (refine st (ei Y Y (aP ?_ ?_)) Y ?_;omega;omega)
   (refine st (fP Y Y ?_ ?_) Y ?_;omega;omega)
   refine st (aM Y) Y (st (di Y Y) Y (st (ah Y) Y (Run.nil (aa (aE ?_)))))
   refine aT Tryz.results69 (.tmp Y (ar ?_))
   have e:(↑l.length - 1:Int).toNat=l.length - 1:=by omega
   unfold fG;rw [if_neg h0,e]; congr 1;rw [decide_eq_decide]; omega
end Tor
end
section
namespace Tor
open Go Go.RowKit Go.Proofs
def bm (x:Int):Prop:=(aJ x.natAbs).length≤1099511627776
theorem dt {x:Int} (h:x.natAbs<2^2048):bm x:=by
 have:(aJ x.natAbs).length≤64:=cr (Nat.lt_of_lt_of_le h U)
 unfold bm;omega
theorem j6 (x y:Int) (hx:bm x) (hy:bm y):Ok Tryz.prog 58 [aL x,aL y] (aL (x+y)):=by
 have h:=yr (decide (x<0)) (decide (y<0)) x.natAbs y.natAbs hx hy
 rw [fk,fk] at h
 exact h.le ⟨ej _,ej _,trivial⟩ H
theorem lL (x y:Int) (hx:bm x) (hy:bm y):Ok Tryz.prog 96 [aL x,aL y] (aL (x - y)):=by
 have h:=Ck (decide (x<0)) (decide (y<0)) x.natAbs y.natAbs hx hy
 rw [fk,fk] at h
 exact h.le ⟨ej _,ej _,trivial⟩ H
theorem eR (x y:Int) (hx:bm x) (hy:bm y):Ok Tryz.prog 54 [aL x,aL y] (aL (x*y)):=by
 have h:=Cl (decide (x<0)) (decide (y<0)) x.natAbs y.natAbs hx hy
 rw [fk,fk] at h
 exact h.le ⟨ej _,ej _,trivial⟩ H
theorem db (x:Int):Ok Tryz.prog 51 [aL x] (one (.int .i64 (c8 x))):=by
 have h:=qR (decide (x<0)) x.natAbs
 rw [fk] at h
 exact h.le ⟨ej _,trivial⟩ H
theorem gq (x y:Int):Ok Tryz.prog 59 [aL x,aL y] (one (.int .i64 (cU x y))):=by
 have h:=Cm (decide (x<0)) (decide (y<0)) x.natAbs y.natAbs
 rw [fk,fk] at h
 exact h.le ⟨ej _,ej _,trivial⟩ H
theorem jF (x y:Int) (hx:bm x) (hy:bm y):Ok Tryz.prog 71 [aL x,aL y] (aL (x+y)):=by
 have h:=AB (decide (x<0)) (decide (y<0)) x.natAbs y.natAbs hx hy
 rw [fk,fk] at h
 exact h.le ⟨ej _,ej _,trivial⟩ H
theorem eu (x y:Int) (hx:bm x) (hy:bm y):Ok Tryz.prog 35 [aL x,aL y] (aL (x*y)):=by
 have h:=AC (decide (x<0)) (decide (y<0)) x.natAbs y.natAbs hx hy
 rw [fk,fk] at h
 exact h.le ⟨ej _,ej _,trivial⟩ H
def oc (x:Int):Prop:=x.natAbs≤2^400
theorem lM {x y:Int} (hx:oc x) (hy:oc y):(x*y).natAbs≤2^800:=by
 rw [Int.natAbs_mul]
 exact Nat.le_trans (Nat.mul_le_mul hx hy) U
theorem cY {x:Int} {n:Nat} (h:x.natAbs≤n) (hn:n<2^2048):bm x:=dt (Nat.lt_of_le_of_lt h hn)
theorem i7 {x:Int} (hx:oc x):bm x:=cY hx U
theorem iL:bm 1:=dt U
theorem mq {x:Int} (h:bm x):bm (-x):=by unfold bm at *; rw [Int.natAbs_neg]; exact h
theorem jG (φ:VT):VT.le φ bJ:=fun _ _ _=>trivial
instance {neg:Bool} {l:List Nat} : Flat (kG neg l) (.agg 2):=by unfold kG;infer_instance
attribute [local irreducible] Tor.J Tor.PJ Tor.aK Tor.one Tor.slT Tor.bO Tor.bC Tor.bv Tor.exT Tor.cd Tor.eP Tor.aR Tor.aI Tor.slV Tor.VT.le Tor.Ret Tor.bJ
set_option maxHeartbeats 1000000 in
theorem jH (l:List Nat) (hl:l.length≤1099511627776):Ok Tryz.prog 128 [co l] (co l):=by
 unfold co
 refine Ok.enter Tryz.func128 Y Tryz.ntmps128 Y (fun w O => ?_)
 refine ae (ai (st (ah Y) Y (Run.nil (aa (ae (ae (ai (st (ab Y) Y (st (qv Y) Y ?_)))))))))
 refine Run.nil (aa ?_)
 refine v6 (t:=4) Y (fun b => ?_)
 refine pu (t:=4) Y (fun hb => ?_)
 refine a8 Y (fun hc => ?_) (fun hc => ?_)
 ·have h0:=hb hc
  refine ae (ai (st (ah Y) Y (Run.nil (aa (aE (aW ?_))))))
  refine aT Tryz.results128 (.tmp Y (by (rw [h0]; exact eQ)))
 ·refine az (aa (ae (ai (m0 (n:=0) Y Y Y Y Y ?_))))
  refine PartsK.nil (fun bl => ?_)
  refine st (ab Y) Y ?_
  (refine cS 0 Y Y Y (leN Y) ?_ ?_ Y (ltN Y) (fun sv7 cap7 => ?_);omega;omega)
  refine st (ah Y) Y (Run.nil (aa (aE (cq (t:=2) (i:=0) Y Y ?_))))
  refine aT Tryz.results128 (.tmp Y (cE (by simp) (fun i hi=>by simp)))
set_option maxHeartbeats 1000000 in
theorem va (x:Int) (hx:bm x):Ok Tryz.prog 80 [aL x] (aL (-x)):=by
 have hcl:=jH (aJ x.natAbs) hx
 have hv:=(dC (!decide (x<0)) x.natAbs).le (dm _) (cf (y := -x) (by by_cases h:x<0 <;> simp [h] <;> omega))
 unfold aL at *
 refine Ok.enter Tryz.func80 Y Tryz.ntmps80 Y (fun w O => ?_)
 refine ae (ai ?_)
 refine aS Y Y (ltN Y) (fun b1 => ?_)
 refine aG (T:=37) Y (ltN Y) (fun b2 => ?_)
 refine Run.nil (aa (ae (a6 7 aZ X S (st (aj Y) Y (st (ak 1 Y Y Y) Y (st (cK Y) Y (st (aj Y) Y (st (ak 1 Y Y Y) Y ?_))))))))
 refine st (am (hcl) Y ⟨VT.le_refl _,trivial⟩) Y ?_
 refine st (am (hv) Y ⟨VT.le_refl _,(cA _),trivial⟩) Y ?_
 refine Run.nil (aA 0 Y Y Y Y Y (leN Y) Y (Run.nil (aa (aE ?_))))
 refine aT Tryz.results80 (.cellB 0 Y Y Y H)
set_option maxHeartbeats 1000000 in
theorem AD (x:Int) (hx:bm x):Ok Tryz.prog 104 [aL x] (aL x.natAbs):=by
 have hcl:=jH (aJ x.natAbs) hx
 have hv:=(dC false x.natAbs).le (dm _) (cf (y:=(x.natAbs:Int)) (by simp))
 unfold aL at *
 refine Ok.enter Tryz.func104 Y Tryz.ntmps104 Y (fun w O => ?_)
 refine ae (ai ?_)
 refine aS Y Y (ltN Y) (fun b1 => ?_)
 refine aG (T:=37) Y (ltN Y) (fun b2 => ?_)
 refine Run.nil (aa (ae (ai (st (aj Y) Y (st (ak 1 Y Y Y) Y ?_)))))
 refine st (am (hcl) Y ⟨VT.le_refl _,trivial⟩) Y ?_
 refine st (am (hv) Y ⟨VT.le_refl _,(cA _),trivial⟩) Y ?_
 refine aA 0 Y Y Y Y Y (leN Y) Y (Run.nil (aa (aE ?_)))
 refine aT Tryz.results104 (.cellB 0 Y Y Y H)
theorem cM {n:Nat} (h:(aJ n).length≤1099511627776):VT.le (co (aJ n)) (o7 n):=iq (a5 n) (bX n) Z
set_option maxHeartbeats 1000000 in
theorem iM (x:Int) (hx:bm x):Ok Tryz.prog 74 [aL x] (aL (-x)):=by
 have hv:=(dh (!decide (x<0)) x.natAbs).le (dm _) (cf (y := -x) (by by_cases h:x<0 <;> simp [h] <;> omega))
 have hx:(aJ x.natAbs).length≤1099511627776:=hx
 unfold aL at *
 refine Ok.enter Tryz.func74 Y Tryz.ntmps74 Y (fun w O => ?_)
 refine ae (ai ?_)
 refine aS Y Y (ltN Y) (fun b1 => ?_)
 refine aG (T:=37) Y (ltN Y) (fun b2 => ?_)
 refine Run.nil (aa (ae (ai (st (aj Y) Y (st (ak 1 Y Y Y) Y (st (aj Y) Y (st (ak 1 Y Y Y) Y (st (cK Y) Y ?_))))))))
 refine st (am (hv) Y ⟨(cM hx),VT.le_refl _,trivial⟩) Y ?_
 refine aA 0 Y Y Y Y Y (leN Y) Y (Run.nil (aa (aE ?_)))
 refine aT Tryz.results74 (.cellB 0 Y Y Y H)
theorem dA (x:Int):Ok Tryz.prog 21 [aL x] (one (.int .i64 (c8 x))):=by
 have h:=ys (decide (x<0)) x.natAbs
 rw [fk] at h
 exact h.le ⟨ej _,trivial⟩ H
set_option maxHeartbeats 1000000 in
theorem lN (x y:Int) (hx:bm x) (hy:bm y):Ok Tryz.prog 70 [aL x,aL y] (aL (x - y)):=by
 have hv:=(jF x (-y) hx (mq hy)).le (dm _) (cf (y:=x - y) Z)
 refine Ok.enter Tryz.func70 Y Tryz.ntmps70 Y (fun w O => ?_)
 refine ae (ai ?_)
 refine aS Y Y (ltN Y) (fun b2 => ?_)
 refine aS Y Y (ltN Y) (fun b3 => ?_)
 refine aG (T:=37) Y (ltN Y) (fun b4 => ?_)
 refine Run.nil (aa (ae (a6 4 aZ X S (st (aO 2 Y Y) Y (st (aO 1 Y Y) Y ?_)))))
 refine st (am (iM _ (by assumption)) Y ⟨VT.le_refl _,trivial⟩) Y ?_
 refine st (am (hv) Y ⟨VT.le_refl _,VT.le_refl _,trivial⟩) Y ?_
 refine Run.nil (aA 0 Y Y Y Y Y (leN Y) Y (Run.nil (aa (aE ?_))))
 refine aT Tryz.results70 (.cellB 0 Y Y Y H)
theorem AE (x y:Int):c8 (x - y)=cU x y:=by
 unfold c8 cU
 by_cases h:x<y
 ·rw [if_neg Z,if_pos Z,if_pos h]
 ·by_cases h2:y<x
  ·rw [if_neg Z,if_neg Z,if_neg h,if_pos h2]
  ·rw [if_pos Z,if_neg h,if_neg h2]
set_option maxHeartbeats 1000000 in
theorem si (x y:Int) (hx:bm x) (hy:bm y):Ok Tryz.prog 32 [aL x,aL y] (one (.int .i64 (cU x y))):=by
 refine Ok.enter Tryz.func32 Y Tryz.ntmps32 Y (fun w O => ?_)
 refine ae (ai ?_)
 refine aS Y Y (ltN Y) (fun b2 => ?_)
 refine aS Y Y (ltN Y) (fun b3 => ?_)
 refine st (ah Y) Y (Run.nil (aa (ae (ai (st (aO 1 Y Y) Y (st (aO 0 Y Y) Y ?_))))))
 refine st (am (lN _ _ (by assumption) (by assumption)) Y ⟨VT.le_refl _,VT.le_refl _,trivial⟩) Y ?_
 refine st (am (dA _) Y ⟨VT.le_refl _,trivial⟩) Y ?_
 refine st (ah Y) Y (Run.nil (aa (aE ?_)))
 refine aT Tryz.results32 (.tmp Y (ar (by rw [AE])))
end Tor
end
