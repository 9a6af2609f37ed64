/-
  What the loaded program says of its types and functions: instances of the layer's classes. Written by program.
  No condition: closed facts.
-/
import Derived.Test.YtmpnikllhpagcaaProg
import Derived.Test.YtmpnikllhpagcaaFwA
set_option maxRecDepth 100000
namespace Tor
open Go Go.Proofs


instance : LayOf Go.Proofs.Try.prog 1 (.one) := ⟨by kernel_rfl, by kernel_rfl⟩
instance : LayOf Go.Proofs.Try.prog 2 (.one) := ⟨by kernel_rfl, by kernel_rfl⟩
instance : LayOf Go.Proofs.Try.prog 3 (.one) := ⟨by kernel_rfl, by kernel_rfl⟩
instance : LayOf Go.Proofs.Try.prog 4 (.one) := ⟨by kernel_rfl, by kernel_rfl⟩
instance : LayOf Go.Proofs.Try.prog 5 (.one) := ⟨by kernel_rfl, by kernel_rfl⟩
instance : LayOf Go.Proofs.Try.prog 6 (.one) := ⟨by kernel_rfl, by kernel_rfl⟩
instance : LayOf Go.Proofs.Try.prog 7 (.agg 4) := ⟨by kernel_rfl, by kernel_rfl⟩
instance : LayOf Go.Proofs.Try.prog 8 (.agg 4) := ⟨by kernel_rfl, by kernel_rfl⟩
instance : LayOf Go.Proofs.Try.prog 9 (.one) := ⟨by kernel_rfl, by kernel_rfl⟩
instance : LayOf Go.Proofs.Try.prog 10 (.one) := ⟨by kernel_rfl, by kernel_rfl⟩
instance : LayOf Go.Proofs.Try.prog 11 (.one) := ⟨by kernel_rfl, by kernel_rfl⟩
instance : LayOf Go.Proofs.Try.prog 12 (.one) := ⟨by kernel_rfl, by kernel_rfl⟩
instance : LayOf Go.Proofs.Try.prog 13 (.agg 2) := ⟨by kernel_rfl, by kernel_rfl⟩
instance : LayOf Go.Proofs.Try.prog 14 (.agg 2) := ⟨by kernel_rfl, by kernel_rfl⟩
instance : LayOf Go.Proofs.Try.prog 15 (.one) := ⟨by kernel_rfl, by kernel_rfl⟩
instance : LayOf Go.Proofs.Try.prog 16 (.one) := ⟨by kernel_rfl, by kernel_rfl⟩
instance : LayOf Go.Proofs.Try.prog 17 (.one) := ⟨by kernel_rfl, by kernel_rfl⟩
instance : LayOf Go.Proofs.Try.prog 18 (.agg 1) := ⟨by kernel_rfl, by kernel_rfl⟩
instance : LayOf Go.Proofs.Try.prog 19 (.agg 1) := ⟨by kernel_rfl, by kernel_rfl⟩
instance : LayOf Go.Proofs.Try.prog 20 (.one) := ⟨by kernel_rfl, by kernel_rfl⟩
instance : LayOf Go.Proofs.Try.prog 21 (.one) := ⟨by kernel_rfl, by kernel_rfl⟩
instance : LayOf Go.Proofs.Try.prog 22 (.one) := ⟨by kernel_rfl, by kernel_rfl⟩
instance : LayOf Go.Proofs.Try.prog 23 (.agg 3) := ⟨by kernel_rfl, by kernel_rfl⟩
instance : LayOf Go.Proofs.Try.prog 24 (.agg 3) := ⟨by kernel_rfl, by kernel_rfl⟩
instance : LayOf Go.Proofs.Try.prog 25 (.one) := ⟨by kernel_rfl, by kernel_rfl⟩
instance : LayOf Go.Proofs.Try.prog 26 (.agg 3) := ⟨by kernel_rfl, by kernel_rfl⟩
instance : LayOf Go.Proofs.Try.prog 27 (.one) := ⟨by kernel_rfl, by kernel_rfl⟩
instance : LayOf Go.Proofs.Try.prog 28 (.agg 2) := ⟨by kernel_rfl, by kernel_rfl⟩
instance : LayOf Go.Proofs.Try.prog 29 (.agg 2) := ⟨by kernel_rfl, by kernel_rfl⟩
instance : LayOf Go.Proofs.Try.prog 30 (.one) := ⟨by kernel_rfl, by kernel_rfl⟩
instance : LayOf Go.Proofs.Try.prog 31 (.one) := ⟨by kernel_rfl, by kernel_rfl⟩
instance : LayOf Go.Proofs.Try.prog 32 (.agg 3) := ⟨by kernel_rfl, by kernel_rfl⟩
instance : LayOf Go.Proofs.Try.prog 33 (.agg 3) := ⟨by kernel_rfl, by kernel_rfl⟩
instance : LayOf Go.Proofs.Try.prog 34 (.one) := ⟨by kernel_rfl, by kernel_rfl⟩
instance : LayOf Go.Proofs.Try.prog 35 (.one) := ⟨by kernel_rfl, by kernel_rfl⟩
instance : LayOf Go.Proofs.Try.prog 36 (.one) := ⟨by kernel_rfl, by kernel_rfl⟩
instance : LayOf Go.Proofs.Try.prog 37 (.one) := ⟨by kernel_rfl, by kernel_rfl⟩
instance : LayOf Go.Proofs.Try.prog 38 (.one) := ⟨by kernel_rfl, by kernel_rfl⟩
instance : LayOf Go.Proofs.Try.prog 39 (.agg 4) := ⟨by kernel_rfl, by kernel_rfl⟩
instance : LayOf Go.Proofs.Try.prog 40 (.agg 7) := ⟨by kernel_rfl, by kernel_rfl⟩
instance : LayOf Go.Proofs.Try.prog 41 (.agg 7) := ⟨by kernel_rfl, by kernel_rfl⟩
instance : LayOf Go.Proofs.Try.prog 43 (.one) := ⟨by kernel_rfl, by kernel_rfl⟩
instance : LayOf Go.Proofs.Try.prog 44 (.one) := ⟨by kernel_rfl, by kernel_rfl⟩
instance : LayOf Go.Proofs.Try.prog 45 (.one) := ⟨by kernel_rfl, by kernel_rfl⟩
instance : LayOf Go.Proofs.Try.prog 47 (.one) := ⟨by kernel_rfl, by kernel_rfl⟩
instance : LayOf Go.Proofs.Try.prog 48 (.one) := ⟨by kernel_rfl, by kernel_rfl⟩
instance : LayOf Go.Proofs.Try.prog 49 (.one) := ⟨by kernel_rfl, by kernel_rfl⟩
instance : LayOf Go.Proofs.Try.prog 50 (.one) := ⟨by kernel_rfl, by kernel_rfl⟩
instance : LayOf Go.Proofs.Try.prog 51 (.one) := ⟨by kernel_rfl, by kernel_rfl⟩
instance : LayOf Go.Proofs.Try.prog 52 (.one) := ⟨by kernel_rfl, by kernel_rfl⟩
instance : LayOf Go.Proofs.Try.prog 53 (.one) := ⟨by kernel_rfl, by kernel_rfl⟩
instance : LayOf Go.Proofs.Try.prog 54 (.one) := ⟨by kernel_rfl, by kernel_rfl⟩
instance : LayOf Go.Proofs.Try.prog 55 (.one) := ⟨by kernel_rfl, by kernel_rfl⟩
instance : LayOf Go.Proofs.Try.prog 56 (.one) := ⟨by kernel_rfl, by kernel_rfl⟩
instance : LayOf Go.Proofs.Try.prog 57 (.one) := ⟨by kernel_rfl, by kernel_rfl⟩
instance : LayOf Go.Proofs.Try.prog 58 (.one) := ⟨by kernel_rfl, by kernel_rfl⟩
instance : LayOf Go.Proofs.Try.prog 59 (.one) := ⟨by kernel_rfl, by kernel_rfl⟩
instance : LayOf Go.Proofs.Try.prog 61 (.one) := ⟨by kernel_rfl, by kernel_rfl⟩
instance : LayOf Go.Proofs.Try.prog 62 (.one) := ⟨by kernel_rfl, by kernel_rfl⟩
instance : LayOf Go.Proofs.Try.prog 63 (.one) := ⟨by kernel_rfl, by kernel_rfl⟩
instance : LayOf Go.Proofs.Try.prog 65 (.one) := ⟨by kernel_rfl, by kernel_rfl⟩
instance : LayOf Go.Proofs.Try.prog 66 (.one) := ⟨by kernel_rfl, by kernel_rfl⟩
instance : LayOf Go.Proofs.Try.prog 67 (.one) := ⟨by kernel_rfl, by kernel_rfl⟩
instance : LayOf Go.Proofs.Try.prog 68 (.one) := ⟨by kernel_rfl, by kernel_rfl⟩
instance : LayOf Go.Proofs.Try.prog 69 (.one) := ⟨by kernel_rfl, by kernel_rfl⟩
instance : LayOf Go.Proofs.Try.prog 70 (.one) := ⟨by kernel_rfl, by kernel_rfl⟩
instance : LayOf Go.Proofs.Try.prog 71 (.one) := ⟨by kernel_rfl, by kernel_rfl⟩
instance : LayOf Go.Proofs.Try.prog 72 (.one) := ⟨by kernel_rfl, by kernel_rfl⟩
instance : LayOf Go.Proofs.Try.prog 73 (.one) := ⟨by kernel_rfl, by kernel_rfl⟩
instance : LayOf Go.Proofs.Try.prog 74 (.one) := ⟨by kernel_rfl, by kernel_rfl⟩
instance : LayOf Go.Proofs.Try.prog 75 (.one) := ⟨by kernel_rfl, by kernel_rfl⟩
instance : LayOf Go.Proofs.Try.prog 76 (.one) := ⟨by kernel_rfl, by kernel_rfl⟩
instance : LayOf Go.Proofs.Try.prog 77 (.one) := ⟨by kernel_rfl, by kernel_rfl⟩
instance : LayOf Go.Proofs.Try.prog 78 (.one) := ⟨by kernel_rfl, by kernel_rfl⟩
instance : LayOf Go.Proofs.Try.prog 79 (.one) := ⟨by kernel_rfl, by kernel_rfl⟩
instance : LayOf Go.Proofs.Try.prog 80 (.one) := ⟨by kernel_rfl, by kernel_rfl⟩
instance : LayOf Go.Proofs.Try.prog 81 (.one) := ⟨by kernel_rfl, by kernel_rfl⟩
instance : LayOf Go.Proofs.Try.prog 82 (.agg 4) := ⟨by kernel_rfl, by kernel_rfl⟩
instance : LayOf Go.Proofs.Try.prog 83 (.one) := ⟨by kernel_rfl, by kernel_rfl⟩
instance : LayOf Go.Proofs.Try.prog 84 (.agg 6) := ⟨by kernel_rfl, by kernel_rfl⟩
instance : LayOf Go.Proofs.Try.prog 85 (.one) := ⟨by kernel_rfl, by kernel_rfl⟩
instance : LayOf Go.Proofs.Try.prog 86 (.one) := ⟨by kernel_rfl, by kernel_rfl⟩
instance : LayOf Go.Proofs.Try.prog 87 (.one) := ⟨by kernel_rfl, by kernel_rfl⟩
instance : LayOf Go.Proofs.Try.prog 88 (.one) := ⟨by kernel_rfl, by kernel_rfl⟩
instance : LayOf Go.Proofs.Try.prog 89 (.one) := ⟨by kernel_rfl, by kernel_rfl⟩
instance : LayOf Go.Proofs.Try.prog 90 (.one) := ⟨by kernel_rfl, by kernel_rfl⟩
instance : LayOf Go.Proofs.Try.prog 91 (.one) := ⟨by kernel_rfl, by kernel_rfl⟩
instance : LayOf Go.Proofs.Try.prog 92 (.one) := ⟨by kernel_rfl, by kernel_rfl⟩
instance : LayOf Go.Proofs.Try.prog 93 (.one) := ⟨by kernel_rfl, by kernel_rfl⟩
instance : LayOf Go.Proofs.Try.prog 94 (.one) := ⟨by kernel_rfl, by kernel_rfl⟩
instance : LayOf Go.Proofs.Try.prog 95 (.one) := ⟨by kernel_rfl, by kernel_rfl⟩
instance : LayOf Go.Proofs.Try.prog 96 (.one) := ⟨by kernel_rfl, by kernel_rfl⟩
instance : LayOf Go.Proofs.Try.prog 97 (.one) := ⟨by kernel_rfl, by kernel_rfl⟩
instance : LayOf Go.Proofs.Try.prog 98 (.one) := ⟨by kernel_rfl, by kernel_rfl⟩
instance : LayOf Go.Proofs.Try.prog 99 (.one) := ⟨by kernel_rfl, by kernel_rfl⟩
instance : LayOf Go.Proofs.Try.prog 100 (.agg 2) := ⟨by kernel_rfl, by kernel_rfl⟩
instance : LayOf Go.Proofs.Try.prog 101 (.one) := ⟨by kernel_rfl, by kernel_rfl⟩
instance : LayOf Go.Proofs.Try.prog 102 (.one) := ⟨by kernel_rfl, by kernel_rfl⟩
instance : LayOf Go.Proofs.Try.prog 103 (.one) := ⟨by kernel_rfl, by kernel_rfl⟩
instance : LayOf Go.Proofs.Try.prog 104 (.one) := ⟨by kernel_rfl, by kernel_rfl⟩
instance : LayOf Go.Proofs.Try.prog 105 (.one) := ⟨by kernel_rfl, by kernel_rfl⟩
instance : LayOf Go.Proofs.Try.prog 106 (.one) := ⟨by kernel_rfl, by kernel_rfl⟩
instance : LayOf Go.Proofs.Try.prog 107 (.one) := ⟨by kernel_rfl, by kernel_rfl⟩
instance : LayOf Go.Proofs.Try.prog 108 (.one) := ⟨by kernel_rfl, by kernel_rfl⟩
instance : LayOf Go.Proofs.Try.prog 109 (.one) := ⟨by kernel_rfl, by kernel_rfl⟩
instance : LayOf Go.Proofs.Try.prog 110 (.one) := ⟨by kernel_rfl, by kernel_rfl⟩
instance : LayOf Go.Proofs.Try.prog 111 (.one) := ⟨by kernel_rfl, by kernel_rfl⟩
instance : LayOf Go.Proofs.Try.prog 112 (.one) := ⟨by kernel_rfl, by kernel_rfl⟩
instance : LayOf Go.Proofs.Try.prog 113 (.one) := ⟨by kernel_rfl, by kernel_rfl⟩
instance : LayOf Go.Proofs.Try.prog 114 (.one) := ⟨by kernel_rfl, by kernel_rfl⟩
instance : LayOf Go.Proofs.Try.prog 115 (.one) := ⟨by kernel_rfl, by kernel_rfl⟩
instance : LayOf Go.Proofs.Try.prog 116 (.one) := ⟨by kernel_rfl, by kernel_rfl⟩
instance : LayOf Go.Proofs.Try.prog 117 (.one) := ⟨by kernel_rfl, by kernel_rfl⟩
instance : LayOf Go.Proofs.Try.prog 118 (.agg 4) := ⟨by kernel_rfl, by kernel_rfl⟩
instance : LayOf Go.Proofs.Try.prog 119 (.agg 4) := ⟨by kernel_rfl, by kernel_rfl⟩
instance : LayOf Go.Proofs.Try.prog 120 (.agg 0) := ⟨by kernel_rfl, by kernel_rfl⟩
instance : LayOf Go.Proofs.Try.prog 121 (.agg 0) := ⟨by kernel_rfl, by kernel_rfl⟩
instance : LayOf Go.Proofs.Try.prog 122 (.agg 0) := ⟨by kernel_rfl, by kernel_rfl⟩
instance : LayOf Go.Proofs.Try.prog 123 (.one) := ⟨by kernel_rfl, by kernel_rfl⟩
instance : LayOf Go.Proofs.Try.prog 124 (.one) := ⟨by kernel_rfl, by kernel_rfl⟩
instance : LayOf Go.Proofs.Try.prog 125 (.one) := ⟨by kernel_rfl, by kernel_rfl⟩
instance : LayOf Go.Proofs.Try.prog 126 (.one) := ⟨by kernel_rfl, by kernel_rfl⟩
instance : LayOf Go.Proofs.Try.prog 127 (.one) := ⟨by kernel_rfl, by kernel_rfl⟩
instance : LayOf Go.Proofs.Try.prog 128 (.one) := ⟨by kernel_rfl, by kernel_rfl⟩
instance : LayOf Go.Proofs.Try.prog 129 (.one) := ⟨by kernel_rfl, by kernel_rfl⟩
instance : LayOf Go.Proofs.Try.prog 130 (.agg 11) := ⟨by kernel_rfl, by kernel_rfl⟩
instance : LayOf Go.Proofs.Try.prog 131 (.agg 11) := ⟨by kernel_rfl, by kernel_rfl⟩
instance : LayOf Go.Proofs.Try.prog 132 (.one) := ⟨by kernel_rfl, by kernel_rfl⟩
instance : IntOf Go.Proofs.Try.prog 2 .i64 := ⟨by kernel_rfl⟩
instance : IntOf Go.Proofs.Try.prog 3 .i64 := ⟨by kernel_rfl⟩
instance : BoolOf Go.Proofs.Try.prog 4 := ⟨by kernel_rfl⟩
instance : IntOf Go.Proofs.Try.prog 5 .u8 := ⟨by kernel_rfl⟩
instance : IntOf Go.Proofs.Try.prog 6 .u8 := ⟨by kernel_rfl⟩
instance : FieldOf Go.Proofs.Try.prog 7 0 0 (.one) := FieldOf.by_info (ft := 2) inferInstance (by kernel_rfl) (by decide)
instance : FieldOf Go.Proofs.Try.prog 7 1 1 (.one) := FieldOf.by_info (ft := 3) inferInstance (by kernel_rfl) (by decide)
instance : FieldOf Go.Proofs.Try.prog 7 2 2 (.one) := FieldOf.by_info (ft := 4) inferInstance (by kernel_rfl) (by decide)
instance : FieldOf Go.Proofs.Try.prog 7 3 3 (.one) := FieldOf.by_info (ft := 6) inferInstance (by kernel_rfl) (by decide)
instance : FieldOf Go.Proofs.Try.prog 8 0 0 (.one) := FieldOf.by_info (ft := 2) inferInstance (by kernel_rfl) (by decide)
instance : FieldOf Go.Proofs.Try.prog 8 1 1 (.one) := FieldOf.by_info (ft := 3) inferInstance (by kernel_rfl) (by decide)
instance : FieldOf Go.Proofs.Try.prog 8 2 2 (.one) := FieldOf.by_info (ft := 4) inferInstance (by kernel_rfl) (by decide)
instance : FieldOf Go.Proofs.Try.prog 8 3 3 (.one) := FieldOf.by_info (ft := 6) inferInstance (by kernel_rfl) (by decide)
instance : IntOf Go.Proofs.Try.prog 12 .u64 := ⟨by kernel_rfl⟩
instance : FieldOf Go.Proofs.Try.prog 13 0 0 (.one) := FieldOf.by_info (ft := 9) inferInstance (by kernel_rfl) (by decide)
instance : FieldOf Go.Proofs.Try.prog 13 1 1 (.one) := FieldOf.by_info (ft := 12) inferInstance (by kernel_rfl) (by decide)
instance : FieldOf Go.Proofs.Try.prog 14 0 0 (.one) := FieldOf.by_info (ft := 9) inferInstance (by kernel_rfl) (by decide)
instance : FieldOf Go.Proofs.Try.prog 14 1 1 (.one) := FieldOf.by_info (ft := 12) inferInstance (by kernel_rfl) (by decide)
instance : FieldOf Go.Proofs.Try.prog 18 0 0 (.one) := FieldOf.by_info (ft := 17) inferInstance (by kernel_rfl) (by decide)
instance : FieldOf Go.Proofs.Try.prog 19 0 0 (.one) := FieldOf.by_info (ft := 17) inferInstance (by kernel_rfl) (by decide)
instance : IntOf Go.Proofs.Try.prog 21 .i32 := ⟨by kernel_rfl⟩
instance : SliceOf Go.Proofs.Try.prog 22 25 := ⟨by kernel_rfl⟩
instance : FieldOf Go.Proofs.Try.prog 23 0 0 (.one) := FieldOf.by_info (ft := 5) inferInstance (by kernel_rfl) (by decide)
instance : FieldOf Go.Proofs.Try.prog 23 1 1 (.one) := FieldOf.by_info (ft := 5) inferInstance (by kernel_rfl) (by decide)
instance : FieldOf Go.Proofs.Try.prog 23 2 2 (.one) := FieldOf.by_info (ft := 22) inferInstance (by kernel_rfl) (by decide)
instance : FieldOf Go.Proofs.Try.prog 24 0 0 (.one) := FieldOf.by_info (ft := 5) inferInstance (by kernel_rfl) (by decide)
instance : FieldOf Go.Proofs.Try.prog 24 1 1 (.one) := FieldOf.by_info (ft := 5) inferInstance (by kernel_rfl) (by decide)
instance : FieldOf Go.Proofs.Try.prog 24 2 2 (.one) := FieldOf.by_info (ft := 22) inferInstance (by kernel_rfl) (by decide)
instance : IntOf Go.Proofs.Try.prog 25 .i8 := ⟨by kernel_rfl⟩
instance : ArrayOf Go.Proofs.Try.prog 26 3 25 := ⟨by kernel_rfl⟩
instance : SliceOf Go.Proofs.Try.prog 27 79 := ⟨by kernel_rfl⟩
instance : FieldOf Go.Proofs.Try.prog 28 0 0 (.one) := FieldOf.by_info (ft := 4) inferInstance (by kernel_rfl) (by decide)
instance : FieldOf Go.Proofs.Try.prog 28 1 1 (.one) := FieldOf.by_info (ft := 27) inferInstance (by kernel_rfl) (by decide)
instance : FieldOf Go.Proofs.Try.prog 29 0 0 (.one) := FieldOf.by_info (ft := 4) inferInstance (by kernel_rfl) (by decide)
instance : FieldOf Go.Proofs.Try.prog 29 1 1 (.one) := FieldOf.by_info (ft := 27) inferInstance (by kernel_rfl) (by decide)
instance : SliceOf Go.Proofs.Try.prog 31 35 := ⟨by kernel_rfl⟩
instance : FieldOf Go.Proofs.Try.prog 32 0 0 (.one) := FieldOf.by_info (ft := 3) inferInstance (by kernel_rfl) (by decide)
instance : FieldOf Go.Proofs.Try.prog 32 1 1 (.one) := FieldOf.by_info (ft := 3) inferInstance (by kernel_rfl) (by decide)
instance : FieldOf Go.Proofs.Try.prog 32 2 2 (.one) := FieldOf.by_info (ft := 31) inferInstance (by kernel_rfl) (by decide)
instance : FieldOf Go.Proofs.Try.prog 33 0 0 (.one) := FieldOf.by_info (ft := 3) inferInstance (by kernel_rfl) (by decide)
instance : FieldOf Go.Proofs.Try.prog 33 1 1 (.one) := FieldOf.by_info (ft := 3) inferInstance (by kernel_rfl) (by decide)
instance : FieldOf Go.Proofs.Try.prog 33 2 2 (.one) := FieldOf.by_info (ft := 31) inferInstance (by kernel_rfl) (by decide)
instance : SliceOf Go.Proofs.Try.prog 35 29 := ⟨by kernel_rfl⟩
instance : ArrayOf Go.Proofs.Try.prog 39 4 5 := ⟨by kernel_rfl⟩
instance : FieldOf Go.Proofs.Try.prog 40 0 0 (.agg 4) := FieldOf.by_info (ft := 39) inferInstance (by kernel_rfl) (by decide)
instance : FieldOf Go.Proofs.Try.prog 40 1 4 (.one) := FieldOf.by_info (ft := 22) inferInstance (by kernel_rfl) (by decide)
instance : FieldOf Go.Proofs.Try.prog 40 2 5 (.one) := FieldOf.by_info (ft := 22) inferInstance (by kernel_rfl) (by decide)
instance : FieldOf Go.Proofs.Try.prog 40 3 6 (.one) := FieldOf.by_info (ft := 22) inferInstance (by kernel_rfl) (by decide)
instance : FieldOf Go.Proofs.Try.prog 41 0 0 (.agg 4) := FieldOf.by_info (ft := 39) inferInstance (by kernel_rfl) (by decide)
instance : FieldOf Go.Proofs.Try.prog 41 1 4 (.one) := FieldOf.by_info (ft := 22) inferInstance (by kernel_rfl) (by decide)
instance : FieldOf Go.Proofs.Try.prog 41 2 5 (.one) := FieldOf.by_info (ft := 22) inferInstance (by kernel_rfl) (by decide)
instance : FieldOf Go.Proofs.Try.prog 41 3 6 (.one) := FieldOf.by_info (ft := 22) inferInstance (by kernel_rfl) (by decide)
instance : IntOf Go.Proofs.Try.prog 45 .i64 := ⟨by kernel_rfl⟩
instance : SliceOf Go.Proofs.Try.prog 52 3 := ⟨by kernel_rfl⟩
instance : SliceOf Go.Proofs.Try.prog 58 29 := ⟨by kernel_rfl⟩
instance : SliceOf Go.Proofs.Try.prog 76 2 := ⟨by kernel_rfl⟩
instance : IntOf Go.Proofs.Try.prog 77 .u64 := ⟨by kernel_rfl⟩
instance : IntOf Go.Proofs.Try.prog 79 .u32 := ⟨by kernel_rfl⟩
instance : IntOf Go.Proofs.Try.prog 80 .u64 := ⟨by kernel_rfl⟩
instance : ArrayOf Go.Proofs.Try.prog 82 4 3 := ⟨by kernel_rfl⟩
instance : ArrayOf Go.Proofs.Try.prog 84 2 33 := ⟨by kernel_rfl⟩
instance : SliceOf Go.Proofs.Try.prog 99 100 := ⟨by kernel_rfl⟩
instance : ArrayOf Go.Proofs.Try.prog 100 2 3 := ⟨by kernel_rfl⟩
instance : SliceOf Go.Proofs.Try.prog 104 4 := ⟨by kernel_rfl⟩
instance : SliceOf Go.Proofs.Try.prog 106 33 := ⟨by kernel_rfl⟩
instance : FieldOf Go.Proofs.Try.prog 118 0 0 (.one) := FieldOf.by_info (ft := 17) inferInstance (by kernel_rfl) (by decide)
instance : FieldOf Go.Proofs.Try.prog 118 1 1 (.one) := FieldOf.by_info (ft := 17) inferInstance (by kernel_rfl) (by decide)
instance : FieldOf Go.Proofs.Try.prog 118 2 2 (.one) := FieldOf.by_info (ft := 17) inferInstance (by kernel_rfl) (by decide)
instance : FieldOf Go.Proofs.Try.prog 118 3 3 (.one) := FieldOf.by_info (ft := 9) inferInstance (by kernel_rfl) (by decide)
instance : FieldOf Go.Proofs.Try.prog 119 0 0 (.one) := FieldOf.by_info (ft := 17) inferInstance (by kernel_rfl) (by decide)
instance : FieldOf Go.Proofs.Try.prog 119 1 1 (.one) := FieldOf.by_info (ft := 17) inferInstance (by kernel_rfl) (by decide)
instance : FieldOf Go.Proofs.Try.prog 119 2 2 (.one) := FieldOf.by_info (ft := 17) inferInstance (by kernel_rfl) (by decide)
instance : FieldOf Go.Proofs.Try.prog 119 3 3 (.one) := FieldOf.by_info (ft := 9) inferInstance (by kernel_rfl) (by decide)
instance : ArrayOf Go.Proofs.Try.prog 120 0 16 := ⟨by kernel_rfl⟩
instance : IntOf Go.Proofs.Try.prog 124 .u8 := ⟨by kernel_rfl⟩
instance : IntOf Go.Proofs.Try.prog 125 .u8 := ⟨by kernel_rfl⟩
instance : IntOf Go.Proofs.Try.prog 128 .i32 := ⟨by kernel_rfl⟩
instance : IntOf Go.Proofs.Try.prog 129 .i32 := ⟨by kernel_rfl⟩
instance : FieldOf Go.Proofs.Try.prog 130 0 0 (.one) := FieldOf.by_info (ft := 12) inferInstance (by kernel_rfl) (by decide)
instance : FieldOf Go.Proofs.Try.prog 130 1 1 (.one) := FieldOf.by_info (ft := 12) inferInstance (by kernel_rfl) (by decide)
instance : FieldOf Go.Proofs.Try.prog 130 2 2 (.one) := FieldOf.by_info (ft := 79) inferInstance (by kernel_rfl) (by decide)
instance : FieldOf Go.Proofs.Try.prog 130 3 3 (.one) := FieldOf.by_info (ft := 124) inferInstance (by kernel_rfl) (by decide)
instance : FieldOf Go.Proofs.Try.prog 130 4 4 (.one) := FieldOf.by_info (ft := 5) inferInstance (by kernel_rfl) (by decide)
instance : FieldOf Go.Proofs.Try.prog 130 5 5 (.one) := FieldOf.by_info (ft := 5) inferInstance (by kernel_rfl) (by decide)
instance : FieldOf Go.Proofs.Try.prog 130 6 6 (.one) := FieldOf.by_info (ft := 125) inferInstance (by kernel_rfl) (by decide)
instance : FieldOf Go.Proofs.Try.prog 130 7 7 (.one) := FieldOf.by_info (ft := 126) inferInstance (by kernel_rfl) (by decide)
instance : FieldOf Go.Proofs.Try.prog 130 8 8 (.one) := FieldOf.by_info (ft := 127) inferInstance (by kernel_rfl) (by decide)
instance : FieldOf Go.Proofs.Try.prog 130 9 9 (.one) := FieldOf.by_info (ft := 128) inferInstance (by kernel_rfl) (by decide)
instance : FieldOf Go.Proofs.Try.prog 130 10 10 (.one) := FieldOf.by_info (ft := 129) inferInstance (by kernel_rfl) (by decide)
instance : FieldOf Go.Proofs.Try.prog 131 0 0 (.one) := FieldOf.by_info (ft := 12) inferInstance (by kernel_rfl) (by decide)
instance : FieldOf Go.Proofs.Try.prog 131 1 1 (.one) := FieldOf.by_info (ft := 12) inferInstance (by kernel_rfl) (by decide)
instance : FieldOf Go.Proofs.Try.prog 131 2 2 (.one) := FieldOf.by_info (ft := 79) inferInstance (by kernel_rfl) (by decide)
instance : FieldOf Go.Proofs.Try.prog 131 3 3 (.one) := FieldOf.by_info (ft := 124) inferInstance (by kernel_rfl) (by decide)
instance : FieldOf Go.Proofs.Try.prog 131 4 4 (.one) := FieldOf.by_info (ft := 5) inferInstance (by kernel_rfl) (by decide)
instance : FieldOf Go.Proofs.Try.prog 131 5 5 (.one) := FieldOf.by_info (ft := 5) inferInstance (by kernel_rfl) (by decide)
instance : FieldOf Go.Proofs.Try.prog 131 6 6 (.one) := FieldOf.by_info (ft := 125) inferInstance (by kernel_rfl) (by decide)
instance : FieldOf Go.Proofs.Try.prog 131 7 7 (.one) := FieldOf.by_info (ft := 126) inferInstance (by kernel_rfl) (by decide)
instance : FieldOf Go.Proofs.Try.prog 131 8 8 (.one) := FieldOf.by_info (ft := 127) inferInstance (by kernel_rfl) (by decide)
instance : FieldOf Go.Proofs.Try.prog 131 9 9 (.one) := FieldOf.by_info (ft := 128) inferInstance (by kernel_rfl) (by decide)
instance : FieldOf Go.Proofs.Try.prog 131 10 10 (.one) := FieldOf.by_info (ft := 129) inferInstance (by kernel_rfl) (by decide)
instance : ZeroOf Go.Proofs.Try.prog 2 (.int .i64 0) 8 := ⟨by kernel_rfl⟩
instance : ZeroOf Go.Proofs.Try.prog 3 (.int .i64 0) 8 := ⟨by kernel_rfl⟩
instance : ZeroOf Go.Proofs.Try.prog 4 (.bool false) 1 := ⟨by kernel_rfl⟩
instance : ZeroOf Go.Proofs.Try.prog 5 (.int .u8 0) 1 := ⟨by kernel_rfl⟩
instance : ZeroOf Go.Proofs.Try.prog 6 (.int .u8 0) 1 := ⟨by kernel_rfl⟩
instance zf7 : Flat (one (.agg #[.int .i64 0, .int .i64 0, .bool false, .int .u8 0])) (.agg 4) := flat_one (by decide) (by kernel_rfl)
instance : ZeroOf Go.Proofs.Try.prog 7 (.agg #[.int .i64 0, .int .i64 0, .bool false, .int .u8 0]) 24 := ⟨by kernel_rfl⟩
instance : ZeroOf Go.Proofs.Try.prog 8 (.agg #[.int .i64 0, .int .i64 0, .bool false, .int .u8 0]) 24 := ⟨by kernel_rfl⟩
instance : ZeroOf Go.Proofs.Try.prog 12 (.int .u64 0) 8 := ⟨by kernel_rfl⟩
instance : ZeroOf Go.Proofs.Try.prog 15 (.pointer none) 8 := ⟨by kernel_rfl⟩
instance : ZeroOf Go.Proofs.Try.prog 16 (.pointer none) 8 := ⟨by kernel_rfl⟩
instance : ZeroOf Go.Proofs.Try.prog 17 (.pointer none) 8 := ⟨by kernel_rfl⟩
instance zf18 : Flat (one (.agg #[.pointer none])) (.agg 1) := flat_one (by decide) (by kernel_rfl)
instance : ZeroOf Go.Proofs.Try.prog 18 (.agg #[.pointer none]) 8 := ⟨by kernel_rfl⟩
instance : ZeroOf Go.Proofs.Try.prog 19 (.agg #[.pointer none]) 8 := ⟨by kernel_rfl⟩
instance : ZeroOf Go.Proofs.Try.prog 21 (.int .i32 0) 4 := ⟨by kernel_rfl⟩
instance : ZeroOf Go.Proofs.Try.prog 22 (.slice none 0 0) 24 := ⟨by kernel_rfl⟩
instance zf23 : Flat (one (.agg #[.int .u8 0, .int .u8 0, .slice none 0 0])) (.agg 3) := flat_one (by decide) (by kernel_rfl)
instance : ZeroOf Go.Proofs.Try.prog 23 (.agg #[.int .u8 0, .int .u8 0, .slice none 0 0]) 32 := ⟨by kernel_rfl⟩
instance : ZeroOf Go.Proofs.Try.prog 24 (.agg #[.int .u8 0, .int .u8 0, .slice none 0 0]) 32 := ⟨by kernel_rfl⟩
instance : ZeroOf Go.Proofs.Try.prog 25 (.int .i8 0) 1 := ⟨by kernel_rfl⟩
instance zf26 : Flat (one (.agg #[.int .i8 0, .int .i8 0, .int .i8 0])) (.agg 3) := flat_one (by decide) (by kernel_rfl)
instance : ZeroOf Go.Proofs.Try.prog 26 (.agg #[.int .i8 0, .int .i8 0, .int .i8 0]) 3 := ⟨by kernel_rfl⟩
instance : ZeroOf Go.Proofs.Try.prog 27 (.slice none 0 0) 24 := ⟨by kernel_rfl⟩
instance zf28 : Flat (one (.agg #[.bool false, .slice none 0 0])) (.agg 2) := flat_one (by decide) (by kernel_rfl)
instance : ZeroOf Go.Proofs.Try.prog 28 (.agg #[.bool false, .slice none 0 0]) 32 := ⟨by kernel_rfl⟩
instance : ZeroOf Go.Proofs.Try.prog 29 (.agg #[.bool false, .slice none 0 0]) 32 := ⟨by kernel_rfl⟩
instance : ZeroOf Go.Proofs.Try.prog 31 (.slice none 0 0) 24 := ⟨by kernel_rfl⟩
instance zf32 : Flat (one (.agg #[.int .i64 0, .int .i64 0, .slice none 0 0])) (.agg 3) := flat_one (by decide) (by kernel_rfl)
instance : ZeroOf Go.Proofs.Try.prog 32 (.agg #[.int .i64 0, .int .i64 0, .slice none 0 0]) 40 := ⟨by kernel_rfl⟩
instance : ZeroOf Go.Proofs.Try.prog 33 (.agg #[.int .i64 0, .int .i64 0, .slice none 0 0]) 40 := ⟨by kernel_rfl⟩
instance : ZeroOf Go.Proofs.Try.prog 35 (.slice none 0 0) 24 := ⟨by kernel_rfl⟩
instance zf39 : Flat (one (.agg #[.int .u8 0, .int .u8 0, .int .u8 0, .int .u8 0])) (.agg 4) := flat_one (by decide) (by kernel_rfl)
instance : ZeroOf Go.Proofs.Try.prog 39 (.agg #[.int .u8 0, .int .u8 0, .int .u8 0, .int .u8 0]) 4 := ⟨by kernel_rfl⟩
instance zf40 : Flat (one (.agg #[.int .u8 0, .int .u8 0, .int .u8 0, .int .u8 0, .slice none 0 0, .slice none 0 0, .slice none 0 0])) (.agg 7) := flat_one (by decide) (by kernel_rfl)
instance : ZeroOf Go.Proofs.Try.prog 40 (.agg #[.int .u8 0, .int .u8 0, .int .u8 0, .int .u8 0, .slice none 0 0, .slice none 0 0, .slice none 0 0]) 80 := ⟨by kernel_rfl⟩
instance : ZeroOf Go.Proofs.Try.prog 41 (.agg #[.int .u8 0, .int .u8 0, .int .u8 0, .int .u8 0, .slice none 0 0, .slice none 0 0, .slice none 0 0]) 80 := ⟨by kernel_rfl⟩
instance : ZeroOf Go.Proofs.Try.prog 45 (.int .i64 0) 8 := ⟨by kernel_rfl⟩
instance : ZeroOf Go.Proofs.Try.prog 52 (.slice none 0 0) 24 := ⟨by kernel_rfl⟩
instance : ZeroOf Go.Proofs.Try.prog 58 (.slice none 0 0) 24 := ⟨by kernel_rfl⟩
instance : ZeroOf Go.Proofs.Try.prog 76 (.slice none 0 0) 24 := ⟨by kernel_rfl⟩
instance : ZeroOf Go.Proofs.Try.prog 77 (.int .u64 0) 8 := ⟨by kernel_rfl⟩
instance : ZeroOf Go.Proofs.Try.prog 79 (.int .u32 0) 4 := ⟨by kernel_rfl⟩
instance : ZeroOf Go.Proofs.Try.prog 80 (.int .u64 0) 8 := ⟨by kernel_rfl⟩
instance zf82 : Flat (one (.agg #[.int .i64 0, .int .i64 0, .int .i64 0, .int .i64 0])) (.agg 4) := flat_one (by decide) (by kernel_rfl)
instance : ZeroOf Go.Proofs.Try.prog 82 (.agg #[.int .i64 0, .int .i64 0, .int .i64 0, .int .i64 0]) 32 := ⟨by kernel_rfl⟩
instance zf84 : Flat (one (.agg #[.int .i64 0, .int .i64 0, .slice none 0 0, .int .i64 0, .int .i64 0, .slice none 0 0])) (.agg 6) := flat_one (by decide) (by kernel_rfl)
instance : ZeroOf Go.Proofs.Try.prog 84 (.agg #[.int .i64 0, .int .i64 0, .slice none 0 0, .int .i64 0, .int .i64 0, .slice none 0 0]) 80 := ⟨by kernel_rfl⟩
instance : ZeroOf Go.Proofs.Try.prog 99 (.slice none 0 0) 24 := ⟨by kernel_rfl⟩
instance zf100 : Flat (one (.agg #[.int .i64 0, .int .i64 0])) (.agg 2) := flat_one (by decide) (by kernel_rfl)
instance : ZeroOf Go.Proofs.Try.prog 100 (.agg #[.int .i64 0, .int .i64 0]) 16 := ⟨by kernel_rfl⟩
instance : ZeroOf Go.Proofs.Try.prog 104 (.slice none 0 0) 24 := ⟨by kernel_rfl⟩
instance : ZeroOf Go.Proofs.Try.prog 106 (.slice none 0 0) 24 := ⟨by kernel_rfl⟩
instance zf120 : Flat (one (.agg #[])) (.agg 0) := flat_one (by decide) (by kernel_rfl)
instance : ZeroOf Go.Proofs.Try.prog 120 (.agg #[]) 0 := ⟨by kernel_rfl⟩
instance : ZeroOf Go.Proofs.Try.prog 121 (.agg #[]) 0 := ⟨by kernel_rfl⟩
instance : ZeroOf Go.Proofs.Try.prog 122 (.agg #[]) 0 := ⟨by kernel_rfl⟩
instance : ZeroOf Go.Proofs.Try.prog 124 (.int .u8 0) 1 := ⟨by kernel_rfl⟩
instance : ZeroOf Go.Proofs.Try.prog 125 (.int .u8 0) 1 := ⟨by kernel_rfl⟩
instance : ZeroOf Go.Proofs.Try.prog 127 (.pointer none) 8 := ⟨by kernel_rfl⟩
instance : ZeroOf Go.Proofs.Try.prog 128 (.int .i32 0) 4 := ⟨by kernel_rfl⟩
instance : ZeroOf Go.Proofs.Try.prog 129 (.int .i32 0) 4 := ⟨by kernel_rfl⟩
instance zf130 : Flat (one (.agg #[.int .u64 0, .int .u64 0, .int .u32 0, .int .u8 0, .int .u8 0, .int .u8 0, .int .u8 0, .nilFunc, .pointer none, .int .i32 0, .int .i32 0])) (.agg 11) := flat_one (by decide) (by kernel_rfl)
instance : ZeroOf Go.Proofs.Try.prog 130 (.agg #[.int .u64 0, .int .u64 0, .int .u32 0, .int .u8 0, .int .u8 0, .int .u8 0, .int .u8 0, .nilFunc, .pointer none, .int .i32 0, .int .i32 0]) 48 := ⟨by kernel_rfl⟩
instance : ZeroOf Go.Proofs.Try.prog 131 (.agg #[.int .u64 0, .int .u64 0, .int .u32 0, .int .u8 0, .int .u8 0, .int .u8 0, .int .u8 0, .nilFunc, .pointer none, .int .i32 0, .int .i32 0]) 48 := ⟨by kernel_rfl⟩
instance : ZeroOf Go.Proofs.Try.prog 132 (.pointer none) 8 := ⟨by kernel_rfl⟩
instance : BuildOf Go.Proofs.Try.prog 7 4 #[.int .i64 0, .int .i64 0, .bool false, .int .u8 0] [(0, .one), (1, .one), (2, .one), (3, .one)] := BuildOf.by_struct (by' := 24) inferInstance rfl (by kernel_rfl) (by kernel_rfl)
instance : BuildOf Go.Proofs.Try.prog 8 4 #[.int .i64 0, .int .i64 0, .bool false, .int .u8 0] [(0, .one), (1, .one), (2, .one), (3, .one)] := BuildOf.by_struct (by' := 24) inferInstance rfl (by kernel_rfl) (by kernel_rfl)
instance : BuildOf Go.Proofs.Try.prog 18 1 #[.pointer none] [(0, .one)] := BuildOf.by_struct (by' := 8) inferInstance rfl (by kernel_rfl) (by kernel_rfl)
instance : BuildOf Go.Proofs.Try.prog 19 1 #[.pointer none] [(0, .one)] := BuildOf.by_struct (by' := 8) inferInstance rfl (by kernel_rfl) (by kernel_rfl)
instance : BuildOf Go.Proofs.Try.prog 23 3 #[.int .u8 0, .int .u8 0, .slice none 0 0] [(0, .one), (1, .one), (2, .one)] := BuildOf.by_struct (by' := 32) inferInstance rfl (by kernel_rfl) (by kernel_rfl)
instance : BuildOf Go.Proofs.Try.prog 24 3 #[.int .u8 0, .int .u8 0, .slice none 0 0] [(0, .one), (1, .one), (2, .one)] := BuildOf.by_struct (by' := 32) inferInstance rfl (by kernel_rfl) (by kernel_rfl)
instance : BuildOf Go.Proofs.Try.prog 26 3 #[.int .i8 0, .int .i8 0, .int .i8 0] [(0, .one), (1, .one), (2, .one)] := BuildOf.by_array (by' := 3) (n := 3) (e := 25) (L := .one) inferInstance inferInstance inferInstance rfl (by kernel_rfl) rfl (by decide)
instance : BuildOf Go.Proofs.Try.prog 28 2 #[.bool false, .slice none 0 0] [(0, .one), (1, .one)] := BuildOf.by_struct (by' := 32) inferInstance rfl (by kernel_rfl) (by kernel_rfl)
instance : BuildOf Go.Proofs.Try.prog 29 2 #[.bool false, .slice none 0 0] [(0, .one), (1, .one)] := BuildOf.by_struct (by' := 32) inferInstance rfl (by kernel_rfl) (by kernel_rfl)
instance : BuildOf Go.Proofs.Try.prog 32 3 #[.int .i64 0, .int .i64 0, .slice none 0 0] [(0, .one), (1, .one), (2, .one)] := BuildOf.by_struct (by' := 40) inferInstance rfl (by kernel_rfl) (by kernel_rfl)
instance : BuildOf Go.Proofs.Try.prog 33 3 #[.int .i64 0, .int .i64 0, .slice none 0 0] [(0, .one), (1, .one), (2, .one)] := BuildOf.by_struct (by' := 40) inferInstance rfl (by kernel_rfl) (by kernel_rfl)
instance : BuildOf Go.Proofs.Try.prog 39 4 #[.int .u8 0, .int .u8 0, .int .u8 0, .int .u8 0] [(0, .one), (1, .one), (2, .one), (3, .one)] := BuildOf.by_array (by' := 4) (n := 4) (e := 5) (L := .one) inferInstance inferInstance inferInstance rfl (by kernel_rfl) rfl (by decide)
instance : BuildOf Go.Proofs.Try.prog 40 7 #[.int .u8 0, .int .u8 0, .int .u8 0, .int .u8 0, .slice none 0 0, .slice none 0 0, .slice none 0 0] [(0, .agg 4), (4, .one), (5, .one), (6, .one)] := BuildOf.by_struct (by' := 80) inferInstance rfl (by kernel_rfl) (by kernel_rfl)
instance : BuildOf Go.Proofs.Try.prog 41 7 #[.int .u8 0, .int .u8 0, .int .u8 0, .int .u8 0, .slice none 0 0, .slice none 0 0, .slice none 0 0] [(0, .agg 4), (4, .one), (5, .one), (6, .one)] := BuildOf.by_struct (by' := 80) inferInstance rfl (by kernel_rfl) (by kernel_rfl)
instance : BuildOf Go.Proofs.Try.prog 82 4 #[.int .i64 0, .int .i64 0, .int .i64 0, .int .i64 0] [(0, .one), (1, .one), (2, .one), (3, .one)] := BuildOf.by_array (by' := 32) (n := 4) (e := 3) (L := .one) inferInstance inferInstance inferInstance rfl (by kernel_rfl) rfl (by decide)
instance : BuildOf Go.Proofs.Try.prog 84 6 #[.int .i64 0, .int .i64 0, .slice none 0 0, .int .i64 0, .int .i64 0, .slice none 0 0] [(0, .agg 3), (3, .agg 3)] := BuildOf.by_array (by' := 80) (n := 2) (e := 33) (L := .agg 3) inferInstance inferInstance inferInstance rfl (by kernel_rfl) rfl (by decide)
instance : BuildOf Go.Proofs.Try.prog 100 2 #[.int .i64 0, .int .i64 0] [(0, .one), (1, .one)] := BuildOf.by_array (by' := 16) (n := 2) (e := 3) (L := .one) inferInstance inferInstance inferInstance rfl (by kernel_rfl) rfl (by decide)
instance : BuildOf Go.Proofs.Try.prog 130 11 #[.int .u64 0, .int .u64 0, .int .u32 0, .int .u8 0, .int .u8 0, .int .u8 0, .int .u8 0, .nilFunc, .pointer none, .int .i32 0, .int .i32 0] [(0, .one), (1, .one), (2, .one), (3, .one), (4, .one), (5, .one), (6, .one), (7, .one), (8, .one), (9, .one), (10, .one)] := BuildOf.by_struct (by' := 48) inferInstance rfl (by kernel_rfl) (by kernel_rfl)
instance : BuildOf Go.Proofs.Try.prog 131 11 #[.int .u64 0, .int .u64 0, .int .u32 0, .int .u8 0, .int .u8 0, .int .u8 0, .int .u8 0, .nilFunc, .pointer none, .int .i32 0, .int .i32 0] [(0, .one), (1, .one), (2, .one), (3, .one), (4, .one), (5, .one), (6, .one), (7, .one), (8, .one), (9, .one), (10, .one)] := BuildOf.by_struct (by' := 48) inferInstance rfl (by kernel_rfl) (by kernel_rfl)
instance : Fn Go.Proofs.Try.prog 3 := Fn.of Try.func3 (by decide +kernel) rfl
instance : Fn Go.Proofs.Try.prog 4 := Fn.of Try.func4 (by decide +kernel) rfl
instance : Fn Go.Proofs.Try.prog 5 := Fn.of Try.func5 (by decide +kernel) rfl
instance : Fn Go.Proofs.Try.prog 6 := Fn.of Try.func6 (by decide +kernel) rfl
instance : Fn Go.Proofs.Try.prog 7 := Fn.of Try.func7 (by decide +kernel) rfl
instance : Fn Go.Proofs.Try.prog 8 := Fn.of Try.func8 (by decide +kernel) rfl
instance : Fn Go.Proofs.Try.prog 9 := Fn.of Try.func9 (by decide +kernel) rfl
instance : Fn Go.Proofs.Try.prog 10 := Fn.of Try.func10 (by decide +kernel) rfl
instance : Fn Go.Proofs.Try.prog 11 := Fn.of Try.func11 (by decide +kernel) rfl
instance : Fn Go.Proofs.Try.prog 12 := Fn.of Try.func12 (by decide +kernel) rfl
instance : Fn Go.Proofs.Try.prog 13 := Fn.of Try.func13 (by decide +kernel) rfl
instance : Fn Go.Proofs.Try.prog 14 := Fn.of Try.func14 (by decide +kernel) rfl
instance : Fn Go.Proofs.Try.prog 15 := Fn.of Try.func15 (by decide +kernel) rfl
instance : Fn Go.Proofs.Try.prog 16 := Fn.of Try.func16 (by decide +kernel) rfl
instance : Fn Go.Proofs.Try.prog 17 := Fn.of Try.func17 (by decide +kernel) rfl
instance : Fn Go.Proofs.Try.prog 18 := Fn.of Try.func18 (by decide +kernel) rfl
instance : Fn Go.Proofs.Try.prog 19 := Fn.of Try.func19 (by decide +kernel) rfl
instance : Fn Go.Proofs.Try.prog 20 := Fn.of Try.func20 (by decide +kernel) rfl
instance : Fn Go.Proofs.Try.prog 21 := Fn.of Try.func21 (by decide +kernel) rfl
instance : Fn Go.Proofs.Try.prog 22 := Fn.of Try.func22 (by decide +kernel) rfl
instance : Fn Go.Proofs.Try.prog 23 := Fn.of Try.func23 (by decide +kernel) rfl
instance : Fn Go.Proofs.Try.prog 24 := Fn.of Try.func24 (by decide +kernel) rfl
instance : Fn Go.Proofs.Try.prog 25 := Fn.of Try.func25 (by decide +kernel) rfl
instance : Fn Go.Proofs.Try.prog 26 := Fn.of Try.func26 (by decide +kernel) rfl
instance : Fn Go.Proofs.Try.prog 27 := Fn.of Try.func27 (by decide +kernel) rfl
instance : Fn Go.Proofs.Try.prog 28 := Fn.of Try.func28 (by decide +kernel) rfl
instance : Fn Go.Proofs.Try.prog 29 := Fn.of Try.func29 (by decide +kernel) rfl
instance : Fn Go.Proofs.Try.prog 30 := Fn.of Try.func30 (by decide +kernel) rfl
instance : Fn Go.Proofs.Try.prog 31 := Fn.of Try.func31 (by decide +kernel) rfl
instance : Fn Go.Proofs.Try.prog 32 := Fn.of Try.func32 (by decide +kernel) rfl
instance : Fn Go.Proofs.Try.prog 33 := Fn.of Try.func33 (by decide +kernel) rfl
instance : Fn Go.Proofs.Try.prog 34 := Fn.of Try.func34 (by decide +kernel) rfl
instance : Fn Go.Proofs.Try.prog 35 := Fn.of Try.func35 (by decide +kernel) rfl
instance : Fn Go.Proofs.Try.prog 36 := Fn.of Try.func36 (by decide +kernel) rfl
instance : Fn Go.Proofs.Try.prog 37 := Fn.of Try.func37 (by decide +kernel) rfl
instance : Fn Go.Proofs.Try.prog 38 := Fn.of Try.func38 (by decide +kernel) rfl
instance : Fn Go.Proofs.Try.prog 39 := Fn.of Try.func39 (by decide +kernel) rfl
instance : Fn Go.Proofs.Try.prog 40 := Fn.of Try.func40 (by decide +kernel) rfl
instance : Fn Go.Proofs.Try.prog 41 := Fn.of Try.func41 (by decide +kernel) rfl
instance : Fn Go.Proofs.Try.prog 42 := Fn.of Try.func42 (by decide +kernel) rfl
instance : Fn Go.Proofs.Try.prog 43 := Fn.of Try.func43 (by decide +kernel) rfl
instance : Fn Go.Proofs.Try.prog 44 := Fn.of Try.func44 (by decide +kernel) rfl
instance : Fn Go.Proofs.Try.prog 45 := Fn.of Try.func45 (by decide +kernel) rfl
instance : Fn Go.Proofs.Try.prog 46 := Fn.of Try.func46 (by decide +kernel) rfl
instance : Fn Go.Proofs.Try.prog 47 := Fn.of Try.func47 (by decide +kernel) rfl
instance : Fn Go.Proofs.Try.prog 48 := Fn.of Try.func48 (by decide +kernel) rfl
instance : Fn Go.Proofs.Try.prog 49 := Fn.of Try.func49 (by decide +kernel) rfl
instance : Fn Go.Proofs.Try.prog 50 := Fn.of Try.func50 (by decide +kernel) rfl
instance : Fn Go.Proofs.Try.prog 51 := Fn.of Try.func51 (by decide +kernel) rfl
instance : Fn Go.Proofs.Try.prog 52 := Fn.of Try.func52 (by decide +kernel) rfl
instance : Fn Go.Proofs.Try.prog 53 := Fn.of Try.func53 (by decide +kernel) rfl
instance : Fn Go.Proofs.Try.prog 54 := Fn.of Try.func54 (by decide +kernel) rfl
instance : Fn Go.Proofs.Try.prog 55 := Fn.of Try.func55 (by decide +kernel) rfl
instance : Fn Go.Proofs.Try.prog 56 := Fn.of Try.func56 (by decide +kernel) rfl
instance : Fn Go.Proofs.Try.prog 57 := Fn.of Try.func57 (by decide +kernel) rfl
instance : Fn Go.Proofs.Try.prog 58 := Fn.of Try.func58 (by decide +kernel) rfl
instance : Fn Go.Proofs.Try.prog 59 := Fn.of Try.func59 (by decide +kernel) rfl
instance : Fn Go.Proofs.Try.prog 60 := Fn.of Try.func60 (by decide +kernel) rfl
instance : Fn Go.Proofs.Try.prog 61 := Fn.of Try.func61 (by decide +kernel) rfl
instance : Fn Go.Proofs.Try.prog 62 := Fn.of Try.func62 (by decide +kernel) rfl
instance : Fn Go.Proofs.Try.prog 63 := Fn.of Try.func63 (by decide +kernel) rfl
instance : Fn Go.Proofs.Try.prog 64 := Fn.of Try.func64 (by decide +kernel) rfl
instance : Fn Go.Proofs.Try.prog 65 := Fn.of Try.func65 (by decide +kernel) rfl
instance : Fn Go.Proofs.Try.prog 66 := Fn.of Try.func66 (by decide +kernel) rfl
instance : Fn Go.Proofs.Try.prog 67 := Fn.of Try.func67 (by decide +kernel) rfl
instance : Fn Go.Proofs.Try.prog 68 := Fn.of Try.func68 (by decide +kernel) rfl
instance : Fn Go.Proofs.Try.prog 69 := Fn.of Try.func69 (by decide +kernel) rfl
instance : Fn Go.Proofs.Try.prog 70 := Fn.of Try.func70 (by decide +kernel) rfl
instance : Fn Go.Proofs.Try.prog 71 := Fn.of Try.func71 (by decide +kernel) rfl
instance : Fn Go.Proofs.Try.prog 72 := Fn.of Try.func72 (by decide +kernel) rfl
instance : Fn Go.Proofs.Try.prog 73 := Fn.of Try.func73 (by decide +kernel) rfl
instance : Fn Go.Proofs.Try.prog 74 := Fn.of Try.func74 (by decide +kernel) rfl
instance : Fn Go.Proofs.Try.prog 75 := Fn.of Try.func75 (by decide +kernel) rfl
instance : Fn Go.Proofs.Try.prog 76 := Fn.of Try.func76 (by decide +kernel) rfl
instance : Fn Go.Proofs.Try.prog 77 := Fn.of Try.func77 (by decide +kernel) rfl
instance : Fn Go.Proofs.Try.prog 78 := Fn.of Try.func78 (by decide +kernel) rfl
instance : Fn Go.Proofs.Try.prog 79 := Fn.of Try.func79 (by decide +kernel) rfl
instance : Fn Go.Proofs.Try.prog 80 := Fn.of Try.func80 (by decide +kernel) rfl
instance : Fn Go.Proofs.Try.prog 81 := Fn.of Try.func81 (by decide +kernel) rfl
instance : Fn Go.Proofs.Try.prog 82 := Fn.of Try.func82 (by decide +kernel) rfl
instance : Fn Go.Proofs.Try.prog 83 := Fn.of Try.func83 (by decide +kernel) rfl
instance : Fn Go.Proofs.Try.prog 84 := Fn.of Try.func84 (by decide +kernel) rfl
instance : Fn Go.Proofs.Try.prog 85 := Fn.of Try.func85 (by decide +kernel) rfl
instance : Fn Go.Proofs.Try.prog 86 := Fn.of Try.func86 (by decide +kernel) rfl
instance : Fn Go.Proofs.Try.prog 87 := Fn.of Try.func87 (by decide +kernel) rfl
instance : Fn Go.Proofs.Try.prog 88 := Fn.of Try.func88 (by decide +kernel) rfl
instance : Fn Go.Proofs.Try.prog 89 := Fn.of Try.func89 (by decide +kernel) rfl
instance : Fn Go.Proofs.Try.prog 90 := Fn.of Try.func90 (by decide +kernel) rfl
instance : Fn Go.Proofs.Try.prog 91 := Fn.of Try.func91 (by decide +kernel) rfl
instance : Fn Go.Proofs.Try.prog 92 := Fn.of Try.func92 (by decide +kernel) rfl
instance : Fn Go.Proofs.Try.prog 93 := Fn.of Try.func93 (by decide +kernel) rfl
instance : Fn Go.Proofs.Try.prog 94 := Fn.of Try.func94 (by decide +kernel) rfl
instance : Fn Go.Proofs.Try.prog 95 := Fn.of Try.func95 (by decide +kernel) rfl
instance : Fn Go.Proofs.Try.prog 96 := Fn.of Try.func96 (by decide +kernel) rfl
instance : Fn Go.Proofs.Try.prog 97 := Fn.of Try.func97 (by decide +kernel) rfl
instance : Fn Go.Proofs.Try.prog 98 := Fn.of Try.func98 (by decide +kernel) rfl
instance : Fn Go.Proofs.Try.prog 99 := Fn.of Try.func99 (by decide +kernel) rfl
instance : Fn Go.Proofs.Try.prog 100 := Fn.of Try.func100 (by decide +kernel) rfl
instance : Fn Go.Proofs.Try.prog 101 := Fn.of Try.func101 (by decide +kernel) rfl
instance : Fn Go.Proofs.Try.prog 102 := Fn.of Try.func102 (by decide +kernel) rfl
instance : Fn Go.Proofs.Try.prog 103 := Fn.of Try.func103 (by decide +kernel) rfl
theorem mixed : Go.Proofs.Try.prog.follows .mixedOrders = true := by kernel_rfl
end Tor
