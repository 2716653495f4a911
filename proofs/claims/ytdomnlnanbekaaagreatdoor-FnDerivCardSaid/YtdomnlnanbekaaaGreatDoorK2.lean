/- Part 2: what the walk of the code stands on. Conditions: none but those that each theorem states. -/
import Derived.Test.YtdomnlnanbekaaaGreatDoorK1
namespace Go.Proofs.YtdomnlnanbekaaaGreatDoor.R
open Go Go.Proofs.YtdomnlnanbekaaaGreatDoor.T
@[simp] theorem szOf_2 : szOf Tryz.prog 2 = 1 := by kernel_rfl
@[simp] theorem zeroT_2 : zeroT Tryz.prog 2 = some ([.val (.int .i64 0)]) := by kernel_rfl
@[simp] theorem bytesT_2 : bytesT Tryz.prog 2 = 8 := by kernel_rfl
@[simp] theorem szOf_3 : szOf Tryz.prog 3 = 1 := by kernel_rfl
@[simp] theorem zeroT_3 : zeroT Tryz.prog 3 = some ([.val (.int .i64 0)]) := by kernel_rfl
@[simp] theorem bytesT_3 : bytesT Tryz.prog 3 = 8 := by kernel_rfl
@[simp] theorem szOf_4 : szOf Tryz.prog 4 = 1 := by kernel_rfl
@[simp] theorem zeroT_4 : zeroT Tryz.prog 4 = some ([.val (.bool false)]) := by kernel_rfl
@[simp] theorem bytesT_4 : bytesT Tryz.prog 4 = 1 := by kernel_rfl
@[simp] theorem szOf_5 : szOf Tryz.prog 5 = 1 := by kernel_rfl
@[simp] theorem zeroT_5 : zeroT Tryz.prog 5 = some ([.val (.int .u8 0)]) := by kernel_rfl
@[simp] theorem bytesT_5 : bytesT Tryz.prog 5 = 1 := by kernel_rfl
@[simp] theorem szOf_6 : szOf Tryz.prog 6 = 1 := by kernel_rfl
@[simp] theorem zeroT_6 : zeroT Tryz.prog 6 = some ([.val (.int .u8 0)]) := by kernel_rfl
@[simp] theorem bytesT_6 : bytesT Tryz.prog 6 = 1 := by kernel_rfl
@[simp] theorem szOf_7 : szOf Tryz.prog 7 = 4 := by kernel_rfl
@[simp] theorem zeroT_7 : zeroT Tryz.prog 7 = some ([.val (.int .i64 0), .val (.int .i64 0), .val (.bool false), .val (.int .u8 0)]) := by kernel_rfl
@[simp] theorem bytesT_7 : bytesT Tryz.prog 7 = 24 := by kernel_rfl
@[simp] theorem szOf_8 : szOf Tryz.prog 8 = 4 := by kernel_rfl
@[simp] theorem zeroT_8 : zeroT Tryz.prog 8 = some ([.val (.int .i64 0), .val (.int .i64 0), .val (.bool false), .val (.int .u8 0)]) := by kernel_rfl
@[simp] theorem bytesT_8 : bytesT Tryz.prog 8 = 24 := by kernel_rfl
@[simp] theorem szOf_9 : szOf Tryz.prog 9 = 1 := by kernel_rfl
@[simp] theorem zeroT_9 : zeroT Tryz.prog 9 = some ([.val (.string ⟨#[]⟩)]) := by kernel_rfl
@[simp] theorem bytesT_9 : bytesT Tryz.prog 9 = 16 := by kernel_rfl
@[simp] theorem szOf_10 : szOf Tryz.prog 10 = 1 := by kernel_rfl
@[simp] theorem zeroT_10 : zeroT Tryz.prog 10 = some ([.val (.string ⟨#[]⟩)]) := by kernel_rfl
@[simp] theorem bytesT_10 : bytesT Tryz.prog 10 = 16 := by kernel_rfl
@[simp] theorem szOf_11 : szOf Tryz.prog 11 = 1 := by kernel_rfl
@[simp] theorem zeroT_11 : zeroT Tryz.prog 11 = some ([.val (.string ⟨#[]⟩)]) := by kernel_rfl
@[simp] theorem bytesT_11 : bytesT Tryz.prog 11 = 16 := by kernel_rfl
@[simp] theorem szOf_12 : szOf Tryz.prog 12 = 1 := by kernel_rfl
@[simp] theorem zeroT_12 : zeroT Tryz.prog 12 = some ([.val (.int .u64 0)]) := by kernel_rfl
@[simp] theorem bytesT_12 : bytesT Tryz.prog 12 = 8 := by kernel_rfl
@[simp] theorem szOf_13 : szOf Tryz.prog 13 = 2 := by kernel_rfl
@[simp] theorem zeroT_13 : zeroT Tryz.prog 13 = some ([.val (.string ⟨#[]⟩), .val (.int .u64 0)]) := by kernel_rfl
@[simp] theorem bytesT_13 : bytesT Tryz.prog 13 = 24 := by kernel_rfl
@[simp] theorem szOf_14 : szOf Tryz.prog 14 = 2 := by kernel_rfl
@[simp] theorem zeroT_14 : zeroT Tryz.prog 14 = some ([.val (.string ⟨#[]⟩), .val (.int .u64 0)]) := by kernel_rfl
@[simp] theorem bytesT_14 : bytesT Tryz.prog 14 = 24 := by kernel_rfl
@[simp] theorem szOf_15 : szOf Tryz.prog 15 = 1 := by kernel_rfl
@[simp] theorem zeroT_15 : zeroT Tryz.prog 15 = some ([.val (.pointer none)]) := by kernel_rfl
@[simp] theorem bytesT_15 : bytesT Tryz.prog 15 = 8 := by kernel_rfl
@[simp] theorem szOf_16 : szOf Tryz.prog 16 = 1 := by kernel_rfl
@[simp] theorem zeroT_16 : zeroT Tryz.prog 16 = some ([.val (.pointer none)]) := by kernel_rfl
@[simp] theorem bytesT_16 : bytesT Tryz.prog 16 = 8 := by kernel_rfl
@[simp] theorem szOf_17 : szOf Tryz.prog 17 = 1 := by kernel_rfl
@[simp] theorem zeroT_17 : zeroT Tryz.prog 17 = some ([.val (.pointer none)]) := by kernel_rfl
@[simp] theorem bytesT_17 : bytesT Tryz.prog 17 = 8 := by kernel_rfl
@[simp] theorem szOf_18 : szOf Tryz.prog 18 = 1 := by kernel_rfl
@[simp] theorem zeroT_18 : zeroT Tryz.prog 18 = some ([.val (.pointer none)]) := by kernel_rfl
@[simp] theorem bytesT_18 : bytesT Tryz.prog 18 = 8 := by kernel_rfl
@[simp] theorem szOf_19 : szOf Tryz.prog 19 = 1 := by kernel_rfl
@[simp] theorem zeroT_19 : zeroT Tryz.prog 19 = some ([.val (.pointer none)]) := by kernel_rfl
@[simp] theorem bytesT_19 : bytesT Tryz.prog 19 = 8 := by kernel_rfl
@[simp] theorem szOf_20 : szOf Tryz.prog 20 = 1 := by kernel_rfl
@[simp] theorem zeroT_20 : zeroT Tryz.prog 20 = some ([.val .nilIface]) := by kernel_rfl
@[simp] theorem bytesT_20 : bytesT Tryz.prog 20 = 16 := by kernel_rfl
@[simp] theorem szOf_21 : szOf Tryz.prog 21 = 1 := by kernel_rfl
@[simp] theorem zeroT_21 : zeroT Tryz.prog 21 = some ([.val (.int .i32 0)]) := by kernel_rfl
@[simp] theorem bytesT_21 : bytesT Tryz.prog 21 = 4 := by kernel_rfl
@[simp] theorem szOf_22 : szOf Tryz.prog 22 = 1 := by kernel_rfl
@[simp] theorem zeroT_22 : zeroT Tryz.prog 22 = some ([.val (.slice none 0 0)]) := by kernel_rfl
@[simp] theorem bytesT_22 : bytesT Tryz.prog 22 = 24 := by kernel_rfl
@[simp] theorem szOf_23 : szOf Tryz.prog 23 = 1 := by kernel_rfl
@[simp] theorem zeroT_23 : zeroT Tryz.prog 23 = some ([.val (.slice none 0 0)]) := by kernel_rfl
@[simp] theorem bytesT_23 : bytesT Tryz.prog 23 = 24 := by kernel_rfl
@[simp] theorem szOf_25 : szOf Tryz.prog 25 = 1 := by kernel_rfl
@[simp] theorem zeroT_25 : zeroT Tryz.prog 25 = some ([.val (.slice none 0 0)]) := by kernel_rfl
@[simp] theorem bytesT_25 : bytesT Tryz.prog 25 = 24 := by kernel_rfl
@[simp] theorem szOf_26 : szOf Tryz.prog 26 = 1 := by kernel_rfl
@[simp] theorem zeroT_26 : zeroT Tryz.prog 26 = some ([.val (.slice none 0 0)]) := by kernel_rfl
@[simp] theorem bytesT_26 : bytesT Tryz.prog 26 = 24 := by kernel_rfl
@[simp] theorem szOf_27 : szOf Tryz.prog 27 = 1 := by kernel_rfl
@[simp] theorem zeroT_27 : zeroT Tryz.prog 27 = some ([.val (.slice none 0 0)]) := by kernel_rfl
@[simp] theorem bytesT_27 : bytesT Tryz.prog 27 = 24 := by kernel_rfl
@[simp] theorem szOf_28 : szOf Tryz.prog 28 = 3 := by kernel_rfl
@[simp] theorem zeroT_28 : zeroT Tryz.prog 28 = some ([.val (.slice none 0 0), .val (.slice none 0 0), .val (.slice none 0 0)]) := by kernel_rfl
@[simp] theorem bytesT_28 : bytesT Tryz.prog 28 = 72 := by kernel_rfl
@[simp] theorem szOf_29 : szOf Tryz.prog 29 = 3 := by kernel_rfl
@[simp] theorem zeroT_29 : zeroT Tryz.prog 29 = some ([.val (.slice none 0 0), .val (.slice none 0 0), .val (.slice none 0 0)]) := by kernel_rfl
@[simp] theorem bytesT_29 : bytesT Tryz.prog 29 = 72 := by kernel_rfl
@[simp] theorem szOf_33 : szOf Tryz.prog 33 = 1 := by kernel_rfl
@[simp] theorem zeroT_33 : zeroT Tryz.prog 33 = some ([.val (.slice none 0 0)]) := by kernel_rfl
@[simp] theorem bytesT_33 : bytesT Tryz.prog 33 = 24 := by kernel_rfl
@[simp] theorem szOf_34 : szOf Tryz.prog 34 = 1 := by kernel_rfl
@[simp] theorem zeroT_34 : zeroT Tryz.prog 34 = some ([.val (.slice none 0 0)]) := by kernel_rfl
@[simp] theorem bytesT_34 : bytesT Tryz.prog 34 = 24 := by kernel_rfl
@[simp] theorem szOf_35 : szOf Tryz.prog 35 = 1 := by kernel_rfl
@[simp] theorem zeroT_35 : zeroT Tryz.prog 35 = some ([.val (.slice none 0 0)]) := by kernel_rfl
@[simp] theorem bytesT_35 : bytesT Tryz.prog 35 = 24 := by kernel_rfl
@[simp] theorem szOf_36 : szOf Tryz.prog 36 = 3 := by kernel_rfl
@[simp] theorem zeroT_36 : zeroT Tryz.prog 36 = some ([.val (.int .i64 0), .val (.slice none 0 0), .val (.slice none 0 0)]) := by kernel_rfl
@[simp] theorem bytesT_36 : bytesT Tryz.prog 36 = 56 := by kernel_rfl
@[simp] theorem szOf_37 : szOf Tryz.prog 37 = 3 := by kernel_rfl
@[simp] theorem zeroT_37 : zeroT Tryz.prog 37 = some ([.val (.int .i64 0), .val (.slice none 0 0), .val (.slice none 0 0)]) := by kernel_rfl
@[simp] theorem bytesT_37 : bytesT Tryz.prog 37 = 56 := by kernel_rfl
@[simp] theorem szOf_40 : szOf Tryz.prog 40 = 4 := by kernel_rfl
@[simp] theorem zeroT_40 : zeroT Tryz.prog 40 = some ([.val (.string ⟨#[]⟩), .val (.int .i64 0), .val (.slice none 0 0), .val (.slice none 0 0)]) := by kernel_rfl
@[simp] theorem bytesT_40 : bytesT Tryz.prog 40 = 72 := by kernel_rfl
@[simp] theorem szOf_41 : szOf Tryz.prog 41 = 4 := by kernel_rfl
@[simp] theorem zeroT_41 : zeroT Tryz.prog 41 = some ([.val (.string ⟨#[]⟩), .val (.int .i64 0), .val (.slice none 0 0), .val (.slice none 0 0)]) := by kernel_rfl
@[simp] theorem bytesT_41 : bytesT Tryz.prog 41 = 72 := by kernel_rfl
@[simp] theorem szOf_45 : szOf Tryz.prog 45 = 1 := by kernel_rfl
@[simp] theorem zeroT_45 : zeroT Tryz.prog 45 = some ([.val (.slice none 0 0)]) := by kernel_rfl
@[simp] theorem bytesT_45 : bytesT Tryz.prog 45 = 24 := by kernel_rfl
@[simp] theorem szOf_69 : szOf Tryz.prog 69 = 1 := by kernel_rfl
@[simp] theorem zeroT_69 : zeroT Tryz.prog 69 = some ([.val (.slice none 0 0)]) := by kernel_rfl
@[simp] theorem bytesT_69 : bytesT Tryz.prog 69 = 24 := by kernel_rfl
@[simp] theorem szOf_70 : szOf Tryz.prog 70 = 1 := by kernel_rfl
@[simp] theorem zeroT_70 : zeroT Tryz.prog 70 = some ([.val (.slice none 0 0)]) := by kernel_rfl
@[simp] theorem bytesT_70 : bytesT Tryz.prog 70 = 24 := by kernel_rfl
@[simp] theorem szOf_71 : szOf Tryz.prog 71 = 3 := by kernel_rfl
@[simp] theorem zeroT_71 : zeroT Tryz.prog 71 = some ([.val (.int .i64 0), .val (.slice none 0 0), .val (.slice none 0 0)]) := by kernel_rfl
@[simp] theorem bytesT_71 : bytesT Tryz.prog 71 = 56 := by kernel_rfl
@[simp] theorem szOf_72 : szOf Tryz.prog 72 = 3 := by kernel_rfl
@[simp] theorem zeroT_72 : zeroT Tryz.prog 72 = some ([.val (.int .i64 0), .val (.slice none 0 0), .val (.slice none 0 0)]) := by kernel_rfl
@[simp] theorem bytesT_72 : bytesT Tryz.prog 72 = 56 := by kernel_rfl
@[simp] theorem szOf_79 : szOf Tryz.prog 79 = 1 := by kernel_rfl
@[simp] theorem zeroT_79 : zeroT Tryz.prog 79 = some ([.val (.slice none 0 0)]) := by kernel_rfl
@[simp] theorem bytesT_79 : bytesT Tryz.prog 79 = 24 := by kernel_rfl
@[simp] theorem szOf_86 : szOf Tryz.prog 86 = 1 := by kernel_rfl
@[simp] theorem zeroT_86 : zeroT Tryz.prog 86 = some ([.val (.pointer none)]) := by kernel_rfl
@[simp] theorem bytesT_86 : bytesT Tryz.prog 86 = 8 := by kernel_rfl
@[simp] theorem szOf_100 : szOf Tryz.prog 100 = 13 := by kernel_rfl
@[simp] theorem zeroT_100 : zeroT Tryz.prog 100 = some (List.replicate 13 (.val (.bool false))) := by kernel_rfl
@[simp] theorem bytesT_100 : bytesT Tryz.prog 100 = 13 := by kernel_rfl
@[simp] theorem szOf_101 : szOf Tryz.prog 101 = 169 := by kernel_rfl
@[simp] theorem zeroT_101 : zeroT Tryz.prog 101 = some (List.replicate 169 (.val (.bool false))) := by kernel_rfl
@[simp] theorem bytesT_101 : bytesT Tryz.prog 101 = 169 := by kernel_rfl
@[simp] theorem szOf_102 : szOf Tryz.prog 102 = 169 := by kernel_rfl
@[simp] theorem zeroT_102 : zeroT Tryz.prog 102 = some (List.replicate 169 (.val (.bool false))) := by kernel_rfl
@[simp] theorem bytesT_102 : bytesT Tryz.prog 102 = 169 := by kernel_rfl
@[simp] theorem szOf_105 : szOf Tryz.prog 105 = 4 := by kernel_rfl
@[simp] theorem zeroT_105 : zeroT Tryz.prog 105 = some ([.val (.string ⟨#[]⟩), .val (.int .i64 0), .val (.slice none 0 0), .val (.slice none 0 0)]) := by kernel_rfl
@[simp] theorem bytesT_105 : bytesT Tryz.prog 105 = 72 := by kernel_rfl
@[simp] theorem szOf_106 : szOf Tryz.prog 106 = 4 := by kernel_rfl
@[simp] theorem zeroT_106 : zeroT Tryz.prog 106 = some ([.val (.string ⟨#[]⟩), .val (.int .i64 0), .val (.slice none 0 0), .val (.slice none 0 0)]) := by kernel_rfl
@[simp] theorem bytesT_106 : bytesT Tryz.prog 106 = 72 := by kernel_rfl
@[simp] theorem szOf_117 : szOf Tryz.prog 117 = 2 := by kernel_rfl
@[simp] theorem zeroT_117 : zeroT Tryz.prog 117 = some ([.val (.int .i64 0), .val (.int .i64 0)]) := by kernel_rfl
@[simp] theorem bytesT_117 : bytesT Tryz.prog 117 = 16 := by kernel_rfl
@[simp] theorem szOf_118 : szOf Tryz.prog 118 = 2 := by kernel_rfl
@[simp] theorem zeroT_118 : zeroT Tryz.prog 118 = some ([.val (.int .i64 0), .val (.int .i64 0)]) := by kernel_rfl
@[simp] theorem bytesT_118 : bytesT Tryz.prog 118 = 16 := by kernel_rfl
@[simp] theorem szOf_119 : szOf Tryz.prog 119 = 1 := by kernel_rfl
@[simp] theorem zeroT_119 : zeroT Tryz.prog 119 = some ([.val (.map none)]) := by kernel_rfl
@[simp] theorem bytesT_119 : bytesT Tryz.prog 119 = 8 := by kernel_rfl
@[simp] theorem szOf_125 : szOf Tryz.prog 125 = 256 := by kernel_rfl
@[simp] theorem zeroT_125 : zeroT Tryz.prog 125 = some (List.replicate 256 (.val (.bool false))) := by kernel_rfl
@[simp] theorem bytesT_125 : bytesT Tryz.prog 125 = 256 := by kernel_rfl
@[simp] theorem szOf_126 : szOf Tryz.prog 126 = 256 := by kernel_rfl
@[simp] theorem zeroT_126 : zeroT Tryz.prog 126 = some (List.replicate 256 (.val (.bool false))) := by kernel_rfl
@[simp] theorem bytesT_126 : bytesT Tryz.prog 126 = 256 := by kernel_rfl
@[simp] theorem szOf_133 : szOf Tryz.prog 133 = 3 := by kernel_rfl
@[simp] theorem zeroT_133 : zeroT Tryz.prog 133 = some ([.val (.int .i64 0), .val (.int .i64 0), .val (.int .i64 0)]) := by kernel_rfl
@[simp] theorem bytesT_133 : bytesT Tryz.prog 133 = 24 := by kernel_rfl
@[simp] theorem szOf_134 : szOf Tryz.prog 134 = 3 := by kernel_rfl
@[simp] theorem zeroT_134 : zeroT Tryz.prog 134 = some ([.val (.int .i64 0), .val (.int .i64 0), .val (.int .i64 0)]) := by kernel_rfl
@[simp] theorem bytesT_134 : bytesT Tryz.prog 134 = 24 := by kernel_rfl
@[simp] theorem szOf_138 : szOf Tryz.prog 138 = 1 := by kernel_rfl
@[simp] theorem zeroT_138 : zeroT Tryz.prog 138 = some ([.val (.slice none 0 0)]) := by kernel_rfl
@[simp] theorem bytesT_138 : bytesT Tryz.prog 138 = 24 := by kernel_rfl
@[simp] theorem szOf_143 : szOf Tryz.prog 143 = 1 := by kernel_rfl
@[simp] theorem zeroT_143 : zeroT Tryz.prog 143 = some ([.val (.slice none 0 0)]) := by kernel_rfl
@[simp] theorem bytesT_143 : bytesT Tryz.prog 143 = 24 := by kernel_rfl
@[simp] theorem szOf_144 : szOf Tryz.prog 144 = 2 := by kernel_rfl
@[simp] theorem zeroT_144 : zeroT Tryz.prog 144 = some ([.val (.slice none 0 0), .val (.int .i64 0)]) := by kernel_rfl
@[simp] theorem bytesT_144 : bytesT Tryz.prog 144 = 32 := by kernel_rfl
@[simp] theorem szOf_145 : szOf Tryz.prog 145 = 2 := by kernel_rfl
@[simp] theorem zeroT_145 : zeroT Tryz.prog 145 = some ([.val (.slice none 0 0), .val (.int .i64 0)]) := by kernel_rfl
@[simp] theorem bytesT_145 : bytesT Tryz.prog 145 = 32 := by kernel_rfl
@[simp] theorem szOf_148 : szOf Tryz.prog 148 = 1 := by kernel_rfl
@[simp] theorem zeroT_148 : zeroT Tryz.prog 148 = some ([.val (.slice none 0 0)]) := by kernel_rfl
@[simp] theorem bytesT_148 : bytesT Tryz.prog 148 = 24 := by kernel_rfl
@[simp] theorem szOf_150 : szOf Tryz.prog 150 = 1 := by kernel_rfl
@[simp] theorem zeroT_150 : zeroT Tryz.prog 150 = some ([.val (.slice none 0 0)]) := by kernel_rfl
@[simp] theorem bytesT_150 : bytesT Tryz.prog 150 = 24 := by kernel_rfl
@[simp] theorem szOf_156 : szOf Tryz.prog 156 = 256 := by kernel_rfl
@[simp] theorem zeroT_156 : zeroT Tryz.prog 156 = some (List.replicate 256 (.val (.int .i64 0))) := by kernel_rfl
@[simp] theorem bytesT_156 : bytesT Tryz.prog 156 = 2048 := by kernel_rfl
@[simp] theorem szOf_157 : szOf Tryz.prog 157 = 338 := by kernel_rfl
@[simp] theorem zeroT_157 : zeroT Tryz.prog 157 = some (List.replicate 338 (.val (.bool false))) := by kernel_rfl
@[simp] theorem bytesT_157 : bytesT Tryz.prog 157 = 338 := by kernel_rfl
@[simp] theorem szOf_158 : szOf Tryz.prog 158 = 1 := by kernel_rfl
@[simp] theorem zeroT_158 : zeroT Tryz.prog 158 = some ([.val (.slice none 0 0)]) := by kernel_rfl
@[simp] theorem bytesT_158 : bytesT Tryz.prog 158 = 24 := by kernel_rfl
@[simp] theorem szOf_167 : szOf Tryz.prog 167 = 2 := by kernel_rfl
@[simp] theorem zeroT_167 : zeroT Tryz.prog 167 = some ([.val (.int .i64 0), .val (.int .i64 0)]) := by kernel_rfl
@[simp] theorem bytesT_167 : bytesT Tryz.prog 167 = 16 := by kernel_rfl
@[simp] theorem szOf_179 : szOf Tryz.prog 179 = 1 := by kernel_rfl
@[simp] theorem zeroT_179 : zeroT Tryz.prog 179 = some ([.val (.map none)]) := by kernel_rfl
@[simp] theorem bytesT_179 : bytesT Tryz.prog 179 = 8 := by kernel_rfl
@[simp] theorem szOf_189 : szOf Tryz.prog 189 = 1 := by kernel_rfl
@[simp] theorem zeroT_189 : zeroT Tryz.prog 189 = some ([.val (.pointer none)]) := by kernel_rfl
@[simp] theorem bytesT_189 : bytesT Tryz.prog 189 = 8 := by kernel_rfl
@[simp] theorem szOf_190 : szOf Tryz.prog 190 = 2 := by kernel_rfl
@[simp] theorem zeroT_190 : zeroT Tryz.prog 190 = some ([.val (.pointer none), .val (.slice none 0 0)]) := by kernel_rfl
@[simp] theorem bytesT_190 : bytesT Tryz.prog 190 = 32 := by kernel_rfl
@[simp] theorem szOf_191 : szOf Tryz.prog 191 = 2 := by kernel_rfl
@[simp] theorem zeroT_191 : zeroT Tryz.prog 191 = some ([.val (.pointer none), .val (.slice none 0 0)]) := by kernel_rfl
@[simp] theorem bytesT_191 : bytesT Tryz.prog 191 = 32 := by kernel_rfl
@[simp] theorem szOf_193 : szOf Tryz.prog 193 = 1 := by kernel_rfl
@[simp] theorem zeroT_193 : zeroT Tryz.prog 193 = some ([.val .nilIface]) := by kernel_rfl
@[simp] theorem bytesT_193 : bytesT Tryz.prog 193 = 16 := by kernel_rfl
@[simp] theorem szOf_194 : szOf Tryz.prog 194 = 1 := by kernel_rfl
@[simp] theorem zeroT_194 : zeroT Tryz.prog 194 = some ([.val .nilIface]) := by kernel_rfl
@[simp] theorem bytesT_194 : bytesT Tryz.prog 194 = 16 := by kernel_rfl
@[simp] theorem szOf_201 : szOf Tryz.prog 201 = 1 := by kernel_rfl
@[simp] theorem zeroT_201 : zeroT Tryz.prog 201 = some ([.val (.int .u64 0)]) := by kernel_rfl
@[simp] theorem bytesT_201 : bytesT Tryz.prog 201 = 8 := by kernel_rfl
@[simp] theorem szOf_203 : szOf Tryz.prog 203 = 1 := by kernel_rfl
@[simp] theorem zeroT_203 : zeroT Tryz.prog 203 = some ([.val (.pointer none)]) := by kernel_rfl
@[simp] theorem bytesT_203 : bytesT Tryz.prog 203 = 8 := by kernel_rfl
@[simp] theorem szOf_205 : szOf Tryz.prog 205 = 1 := by kernel_rfl
@[simp] theorem zeroT_205 : zeroT Tryz.prog 205 = some ([.val (.int .i64 0)]) := by kernel_rfl
@[simp] theorem bytesT_205 : bytesT Tryz.prog 205 = 8 := by kernel_rfl
@[simp] theorem szOf_213 : szOf Tryz.prog 213 = 1 := by kernel_rfl
@[simp] theorem zeroT_213 : zeroT Tryz.prog 213 = some ([.val (.int .u32 0)]) := by kernel_rfl
@[simp] theorem bytesT_213 : bytesT Tryz.prog 213 = 4 := by kernel_rfl
@[simp] theorem szOf_215 : szOf Tryz.prog 215 = 1 := by kernel_rfl
@[simp] theorem zeroT_215 : zeroT Tryz.prog 215 = some ([.val (.int .u64 0)]) := by kernel_rfl
@[simp] theorem bytesT_215 : bytesT Tryz.prog 215 = 8 := by kernel_rfl
@[simp] theorem szOf_216 : szOf Tryz.prog 216 = 1 := by kernel_rfl
@[simp] theorem zeroT_216 : zeroT Tryz.prog 216 = some ([.val (.pointer none)]) := by kernel_rfl
@[simp] theorem bytesT_216 : bytesT Tryz.prog 216 = 8 := by kernel_rfl
@[simp] theorem szOf_219 : szOf Tryz.prog 219 = 1 := by kernel_rfl
@[simp] theorem zeroT_219 : zeroT Tryz.prog 219 = some ([.val (.int .u64 0)]) := by kernel_rfl
@[simp] theorem bytesT_219 : bytesT Tryz.prog 219 = 8 := by kernel_rfl
@[simp] theorem szOf_223 : szOf Tryz.prog 223 = 1 := by kernel_rfl
@[simp] theorem zeroT_223 : zeroT Tryz.prog 223 = some ([.val (.pointer none)]) := by kernel_rfl
@[simp] theorem bytesT_223 : bytesT Tryz.prog 223 = 8 := by kernel_rfl
@[simp] theorem szOf_226 : szOf Tryz.prog 226 = 1 := by kernel_rfl
@[simp] theorem zeroT_226 : zeroT Tryz.prog 226 = some ([.val (.pointer none)]) := by kernel_rfl
@[simp] theorem bytesT_226 : bytesT Tryz.prog 226 = 8 := by kernel_rfl
@[simp] theorem szOf_228 : szOf Tryz.prog 228 = 24 := by kernel_rfl
@[simp] theorem zeroT_228 : zeroT Tryz.prog 228 = some (List.replicate 24 (.val (.int .u8 0))) := by kernel_rfl
@[simp] theorem bytesT_228 : bytesT Tryz.prog 228 = 24 := by kernel_rfl
@[simp] theorem szOf_233 : szOf Tryz.prog 233 = 20 := by kernel_rfl
@[simp] theorem zeroT_233 : zeroT Tryz.prog 233 = some (List.replicate 20 (.val (.int .u64 0))) := by kernel_rfl
@[simp] theorem bytesT_233 : bytesT Tryz.prog 233 = 160 := by kernel_rfl
@[simp] theorem szOf_234 : szOf Tryz.prog 234 = 65 := by kernel_rfl
@[simp] theorem zeroT_234 : zeroT Tryz.prog 234 = some (List.replicate 65 (.val (.int .u8 0))) := by kernel_rfl
@[simp] theorem bytesT_234 : bytesT Tryz.prog 234 = 65 := by kernel_rfl
@[simp] theorem szOf_236 : szOf Tryz.prog 236 = 32 := by kernel_rfl
@[simp] theorem zeroT_236 : zeroT Tryz.prog 236 = some (List.replicate 32 (.val (.int .u8 0))) := by kernel_rfl
@[simp] theorem bytesT_236 : bytesT Tryz.prog 236 = 32 := by kernel_rfl
@[simp] theorem szOf_237 : szOf Tryz.prog 237 = 64 := by kernel_rfl
@[simp] theorem zeroT_237 : zeroT Tryz.prog 237 = some (List.replicate 64 (.val (.int .u8 0))) := by kernel_rfl
@[simp] theorem bytesT_237 : bytesT Tryz.prog 237 = 64 := by kernel_rfl
@[simp] theorem szOf_238 : szOf Tryz.prog 238 = 4 := by kernel_rfl
@[simp] theorem zeroT_238 : zeroT Tryz.prog 238 = some ([.val (.pointer none), .val (.pointer none), .val (.pointer none), .val (.string ⟨#[]⟩)]) := by kernel_rfl
@[simp] theorem bytesT_238 : bytesT Tryz.prog 238 = 40 := by kernel_rfl
@[simp] theorem szOf_239 : szOf Tryz.prog 239 = 4 := by kernel_rfl
@[simp] theorem zeroT_239 : zeroT Tryz.prog 239 = some ([.val (.pointer none), .val (.pointer none), .val (.pointer none), .val (.string ⟨#[]⟩)]) := by kernel_rfl
@[simp] theorem bytesT_239 : bytesT Tryz.prog 239 = 40 := by kernel_rfl
@[simp] theorem szOf_240 : szOf Tryz.prog 240 = 0 := by kernel_rfl
@[simp] theorem szOf_241 : szOf Tryz.prog 241 = 0 := by kernel_rfl
@[simp] theorem szOf_242 : szOf Tryz.prog 242 = 0 := by kernel_rfl
@[simp] theorem szOf_244 : szOf Tryz.prog 244 = 1 := by kernel_rfl
@[simp] theorem zeroT_244 : zeroT Tryz.prog 244 = some ([.val (.int .u8 0)]) := by kernel_rfl
@[simp] theorem bytesT_244 : bytesT Tryz.prog 244 = 1 := by kernel_rfl
@[simp] theorem szOf_245 : szOf Tryz.prog 245 = 1 := by kernel_rfl
@[simp] theorem zeroT_245 : zeroT Tryz.prog 245 = some ([.val (.int .u8 0)]) := by kernel_rfl
@[simp] theorem bytesT_245 : bytesT Tryz.prog 245 = 1 := by kernel_rfl
@[simp] theorem szOf_247 : szOf Tryz.prog 247 = 1 := by kernel_rfl
@[simp] theorem zeroT_247 : zeroT Tryz.prog 247 = some ([.val (.int .i32 0)]) := by kernel_rfl
@[simp] theorem bytesT_247 : bytesT Tryz.prog 247 = 4 := by kernel_rfl
@[simp] theorem szOf_248 : szOf Tryz.prog 248 = 1 := by kernel_rfl
@[simp] theorem zeroT_248 : zeroT Tryz.prog 248 = some ([.val (.int .i32 0)]) := by kernel_rfl
@[simp] theorem bytesT_248 : bytesT Tryz.prog 248 = 4 := by kernel_rfl
@[simp] theorem szOf_249 : szOf Tryz.prog 249 = 11 := by kernel_rfl
@[simp] theorem zeroT_249 : zeroT Tryz.prog 249 = some ([.val (.int .u64 0), .val (.int .u64 0), .val (.int .u32 0), .val (.int .u8 0), .val (.int .u8 0), .val (.int .u8 0), .val (.int .u8 0), .val .nilFunc, .val (.pointer none), .val (.int .i32 0), .val (.int .i32 0)]) := by kernel_rfl
@[simp] theorem bytesT_249 : bytesT Tryz.prog 249 = 48 := by kernel_rfl
@[simp] theorem szOf_250 : szOf Tryz.prog 250 = 11 := by kernel_rfl
@[simp] theorem zeroT_250 : zeroT Tryz.prog 250 = some ([.val (.int .u64 0), .val (.int .u64 0), .val (.int .u32 0), .val (.int .u8 0), .val (.int .u8 0), .val (.int .u8 0), .val (.int .u8 0), .val .nilFunc, .val (.pointer none), .val (.int .i32 0), .val (.int .i32 0)]) := by kernel_rfl
@[simp] theorem bytesT_250 : bytesT Tryz.prog 250 = 48 := by kernel_rfl
@[simp] theorem callable_3 : callable Tryz.prog 3 = true := by kernel_rfl
@[simp] theorem callable_4 : callable Tryz.prog 4 = true := by kernel_rfl
@[simp] theorem callable_5 : callable Tryz.prog 5 = true := by kernel_rfl
@[simp] theorem callable_6 : callable Tryz.prog 6 = true := by kernel_rfl
@[simp] theorem callable_7 : callable Tryz.prog 7 = true := by kernel_rfl
@[simp] theorem callable_8 : callable Tryz.prog 8 = true := by kernel_rfl
@[simp] theorem callable_9 : callable Tryz.prog 9 = true := by kernel_rfl
@[simp] theorem callable_10 : callable Tryz.prog 10 = true := by kernel_rfl
@[simp] theorem callable_11 : callable Tryz.prog 11 = true := by kernel_rfl
@[simp] theorem callable_12 : callable Tryz.prog 12 = true := by kernel_rfl
@[simp] theorem callable_13 : callable Tryz.prog 13 = true := by kernel_rfl
@[simp] theorem callable_14 : callable Tryz.prog 14 = true := by kernel_rfl
@[simp] theorem callable_15 : callable Tryz.prog 15 = true := by kernel_rfl
@[simp] theorem callable_16 : callable Tryz.prog 16 = true := by kernel_rfl
@[simp] theorem callable_17 : callable Tryz.prog 17 = true := by kernel_rfl
@[simp] theorem callable_18 : callable Tryz.prog 18 = true := by kernel_rfl
@[simp] theorem callable_19 : callable Tryz.prog 19 = true := by kernel_rfl
@[simp] theorem callable_20 : callable Tryz.prog 20 = true := by kernel_rfl
@[simp] theorem callable_21 : callable Tryz.prog 21 = true := by kernel_rfl
@[simp] theorem callable_22 : callable Tryz.prog 22 = true := by kernel_rfl
@[simp] theorem callable_23 : callable Tryz.prog 23 = true := by kernel_rfl
@[simp] theorem callable_24 : callable Tryz.prog 24 = true := by kernel_rfl
@[simp] theorem callable_25 : callable Tryz.prog 25 = true := by kernel_rfl
@[simp] theorem callable_26 : callable Tryz.prog 26 = true := by kernel_rfl
@[simp] theorem callable_27 : callable Tryz.prog 27 = true := by kernel_rfl
@[simp] theorem callable_28 : callable Tryz.prog 28 = true := by kernel_rfl
@[simp] theorem callable_29 : callable Tryz.prog 29 = true := by kernel_rfl
@[simp] theorem callable_30 : callable Tryz.prog 30 = true := by kernel_rfl
@[simp] theorem callable_31 : callable Tryz.prog 31 = true := by kernel_rfl
@[simp] theorem callable_32 : callable Tryz.prog 32 = true := by kernel_rfl
@[simp] theorem callable_33 : callable Tryz.prog 33 = true := by kernel_rfl
@[simp] theorem callable_34 : callable Tryz.prog 34 = true := by kernel_rfl
@[simp] theorem callable_35 : callable Tryz.prog 35 = true := by kernel_rfl
@[simp] theorem callable_36 : callable Tryz.prog 36 = true := by kernel_rfl
@[simp] theorem callable_37 : callable Tryz.prog 37 = true := by kernel_rfl
@[simp] theorem callable_38 : callable Tryz.prog 38 = true := by kernel_rfl
@[simp] theorem callable_39 : callable Tryz.prog 39 = true := by kernel_rfl
@[simp] theorem callable_40 : callable Tryz.prog 40 = true := by kernel_rfl
@[simp] theorem callable_41 : callable Tryz.prog 41 = true := by kernel_rfl
@[simp] theorem callable_42 : callable Tryz.prog 42 = true := by kernel_rfl
@[simp] theorem callable_43 : callable Tryz.prog 43 = true := by kernel_rfl
@[simp] theorem callable_44 : callable Tryz.prog 44 = true := by kernel_rfl
@[simp] theorem callable_45 : callable Tryz.prog 45 = true := by kernel_rfl
@[simp] theorem callable_46 : callable Tryz.prog 46 = true := by kernel_rfl
@[simp] theorem callable_47 : callable Tryz.prog 47 = true := by kernel_rfl
@[simp] theorem callable_48 : callable Tryz.prog 48 = true := by kernel_rfl
@[simp] theorem callable_49 : callable Tryz.prog 49 = true := by kernel_rfl
@[simp] theorem callable_50 : callable Tryz.prog 50 = true := by kernel_rfl
@[simp] theorem callable_51 : callable Tryz.prog 51 = true := by kernel_rfl
@[simp] theorem callable_52 : callable Tryz.prog 52 = true := by kernel_rfl
@[simp] theorem callable_53 : callable Tryz.prog 53 = true := by kernel_rfl
@[simp] theorem callable_54 : callable Tryz.prog 54 = true := by kernel_rfl
@[simp] theorem callable_55 : callable Tryz.prog 55 = true := by kernel_rfl
@[simp] theorem callable_56 : callable Tryz.prog 56 = true := by kernel_rfl
@[simp] theorem callable_57 : callable Tryz.prog 57 = true := by kernel_rfl
@[simp] theorem callable_58 : callable Tryz.prog 58 = true := by kernel_rfl
@[simp] theorem callable_59 : callable Tryz.prog 59 = true := by kernel_rfl
@[simp] theorem callable_60 : callable Tryz.prog 60 = true := by kernel_rfl
@[simp] theorem callable_61 : callable Tryz.prog 61 = true := by kernel_rfl
@[simp] theorem callable_62 : callable Tryz.prog 62 = true := by kernel_rfl
@[simp] theorem callable_63 : callable Tryz.prog 63 = true := by kernel_rfl
@[simp] theorem callable_64 : callable Tryz.prog 64 = true := by kernel_rfl
@[simp] theorem callable_65 : callable Tryz.prog 65 = true := by kernel_rfl
@[simp] theorem callable_66 : callable Tryz.prog 66 = true := by kernel_rfl
@[simp] theorem callable_67 : callable Tryz.prog 67 = true := by kernel_rfl
@[simp] theorem callable_68 : callable Tryz.prog 68 = true := by kernel_rfl
@[simp] theorem callable_69 : callable Tryz.prog 69 = true := by kernel_rfl
@[simp] theorem callable_70 : callable Tryz.prog 70 = true := by kernel_rfl
@[simp] theorem callable_71 : callable Tryz.prog 71 = true := by kernel_rfl
@[simp] theorem callable_72 : callable Tryz.prog 72 = true := by kernel_rfl
@[simp] theorem callable_73 : callable Tryz.prog 73 = true := by kernel_rfl
@[simp] theorem callable_74 : callable Tryz.prog 74 = true := by kernel_rfl
@[simp] theorem callable_75 : callable Tryz.prog 75 = true := by kernel_rfl
@[simp] theorem callable_76 : callable Tryz.prog 76 = true := by kernel_rfl
@[simp] theorem callable_77 : callable Tryz.prog 77 = true := by kernel_rfl
@[simp] theorem callable_78 : callable Tryz.prog 78 = true := by kernel_rfl
@[simp] theorem callable_79 : callable Tryz.prog 79 = true := by kernel_rfl
@[simp] theorem callable_80 : callable Tryz.prog 80 = true := by kernel_rfl
@[simp] theorem callable_81 : callable Tryz.prog 81 = true := by kernel_rfl
@[simp] theorem callable_82 : callable Tryz.prog 82 = true := by kernel_rfl
@[simp] theorem callable_83 : callable Tryz.prog 83 = true := by kernel_rfl
@[simp] theorem callable_84 : callable Tryz.prog 84 = true := by kernel_rfl
@[simp] theorem callable_85 : callable Tryz.prog 85 = true := by kernel_rfl
@[simp] theorem callable_86 : callable Tryz.prog 86 = true := by kernel_rfl
@[simp] theorem callable_87 : callable Tryz.prog 87 = true := by kernel_rfl
@[simp] theorem callable_88 : callable Tryz.prog 88 = true := by kernel_rfl
@[simp] theorem callable_89 : callable Tryz.prog 89 = true := by kernel_rfl
@[simp] theorem callable_90 : callable Tryz.prog 90 = true := by kernel_rfl
@[simp] theorem callable_91 : callable Tryz.prog 91 = true := by kernel_rfl
@[simp] theorem callable_92 : callable Tryz.prog 92 = true := by kernel_rfl
@[simp] theorem callable_93 : callable Tryz.prog 93 = true := by kernel_rfl
@[simp] theorem callable_94 : callable Tryz.prog 94 = true := by kernel_rfl
@[simp] theorem callable_95 : callable Tryz.prog 95 = true := by kernel_rfl
@[simp] theorem callable_96 : callable Tryz.prog 96 = true := by kernel_rfl
@[simp] theorem callable_97 : callable Tryz.prog 97 = true := by kernel_rfl
@[simp] theorem callable_98 : callable Tryz.prog 98 = true := by kernel_rfl
@[simp] theorem callable_99 : callable Tryz.prog 99 = true := by kernel_rfl
@[simp] theorem callable_100 : callable Tryz.prog 100 = true := by kernel_rfl
@[simp] theorem callable_101 : callable Tryz.prog 101 = true := by kernel_rfl
@[simp] theorem callable_102 : callable Tryz.prog 102 = true := by kernel_rfl
@[simp] theorem callable_103 : callable Tryz.prog 103 = true := by kernel_rfl
@[simp] theorem callable_104 : callable Tryz.prog 104 = true := by kernel_rfl
@[simp] theorem callable_105 : callable Tryz.prog 105 = true := by kernel_rfl
@[simp] theorem callable_106 : callable Tryz.prog 106 = true := by kernel_rfl
@[simp] theorem callable_107 : callable Tryz.prog 107 = true := by kernel_rfl
@[simp] theorem callable_108 : callable Tryz.prog 108 = true := by kernel_rfl
@[simp] theorem callable_109 : callable Tryz.prog 109 = true := by kernel_rfl
@[simp] theorem callable_110 : callable Tryz.prog 110 = true := by kernel_rfl
@[simp] theorem callable_111 : callable Tryz.prog 111 = true := by kernel_rfl
@[simp] theorem callable_112 : callable Tryz.prog 112 = true := by kernel_rfl
@[simp] theorem callable_113 : callable Tryz.prog 113 = true := by kernel_rfl
@[simp] theorem callable_114 : callable Tryz.prog 114 = true := by kernel_rfl
@[simp] theorem callable_115 : callable Tryz.prog 115 = true := by kernel_rfl
@[simp] theorem callable_116 : callable Tryz.prog 116 = true := by kernel_rfl
@[simp] theorem callable_117 : callable Tryz.prog 117 = true := by kernel_rfl
@[simp] theorem callable_118 : callable Tryz.prog 118 = true := by kernel_rfl
@[simp] theorem callable_119 : callable Tryz.prog 119 = true := by kernel_rfl
@[simp] theorem callable_120 : callable Tryz.prog 120 = true := by kernel_rfl
@[simp] theorem callable_121 : callable Tryz.prog 121 = true := by kernel_rfl
@[simp] theorem callable_122 : callable Tryz.prog 122 = true := by kernel_rfl
@[simp] theorem callable_123 : callable Tryz.prog 123 = true := by kernel_rfl
@[simp] theorem callable_124 : callable Tryz.prog 124 = true := by kernel_rfl
@[simp] theorem callable_125 : callable Tryz.prog 125 = true := by kernel_rfl
@[simp] theorem callable_126 : callable Tryz.prog 126 = true := by kernel_rfl
@[simp] theorem callable_127 : callable Tryz.prog 127 = true := by kernel_rfl
@[simp] theorem callable_128 : callable Tryz.prog 128 = true := by kernel_rfl
@[simp] theorem callable_129 : callable Tryz.prog 129 = true := by kernel_rfl
@[simp] theorem callable_130 : callable Tryz.prog 130 = true := by kernel_rfl
@[simp] theorem callable_131 : callable Tryz.prog 131 = true := by kernel_rfl
@[simp] theorem callable_132 : callable Tryz.prog 132 = true := by kernel_rfl
@[simp] theorem callable_133 : callable Tryz.prog 133 = true := by kernel_rfl
@[simp] theorem callable_134 : callable Tryz.prog 134 = true := by kernel_rfl
@[simp] theorem callable_135 : callable Tryz.prog 135 = true := by kernel_rfl
@[simp] theorem callable_136 : callable Tryz.prog 136 = true := by kernel_rfl
@[simp] theorem callable_137 : callable Tryz.prog 137 = true := by kernel_rfl
@[simp] theorem callable_138 : callable Tryz.prog 138 = true := by kernel_rfl
@[simp] theorem callable_139 : callable Tryz.prog 139 = true := by kernel_rfl
@[simp] theorem callable_140 : callable Tryz.prog 140 = true := by kernel_rfl
@[simp] theorem callable_141 : callable Tryz.prog 141 = true := by kernel_rfl
@[simp] theorem callable_142 : callable Tryz.prog 142 = true := by kernel_rfl
@[simp] theorem callable_143 : callable Tryz.prog 143 = true := by kernel_rfl
@[simp] theorem callable_144 : callable Tryz.prog 144 = true := by kernel_rfl
@[simp] theorem callable_145 : callable Tryz.prog 145 = true := by kernel_rfl
@[simp] theorem callable_146 : callable Tryz.prog 146 = true := by kernel_rfl
@[simp] theorem callable_147 : callable Tryz.prog 147 = true := by kernel_rfl
@[simp] theorem callable_148 : callable Tryz.prog 148 = true := by kernel_rfl
@[simp] theorem callable_149 : callable Tryz.prog 149 = true := by kernel_rfl
@[simp] theorem callable_150 : callable Tryz.prog 150 = true := by kernel_rfl
@[simp] theorem callable_151 : callable Tryz.prog 151 = true := by kernel_rfl
@[simp] theorem callable_152 : callable Tryz.prog 152 = true := by kernel_rfl
@[simp] theorem callable_153 : callable Tryz.prog 153 = true := by kernel_rfl
@[simp] theorem callable_154 : callable Tryz.prog 154 = true := by kernel_rfl
@[simp] theorem callable_155 : callable Tryz.prog 155 = true := by kernel_rfl
@[simp] theorem callable_156 : callable Tryz.prog 156 = true := by kernel_rfl
@[simp] theorem callable_157 : callable Tryz.prog 157 = true := by kernel_rfl
@[simp] theorem callable_158 : callable Tryz.prog 158 = true := by kernel_rfl
@[simp] theorem callable_159 : callable Tryz.prog 159 = true := by kernel_rfl
@[simp] theorem callable_160 : callable Tryz.prog 160 = true := by kernel_rfl
@[simp] theorem callable_161 : callable Tryz.prog 161 = true := by kernel_rfl
@[simp] theorem callable_162 : callable Tryz.prog 162 = true := by kernel_rfl
@[simp] theorem callable_163 : callable Tryz.prog 163 = true := by kernel_rfl
@[simp] theorem callable_164 : callable Tryz.prog 164 = true := by kernel_rfl
@[simp] theorem callable_165 : callable Tryz.prog 165 = true := by kernel_rfl
@[simp] theorem callable_166 : callable Tryz.prog 166 = true := by kernel_rfl
@[simp] theorem callable_167 : callable Tryz.prog 167 = true := by kernel_rfl
@[simp] theorem callable_168 : callable Tryz.prog 168 = true := by kernel_rfl
@[simp] theorem callable_169 : callable Tryz.prog 169 = true := by kernel_rfl
@[simp] theorem callable_170 : callable Tryz.prog 170 = true := by kernel_rfl
@[simp] theorem callable_171 : callable Tryz.prog 171 = true := by kernel_rfl
@[simp] theorem callable_172 : callable Tryz.prog 172 = true := by kernel_rfl
@[simp] theorem callable_173 : callable Tryz.prog 173 = true := by kernel_rfl
@[simp] theorem callable_174 : callable Tryz.prog 174 = true := by kernel_rfl
@[simp] theorem callable_175 : callable Tryz.prog 175 = true := by kernel_rfl
@[simp] theorem callable_176 : callable Tryz.prog 176 = true := by kernel_rfl
@[simp] theorem callable_177 : callable Tryz.prog 177 = true := by kernel_rfl
@[simp] theorem callable_178 : callable Tryz.prog 178 = true := by kernel_rfl
@[simp] theorem callable_179 : callable Tryz.prog 179 = true := by kernel_rfl
@[simp] theorem callable_180 : callable Tryz.prog 180 = true := by kernel_rfl
@[simp] theorem callable_181 : callable Tryz.prog 181 = true := by kernel_rfl
@[simp] theorem callable_182 : callable Tryz.prog 182 = true := by kernel_rfl
@[simp] theorem callable_183 : callable Tryz.prog 183 = true := by kernel_rfl
@[simp] theorem callable_184 : callable Tryz.prog 184 = true := by kernel_rfl
@[simp] theorem callable_185 : callable Tryz.prog 185 = true := by kernel_rfl
@[simp] theorem callable_186 : callable Tryz.prog 186 = true := by kernel_rfl
@[simp] theorem callable_187 : callable Tryz.prog 187 = true := by kernel_rfl
@[simp] theorem callable_188 : callable Tryz.prog 188 = true := by kernel_rfl
@[simp] theorem callable_189 : callable Tryz.prog 189 = true := by kernel_rfl
@[simp] theorem callable_190 : callable Tryz.prog 190 = true := by kernel_rfl
@[simp] theorem callable_191 : callable Tryz.prog 191 = true := by kernel_rfl
@[simp] theorem callable_192 : callable Tryz.prog 192 = true := by kernel_rfl
@[simp] theorem callable_193 : callable Tryz.prog 193 = true := by kernel_rfl
@[simp] theorem callable_194 : callable Tryz.prog 194 = true := by kernel_rfl
@[simp] theorem callable_195 : callable Tryz.prog 195 = true := by kernel_rfl
@[simp] theorem callable_196 : callable Tryz.prog 196 = true := by kernel_rfl
@[simp] theorem callable_197 : callable Tryz.prog 197 = true := by kernel_rfl
@[simp] theorem callable_198 : callable Tryz.prog 198 = true := by kernel_rfl
@[simp] theorem callable_199 : callable Tryz.prog 199 = true := by kernel_rfl
@[simp] theorem callable_200 : callable Tryz.prog 200 = true := by kernel_rfl
@[simp] theorem callable_201 : callable Tryz.prog 201 = true := by kernel_rfl
@[simp] theorem callable_203 : callable Tryz.prog 203 = true := by kernel_rfl
@[simp] theorem callable_207 : callable Tryz.prog 207 = true := by kernel_rfl
@[simp] theorem callable_208 : callable Tryz.prog 208 = true := by kernel_rfl
@[simp] theorem callable_211 : callable Tryz.prog 211 = true := by kernel_rfl
@[simp] theorem callable_212 : callable Tryz.prog 212 = true := by kernel_rfl
@[simp] theorem callable_215 : callable Tryz.prog 215 = true := by kernel_rfl
@[simp] theorem callable_227 : callable Tryz.prog 227 = true := by kernel_rfl
theorem mixed : Tryz.prog.follows .mixedOrders = true := by kernel_rfl

end Go.Proofs.YtdomnlnanbekaaaGreatDoor.R

open Go Go.Proofs.YtdomnlnanbekaaaGreatDoor.T
namespace Go.Proofs.YtdomnlnanbekaaaGreatDoor.R
inductive Rex where
  | mk (kind : Int) (set : List (Int × Int)) (kids : List Rex)
  deriving Inhabited
def encSp (s : Int × Int) : List TV := [.val (.int .i64 s.1), .val (.int .i64 s.2)]
mutual
def encRex : Rex → List TV
  | .mk k s l => [.val (.int .i64 k), .ro (s.map encSp), .ro (encRexL l)]
def encRexL : List Rex → List (List TV)
  | [] => []
  | r :: l => encRex r :: encRexL l
end
@[simp] theorem len_S (r : Int × Int) : (encSp r).length = 2 := by simp [encSp]
@[simp] theorem take_S (r : Int × Int) : (encSp r).take 2 = encSp r := by simp [encSp]
@[simp] theorem plain_S (r : Int × Int) : (encSp r).all TV.plain = true := by simp [encSp]
@[simp] theorem pc_S (r : Int × Int) : (encSp r).all TV.pc = true := by simp [encSp]
@[simp] theorem noH_S (r : Int × Int) : noHL (encSp r) = true := by simp [encSp]
@[simp] theorem argTL_S {H : Nat → Option TV} {ρ : List Nat} (r : Int × Int) : argTL H ρ (encSp r) = some (encSp r) := by simp [encSp]
@[simp] theorem views_S {ρ : List Nat} (r : Int × Int) : (encSp r).flatMap (views1 ρ) = [] := by simp [encSp]
theorem opnL_of {k : Nat} : ∀ (l : List TV), noHL l = true → (∀ t ∈ l, (match t with | .own _ _ | .box _ _ | .agg _ | .tup _ | .mp _ _ => false | _ => true) = true) → opnL k l = (l, [])
  | [], _, _ => by simp
  | t :: l, hn, h => by
    have h1 := h t (by simp)
    have h2 := opnL_of (k := k) l (by simp at hn; exact hn.2) fun t ht => h t (by simp [ht])
    cases t <;> simp at h1 <;> simp [h2]
@[simp] theorem opnL_S {k : Nat} (r : Int × Int) : opnL k (encSp r) = (encSp r, []) := by simp [encSp]
@[simp] theorem len_rex (r : Rex) : (encRex r).length = 3 := by cases r; simp [encRex]
@[simp] theorem take_rex (r : Rex) : (encRex r).take 3 = encRex r := by cases r; simp [encRex]
@[simp] theorem plain_rex (r : Rex) : (encRex r).all TV.plain = true := by cases r; simp [encRex]
@[simp] theorem pc_rex (r : Rex) : (encRex r).all TV.pc = true := by cases r; simp [encRex, TV.pc, TV.cell, Value.oneCell']
@[simp] theorem noHR_set (s : List (Int × Int)) : noHR (s.map encSp) = true := by induction s <;> simp [encSp, *]
mutual
theorem noH_rex : ∀ r : Rex, noHL (encRex r) = true
  | .mk k s l => by simp [encRex, noHR_rex l]
theorem noHR_rex : ∀ l : List Rex, noHR (encRexL l) = true
  | [] => by simp [encRexL]
  | r :: l => by simp [encRexL, noH_rex r, noHR_rex l]
end
attribute [simp] noH_rex noHR_rex
@[simp] theorem opnL_rex {k : Nat} (r : Rex) : opnL k (encRex r) = (encRex r, []) := by cases r; simp [encRex]
@[simp] theorem closeL_S {H : Nat → Option TV} (r : Int × Int) : closeL H (encSp r) = some (encSp r, H) := by simp [encSp]
@[simp] theorem closeL_rex {H : Nat → Option TV} (r : Rex) : closeL H (encRex r) = some (encRex r, H) := by cases r; simp [encRex]
@[simp] theorem argTL_rex {H : Nat → Option TV} {ρ : List Nat} (r : Rex) : argTL H ρ (encRex r) = some (encRex r) := by
  obtain ⟨k, s, l⟩ := r
  have h1 := noHR_set s
  have h2 := noHR_rex l
  simp [encRex, h1, h2]
@[simp] theorem views_rex {ρ : List Nat} (r : Rex) : (encRex r).flatMap (views1 ρ) = [] := by cases r; simp [encRex]
theorem encRexL_eq : ∀ l : List Rex, encRexL l = l.map encRex
  | [] => rfl
  | r :: l => by simp [encRexL, encRexL_eq l]
end Go.Proofs.YtdomnlnanbekaaaGreatDoor.R

open Go Go.Proofs.YtdomnlnanbekaaaGreatDoor.T
namespace Go.Proofs.YtdomnlnanbekaaaGreatDoor.R
set_option maxHeartbeats 2000000
set_option linter.unusedSimpArgs false
set_option linter.unusedVariables false
set_option maxRecDepth 100000

theorem hw1 {i n : Nat} (h : i < n) (hn : n ≤ 1152921504606846976) : IntKind.i64.wrap ((i : Int) + 1) = (i : Int) + 1 := wrapi (by omega)
mutual
def Small : Rex → Prop
  | .mk _ s l => s.length ≤ 1152921504606846976 ∧ l.length ≤ 1152921504606846976 ∧ SmallL l
def SmallL : List Rex → Prop
  | [] => True
  | r :: l => Small r ∧ SmallL l
end
theorem SmallL.get : ∀ {l : List Rex} {i : Nat} (h : SmallL l) (hi : i < l.length), Small l[i]
  | r :: l, 0, h, _ => h.1
  | r :: l, i + 1, h, hi => by
    simp only [List.getElem_cons_succ]
    exact SmallL.get h.2 (by simpa using hi)
def szN (n : Nat) (left : Int) : Int := if IntKind.i64.wrap (left - n) < 0 then -1 else IntKind.i64.wrap (left - n)
mutual
def szRexF : Rex → Int → Int
  | .mk _ s l, left => if szN s.length left < 0 then -1 else if (if IntKind.i64.wrap (szN s.length left - l.length) < 0 then -1 else szLoopF l (IntKind.i64.wrap (szN s.length left - l.length))) < 0 then -1 else (if IntKind.i64.wrap (szN s.length left - l.length) < 0 then -1 else szLoopF l (IntKind.i64.wrap (szN s.length left - l.length)))
def szLoopF : List Rex → Int → Int
  | [], a => a
  | r :: l, a => if szRexF r a < 0 then -1 else szLoopF l (szRexF r a)
end
def szRexSF (l : List Rex) (left : Int) : Int := if IntKind.i64.wrap (left - l.length) < 0 then -1 else szLoopF l (IntKind.i64.wrap (left - l.length))
theorem szRexF_eq (k : Int) (s : List (Int × Int)) (l : List Rex) (left : Int) : szRexF (.mk k s l) left = if szN s.length left < 0 then -1 else if szRexSF l (szN s.length left) < 0 then -1 else szRexSF l (szN s.length left) := by
  simp only [szRexF, szRexSF]; rfl
theorem szLoopF_drop {l : List Rex} {i : Nat} (h : i < l.length) (a : Int) : szLoopF (l.drop i) a = if szRexF l[i] a < 0 then -1 else szLoopF (l.drop (i + 1)) (szRexF l[i] a) := by
  conv => lhs; rw [List.drop_eq_getElem_cons h]
  rw [szLoopF]
theorem tc_szSpanS (l : List (Int × Int)) (left : Int) : TC Tryz.prog 114 [.ro (l.map encSp), .val (.int .i64 left)] [] (.val (.int .i64 (szN l.length left))) [] := by
  refine TC.enter Tryz.func114 rfl (by simp [Tryz.ntmps114]) rfl (tw_sound (ρ := []) ?_)
  rw [Tryz.ntmps114]
  simp
  refine gif_intro (fun c1 => ?_) (fun c1 => ?_) <;> simp [szN, c1]
theorem tc_szRexS (l : List Rex) (hl : l.length ≤ 1152921504606846976) (ih : ∀ i (h : i < l.length) (a : Int), TC Tryz.prog 47 [.agg (encRex l[i]), .val (.int .i64 a)] [] (.val (.int .i64 (szRexF l[i] a))) []) (left : Int) :
    TC Tryz.prog 115 [.ro (encRexL l), .val (.int .i64 left)] [] (.val (.int .i64 (szRexSF l left))) [] := by
  rw [encRexL_eq]
  refine TC.enter Tryz.func115 rfl (by simp [Tryz.ntmps115]) rfl (tw_sound (ρ := []) ?_)
  rw [Tryz.ntmps115]
  simp
  refine gif_intro (fun c1 => ?_) (fun c1 => ?_) <;> simp [szRexSF, c1]
  refine TWcH.loop [] (fun m s => ∃ i a, i + m = l.length ∧ s.σ 0 = .ro (l.map encRex) ∧ s.σ 1 = .val (.int .i64 a) ∧ s.σ 5 = .val (.int .i64 i) ∧ szLoopF l (IntKind.i64.wrap (left - l.length)) = szLoopF (l.drop i) a) l.length ⟨0, IntKind.i64.wrap (left - l.length), by simp⟩ ?_
  rintro m ⟨σ, H⟩ ⟨i, a, him, h0, h1, h5, hh⟩
  simp only at h0 h1 h5
  by_cases hi : i < l.length
  · rw [szLoopF_drop hi] at hh
    have hw := hw1 hi hl
    simp [h0, h1, h5, getI hi, hi]
    refine TWoH.callV (ih i hi a) callable_47 (by simp [*]) (by simp) (by simp) (by simp [*]) ?_
    simp [h0, h1, h5, hi]
    refine gif_intro (fun c2 => ?_) (fun c2 => ?_) <;> simp [h0, h1, h5, hi, c2, hw]
    · simp [hh, c2]
    · exact ⟨m - 1, by omega, i + 1, by omega, by omega, by simp [hh, c2]⟩
  · simp [h0, h1, h5, hi]
    rw [if_neg c1, hh, List.drop_eq_nil_of_le (by omega)]; rfl
mutual
theorem tc_szRex : ∀ (r : Rex), Small r → ∀ (left : Int), TC Tryz.prog 47 [.agg (encRex r), .val (.int .i64 left)] [] (.val (.int .i64 (szRexF r left))) []
  | .mk k s l, hs, left => by
    refine TC.enter Tryz.func47 rfl (by simp [Tryz.ntmps47]) rfl (tw_sound (ρ := [2]) ?_)
    rw [Tryz.ntmps47]
    simp [encRex]
    refine TWoH.callV (tc_szSpanS s left) callable_114 (by simp [*]) (by simp) (by simp) (by simp [*]) ?_
    simp
    refine gif_intro (fun c1 => ?_) (fun c1 => ?_) <;> simp [szRexF_eq, c1]
    refine TWoH.callV (tc_szRexS l hs.2.1 (tc_szRexL l hs.2.2) (szN s.length left)) callable_115 (by simp [*]) (by simp) (by simp) (by simp [*]) ?_
    simp
    refine gif_intro (fun c2 => ?_) (fun c2 => ?_) <;> simp [szRexF_eq, c1, c2]
theorem tc_szRexL : ∀ (l : List Rex), SmallL l → ∀ i (h : i < l.length) (a : Int), TC Tryz.prog 47 [.agg (encRex l[i]), .val (.int .i64 a)] [] (.val (.int .i64 (szRexF l[i] a))) []
  | r :: l, hs, 0, _, a => tc_szRex r hs.1 a
  | r :: l, hs, i + 1, h, a => by
    simp only [List.getElem_cons_succ]
    exact tc_szRexL l hs.2 i (by simpa using h) a
end
structure Rule where
  name : List UInt8
  rex : Rex
def encRule (r : Rule) : List TV := .val (.string (bs r.name)) :: encRex r.rex
@[simp] theorem len_rule (r : Rule) : (encRule r).length = 4 := by simp [encRule]
@[simp] theorem take_rule (r : Rule) : (encRule r).take 4 = encRule r := by simp [encRule]
@[simp] theorem plain_rule (r : Rule) : (encRule r).all TV.plain = true := by simp [encRule]
@[simp] theorem pc_rule (r : Rule) : (encRule r).all TV.pc = true := by simp only [encRule, List.all_cons, pc_rex]; simp
@[simp] theorem noH_rule (r : Rule) : noHL (encRule r) = true := by simp [encRule]
@[simp] theorem opnL_rule {k : Nat} (r : Rule) : opnL k (encRule r) = (encRule r, []) := by simp [encRule]
@[simp] theorem closeL_rule {H : Nat → Option TV} (r : Rule) : closeL H (encRule r) = some (encRule r, H) := by simp [encRule]
@[simp] theorem argTL_rule {H : Nat → Option TV} {ρ : List Nat} (r : Rule) : argTL H ρ (encRule r) = some (encRule r) := by simp [encRule]
@[simp] theorem views_rule {ρ : List Nat} (r : Rule) : (encRule r).flatMap (views1 ρ) = [] := by simp only [encRule, List.flatMap_cons, views_rex]; simp
@[simp] theorem noHR_rule (s : List Rule) : noHR (s.map encRule) = true := by induction s <;> simp [*]
@[simp] theorem noHR_rexs (s : List Rex) : noHR (s.map encRex) = true := by induction s <;> simp [*]
def szRuleF (r : Rule) (left : Int) : Int := if szN r.name.length left < 0 then -1 else if szRexF r.rex (szN r.name.length left) < 0 then -1 else szRexF r.rex (szN r.name.length left)
def szRulesLoop : List Rule → Int → Int
  | [], a => a
  | r :: l, a => if szRuleF r a < 0 then -1 else szRulesLoop l (szRuleF r a)
theorem szRulesLoop_drop {l : List Rule} {i : Nat} (h : i < l.length) (a : Int) : szRulesLoop (l.drop i) a = if szRuleF l[i] a < 0 then -1 else szRulesLoop (l.drop (i + 1)) (szRuleF l[i] a) := by
  conv => lhs; rw [List.drop_eq_getElem_cons h]
  rw [szRulesLoop]
def szRulesF (l : List Rule) (left : Int) : Int := if IntKind.i64.wrap (left - l.length) < 0 then -1 else szRulesLoop l (IntKind.i64.wrap (left - l.length))
theorem tc_szRule (r : Rule) (hs : Small r.rex) (left : Int) : TC Tryz.prog 79 [.agg (encRule r), .val (.int .i64 left)] [] (.val (.int .i64 (szRuleF r left))) [] := by
  refine TC.enter Tryz.func79 rfl (by simp [Tryz.ntmps79]) rfl (tw_sound (ρ := [2]) ?_)
  rw [Tryz.ntmps79]
  simp [encRule]
  refine gif_intro (fun c1 => ?_) (fun c1 => ?_) <;> simp [szRuleF, szN, c1]
  refine TWoH.callV (tc_szRex r.rex hs (IntKind.i64.wrap (left - r.name.length))) callable_47 (by simp [*]) (by simp) (by simp) (by simp [*]) ?_
  simp
  refine gif_intro (fun c2 => ?_) (fun c2 => ?_) <;> simp [c1, c2]
theorem tc_szRuleS (l : List Rule) (hl : l.length ≤ 1152921504606846976) (hs : ∀ r ∈ l, Small r.rex) (left : Int) : TC Tryz.prog 19 [.ro (l.map encRule), .val (.int .i64 left)] [] (.val (.int .i64 (szRulesF l left))) [] := by
  refine TC.enter Tryz.func19 rfl (by simp [Tryz.ntmps19]) rfl (tw_sound (ρ := []) ?_)
  rw [Tryz.ntmps19]
  simp
  refine gif_intro (fun c1 => ?_) (fun c1 => ?_) <;> simp [szRulesF, c1]
  refine TWcH.loop [] (fun m s => ∃ i a, i + m = l.length ∧ s.σ 0 = .ro (l.map encRule) ∧ s.σ 1 = .val (.int .i64 a) ∧ s.σ 5 = .val (.int .i64 i) ∧ szRulesLoop l (IntKind.i64.wrap (left - l.length)) = szRulesLoop (l.drop i) a) l.length ⟨0, IntKind.i64.wrap (left - l.length), by simp⟩ ?_
  rintro m ⟨σ, H⟩ ⟨i, a, him, h0, h1, h5, hh⟩
  simp only at h0 h1 h5
  by_cases hi : i < l.length
  · rw [szRulesLoop_drop hi] at hh
    have hw := hw1 hi hl
    simp [h0, h1, h5, getI hi, hi]
    refine TWoH.callV (tc_szRule l[i] (hs _ (List.getElem_mem _)) a) callable_79 (by simp [*]) (by simp) (by simp) (by simp [*]) ?_
    simp [h0, h1, h5, hi]
    refine gif_intro (fun c2 => ?_) (fun c2 => ?_) <;> simp [h0, h1, h5, hi, c2, hw]
    · simp [hh, c1, c2]
    · exact ⟨m - 1, by omega, i + 1, by omega, by omega, by simp [hh, c2]⟩
  · simp [h0, h1, h5, hi]
    rw [if_neg c1, hh, List.drop_eq_nil_of_le (by omega)]; rfl
end Go.Proofs.YtdomnlnanbekaaaGreatDoor.R

open Go Go.Proofs.YtdomnlnanbekaaaGreatDoor.T
namespace Go.Proofs.YtdomnlnanbekaaaGreatDoor.R
set_option maxHeartbeats 2000000
set_option linter.unusedSimpArgs false
set_option linter.unusedVariables false
set_option maxRecDepth 100000
theorem tc_toSpan (s : Int × Int) : TC Tryz.prog 166 [.agg (encSp s)] [] (.agg (encSp s)) [] := by
  refine TC.enter Tryz.func166 rfl (by simp [Tryz.ntmps166]) rfl (tw_sound (ρ := [1]) ?_)
  rw [Tryz.ntmps166]
  simp [encSp]
  refine gall_intro fun a ha => ?_
  simp
  refine gall_intro fun b hb => ?_
  simp at hb
  simp [hb, Ne.symm hb]
/-- The rows as they are filled, one behind the other. -/
def fillR {α : Type _} (enc : α → List TV) (z : List TV) (l : List α) (i : Nat) : List (List TV) := (l.take i).map enc ++ List.replicate (l.length - i) z
section
variable {α : Type _} {enc : α → List TV} {z : List TV} {l : List α} {i : Nat}
@[simp] theorem fillR_zero : fillR enc z l 0 = List.replicate l.length z := by simp [fillR]
@[simp] theorem fillR_len (hi : i ≤ l.length) : (fillR enc z l i).length = l.length := by simp [fillR]; omega
theorem fillR_all (hi : l.length ≤ i) : fillR enc z l i = l.map enc := by
  unfold fillR; rw [List.take_of_length_le hi, show l.length - i = 0 by omega]; simp
theorem fillR_at (hi : i < l.length) : (fillR enc z l i)[i]? = some z := by
  unfold fillR
  rw [List.getElem?_append_right (by simp; omega)]
  simp [List.getElem?_replicate]; omega
theorem fillR_at' (hi : i < l.length) (h : i < (fillR enc z l i).length) : (fillR enc z l i)[i] = z := by
  have := fillR_at (enc := enc) (z := z) hi
  rw [List.getElem?_eq_getElem h] at this
  exact Option.some.inj this
theorem fillR_set (hi : i < l.length) : (fillR enc z l i).set i (enc l[i]) = fillR enc z l (i + 1) := by
  apply List.ext_getElem?
  intro j
  unfold fillR
  rw [List.getElem?_set]
  by_cases h : i = j
  · subst h
    rw [if_pos rfl, if_pos (by simp; omega), List.getElem?_append_left (by simp; omega)]
    simp [List.getElem?_take, hi]
  · rw [if_neg h]
    by_cases h' : j < i
    · rw [List.getElem?_append_left (by simp; omega), List.getElem?_append_left (by simp; omega)]
      simp [List.getElem?_take, h', show j < i + 1 by omega]
    · rw [List.getElem?_append_right (by simp; omega), List.getElem?_append_right (by simp; omega)]
      simp [List.getElem?_replicate]
      congr 1
      simp; omega
end
theorem tc_toSpanS (l : List (Int × Int)) (hl : l.length ≤ 1048576) : TC Tryz.prog 116 [.ro (l.map encSp)] [] (.own 118 (l.map encSp)) [] := by
  refine TC.enter Tryz.func116 rfl (by simp [Tryz.ntmps116]) rfl (tw_sound (ρ := []) ?_)
  rw [Tryz.ntmps116]
  simp [makeV]
  rw [gif_pos (by omega)]
  refine gall_intro fun id hid => ?_
  simp
  refine TWcH.loop [] (fun m s => ∃ i, i + m = l.length ∧ s.σ 0 = .ro (l.map encSp) ∧ s.σ 3 = .hd id ∧ s.σ 4 = .val (.int .i64 i) ∧ s.H id = some (.own 118 (fillR encSp [.val (.int .i64 0), .val (.int .i64 0)] l i))) l.length ⟨0, by simp⟩ ?_
  rintro m ⟨σ, H⟩ ⟨i, him, h0, h3, h4, hH⟩
  simp only at h0 h3 h4 hH
  by_cases hi : i < l.length
  · have hw := hw1 hi (by omega)
    simp [h0, h3, h4, getI hi, hi]
    refine TWoH.callV (tc_toSpan l[i]) callable_166 (by simp [*]) (by simp) (by simp) (by simp [*]) ?_
    simp [h0, h3, h4, hH, hi, fillR_at hi, fillR_at' hi, fillR_len (Nat.le_of_lt hi), fillR_set hi, hw]
    exact ⟨m - 1, by omega, i + 1, by omega, by omega, rfl⟩
  · simp [h0, h3, h4, hH, hi, fillR_all (Nat.le_of_not_lt hi)]
@[simp] theorem roL_S (s : Int × Int) : roL (encSp s) = encSp s := by simp [encSp]
@[simp] theorem roRows_S (l : List (Int × Int)) : roRows (l.map encSp) = l.map encSp := by induction l <;> simp [*]
mutual
theorem roL_rex : ∀ r : Rex, roL (encRex r) = encRex r
  | .mk k s l => by simp [encRex, roRows_rex l]
theorem roRows_rex : ∀ l : List Rex, roRows (encRexL l) = encRexL l
  | [] => by simp [encRexL]
  | r :: l => by simp [encRexL, roL_rex r, roRows_rex l]
end
attribute [simp] roL_rex
@[simp] theorem roRows_rexs (l : List Rex) : roRows (l.map encRex) = l.map encRex := by rw [← encRexL_eq]; exact roRows_rex l
@[simp] theorem roL_rule (r : Rule) : roL (encRule r) = encRule r := by simp [encRule]
@[simp] theorem roRows_rules (l : List Rule) : roRows (l.map encRule) = l.map encRule := by induction l <;> simp [*]
theorem tc_toSpanS' (l : List (Int × Int)) (hl : l.length ≤ 1048576) : TC Tryz.prog 116 [.ro (l.map encSp)] [] (.ro (l.map encSp)) [] := by
  have := (tc_toSpanS l hl).frz
  simpa using this
mutual
def Sm : Rex → Prop
  | .mk _ s l => s.length ≤ 1048576 ∧ l.length ≤ 1048576 ∧ SmL l
def SmL : List Rex → Prop
  | [] => True
  | r :: l => Sm r ∧ SmL l
end
theorem tc_toRexS (l : List Rex) (hl : l.length ≤ 1048576) (ih : ∀ i (h : i < l.length), TC Tryz.prog 48 [.agg (encRex l[i])] [] (.agg (encRex l[i])) []) : TC Tryz.prog 117 [.ro (l.map encRex)] [] (.ro (l.map encRex)) [] := by
  suffices h : TC Tryz.prog 117 [.ro (l.map encRex)] [] (.own 37 (l.map encRex)) [] by simpa using h.frz
  refine TC.enter Tryz.func117 rfl (by simp [Tryz.ntmps117]) rfl (tw_sound (ρ := []) ?_)
  rw [Tryz.ntmps117]
  simp [makeV]
  rw [gif_pos (by omega)]
  refine gall_intro fun id hid => ?_
  simp
  refine TWcH.loop [] (fun m s => ∃ i, i + m = l.length ∧ s.σ 0 = .ro (l.map encRex) ∧ s.σ 3 = .hd id ∧ s.σ 4 = .val (.int .i64 i) ∧ s.H id = some (.own 37 (fillR encRex [.val (.int .i64 0), .val (.slice none 0 0), .val (.slice none 0 0)] l i))) l.length ⟨0, by simp⟩ ?_
  rintro m ⟨σ, H⟩ ⟨i, him, h0, h3, h4, hH⟩
  simp only at h0 h3 h4 hH
  by_cases hi : i < l.length
  · have hw := hw1 hi (by omega)
    simp [h0, h3, h4, getI hi, hi]
    refine TWoH.callV (ih i hi) callable_48 (by simp [*]) (by simp) (by simp) (by simp [*]) ?_
    simp [h0, h3, h4, hH, hi, fillR_at hi, fillR_at' hi, fillR_len (Nat.le_of_lt hi), fillR_set hi, hw]
    exact ⟨m - 1, by omega, i + 1, by omega, by omega, rfl⟩
  · simp [h0, h3, h4, hH, hi, fillR_all (Nat.le_of_not_lt hi)]

mutual
theorem tc_toRex : ∀ (r : Rex), Sm r → TC Tryz.prog 48 [.agg (encRex r)] [] (.agg (encRex r)) []
  | .mk k s l, hs => by
    refine TC.enter Tryz.func48 rfl (by simp [Tryz.ntmps48]) rfl (tw_sound (ρ := [1]) ?_)
    rw [Tryz.ntmps48]
    simp [encRex]
    refine gall_intro fun a ha => ?_
    simp
    refine gall_intro fun b hb => ?_
    simp at hb
    simp [hb, Ne.symm hb]
    refine TWoH.callV (tc_toSpanS' s hs.1) callable_116 (by simp [*]) (by simp) (by simp) (by simp [*]) ?_
    simp [hb, Ne.symm hb]
    refine TWoH.callV (tc_toRexS l hs.2.1 (tc_toRexL l hs.2.2)) callable_117 (by simp [*, encRexL_eq]) (by simp) (by simp) (by simp [*]) ?_
    simp [hb, Ne.symm hb, encRexL_eq]
theorem tc_toRexL : ∀ (l : List Rex), SmL l → ∀ i (h : i < l.length), TC Tryz.prog 48 [.agg (encRex l[i])] [] (.agg (encRex l[i])) []
  | r :: l, hs, 0, _ => tc_toRex r hs.1
  | r :: l, hs, i + 1, h => by
    simp only [List.getElem_cons_succ]
    exact tc_toRexL l hs.2 i (by simpa using h)
end
theorem tc_toRule (r : Rule) (hs : Sm r.rex) : TC Tryz.prog 80 [.agg (encRule r)] [] (.agg (encRule r)) [] := by
  refine TC.enter Tryz.func80 rfl (by simp [Tryz.ntmps80]) rfl (tw_sound (ρ := [1]) ?_)
  rw [Tryz.ntmps80]
  simp [encRule]
  refine gall_intro fun a ha => ?_
  simp
  refine gall_intro fun b hb => ?_
  simp at hb
  simp [hb, Ne.symm hb]
  refine TWoH.callV (tc_toRex r.rex hs) callable_48 (by simp [*]) (by simp) (by simp) (by simp [*]) ?_
  simp [hb, Ne.symm hb]
theorem tc_toRuleS (l : List Rule) (hl : l.length ≤ 1048576) (hs : ∀ r ∈ l, Sm r.rex) : TC Tryz.prog 20 [.ro (l.map encRule)] [] (.ro (l.map encRule)) [] := by
  suffices h : TC Tryz.prog 20 [.ro (l.map encRule)] [] (.own 41 (l.map encRule)) [] by simpa using h.frz
  refine TC.enter Tryz.func20 rfl (by simp [Tryz.ntmps20]) rfl (tw_sound (ρ := []) ?_)
  rw [Tryz.ntmps20]
  simp [makeV]
  rw [gif_pos (by omega)]
  refine gall_intro fun id hid => ?_
  simp
  refine TWcH.loop [] (fun m s => ∃ i, i + m = l.length ∧ s.σ 0 = .ro (l.map encRule) ∧ s.σ 3 = .hd id ∧ s.σ 4 = .val (.int .i64 i) ∧ s.H id = some (.own 41 (fillR encRule [.val (.string (bs [])), .val (.int .i64 0), .val (.slice none 0 0), .val (.slice none 0 0)] l i))) l.length ⟨0, by simp⟩ ?_
  rintro m ⟨σ, H⟩ ⟨i, him, h0, h3, h4, hH⟩
  simp only at h0 h3 h4 hH
  by_cases hi : i < l.length
  · have hw := hw1 hi (by omega)
    simp [h0, h3, h4, getI hi, hi]
    refine TWoH.callV (tc_toRule l[i] (hs _ (List.getElem_mem _))) callable_80 (by simp [*]) (by simp) (by simp) (by simp [*]) ?_
    simp [h0, h3, h4, hH, hi, fillR_at hi, fillR_at' hi, fillR_len (Nat.le_of_lt hi), fillR_set hi, hw]
    exact ⟨m - 1, by omega, i + 1, by omega, by omega, rfl⟩
  · simp [h0, h3, h4, hH, hi, fillR_all (Nat.le_of_not_lt hi)]
end Go.Proofs.YtdomnlnanbekaaaGreatDoor.R

open Go Go.Proofs.YtdomnlnanbekaaaGreatDoor.T
namespace Go.Proofs.YtdomnlnanbekaaaGreatDoor.R
set_option maxHeartbeats 2000000
set_option linter.unusedSimpArgs false
set_option linter.unusedVariables false
set_option maxRecDepth 100000
def wc (c : UInt8) : Bool := decide (97 ≤ c.toNat ∧ c.toNat ≤ 122)
def wordOk (l : List UInt8) : Bool := l.all wc && decide (0 < l.length ∧ l.length ≤ 6)
theorem all_drop {α : Type _} {p : α → Bool} {l : List α} {i : Nat} (h : i < l.length) : (l.drop i).all p = (p l[i] && (l.drop (i + 1)).all p) := by
  conv => lhs; rw [List.drop_eq_getElem_cons h]
  rw [List.all_cons]
theorem any_drop {α : Type _} {p : α → Bool} {l : List α} {i : Nat} (h : i < l.length) : (l.drop i).any p = (p l[i] || (l.drop (i + 1)).any p) := by
  conv => lhs; rw [List.drop_eq_getElem_cons h]
  rw [List.any_cons]
theorem drop_all {α : Type _} {l : List α} {i : Nat} (h : ¬ i < l.length) : l.drop i = [] := List.drop_eq_nil_of_le (by omega)
theorem tc_sRuleWord (w : List UInt8) (hw : w.length ≤ 1152921504606846976) : TC Tryz.prog 139 [.val (.string (bs w))] [] (.val (.bool (wordOk w))) [] := by
  refine TC.enter Tryz.func139 rfl (by simp [Tryz.ntmps139]) rfl (tw_sound (ρ := []) ?_)
  rw [Tryz.ntmps139]
  simp
  refine TWcH.loop [] (fun m s => ∃ i, i + m = w.length ∧ s.σ 0 = .val (.string (bs w)) ∧ s.σ 3 = .val (.int .i64 i) ∧ w.all wc = (w.drop i).all wc) w.length ⟨0, by simp⟩ ?_
  rintro m ⟨σ, H⟩ ⟨i, him, h0, h3, hh⟩
  simp only at h0 h3
  by_cases hi : i < w.length
  · rw [all_drop hi] at hh
    have hw := hw1 hi hw
    simp [h0, h3, getI hi, hi]
    refine gif_intro (fun c1 => ?_) (fun c1 => ?_) <;> simp [h0, h3, getI hi, hi, c1]
    · rw [wordOk, hh, show wc w[i] = false by simp [wc]; omega]; rfl
    · refine gif_intro (fun c2 => ?_) (fun c2 => ?_) <;> simp [h0, h3, getI hi, hi, c1, c2, hw]
      · rw [wordOk, hh, show wc w[i] = false by simp [wc]; omega]; rfl
      · refine ⟨m - 1, by omega, i + 1, by omega, by omega, ?_⟩
        rw [hh, show wc w[i] = true by simp [wc]; omega]; rfl
  · simp [h0, h3, hi]
    rw [drop_all hi] at hh
    refine gif_intro (fun c1 => ?_) (fun c1 => ?_) <;> simp [h0, h3, c1]
    · rw [wordOk, hh, Bool.eq_iff_iff]; simp; omega
    · rw [wordOk, hh, Bool.eq_iff_iff]; simp; omega
def kidsN (k : Int) : Int := if k = 1 ∨ k = 2 then 0 else if k = 5 ∨ k = 7 then 1 else if k = 3 ∨ k = 4 ∨ k = 6 then 2 else -1
theorem tc_sl2Kids (k : Int) : TC Tryz.prog 160 [.val (.int .i64 k)] [] (.val (.int .i64 (kidsN k))) [] := by
  refine TC.enter Tryz.func160 rfl (by simp [Tryz.ntmps160]) rfl (tw_sound (ρ := []) ?_)
  rw [Tryz.ntmps160]
  simp
  repeat' (refine gif_intro (fun c1 => ?_) (fun c1 => ?_) <;> simp [c1])
  all_goals simp [kidsN, *]
def okX (p : Option Int) (x : Int × Int) : Bool := decide (0 ≤ x.1 ∧ x.2 ≤ 255 ∧ x.1 ≤ x.2 ∧ ∀ q, p = some q → q + 1 < x.1)
def setOkP : Option Int → List (Int × Int) → Bool
  | _, [] => true
  | p, x :: l => okX p x && setOkP (some x.2) l
def prevOf (l : List (Int × Int)) (i : Nat) : Option Int := if 0 < i then (l[i - 1]?).map (·.2) else none
theorem setOkP_drop {l : List (Int × Int)} {i : Nat} (h : i < l.length) (p : Option Int) : setOkP p (l.drop i) = (okX p l[i] && setOkP (some l[i].2) (l.drop (i + 1))) := by
  conv => lhs; rw [List.drop_eq_getElem_cons h]
  rw [setOkP]
def setOk (l : List (Int × Int)) : Bool := setOkP none l
theorem prevOf_succ {l : List (Int × Int)} {i : Nat} (h : i < l.length) : prevOf l (i + 1) = some l[i].2 := by simp [prevOf, getI h]
theorem prevOf_pos {l : List (Int × Int)} {i : Nat} (h : i - 1 < l.length) (h0 : 0 < i) : prevOf l i = some l[i - 1].2 := by simp [prevOf, getI h, h0]
theorem tc_sSetOk (l : List (Int × Int)) (hl : l.length ≤ 1152921504606846976) : TC Tryz.prog 161 [.ro (l.map encSp)] [] (.val (.bool (setOk l))) [] := by
  refine TC.enter Tryz.func161 rfl (by simp [Tryz.ntmps161]) rfl (tw_sound (ρ := []) ?_)
  rw [Tryz.ntmps161]
  simp
  refine TWcH.loop [] (fun m s => ∃ i, i + m = l.length ∧ s.σ 0 = .ro (l.map encSp) ∧ s.σ 3 = .val (.int .i64 i) ∧ (∀ q, prevOf l i = some q → 0 ≤ q ∧ q ≤ 255) ∧ setOk l = setOkP (prevOf l i) (l.drop i)) l.length ⟨0, by simp [prevOf, setOk]⟩ ?_
  rintro m ⟨σ, H⟩ ⟨i, him, h0, h3, hp, hh⟩
  simp only at h0 h3
  by_cases hi : i < l.length
  · rw [setOkP_drop hi] at hh
    have hw := hw1 hi hl
    have bad : ¬ okX (prevOf l i) l[i] = true → setOk l = false := fun h => by rw [hh, Bool.eq_false_iff.2 h]; rfl
    have good : okX (prevOf l i) l[i] = true → ∃ m', m' < m ∧ ∃ i', i' + m' = l.length ∧ (i : Int) + 1 = (i' : Int) ∧ (∀ q, prevOf l i' = some q → 0 ≤ q ∧ q ≤ 255) ∧ setOk l = setOkP (prevOf l i') (l.drop i') := fun h => by
      refine ⟨m - 1, by omega, i + 1, by omega, by omega, ?_, by rw [hh, h, prevOf_succ hi]; rfl⟩
      rw [prevOf_succ hi]
      rintro q ⟨⟩
      simp only [okX, decide_eq_true_eq] at h
      omega
    simp only [okX, decide_eq_true_eq] at bad good
    simp [h0, h3, getI hi, hi]
    refine TWcH.regionD (ρ := []) [0, 1, 2, 3, 4, 5, 6, 7, 8, 9, 10, 11, 12, 13, 14, 15, 16, 17, 18, 19, 20, 21, 22, 23, 24, 25, 26, 27, 28, 29, 30, 31, 32, 33, 34, 35, 36, 37, 38, 39, 40, 41, 42, 43, 44, 45] 46 mixed (by kernel_rfl) ?_
    simp [h0, h3, getI hi, hi, encSp]
    refine gif_intro (fun c1 => ?_) (fun c1 => ?_) <;> simp [h0, h3, getI hi, hi, encSp, c1]
    · exact bad (by omega)
    refine gif_intro (fun c2 => ?_) (fun c2 => ?_) <;> simp [h0, h3, getI hi, hi, encSp, c1, c2]
    · exact bad (by omega)
    refine gif_intro (fun c3 => ?_) (fun c3 => ?_) <;> simp [h0, h3, getI hi, hi, encSp, c1, c2, c3]
    · exact bad (by omega)
    refine gif_intro (fun c4 => ?_) (fun c4 => ?_) <;> simp [h0, h3, getI hi, hi, encSp, c1, c2, c3, c4, hw]
    · have hj : i - 1 < l.length := by omega
      have e : IntKind.i64.wrap ((i : Int) - 1) = ((i - 1 : Nat) : Int) := by rw [wrapi (by omega)]; omega
      have hq := hp _ (prevOf_pos hj c4)
      have e2 : IntKind.i64.wrap (l[i - 1].2 + 1) = l[i - 1].2 + 1 := wrapi (by omega)
      rw [prevOf_pos hj c4] at bad good
      simp [h0, h3, getI hi, getI hj, hi, hj, encSp, c1, c2, c3, c4, e, e2]
      refine gif_intro (fun c5 => ?_) (fun c5 => ?_) <;> simp [h0, h3, getI hi, hi, encSp, c1, c2, c3, c4, c5, hw]
      · exact bad (fun h => by have := h.2.2.2 _ rfl; omega)
      · exact good ⟨by omega, by omega, by omega, fun q hq => by cases hq; omega⟩
    · exact good ⟨by omega, by omega, by omega, fun q hq => by simp [prevOf, c4] at hq⟩
  · rw [drop_all hi] at hh
    simp [h0, h3, hi, hh, setOkP]
end Go.Proofs.YtdomnlnanbekaaaGreatDoor.R

open Go Go.Proofs.YtdomnlnanbekaaaGreatDoor.T
namespace Go.Proofs.YtdomnlnanbekaaaGreatDoor.R
set_option maxHeartbeats 2000000
set_option linter.unusedSimpArgs false
set_option linter.unusedVariables false
set_option maxRecDepth 100000
def headOk (k : Int) (s : List (Int × Int)) (l : List Rex) : Bool := decide (kidsN k = l.length) && (decide (k = 1) || decide (s.length = 0)) && setOk s
def formF : Nat → Rex → Bool
  | 0, _ => false
  | d + 1, .mk k s l => headOk k s l && l.all (formF d)
theorem SmL.get : ∀ {l : List Rex} {i : Nat} (h : SmL l) (hi : i < l.length), Sm l[i]
  | r :: l, 0, h, _ => h.1
  | r :: l, i + 1, h, hi => by
    simp only [List.getElem_cons_succ]
    exact SmL.get h.2 (by simpa using hi)
theorem tc_sl2Form : ∀ (d : Nat) (r : Rex), d ≤ 1000 → Sm r → TC Tryz.prog 103 [.agg (encRex r), .val (.int .i64 d)] [] (.val (.bool (formF d r))) []
  | 0, .mk k s l, hd, hs => by
    refine TC.enter Tryz.func103 rfl (by simp [Tryz.ntmps103]) rfl (tw_sound (ρ := [2]) ?_)
    rw [Tryz.ntmps103]
    simp [encRex]
    refine TWcH.regionD (ρ := [2]) [0, 1, 2, 3, 4, 6, 7, 8, 5, 9, 10, 11, 12, 13, 14, 15, 16, 17, 18, 19, 20, 21, 22, 23, 24, 25, 26, 27] 28 mixed (by kernel_rfl) ?_
    simp [formF]
  | d + 1, .mk k s l, hd, hs => by
    refine TC.enter Tryz.func103 rfl (by simp [Tryz.ntmps103]) rfl (tw_sound (ρ := [2]) ?_)
    rw [Tryz.ntmps103]
    simp [encRex, encRexL_eq]
    refine TWcH.regionD (ρ := [2]) [0, 1, 2, 3, 4, 6, 7, 8, 5, 9, 10, 11, 12, 13, 14, 15, 16, 17, 18, 19, 20, 21, 22, 23, 24, 25, 26, 27] 28 mixed (by kernel_rfl) ?_
    have c1 : ¬ ((d : Int) + 1 < 1) := by omega
    simp [c1]
    refine TWqH.callV (tc_sl2Kids k) callable_160 (by simp [*]) (by simp) (by simp) (by simp [*]) ?_
    simp [c1]
    have bad : headOk k s l = false → formF (d + 1) (.mk k s l) = false := fun h => by simp [formF, h]
    refine gif_intro (fun c2 => ?_) (fun c2 => ?_) <;> simp [c1, c2]
    case refine_2 => exact bad (by simp [headOk, c2])
    have fin : ∀ (Q : Prop), (k = 1 ∨ s.length = 0 → Q) → (¬ (k = 1 ∨ s.length = 0) → Q) → Q := fun Q h h' => (Classical.em _).elim h h'
    refine fin _ (fun c3 => ?_) (fun c3 => ?_)
    · have hX : headOk k s l = setOk s := by
        rw [headOk, show decide (kidsN k = l.length) = true by simp [c2], show (decide (k = 1) || decide (s.length = 0)) = true by rcases c3 with c3 | c3 <;> simp [c3]]
        rfl
      have good : setOk s = true → formF (d + 1) (.mk k s l) = l.all (formF d) := fun h => by rw [formF, hX, h]; rfl
      rcases (show (k = 1 ∨ (¬ k = 1 ∧ ¬ 0 < s.length)) by omega) with c4 | ⟨c4, c5⟩
      · subst c4
        simp [c1, c2]
        refine TWqH.callV (tc_sSetOk s (by have := hs.1; omega)) callable_161 (by simp) (by simp) (by simp) (by simp) ?_
        simp [c1, c2]
        refine gif_intro (fun c6 => ?_) (fun c6 => ?_) <;> simp [c1, c2, c6]
        · refine TWcH.loop [] (fun m s' => ∃ i, i + m = l.length ∧ s'.σ 1 = .val (.int .i64 ((d : Int) + 1)) ∧ s'.σ 2 = .rptr [.val (.int .i64 1), .ro (s.map encSp), .ro (l.map encRex)] 0 ∧ s'.σ 5 = .val (.int .i64 i) ∧ l.all (formF d) = (l.drop i).all (formF d)) l.length ⟨0, by simp⟩ ?_
          rintro m ⟨σ, H⟩ ⟨i, him, h1, h2, h5, hh⟩
          simp only at h1 h2 h5
          by_cases hi : i < l.length
          · rw [all_drop hi] at hh
            have hw := hw1 hi (by have := hs.2.1; omega)
            have hd1 : IntKind.i64.wrap (d : Int) = d := wrapi (by omega)
            simp [h1, h2, h5, getI hi, hi]
            refine TWoH.callV (tc_sl2Form d l[i] (by omega) (SmL.get hs.2.2 hi)) callable_103 (by simp [hd1, h1, h2, h5]) (by simp) (by simp) (by simp) ?_
            simp [h1, h2, h5, getI hi, hi]
            refine gif_intro (fun c7 => ?_) (fun c7 => ?_) <;> simp [h1, h2, h5, getI hi, hi, c7, hw]
            · exact ⟨m - 1, by omega, i + 1, by omega, by omega, by rw [hh, c7]; rfl⟩
            · rw [good c6, hh, Bool.eq_false_iff.2 c7]; rfl
          · rw [drop_all hi] at hh
            simp [h1, h2, h5, hi, good c6, hh]
        · exact bad (by rw [hX]; simpa using c6)
      · simp [c1, c2, c4, c5]
        refine TWqH.callV (tc_sSetOk s (by have := hs.1; omega)) callable_161 (by simp) (by simp) (by simp) (by simp) ?_
        simp [c1, c2, c4, c5]
        refine gif_intro (fun c6 => ?_) (fun c6 => ?_) <;> simp [c1, c2, c4, c5, c6]
        · refine TWcH.loop [] (fun m s' => ∃ i, i + m = l.length ∧ s'.σ 1 = .val (.int .i64 ((d : Int) + 1)) ∧ s'.σ 2 = .rptr [.val (.int .i64 k), .ro (s.map encSp), .ro (l.map encRex)] 0 ∧ s'.σ 5 = .val (.int .i64 i) ∧ l.all (formF d) = (l.drop i).all (formF d)) l.length ⟨0, by simp⟩ ?_
          rintro m ⟨σ, H⟩ ⟨i, him, h1, h2, h5, hh⟩
          simp only at h1 h2 h5
          by_cases hi : i < l.length
          · rw [all_drop hi] at hh
            have hw := hw1 hi (by have := hs.2.1; omega)
            have hd1 : IntKind.i64.wrap (d : Int) = d := wrapi (by omega)
            simp [h1, h2, h5, getI hi, hi]
            refine TWoH.callV (tc_sl2Form d l[i] (by omega) (SmL.get hs.2.2 hi)) callable_103 (by simp [hd1, h1, h2, h5]) (by simp) (by simp) (by simp) ?_
            simp [h1, h2, h5, getI hi, hi]
            refine gif_intro (fun c7 => ?_) (fun c7 => ?_) <;> simp [h1, h2, h5, getI hi, hi, c7, hw]
            · exact ⟨m - 1, by omega, i + 1, by omega, by omega, by rw [hh, c7]; rfl⟩
            · rw [good c6, hh, Bool.eq_false_iff.2 c7]; rfl
          · rw [drop_all hi] at hh
            simp [h1, h2, h5, hi, good c6, hh]
        · exact bad (by rw [hX]; simpa using c6)
    · rcases (show (¬ k = 1 ∧ 0 < s.length) by omega) with ⟨c4, c5⟩
      simp [c1, c2, c4, c5]
      exact bad (by simp only [headOk, c4, show ¬ s.length = 0 by omega]; simp)
end Go.Proofs.YtdomnlnanbekaaaGreatDoor.R

open Go Go.Proofs.YtdomnlnanbekaaaGreatDoor.T
namespace Go.Proofs.YtdomnlnanbekaaaGreatDoor.R
set_option maxHeartbeats 2000000
set_option linter.unusedSimpArgs false
set_option linter.unusedVariables false
set_option maxRecDepth 100000
mutual
def manyN : Rex → Nat
  | .mk _ _ l => 1 + manyL l
def manyL : List Rex → Nat
  | [] => 0
  | r :: l => manyN r + manyL l
end
theorem manyL_append : ∀ (a b : List Rex), manyL (a ++ b) = manyL a + manyL b
  | [], b => by simp [manyL]
  | r :: a, b => by simp [manyL, manyL_append a b]; omega
theorem manyL_take {l : List Rex} {i : Nat} (h : i < l.length) : manyL (l.take (i + 1)) = manyL (l.take i) + manyN l[i] := by
  rw [List.take_succ_eq_append_getElem h, manyL_append]; simp [manyL]
theorem kidsN_le (k : Int) : kidsN k ≤ 2 := by unfold kidsN; split; omega; split; omega; split <;> omega
theorem manyL_le {b : Nat} : ∀ (l : List Rex), (∀ r ∈ l, manyN r ≤ b) → manyL l ≤ l.length * b
  | [], _ => by simp [manyL]
  | r :: l, h => by
    have h1 := h r (by simp)
    have h2 := manyL_le l fun r hr => h r (by simp [hr])
    simp only [manyL, List.length_cons, Nat.add_mul]
    omega
theorem many_le : ∀ (d : Nat) (r : Rex), formF d r = true → manyN r ≤ 2 ^ d - 1
  | 0, r, h => by simp [formF] at h
  | d + 1, .mk k s l, h => by
    simp only [formF, headOk, Bool.and_eq_true, decide_eq_true_eq, List.all_eq_true] at h
    have hk := kidsN_le k
    have h1 := manyL_le (b := 2 ^ d - 1) l fun r hr => many_le d r (h.2 r hr)
    have h2 : l.length ≤ 2 := by omega
    have h3 : 1 ≤ 2 ^ d := Nat.one_le_two_pow
    have h4 : l.length * (2 ^ d - 1) ≤ 2 * (2 ^ d - 1) := Nat.mul_le_mul_right _ h2
    simp only [manyN, Nat.pow_succ]
    omega
theorem formF_kid {d : Nat} {k : Int} {s : List (Int × Int)} {l : List Rex} (h : formF (d + 1) (.mk k s l) = true) {i : Nat} (hi : i < l.length) : formF d l[i] = true := by
  simp only [formF, Bool.and_eq_true, List.all_eq_true] at h
  exact h.2 _ (List.getElem_mem hi)
theorem tc_sl2Many : ∀ (d : Nat) (r : Rex), d ≤ 8 → Sm r → formF d r = true → TC Tryz.prog 104 [.agg (encRex r), .val (.int .i64 d)] [] (.val (.int .i64 (manyN r))) []
  | 0, r, hd, hs, hf => by simp [formF] at hf
  | d + 1, .mk k s l, hd, hs, hf => by
    refine TC.enter Tryz.func104 rfl (by simp [Tryz.ntmps104]) rfl (tw_sound (ρ := [2]) ?_)
    rw [Tryz.ntmps104]
    simp [encRex, encRexL_eq]
    have hm := many_le _ _ hf
    have h2d : 2 ^ (d + 1) ≤ 2 ^ 8 := Nat.pow_le_pow_right (by omega) hd
    simp only [manyN] at hm
    refine TWcH.loop [] (fun m s' => ∃ i, i + m = l.length ∧ s'.σ 1 = .val (.int .i64 ((d : Int) + 1)) ∧ s'.σ 2 = .rptr [.val (.int .i64 k), .ro (s.map encSp), .ro (l.map encRex)] 0 ∧ s'.σ 6 = .val (.int .i64 i) ∧ s'.σ 5 = .val (.int .i64 (1 + manyL (l.take i) : Nat))) l.length ⟨0, by simp [manyL]⟩ ?_
    rintro m ⟨σ, H⟩ ⟨i, him, h1, h2, h6, h5⟩
    simp only at h1 h2 h6 h5
    by_cases hi : i < l.length
    · have hw := hw1 hi (by have := hs.2.1; omega)
      have hd1 : IntKind.i64.wrap (d : Int) = d := wrapi (by omega)
      have e := manyL_take hi
      have e' : manyL (l.take (i + 1)) ≤ manyL l := by
        have := manyL_append (l.take (i + 1)) (l.drop (i + 1))
        rw [List.take_append_drop] at this
        omega
      have hw2 : IntKind.i64.wrap (1 + (manyL (l.take i) : Int) + manyN l[i]) = 1 + (manyL (l.take i) : Int) + manyN l[i] := wrapi (by omega)
      have hp : (0 : Int) < (d : Int) + 1 := by omega
      simp [h1, h2, h5, h6, getI hi, hi, hp]
      refine TWoH.callV (tc_sl2Many d l[i] (by omega) (SmL.get hs.2.2 hi) (formF_kid hf hi)) callable_104 (by simp [hd1, h1, h2, h5]) (by simp) (by simp) (by simp) ?_
      simp [h1, h2, h5, h6, getI hi, hi, hw, hw2]
      exact ⟨m - 1, by omega, i + 1, by omega, by omega, by rw [e]; simp; omega⟩
    · have e : l.take i = l := List.take_of_length_le (by omega)
      simp [h1, h2, h5, h6, hi, manyN, e]
def rexOk (r : Rex) : Bool := formF 8 r && decide (manyN r ≤ 24)
theorem tc_sRexOk (r : Rex) (hs : Sm r) : TC Tryz.prog 33 [.agg (encRex r)] [] (.val (.bool (rexOk r))) [] := by
  refine TC.enter Tryz.func33 rfl (by simp [Tryz.ntmps33]) rfl (tw_sound (ρ := [1]) ?_)
  rw [Tryz.ntmps33]
  simp
  refine TWoH.callV (tc_sl2Form 8 r (by omega) hs) callable_103 (by simp) (by simp) (by simp) (by simp) ?_
  simp
  refine gif_intro (fun c1 => ?_) (fun c1 => ?_) <;> simp [c1]
  · refine TWoH.callV (tc_sl2Many 8 r (by omega) hs c1) callable_104 (by simp) (by simp) (by simp) (by simp) ?_
    simp [c1, rexOk]
    omega
  · simp [rexOk, c1]
theorem tc_sMatchWord (t : List UInt8) : TC Tryz.prog 38 [.val (.string (bs t))] [] (.val (.bool (decide (t.length ≤ 12)))) [] := by
  refine TC.enter Tryz.func38 rfl (by simp [Tryz.ntmps38]) rfl (tw_sound (ρ := []) ?_)
  rw [Tryz.ntmps38]
  simp
  omega
def hasS (l : List (Int × Int)) (b : Int) : Bool := l.any fun s => decide (s.1 ≤ b ∧ b ≤ s.2)
theorem tc_sSetHas (l : List (Int × Int)) (b : Int) (hl : l.length ≤ 1152921504606846976) : TC Tryz.prog 153 [.ro (l.map encSp), .val (.int .i64 b)] [] (.val (.bool (hasS l b))) [] := by
  refine TC.enter Tryz.func153 rfl (by simp [Tryz.ntmps153]) rfl (tw_sound (ρ := []) ?_)
  rw [Tryz.ntmps153]
  simp
  refine TWcH.loop [] (fun m s => ∃ i, i + m = l.length ∧ s.σ 0 = .ro (l.map encSp) ∧ s.σ 1 = .val (.int .i64 b) ∧ s.σ 5 = .val (.int .i64 i) ∧ hasS l b = hasS (l.drop i) b) l.length ⟨0, by simp⟩ ?_
  rintro m ⟨σ, H⟩ ⟨i, him, h0, h1, h5, hh⟩
  simp only at h0 h1 h5
  by_cases hi : i < l.length
  · rw [show hasS (l.drop i) b = _ from any_drop hi, show (l.drop (i + 1)).any (fun s => decide (s.1 ≤ b ∧ b ≤ s.2)) = hasS (l.drop (i + 1)) b from rfl] at hh
    have hw := hw1 hi hl
    simp [h0, h1, h5, encSp, getI hi, hi]
    refine gif_intro (fun c1 => ?_) (fun c1 => ?_) <;> simp [h0, h1, h5, encSp, getI hi, hi, c1, hw]
    · refine gif_intro (fun c2 => ?_) (fun c2 => ?_) <;> simp [h0, h1, h5, encSp, getI hi, hi, c1, c2, hw]
      · simp [hh, c1, c2]
      · exact ⟨m - 1, by omega, i + 1, by omega, by omega, by simp [hh, c2]⟩
    · exact ⟨m - 1, by omega, i + 1, by omega, by omega, by simp [hh, c1]⟩
  · simp [h0, h1, h5, hi]
    rw [hh, drop_all hi]; rfl
end Go.Proofs.YtdomnlnanbekaaaGreatDoor.R

open Go Go.Proofs.YtdomnlnanbekaaaGreatDoor.T
namespace Go.Proofs.YtdomnlnanbekaaaGreatDoor.R
set_option maxHeartbeats 2000000
set_option linter.unusedSimpArgs false
set_option linter.unusedVariables false
set_option maxRecDepth 100000
def encB (b : Bool) : List TV := [.val (.bool b)]
@[simp] theorem len_B (b : Bool) : (encB b).length = 1 := rfl
@[simp] theorem take_B (b : Bool) : (encB b).take 1 = [.val (.bool b)] := rfl
@[simp] theorem drop_B (b : Bool) : (encB b).drop 1 = [] := rfl
section
variable {R : List Bool} {b : Bool} {x : List TV} {z : List (List TV)} {k i : Nat}
theorem sh_get (h : R.length = k) : (R.map encB ++ x :: z)[k]? = some x := by
  subst h
  rw [List.getElem?_append_right (by simp)]; simp
theorem sh_get' (h : R.length = k) (h' : k < (R.map encB ++ x :: z).length) : (R.map encB ++ x :: z)[k] = x := by
  have := sh_get (x := x) (z := z) h
  rw [List.getElem?_eq_getElem h'] at this
  exact Option.some.inj this
theorem sh_old (h : i < R.length) : (R.map encB ++ x :: z)[i]? = some (encB R[i]) := by
  rw [List.getElem?_append_left (by simpa using h)]; simp [h]
theorem sh_old' (h : i < R.length) (h' : i < (R.map encB ++ x :: z).length) : (R.map encB ++ x :: z)[i] = encB R[i] := by
  have := sh_old (x := x) (z := z) h
  rw [List.getElem?_eq_getElem h'] at this
  exact Option.some.inj this
theorem sh_set (h : R.length = k) (y : List TV) : (R.map encB ++ x :: z).set k y = R.map encB ++ y :: z := by
  subst h
  rw [List.set_append_right _ _ (by simp)]; simp
end
/-- Is the piece up to k, from a place before i that is reached, one of f? -/
def anyF (f : List UInt8 → Bool) (t : List UInt8) (R : List Bool) (k i : Nat) : Bool := (List.range i).any fun j => R.getD j false && f ((t.take k).drop j)
theorem anyF_succ {f : List UInt8 → Bool} {t : List UInt8} {R : List Bool} {k i : Nat} (h : i < R.length) : anyF f t R k (i + 1) = (anyF f t R k i || (R[i] && f ((t.take k).drop i))) := by
  simp [anyF, List.range_succ, h]
def reachL (f : List UInt8 → Bool) (t : List UInt8) : Nat → List Bool
  | 0 => [true]
  | k + 1 => reachL f t k ++ [anyF f t (reachL f t k) (k + 1) (k + 1)]
@[simp] theorem reachL_len (f : List UInt8 → Bool) (t : List UInt8) : ∀ k, (reachL f t k).length = k + 1
  | 0 => rfl
  | k + 1 => by simp [reachL, reachL_len f t k]
def starF (f : List UInt8 → Bool) (t : List UInt8) : Bool := (reachL f t t.length).getD t.length false
theorem anyF_more {f : List UInt8 → Bool} {t : List UInt8} {R : List Bool} {k i j : Nat} (h : anyF f t R k i = true) (hij : i ≤ j) : anyF f t R k j = true := by
  simp only [anyF, List.any_eq_true, List.mem_range] at h ⊢
  obtain ⟨x, hx, h⟩ := h
  exact ⟨x, by omega, h⟩
theorem tc_l3Star (a : Rex) (f : List UInt8 → Bool) (t : List UInt8) (ht : t.length ≤ 12)
    (ha : ∀ t : List UInt8, t.length ≤ 12 → TC Tryz.prog 187 [.agg (encRex a), .val (.string (bs t))] [] (.val (.bool (f t))) []) :
    TC Tryz.prog 198 [.agg (encRex a), .val (.string (bs t))] [] (.val (.bool (starF f t))) [] := by
  refine TC.enter Tryz.func198 rfl (by simp [Tryz.ntmps198]) rfl (tw_sound (ρ := [2]) ?_)
  rw [Tryz.ntmps198]
  have hw0 : IntKind.i64.wrap ((t.length : Int) + 1) = (t.length : Int) + 1 := wrapi (by omega)
  have hn : ((t.length : Int) + 1).toNat = t.length + 1 := by omega
  simp [makeV, hw0, hn]
  rw [gif_pos (by omega)]
  refine gall_intro fun id hid => ?_
  simp [List.replicate_succ]
  refine TWcH.loop [] (fun m s => ∃ k, k + m = t.length ∧ s.σ 1 = .val (.string (bs t)) ∧ s.σ 2 = .rptr (encRex a) 0 ∧ s.σ 5 = .hd id ∧ s.σ 6 = .val (.int .i64 (k + 1 : Nat)) ∧ s.H id = some (.own 4 ((reachL f t k).map encB ++ List.replicate m [.val (.bool false)]))) t.length ⟨0, by simp [reachL, encB]⟩ ?_
  rintro m ⟨σ, H⟩ ⟨k, hm, h1, h2, h5, h6, hH⟩
  simp only at h1 h2 h5 h6 hH
  by_cases hk : k < t.length
  · obtain ⟨m, rfl⟩ : ∃ m', m = m' + 1 := ⟨m - 1, by omega⟩
    rw [List.replicate_succ] at hH
    have hk' : (k : Int) + 1 ≤ t.length := by omega
    have hw1 : IntKind.i64.wrap ((k : Int) + 1 + 1) = (k : Int) + 1 + 1 := wrapi (by omega)
    simp [h1, h2, h5, h6, hH, hk']
    refine TWcH.loop [] (fun m' s => ∃ i b, i + m' = k + 1 ∧ s.σ 1 = .val (.string (bs t)) ∧ s.σ 2 = .rptr (encRex a) 0 ∧ s.σ 5 = .hd id ∧ s.σ 6 = .val (.int .i64 ((k : Int) + 1)) ∧ s.σ 7 = .val (.int .i64 i) ∧ s.H id = some (.own 4 ((reachL f t k).map encB ++ [.val (.bool b)] :: List.replicate m [.val (.bool false)])) ∧ b = anyF f t (reachL f t k) (k + 1) i) (k + 1) ⟨0, false, by simp [anyF, hH, h1, h2, h5, h6]⟩ ?_
    rintro m' ⟨σ, H⟩ ⟨i, b, him, g1, g2, g5, g6, g7, gH, hb⟩
    simp only at g1 g2 g5 g6 g7 gH
    have hlen : (reachL f t k).length = k + 1 := reachL_len f t k
    have hsl : ((reachL f t k).map encB ++ [TV.val (.bool b)] :: List.replicate m [TV.val (.bool false)]).length = t.length + 1 := by simp; omega
    have hget := sh_get (x := [.val (.bool b)]) (z := List.replicate m [.val (.bool false)]) hlen
    by_cases hi : i < k + 1
    · have hi' : (i : Int) < (k : Int) + 1 := by omega
      have hki : (k : Int) + 1 < (t.length : Int) + 1 := by omega
      have hii : (i : Int) < (t.length : Int) + 1 := by omega
      have hkl : (k : Int) + 1 < (k : Int) + 1 + ((m : Int) + 1) := by omega
      have hil : (i : Int) < (k : Int) + 1 + ((m : Int) + 1) := by omega
      have hk0 : (0 : Int) ≤ (k : Int) + 1 := by omega
      have hkn : ((k : Int) + 1).toNat = k + 1 := by omega
      have hold := sh_old (x := [.val (.bool b)]) (z := List.replicate m [.val (.bool false)]) (show i < (reachL f t k).length by omega)
      have hset := sh_set (x := [.val (.bool b)]) (z := List.replicate m [.val (.bool false)]) hlen
      have hwi : IntKind.i64.wrap ((i : Int) + 1) = (i : Int) + 1 := wrapi (by omega)
      have hany := anyF_succ (f := f) (t := t) (R := reachL f t k) (k := k + 1) (show i < (reachL f t k).length by omega)
      simp [g1, g2, g5, g6, g7, gH, hi', hsl, hki, hget, hk0, hkn, hkl]
      refine gif_intro (fun c1 => ?_) (fun c1 => ?_) <;> simp [g1, g2, g5, g6, g7, gH, c1]
      · refine ⟨m, by omega, k + 1, by omega, by rw [hw1]; omega, ?_⟩
        have e : anyF f t (reachL f t k) (k + 1) (k + 1) = true := anyF_more (by rw [← hb, c1]) (by omega)
        simp [reachL, e, encB]
      · refine TWcH.regionD (ρ := []) [0, 1, 2, 3, 4, 5, 6, 7, 8, 9, 10, 11, 12, 13, 14, 15] 15 mixed (by kernel_rfl) ?_
        simp [g1, g2, g5, g6, g7, gH, hil, hold]
        have hik : (i : Int) ≤ (k : Int) + 1 := by omega
        have hpl : ((t.take (k + 1)).drop i).length ≤ 12 := by simp; omega
        refine gif_intro (fun c2 => ?_) (fun c2 => ?_) <;> simp [g1, g2, g5, g6, g7, gH, hil, hold, c2, hik, hk', hk0, hkl, hkn, hget, hset, hwi]
        · refine TWqH.callV (ha ((t.take (k + 1)).drop i) hpl) callable_187 (by simp [g1, g2, g5, g6, g7, hkn]) (by simp) (by simp) (by simp) ?_
          simp [g1, g2, g5, g6, g7, gH, hil, hold, c2, hik, hk', hk0, hkl, hkn, hget, hset, hwi]
          exact ⟨m' - 1, by omega, i + 1, by omega, by omega, by rw [hany, ← hb, c2]; cases b <;> simp_all⟩
        · exact ⟨m' - 1, by omega, i + 1, by omega, by omega, by rw [hany, ← hb, Bool.eq_false_iff.2 c2]; cases b <;> simp_all⟩
    · have hin : ¬ ((i : Int) < (k : Int) + 1) := by omega
      obtain rfl : i = k + 1 := by omega
      simp [g1, g2, g5, g6, g7, gH]
      refine ⟨m, by omega, k + 1, by omega, by rw [hw1]; omega, ?_⟩
      simp [reachL, ← hb, encB]
  · obtain rfl : k = t.length := by omega
    obtain rfl : m = 0 := by omega
    have e1 : ¬ ((t.length : Int) + 1 ≤ t.length) := by omega
    have hlen : (reachL f t t.length).length = t.length + 1 := reachL_len f t t.length
    have hg : ((reachL f t t.length).map encB)[t.length]? = some (encB ((reachL f t t.length).getD t.length false)) := by simp [hlen]
    have e2 : (t.length : Int) < (t.length : Int) + 1 := by omega
    simp [h1, h2, h5, h6, hH, e1, e2, hlen, starF]
end Go.Proofs.YtdomnlnanbekaaaGreatDoor.R

open Go Go.Proofs.YtdomnlnanbekaaaGreatDoor.T
namespace Go.Proofs.YtdomnlnanbekaaaGreatDoor.R
set_option maxHeartbeats 2000000
set_option linter.unusedSimpArgs false
set_option linter.unusedVariables false
set_option maxRecDepth 100000
def catF (fa fb : List UInt8 → Bool) (t : List UInt8) (k : Nat) : Bool := (List.range' k (t.length + 1 - k)).any fun k => fa (t.take k) && fb (t.drop k)
theorem catF_next {fa fb : List UInt8 → Bool} {t : List UInt8} {k : Nat} (h : k ≤ t.length) : catF fa fb t k = ((fa (t.take k) && fb (t.drop k)) || catF fa fb t (k + 1)) := by
  unfold catF
  rw [show t.length + 1 - k = (t.length + 1 - (k + 1)) + 1 by omega, List.range'_succ, List.any_cons]
theorem tc_l3Cat (a b : Rex) (fa fb : List UInt8 → Bool) (t : List UInt8) (ht : t.length ≤ 12)
    (ha : ∀ t : List UInt8, t.length ≤ 12 → TC Tryz.prog 187 [.agg (encRex a), .val (.string (bs t))] [] (.val (.bool (fa t))) [])
    (hb : ∀ t : List UInt8, t.length ≤ 12 → TC Tryz.prog 187 [.agg (encRex b), .val (.string (bs t))] [] (.val (.bool (fb t))) []) :
    TC Tryz.prog 197 [.agg (encRex a), .agg (encRex b), .val (.string (bs t))] [] (.val (.bool (catF fa fb t 0))) [] := by
  refine TC.enter Tryz.func197 rfl (by simp [Tryz.ntmps197]) rfl (tw_sound (ρ := [3, 4]) ?_)
  rw [Tryz.ntmps197]
  simp
  refine TWcH.loop [] (fun m s => ∃ k, k + m = t.length + 1 ∧ s.σ 2 = .val (.string (bs t)) ∧ s.σ 3 = .rptr (encRex a) 0 ∧ s.σ 4 = .rptr (encRex b) 0 ∧ s.σ 7 = .val (.int .i64 k) ∧ catF fa fb t 0 = catF fa fb t k) (t.length + 1) ⟨0, by simp⟩ ?_
  rintro m ⟨σ, H⟩ ⟨k, hm, h2, h3, h4, h7, hh⟩
  simp only at h2 h3 h4 h7
  by_cases hk : k ≤ t.length
  · rw [catF_next hk] at hh
    have hw : IntKind.i64.wrap ((k : Int) + 1) = (k : Int) + 1 := wrapi (by omega)
    simp [h2, h3, h4, h7, hk]
    refine TWcH.regionD (ρ := []) [0, 1, 2, 3, 4, 5, 7, 8, 9, 6, 10, 11] 12 mixed (by kernel_rfl) ?_
    simp [h2, h3, h4, h7, hk]
    refine TWqH.callV (ha (t.take k) (by simp; omega)) callable_187 (by simp [h2, h3, h4, h7]) (by simp) (by simp) (by simp) ?_
    simp [h2, h3, h4, h7, hk]
    refine gif_intro (fun c1 => ?_) (fun c1 => ?_) <;> simp [h2, h3, h4, h7, hk, c1, hw]
    · refine TWqH.callV (hb (t.drop k) (by simp; omega)) callable_187 (by simp [h2, h3, h4, h7]) (by simp) (by simp) (by simp) ?_
      simp [h2, h3, h4, h7, hk]
      refine gif_intro (fun c2 => ?_) (fun c2 => ?_) <;> simp [h2, h3, h4, h7, hk, c2, hw]
      · rw [hh, c1, c2]; rfl
      · exact ⟨m - 1, by omega, k + 1, by omega, by omega, by rw [hh]; simp [c1, c2]⟩
    · exact ⟨m - 1, by omega, k + 1, by omega, by omega, by rw [hh]; simp [c1]⟩
  · simp [h2, h3, h4, h7, hk]
    rw [hh]; unfold catF
    rw [show t.length + 1 - k = 0 by omega]; rfl
def isF : Nat → Rex → List UInt8 → Bool
  | 0, _, _ => false
  | d + 1, .mk k s l, t =>
    if k = 1 then decide (t.length = 1) && hasS s (t.headD 0).toNat else if k = 2 then decide (t = []) else match l with
      | [a] => if k = 5 then starF (isF d a) t else !isF d a t
      | [a, b] => if k = 3 then catF (isF d a) (isF d b) t 0 else if k = 4 then isF d a t || isF d b t else isF d a t && isF d b t
      | _ => false
theorem form_kids {d : Nat} {k : Int} {s : List (Int × Int)} {l : List Rex} (h : formF (d + 1) (.mk k s l) = true) :
    ((k = 1 ∨ k = 2) ∧ l = []) ∨ (∃ a, (k = 5 ∨ k = 7) ∧ l = [a] ∧ formF d a = true) ∨ (∃ a b, (k = 3 ∨ k = 4 ∨ k = 6) ∧ l = [a, b] ∧ formF d a = true ∧ formF d b = true) := by
  simp only [formF, headOk, Bool.and_eq_true, decide_eq_true_eq, List.all_eq_true] at h
  have h1 := h.1.1.1
  unfold kidsN at h1
  split at h1
  · rename_i hk
    exact .inl ⟨hk, List.length_eq_zero_iff.1 (by omega)⟩
  split at h1
  · rename_i hk
    obtain ⟨a, rfl⟩ := List.length_eq_one_iff.1 (show l.length = 1 by omega)
    exact .inr (.inl ⟨a, hk, rfl, h.2 a (by simp)⟩)
  split at h1
  · rename_i hk
    match l, h1, h.2 with
    | [a, b], _, h2 => exact .inr (.inr ⟨a, b, hk, rfl, h2 a (by simp), h2 b (by simp)⟩)
  · omega
theorem tc_l3Is : ∀ (d : Nat) (r : Rex) (t : List UInt8), Sm r → formF d r = true → t.length ≤ 12 → TC Tryz.prog 187 [.agg (encRex r), .val (.string (bs t))] [] (.val (.bool (isF d r t))) []
  | 0, r, t, hs, hf, ht => by simp [formF] at hf
  | d + 1, .mk k s l, t, hs, hf, ht => by
    refine TC.enter Tryz.func187 rfl (by simp [Tryz.ntmps187]) rfl (tw_sound (ρ := [2]) ?_)
    rw [Tryz.ntmps187]
    simp [encRex, encRexL_eq]
    rcases form_kids hf with ⟨hk, rfl⟩ | ⟨a, hk, rfl, fa⟩ | ⟨a, b, hk, rfl, fa, fb⟩
    · rcases hk with rfl | rfl
      · by_cases hl : t.length = 1
        · obtain ⟨c, rfl⟩ := List.length_eq_one_iff.1 hl
          simp
          refine TWcH.regionD (ρ := [2]) [0, 1, 2, 3, 4, 5, 6, 7, 8, 9, 10, 11] 12 mixed (by kernel_rfl) ?_
          simp
          refine TWqH.callV (tc_sSetHas s c.toNat (by have := hs.1; omega)) callable_153 (by simp) (by simp) (by simp) (by simp) ?_
          simp [isF]
        · have hl' : ¬ ((t.length : Int) = 1) := by omega
          simp
          refine TWcH.regionD (ρ := [2]) [0, 1, 2, 3, 4, 5, 6, 7, 8, 9, 10, 11] 12 mixed (by kernel_rfl) ?_
          simp [hl', isF, hl]
      · simp [isF]
    · have ha := fun t ht => tc_l3Is d a t hs.2.2.1 fa ht
      rcases hk with rfl | rfl
      · simp
        refine TWoH.callV (tc_l3Star a _ t ht ha) callable_198 (by simp) (by simp) (by simp) (by simp) ?_
        simp [isF]
      · simp
        refine TWoH.callV (ha t ht) callable_187 (by simp) (by simp) (by simp) (by simp) ?_
        simp [isF]
    · have ha := fun t ht => tc_l3Is d a t hs.2.2.1 fa ht
      have hb := fun t ht => tc_l3Is d b t hs.2.2.2.1 fb ht
      rcases hk with rfl | rfl | rfl
      · simp
        refine TWcH.regionD (ρ := [2]) [0, 1, 2, 3, 4, 5, 6, 7, 8, 9, 10] 11 mixed (by kernel_rfl) ?_
        simp
        refine TWqH.callV (tc_l3Cat a b _ _ t ht ha hb) callable_197 (by simp) (by simp) (by simp) (by simp) ?_
        simp [isF]
      · simp
        refine TWoH.callV (ha t ht) callable_187 (by simp) (by simp) (by simp) (by simp) ?_
        simp
        refine gif_intro (fun c1 => ?_) (fun c1 => ?_) <;> simp [c1]
        · simp [isF, c1]
        · refine TWoH.callV (hb t ht) callable_187 (by simp) (by simp) (by simp) (by simp) ?_
          simp [isF, c1]
      · simp
        refine TWoH.callV (ha t ht) callable_187 (by simp) (by simp) (by simp) (by simp) ?_
        simp
        refine gif_intro (fun c1 => ?_) (fun c1 => ?_) <;> simp [c1]
        · refine TWoH.callV (hb t ht) callable_187 (by simp) (by simp) (by simp) (by simp) ?_
          simp [isF, c1]
        · simp [isF, c1]
end Go.Proofs.YtdomnlnanbekaaaGreatDoor.R

open Go Go.Proofs.YtdomnlnanbekaaaGreatDoor.T
namespace Go.Proofs.YtdomnlnanbekaaaGreatDoor.R
set_option maxHeartbeats 2000000
set_option linter.unusedSimpArgs false
set_option linter.unusedVariables false
set_option maxRecDepth 100000
def nm (l : List Rule) (j : Nat) : List UInt8 := match l[j]? with
  | some r => r.name
  | none => []
def newN (l : List Rule) (i k : Nat) : Bool := (List.range' k (i - k)).all fun j => decide (nm l j ≠ nm l i)
theorem newN_next {l : List Rule} {i k : Nat} (h : k < i) : newN l i k = (decide (nm l k ≠ nm l i) && newN l i (k + 1)) := by
  unfold newN
  rw [show i - k = (i - (k + 1)) + 1 by omega, List.range'_succ, List.all_cons]
theorem newN_end {l : List Rule} {i k : Nat} (h : ¬ k < i) : newN l i k = true := by
  unfold newN
  rw [show i - k = 0 by omega]; rfl
def ruleAt (l : List Rule) (i : Nat) : Bool := (match l[i]? with
  | some r => wordOk r.name && rexOk r.rex
  | none => false) && newN l i 0
def okFrom (l : List Rule) (i : Nat) : Bool := (List.range' i (l.length - i)).all (ruleAt l)
theorem okFrom_next {l : List Rule} {i : Nat} (h : i < l.length) : okFrom l i = (ruleAt l i && okFrom l (i + 1)) := by
  unfold okFrom
  rw [show l.length - i = (l.length - (i + 1)) + 1 by omega, List.range'_succ, List.all_cons]
theorem okFrom_end {l : List Rule} {i : Nat} (h : ¬ i < l.length) : okFrom l i = true := by
  unfold okFrom
  rw [show l.length - i = 0 by omega]; rfl
def rulesOk (l : List Rule) : Bool := decide (1 ≤ l.length ∧ l.length ≤ 5) && okFrom l 0
def RSm (l : List Rule) : Prop := l.length ≤ 1048576 ∧ ∀ r ∈ l, Sm r.rex ∧ r.name.length ≤ 1048576
theorem tc_sRulesOk (l : List Rule) (hs : RSm l) : TC Tryz.prog 67 [.ro (l.map encRule)] [] (.val (.bool (rulesOk l))) [] := by
  refine TC.enter Tryz.func67 rfl (by simp [Tryz.ntmps67]) rfl (tw_sound (ρ := []) ?_)
  rw [Tryz.ntmps67]
  simp
  refine gif_intro (fun c1 => ?_) (fun c1 => ?_) <;> simp [c1]
  · simp [rulesOk]; omega
  refine gif_intro (fun c2 => ?_) (fun c2 => ?_) <;> simp [c1, c2]
  · simp [rulesOk]; omega
  have hr : rulesOk l = okFrom l 0 := by rw [rulesOk, show decide (1 ≤ l.length ∧ l.length ≤ 5) = true by simp; omega]; rfl
  refine TWcH.loop [] (fun m s => ∃ i, i + m = l.length ∧ s.σ 0 = .ro (l.map encRule) ∧ s.σ 3 = .val (.int .i64 i) ∧ okFrom l 0 = okFrom l i) l.length ⟨0, by simp⟩ ?_
  rintro m ⟨σ, H⟩ ⟨i, him, h0, h3, hh⟩
  simp only at h0 h3
  by_cases hi : i < l.length
  · rw [okFrom_next hi] at hh
    have hw := hw1 hi (by have := hs.1; omega)
    have hsi := hs.2 _ (List.getElem_mem hi)
    have ha : ruleAt l i = (wordOk l[i].name && rexOk l[i].rex && newN l i 0) := by simp [ruleAt, getI hi]
    have hni : nm l i = l[i].name := by simp [nm, getI hi]
    simp [h0, h3, getI hi, hi, encRule]
    refine TWoH.callV (tc_sRuleWord l[i].name (by omega)) callable_139 (by simp [h0, h3, getI hi, hi]) (by simp) (by simp) (by simp) ?_
    simp [h0, h3, getI hi, hi, encRule]
    refine gif_intro (fun c3 => ?_) (fun c3 => ?_) <;> simp [h0, h3, getI hi, hi, encRule, c3]
    case refine_2 => rw [hr, hh, ha, Bool.eq_false_iff.2 c3]; rfl
    refine TWoH.callV (tc_sRexOk l[i].rex hsi.1) callable_33 (by simp [h0, h3, getI hi, hi]) (by simp) (by simp) (by simp) ?_
    simp [h0, h3, getI hi, hi, encRule]
    refine gif_intro (fun c4 => ?_) (fun c4 => ?_) <;> simp [h0, h3, getI hi, hi, encRule, c3, c4]
    case refine_2 => rw [hr, hh, ha, Bool.eq_false_iff.2 c4]; simp
    rw [c3, c4] at ha
    refine TWcH.loop [] (fun m' s => ∃ k, k + m' = i ∧ s.σ 0 = .ro (l.map encRule) ∧ s.σ 3 = .val (.int .i64 i) ∧ s.σ 4 = .val (.int .i64 k) ∧ newN l i 0 = newN l i k) i ⟨0, by simp [h0, h3]⟩ ?_
    rintro m' ⟨σ, H⟩ ⟨k, hkm, g0, g3, g4, gg⟩
    simp only at g0 g3 g4
    by_cases hk : k < i
    · have hkl : k < l.length := by omega
      have hwk := hw1 hkl (by have := hs.1; omega)
      have hnk : nm l k = l[k].name := by simp [nm, getI hkl]
      rw [newN_next hk, hnk, hni] at gg
      simp [g0, g3, g4, hk, encRule]
      refine TWcH.regionD (ρ := []) [0, 1, 2, 3, 4, 5, 6, 7, 8, 9, 10] 11 mixed (by kernel_rfl) ?_
      simp [g0, g3, g4, hk, getI hi, getI hkl, hkl, hi, encRule]
      refine gif_intro (fun c5 => ?_) (fun c5 => ?_) <;> simp [g0, g3, g4, hk, getI hi, hi, encRule, c5, hwk]
      · rw [hr, hh, ha, gg]; simp [c5]
      · exact ⟨m' - 1, by omega, k + 1, by omega, by omega, by rw [gg]; simp [c5]⟩
    · have hk' : ¬ ((k : Int) < i) := by omega
      simp [g0, g3, g4, hk, hw]
      exact ⟨m - 1, by omega, i + 1, by omega, by omega, by rw [hh, ha, gg, newN_end hk]; rfl⟩
  · simp [h0, h3, hi]
    rw [hr, hh, okFrom_end hi]
def firstF (l : List Rule) (t : List UInt8) (i : Nat) : Int := match (List.range' i (l.length - i)).find? (fun j => match l[j]? with
    | some r => isF 8 r.rex t
    | none => false) with
  | some j => j
  | none => -1
theorem firstF_next {l : List Rule} {t : List UInt8} {i : Nat} (h : i < l.length) : firstF l t i = if isF 8 l[i].rex t = true then (i : Int) else firstF l t (i + 1) := by
  unfold firstF
  rw [show l.length - i = (l.length - (i + 1)) + 1 by omega, List.range'_succ, List.find?_cons]
  simp only [getI h]
  cases isF 8 l[i].rex t <;> simp
theorem firstF_end {l : List Rule} {t : List UInt8} {i : Nat} (h : ¬ i < l.length) : firstF l t i = -1 := by
  unfold firstF
  rw [show l.length - i = 0 by omega]; rfl
def rulesFirst (l : List Rule) (t : List UInt8) : Int := if rulesOk l = true ∧ t.length ≤ 12 then firstF l t 0 else -1
theorem rulesOk_form {l : List Rule} (h : rulesOk l = true) {i : Nat} (hi : i < l.length) : formF 8 l[i].rex = true := by
  simp only [rulesOk, okFrom, Bool.and_eq_true, List.all_eq_true, List.mem_range'_1] at h
  have h1 := h.2 i (by omega)
  simp only [ruleAt, getI hi, Bool.and_eq_true, rexOk] at h1
  exact h1.1.2.1
end Go.Proofs.YtdomnlnanbekaaaGreatDoor.R

open Go Go.Proofs.YtdomnlnanbekaaaGreatDoor.T
namespace Go.Proofs.YtdomnlnanbekaaaGreatDoor.R
set_option maxHeartbeats 2000000
set_option maxRecDepth 100000
set_option linter.unusedSimpArgs false
set_option linter.unusedVariables false
theorem tc_eqSpan (a : Int × Int) : TC Tryz.prog 167 [.agg (encSp a), .agg (encSp a)] [] (.val (.bool true)) [] := by
  refine TC.enter Tryz.func167 rfl (by simp [Tryz.ntmps167]) rfl (tw_sound (ρ := [2, 3]) ?_)
  rw [Tryz.ntmps167]
  simp [encSp]
theorem tc_eqSpanS (l : List (Int × Int)) (hl : l.length ≤ 1152921504606846976) : TC Tryz.prog 118 [.ro (l.map encSp), .ro (l.map encSp)] [] (.val (.bool true)) [] := by
  refine TC.enter Tryz.func118 rfl (by simp [Tryz.ntmps118]) rfl (tw_sound (ρ := []) ?_)
  rw [Tryz.ntmps118]
  simp
  refine TWcH.loop [] (fun m s => ∃ i, i + m = l.length ∧ s.σ 0 = .ro (l.map encSp) ∧ s.σ 1 = .ro (l.map encSp) ∧ s.σ 5 = .val (.int .i64 i)) l.length ⟨0, by simp⟩ ?_
  rintro m ⟨σ, H⟩ ⟨i, him, h0, h1, h5⟩
  simp only at h0 h1 h5
  by_cases hi : i < l.length
  · have hw := hw1 hi hl
    simp [h0, h1, h5, getI hi, hi]
    refine TWcH.regionD (ρ := []) [0, 1, 2, 3, 4, 5, 6, 7, 8, 9] 10 mixed (by kernel_rfl) ?_
    simp [h0, h1, h5, getI hi, hi]
    refine TWqH.callV (tc_eqSpan l[i]) callable_167 (by simp [h0, h1, h5]) (by simp) (by simp) (by simp) ?_
    simp [h0, h1, h5, hw]
    exact ⟨m - 1, by omega, i + 1, by omega, by omega⟩
  · simp [h0, h1, h5, hi]
theorem tc_eqRexS (l : List Rex) (hl : l.length ≤ 1152921504606846976) (ih : ∀ i (h : i < l.length), TC Tryz.prog 50 [.agg (encRex l[i]), .agg (encRex l[i])] [] (.val (.bool true)) []) : TC Tryz.prog 49 [.ro (l.map encRex), .ro (l.map encRex)] [] (.val (.bool true)) [] := by
  refine TC.enter Tryz.func49 rfl (by simp [Tryz.ntmps49]) rfl (tw_sound (ρ := []) ?_)
  rw [Tryz.ntmps49]
  simp
  refine TWcH.loop [] (fun m s => ∃ i, i + m = l.length ∧ s.σ 0 = .ro (l.map encRex) ∧ s.σ 1 = .ro (l.map encRex) ∧ s.σ 5 = .val (.int .i64 i)) l.length ⟨0, by simp⟩ ?_
  rintro m ⟨σ, H⟩ ⟨i, him, h0, h1, h5⟩
  simp only at h0 h1 h5
  by_cases hi : i < l.length
  · have hw := hw1 hi hl
    simp [h0, h1, h5, getI hi, hi]
    refine TWcH.regionD (ρ := []) [0, 1, 2, 3, 4, 5, 6, 7, 8, 9] 10 mixed (by kernel_rfl) ?_
    simp [h0, h1, h5, getI hi, hi]
    refine TWqH.callV (ih i hi) callable_50 (by simp [h0, h1, h5]) (by simp) (by simp) (by simp) ?_
    simp [h0, h1, h5, hw]
    exact ⟨m - 1, by omega, i + 1, by omega, by omega⟩
  · simp [h0, h1, h5, hi]
mutual
theorem tc_eqRex : ∀ (r : Rex), Sm r → TC Tryz.prog 50 [.agg (encRex r), .agg (encRex r)] [] (.val (.bool true)) []
  | .mk k s l, hs => by
    refine TC.enter Tryz.func50 rfl (by simp [Tryz.ntmps50]) rfl (tw_sound (ρ := [2, 3]) ?_)
    rw [Tryz.ntmps50]
    simp [encRex, encRexL_eq]
    refine TWoH.callV (tc_eqSpanS s (by have := hs.1; omega)) callable_118 (by simp) (by simp) (by simp) (by simp) ?_
    simp
    refine TWoH.callV (tc_eqRexS l (by have := hs.2.1; omega) (tc_eqRexL l hs.2.2)) callable_49 (by simp) (by simp) (by simp) (by simp) ?_
    simp
theorem tc_eqRexL : ∀ (l : List Rex), SmL l → ∀ i (h : i < l.length), TC Tryz.prog 50 [.agg (encRex l[i]), .agg (encRex l[i])] [] (.val (.bool true)) []
  | r :: l, hs, 0, _ => tc_eqRex r hs.1
  | r :: l, hs, i + 1, h => by
    simp only [List.getElem_cons_succ]
    exact tc_eqRexL l hs.2 i (by simpa using h)
end
theorem tc_eqRule (r : Rule) (hs : Sm r.rex) : TC Tryz.prog 84 [.agg (encRule r), .agg (encRule r)] [] (.val (.bool true)) [] := by
  refine TC.enter Tryz.func84 rfl (by simp [Tryz.ntmps84]) rfl (tw_sound (ρ := [2, 3]) ?_)
  rw [Tryz.ntmps84]
  simp [encRule]
  refine TWoH.callV (tc_eqRex r.rex hs) callable_50 (by simp) (by simp) (by simp) (by simp) ?_
  simp
theorem tc_eqRuleS (l : List Rule) (hs : RSm l) : TC Tryz.prog 22 [.ro (l.map encRule), .ro (l.map encRule)] [] (.val (.bool true)) [] := by
  refine TC.enter Tryz.func22 rfl (by simp [Tryz.ntmps22]) rfl (tw_sound (ρ := []) ?_)
  rw [Tryz.ntmps22]
  simp
  refine TWcH.loop [] (fun m s => ∃ i, i + m = l.length ∧ s.σ 0 = .ro (l.map encRule) ∧ s.σ 1 = .ro (l.map encRule) ∧ s.σ 5 = .val (.int .i64 i)) l.length ⟨0, by simp⟩ ?_
  rintro m ⟨σ, H⟩ ⟨i, him, h0, h1, h5⟩
  simp only at h0 h1 h5
  by_cases hi : i < l.length
  · have hw := hw1 hi (by have := hs.1; omega)
    simp [h0, h1, h5, getI hi, hi]
    refine TWcH.regionD (ρ := []) [0, 1, 2, 3, 4, 5, 6, 7, 8, 9] 10 mixed (by kernel_rfl) ?_
    simp [h0, h1, h5, getI hi, hi]
    refine TWqH.callV (tc_eqRule l[i] (hs.2 _ (List.getElem_mem hi)).1) callable_84 (by simp [h0, h1, h5]) (by simp) (by simp) (by simp) ?_
    simp [h0, h1, h5, hw]
    exact ⟨m - 1, by omega, i + 1, by omega, by omega⟩
  · simp [h0, h1, h5, hi]
theorem tc_in (n a b : Int) : TC Tryz.prog 96 [.val (.int .i64 n), .val (.int .i64 a), .val (.int .i64 b)] [] (.val (.bool (decide (a ≤ n ∧ n ≤ b)))) [] := by
  refine TC.enter Tryz.func96 rfl (by simp [Tryz.ntmps96]) rfl (tw_sound (ρ := []) ?_)
  rw [Tryz.ntmps96]
  simp
  refine gif_intro (fun c1 => ?_) (fun c1 => ?_) <;> simp [c1]
theorem tc_iRuleWord (w : List UInt8) (hw : w.length ≤ 1152921504606846976) : TC Tryz.prog 129 [.val (.string (bs w))] [] (.val (.bool (wordOk w))) [] := by
  refine TC.enter Tryz.func129 rfl (by simp [Tryz.ntmps129]) rfl (tw_sound (ρ := []) ?_)
  rw [Tryz.ntmps129]
  simp
  refine TWcH.loop [] (fun m s => ∃ i, i + m = w.length ∧ s.σ 0 = .val (.string (bs w)) ∧ s.σ 3 = .val (.int .i64 i) ∧ w.all wc = (w.drop i).all wc) w.length ⟨0, by simp⟩ ?_
  rintro m ⟨σ, H⟩ ⟨i, him, h0, h3, hh⟩
  simp only at h0 h3
  by_cases hi : i < w.length
  · rw [all_drop hi] at hh
    have hw := hw1 hi hw
    simp [h0, h3, getI hi, hi]
    refine TWoH.callV (tc_in w[i].toNat 97 122) callable_96 (by simp) (by simp) (by simp) (by simp) ?_
    simp [h0, h3, getI hi, hi]
    refine gif_intro (fun c1 => ?_) (fun c1 => ?_) <;> simp [h0, h3, getI hi, hi, c1, hw]
    · rw [wordOk, hh, show wc w[i] = false by simp [wc]; omega]; rfl
    · refine ⟨m - 1, by omega, i + 1, by omega, by omega, ?_⟩
      rw [hh, show wc w[i] = true by simp [wc]; omega]; rfl
  · simp [h0, h3, hi]
    rw [drop_all hi] at hh
    refine TWoH.callV (tc_in w.length 1 6) callable_96 (by simp) (by simp) (by simp) (by simp) ?_
    simp [h0, h3]
    rw [wordOk, hh, Bool.eq_iff_iff]; simp; omega
theorem tc_iKidsOf (k : Int) : TC Tryz.prog 162 [.val (.int .i64 k)] [] (.val (.int .i64 (kidsN k))) [] := by
  refine TC.enter Tryz.func162 rfl (by simp [Tryz.ntmps162]) rfl (tw_sound (ρ := []) ?_)
  rw [Tryz.ntmps162]
  simp
  repeat' (refine gif_intro (fun c1 => ?_) (fun c1 => ?_) <;> simp [c1])
  all_goals simp [kidsN, *]
theorem tc_iMatchWord (t : List UInt8) : TC Tryz.prog 77 [.val (.string (bs t))] [] (.val (.bool (decide (t.length ≤ 12)))) [] := by
  refine TC.enter Tryz.func77 rfl (by simp [Tryz.ntmps77]) rfl (tw_sound (ρ := []) ?_)
  rw [Tryz.ntmps77]
  simp
  omega
theorem tc_iSetHas (l : List (Int × Int)) (b : Int) (hl : l.length ≤ 1152921504606846976) : TC Tryz.prog 46 [.ro (l.map encSp), .val (.int .i64 b)] [] (.val (.bool (hasS l b))) [] := by
  refine TC.enter Tryz.func46 rfl (by simp [Tryz.ntmps46]) rfl (tw_sound (ρ := []) ?_)
  rw [Tryz.ntmps46]
  simp
  refine TWcH.loop [] (fun m s => ∃ i, i + m = l.length ∧ s.σ 1 = .val (.int .i64 b) ∧ s.σ 7 = .ro (l.map encSp) ∧ s.σ 8 = .val (.int .i64 l.length) ∧ s.σ 9 = .val (.int .i64 i) ∧ hasS l b = hasS (l.drop i) b) l.length ⟨0, by simp⟩ ?_
  rintro m ⟨σ, H⟩ ⟨i, him, h1, h7, h8, h9, hh⟩
  simp only at h1 h7 h8 h9
  by_cases hi : i < l.length
  · rw [show hasS (l.drop i) b = _ from any_drop hi, show (l.drop (i + 1)).any (fun s => decide (s.1 ≤ b ∧ b ≤ s.2)) = hasS (l.drop (i + 1)) b from rfl] at hh
    have hw := hw1 hi hl
    simp [h1, h7, h8, h9, encSp, getI hi, hi]
    refine gall_intro fun a ha => ?_
    simp [h1, h7, h8, h9, encSp, getI hi, hi]
    refine TWoH.callV (tc_in b l[i].1 l[i].2) callable_96 (by simp [h1]) (by simp) (by simp) (by simp) ?_
    simp [h1, h7, h8, h9, encSp, getI hi, hi]
    refine gif_intro (fun c1 => ?_) (fun c1 => ?_) <;> simp [h1, h7, h8, h9, encSp, getI hi, hi, c1, hw]
    · simp [hh, c1]
    · exact ⟨m - 1, by omega, i + 1, by omega, by omega, by rw [hh]; simp; omega⟩
  · simp [h1, h7, h8, h9, hi]
    rw [hh, drop_all hi]; rfl
end Go.Proofs.YtdomnlnanbekaaaGreatDoor.R
