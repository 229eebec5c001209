/-
  Facts on the types of the program, each in closed form. No condition.
-/
import Derived.Test.YtagcnokaajinlaaDoorKi
namespace Go.Proofs.YtagcnokaajinlaaDoor
set_option linter.all false
set_option linter.unusedVariables false
set_option linter.unusedSimpArgs false
open Go.RowKit
theorem ty_i1 : (Tryd.prog.info? 1).map (fun i => (i.zero, i.size, i.bytes)) = some (some (.nilFunc), 1, 8) := by kernel_rfl
theorem ty_sz1 : Sz Tryd.prog 1 1 := fun w => by obtain ⟨i, h1, h2, h3, h4⟩ := info_parts ty_i1; simp [sizeOf, typeInfo, h1, h3]
theorem ty_zr1 : Zr Tryd.prog 1 [.nilFunc] := ⟨.nilFunc, rfl, fun w => by obtain ⟨i, h1, h2, h3, h4⟩ := info_parts ty_i1; simp [zeroValue, typeInfo, h1, h2]⟩
theorem ty_sc1 : Sc Tryd.prog 1 := fun w => by simp [isAgg, run_underlying Tryd.underlying1]
theorem ty_i2 : (Tryd.prog.info? 2).map (fun i => (i.zero, i.size, i.bytes)) = some (some (.int .i64 0), 1, 8) := by kernel_rfl
theorem ty_sz2 : Sz Tryd.prog 2 1 := fun w => by obtain ⟨i, h1, h2, h3, h4⟩ := info_parts ty_i2; simp [sizeOf, typeInfo, h1, h3]
theorem ty_zr2 : Zr Tryd.prog 2 [.int .i64 0] := ⟨.int .i64 0, rfl, fun w => by obtain ⟨i, h1, h2, h3, h4⟩ := info_parts ty_i2; simp [zeroValue, typeInfo, h1, h2]⟩
theorem ty_sc2 : Sc Tryd.prog 2 := fun w => by simp [isAgg, run_underlying Tryd.underlying2]
theorem ty_i3 : (Tryd.prog.info? 3).map (fun i => (i.zero, i.size, i.bytes)) = some (some (.int .i64 0), 1, 8) := by kernel_rfl
theorem ty_sz3 : Sz Tryd.prog 3 1 := fun w => by obtain ⟨i, h1, h2, h3, h4⟩ := info_parts ty_i3; simp [sizeOf, typeInfo, h1, h3]
theorem ty_zr3 : Zr Tryd.prog 3 [.int .i64 0] := ⟨.int .i64 0, rfl, fun w => by obtain ⟨i, h1, h2, h3, h4⟩ := info_parts ty_i3; simp [zeroValue, typeInfo, h1, h2]⟩
theorem ty_sc3 : Sc Tryd.prog 3 := fun w => by simp [isAgg, run_underlying Tryd.underlying3]
theorem ty_i4 : (Tryd.prog.info? 4).map (fun i => (i.zero, i.size, i.bytes)) = some (some (.bool false), 1, 1) := by kernel_rfl
theorem ty_sz4 : Sz Tryd.prog 4 1 := fun w => by obtain ⟨i, h1, h2, h3, h4⟩ := info_parts ty_i4; simp [sizeOf, typeInfo, h1, h3]
theorem ty_zr4 : Zr Tryd.prog 4 [.bool false] := ⟨.bool false, rfl, fun w => by obtain ⟨i, h1, h2, h3, h4⟩ := info_parts ty_i4; simp [zeroValue, typeInfo, h1, h2]⟩
theorem ty_sc4 : Sc Tryd.prog 4 := fun w => by simp [isAgg, run_underlying Tryd.underlying4]
theorem ty_i5 : (Tryd.prog.info? 5).map (fun i => (i.zero, i.size, i.bytes)) = some (some (.int .u8 0), 1, 1) := by kernel_rfl
theorem ty_sz5 : Sz Tryd.prog 5 1 := fun w => by obtain ⟨i, h1, h2, h3, h4⟩ := info_parts ty_i5; simp [sizeOf, typeInfo, h1, h3]
theorem ty_zr5 : Zr Tryd.prog 5 [.int .u8 0] := ⟨.int .u8 0, rfl, fun w => by obtain ⟨i, h1, h2, h3, h4⟩ := info_parts ty_i5; simp [zeroValue, typeInfo, h1, h2]⟩
theorem ty_sc5 : Sc Tryd.prog 5 := fun w => by simp [isAgg, run_underlying Tryd.underlying5]
theorem ty_i6 : (Tryd.prog.info? 6).map (fun i => (i.zero, i.size, i.bytes)) = some (some (.int .u8 0), 1, 1) := by kernel_rfl
theorem ty_sz6 : Sz Tryd.prog 6 1 := fun w => by obtain ⟨i, h1, h2, h3, h4⟩ := info_parts ty_i6; simp [sizeOf, typeInfo, h1, h3]
theorem ty_zr6 : Zr Tryd.prog 6 [.int .u8 0] := ⟨.int .u8 0, rfl, fun w => by obtain ⟨i, h1, h2, h3, h4⟩ := info_parts ty_i6; simp [zeroValue, typeInfo, h1, h2]⟩
theorem ty_sc6 : Sc Tryd.prog 6 := fun w => by simp [isAgg, run_underlying Tryd.underlying6]
theorem ty_i7 : (Tryd.prog.info? 7).map (fun i => (i.zero, i.size, i.bytes)) = some (some (.agg #[.int .i64 0, .int .i64 0, .bool false, .int .u8 0]), 4, 24) := by kernel_rfl
theorem ty_sz7 : Sz Tryd.prog 7 4 := fun w => by obtain ⟨i, h1, h2, h3, h4⟩ := info_parts ty_i7; simp [sizeOf, typeInfo, h1, h3]
theorem ty_zr7 : Zr Tryd.prog 7 [.int .i64 0, .int .i64 0, .bool false, .int .u8 0] := ⟨.agg #[.int .i64 0, .int .i64 0, .bool false, .int .u8 0], rfl, fun w => by obtain ⟨i, h1, h2, h3, h4⟩ := info_parts ty_i7; simp [zeroValue, typeInfo, h1, h2]⟩
theorem ty_ag7 : Ag Tryd.prog 7 4 := ⟨fun w => by simp [isAgg, run_underlying Tryd.underlying7], ty_sz7⟩
theorem ty_fa7_0 : FieldAt Tryd.prog 7 0 0 := fieldAt_of 0 0 2 1 Tryd.underlying7 (by kernel_rfl) ty_sz2 (by kernel_rfl)
theorem ty_fa7_1 : FieldAt Tryd.prog 7 1 1 := fieldAt_of 1 1 3 1 Tryd.underlying7 (by kernel_rfl) ty_sz3 (by kernel_rfl)
theorem ty_fa7_2 : FieldAt Tryd.prog 7 2 2 := fieldAt_of 2 2 4 1 Tryd.underlying7 (by kernel_rfl) ty_sz4 (by kernel_rfl)
theorem ty_fa7_3 : FieldAt Tryd.prog 7 3 3 := fieldAt_of 3 3 6 1 Tryd.underlying7 (by kernel_rfl) ty_sz6 (by kernel_rfl)
theorem ty_i8 : (Tryd.prog.info? 8).map (fun i => (i.zero, i.size, i.bytes)) = some (some (.agg #[.int .i64 0, .int .i64 0, .bool false, .int .u8 0]), 4, 24) := by kernel_rfl
theorem ty_sz8 : Sz Tryd.prog 8 4 := fun w => by obtain ⟨i, h1, h2, h3, h4⟩ := info_parts ty_i8; simp [sizeOf, typeInfo, h1, h3]
theorem ty_zr8 : Zr Tryd.prog 8 [.int .i64 0, .int .i64 0, .bool false, .int .u8 0] := ⟨.agg #[.int .i64 0, .int .i64 0, .bool false, .int .u8 0], rfl, fun w => by obtain ⟨i, h1, h2, h3, h4⟩ := info_parts ty_i8; simp [zeroValue, typeInfo, h1, h2]⟩
theorem ty_ag8 : Ag Tryd.prog 8 4 := ⟨fun w => by simp [isAgg, run_underlying Tryd.underlying8], ty_sz8⟩
theorem ty_fa8_0 : FieldAt Tryd.prog 8 0 0 := fieldAt_of 0 0 2 1 Tryd.underlying8 (by kernel_rfl) ty_sz2 (by kernel_rfl)
theorem ty_fa8_1 : FieldAt Tryd.prog 8 1 1 := fieldAt_of 1 1 3 1 Tryd.underlying8 (by kernel_rfl) ty_sz3 (by kernel_rfl)
theorem ty_fa8_2 : FieldAt Tryd.prog 8 2 2 := fieldAt_of 2 2 4 1 Tryd.underlying8 (by kernel_rfl) ty_sz4 (by kernel_rfl)
theorem ty_fa8_3 : FieldAt Tryd.prog 8 3 3 := fieldAt_of 3 3 6 1 Tryd.underlying8 (by kernel_rfl) ty_sz6 (by kernel_rfl)
theorem ty_i9 : (Tryd.prog.info? 9).map (fun i => (i.zero, i.size, i.bytes)) = some (some (.string ⟨#[]⟩), 1, 16) := by kernel_rfl
theorem ty_sz9 : Sz Tryd.prog 9 1 := fun w => by obtain ⟨i, h1, h2, h3, h4⟩ := info_parts ty_i9; simp [sizeOf, typeInfo, h1, h3]
theorem ty_zr9 : Zr Tryd.prog 9 [.string ⟨#[]⟩] := ⟨.string ⟨#[]⟩, rfl, fun w => by obtain ⟨i, h1, h2, h3, h4⟩ := info_parts ty_i9; simp [zeroValue, typeInfo, h1, h2]⟩
theorem ty_sc9 : Sc Tryd.prog 9 := fun w => by simp [isAgg, run_underlying Tryd.underlying9]
theorem ty_i10 : (Tryd.prog.info? 10).map (fun i => (i.zero, i.size, i.bytes)) = some (some (.string ⟨#[]⟩), 1, 16) := by kernel_rfl
theorem ty_sz10 : Sz Tryd.prog 10 1 := fun w => by obtain ⟨i, h1, h2, h3, h4⟩ := info_parts ty_i10; simp [sizeOf, typeInfo, h1, h3]
theorem ty_zr10 : Zr Tryd.prog 10 [.string ⟨#[]⟩] := ⟨.string ⟨#[]⟩, rfl, fun w => by obtain ⟨i, h1, h2, h3, h4⟩ := info_parts ty_i10; simp [zeroValue, typeInfo, h1, h2]⟩
theorem ty_sc10 : Sc Tryd.prog 10 := fun w => by simp [isAgg, run_underlying Tryd.underlying10]
theorem ty_i11 : (Tryd.prog.info? 11).map (fun i => (i.zero, i.size, i.bytes)) = some (some (.string ⟨#[]⟩), 1, 16) := by kernel_rfl
theorem ty_sz11 : Sz Tryd.prog 11 1 := fun w => by obtain ⟨i, h1, h2, h3, h4⟩ := info_parts ty_i11; simp [sizeOf, typeInfo, h1, h3]
theorem ty_zr11 : Zr Tryd.prog 11 [.string ⟨#[]⟩] := ⟨.string ⟨#[]⟩, rfl, fun w => by obtain ⟨i, h1, h2, h3, h4⟩ := info_parts ty_i11; simp [zeroValue, typeInfo, h1, h2]⟩
theorem ty_sc11 : Sc Tryd.prog 11 := fun w => by simp [isAgg, run_underlying Tryd.underlying11]
theorem ty_i12 : (Tryd.prog.info? 12).map (fun i => (i.zero, i.size, i.bytes)) = some (some (.int .u64 0), 1, 8) := by kernel_rfl
theorem ty_sz12 : Sz Tryd.prog 12 1 := fun w => by obtain ⟨i, h1, h2, h3, h4⟩ := info_parts ty_i12; simp [sizeOf, typeInfo, h1, h3]
theorem ty_zr12 : Zr Tryd.prog 12 [.int .u64 0] := ⟨.int .u64 0, rfl, fun w => by obtain ⟨i, h1, h2, h3, h4⟩ := info_parts ty_i12; simp [zeroValue, typeInfo, h1, h2]⟩
theorem ty_sc12 : Sc Tryd.prog 12 := fun w => by simp [isAgg, run_underlying Tryd.underlying12]
theorem ty_i13 : (Tryd.prog.info? 13).map (fun i => (i.zero, i.size, i.bytes)) = some (some (.agg #[.string ⟨#[]⟩, .int .u64 0]), 2, 24) := by kernel_rfl
theorem ty_sz13 : Sz Tryd.prog 13 2 := fun w => by obtain ⟨i, h1, h2, h3, h4⟩ := info_parts ty_i13; simp [sizeOf, typeInfo, h1, h3]
theorem ty_zr13 : Zr Tryd.prog 13 [.string ⟨#[]⟩, .int .u64 0] := ⟨.agg #[.string ⟨#[]⟩, .int .u64 0], rfl, fun w => by obtain ⟨i, h1, h2, h3, h4⟩ := info_parts ty_i13; simp [zeroValue, typeInfo, h1, h2]⟩
theorem ty_ag13 : Ag Tryd.prog 13 2 := ⟨fun w => by simp [isAgg, run_underlying Tryd.underlying13], ty_sz13⟩
theorem ty_fa13_0 : FieldAt Tryd.prog 13 0 0 := fieldAt_of 0 0 9 1 Tryd.underlying13 (by kernel_rfl) ty_sz9 (by kernel_rfl)
theorem ty_fa13_1 : FieldAt Tryd.prog 13 1 1 := fieldAt_of 1 1 12 1 Tryd.underlying13 (by kernel_rfl) ty_sz12 (by kernel_rfl)
theorem ty_i14 : (Tryd.prog.info? 14).map (fun i => (i.zero, i.size, i.bytes)) = some (some (.agg #[.string ⟨#[]⟩, .int .u64 0]), 2, 24) := by kernel_rfl
theorem ty_sz14 : Sz Tryd.prog 14 2 := fun w => by obtain ⟨i, h1, h2, h3, h4⟩ := info_parts ty_i14; simp [sizeOf, typeInfo, h1, h3]
theorem ty_zr14 : Zr Tryd.prog 14 [.string ⟨#[]⟩, .int .u64 0] := ⟨.agg #[.string ⟨#[]⟩, .int .u64 0], rfl, fun w => by obtain ⟨i, h1, h2, h3, h4⟩ := info_parts ty_i14; simp [zeroValue, typeInfo, h1, h2]⟩
theorem ty_ag14 : Ag Tryd.prog 14 2 := ⟨fun w => by simp [isAgg, run_underlying Tryd.underlying14], ty_sz14⟩
theorem ty_fa14_0 : FieldAt Tryd.prog 14 0 0 := fieldAt_of 0 0 9 1 Tryd.underlying14 (by kernel_rfl) ty_sz9 (by kernel_rfl)
theorem ty_fa14_1 : FieldAt Tryd.prog 14 1 1 := fieldAt_of 1 1 12 1 Tryd.underlying14 (by kernel_rfl) ty_sz12 (by kernel_rfl)
theorem ty_i15 : (Tryd.prog.info? 15).map (fun i => (i.zero, i.size, i.bytes)) = some (some (.pointer none), 1, 8) := by kernel_rfl
theorem ty_sz15 : Sz Tryd.prog 15 1 := fun w => by obtain ⟨i, h1, h2, h3, h4⟩ := info_parts ty_i15; simp [sizeOf, typeInfo, h1, h3]
theorem ty_zr15 : Zr Tryd.prog 15 [.pointer none] := ⟨.pointer none, rfl, fun w => by obtain ⟨i, h1, h2, h3, h4⟩ := info_parts ty_i15; simp [zeroValue, typeInfo, h1, h2]⟩
theorem ty_sc15 : Sc Tryd.prog 15 := fun w => by simp [isAgg, run_underlying Tryd.underlying15]
theorem ty_i16 : (Tryd.prog.info? 16).map (fun i => (i.zero, i.size, i.bytes)) = some (some (.pointer none), 1, 8) := by kernel_rfl
theorem ty_sz16 : Sz Tryd.prog 16 1 := fun w => by obtain ⟨i, h1, h2, h3, h4⟩ := info_parts ty_i16; simp [sizeOf, typeInfo, h1, h3]
theorem ty_zr16 : Zr Tryd.prog 16 [.pointer none] := ⟨.pointer none, rfl, fun w => by obtain ⟨i, h1, h2, h3, h4⟩ := info_parts ty_i16; simp [zeroValue, typeInfo, h1, h2]⟩
theorem ty_sc16 : Sc Tryd.prog 16 := fun w => by simp [isAgg, run_underlying Tryd.underlying16]
theorem ty_i17 : (Tryd.prog.info? 17).map (fun i => (i.zero, i.size, i.bytes)) = some (some (.pointer none), 1, 8) := by kernel_rfl
theorem ty_sz17 : Sz Tryd.prog 17 1 := fun w => by obtain ⟨i, h1, h2, h3, h4⟩ := info_parts ty_i17; simp [sizeOf, typeInfo, h1, h3]
theorem ty_zr17 : Zr Tryd.prog 17 [.pointer none] := ⟨.pointer none, rfl, fun w => by obtain ⟨i, h1, h2, h3, h4⟩ := info_parts ty_i17; simp [zeroValue, typeInfo, h1, h2]⟩
theorem ty_sc17 : Sc Tryd.prog 17 := fun w => by simp [isAgg, run_underlying Tryd.underlying17]
theorem ty_i18 : (Tryd.prog.info? 18).map (fun i => (i.zero, i.size, i.bytes)) = some (some (.agg #[.pointer none]), 1, 8) := by kernel_rfl
theorem ty_sz18 : Sz Tryd.prog 18 1 := fun w => by obtain ⟨i, h1, h2, h3, h4⟩ := info_parts ty_i18; simp [sizeOf, typeInfo, h1, h3]
theorem ty_zr18 : Zr Tryd.prog 18 [.pointer none] := ⟨.agg #[.pointer none], rfl, fun w => by obtain ⟨i, h1, h2, h3, h4⟩ := info_parts ty_i18; simp [zeroValue, typeInfo, h1, h2]⟩
theorem ty_ag18 : Ag Tryd.prog 18 1 := ⟨fun w => by simp [isAgg, run_underlying Tryd.underlying18], ty_sz18⟩
theorem ty_fa18_0 : FieldAt Tryd.prog 18 0 0 := fieldAt_of 0 0 17 1 Tryd.underlying18 (by kernel_rfl) ty_sz17 (by kernel_rfl)
theorem ty_i19 : (Tryd.prog.info? 19).map (fun i => (i.zero, i.size, i.bytes)) = some (some (.agg #[.pointer none]), 1, 8) := by kernel_rfl
theorem ty_sz19 : Sz Tryd.prog 19 1 := fun w => by obtain ⟨i, h1, h2, h3, h4⟩ := info_parts ty_i19; simp [sizeOf, typeInfo, h1, h3]
theorem ty_zr19 : Zr Tryd.prog 19 [.pointer none] := ⟨.agg #[.pointer none], rfl, fun w => by obtain ⟨i, h1, h2, h3, h4⟩ := info_parts ty_i19; simp [zeroValue, typeInfo, h1, h2]⟩
theorem ty_ag19 : Ag Tryd.prog 19 1 := ⟨fun w => by simp [isAgg, run_underlying Tryd.underlying19], ty_sz19⟩
theorem ty_fa19_0 : FieldAt Tryd.prog 19 0 0 := fieldAt_of 0 0 17 1 Tryd.underlying19 (by kernel_rfl) ty_sz17 (by kernel_rfl)
theorem ty_i20 : (Tryd.prog.info? 20).map (fun i => (i.zero, i.size, i.bytes)) = some (some (.nilIface), 1, 16) := by kernel_rfl
theorem ty_sz20 : Sz Tryd.prog 20 1 := fun w => by obtain ⟨i, h1, h2, h3, h4⟩ := info_parts ty_i20; simp [sizeOf, typeInfo, h1, h3]
theorem ty_zr20 : Zr Tryd.prog 20 [.nilIface] := ⟨.nilIface, rfl, fun w => by obtain ⟨i, h1, h2, h3, h4⟩ := info_parts ty_i20; simp [zeroValue, typeInfo, h1, h2]⟩
theorem ty_sc20 : Sc Tryd.prog 20 := fun w => by simp [isAgg, run_underlying Tryd.underlying20]
theorem ty_i21 : (Tryd.prog.info? 21).map (fun i => (i.zero, i.size, i.bytes)) = some (some (.int .i32 0), 1, 4) := by kernel_rfl
theorem ty_sz21 : Sz Tryd.prog 21 1 := fun w => by obtain ⟨i, h1, h2, h3, h4⟩ := info_parts ty_i21; simp [sizeOf, typeInfo, h1, h3]
theorem ty_zr21 : Zr Tryd.prog 21 [.int .i32 0] := ⟨.int .i32 0, rfl, fun w => by obtain ⟨i, h1, h2, h3, h4⟩ := info_parts ty_i21; simp [zeroValue, typeInfo, h1, h2]⟩
theorem ty_sc21 : Sc Tryd.prog 21 := fun w => by simp [isAgg, run_underlying Tryd.underlying21]
theorem ty_i22 : (Tryd.prog.info? 22).map (fun i => (i.zero, i.size, i.bytes)) = some (some (.agg #[.int .i64 0, .int .i64 0]), 2, 16) := by kernel_rfl
theorem ty_sz22 : Sz Tryd.prog 22 2 := fun w => by obtain ⟨i, h1, h2, h3, h4⟩ := info_parts ty_i22; simp [sizeOf, typeInfo, h1, h3]
theorem ty_zr22 : Zr Tryd.prog 22 [.int .i64 0, .int .i64 0] := ⟨.agg #[.int .i64 0, .int .i64 0], rfl, fun w => by obtain ⟨i, h1, h2, h3, h4⟩ := info_parts ty_i22; simp [zeroValue, typeInfo, h1, h2]⟩
theorem ty_ag22 : Ag Tryd.prog 22 2 := ⟨fun w => by simp [isAgg, run_underlying Tryd.underlying22], ty_sz22⟩
theorem ty_q2_22 : Eq2 Tryd.prog 22 := fun w x y i j m n => by
  by_cases h1 : i = m
  · by_cases h2 : j = n
    · subst h1 h2; go_simp
    · subst h1; go_simp
  · by_cases h2 : j = n
    · subst h2; go_simp
    · go_simp
theorem ty_fa22_0 : FieldAt Tryd.prog 22 0 0 := fieldAt_of 0 0 3 1 Tryd.underlying22 (by kernel_rfl) ty_sz3 (by kernel_rfl)
theorem ty_fa22_1 : FieldAt Tryd.prog 22 1 1 := fieldAt_of 1 1 3 1 Tryd.underlying22 (by kernel_rfl) ty_sz3 (by kernel_rfl)
theorem ty_i23 : (Tryd.prog.info? 23).map (fun i => (i.zero, i.size, i.bytes)) = some (some (.agg #[.int .i64 0, .int .i64 0]), 2, 16) := by kernel_rfl
theorem ty_sz23 : Sz Tryd.prog 23 2 := fun w => by obtain ⟨i, h1, h2, h3, h4⟩ := info_parts ty_i23; simp [sizeOf, typeInfo, h1, h3]
theorem ty_zr23 : Zr Tryd.prog 23 [.int .i64 0, .int .i64 0] := ⟨.agg #[.int .i64 0, .int .i64 0], rfl, fun w => by obtain ⟨i, h1, h2, h3, h4⟩ := info_parts ty_i23; simp [zeroValue, typeInfo, h1, h2]⟩
theorem ty_ag23 : Ag Tryd.prog 23 2 := ⟨fun w => by simp [isAgg, run_underlying Tryd.underlying23], ty_sz23⟩
theorem ty_q2_23 : Eq2 Tryd.prog 23 := fun w x y i j m n => by
  by_cases h1 : i = m
  · by_cases h2 : j = n
    · subst h1 h2; go_simp
    · subst h1; go_simp
  · by_cases h2 : j = n
    · subst h2; go_simp
    · go_simp
theorem ty_fa23_0 : FieldAt Tryd.prog 23 0 0 := fieldAt_of 0 0 3 1 Tryd.underlying23 (by kernel_rfl) ty_sz3 (by kernel_rfl)
theorem ty_fa23_1 : FieldAt Tryd.prog 23 1 1 := fieldAt_of 1 1 3 1 Tryd.underlying23 (by kernel_rfl) ty_sz3 (by kernel_rfl)
theorem ty_i24 : (Tryd.prog.info? 24).map (fun i => (i.zero, i.size, i.bytes)) = some (some (.agg #[.int .u8 0, .int .i64 0, .int .i64 0, .int .i64 0, .int .i64 0, .int .i64 0, .int .i64 0, .int .i64 0, .int .i64 0, .int .i64 0, .int .i64 0]), 11, 88) := by kernel_rfl
theorem ty_sz24 : Sz Tryd.prog 24 11 := fun w => by obtain ⟨i, h1, h2, h3, h4⟩ := info_parts ty_i24; simp [sizeOf, typeInfo, h1, h3]
theorem ty_zr24 : Zr Tryd.prog 24 [.int .u8 0, .int .i64 0, .int .i64 0, .int .i64 0, .int .i64 0, .int .i64 0, .int .i64 0, .int .i64 0, .int .i64 0, .int .i64 0, .int .i64 0] := ⟨.agg #[.int .u8 0, .int .i64 0, .int .i64 0, .int .i64 0, .int .i64 0, .int .i64 0, .int .i64 0, .int .i64 0, .int .i64 0, .int .i64 0, .int .i64 0], rfl, fun w => by obtain ⟨i, h1, h2, h3, h4⟩ := info_parts ty_i24; simp [zeroValue, typeInfo, h1, h2]⟩
theorem ty_ag24 : Ag Tryd.prog 24 11 := ⟨fun w => by simp [isAgg, run_underlying Tryd.underlying24], ty_sz24⟩
theorem ty_fa24_0 : FieldAt Tryd.prog 24 0 0 := fieldAt_of 0 0 5 1 Tryd.underlying24 (by kernel_rfl) ty_sz5 (by kernel_rfl)
theorem ty_fa24_1 : FieldAt Tryd.prog 24 1 1 := fieldAt_of 1 1 23 2 Tryd.underlying24 (by kernel_rfl) ty_sz23 (by kernel_rfl)
theorem ty_fa24_2 : FieldAt Tryd.prog 24 2 3 := fieldAt_of 2 3 23 2 Tryd.underlying24 (by kernel_rfl) ty_sz23 (by kernel_rfl)
theorem ty_fa24_3 : FieldAt Tryd.prog 24 3 5 := fieldAt_of 3 5 23 2 Tryd.underlying24 (by kernel_rfl) ty_sz23 (by kernel_rfl)
theorem ty_fa24_4 : FieldAt Tryd.prog 24 4 7 := fieldAt_of 4 7 23 2 Tryd.underlying24 (by kernel_rfl) ty_sz23 (by kernel_rfl)
theorem ty_fa24_5 : FieldAt Tryd.prog 24 5 9 := fieldAt_of 5 9 3 1 Tryd.underlying24 (by kernel_rfl) ty_sz3 (by kernel_rfl)
theorem ty_fa24_6 : FieldAt Tryd.prog 24 6 10 := fieldAt_of 6 10 3 1 Tryd.underlying24 (by kernel_rfl) ty_sz3 (by kernel_rfl)
theorem ty_i25 : (Tryd.prog.info? 25).map (fun i => (i.zero, i.size, i.bytes)) = some (some (.agg #[.int .u8 0, .int .i64 0, .int .i64 0, .int .i64 0, .int .i64 0, .int .i64 0, .int .i64 0, .int .i64 0, .int .i64 0, .int .i64 0, .int .i64 0]), 11, 88) := by kernel_rfl
theorem ty_sz25 : Sz Tryd.prog 25 11 := fun w => by obtain ⟨i, h1, h2, h3, h4⟩ := info_parts ty_i25; simp [sizeOf, typeInfo, h1, h3]
theorem ty_zr25 : Zr Tryd.prog 25 [.int .u8 0, .int .i64 0, .int .i64 0, .int .i64 0, .int .i64 0, .int .i64 0, .int .i64 0, .int .i64 0, .int .i64 0, .int .i64 0, .int .i64 0] := ⟨.agg #[.int .u8 0, .int .i64 0, .int .i64 0, .int .i64 0, .int .i64 0, .int .i64 0, .int .i64 0, .int .i64 0, .int .i64 0, .int .i64 0, .int .i64 0], rfl, fun w => by obtain ⟨i, h1, h2, h3, h4⟩ := info_parts ty_i25; simp [zeroValue, typeInfo, h1, h2]⟩
theorem ty_ag25 : Ag Tryd.prog 25 11 := ⟨fun w => by simp [isAgg, run_underlying Tryd.underlying25], ty_sz25⟩
theorem ty_fa25_0 : FieldAt Tryd.prog 25 0 0 := fieldAt_of 0 0 5 1 Tryd.underlying25 (by kernel_rfl) ty_sz5 (by kernel_rfl)
theorem ty_fa25_1 : FieldAt Tryd.prog 25 1 1 := fieldAt_of 1 1 23 2 Tryd.underlying25 (by kernel_rfl) ty_sz23 (by kernel_rfl)
theorem ty_fa25_2 : FieldAt Tryd.prog 25 2 3 := fieldAt_of 2 3 23 2 Tryd.underlying25 (by kernel_rfl) ty_sz23 (by kernel_rfl)
theorem ty_fa25_3 : FieldAt Tryd.prog 25 3 5 := fieldAt_of 3 5 23 2 Tryd.underlying25 (by kernel_rfl) ty_sz23 (by kernel_rfl)
theorem ty_fa25_4 : FieldAt Tryd.prog 25 4 7 := fieldAt_of 4 7 23 2 Tryd.underlying25 (by kernel_rfl) ty_sz23 (by kernel_rfl)
theorem ty_fa25_5 : FieldAt Tryd.prog 25 5 9 := fieldAt_of 5 9 3 1 Tryd.underlying25 (by kernel_rfl) ty_sz3 (by kernel_rfl)
theorem ty_fa25_6 : FieldAt Tryd.prog 25 6 10 := fieldAt_of 6 10 3 1 Tryd.underlying25 (by kernel_rfl) ty_sz3 (by kernel_rfl)
theorem ty_i26 : (Tryd.prog.info? 26).map (fun i => (i.zero, i.size, i.bytes)) = some (some (.slice none 0 0), 1, 24) := by kernel_rfl
theorem ty_sz26 : Sz Tryd.prog 26 1 := fun w => by obtain ⟨i, h1, h2, h3, h4⟩ := info_parts ty_i26; simp [sizeOf, typeInfo, h1, h3]
theorem ty_zr26 : Zr Tryd.prog 26 [.slice none 0 0] := ⟨.slice none 0 0, rfl, fun w => by obtain ⟨i, h1, h2, h3, h4⟩ := info_parts ty_i26; simp [zeroValue, typeInfo, h1, h2]⟩
theorem ty_sc26 : Sc Tryd.prog 26 := fun w => by simp [isAgg, run_underlying Tryd.underlying26]
theorem ty_i27 : (Tryd.prog.info? 27).map (fun i => (i.zero, i.size, i.bytes)) = some (some (.slice none 0 0), 1, 24) := by kernel_rfl
theorem ty_sz27 : Sz Tryd.prog 27 1 := fun w => by obtain ⟨i, h1, h2, h3, h4⟩ := info_parts ty_i27; simp [sizeOf, typeInfo, h1, h3]
theorem ty_zr27 : Zr Tryd.prog 27 [.slice none 0 0] := ⟨.slice none 0 0, rfl, fun w => by obtain ⟨i, h1, h2, h3, h4⟩ := info_parts ty_i27; simp [zeroValue, typeInfo, h1, h2]⟩
theorem ty_sc27 : Sc Tryd.prog 27 := fun w => by simp [isAgg, run_underlying Tryd.underlying27]
theorem ty_i28 : (Tryd.prog.info? 28).map (fun i => (i.zero, i.size, i.bytes)) = some (some (.slice none 0 0), 1, 24) := by kernel_rfl
theorem ty_sz28 : Sz Tryd.prog 28 1 := fun w => by obtain ⟨i, h1, h2, h3, h4⟩ := info_parts ty_i28; simp [sizeOf, typeInfo, h1, h3]
theorem ty_zr28 : Zr Tryd.prog 28 [.slice none 0 0] := ⟨.slice none 0 0, rfl, fun w => by obtain ⟨i, h1, h2, h3, h4⟩ := info_parts ty_i28; simp [zeroValue, typeInfo, h1, h2]⟩
theorem ty_sc28 : Sc Tryd.prog 28 := fun w => by simp [isAgg, run_underlying Tryd.underlying28]
theorem ty_i29 : (Tryd.prog.info? 29).map (fun i => (i.zero, i.size, i.bytes)) = some (some (.nilFunc), 1, 8) := by kernel_rfl
theorem ty_sz29 : Sz Tryd.prog 29 1 := fun w => by obtain ⟨i, h1, h2, h3, h4⟩ := info_parts ty_i29; simp [sizeOf, typeInfo, h1, h3]
theorem ty_zr29 : Zr Tryd.prog 29 [.nilFunc] := ⟨.nilFunc, rfl, fun w => by obtain ⟨i, h1, h2, h3, h4⟩ := info_parts ty_i29; simp [zeroValue, typeInfo, h1, h2]⟩
theorem ty_sc29 : Sc Tryd.prog 29 := fun w => by simp [isAgg, run_underlying Tryd.underlying29]
theorem ty_i30 : (Tryd.prog.info? 30).map (fun i => (i.zero, i.size, i.bytes)) = some (some (.nilFunc), 1, 8) := by kernel_rfl
theorem ty_sz30 : Sz Tryd.prog 30 1 := fun w => by obtain ⟨i, h1, h2, h3, h4⟩ := info_parts ty_i30; simp [sizeOf, typeInfo, h1, h3]
theorem ty_zr30 : Zr Tryd.prog 30 [.nilFunc] := ⟨.nilFunc, rfl, fun w => by obtain ⟨i, h1, h2, h3, h4⟩ := info_parts ty_i30; simp [zeroValue, typeInfo, h1, h2]⟩
theorem ty_sc30 : Sc Tryd.prog 30 := fun w => by simp [isAgg, run_underlying Tryd.underlying30]
theorem ty_i31 : (Tryd.prog.info? 31).map (fun i => (i.zero, i.size, i.bytes)) = some (some (.int .i64 0), 1, 8) := by kernel_rfl
theorem ty_sz31 : Sz Tryd.prog 31 1 := fun w => by obtain ⟨i, h1, h2, h3, h4⟩ := info_parts ty_i31; simp [sizeOf, typeInfo, h1, h3]
theorem ty_zr31 : Zr Tryd.prog 31 [.int .i64 0] := ⟨.int .i64 0, rfl, fun w => by obtain ⟨i, h1, h2, h3, h4⟩ := info_parts ty_i31; simp [zeroValue, typeInfo, h1, h2]⟩
theorem ty_sc31 : Sc Tryd.prog 31 := fun w => by simp [isAgg, run_underlying Tryd.underlying31]
theorem ty_i33 : (Tryd.prog.info? 33).map (fun i => (i.zero, i.size, i.bytes)) = some (some (.nilFunc), 1, 8) := by kernel_rfl
theorem ty_sz33 : Sz Tryd.prog 33 1 := fun w => by obtain ⟨i, h1, h2, h3, h4⟩ := info_parts ty_i33; simp [sizeOf, typeInfo, h1, h3]
theorem ty_zr33 : Zr Tryd.prog 33 [.nilFunc] := ⟨.nilFunc, rfl, fun w => by obtain ⟨i, h1, h2, h3, h4⟩ := info_parts ty_i33; simp [zeroValue, typeInfo, h1, h2]⟩
theorem ty_sc33 : Sc Tryd.prog 33 := fun w => by simp [isAgg, run_underlying Tryd.underlying33]
theorem ty_i35 : (Tryd.prog.info? 35).map (fun i => (i.zero, i.size, i.bytes)) = some (some (.nilFunc), 1, 8) := by kernel_rfl
theorem ty_sz35 : Sz Tryd.prog 35 1 := fun w => by obtain ⟨i, h1, h2, h3, h4⟩ := info_parts ty_i35; simp [sizeOf, typeInfo, h1, h3]
theorem ty_zr35 : Zr Tryd.prog 35 [.nilFunc] := ⟨.nilFunc, rfl, fun w => by obtain ⟨i, h1, h2, h3, h4⟩ := info_parts ty_i35; simp [zeroValue, typeInfo, h1, h2]⟩
theorem ty_sc35 : Sc Tryd.prog 35 := fun w => by simp [isAgg, run_underlying Tryd.underlying35]
theorem ty_i37 : (Tryd.prog.info? 37).map (fun i => (i.zero, i.size, i.bytes)) = some (some (.nilFunc), 1, 8) := by kernel_rfl
theorem ty_sz37 : Sz Tryd.prog 37 1 := fun w => by obtain ⟨i, h1, h2, h3, h4⟩ := info_parts ty_i37; simp [sizeOf, typeInfo, h1, h3]
theorem ty_zr37 : Zr Tryd.prog 37 [.nilFunc] := ⟨.nilFunc, rfl, fun w => by obtain ⟨i, h1, h2, h3, h4⟩ := info_parts ty_i37; simp [zeroValue, typeInfo, h1, h2]⟩
theorem ty_sc37 : Sc Tryd.prog 37 := fun w => by simp [isAgg, run_underlying Tryd.underlying37]
theorem ty_i39 : (Tryd.prog.info? 39).map (fun i => (i.zero, i.size, i.bytes)) = some (some (.nilFunc), 1, 8) := by kernel_rfl
theorem ty_sz39 : Sz Tryd.prog 39 1 := fun w => by obtain ⟨i, h1, h2, h3, h4⟩ := info_parts ty_i39; simp [sizeOf, typeInfo, h1, h3]
theorem ty_zr39 : Zr Tryd.prog 39 [.nilFunc] := ⟨.nilFunc, rfl, fun w => by obtain ⟨i, h1, h2, h3, h4⟩ := info_parts ty_i39; simp [zeroValue, typeInfo, h1, h2]⟩
theorem ty_sc39 : Sc Tryd.prog 39 := fun w => by simp [isAgg, run_underlying Tryd.underlying39]
theorem ty_i40 : (Tryd.prog.info? 40).map (fun i => (i.zero, i.size, i.bytes)) = some (some (.nilFunc), 1, 8) := by kernel_rfl
theorem ty_sz40 : Sz Tryd.prog 40 1 := fun w => by obtain ⟨i, h1, h2, h3, h4⟩ := info_parts ty_i40; simp [sizeOf, typeInfo, h1, h3]
theorem ty_zr40 : Zr Tryd.prog 40 [.nilFunc] := ⟨.nilFunc, rfl, fun w => by obtain ⟨i, h1, h2, h3, h4⟩ := info_parts ty_i40; simp [zeroValue, typeInfo, h1, h2]⟩
theorem ty_sc40 : Sc Tryd.prog 40 := fun w => by simp [isAgg, run_underlying Tryd.underlying40]
theorem ty_i41 : (Tryd.prog.info? 41).map (fun i => (i.zero, i.size, i.bytes)) = some (some (.nilFunc), 1, 8) := by kernel_rfl
theorem ty_sz41 : Sz Tryd.prog 41 1 := fun w => by obtain ⟨i, h1, h2, h3, h4⟩ := info_parts ty_i41; simp [sizeOf, typeInfo, h1, h3]
theorem ty_zr41 : Zr Tryd.prog 41 [.nilFunc] := ⟨.nilFunc, rfl, fun w => by obtain ⟨i, h1, h2, h3, h4⟩ := info_parts ty_i41; simp [zeroValue, typeInfo, h1, h2]⟩
theorem ty_sc41 : Sc Tryd.prog 41 := fun w => by simp [isAgg, run_underlying Tryd.underlying41]
theorem ty_i42 : (Tryd.prog.info? 42).map (fun i => (i.zero, i.size, i.bytes)) = some (some (.nilFunc), 1, 8) := by kernel_rfl
theorem ty_sz42 : Sz Tryd.prog 42 1 := fun w => by obtain ⟨i, h1, h2, h3, h4⟩ := info_parts ty_i42; simp [sizeOf, typeInfo, h1, h3]
theorem ty_zr42 : Zr Tryd.prog 42 [.nilFunc] := ⟨.nilFunc, rfl, fun w => by obtain ⟨i, h1, h2, h3, h4⟩ := info_parts ty_i42; simp [zeroValue, typeInfo, h1, h2]⟩
theorem ty_sc42 : Sc Tryd.prog 42 := fun w => by simp [isAgg, run_underlying Tryd.underlying42]
theorem ty_i43 : (Tryd.prog.info? 43).map (fun i => (i.zero, i.size, i.bytes)) = some (some (.agg #[.int .i64 0, .int .i64 0]), 2, 16) := by kernel_rfl
theorem ty_sz43 : Sz Tryd.prog 43 2 := fun w => by obtain ⟨i, h1, h2, h3, h4⟩ := info_parts ty_i43; simp [sizeOf, typeInfo, h1, h3]
theorem ty_zr43 : Zr Tryd.prog 43 [.int .i64 0, .int .i64 0] := ⟨.agg #[.int .i64 0, .int .i64 0], rfl, fun w => by obtain ⟨i, h1, h2, h3, h4⟩ := info_parts ty_i43; simp [zeroValue, typeInfo, h1, h2]⟩
theorem ty_ag43 : Ag Tryd.prog 43 2 := ⟨fun w => by simp [isAgg, run_underlying Tryd.underlying43], ty_sz43⟩
theorem ty_q2_43 : Eq2 Tryd.prog 43 := fun w x y i j m n => by
  by_cases h1 : i = m
  · by_cases h2 : j = n
    · subst h1 h2; go_simp
    · subst h1; go_simp
  · by_cases h2 : j = n
    · subst h2; go_simp
    · go_simp
theorem ty_fa43_0 : FieldAt Tryd.prog 43 0 0 := fieldAt_of 0 0 3 1 Tryd.underlying43 (by kernel_rfl) ty_sz3 (by kernel_rfl)
theorem ty_fa43_1 : FieldAt Tryd.prog 43 1 1 := fieldAt_of 1 1 3 1 Tryd.underlying43 (by kernel_rfl) ty_sz3 (by kernel_rfl)
theorem ty_i44 : (Tryd.prog.info? 44).map (fun i => (i.zero, i.size, i.bytes)) = some (some (.agg #[.int .i64 0, .int .i64 0]), 2, 16) := by kernel_rfl
theorem ty_sz44 : Sz Tryd.prog 44 2 := fun w => by obtain ⟨i, h1, h2, h3, h4⟩ := info_parts ty_i44; simp [sizeOf, typeInfo, h1, h3]
theorem ty_zr44 : Zr Tryd.prog 44 [.int .i64 0, .int .i64 0] := ⟨.agg #[.int .i64 0, .int .i64 0], rfl, fun w => by obtain ⟨i, h1, h2, h3, h4⟩ := info_parts ty_i44; simp [zeroValue, typeInfo, h1, h2]⟩
theorem ty_ag44 : Ag Tryd.prog 44 2 := ⟨fun w => by simp [isAgg, run_underlying Tryd.underlying44], ty_sz44⟩
theorem ty_q2_44 : Eq2 Tryd.prog 44 := fun w x y i j m n => by
  by_cases h1 : i = m
  · by_cases h2 : j = n
    · subst h1 h2; go_simp
    · subst h1; go_simp
  · by_cases h2 : j = n
    · subst h2; go_simp
    · go_simp
theorem ty_fa44_0 : FieldAt Tryd.prog 44 0 0 := fieldAt_of 0 0 3 1 Tryd.underlying44 (by kernel_rfl) ty_sz3 (by kernel_rfl)
theorem ty_fa44_1 : FieldAt Tryd.prog 44 1 1 := fieldAt_of 1 1 3 1 Tryd.underlying44 (by kernel_rfl) ty_sz3 (by kernel_rfl)
theorem ty_i45 : (Tryd.prog.info? 45).map (fun i => (i.zero, i.size, i.bytes)) = some (some (.nilFunc), 1, 8) := by kernel_rfl
theorem ty_sz45 : Sz Tryd.prog 45 1 := fun w => by obtain ⟨i, h1, h2, h3, h4⟩ := info_parts ty_i45; simp [sizeOf, typeInfo, h1, h3]
theorem ty_zr45 : Zr Tryd.prog 45 [.nilFunc] := ⟨.nilFunc, rfl, fun w => by obtain ⟨i, h1, h2, h3, h4⟩ := info_parts ty_i45; simp [zeroValue, typeInfo, h1, h2]⟩
theorem ty_sc45 : Sc Tryd.prog 45 := fun w => by simp [isAgg, run_underlying Tryd.underlying45]
theorem ty_i46 : (Tryd.prog.info? 46).map (fun i => (i.zero, i.size, i.bytes)) = some (some (.nilFunc), 1, 8) := by kernel_rfl
theorem ty_sz46 : Sz Tryd.prog 46 1 := fun w => by obtain ⟨i, h1, h2, h3, h4⟩ := info_parts ty_i46; simp [sizeOf, typeInfo, h1, h3]
theorem ty_zr46 : Zr Tryd.prog 46 [.nilFunc] := ⟨.nilFunc, rfl, fun w => by obtain ⟨i, h1, h2, h3, h4⟩ := info_parts ty_i46; simp [zeroValue, typeInfo, h1, h2]⟩
theorem ty_sc46 : Sc Tryd.prog 46 := fun w => by simp [isAgg, run_underlying Tryd.underlying46]
theorem ty_i47 : (Tryd.prog.info? 47).map (fun i => (i.zero, i.size, i.bytes)) = some (some (.slice none 0 0), 1, 24) := by kernel_rfl
theorem ty_sz47 : Sz Tryd.prog 47 1 := fun w => by obtain ⟨i, h1, h2, h3, h4⟩ := info_parts ty_i47; simp [sizeOf, typeInfo, h1, h3]
theorem ty_zr47 : Zr Tryd.prog 47 [.slice none 0 0] := ⟨.slice none 0 0, rfl, fun w => by obtain ⟨i, h1, h2, h3, h4⟩ := info_parts ty_i47; simp [zeroValue, typeInfo, h1, h2]⟩
theorem ty_sc47 : Sc Tryd.prog 47 := fun w => by simp [isAgg, run_underlying Tryd.underlying47]
theorem ty_i49 : (Tryd.prog.info? 49).map (fun i => (i.zero, i.size, i.bytes)) = some (some (.nilFunc), 1, 8) := by kernel_rfl
theorem ty_sz49 : Sz Tryd.prog 49 1 := fun w => by obtain ⟨i, h1, h2, h3, h4⟩ := info_parts ty_i49; simp [sizeOf, typeInfo, h1, h3]
theorem ty_zr49 : Zr Tryd.prog 49 [.nilFunc] := ⟨.nilFunc, rfl, fun w => by obtain ⟨i, h1, h2, h3, h4⟩ := info_parts ty_i49; simp [zeroValue, typeInfo, h1, h2]⟩
theorem ty_sc49 : Sc Tryd.prog 49 := fun w => by simp [isAgg, run_underlying Tryd.underlying49]
theorem ty_i51 : (Tryd.prog.info? 51).map (fun i => (i.zero, i.size, i.bytes)) = some (some (.nilFunc), 1, 8) := by kernel_rfl
theorem ty_sz51 : Sz Tryd.prog 51 1 := fun w => by obtain ⟨i, h1, h2, h3, h4⟩ := info_parts ty_i51; simp [sizeOf, typeInfo, h1, h3]
theorem ty_zr51 : Zr Tryd.prog 51 [.nilFunc] := ⟨.nilFunc, rfl, fun w => by obtain ⟨i, h1, h2, h3, h4⟩ := info_parts ty_i51; simp [zeroValue, typeInfo, h1, h2]⟩
theorem ty_sc51 : Sc Tryd.prog 51 := fun w => by simp [isAgg, run_underlying Tryd.underlying51]
theorem ty_i52 : (Tryd.prog.info? 52).map (fun i => (i.zero, i.size, i.bytes)) = some (some (.nilFunc), 1, 8) := by kernel_rfl
theorem ty_sz52 : Sz Tryd.prog 52 1 := fun w => by obtain ⟨i, h1, h2, h3, h4⟩ := info_parts ty_i52; simp [sizeOf, typeInfo, h1, h3]
theorem ty_zr52 : Zr Tryd.prog 52 [.nilFunc] := ⟨.nilFunc, rfl, fun w => by obtain ⟨i, h1, h2, h3, h4⟩ := info_parts ty_i52; simp [zeroValue, typeInfo, h1, h2]⟩
theorem ty_sc52 : Sc Tryd.prog 52 := fun w => by simp [isAgg, run_underlying Tryd.underlying52]
theorem ty_i53 : (Tryd.prog.info? 53).map (fun i => (i.zero, i.size, i.bytes)) = some (some (.nilFunc), 1, 8) := by kernel_rfl
theorem ty_sz53 : Sz Tryd.prog 53 1 := fun w => by obtain ⟨i, h1, h2, h3, h4⟩ := info_parts ty_i53; simp [sizeOf, typeInfo, h1, h3]
theorem ty_zr53 : Zr Tryd.prog 53 [.nilFunc] := ⟨.nilFunc, rfl, fun w => by obtain ⟨i, h1, h2, h3, h4⟩ := info_parts ty_i53; simp [zeroValue, typeInfo, h1, h2]⟩
theorem ty_sc53 : Sc Tryd.prog 53 := fun w => by simp [isAgg, run_underlying Tryd.underlying53]
theorem ty_i54 : (Tryd.prog.info? 54).map (fun i => (i.zero, i.size, i.bytes)) = some (some (.agg #[.int .i64 0, .int .i64 0, .int .i64 0, .int .i64 0, .int .i64 0, .int .i64 0, .int .i64 0, .int .i64 0, .int .i64 0, .int .i64 0, .int .i64 0, .int .i64 0, .int .i64 0, .int .i64 0, .int .i64 0, .int .i64 0, .int .i64 0]), 17, 136) := by kernel_rfl
theorem ty_sz54 : Sz Tryd.prog 54 17 := fun w => by obtain ⟨i, h1, h2, h3, h4⟩ := info_parts ty_i54; simp [sizeOf, typeInfo, h1, h3]
theorem ty_zr54 : Zr Tryd.prog 54 [.int .i64 0, .int .i64 0, .int .i64 0, .int .i64 0, .int .i64 0, .int .i64 0, .int .i64 0, .int .i64 0, .int .i64 0, .int .i64 0, .int .i64 0, .int .i64 0, .int .i64 0, .int .i64 0, .int .i64 0, .int .i64 0, .int .i64 0] := ⟨.agg #[.int .i64 0, .int .i64 0, .int .i64 0, .int .i64 0, .int .i64 0, .int .i64 0, .int .i64 0, .int .i64 0, .int .i64 0, .int .i64 0, .int .i64 0, .int .i64 0, .int .i64 0, .int .i64 0, .int .i64 0, .int .i64 0, .int .i64 0], rfl, fun w => by obtain ⟨i, h1, h2, h3, h4⟩ := info_parts ty_i54; simp [zeroValue, typeInfo, h1, h2]⟩
theorem ty_ag54 : Ag Tryd.prog 54 17 := ⟨fun w => by simp [isAgg, run_underlying Tryd.underlying54], ty_sz54⟩
theorem ty_fa54_0 : FieldAt Tryd.prog 54 0 0 := fieldAt_of 0 0 3 1 Tryd.underlying54 (by kernel_rfl) ty_sz3 (by kernel_rfl)
theorem ty_fa54_1 : FieldAt Tryd.prog 54 1 1 := fieldAt_of 1 1 3 1 Tryd.underlying54 (by kernel_rfl) ty_sz3 (by kernel_rfl)
theorem ty_fa54_2 : FieldAt Tryd.prog 54 2 2 := fieldAt_of 2 2 23 2 Tryd.underlying54 (by kernel_rfl) ty_sz23 (by kernel_rfl)
theorem ty_fa54_3 : FieldAt Tryd.prog 54 3 4 := fieldAt_of 3 4 23 2 Tryd.underlying54 (by kernel_rfl) ty_sz23 (by kernel_rfl)
theorem ty_fa54_4 : FieldAt Tryd.prog 54 4 6 := fieldAt_of 4 6 23 2 Tryd.underlying54 (by kernel_rfl) ty_sz23 (by kernel_rfl)
theorem ty_fa54_5 : FieldAt Tryd.prog 54 5 8 := fieldAt_of 5 8 23 2 Tryd.underlying54 (by kernel_rfl) ty_sz23 (by kernel_rfl)
theorem ty_fa54_6 : FieldAt Tryd.prog 54 6 10 := fieldAt_of 6 10 23 2 Tryd.underlying54 (by kernel_rfl) ty_sz23 (by kernel_rfl)
theorem ty_fa54_7 : FieldAt Tryd.prog 54 7 12 := fieldAt_of 7 12 23 2 Tryd.underlying54 (by kernel_rfl) ty_sz23 (by kernel_rfl)
theorem ty_fa54_8 : FieldAt Tryd.prog 54 8 14 := fieldAt_of 8 14 3 1 Tryd.underlying54 (by kernel_rfl) ty_sz3 (by kernel_rfl)
theorem ty_fa54_9 : FieldAt Tryd.prog 54 9 15 := fieldAt_of 9 15 23 2 Tryd.underlying54 (by kernel_rfl) ty_sz23 (by kernel_rfl)
theorem ty_i55 : (Tryd.prog.info? 55).map (fun i => (i.zero, i.size, i.bytes)) = some (some (.agg #[.int .i64 0, .int .i64 0, .int .i64 0, .int .i64 0, .int .i64 0, .int .i64 0, .int .i64 0, .int .i64 0, .int .i64 0, .int .i64 0, .int .i64 0, .int .i64 0, .int .i64 0, .int .i64 0, .int .i64 0, .int .i64 0, .int .i64 0]), 17, 136) := by kernel_rfl
theorem ty_sz55 : Sz Tryd.prog 55 17 := fun w => by obtain ⟨i, h1, h2, h3, h4⟩ := info_parts ty_i55; simp [sizeOf, typeInfo, h1, h3]
theorem ty_zr55 : Zr Tryd.prog 55 [.int .i64 0, .int .i64 0, .int .i64 0, .int .i64 0, .int .i64 0, .int .i64 0, .int .i64 0, .int .i64 0, .int .i64 0, .int .i64 0, .int .i64 0, .int .i64 0, .int .i64 0, .int .i64 0, .int .i64 0, .int .i64 0, .int .i64 0] := ⟨.agg #[.int .i64 0, .int .i64 0, .int .i64 0, .int .i64 0, .int .i64 0, .int .i64 0, .int .i64 0, .int .i64 0, .int .i64 0, .int .i64 0, .int .i64 0, .int .i64 0, .int .i64 0, .int .i64 0, .int .i64 0, .int .i64 0, .int .i64 0], rfl, fun w => by obtain ⟨i, h1, h2, h3, h4⟩ := info_parts ty_i55; simp [zeroValue, typeInfo, h1, h2]⟩
theorem ty_ag55 : Ag Tryd.prog 55 17 := ⟨fun w => by simp [isAgg, run_underlying Tryd.underlying55], ty_sz55⟩
theorem ty_fa55_0 : FieldAt Tryd.prog 55 0 0 := fieldAt_of 0 0 3 1 Tryd.underlying55 (by kernel_rfl) ty_sz3 (by kernel_rfl)
theorem ty_fa55_1 : FieldAt Tryd.prog 55 1 1 := fieldAt_of 1 1 3 1 Tryd.underlying55 (by kernel_rfl) ty_sz3 (by kernel_rfl)
theorem ty_fa55_2 : FieldAt Tryd.prog 55 2 2 := fieldAt_of 2 2 23 2 Tryd.underlying55 (by kernel_rfl) ty_sz23 (by kernel_rfl)
theorem ty_fa55_3 : FieldAt Tryd.prog 55 3 4 := fieldAt_of 3 4 23 2 Tryd.underlying55 (by kernel_rfl) ty_sz23 (by kernel_rfl)
theorem ty_fa55_4 : FieldAt Tryd.prog 55 4 6 := fieldAt_of 4 6 23 2 Tryd.underlying55 (by kernel_rfl) ty_sz23 (by kernel_rfl)
theorem ty_fa55_5 : FieldAt Tryd.prog 55 5 8 := fieldAt_of 5 8 23 2 Tryd.underlying55 (by kernel_rfl) ty_sz23 (by kernel_rfl)
theorem ty_fa55_6 : FieldAt Tryd.prog 55 6 10 := fieldAt_of 6 10 23 2 Tryd.underlying55 (by kernel_rfl) ty_sz23 (by kernel_rfl)
theorem ty_fa55_7 : FieldAt Tryd.prog 55 7 12 := fieldAt_of 7 12 23 2 Tryd.underlying55 (by kernel_rfl) ty_sz23 (by kernel_rfl)
theorem ty_fa55_8 : FieldAt Tryd.prog 55 8 14 := fieldAt_of 8 14 3 1 Tryd.underlying55 (by kernel_rfl) ty_sz3 (by kernel_rfl)
theorem ty_fa55_9 : FieldAt Tryd.prog 55 9 15 := fieldAt_of 9 15 23 2 Tryd.underlying55 (by kernel_rfl) ty_sz23 (by kernel_rfl)
theorem ty_i56 : (Tryd.prog.info? 56).map (fun i => (i.zero, i.size, i.bytes)) = some (some (.agg #[.int .i64 0, .int .i64 0, .int .i64 0, .int .i64 0, .int .i64 0, .int .i64 0, .bool false]), 7, 56) := by kernel_rfl
theorem ty_sz56 : Sz Tryd.prog 56 7 := fun w => by obtain ⟨i, h1, h2, h3, h4⟩ := info_parts ty_i56; simp [sizeOf, typeInfo, h1, h3]
theorem ty_zr56 : Zr Tryd.prog 56 [.int .i64 0, .int .i64 0, .int .i64 0, .int .i64 0, .int .i64 0, .int .i64 0, .bool false] := ⟨.agg #[.int .i64 0, .int .i64 0, .int .i64 0, .int .i64 0, .int .i64 0, .int .i64 0, .bool false], rfl, fun w => by obtain ⟨i, h1, h2, h3, h4⟩ := info_parts ty_i56; simp [zeroValue, typeInfo, h1, h2]⟩
theorem ty_ag56 : Ag Tryd.prog 56 7 := ⟨fun w => by simp [isAgg, run_underlying Tryd.underlying56], ty_sz56⟩
theorem ty_fa56_0 : FieldAt Tryd.prog 56 0 0 := fieldAt_of 0 0 23 2 Tryd.underlying56 (by kernel_rfl) ty_sz23 (by kernel_rfl)
theorem ty_fa56_1 : FieldAt Tryd.prog 56 1 2 := fieldAt_of 1 2 23 2 Tryd.underlying56 (by kernel_rfl) ty_sz23 (by kernel_rfl)
theorem ty_fa56_2 : FieldAt Tryd.prog 56 2 4 := fieldAt_of 2 4 23 2 Tryd.underlying56 (by kernel_rfl) ty_sz23 (by kernel_rfl)
theorem ty_fa56_3 : FieldAt Tryd.prog 56 3 6 := fieldAt_of 3 6 4 1 Tryd.underlying56 (by kernel_rfl) ty_sz4 (by kernel_rfl)
theorem ty_i57 : (Tryd.prog.info? 57).map (fun i => (i.zero, i.size, i.bytes)) = some (some (.agg #[.int .i64 0, .int .i64 0, .int .i64 0, .int .i64 0, .int .i64 0, .int .i64 0, .bool false]), 7, 56) := by kernel_rfl
theorem ty_sz57 : Sz Tryd.prog 57 7 := fun w => by obtain ⟨i, h1, h2, h3, h4⟩ := info_parts ty_i57; simp [sizeOf, typeInfo, h1, h3]
theorem ty_zr57 : Zr Tryd.prog 57 [.int .i64 0, .int .i64 0, .int .i64 0, .int .i64 0, .int .i64 0, .int .i64 0, .bool false] := ⟨.agg #[.int .i64 0, .int .i64 0, .int .i64 0, .int .i64 0, .int .i64 0, .int .i64 0, .bool false], rfl, fun w => by obtain ⟨i, h1, h2, h3, h4⟩ := info_parts ty_i57; simp [zeroValue, typeInfo, h1, h2]⟩
theorem ty_ag57 : Ag Tryd.prog 57 7 := ⟨fun w => by simp [isAgg, run_underlying Tryd.underlying57], ty_sz57⟩
theorem ty_fa57_0 : FieldAt Tryd.prog 57 0 0 := fieldAt_of 0 0 23 2 Tryd.underlying57 (by kernel_rfl) ty_sz23 (by kernel_rfl)
theorem ty_fa57_1 : FieldAt Tryd.prog 57 1 2 := fieldAt_of 1 2 23 2 Tryd.underlying57 (by kernel_rfl) ty_sz23 (by kernel_rfl)
theorem ty_fa57_2 : FieldAt Tryd.prog 57 2 4 := fieldAt_of 2 4 23 2 Tryd.underlying57 (by kernel_rfl) ty_sz23 (by kernel_rfl)
theorem ty_fa57_3 : FieldAt Tryd.prog 57 3 6 := fieldAt_of 3 6 4 1 Tryd.underlying57 (by kernel_rfl) ty_sz4 (by kernel_rfl)
theorem ty_i58 : (Tryd.prog.info? 58).map (fun i => (i.zero, i.size, i.bytes)) = some (some (.agg #[.slice none 0 0, .slice none 0 0, .slice none 0 0]), 3, 72) := by kernel_rfl
theorem ty_sz58 : Sz Tryd.prog 58 3 := fun w => by obtain ⟨i, h1, h2, h3, h4⟩ := info_parts ty_i58; simp [sizeOf, typeInfo, h1, h3]
theorem ty_zr58 : Zr Tryd.prog 58 [.slice none 0 0, .slice none 0 0, .slice none 0 0] := ⟨.agg #[.slice none 0 0, .slice none 0 0, .slice none 0 0], rfl, fun w => by obtain ⟨i, h1, h2, h3, h4⟩ := info_parts ty_i58; simp [zeroValue, typeInfo, h1, h2]⟩
theorem ty_ag58 : Ag Tryd.prog 58 3 := ⟨fun w => by simp [isAgg, run_underlying Tryd.underlying58], ty_sz58⟩
theorem ty_fa58_0 : FieldAt Tryd.prog 58 0 0 := fieldAt_of 0 0 47 1 Tryd.underlying58 (by kernel_rfl) ty_sz47 (by kernel_rfl)
theorem ty_fa58_1 : FieldAt Tryd.prog 58 1 1 := fieldAt_of 1 1 47 1 Tryd.underlying58 (by kernel_rfl) ty_sz47 (by kernel_rfl)
theorem ty_fa58_2 : FieldAt Tryd.prog 58 2 2 := fieldAt_of 2 2 47 1 Tryd.underlying58 (by kernel_rfl) ty_sz47 (by kernel_rfl)
theorem ty_i59 : (Tryd.prog.info? 59).map (fun i => (i.zero, i.size, i.bytes)) = some (some (.agg #[.slice none 0 0, .slice none 0 0, .slice none 0 0]), 3, 72) := by kernel_rfl
theorem ty_sz59 : Sz Tryd.prog 59 3 := fun w => by obtain ⟨i, h1, h2, h3, h4⟩ := info_parts ty_i59; simp [sizeOf, typeInfo, h1, h3]
theorem ty_zr59 : Zr Tryd.prog 59 [.slice none 0 0, .slice none 0 0, .slice none 0 0] := ⟨.agg #[.slice none 0 0, .slice none 0 0, .slice none 0 0], rfl, fun w => by obtain ⟨i, h1, h2, h3, h4⟩ := info_parts ty_i59; simp [zeroValue, typeInfo, h1, h2]⟩
theorem ty_ag59 : Ag Tryd.prog 59 3 := ⟨fun w => by simp [isAgg, run_underlying Tryd.underlying59], ty_sz59⟩
theorem ty_fa59_0 : FieldAt Tryd.prog 59 0 0 := fieldAt_of 0 0 47 1 Tryd.underlying59 (by kernel_rfl) ty_sz47 (by kernel_rfl)
theorem ty_fa59_1 : FieldAt Tryd.prog 59 1 1 := fieldAt_of 1 1 47 1 Tryd.underlying59 (by kernel_rfl) ty_sz47 (by kernel_rfl)
theorem ty_fa59_2 : FieldAt Tryd.prog 59 2 2 := fieldAt_of 2 2 47 1 Tryd.underlying59 (by kernel_rfl) ty_sz47 (by kernel_rfl)
theorem ty_i61 : (Tryd.prog.info? 61).map (fun i => (i.zero, i.size, i.bytes)) = some (some (.nilFunc), 1, 8) := by kernel_rfl
theorem ty_sz61 : Sz Tryd.prog 61 1 := fun w => by obtain ⟨i, h1, h2, h3, h4⟩ := info_parts ty_i61; simp [sizeOf, typeInfo, h1, h3]
theorem ty_zr61 : Zr Tryd.prog 61 [.nilFunc] := ⟨.nilFunc, rfl, fun w => by obtain ⟨i, h1, h2, h3, h4⟩ := info_parts ty_i61; simp [zeroValue, typeInfo, h1, h2]⟩
theorem ty_sc61 : Sc Tryd.prog 61 := fun w => by simp [isAgg, run_underlying Tryd.underlying61]
theorem ty_i63 : (Tryd.prog.info? 63).map (fun i => (i.zero, i.size, i.bytes)) = some (some (.nilFunc), 1, 8) := by kernel_rfl
theorem ty_sz63 : Sz Tryd.prog 63 1 := fun w => by obtain ⟨i, h1, h2, h3, h4⟩ := info_parts ty_i63; simp [sizeOf, typeInfo, h1, h3]
theorem ty_zr63 : Zr Tryd.prog 63 [.nilFunc] := ⟨.nilFunc, rfl, fun w => by obtain ⟨i, h1, h2, h3, h4⟩ := info_parts ty_i63; simp [zeroValue, typeInfo, h1, h2]⟩
theorem ty_sc63 : Sc Tryd.prog 63 := fun w => by simp [isAgg, run_underlying Tryd.underlying63]
theorem ty_i65 : (Tryd.prog.info? 65).map (fun i => (i.zero, i.size, i.bytes)) = some (some (.nilFunc), 1, 8) := by kernel_rfl
theorem ty_sz65 : Sz Tryd.prog 65 1 := fun w => by obtain ⟨i, h1, h2, h3, h4⟩ := info_parts ty_i65; simp [sizeOf, typeInfo, h1, h3]
theorem ty_zr65 : Zr Tryd.prog 65 [.nilFunc] := ⟨.nilFunc, rfl, fun w => by obtain ⟨i, h1, h2, h3, h4⟩ := info_parts ty_i65; simp [zeroValue, typeInfo, h1, h2]⟩
theorem ty_sc65 : Sc Tryd.prog 65 := fun w => by simp [isAgg, run_underlying Tryd.underlying65]
theorem ty_i67 : (Tryd.prog.info? 67).map (fun i => (i.zero, i.size, i.bytes)) = some (some (.nilFunc), 1, 8) := by kernel_rfl
theorem ty_sz67 : Sz Tryd.prog 67 1 := fun w => by obtain ⟨i, h1, h2, h3, h4⟩ := info_parts ty_i67; simp [sizeOf, typeInfo, h1, h3]
theorem ty_zr67 : Zr Tryd.prog 67 [.nilFunc] := ⟨.nilFunc, rfl, fun w => by obtain ⟨i, h1, h2, h3, h4⟩ := info_parts ty_i67; simp [zeroValue, typeInfo, h1, h2]⟩
theorem ty_sc67 : Sc Tryd.prog 67 := fun w => by simp [isAgg, run_underlying Tryd.underlying67]
theorem ty_i68 : (Tryd.prog.info? 68).map (fun i => (i.zero, i.size, i.bytes)) = some (some (.nilFunc), 1, 8) := by kernel_rfl
theorem ty_sz68 : Sz Tryd.prog 68 1 := fun w => by obtain ⟨i, h1, h2, h3, h4⟩ := info_parts ty_i68; simp [sizeOf, typeInfo, h1, h3]
theorem ty_zr68 : Zr Tryd.prog 68 [.nilFunc] := ⟨.nilFunc, rfl, fun w => by obtain ⟨i, h1, h2, h3, h4⟩ := info_parts ty_i68; simp [zeroValue, typeInfo, h1, h2]⟩
theorem ty_sc68 : Sc Tryd.prog 68 := fun w => by simp [isAgg, run_underlying Tryd.underlying68]
theorem ty_i69 : (Tryd.prog.info? 69).map (fun i => (i.zero, i.size, i.bytes)) = some (some (.nilFunc), 1, 8) := by kernel_rfl
theorem ty_sz69 : Sz Tryd.prog 69 1 := fun w => by obtain ⟨i, h1, h2, h3, h4⟩ := info_parts ty_i69; simp [sizeOf, typeInfo, h1, h3]
theorem ty_zr69 : Zr Tryd.prog 69 [.nilFunc] := ⟨.nilFunc, rfl, fun w => by obtain ⟨i, h1, h2, h3, h4⟩ := info_parts ty_i69; simp [zeroValue, typeInfo, h1, h2]⟩
theorem ty_sc69 : Sc Tryd.prog 69 := fun w => by simp [isAgg, run_underlying Tryd.underlying69]
theorem ty_i70 : (Tryd.prog.info? 70).map (fun i => (i.zero, i.size, i.bytes)) = some (some (.nilFunc), 1, 8) := by kernel_rfl
theorem ty_sz70 : Sz Tryd.prog 70 1 := fun w => by obtain ⟨i, h1, h2, h3, h4⟩ := info_parts ty_i70; simp [sizeOf, typeInfo, h1, h3]
theorem ty_zr70 : Zr Tryd.prog 70 [.nilFunc] := ⟨.nilFunc, rfl, fun w => by obtain ⟨i, h1, h2, h3, h4⟩ := info_parts ty_i70; simp [zeroValue, typeInfo, h1, h2]⟩
theorem ty_sc70 : Sc Tryd.prog 70 := fun w => by simp [isAgg, run_underlying Tryd.underlying70]
theorem ty_i71 : (Tryd.prog.info? 71).map (fun i => (i.zero, i.size, i.bytes)) = some (some (.nilFunc), 1, 8) := by kernel_rfl
theorem ty_sz71 : Sz Tryd.prog 71 1 := fun w => by obtain ⟨i, h1, h2, h3, h4⟩ := info_parts ty_i71; simp [sizeOf, typeInfo, h1, h3]
theorem ty_zr71 : Zr Tryd.prog 71 [.nilFunc] := ⟨.nilFunc, rfl, fun w => by obtain ⟨i, h1, h2, h3, h4⟩ := info_parts ty_i71; simp [zeroValue, typeInfo, h1, h2]⟩
theorem ty_sc71 : Sc Tryd.prog 71 := fun w => by simp [isAgg, run_underlying Tryd.underlying71]
theorem ty_i73 : (Tryd.prog.info? 73).map (fun i => (i.zero, i.size, i.bytes)) = some (some (.nilFunc), 1, 8) := by kernel_rfl
theorem ty_sz73 : Sz Tryd.prog 73 1 := fun w => by obtain ⟨i, h1, h2, h3, h4⟩ := info_parts ty_i73; simp [sizeOf, typeInfo, h1, h3]
theorem ty_zr73 : Zr Tryd.prog 73 [.nilFunc] := ⟨.nilFunc, rfl, fun w => by obtain ⟨i, h1, h2, h3, h4⟩ := info_parts ty_i73; simp [zeroValue, typeInfo, h1, h2]⟩
theorem ty_sc73 : Sc Tryd.prog 73 := fun w => by simp [isAgg, run_underlying Tryd.underlying73]
theorem ty_i74 : (Tryd.prog.info? 74).map (fun i => (i.zero, i.size, i.bytes)) = some (some (.agg #[.nilFunc, .nilFunc]), 2, 16) := by kernel_rfl
theorem ty_sz74 : Sz Tryd.prog 74 2 := fun w => by obtain ⟨i, h1, h2, h3, h4⟩ := info_parts ty_i74; simp [sizeOf, typeInfo, h1, h3]
theorem ty_zr74 : Zr Tryd.prog 74 [.nilFunc, .nilFunc] := ⟨.agg #[.nilFunc, .nilFunc], rfl, fun w => by obtain ⟨i, h1, h2, h3, h4⟩ := info_parts ty_i74; simp [zeroValue, typeInfo, h1, h2]⟩
theorem ty_ag74 : Ag Tryd.prog 74 2 := ⟨fun w => by simp [isAgg, run_underlying Tryd.underlying74], ty_sz74⟩
theorem ty_fa74_0 : FieldAt Tryd.prog 74 0 0 := fieldAt_of 0 0 71 1 Tryd.underlying74 (by kernel_rfl) ty_sz71 (by kernel_rfl)
theorem ty_fa74_1 : FieldAt Tryd.prog 74 1 1 := fieldAt_of 1 1 73 1 Tryd.underlying74 (by kernel_rfl) ty_sz73 (by kernel_rfl)
theorem ty_i75 : (Tryd.prog.info? 75).map (fun i => (i.zero, i.size, i.bytes)) = some (some (.agg #[.nilFunc, .nilFunc]), 2, 16) := by kernel_rfl
theorem ty_sz75 : Sz Tryd.prog 75 2 := fun w => by obtain ⟨i, h1, h2, h3, h4⟩ := info_parts ty_i75; simp [sizeOf, typeInfo, h1, h3]
theorem ty_zr75 : Zr Tryd.prog 75 [.nilFunc, .nilFunc] := ⟨.agg #[.nilFunc, .nilFunc], rfl, fun w => by obtain ⟨i, h1, h2, h3, h4⟩ := info_parts ty_i75; simp [zeroValue, typeInfo, h1, h2]⟩
theorem ty_ag75 : Ag Tryd.prog 75 2 := ⟨fun w => by simp [isAgg, run_underlying Tryd.underlying75], ty_sz75⟩
theorem ty_fa75_0 : FieldAt Tryd.prog 75 0 0 := fieldAt_of 0 0 71 1 Tryd.underlying75 (by kernel_rfl) ty_sz71 (by kernel_rfl)
theorem ty_fa75_1 : FieldAt Tryd.prog 75 1 1 := fieldAt_of 1 1 73 1 Tryd.underlying75 (by kernel_rfl) ty_sz73 (by kernel_rfl)
theorem ty_i76 : (Tryd.prog.info? 76).map (fun i => (i.zero, i.size, i.bytes)) = some (some (.map none), 1, 8) := by kernel_rfl
theorem ty_sz76 : Sz Tryd.prog 76 1 := fun w => by obtain ⟨i, h1, h2, h3, h4⟩ := info_parts ty_i76; simp [sizeOf, typeInfo, h1, h3]
theorem ty_zr76 : Zr Tryd.prog 76 [.map none] := ⟨.map none, rfl, fun w => by obtain ⟨i, h1, h2, h3, h4⟩ := info_parts ty_i76; simp [zeroValue, typeInfo, h1, h2]⟩
theorem ty_sc76 : Sc Tryd.prog 76 := fun w => by simp [isAgg, run_underlying Tryd.underlying76]
theorem ty_i77 : (Tryd.prog.info? 77).map (fun i => (i.zero, i.size, i.bytes)) = some (some (.nilFunc), 1, 8) := by kernel_rfl
theorem ty_sz77 : Sz Tryd.prog 77 1 := fun w => by obtain ⟨i, h1, h2, h3, h4⟩ := info_parts ty_i77; simp [sizeOf, typeInfo, h1, h3]
theorem ty_zr77 : Zr Tryd.prog 77 [.nilFunc] := ⟨.nilFunc, rfl, fun w => by obtain ⟨i, h1, h2, h3, h4⟩ := info_parts ty_i77; simp [zeroValue, typeInfo, h1, h2]⟩
theorem ty_sc77 : Sc Tryd.prog 77 := fun w => by simp [isAgg, run_underlying Tryd.underlying77]
theorem ty_i78 : (Tryd.prog.info? 78).map (fun i => (i.zero, i.size, i.bytes)) = some (some (.nilFunc), 1, 8) := by kernel_rfl
theorem ty_sz78 : Sz Tryd.prog 78 1 := fun w => by obtain ⟨i, h1, h2, h3, h4⟩ := info_parts ty_i78; simp [sizeOf, typeInfo, h1, h3]
theorem ty_zr78 : Zr Tryd.prog 78 [.nilFunc] := ⟨.nilFunc, rfl, fun w => by obtain ⟨i, h1, h2, h3, h4⟩ := info_parts ty_i78; simp [zeroValue, typeInfo, h1, h2]⟩
theorem ty_sc78 : Sc Tryd.prog 78 := fun w => by simp [isAgg, run_underlying Tryd.underlying78]
theorem ty_i79 : (Tryd.prog.info? 79).map (fun i => (i.zero, i.size, i.bytes)) = some (some (.nilFunc), 1, 8) := by kernel_rfl
theorem ty_sz79 : Sz Tryd.prog 79 1 := fun w => by obtain ⟨i, h1, h2, h3, h4⟩ := info_parts ty_i79; simp [sizeOf, typeInfo, h1, h3]
theorem ty_zr79 : Zr Tryd.prog 79 [.nilFunc] := ⟨.nilFunc, rfl, fun w => by obtain ⟨i, h1, h2, h3, h4⟩ := info_parts ty_i79; simp [zeroValue, typeInfo, h1, h2]⟩
theorem ty_sc79 : Sc Tryd.prog 79 := fun w => by simp [isAgg, run_underlying Tryd.underlying79]
theorem ty_i80 : (Tryd.prog.info? 80).map (fun i => (i.zero, i.size, i.bytes)) = some (some (.nilFunc), 1, 8) := by kernel_rfl
theorem ty_sz80 : Sz Tryd.prog 80 1 := fun w => by obtain ⟨i, h1, h2, h3, h4⟩ := info_parts ty_i80; simp [sizeOf, typeInfo, h1, h3]
theorem ty_zr80 : Zr Tryd.prog 80 [.nilFunc] := ⟨.nilFunc, rfl, fun w => by obtain ⟨i, h1, h2, h3, h4⟩ := info_parts ty_i80; simp [zeroValue, typeInfo, h1, h2]⟩
theorem ty_sc80 : Sc Tryd.prog 80 := fun w => by simp [isAgg, run_underlying Tryd.underlying80]
theorem ty_i81 : (Tryd.prog.info? 81).map (fun i => (i.zero, i.size, i.bytes)) = some (some (.nilFunc), 1, 8) := by kernel_rfl
theorem ty_sz81 : Sz Tryd.prog 81 1 := fun w => by obtain ⟨i, h1, h2, h3, h4⟩ := info_parts ty_i81; simp [sizeOf, typeInfo, h1, h3]
theorem ty_zr81 : Zr Tryd.prog 81 [.nilFunc] := ⟨.nilFunc, rfl, fun w => by obtain ⟨i, h1, h2, h3, h4⟩ := info_parts ty_i81; simp [zeroValue, typeInfo, h1, h2]⟩
theorem ty_sc81 : Sc Tryd.prog 81 := fun w => by simp [isAgg, run_underlying Tryd.underlying81]
theorem ty_i82 : (Tryd.prog.info? 82).map (fun i => (i.zero, i.size, i.bytes)) = some (some (.nilFunc), 1, 8) := by kernel_rfl
theorem ty_sz82 : Sz Tryd.prog 82 1 := fun w => by obtain ⟨i, h1, h2, h3, h4⟩ := info_parts ty_i82; simp [sizeOf, typeInfo, h1, h3]
theorem ty_zr82 : Zr Tryd.prog 82 [.nilFunc] := ⟨.nilFunc, rfl, fun w => by obtain ⟨i, h1, h2, h3, h4⟩ := info_parts ty_i82; simp [zeroValue, typeInfo, h1, h2]⟩
theorem ty_sc82 : Sc Tryd.prog 82 := fun w => by simp [isAgg, run_underlying Tryd.underlying82]
theorem ty_i83 : (Tryd.prog.info? 83).map (fun i => (i.zero, i.size, i.bytes)) = some (some (.nilFunc), 1, 8) := by kernel_rfl
theorem ty_sz83 : Sz Tryd.prog 83 1 := fun w => by obtain ⟨i, h1, h2, h3, h4⟩ := info_parts ty_i83; simp [sizeOf, typeInfo, h1, h3]
theorem ty_zr83 : Zr Tryd.prog 83 [.nilFunc] := ⟨.nilFunc, rfl, fun w => by obtain ⟨i, h1, h2, h3, h4⟩ := info_parts ty_i83; simp [zeroValue, typeInfo, h1, h2]⟩
theorem ty_sc83 : Sc Tryd.prog 83 := fun w => by simp [isAgg, run_underlying Tryd.underlying83]
theorem ty_i84 : (Tryd.prog.info? 84).map (fun i => (i.zero, i.size, i.bytes)) = some (some (.nilFunc), 1, 8) := by kernel_rfl
theorem ty_sz84 : Sz Tryd.prog 84 1 := fun w => by obtain ⟨i, h1, h2, h3, h4⟩ := info_parts ty_i84; simp [sizeOf, typeInfo, h1, h3]
theorem ty_zr84 : Zr Tryd.prog 84 [.nilFunc] := ⟨.nilFunc, rfl, fun w => by obtain ⟨i, h1, h2, h3, h4⟩ := info_parts ty_i84; simp [zeroValue, typeInfo, h1, h2]⟩
theorem ty_sc84 : Sc Tryd.prog 84 := fun w => by simp [isAgg, run_underlying Tryd.underlying84]
theorem ty_i85 : (Tryd.prog.info? 85).map (fun i => (i.zero, i.size, i.bytes)) = some (some (.agg #[.slice none 0 0, .slice none 0 0, .slice none 0 0]), 3, 72) := by kernel_rfl
theorem ty_sz85 : Sz Tryd.prog 85 3 := fun w => by obtain ⟨i, h1, h2, h3, h4⟩ := info_parts ty_i85; simp [sizeOf, typeInfo, h1, h3]
theorem ty_zr85 : Zr Tryd.prog 85 [.slice none 0 0, .slice none 0 0, .slice none 0 0] := ⟨.agg #[.slice none 0 0, .slice none 0 0, .slice none 0 0], rfl, fun w => by obtain ⟨i, h1, h2, h3, h4⟩ := info_parts ty_i85; simp [zeroValue, typeInfo, h1, h2]⟩
theorem ty_ag85 : Ag Tryd.prog 85 3 := ⟨fun w => by simp [isAgg, run_underlying Tryd.underlying85], ty_sz85⟩
theorem ty_i86 : (Tryd.prog.info? 86).map (fun i => (i.zero, i.size, i.bytes)) = some (some (.nilFunc), 1, 8) := by kernel_rfl
theorem ty_sz86 : Sz Tryd.prog 86 1 := fun w => by obtain ⟨i, h1, h2, h3, h4⟩ := info_parts ty_i86; simp [sizeOf, typeInfo, h1, h3]
theorem ty_zr86 : Zr Tryd.prog 86 [.nilFunc] := ⟨.nilFunc, rfl, fun w => by obtain ⟨i, h1, h2, h3, h4⟩ := info_parts ty_i86; simp [zeroValue, typeInfo, h1, h2]⟩
theorem ty_sc86 : Sc Tryd.prog 86 := fun w => by simp [isAgg, run_underlying Tryd.underlying86]
theorem ty_i87 : (Tryd.prog.info? 87).map (fun i => (i.zero, i.size, i.bytes)) = some (some (.nilFunc), 1, 8) := by kernel_rfl
theorem ty_sz87 : Sz Tryd.prog 87 1 := fun w => by obtain ⟨i, h1, h2, h3, h4⟩ := info_parts ty_i87; simp [sizeOf, typeInfo, h1, h3]
theorem ty_zr87 : Zr Tryd.prog 87 [.nilFunc] := ⟨.nilFunc, rfl, fun w => by obtain ⟨i, h1, h2, h3, h4⟩ := info_parts ty_i87; simp [zeroValue, typeInfo, h1, h2]⟩
theorem ty_sc87 : Sc Tryd.prog 87 := fun w => by simp [isAgg, run_underlying Tryd.underlying87]
theorem ty_i88 : (Tryd.prog.info? 88).map (fun i => (i.zero, i.size, i.bytes)) = some (some (.nilFunc), 1, 8) := by kernel_rfl
theorem ty_sz88 : Sz Tryd.prog 88 1 := fun w => by obtain ⟨i, h1, h2, h3, h4⟩ := info_parts ty_i88; simp [sizeOf, typeInfo, h1, h3]
theorem ty_zr88 : Zr Tryd.prog 88 [.nilFunc] := ⟨.nilFunc, rfl, fun w => by obtain ⟨i, h1, h2, h3, h4⟩ := info_parts ty_i88; simp [zeroValue, typeInfo, h1, h2]⟩
theorem ty_sc88 : Sc Tryd.prog 88 := fun w => by simp [isAgg, run_underlying Tryd.underlying88]
theorem ty_i89 : (Tryd.prog.info? 89).map (fun i => (i.zero, i.size, i.bytes)) = some (some (.nilFunc), 1, 8) := by kernel_rfl
theorem ty_sz89 : Sz Tryd.prog 89 1 := fun w => by obtain ⟨i, h1, h2, h3, h4⟩ := info_parts ty_i89; simp [sizeOf, typeInfo, h1, h3]
theorem ty_zr89 : Zr Tryd.prog 89 [.nilFunc] := ⟨.nilFunc, rfl, fun w => by obtain ⟨i, h1, h2, h3, h4⟩ := info_parts ty_i89; simp [zeroValue, typeInfo, h1, h2]⟩
theorem ty_sc89 : Sc Tryd.prog 89 := fun w => by simp [isAgg, run_underlying Tryd.underlying89]
theorem ty_i90 : (Tryd.prog.info? 90).map (fun i => (i.zero, i.size, i.bytes)) = some (some (.nilFunc), 1, 8) := by kernel_rfl
theorem ty_sz90 : Sz Tryd.prog 90 1 := fun w => by obtain ⟨i, h1, h2, h3, h4⟩ := info_parts ty_i90; simp [sizeOf, typeInfo, h1, h3]
theorem ty_zr90 : Zr Tryd.prog 90 [.nilFunc] := ⟨.nilFunc, rfl, fun w => by obtain ⟨i, h1, h2, h3, h4⟩ := info_parts ty_i90; simp [zeroValue, typeInfo, h1, h2]⟩
theorem ty_sc90 : Sc Tryd.prog 90 := fun w => by simp [isAgg, run_underlying Tryd.underlying90]
theorem ty_i91 : (Tryd.prog.info? 91).map (fun i => (i.zero, i.size, i.bytes)) = some (some (.nilFunc), 1, 8) := by kernel_rfl
theorem ty_sz91 : Sz Tryd.prog 91 1 := fun w => by obtain ⟨i, h1, h2, h3, h4⟩ := info_parts ty_i91; simp [sizeOf, typeInfo, h1, h3]
theorem ty_zr91 : Zr Tryd.prog 91 [.nilFunc] := ⟨.nilFunc, rfl, fun w => by obtain ⟨i, h1, h2, h3, h4⟩ := info_parts ty_i91; simp [zeroValue, typeInfo, h1, h2]⟩
theorem ty_sc91 : Sc Tryd.prog 91 := fun w => by simp [isAgg, run_underlying Tryd.underlying91]
theorem ty_i92 : (Tryd.prog.info? 92).map (fun i => (i.zero, i.size, i.bytes)) = some (some (.nilFunc), 1, 8) := by kernel_rfl
theorem ty_sz92 : Sz Tryd.prog 92 1 := fun w => by obtain ⟨i, h1, h2, h3, h4⟩ := info_parts ty_i92; simp [sizeOf, typeInfo, h1, h3]
theorem ty_zr92 : Zr Tryd.prog 92 [.nilFunc] := ⟨.nilFunc, rfl, fun w => by obtain ⟨i, h1, h2, h3, h4⟩ := info_parts ty_i92; simp [zeroValue, typeInfo, h1, h2]⟩
theorem ty_sc92 : Sc Tryd.prog 92 := fun w => by simp [isAgg, run_underlying Tryd.underlying92]
theorem ty_i93 : (Tryd.prog.info? 93).map (fun i => (i.zero, i.size, i.bytes)) = some (some (.slice none 0 0), 1, 24) := by kernel_rfl
theorem ty_sz93 : Sz Tryd.prog 93 1 := fun w => by obtain ⟨i, h1, h2, h3, h4⟩ := info_parts ty_i93; simp [sizeOf, typeInfo, h1, h3]
theorem ty_zr93 : Zr Tryd.prog 93 [.slice none 0 0] := ⟨.slice none 0 0, rfl, fun w => by obtain ⟨i, h1, h2, h3, h4⟩ := info_parts ty_i93; simp [zeroValue, typeInfo, h1, h2]⟩
theorem ty_sc93 : Sc Tryd.prog 93 := fun w => by simp [isAgg, run_underlying Tryd.underlying93]
theorem ty_i94 : (Tryd.prog.info? 94).map (fun i => (i.zero, i.size, i.bytes)) = some (some (.nilFunc), 1, 8) := by kernel_rfl
theorem ty_sz94 : Sz Tryd.prog 94 1 := fun w => by obtain ⟨i, h1, h2, h3, h4⟩ := info_parts ty_i94; simp [sizeOf, typeInfo, h1, h3]
theorem ty_zr94 : Zr Tryd.prog 94 [.nilFunc] := ⟨.nilFunc, rfl, fun w => by obtain ⟨i, h1, h2, h3, h4⟩ := info_parts ty_i94; simp [zeroValue, typeInfo, h1, h2]⟩
theorem ty_sc94 : Sc Tryd.prog 94 := fun w => by simp [isAgg, run_underlying Tryd.underlying94]
theorem ty_i95 : (Tryd.prog.info? 95).map (fun i => (i.zero, i.size, i.bytes)) = some (some (.slice none 0 0), 1, 24) := by kernel_rfl
theorem ty_sz95 : Sz Tryd.prog 95 1 := fun w => by obtain ⟨i, h1, h2, h3, h4⟩ := info_parts ty_i95; simp [sizeOf, typeInfo, h1, h3]
theorem ty_zr95 : Zr Tryd.prog 95 [.slice none 0 0] := ⟨.slice none 0 0, rfl, fun w => by obtain ⟨i, h1, h2, h3, h4⟩ := info_parts ty_i95; simp [zeroValue, typeInfo, h1, h2]⟩
theorem ty_sc95 : Sc Tryd.prog 95 := fun w => by simp [isAgg, run_underlying Tryd.underlying95]
theorem ty_i96 : (Tryd.prog.info? 96).map (fun i => (i.zero, i.size, i.bytes)) = some (some (.nilFunc), 1, 8) := by kernel_rfl
theorem ty_sz96 : Sz Tryd.prog 96 1 := fun w => by obtain ⟨i, h1, h2, h3, h4⟩ := info_parts ty_i96; simp [sizeOf, typeInfo, h1, h3]
theorem ty_zr96 : Zr Tryd.prog 96 [.nilFunc] := ⟨.nilFunc, rfl, fun w => by obtain ⟨i, h1, h2, h3, h4⟩ := info_parts ty_i96; simp [zeroValue, typeInfo, h1, h2]⟩
theorem ty_sc96 : Sc Tryd.prog 96 := fun w => by simp [isAgg, run_underlying Tryd.underlying96]
theorem ty_i97 : (Tryd.prog.info? 97).map (fun i => (i.zero, i.size, i.bytes)) = some (some (.agg #[.slice none 0 0, .slice none 0 0, .slice none 0 0, .slice none 0 0]), 4, 96) := by kernel_rfl
theorem ty_sz97 : Sz Tryd.prog 97 4 := fun w => by obtain ⟨i, h1, h2, h3, h4⟩ := info_parts ty_i97; simp [sizeOf, typeInfo, h1, h3]
theorem ty_zr97 : Zr Tryd.prog 97 [.slice none 0 0, .slice none 0 0, .slice none 0 0, .slice none 0 0] := ⟨.agg #[.slice none 0 0, .slice none 0 0, .slice none 0 0, .slice none 0 0], rfl, fun w => by obtain ⟨i, h1, h2, h3, h4⟩ := info_parts ty_i97; simp [zeroValue, typeInfo, h1, h2]⟩
theorem ty_ag97 : Ag Tryd.prog 97 4 := ⟨fun w => by simp [isAgg, run_underlying Tryd.underlying97], ty_sz97⟩
theorem ty_fa97_0 : FieldAt Tryd.prog 97 0 0 := fieldAt_of 0 0 59 3 Tryd.underlying97 (by kernel_rfl) ty_sz59 (by kernel_rfl)
theorem ty_fa97_1 : FieldAt Tryd.prog 97 1 3 := fieldAt_of 1 3 93 1 Tryd.underlying97 (by kernel_rfl) ty_sz93 (by kernel_rfl)
theorem ty_i98 : (Tryd.prog.info? 98).map (fun i => (i.zero, i.size, i.bytes)) = some (some (.agg #[.slice none 0 0, .slice none 0 0, .slice none 0 0, .slice none 0 0]), 4, 96) := by kernel_rfl
theorem ty_sz98 : Sz Tryd.prog 98 4 := fun w => by obtain ⟨i, h1, h2, h3, h4⟩ := info_parts ty_i98; simp [sizeOf, typeInfo, h1, h3]
theorem ty_zr98 : Zr Tryd.prog 98 [.slice none 0 0, .slice none 0 0, .slice none 0 0, .slice none 0 0] := ⟨.agg #[.slice none 0 0, .slice none 0 0, .slice none 0 0, .slice none 0 0], rfl, fun w => by obtain ⟨i, h1, h2, h3, h4⟩ := info_parts ty_i98; simp [zeroValue, typeInfo, h1, h2]⟩
theorem ty_ag98 : Ag Tryd.prog 98 4 := ⟨fun w => by simp [isAgg, run_underlying Tryd.underlying98], ty_sz98⟩
theorem ty_fa98_0 : FieldAt Tryd.prog 98 0 0 := fieldAt_of 0 0 59 3 Tryd.underlying98 (by kernel_rfl) ty_sz59 (by kernel_rfl)
theorem ty_fa98_1 : FieldAt Tryd.prog 98 1 3 := fieldAt_of 1 3 93 1 Tryd.underlying98 (by kernel_rfl) ty_sz93 (by kernel_rfl)
theorem ty_i99 : (Tryd.prog.info? 99).map (fun i => (i.zero, i.size, i.bytes)) = some (some (.nilFunc), 1, 8) := by kernel_rfl
theorem ty_sz99 : Sz Tryd.prog 99 1 := fun w => by obtain ⟨i, h1, h2, h3, h4⟩ := info_parts ty_i99; simp [sizeOf, typeInfo, h1, h3]
theorem ty_zr99 : Zr Tryd.prog 99 [.nilFunc] := ⟨.nilFunc, rfl, fun w => by obtain ⟨i, h1, h2, h3, h4⟩ := info_parts ty_i99; simp [zeroValue, typeInfo, h1, h2]⟩
theorem ty_sc99 : Sc Tryd.prog 99 := fun w => by simp [isAgg, run_underlying Tryd.underlying99]
theorem ty_i100 : (Tryd.prog.info? 100).map (fun i => (i.zero, i.size, i.bytes)) = some (some (.nilFunc), 1, 8) := by kernel_rfl
theorem ty_sz100 : Sz Tryd.prog 100 1 := fun w => by obtain ⟨i, h1, h2, h3, h4⟩ := info_parts ty_i100; simp [sizeOf, typeInfo, h1, h3]
theorem ty_zr100 : Zr Tryd.prog 100 [.nilFunc] := ⟨.nilFunc, rfl, fun w => by obtain ⟨i, h1, h2, h3, h4⟩ := info_parts ty_i100; simp [zeroValue, typeInfo, h1, h2]⟩
theorem ty_sc100 : Sc Tryd.prog 100 := fun w => by simp [isAgg, run_underlying Tryd.underlying100]
theorem ty_i101 : (Tryd.prog.info? 101).map (fun i => (i.zero, i.size, i.bytes)) = some (some (.nilFunc), 1, 8) := by kernel_rfl
theorem ty_sz101 : Sz Tryd.prog 101 1 := fun w => by obtain ⟨i, h1, h2, h3, h4⟩ := info_parts ty_i101; simp [sizeOf, typeInfo, h1, h3]
theorem ty_zr101 : Zr Tryd.prog 101 [.nilFunc] := ⟨.nilFunc, rfl, fun w => by obtain ⟨i, h1, h2, h3, h4⟩ := info_parts ty_i101; simp [zeroValue, typeInfo, h1, h2]⟩
theorem ty_sc101 : Sc Tryd.prog 101 := fun w => by simp [isAgg, run_underlying Tryd.underlying101]
theorem ty_i103 : (Tryd.prog.info? 103).map (fun i => (i.zero, i.size, i.bytes)) = some (some (.nilFunc), 1, 8) := by kernel_rfl
theorem ty_sz103 : Sz Tryd.prog 103 1 := fun w => by obtain ⟨i, h1, h2, h3, h4⟩ := info_parts ty_i103; simp [sizeOf, typeInfo, h1, h3]
theorem ty_zr103 : Zr Tryd.prog 103 [.nilFunc] := ⟨.nilFunc, rfl, fun w => by obtain ⟨i, h1, h2, h3, h4⟩ := info_parts ty_i103; simp [zeroValue, typeInfo, h1, h2]⟩
theorem ty_sc103 : Sc Tryd.prog 103 := fun w => by simp [isAgg, run_underlying Tryd.underlying103]
theorem ty_i104 : (Tryd.prog.info? 104).map (fun i => (i.zero, i.size, i.bytes)) = some (some (.nilFunc), 1, 8) := by kernel_rfl
theorem ty_sz104 : Sz Tryd.prog 104 1 := fun w => by obtain ⟨i, h1, h2, h3, h4⟩ := info_parts ty_i104; simp [sizeOf, typeInfo, h1, h3]
theorem ty_zr104 : Zr Tryd.prog 104 [.nilFunc] := ⟨.nilFunc, rfl, fun w => by obtain ⟨i, h1, h2, h3, h4⟩ := info_parts ty_i104; simp [zeroValue, typeInfo, h1, h2]⟩
theorem ty_sc104 : Sc Tryd.prog 104 := fun w => by simp [isAgg, run_underlying Tryd.underlying104]
theorem ty_i105 : (Tryd.prog.info? 105).map (fun i => (i.zero, i.size, i.bytes)) = some (some (.nilFunc), 1, 8) := by kernel_rfl
theorem ty_sz105 : Sz Tryd.prog 105 1 := fun w => by obtain ⟨i, h1, h2, h3, h4⟩ := info_parts ty_i105; simp [sizeOf, typeInfo, h1, h3]
theorem ty_zr105 : Zr Tryd.prog 105 [.nilFunc] := ⟨.nilFunc, rfl, fun w => by obtain ⟨i, h1, h2, h3, h4⟩ := info_parts ty_i105; simp [zeroValue, typeInfo, h1, h2]⟩
theorem ty_sc105 : Sc Tryd.prog 105 := fun w => by simp [isAgg, run_underlying Tryd.underlying105]
theorem ty_i106 : (Tryd.prog.info? 106).map (fun i => (i.zero, i.size, i.bytes)) = some (some (.nilFunc), 1, 8) := by kernel_rfl
theorem ty_sz106 : Sz Tryd.prog 106 1 := fun w => by obtain ⟨i, h1, h2, h3, h4⟩ := info_parts ty_i106; simp [sizeOf, typeInfo, h1, h3]
theorem ty_zr106 : Zr Tryd.prog 106 [.nilFunc] := ⟨.nilFunc, rfl, fun w => by obtain ⟨i, h1, h2, h3, h4⟩ := info_parts ty_i106; simp [zeroValue, typeInfo, h1, h2]⟩
theorem ty_sc106 : Sc Tryd.prog 106 := fun w => by simp [isAgg, run_underlying Tryd.underlying106]
theorem ty_i108 : (Tryd.prog.info? 108).map (fun i => (i.zero, i.size, i.bytes)) = some (some (.nilFunc), 1, 8) := by kernel_rfl
theorem ty_sz108 : Sz Tryd.prog 108 1 := fun w => by obtain ⟨i, h1, h2, h3, h4⟩ := info_parts ty_i108; simp [sizeOf, typeInfo, h1, h3]
theorem ty_zr108 : Zr Tryd.prog 108 [.nilFunc] := ⟨.nilFunc, rfl, fun w => by obtain ⟨i, h1, h2, h3, h4⟩ := info_parts ty_i108; simp [zeroValue, typeInfo, h1, h2]⟩
theorem ty_sc108 : Sc Tryd.prog 108 := fun w => by simp [isAgg, run_underlying Tryd.underlying108]
theorem ty_i110 : (Tryd.prog.info? 110).map (fun i => (i.zero, i.size, i.bytes)) = some (some (.nilFunc), 1, 8) := by kernel_rfl
theorem ty_sz110 : Sz Tryd.prog 110 1 := fun w => by obtain ⟨i, h1, h2, h3, h4⟩ := info_parts ty_i110; simp [sizeOf, typeInfo, h1, h3]
theorem ty_zr110 : Zr Tryd.prog 110 [.nilFunc] := ⟨.nilFunc, rfl, fun w => by obtain ⟨i, h1, h2, h3, h4⟩ := info_parts ty_i110; simp [zeroValue, typeInfo, h1, h2]⟩
theorem ty_sc110 : Sc Tryd.prog 110 := fun w => by simp [isAgg, run_underlying Tryd.underlying110]
theorem ty_i112 : (Tryd.prog.info? 112).map (fun i => (i.zero, i.size, i.bytes)) = some (some (.nilFunc), 1, 8) := by kernel_rfl
theorem ty_sz112 : Sz Tryd.prog 112 1 := fun w => by obtain ⟨i, h1, h2, h3, h4⟩ := info_parts ty_i112; simp [sizeOf, typeInfo, h1, h3]
theorem ty_zr112 : Zr Tryd.prog 112 [.nilFunc] := ⟨.nilFunc, rfl, fun w => by obtain ⟨i, h1, h2, h3, h4⟩ := info_parts ty_i112; simp [zeroValue, typeInfo, h1, h2]⟩
theorem ty_sc112 : Sc Tryd.prog 112 := fun w => by simp [isAgg, run_underlying Tryd.underlying112]
theorem ty_i113 : (Tryd.prog.info? 113).map (fun i => (i.zero, i.size, i.bytes)) = some (some (.nilFunc), 1, 8) := by kernel_rfl
theorem ty_sz113 : Sz Tryd.prog 113 1 := fun w => by obtain ⟨i, h1, h2, h3, h4⟩ := info_parts ty_i113; simp [sizeOf, typeInfo, h1, h3]
theorem ty_zr113 : Zr Tryd.prog 113 [.nilFunc] := ⟨.nilFunc, rfl, fun w => by obtain ⟨i, h1, h2, h3, h4⟩ := info_parts ty_i113; simp [zeroValue, typeInfo, h1, h2]⟩
theorem ty_sc113 : Sc Tryd.prog 113 := fun w => by simp [isAgg, run_underlying Tryd.underlying113]
theorem ty_i115 : (Tryd.prog.info? 115).map (fun i => (i.zero, i.size, i.bytes)) = some (some (.map none), 1, 8) := by kernel_rfl
theorem ty_sz115 : Sz Tryd.prog 115 1 := fun w => by obtain ⟨i, h1, h2, h3, h4⟩ := info_parts ty_i115; simp [sizeOf, typeInfo, h1, h3]
theorem ty_zr115 : Zr Tryd.prog 115 [.map none] := ⟨.map none, rfl, fun w => by obtain ⟨i, h1, h2, h3, h4⟩ := info_parts ty_i115; simp [zeroValue, typeInfo, h1, h2]⟩
theorem ty_sc115 : Sc Tryd.prog 115 := fun w => by simp [isAgg, run_underlying Tryd.underlying115]
theorem ty_i116 : (Tryd.prog.info? 116).map (fun i => (i.zero, i.size, i.bytes)) = some (some (.nilFunc), 1, 8) := by kernel_rfl
theorem ty_sz116 : Sz Tryd.prog 116 1 := fun w => by obtain ⟨i, h1, h2, h3, h4⟩ := info_parts ty_i116; simp [sizeOf, typeInfo, h1, h3]
theorem ty_zr116 : Zr Tryd.prog 116 [.nilFunc] := ⟨.nilFunc, rfl, fun w => by obtain ⟨i, h1, h2, h3, h4⟩ := info_parts ty_i116; simp [zeroValue, typeInfo, h1, h2]⟩
theorem ty_sc116 : Sc Tryd.prog 116 := fun w => by simp [isAgg, run_underlying Tryd.underlying116]
theorem ty_i117 : (Tryd.prog.info? 117).map (fun i => (i.zero, i.size, i.bytes)) = some (some (.nilFunc), 1, 8) := by kernel_rfl
theorem ty_sz117 : Sz Tryd.prog 117 1 := fun w => by obtain ⟨i, h1, h2, h3, h4⟩ := info_parts ty_i117; simp [sizeOf, typeInfo, h1, h3]
theorem ty_zr117 : Zr Tryd.prog 117 [.nilFunc] := ⟨.nilFunc, rfl, fun w => by obtain ⟨i, h1, h2, h3, h4⟩ := info_parts ty_i117; simp [zeroValue, typeInfo, h1, h2]⟩
theorem ty_sc117 : Sc Tryd.prog 117 := fun w => by simp [isAgg, run_underlying Tryd.underlying117]
theorem ty_i118 : (Tryd.prog.info? 118).map (fun i => (i.zero, i.size, i.bytes)) = some (some (.nilFunc), 1, 8) := by kernel_rfl
theorem ty_sz118 : Sz Tryd.prog 118 1 := fun w => by obtain ⟨i, h1, h2, h3, h4⟩ := info_parts ty_i118; simp [sizeOf, typeInfo, h1, h3]
theorem ty_zr118 : Zr Tryd.prog 118 [.nilFunc] := ⟨.nilFunc, rfl, fun w => by obtain ⟨i, h1, h2, h3, h4⟩ := info_parts ty_i118; simp [zeroValue, typeInfo, h1, h2]⟩
theorem ty_sc118 : Sc Tryd.prog 118 := fun w => by simp [isAgg, run_underlying Tryd.underlying118]
theorem ty_i119 : (Tryd.prog.info? 119).map (fun i => (i.zero, i.size, i.bytes)) = some (some (.slice none 0 0), 1, 24) := by kernel_rfl
theorem ty_sz119 : Sz Tryd.prog 119 1 := fun w => by obtain ⟨i, h1, h2, h3, h4⟩ := info_parts ty_i119; simp [sizeOf, typeInfo, h1, h3]
theorem ty_zr119 : Zr Tryd.prog 119 [.slice none 0 0] := ⟨.slice none 0 0, rfl, fun w => by obtain ⟨i, h1, h2, h3, h4⟩ := info_parts ty_i119; simp [zeroValue, typeInfo, h1, h2]⟩
theorem ty_sc119 : Sc Tryd.prog 119 := fun w => by simp [isAgg, run_underlying Tryd.underlying119]
theorem ty_i120 : (Tryd.prog.info? 120).map (fun i => (i.zero, i.size, i.bytes)) = some (some (.nilFunc), 1, 8) := by kernel_rfl
theorem ty_sz120 : Sz Tryd.prog 120 1 := fun w => by obtain ⟨i, h1, h2, h3, h4⟩ := info_parts ty_i120; simp [sizeOf, typeInfo, h1, h3]
theorem ty_zr120 : Zr Tryd.prog 120 [.nilFunc] := ⟨.nilFunc, rfl, fun w => by obtain ⟨i, h1, h2, h3, h4⟩ := info_parts ty_i120; simp [zeroValue, typeInfo, h1, h2]⟩
theorem ty_sc120 : Sc Tryd.prog 120 := fun w => by simp [isAgg, run_underlying Tryd.underlying120]
theorem ty_i121 : (Tryd.prog.info? 121).map (fun i => (i.zero, i.size, i.bytes)) = some (some (.nilFunc), 1, 8) := by kernel_rfl
theorem ty_sz121 : Sz Tryd.prog 121 1 := fun w => by obtain ⟨i, h1, h2, h3, h4⟩ := info_parts ty_i121; simp [sizeOf, typeInfo, h1, h3]
theorem ty_zr121 : Zr Tryd.prog 121 [.nilFunc] := ⟨.nilFunc, rfl, fun w => by obtain ⟨i, h1, h2, h3, h4⟩ := info_parts ty_i121; simp [zeroValue, typeInfo, h1, h2]⟩
theorem ty_sc121 : Sc Tryd.prog 121 := fun w => by simp [isAgg, run_underlying Tryd.underlying121]
theorem ty_i122 : (Tryd.prog.info? 122).map (fun i => (i.zero, i.size, i.bytes)) = some (some (.nilFunc), 1, 8) := by kernel_rfl
theorem ty_sz122 : Sz Tryd.prog 122 1 := fun w => by obtain ⟨i, h1, h2, h3, h4⟩ := info_parts ty_i122; simp [sizeOf, typeInfo, h1, h3]
theorem ty_zr122 : Zr Tryd.prog 122 [.nilFunc] := ⟨.nilFunc, rfl, fun w => by obtain ⟨i, h1, h2, h3, h4⟩ := info_parts ty_i122; simp [zeroValue, typeInfo, h1, h2]⟩
theorem ty_sc122 : Sc Tryd.prog 122 := fun w => by simp [isAgg, run_underlying Tryd.underlying122]
theorem ty_i123 : (Tryd.prog.info? 123).map (fun i => (i.zero, i.size, i.bytes)) = some (some (.agg #[.int .i64 0, .int .i64 0, .int .i64 0, .int .i64 0, .int .i64 0, .int .i64 0, .int .i64 0, .int .i64 0, .int .i64 0, .int .i64 0, .int .i64 0, .int .i64 0, .int .i64 0, .int .i64 0, .int .i64 0, .int .i64 0, .int .i64 0, .int .i64 0, .int .i64 0, .int .i64 0, .int .i64 0, .int .i64 0, .int .i64 0, .bool false]), 24, 192) := by kernel_rfl
theorem ty_sz123 : Sz Tryd.prog 123 24 := fun w => by obtain ⟨i, h1, h2, h3, h4⟩ := info_parts ty_i123; simp [sizeOf, typeInfo, h1, h3]
theorem ty_zr123 : Zr Tryd.prog 123 [.int .i64 0, .int .i64 0, .int .i64 0, .int .i64 0, .int .i64 0, .int .i64 0, .int .i64 0, .int .i64 0, .int .i64 0, .int .i64 0, .int .i64 0, .int .i64 0, .int .i64 0, .int .i64 0, .int .i64 0, .int .i64 0, .int .i64 0, .int .i64 0, .int .i64 0, .int .i64 0, .int .i64 0, .int .i64 0, .int .i64 0, .bool false] := ⟨.agg #[.int .i64 0, .int .i64 0, .int .i64 0, .int .i64 0, .int .i64 0, .int .i64 0, .int .i64 0, .int .i64 0, .int .i64 0, .int .i64 0, .int .i64 0, .int .i64 0, .int .i64 0, .int .i64 0, .int .i64 0, .int .i64 0, .int .i64 0, .int .i64 0, .int .i64 0, .int .i64 0, .int .i64 0, .int .i64 0, .int .i64 0, .bool false], rfl, fun w => by obtain ⟨i, h1, h2, h3, h4⟩ := info_parts ty_i123; simp [zeroValue, typeInfo, h1, h2]⟩
theorem ty_ag123 : Ag Tryd.prog 123 24 := ⟨fun w => by simp [isAgg, run_underlying Tryd.underlying123], ty_sz123⟩
theorem ty_fa123_0 : FieldAt Tryd.prog 123 0 0 := fieldAt_of 0 0 55 17 Tryd.underlying123 (by kernel_rfl) ty_sz55 (by kernel_rfl)
theorem ty_fa123_1 : FieldAt Tryd.prog 123 1 17 := fieldAt_of 1 17 57 7 Tryd.underlying123 (by kernel_rfl) ty_sz57 (by kernel_rfl)
theorem ty_i124 : (Tryd.prog.info? 124).map (fun i => (i.zero, i.size, i.bytes)) = some (some (.agg #[.int .i64 0, .int .i64 0, .int .i64 0, .int .i64 0, .int .i64 0, .int .i64 0, .int .i64 0, .int .i64 0, .int .i64 0, .int .i64 0, .int .i64 0, .int .i64 0, .int .i64 0, .int .i64 0, .int .i64 0, .int .i64 0, .int .i64 0, .int .i64 0, .int .i64 0, .int .i64 0, .int .i64 0, .int .i64 0, .int .i64 0, .bool false]), 24, 192) := by kernel_rfl
theorem ty_sz124 : Sz Tryd.prog 124 24 := fun w => by obtain ⟨i, h1, h2, h3, h4⟩ := info_parts ty_i124; simp [sizeOf, typeInfo, h1, h3]
theorem ty_zr124 : Zr Tryd.prog 124 [.int .i64 0, .int .i64 0, .int .i64 0, .int .i64 0, .int .i64 0, .int .i64 0, .int .i64 0, .int .i64 0, .int .i64 0, .int .i64 0, .int .i64 0, .int .i64 0, .int .i64 0, .int .i64 0, .int .i64 0, .int .i64 0, .int .i64 0, .int .i64 0, .int .i64 0, .int .i64 0, .int .i64 0, .int .i64 0, .int .i64 0, .bool false] := ⟨.agg #[.int .i64 0, .int .i64 0, .int .i64 0, .int .i64 0, .int .i64 0, .int .i64 0, .int .i64 0, .int .i64 0, .int .i64 0, .int .i64 0, .int .i64 0, .int .i64 0, .int .i64 0, .int .i64 0, .int .i64 0, .int .i64 0, .int .i64 0, .int .i64 0, .int .i64 0, .int .i64 0, .int .i64 0, .int .i64 0, .int .i64 0, .bool false], rfl, fun w => by obtain ⟨i, h1, h2, h3, h4⟩ := info_parts ty_i124; simp [zeroValue, typeInfo, h1, h2]⟩
theorem ty_ag124 : Ag Tryd.prog 124 24 := ⟨fun w => by simp [isAgg, run_underlying Tryd.underlying124], ty_sz124⟩
theorem ty_fa124_0 : FieldAt Tryd.prog 124 0 0 := fieldAt_of 0 0 55 17 Tryd.underlying124 (by kernel_rfl) ty_sz55 (by kernel_rfl)
theorem ty_fa124_1 : FieldAt Tryd.prog 124 1 17 := fieldAt_of 1 17 57 7 Tryd.underlying124 (by kernel_rfl) ty_sz57 (by kernel_rfl)
theorem ty_i125 : (Tryd.prog.info? 125).map (fun i => (i.zero, i.size, i.bytes)) = some (some (.nilFunc), 1, 8) := by kernel_rfl
theorem ty_sz125 : Sz Tryd.prog 125 1 := fun w => by obtain ⟨i, h1, h2, h3, h4⟩ := info_parts ty_i125; simp [sizeOf, typeInfo, h1, h3]
theorem ty_zr125 : Zr Tryd.prog 125 [.nilFunc] := ⟨.nilFunc, rfl, fun w => by obtain ⟨i, h1, h2, h3, h4⟩ := info_parts ty_i125; simp [zeroValue, typeInfo, h1, h2]⟩
theorem ty_sc125 : Sc Tryd.prog 125 := fun w => by simp [isAgg, run_underlying Tryd.underlying125]
theorem ty_i126 : (Tryd.prog.info? 126).map (fun i => (i.zero, i.size, i.bytes)) = some (some (.nilFunc), 1, 8) := by kernel_rfl
theorem ty_sz126 : Sz Tryd.prog 126 1 := fun w => by obtain ⟨i, h1, h2, h3, h4⟩ := info_parts ty_i126; simp [sizeOf, typeInfo, h1, h3]
theorem ty_zr126 : Zr Tryd.prog 126 [.nilFunc] := ⟨.nilFunc, rfl, fun w => by obtain ⟨i, h1, h2, h3, h4⟩ := info_parts ty_i126; simp [zeroValue, typeInfo, h1, h2]⟩
theorem ty_sc126 : Sc Tryd.prog 126 := fun w => by simp [isAgg, run_underlying Tryd.underlying126]
theorem ty_i128 : (Tryd.prog.info? 128).map (fun i => (i.zero, i.size, i.bytes)) = some (some (.nilFunc), 1, 8) := by kernel_rfl
theorem ty_sz128 : Sz Tryd.prog 128 1 := fun w => by obtain ⟨i, h1, h2, h3, h4⟩ := info_parts ty_i128; simp [sizeOf, typeInfo, h1, h3]
theorem ty_zr128 : Zr Tryd.prog 128 [.nilFunc] := ⟨.nilFunc, rfl, fun w => by obtain ⟨i, h1, h2, h3, h4⟩ := info_parts ty_i128; simp [zeroValue, typeInfo, h1, h2]⟩
theorem ty_sc128 : Sc Tryd.prog 128 := fun w => by simp [isAgg, run_underlying Tryd.underlying128]
theorem ty_i129 : (Tryd.prog.info? 129).map (fun i => (i.zero, i.size, i.bytes)) = some (some (.nilFunc), 1, 8) := by kernel_rfl
theorem ty_sz129 : Sz Tryd.prog 129 1 := fun w => by obtain ⟨i, h1, h2, h3, h4⟩ := info_parts ty_i129; simp [sizeOf, typeInfo, h1, h3]
theorem ty_zr129 : Zr Tryd.prog 129 [.nilFunc] := ⟨.nilFunc, rfl, fun w => by obtain ⟨i, h1, h2, h3, h4⟩ := info_parts ty_i129; simp [zeroValue, typeInfo, h1, h2]⟩
theorem ty_sc129 : Sc Tryd.prog 129 := fun w => by simp [isAgg, run_underlying Tryd.underlying129]
theorem ty_i130 : (Tryd.prog.info? 130).map (fun i => (i.zero, i.size, i.bytes)) = some (some (.nilFunc), 1, 8) := by kernel_rfl
theorem ty_sz130 : Sz Tryd.prog 130 1 := fun w => by obtain ⟨i, h1, h2, h3, h4⟩ := info_parts ty_i130; simp [sizeOf, typeInfo, h1, h3]
theorem ty_zr130 : Zr Tryd.prog 130 [.nilFunc] := ⟨.nilFunc, rfl, fun w => by obtain ⟨i, h1, h2, h3, h4⟩ := info_parts ty_i130; simp [zeroValue, typeInfo, h1, h2]⟩
theorem ty_sc130 : Sc Tryd.prog 130 := fun w => by simp [isAgg, run_underlying Tryd.underlying130]
theorem ty_i131 : (Tryd.prog.info? 131).map (fun i => (i.zero, i.size, i.bytes)) = some (some (.nilFunc), 1, 8) := by kernel_rfl
theorem ty_sz131 : Sz Tryd.prog 131 1 := fun w => by obtain ⟨i, h1, h2, h3, h4⟩ := info_parts ty_i131; simp [sizeOf, typeInfo, h1, h3]
theorem ty_zr131 : Zr Tryd.prog 131 [.nilFunc] := ⟨.nilFunc, rfl, fun w => by obtain ⟨i, h1, h2, h3, h4⟩ := info_parts ty_i131; simp [zeroValue, typeInfo, h1, h2]⟩
theorem ty_sc131 : Sc Tryd.prog 131 := fun w => by simp [isAgg, run_underlying Tryd.underlying131]
theorem ty_i132 : (Tryd.prog.info? 132).map (fun i => (i.zero, i.size, i.bytes)) = some (some (.nilFunc), 1, 8) := by kernel_rfl
theorem ty_sz132 : Sz Tryd.prog 132 1 := fun w => by obtain ⟨i, h1, h2, h3, h4⟩ := info_parts ty_i132; simp [sizeOf, typeInfo, h1, h3]
theorem ty_zr132 : Zr Tryd.prog 132 [.nilFunc] := ⟨.nilFunc, rfl, fun w => by obtain ⟨i, h1, h2, h3, h4⟩ := info_parts ty_i132; simp [zeroValue, typeInfo, h1, h2]⟩
theorem ty_sc132 : Sc Tryd.prog 132 := fun w => by simp [isAgg, run_underlying Tryd.underlying132]
theorem ty_i133 : (Tryd.prog.info? 133).map (fun i => (i.zero, i.size, i.bytes)) = some (some (.nilFunc), 1, 8) := by kernel_rfl
theorem ty_sz133 : Sz Tryd.prog 133 1 := fun w => by obtain ⟨i, h1, h2, h3, h4⟩ := info_parts ty_i133; simp [sizeOf, typeInfo, h1, h3]
theorem ty_zr133 : Zr Tryd.prog 133 [.nilFunc] := ⟨.nilFunc, rfl, fun w => by obtain ⟨i, h1, h2, h3, h4⟩ := info_parts ty_i133; simp [zeroValue, typeInfo, h1, h2]⟩
theorem ty_sc133 : Sc Tryd.prog 133 := fun w => by simp [isAgg, run_underlying Tryd.underlying133]
theorem ty_i134 : (Tryd.prog.info? 134).map (fun i => (i.zero, i.size, i.bytes)) = some (some (.nilFunc), 1, 8) := by kernel_rfl
theorem ty_sz134 : Sz Tryd.prog 134 1 := fun w => by obtain ⟨i, h1, h2, h3, h4⟩ := info_parts ty_i134; simp [sizeOf, typeInfo, h1, h3]
theorem ty_zr134 : Zr Tryd.prog 134 [.nilFunc] := ⟨.nilFunc, rfl, fun w => by obtain ⟨i, h1, h2, h3, h4⟩ := info_parts ty_i134; simp [zeroValue, typeInfo, h1, h2]⟩
theorem ty_sc134 : Sc Tryd.prog 134 := fun w => by simp [isAgg, run_underlying Tryd.underlying134]
theorem ty_i135 : (Tryd.prog.info? 135).map (fun i => (i.zero, i.size, i.bytes)) = some (some (.nilFunc), 1, 8) := by kernel_rfl
theorem ty_sz135 : Sz Tryd.prog 135 1 := fun w => by obtain ⟨i, h1, h2, h3, h4⟩ := info_parts ty_i135; simp [sizeOf, typeInfo, h1, h3]
theorem ty_zr135 : Zr Tryd.prog 135 [.nilFunc] := ⟨.nilFunc, rfl, fun w => by obtain ⟨i, h1, h2, h3, h4⟩ := info_parts ty_i135; simp [zeroValue, typeInfo, h1, h2]⟩
theorem ty_sc135 : Sc Tryd.prog 135 := fun w => by simp [isAgg, run_underlying Tryd.underlying135]
theorem ty_i136 : (Tryd.prog.info? 136).map (fun i => (i.zero, i.size, i.bytes)) = some (some (.nilFunc), 1, 8) := by kernel_rfl
theorem ty_sz136 : Sz Tryd.prog 136 1 := fun w => by obtain ⟨i, h1, h2, h3, h4⟩ := info_parts ty_i136; simp [sizeOf, typeInfo, h1, h3]
theorem ty_zr136 : Zr Tryd.prog 136 [.nilFunc] := ⟨.nilFunc, rfl, fun w => by obtain ⟨i, h1, h2, h3, h4⟩ := info_parts ty_i136; simp [zeroValue, typeInfo, h1, h2]⟩
theorem ty_sc136 : Sc Tryd.prog 136 := fun w => by simp [isAgg, run_underlying Tryd.underlying136]
theorem ty_i137 : (Tryd.prog.info? 137).map (fun i => (i.zero, i.size, i.bytes)) = some (some (.nilFunc), 1, 8) := by kernel_rfl
theorem ty_sz137 : Sz Tryd.prog 137 1 := fun w => by obtain ⟨i, h1, h2, h3, h4⟩ := info_parts ty_i137; simp [sizeOf, typeInfo, h1, h3]
theorem ty_zr137 : Zr Tryd.prog 137 [.nilFunc] := ⟨.nilFunc, rfl, fun w => by obtain ⟨i, h1, h2, h3, h4⟩ := info_parts ty_i137; simp [zeroValue, typeInfo, h1, h2]⟩
theorem ty_sc137 : Sc Tryd.prog 137 := fun w => by simp [isAgg, run_underlying Tryd.underlying137]
theorem ty_i138 : (Tryd.prog.info? 138).map (fun i => (i.zero, i.size, i.bytes)) = some (some (.nilFunc), 1, 8) := by kernel_rfl
theorem ty_sz138 : Sz Tryd.prog 138 1 := fun w => by obtain ⟨i, h1, h2, h3, h4⟩ := info_parts ty_i138; simp [sizeOf, typeInfo, h1, h3]
theorem ty_zr138 : Zr Tryd.prog 138 [.nilFunc] := ⟨.nilFunc, rfl, fun w => by obtain ⟨i, h1, h2, h3, h4⟩ := info_parts ty_i138; simp [zeroValue, typeInfo, h1, h2]⟩
theorem ty_sc138 : Sc Tryd.prog 138 := fun w => by simp [isAgg, run_underlying Tryd.underlying138]
theorem ty_i139 : (Tryd.prog.info? 139).map (fun i => (i.zero, i.size, i.bytes)) = some (some (.nilFunc), 1, 8) := by kernel_rfl
theorem ty_sz139 : Sz Tryd.prog 139 1 := fun w => by obtain ⟨i, h1, h2, h3, h4⟩ := info_parts ty_i139; simp [sizeOf, typeInfo, h1, h3]
theorem ty_zr139 : Zr Tryd.prog 139 [.nilFunc] := ⟨.nilFunc, rfl, fun w => by obtain ⟨i, h1, h2, h3, h4⟩ := info_parts ty_i139; simp [zeroValue, typeInfo, h1, h2]⟩
theorem ty_sc139 : Sc Tryd.prog 139 := fun w => by simp [isAgg, run_underlying Tryd.underlying139]
theorem ty_i140 : (Tryd.prog.info? 140).map (fun i => (i.zero, i.size, i.bytes)) = some (some (.nilFunc), 1, 8) := by kernel_rfl
theorem ty_sz140 : Sz Tryd.prog 140 1 := fun w => by obtain ⟨i, h1, h2, h3, h4⟩ := info_parts ty_i140; simp [sizeOf, typeInfo, h1, h3]
theorem ty_zr140 : Zr Tryd.prog 140 [.nilFunc] := ⟨.nilFunc, rfl, fun w => by obtain ⟨i, h1, h2, h3, h4⟩ := info_parts ty_i140; simp [zeroValue, typeInfo, h1, h2]⟩
theorem ty_sc140 : Sc Tryd.prog 140 := fun w => by simp [isAgg, run_underlying Tryd.underlying140]
theorem ty_i141 : (Tryd.prog.info? 141).map (fun i => (i.zero, i.size, i.bytes)) = some (some (.agg #[.int .i64 0, .int .i64 0, .int .i64 0, .int .i64 0, .int .i64 0, .int .i64 0]), 6, 48) := by kernel_rfl
theorem ty_sz141 : Sz Tryd.prog 141 6 := fun w => by obtain ⟨i, h1, h2, h3, h4⟩ := info_parts ty_i141; simp [sizeOf, typeInfo, h1, h3]
theorem ty_zr141 : Zr Tryd.prog 141 [.int .i64 0, .int .i64 0, .int .i64 0, .int .i64 0, .int .i64 0, .int .i64 0] := ⟨.agg #[.int .i64 0, .int .i64 0, .int .i64 0, .int .i64 0, .int .i64 0, .int .i64 0], rfl, fun w => by obtain ⟨i, h1, h2, h3, h4⟩ := info_parts ty_i141; simp [zeroValue, typeInfo, h1, h2]⟩
theorem ty_ag141 : Ag Tryd.prog 141 6 := ⟨fun w => by simp [isAgg, run_underlying Tryd.underlying141], ty_sz141⟩
theorem ty_i142 : (Tryd.prog.info? 142).map (fun i => (i.zero, i.size, i.bytes)) = some (some (.nilFunc), 1, 8) := by kernel_rfl
theorem ty_sz142 : Sz Tryd.prog 142 1 := fun w => by obtain ⟨i, h1, h2, h3, h4⟩ := info_parts ty_i142; simp [sizeOf, typeInfo, h1, h3]
theorem ty_zr142 : Zr Tryd.prog 142 [.nilFunc] := ⟨.nilFunc, rfl, fun w => by obtain ⟨i, h1, h2, h3, h4⟩ := info_parts ty_i142; simp [zeroValue, typeInfo, h1, h2]⟩
theorem ty_sc142 : Sc Tryd.prog 142 := fun w => by simp [isAgg, run_underlying Tryd.underlying142]
theorem ty_i143 : (Tryd.prog.info? 143).map (fun i => (i.zero, i.size, i.bytes)) = some (some (.nilFunc), 1, 8) := by kernel_rfl
theorem ty_sz143 : Sz Tryd.prog 143 1 := fun w => by obtain ⟨i, h1, h2, h3, h4⟩ := info_parts ty_i143; simp [sizeOf, typeInfo, h1, h3]
theorem ty_zr143 : Zr Tryd.prog 143 [.nilFunc] := ⟨.nilFunc, rfl, fun w => by obtain ⟨i, h1, h2, h3, h4⟩ := info_parts ty_i143; simp [zeroValue, typeInfo, h1, h2]⟩
theorem ty_sc143 : Sc Tryd.prog 143 := fun w => by simp [isAgg, run_underlying Tryd.underlying143]
theorem ty_i144 : (Tryd.prog.info? 144).map (fun i => (i.zero, i.size, i.bytes)) = some (some (.nilFunc), 1, 8) := by kernel_rfl
theorem ty_sz144 : Sz Tryd.prog 144 1 := fun w => by obtain ⟨i, h1, h2, h3, h4⟩ := info_parts ty_i144; simp [sizeOf, typeInfo, h1, h3]
theorem ty_zr144 : Zr Tryd.prog 144 [.nilFunc] := ⟨.nilFunc, rfl, fun w => by obtain ⟨i, h1, h2, h3, h4⟩ := info_parts ty_i144; simp [zeroValue, typeInfo, h1, h2]⟩
theorem ty_sc144 : Sc Tryd.prog 144 := fun w => by simp [isAgg, run_underlying Tryd.underlying144]
theorem ty_i145 : (Tryd.prog.info? 145).map (fun i => (i.zero, i.size, i.bytes)) = some (some (.nilFunc), 1, 8) := by kernel_rfl
theorem ty_sz145 : Sz Tryd.prog 145 1 := fun w => by obtain ⟨i, h1, h2, h3, h4⟩ := info_parts ty_i145; simp [sizeOf, typeInfo, h1, h3]
theorem ty_zr145 : Zr Tryd.prog 145 [.nilFunc] := ⟨.nilFunc, rfl, fun w => by obtain ⟨i, h1, h2, h3, h4⟩ := info_parts ty_i145; simp [zeroValue, typeInfo, h1, h2]⟩
theorem ty_sc145 : Sc Tryd.prog 145 := fun w => by simp [isAgg, run_underlying Tryd.underlying145]
theorem ty_i146 : (Tryd.prog.info? 146).map (fun i => (i.zero, i.size, i.bytes)) = some (some (.agg #[.pointer none, .pointer none, .pointer none, .string ⟨#[]⟩]), 4, 40) := by kernel_rfl
theorem ty_sz146 : Sz Tryd.prog 146 4 := fun w => by obtain ⟨i, h1, h2, h3, h4⟩ := info_parts ty_i146; simp [sizeOf, typeInfo, h1, h3]
theorem ty_zr146 : Zr Tryd.prog 146 [.pointer none, .pointer none, .pointer none, .string ⟨#[]⟩] := ⟨.agg #[.pointer none, .pointer none, .pointer none, .string ⟨#[]⟩], rfl, fun w => by obtain ⟨i, h1, h2, h3, h4⟩ := info_parts ty_i146; simp [zeroValue, typeInfo, h1, h2]⟩
theorem ty_ag146 : Ag Tryd.prog 146 4 := ⟨fun w => by simp [isAgg, run_underlying Tryd.underlying146], ty_sz146⟩
theorem ty_fa146_0 : FieldAt Tryd.prog 146 0 0 := fieldAt_of 0 0 17 1 Tryd.underlying146 (by kernel_rfl) ty_sz17 (by kernel_rfl)
theorem ty_fa146_1 : FieldAt Tryd.prog 146 1 1 := fieldAt_of 1 1 17 1 Tryd.underlying146 (by kernel_rfl) ty_sz17 (by kernel_rfl)
theorem ty_fa146_2 : FieldAt Tryd.prog 146 2 2 := fieldAt_of 2 2 17 1 Tryd.underlying146 (by kernel_rfl) ty_sz17 (by kernel_rfl)
theorem ty_fa146_3 : FieldAt Tryd.prog 146 3 3 := fieldAt_of 3 3 9 1 Tryd.underlying146 (by kernel_rfl) ty_sz9 (by kernel_rfl)
theorem ty_i147 : (Tryd.prog.info? 147).map (fun i => (i.zero, i.size, i.bytes)) = some (some (.agg #[.pointer none, .pointer none, .pointer none, .string ⟨#[]⟩]), 4, 40) := by kernel_rfl
theorem ty_sz147 : Sz Tryd.prog 147 4 := fun w => by obtain ⟨i, h1, h2, h3, h4⟩ := info_parts ty_i147; simp [sizeOf, typeInfo, h1, h3]
theorem ty_zr147 : Zr Tryd.prog 147 [.pointer none, .pointer none, .pointer none, .string ⟨#[]⟩] := ⟨.agg #[.pointer none, .pointer none, .pointer none, .string ⟨#[]⟩], rfl, fun w => by obtain ⟨i, h1, h2, h3, h4⟩ := info_parts ty_i147; simp [zeroValue, typeInfo, h1, h2]⟩
theorem ty_ag147 : Ag Tryd.prog 147 4 := ⟨fun w => by simp [isAgg, run_underlying Tryd.underlying147], ty_sz147⟩
theorem ty_fa147_0 : FieldAt Tryd.prog 147 0 0 := fieldAt_of 0 0 17 1 Tryd.underlying147 (by kernel_rfl) ty_sz17 (by kernel_rfl)
theorem ty_fa147_1 : FieldAt Tryd.prog 147 1 1 := fieldAt_of 1 1 17 1 Tryd.underlying147 (by kernel_rfl) ty_sz17 (by kernel_rfl)
theorem ty_fa147_2 : FieldAt Tryd.prog 147 2 2 := fieldAt_of 2 2 17 1 Tryd.underlying147 (by kernel_rfl) ty_sz17 (by kernel_rfl)
theorem ty_fa147_3 : FieldAt Tryd.prog 147 3 3 := fieldAt_of 3 3 9 1 Tryd.underlying147 (by kernel_rfl) ty_sz9 (by kernel_rfl)
theorem ty_i148 : (Tryd.prog.info? 148).map (fun i => (i.zero, i.size, i.bytes)) = some (some (.agg #[]), 0, 0) := by kernel_rfl
theorem ty_sz148 : Sz Tryd.prog 148 0 := fun w => by obtain ⟨i, h1, h2, h3, h4⟩ := info_parts ty_i148; simp [sizeOf, typeInfo, h1, h3]
theorem ty_zr148 : Zr Tryd.prog 148 [] := ⟨.agg #[], rfl, fun w => by obtain ⟨i, h1, h2, h3, h4⟩ := info_parts ty_i148; simp [zeroValue, typeInfo, h1, h2]⟩
theorem ty_ag148 : Ag Tryd.prog 148 0 := ⟨fun w => by simp [isAgg, run_underlying Tryd.underlying148], ty_sz148⟩
theorem ty_i149 : (Tryd.prog.info? 149).map (fun i => (i.zero, i.size, i.bytes)) = some (some (.agg #[]), 0, 0) := by kernel_rfl
theorem ty_sz149 : Sz Tryd.prog 149 0 := fun w => by obtain ⟨i, h1, h2, h3, h4⟩ := info_parts ty_i149; simp [sizeOf, typeInfo, h1, h3]
theorem ty_zr149 : Zr Tryd.prog 149 [] := ⟨.agg #[], rfl, fun w => by obtain ⟨i, h1, h2, h3, h4⟩ := info_parts ty_i149; simp [zeroValue, typeInfo, h1, h2]⟩
theorem ty_ag149 : Ag Tryd.prog 149 0 := ⟨fun w => by simp [isAgg, run_underlying Tryd.underlying149], ty_sz149⟩
theorem ty_i150 : (Tryd.prog.info? 150).map (fun i => (i.zero, i.size, i.bytes)) = some (some (.agg #[]), 0, 0) := by kernel_rfl
theorem ty_sz150 : Sz Tryd.prog 150 0 := fun w => by obtain ⟨i, h1, h2, h3, h4⟩ := info_parts ty_i150; simp [sizeOf, typeInfo, h1, h3]
theorem ty_zr150 : Zr Tryd.prog 150 [] := ⟨.agg #[], rfl, fun w => by obtain ⟨i, h1, h2, h3, h4⟩ := info_parts ty_i150; simp [zeroValue, typeInfo, h1, h2]⟩
theorem ty_ag150 : Ag Tryd.prog 150 0 := ⟨fun w => by simp [isAgg, run_underlying Tryd.underlying150], ty_sz150⟩
theorem ty_i151 : (Tryd.prog.info? 151).map (fun i => (i.zero, i.size, i.bytes)) = some (some (.nilFunc), 1, 8) := by kernel_rfl
theorem ty_sz151 : Sz Tryd.prog 151 1 := fun w => by obtain ⟨i, h1, h2, h3, h4⟩ := info_parts ty_i151; simp [sizeOf, typeInfo, h1, h3]
theorem ty_zr151 : Zr Tryd.prog 151 [.nilFunc] := ⟨.nilFunc, rfl, fun w => by obtain ⟨i, h1, h2, h3, h4⟩ := info_parts ty_i151; simp [zeroValue, typeInfo, h1, h2]⟩
theorem ty_sc151 : Sc Tryd.prog 151 := fun w => by simp [isAgg, run_underlying Tryd.underlying151]
theorem ty_i152 : (Tryd.prog.info? 152).map (fun i => (i.zero, i.size, i.bytes)) = some (some (.int .u32 0), 1, 4) := by kernel_rfl
theorem ty_sz152 : Sz Tryd.prog 152 1 := fun w => by obtain ⟨i, h1, h2, h3, h4⟩ := info_parts ty_i152; simp [sizeOf, typeInfo, h1, h3]
theorem ty_zr152 : Zr Tryd.prog 152 [.int .u32 0] := ⟨.int .u32 0, rfl, fun w => by obtain ⟨i, h1, h2, h3, h4⟩ := info_parts ty_i152; simp [zeroValue, typeInfo, h1, h2]⟩
theorem ty_sc152 : Sc Tryd.prog 152 := fun w => by simp [isAgg, run_underlying Tryd.underlying152]
theorem ty_i153 : (Tryd.prog.info? 153).map (fun i => (i.zero, i.size, i.bytes)) = some (some (.int .u8 0), 1, 1) := by kernel_rfl
theorem ty_sz153 : Sz Tryd.prog 153 1 := fun w => by obtain ⟨i, h1, h2, h3, h4⟩ := info_parts ty_i153; simp [sizeOf, typeInfo, h1, h3]
theorem ty_zr153 : Zr Tryd.prog 153 [.int .u8 0] := ⟨.int .u8 0, rfl, fun w => by obtain ⟨i, h1, h2, h3, h4⟩ := info_parts ty_i153; simp [zeroValue, typeInfo, h1, h2]⟩
theorem ty_sc153 : Sc Tryd.prog 153 := fun w => by simp [isAgg, run_underlying Tryd.underlying153]
theorem ty_i154 : (Tryd.prog.info? 154).map (fun i => (i.zero, i.size, i.bytes)) = some (some (.int .u8 0), 1, 1) := by kernel_rfl
theorem ty_sz154 : Sz Tryd.prog 154 1 := fun w => by obtain ⟨i, h1, h2, h3, h4⟩ := info_parts ty_i154; simp [sizeOf, typeInfo, h1, h3]
theorem ty_zr154 : Zr Tryd.prog 154 [.int .u8 0] := ⟨.int .u8 0, rfl, fun w => by obtain ⟨i, h1, h2, h3, h4⟩ := info_parts ty_i154; simp [zeroValue, typeInfo, h1, h2]⟩
theorem ty_sc154 : Sc Tryd.prog 154 := fun w => by simp [isAgg, run_underlying Tryd.underlying154]
theorem ty_i155 : (Tryd.prog.info? 155).map (fun i => (i.zero, i.size, i.bytes)) = some (some (.nilFunc), 1, 8) := by kernel_rfl
theorem ty_sz155 : Sz Tryd.prog 155 1 := fun w => by obtain ⟨i, h1, h2, h3, h4⟩ := info_parts ty_i155; simp [sizeOf, typeInfo, h1, h3]
theorem ty_zr155 : Zr Tryd.prog 155 [.nilFunc] := ⟨.nilFunc, rfl, fun w => by obtain ⟨i, h1, h2, h3, h4⟩ := info_parts ty_i155; simp [zeroValue, typeInfo, h1, h2]⟩
theorem ty_sc155 : Sc Tryd.prog 155 := fun w => by simp [isAgg, run_underlying Tryd.underlying155]
theorem ty_i156 : (Tryd.prog.info? 156).map (fun i => (i.zero, i.size, i.bytes)) = some (some (.pointer none), 1, 8) := by kernel_rfl
theorem ty_sz156 : Sz Tryd.prog 156 1 := fun w => by obtain ⟨i, h1, h2, h3, h4⟩ := info_parts ty_i156; simp [sizeOf, typeInfo, h1, h3]
theorem ty_zr156 : Zr Tryd.prog 156 [.pointer none] := ⟨.pointer none, rfl, fun w => by obtain ⟨i, h1, h2, h3, h4⟩ := info_parts ty_i156; simp [zeroValue, typeInfo, h1, h2]⟩
theorem ty_sc156 : Sc Tryd.prog 156 := fun w => by simp [isAgg, run_underlying Tryd.underlying156]
theorem ty_i157 : (Tryd.prog.info? 157).map (fun i => (i.zero, i.size, i.bytes)) = some (some (.int .i32 0), 1, 4) := by kernel_rfl
theorem ty_sz157 : Sz Tryd.prog 157 1 := fun w => by obtain ⟨i, h1, h2, h3, h4⟩ := info_parts ty_i157; simp [sizeOf, typeInfo, h1, h3]
theorem ty_zr157 : Zr Tryd.prog 157 [.int .i32 0] := ⟨.int .i32 0, rfl, fun w => by obtain ⟨i, h1, h2, h3, h4⟩ := info_parts ty_i157; simp [zeroValue, typeInfo, h1, h2]⟩
theorem ty_sc157 : Sc Tryd.prog 157 := fun w => by simp [isAgg, run_underlying Tryd.underlying157]
theorem ty_i158 : (Tryd.prog.info? 158).map (fun i => (i.zero, i.size, i.bytes)) = some (some (.int .i32 0), 1, 4) := by kernel_rfl
theorem ty_sz158 : Sz Tryd.prog 158 1 := fun w => by obtain ⟨i, h1, h2, h3, h4⟩ := info_parts ty_i158; simp [sizeOf, typeInfo, h1, h3]
theorem ty_zr158 : Zr Tryd.prog 158 [.int .i32 0] := ⟨.int .i32 0, rfl, fun w => by obtain ⟨i, h1, h2, h3, h4⟩ := info_parts ty_i158; simp [zeroValue, typeInfo, h1, h2]⟩
theorem ty_sc158 : Sc Tryd.prog 158 := fun w => by simp [isAgg, run_underlying Tryd.underlying158]
theorem ty_i159 : (Tryd.prog.info? 159).map (fun i => (i.zero, i.size, i.bytes)) = some (some (.agg #[.int .u64 0, .int .u64 0, .int .u32 0, .int .u8 0, .int .u8 0, .int .u8 0, .int .u8 0, .nilFunc, .pointer none, .int .i32 0, .int .i32 0]), 11, 48) := by kernel_rfl
theorem ty_sz159 : Sz Tryd.prog 159 11 := fun w => by obtain ⟨i, h1, h2, h3, h4⟩ := info_parts ty_i159; simp [sizeOf, typeInfo, h1, h3]
theorem ty_zr159 : Zr Tryd.prog 159 [.int .u64 0, .int .u64 0, .int .u32 0, .int .u8 0, .int .u8 0, .int .u8 0, .int .u8 0, .nilFunc, .pointer none, .int .i32 0, .int .i32 0] := ⟨.agg #[.int .u64 0, .int .u64 0, .int .u32 0, .int .u8 0, .int .u8 0, .int .u8 0, .int .u8 0, .nilFunc, .pointer none, .int .i32 0, .int .i32 0], rfl, fun w => by obtain ⟨i, h1, h2, h3, h4⟩ := info_parts ty_i159; simp [zeroValue, typeInfo, h1, h2]⟩
theorem ty_ag159 : Ag Tryd.prog 159 11 := ⟨fun w => by simp [isAgg, run_underlying Tryd.underlying159], ty_sz159⟩
theorem ty_fa159_0 : FieldAt Tryd.prog 159 0 0 := fieldAt_of 0 0 12 1 Tryd.underlying159 (by kernel_rfl) ty_sz12 (by kernel_rfl)
theorem ty_fa159_1 : FieldAt Tryd.prog 159 1 1 := fieldAt_of 1 1 12 1 Tryd.underlying159 (by kernel_rfl) ty_sz12 (by kernel_rfl)
theorem ty_fa159_2 : FieldAt Tryd.prog 159 2 2 := fieldAt_of 2 2 152 1 Tryd.underlying159 (by kernel_rfl) ty_sz152 (by kernel_rfl)
theorem ty_fa159_3 : FieldAt Tryd.prog 159 3 3 := fieldAt_of 3 3 153 1 Tryd.underlying159 (by kernel_rfl) ty_sz153 (by kernel_rfl)
theorem ty_fa159_4 : FieldAt Tryd.prog 159 4 4 := fieldAt_of 4 4 5 1 Tryd.underlying159 (by kernel_rfl) ty_sz5 (by kernel_rfl)
theorem ty_fa159_5 : FieldAt Tryd.prog 159 5 5 := fieldAt_of 5 5 5 1 Tryd.underlying159 (by kernel_rfl) ty_sz5 (by kernel_rfl)
theorem ty_fa159_6 : FieldAt Tryd.prog 159 6 6 := fieldAt_of 6 6 154 1 Tryd.underlying159 (by kernel_rfl) ty_sz154 (by kernel_rfl)
theorem ty_fa159_7 : FieldAt Tryd.prog 159 7 7 := fieldAt_of 7 7 155 1 Tryd.underlying159 (by kernel_rfl) ty_sz155 (by kernel_rfl)
theorem ty_fa159_8 : FieldAt Tryd.prog 159 8 8 := fieldAt_of 8 8 156 1 Tryd.underlying159 (by kernel_rfl) ty_sz156 (by kernel_rfl)
theorem ty_fa159_9 : FieldAt Tryd.prog 159 9 9 := fieldAt_of 9 9 157 1 Tryd.underlying159 (by kernel_rfl) ty_sz157 (by kernel_rfl)
theorem ty_fa159_10 : FieldAt Tryd.prog 159 10 10 := fieldAt_of 10 10 158 1 Tryd.underlying159 (by kernel_rfl) ty_sz158 (by kernel_rfl)
theorem ty_i160 : (Tryd.prog.info? 160).map (fun i => (i.zero, i.size, i.bytes)) = some (some (.agg #[.int .u64 0, .int .u64 0, .int .u32 0, .int .u8 0, .int .u8 0, .int .u8 0, .int .u8 0, .nilFunc, .pointer none, .int .i32 0, .int .i32 0]), 11, 48) := by kernel_rfl
theorem ty_sz160 : Sz Tryd.prog 160 11 := fun w => by obtain ⟨i, h1, h2, h3, h4⟩ := info_parts ty_i160; simp [sizeOf, typeInfo, h1, h3]
theorem ty_zr160 : Zr Tryd.prog 160 [.int .u64 0, .int .u64 0, .int .u32 0, .int .u8 0, .int .u8 0, .int .u8 0, .int .u8 0, .nilFunc, .pointer none, .int .i32 0, .int .i32 0] := ⟨.agg #[.int .u64 0, .int .u64 0, .int .u32 0, .int .u8 0, .int .u8 0, .int .u8 0, .int .u8 0, .nilFunc, .pointer none, .int .i32 0, .int .i32 0], rfl, fun w => by obtain ⟨i, h1, h2, h3, h4⟩ := info_parts ty_i160; simp [zeroValue, typeInfo, h1, h2]⟩
theorem ty_ag160 : Ag Tryd.prog 160 11 := ⟨fun w => by simp [isAgg, run_underlying Tryd.underlying160], ty_sz160⟩
theorem ty_fa160_0 : FieldAt Tryd.prog 160 0 0 := fieldAt_of 0 0 12 1 Tryd.underlying160 (by kernel_rfl) ty_sz12 (by kernel_rfl)
theorem ty_fa160_1 : FieldAt Tryd.prog 160 1 1 := fieldAt_of 1 1 12 1 Tryd.underlying160 (by kernel_rfl) ty_sz12 (by kernel_rfl)
theorem ty_fa160_2 : FieldAt Tryd.prog 160 2 2 := fieldAt_of 2 2 152 1 Tryd.underlying160 (by kernel_rfl) ty_sz152 (by kernel_rfl)
theorem ty_fa160_3 : FieldAt Tryd.prog 160 3 3 := fieldAt_of 3 3 153 1 Tryd.underlying160 (by kernel_rfl) ty_sz153 (by kernel_rfl)
theorem ty_fa160_4 : FieldAt Tryd.prog 160 4 4 := fieldAt_of 4 4 5 1 Tryd.underlying160 (by kernel_rfl) ty_sz5 (by kernel_rfl)
theorem ty_fa160_5 : FieldAt Tryd.prog 160 5 5 := fieldAt_of 5 5 5 1 Tryd.underlying160 (by kernel_rfl) ty_sz5 (by kernel_rfl)
theorem ty_fa160_6 : FieldAt Tryd.prog 160 6 6 := fieldAt_of 6 6 154 1 Tryd.underlying160 (by kernel_rfl) ty_sz154 (by kernel_rfl)
theorem ty_fa160_7 : FieldAt Tryd.prog 160 7 7 := fieldAt_of 7 7 155 1 Tryd.underlying160 (by kernel_rfl) ty_sz155 (by kernel_rfl)
theorem ty_fa160_8 : FieldAt Tryd.prog 160 8 8 := fieldAt_of 8 8 156 1 Tryd.underlying160 (by kernel_rfl) ty_sz156 (by kernel_rfl)
theorem ty_fa160_9 : FieldAt Tryd.prog 160 9 9 := fieldAt_of 9 9 157 1 Tryd.underlying160 (by kernel_rfl) ty_sz157 (by kernel_rfl)
theorem ty_fa160_10 : FieldAt Tryd.prog 160 10 10 := fieldAt_of 10 10 158 1 Tryd.underlying160 (by kernel_rfl) ty_sz158 (by kernel_rfl)
theorem ty_et26 : ElemT Tryd.prog 26 25 11 88 := elemT (z := .agg #[.int .u8 0, .int .i64 0, .int .i64 0, .int .i64 0, .int .i64 0, .int .i64 0, .int .i64 0, .int .i64 0, .int .i64 0, .int .i64 0, .int .i64 0]) Tryd.underlying26 ty_i25 rfl (by decide)
theorem ty_et27 : ElemT Tryd.prog 27 59 3 72 := elemT (z := .agg #[.slice none 0 0, .slice none 0 0, .slice none 0 0]) Tryd.underlying27 ty_i59 rfl (by decide)
theorem ty_et28 : ElemT Tryd.prog 28 44 2 16 := elemT (z := .agg #[.int .i64 0, .int .i64 0]) Tryd.underlying28 ty_i44 rfl (by decide)
theorem ty_et47 : ElemT Tryd.prog 47 3 1 8 := elemT (z := .int .i64 0) Tryd.underlying47 ty_i3 rfl (by decide)
theorem ty_et93 : ElemT Tryd.prog 93 23 2 16 := elemT (z := .agg #[.int .i64 0, .int .i64 0]) Tryd.underlying93 ty_i23 rfl (by decide)
theorem ty_et95 : ElemT Tryd.prog 95 47 1 24 := elemT (z := .slice none 0 0) Tryd.underlying95 ty_i47 rfl (by decide)
theorem ty_et119 : ElemT Tryd.prog 119 4 1 1 := elemT (z := .bool false) Tryd.underlying119 ty_i4 rfl (by decide)
theorem ty_mp76 : MapT Tryd.prog 76 5 75 .u8 := ⟨Tryd.underlying76, Tryd.underlying5⟩
theorem ty_zv75 : ∀ w, (zeroValue 75).run Tryd.prog w = .ok (.agg #[.nilFunc, .nilFunc]) w := fun w => by obtain ⟨i, h1, h2, h3, h4⟩ := info_parts ty_i75; simp [zeroValue, typeInfo, h1, h2]
theorem ty_mp115 : MapT Tryd.prog 115 3 4 .i64 := ⟨Tryd.underlying115, Tryd.underlying3⟩
theorem ty_zv4 : ∀ w, (zeroValue 4).run Tryd.prog w = .ok (.bool false) w := fun w => by obtain ⟨i, h1, h2, h3, h4⟩ := info_parts ty_i4; simp [zeroValue, typeInfo, h1, h2]
end Go.Proofs.YtagcnokaajinlaaDoor

