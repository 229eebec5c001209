/-
  Facts on the types of the program, each in closed form. No condition.
-/
import Derived.Test.YtifjnmflghfalaaKe
namespace Go.Proofs.Ytifjnmflghfalaa
set_option linter.all false
set_option linter.unusedVariables false
set_option linter.unusedSimpArgs false
open Go.RowKit
theorem ty_i1 : (Try.prog.info? 1).map (fun i => (i.zero, i.size, i.bytes)) = some (some (.nilFunc), 1, 8) := by kernel_rfl
theorem ty_sz1 : Sz Try.prog 1 1 := fun w => by obtain ⟨i, h1, h2, h3, h4⟩ := info_parts ty_i1; simp [sizeOf, typeInfo, h1, h3]
theorem ty_zr1 : Zr Try.prog 1 [.nilFunc] := ⟨.nilFunc, rfl, fun w => by obtain ⟨i, h1, h2, h3, h4⟩ := info_parts ty_i1; simp [zeroValue, typeInfo, h1, h2]⟩
theorem ty_sc1 : Sc Try.prog 1 := fun w => by simp [isAgg, run_underlying Try.underlying1]
theorem ty_i2 : (Try.prog.info? 2).map (fun i => (i.zero, i.size, i.bytes)) = some (some (.int .i64 0), 1, 8) := by kernel_rfl
theorem ty_sz2 : Sz Try.prog 2 1 := fun w => by obtain ⟨i, h1, h2, h3, h4⟩ := info_parts ty_i2; simp [sizeOf, typeInfo, h1, h3]
theorem ty_zr2 : Zr Try.prog 2 [.int .i64 0] := ⟨.int .i64 0, rfl, fun w => by obtain ⟨i, h1, h2, h3, h4⟩ := info_parts ty_i2; simp [zeroValue, typeInfo, h1, h2]⟩
theorem ty_sc2 : Sc Try.prog 2 := fun w => by simp [isAgg, run_underlying Try.underlying2]
theorem ty_i3 : (Try.prog.info? 3).map (fun i => (i.zero, i.size, i.bytes)) = some (some (.int .i64 0), 1, 8) := by kernel_rfl
theorem ty_sz3 : Sz Try.prog 3 1 := fun w => by obtain ⟨i, h1, h2, h3, h4⟩ := info_parts ty_i3; simp [sizeOf, typeInfo, h1, h3]
theorem ty_zr3 : Zr Try.prog 3 [.int .i64 0] := ⟨.int .i64 0, rfl, fun w => by obtain ⟨i, h1, h2, h3, h4⟩ := info_parts ty_i3; simp [zeroValue, typeInfo, h1, h2]⟩
theorem ty_sc3 : Sc Try.prog 3 := fun w => by simp [isAgg, run_underlying Try.underlying3]
theorem ty_i4 : (Try.prog.info? 4).map (fun i => (i.zero, i.size, i.bytes)) = some (some (.bool false), 1, 1) := by kernel_rfl
theorem ty_sz4 : Sz Try.prog 4 1 := fun w => by obtain ⟨i, h1, h2, h3, h4⟩ := info_parts ty_i4; simp [sizeOf, typeInfo, h1, h3]
theorem ty_zr4 : Zr Try.prog 4 [.bool false] := ⟨.bool false, rfl, fun w => by obtain ⟨i, h1, h2, h3, h4⟩ := info_parts ty_i4; simp [zeroValue, typeInfo, h1, h2]⟩
theorem ty_sc4 : Sc Try.prog 4 := fun w => by simp [isAgg, run_underlying Try.underlying4]
theorem ty_i5 : (Try.prog.info? 5).map (fun i => (i.zero, i.size, i.bytes)) = some (some (.int .u8 0), 1, 1) := by kernel_rfl
theorem ty_sz5 : Sz Try.prog 5 1 := fun w => by obtain ⟨i, h1, h2, h3, h4⟩ := info_parts ty_i5; simp [sizeOf, typeInfo, h1, h3]
theorem ty_zr5 : Zr Try.prog 5 [.int .u8 0] := ⟨.int .u8 0, rfl, fun w => by obtain ⟨i, h1, h2, h3, h4⟩ := info_parts ty_i5; simp [zeroValue, typeInfo, h1, h2]⟩
theorem ty_sc5 : Sc Try.prog 5 := fun w => by simp [isAgg, run_underlying Try.underlying5]
theorem ty_i6 : (Try.prog.info? 6).map (fun i => (i.zero, i.size, i.bytes)) = some (some (.int .u8 0), 1, 1) := by kernel_rfl
theorem ty_sz6 : Sz Try.prog 6 1 := fun w => by obtain ⟨i, h1, h2, h3, h4⟩ := info_parts ty_i6; simp [sizeOf, typeInfo, h1, h3]
theorem ty_zr6 : Zr Try.prog 6 [.int .u8 0] := ⟨.int .u8 0, rfl, fun w => by obtain ⟨i, h1, h2, h3, h4⟩ := info_parts ty_i6; simp [zeroValue, typeInfo, h1, h2]⟩
theorem ty_sc6 : Sc Try.prog 6 := fun w => by simp [isAgg, run_underlying Try.underlying6]
theorem ty_i7 : (Try.prog.info? 7).map (fun i => (i.zero, i.size, i.bytes)) = some (some (.agg #[.int .i64 0, .int .i64 0, .bool false, .int .u8 0]), 4, 24) := by kernel_rfl
theorem ty_sz7 : Sz Try.prog 7 4 := fun w => by obtain ⟨i, h1, h2, h3, h4⟩ := info_parts ty_i7; simp [sizeOf, typeInfo, h1, h3]
theorem ty_zr7 : Zr Try.prog 7 [.int .i64 0, .int .i64 0, .bool false, .int .u8 0] := ⟨.agg #[.int .i64 0, .int .i64 0, .bool false, .int .u8 0], rfl, fun w => by obtain ⟨i, h1, h2, h3, h4⟩ := info_parts ty_i7; simp [zeroValue, typeInfo, h1, h2]⟩
theorem ty_ag7 : Ag Try.prog 7 4 := ⟨fun w => by simp [isAgg, run_underlying Try.underlying7], ty_sz7⟩
theorem ty_fa7_0 : FieldAt Try.prog 7 0 0 := fieldAt_of 0 0 2 1 Try.underlying7 (by kernel_rfl) ty_sz2 (by kernel_rfl)
theorem ty_fa7_1 : FieldAt Try.prog 7 1 1 := fieldAt_of 1 1 3 1 Try.underlying7 (by kernel_rfl) ty_sz3 (by kernel_rfl)
theorem ty_fa7_2 : FieldAt Try.prog 7 2 2 := fieldAt_of 2 2 4 1 Try.underlying7 (by kernel_rfl) ty_sz4 (by kernel_rfl)
theorem ty_fa7_3 : FieldAt Try.prog 7 3 3 := fieldAt_of 3 3 6 1 Try.underlying7 (by kernel_rfl) ty_sz6 (by kernel_rfl)
theorem ty_i8 : (Try.prog.info? 8).map (fun i => (i.zero, i.size, i.bytes)) = some (some (.agg #[.int .i64 0, .int .i64 0, .bool false, .int .u8 0]), 4, 24) := by kernel_rfl
theorem ty_sz8 : Sz Try.prog 8 4 := fun w => by obtain ⟨i, h1, h2, h3, h4⟩ := info_parts ty_i8; simp [sizeOf, typeInfo, h1, h3]
theorem ty_zr8 : Zr Try.prog 8 [.int .i64 0, .int .i64 0, .bool false, .int .u8 0] := ⟨.agg #[.int .i64 0, .int .i64 0, .bool false, .int .u8 0], rfl, fun w => by obtain ⟨i, h1, h2, h3, h4⟩ := info_parts ty_i8; simp [zeroValue, typeInfo, h1, h2]⟩
theorem ty_ag8 : Ag Try.prog 8 4 := ⟨fun w => by simp [isAgg, run_underlying Try.underlying8], ty_sz8⟩
theorem ty_fa8_0 : FieldAt Try.prog 8 0 0 := fieldAt_of 0 0 2 1 Try.underlying8 (by kernel_rfl) ty_sz2 (by kernel_rfl)
theorem ty_fa8_1 : FieldAt Try.prog 8 1 1 := fieldAt_of 1 1 3 1 Try.underlying8 (by kernel_rfl) ty_sz3 (by kernel_rfl)
theorem ty_fa8_2 : FieldAt Try.prog 8 2 2 := fieldAt_of 2 2 4 1 Try.underlying8 (by kernel_rfl) ty_sz4 (by kernel_rfl)
theorem ty_fa8_3 : FieldAt Try.prog 8 3 3 := fieldAt_of 3 3 6 1 Try.underlying8 (by kernel_rfl) ty_sz6 (by kernel_rfl)
theorem ty_i9 : (Try.prog.info? 9).map (fun i => (i.zero, i.size, i.bytes)) = some (some (.string ⟨#[]⟩), 1, 16) := by kernel_rfl
theorem ty_sz9 : Sz Try.prog 9 1 := fun w => by obtain ⟨i, h1, h2, h3, h4⟩ := info_parts ty_i9; simp [sizeOf, typeInfo, h1, h3]
theorem ty_zr9 : Zr Try.prog 9 [.string ⟨#[]⟩] := ⟨.string ⟨#[]⟩, rfl, fun w => by obtain ⟨i, h1, h2, h3, h4⟩ := info_parts ty_i9; simp [zeroValue, typeInfo, h1, h2]⟩
theorem ty_sc9 : Sc Try.prog 9 := fun w => by simp [isAgg, run_underlying Try.underlying9]
theorem ty_i10 : (Try.prog.info? 10).map (fun i => (i.zero, i.size, i.bytes)) = some (some (.string ⟨#[]⟩), 1, 16) := by kernel_rfl
theorem ty_sz10 : Sz Try.prog 10 1 := fun w => by obtain ⟨i, h1, h2, h3, h4⟩ := info_parts ty_i10; simp [sizeOf, typeInfo, h1, h3]
theorem ty_zr10 : Zr Try.prog 10 [.string ⟨#[]⟩] := ⟨.string ⟨#[]⟩, rfl, fun w => by obtain ⟨i, h1, h2, h3, h4⟩ := info_parts ty_i10; simp [zeroValue, typeInfo, h1, h2]⟩
theorem ty_sc10 : Sc Try.prog 10 := fun w => by simp [isAgg, run_underlying Try.underlying10]
theorem ty_i11 : (Try.prog.info? 11).map (fun i => (i.zero, i.size, i.bytes)) = some (some (.string ⟨#[]⟩), 1, 16) := by kernel_rfl
theorem ty_sz11 : Sz Try.prog 11 1 := fun w => by obtain ⟨i, h1, h2, h3, h4⟩ := info_parts ty_i11; simp [sizeOf, typeInfo, h1, h3]
theorem ty_zr11 : Zr Try.prog 11 [.string ⟨#[]⟩] := ⟨.string ⟨#[]⟩, rfl, fun w => by obtain ⟨i, h1, h2, h3, h4⟩ := info_parts ty_i11; simp [zeroValue, typeInfo, h1, h2]⟩
theorem ty_sc11 : Sc Try.prog 11 := fun w => by simp [isAgg, run_underlying Try.underlying11]
theorem ty_i12 : (Try.prog.info? 12).map (fun i => (i.zero, i.size, i.bytes)) = some (some (.int .u64 0), 1, 8) := by kernel_rfl
theorem ty_sz12 : Sz Try.prog 12 1 := fun w => by obtain ⟨i, h1, h2, h3, h4⟩ := info_parts ty_i12; simp [sizeOf, typeInfo, h1, h3]
theorem ty_zr12 : Zr Try.prog 12 [.int .u64 0] := ⟨.int .u64 0, rfl, fun w => by obtain ⟨i, h1, h2, h3, h4⟩ := info_parts ty_i12; simp [zeroValue, typeInfo, h1, h2]⟩
theorem ty_sc12 : Sc Try.prog 12 := fun w => by simp [isAgg, run_underlying Try.underlying12]
theorem ty_i13 : (Try.prog.info? 13).map (fun i => (i.zero, i.size, i.bytes)) = some (some (.agg #[.string ⟨#[]⟩, .int .u64 0]), 2, 24) := by kernel_rfl
theorem ty_sz13 : Sz Try.prog 13 2 := fun w => by obtain ⟨i, h1, h2, h3, h4⟩ := info_parts ty_i13; simp [sizeOf, typeInfo, h1, h3]
theorem ty_zr13 : Zr Try.prog 13 [.string ⟨#[]⟩, .int .u64 0] := ⟨.agg #[.string ⟨#[]⟩, .int .u64 0], rfl, fun w => by obtain ⟨i, h1, h2, h3, h4⟩ := info_parts ty_i13; simp [zeroValue, typeInfo, h1, h2]⟩
theorem ty_ag13 : Ag Try.prog 13 2 := ⟨fun w => by simp [isAgg, run_underlying Try.underlying13], ty_sz13⟩
theorem ty_fa13_0 : FieldAt Try.prog 13 0 0 := fieldAt_of 0 0 9 1 Try.underlying13 (by kernel_rfl) ty_sz9 (by kernel_rfl)
theorem ty_fa13_1 : FieldAt Try.prog 13 1 1 := fieldAt_of 1 1 12 1 Try.underlying13 (by kernel_rfl) ty_sz12 (by kernel_rfl)
theorem ty_i14 : (Try.prog.info? 14).map (fun i => (i.zero, i.size, i.bytes)) = some (some (.agg #[.string ⟨#[]⟩, .int .u64 0]), 2, 24) := by kernel_rfl
theorem ty_sz14 : Sz Try.prog 14 2 := fun w => by obtain ⟨i, h1, h2, h3, h4⟩ := info_parts ty_i14; simp [sizeOf, typeInfo, h1, h3]
theorem ty_zr14 : Zr Try.prog 14 [.string ⟨#[]⟩, .int .u64 0] := ⟨.agg #[.string ⟨#[]⟩, .int .u64 0], rfl, fun w => by obtain ⟨i, h1, h2, h3, h4⟩ := info_parts ty_i14; simp [zeroValue, typeInfo, h1, h2]⟩
theorem ty_ag14 : Ag Try.prog 14 2 := ⟨fun w => by simp [isAgg, run_underlying Try.underlying14], ty_sz14⟩
theorem ty_fa14_0 : FieldAt Try.prog 14 0 0 := fieldAt_of 0 0 9 1 Try.underlying14 (by kernel_rfl) ty_sz9 (by kernel_rfl)
theorem ty_fa14_1 : FieldAt Try.prog 14 1 1 := fieldAt_of 1 1 12 1 Try.underlying14 (by kernel_rfl) ty_sz12 (by kernel_rfl)
theorem ty_i15 : (Try.prog.info? 15).map (fun i => (i.zero, i.size, i.bytes)) = some (some (.pointer none), 1, 8) := by kernel_rfl
theorem ty_sz15 : Sz Try.prog 15 1 := fun w => by obtain ⟨i, h1, h2, h3, h4⟩ := info_parts ty_i15; simp [sizeOf, typeInfo, h1, h3]
theorem ty_zr15 : Zr Try.prog 15 [.pointer none] := ⟨.pointer none, rfl, fun w => by obtain ⟨i, h1, h2, h3, h4⟩ := info_parts ty_i15; simp [zeroValue, typeInfo, h1, h2]⟩
theorem ty_sc15 : Sc Try.prog 15 := fun w => by simp [isAgg, run_underlying Try.underlying15]
theorem ty_i16 : (Try.prog.info? 16).map (fun i => (i.zero, i.size, i.bytes)) = some (some (.pointer none), 1, 8) := by kernel_rfl
theorem ty_sz16 : Sz Try.prog 16 1 := fun w => by obtain ⟨i, h1, h2, h3, h4⟩ := info_parts ty_i16; simp [sizeOf, typeInfo, h1, h3]
theorem ty_zr16 : Zr Try.prog 16 [.pointer none] := ⟨.pointer none, rfl, fun w => by obtain ⟨i, h1, h2, h3, h4⟩ := info_parts ty_i16; simp [zeroValue, typeInfo, h1, h2]⟩
theorem ty_sc16 : Sc Try.prog 16 := fun w => by simp [isAgg, run_underlying Try.underlying16]
theorem ty_i17 : (Try.prog.info? 17).map (fun i => (i.zero, i.size, i.bytes)) = some (some (.pointer none), 1, 8) := by kernel_rfl
theorem ty_sz17 : Sz Try.prog 17 1 := fun w => by obtain ⟨i, h1, h2, h3, h4⟩ := info_parts ty_i17; simp [sizeOf, typeInfo, h1, h3]
theorem ty_zr17 : Zr Try.prog 17 [.pointer none] := ⟨.pointer none, rfl, fun w => by obtain ⟨i, h1, h2, h3, h4⟩ := info_parts ty_i17; simp [zeroValue, typeInfo, h1, h2]⟩
theorem ty_sc17 : Sc Try.prog 17 := fun w => by simp [isAgg, run_underlying Try.underlying17]
theorem ty_i18 : (Try.prog.info? 18).map (fun i => (i.zero, i.size, i.bytes)) = some (some (.agg #[.pointer none]), 1, 8) := by kernel_rfl
theorem ty_sz18 : Sz Try.prog 18 1 := fun w => by obtain ⟨i, h1, h2, h3, h4⟩ := info_parts ty_i18; simp [sizeOf, typeInfo, h1, h3]
theorem ty_zr18 : Zr Try.prog 18 [.pointer none] := ⟨.agg #[.pointer none], rfl, fun w => by obtain ⟨i, h1, h2, h3, h4⟩ := info_parts ty_i18; simp [zeroValue, typeInfo, h1, h2]⟩
theorem ty_ag18 : Ag Try.prog 18 1 := ⟨fun w => by simp [isAgg, run_underlying Try.underlying18], ty_sz18⟩
theorem ty_fa18_0 : FieldAt Try.prog 18 0 0 := fieldAt_of 0 0 17 1 Try.underlying18 (by kernel_rfl) ty_sz17 (by kernel_rfl)
theorem ty_i19 : (Try.prog.info? 19).map (fun i => (i.zero, i.size, i.bytes)) = some (some (.agg #[.pointer none]), 1, 8) := by kernel_rfl
theorem ty_sz19 : Sz Try.prog 19 1 := fun w => by obtain ⟨i, h1, h2, h3, h4⟩ := info_parts ty_i19; simp [sizeOf, typeInfo, h1, h3]
theorem ty_zr19 : Zr Try.prog 19 [.pointer none] := ⟨.agg #[.pointer none], rfl, fun w => by obtain ⟨i, h1, h2, h3, h4⟩ := info_parts ty_i19; simp [zeroValue, typeInfo, h1, h2]⟩
theorem ty_ag19 : Ag Try.prog 19 1 := ⟨fun w => by simp [isAgg, run_underlying Try.underlying19], ty_sz19⟩
theorem ty_fa19_0 : FieldAt Try.prog 19 0 0 := fieldAt_of 0 0 17 1 Try.underlying19 (by kernel_rfl) ty_sz17 (by kernel_rfl)
theorem ty_i20 : (Try.prog.info? 20).map (fun i => (i.zero, i.size, i.bytes)) = some (some (.nilIface), 1, 16) := by kernel_rfl
theorem ty_sz20 : Sz Try.prog 20 1 := fun w => by obtain ⟨i, h1, h2, h3, h4⟩ := info_parts ty_i20; simp [sizeOf, typeInfo, h1, h3]
theorem ty_zr20 : Zr Try.prog 20 [.nilIface] := ⟨.nilIface, rfl, fun w => by obtain ⟨i, h1, h2, h3, h4⟩ := info_parts ty_i20; simp [zeroValue, typeInfo, h1, h2]⟩
theorem ty_sc20 : Sc Try.prog 20 := fun w => by simp [isAgg, run_underlying Try.underlying20]
theorem ty_i21 : (Try.prog.info? 21).map (fun i => (i.zero, i.size, i.bytes)) = some (some (.int .i32 0), 1, 4) := by kernel_rfl
theorem ty_sz21 : Sz Try.prog 21 1 := fun w => by obtain ⟨i, h1, h2, h3, h4⟩ := info_parts ty_i21; simp [sizeOf, typeInfo, h1, h3]
theorem ty_zr21 : Zr Try.prog 21 [.int .i32 0] := ⟨.int .i32 0, rfl, fun w => by obtain ⟨i, h1, h2, h3, h4⟩ := info_parts ty_i21; simp [zeroValue, typeInfo, h1, h2]⟩
theorem ty_sc21 : Sc Try.prog 21 := fun w => by simp [isAgg, run_underlying Try.underlying21]
theorem ty_i22 : (Try.prog.info? 22).map (fun i => (i.zero, i.size, i.bytes)) = some (some (.agg #[.int .i64 0, .int .i64 0]), 2, 16) := by kernel_rfl
theorem ty_sz22 : Sz Try.prog 22 2 := fun w => by obtain ⟨i, h1, h2, h3, h4⟩ := info_parts ty_i22; simp [sizeOf, typeInfo, h1, h3]
theorem ty_zr22 : Zr Try.prog 22 [.int .i64 0, .int .i64 0] := ⟨.agg #[.int .i64 0, .int .i64 0], rfl, fun w => by obtain ⟨i, h1, h2, h3, h4⟩ := info_parts ty_i22; simp [zeroValue, typeInfo, h1, h2]⟩
theorem ty_ag22 : Ag Try.prog 22 2 := ⟨fun w => by simp [isAgg, run_underlying Try.underlying22], ty_sz22⟩
theorem ty_fa22_0 : FieldAt Try.prog 22 0 0 := fieldAt_of 0 0 3 1 Try.underlying22 (by kernel_rfl) ty_sz3 (by kernel_rfl)
theorem ty_fa22_1 : FieldAt Try.prog 22 1 1 := fieldAt_of 1 1 3 1 Try.underlying22 (by kernel_rfl) ty_sz3 (by kernel_rfl)
theorem ty_i23 : (Try.prog.info? 23).map (fun i => (i.zero, i.size, i.bytes)) = some (some (.agg #[.int .i64 0, .int .i64 0]), 2, 16) := by kernel_rfl
theorem ty_sz23 : Sz Try.prog 23 2 := fun w => by obtain ⟨i, h1, h2, h3, h4⟩ := info_parts ty_i23; simp [sizeOf, typeInfo, h1, h3]
theorem ty_zr23 : Zr Try.prog 23 [.int .i64 0, .int .i64 0] := ⟨.agg #[.int .i64 0, .int .i64 0], rfl, fun w => by obtain ⟨i, h1, h2, h3, h4⟩ := info_parts ty_i23; simp [zeroValue, typeInfo, h1, h2]⟩
theorem ty_ag23 : Ag Try.prog 23 2 := ⟨fun w => by simp [isAgg, run_underlying Try.underlying23], ty_sz23⟩
theorem ty_fa23_0 : FieldAt Try.prog 23 0 0 := fieldAt_of 0 0 3 1 Try.underlying23 (by kernel_rfl) ty_sz3 (by kernel_rfl)
theorem ty_fa23_1 : FieldAt Try.prog 23 1 1 := fieldAt_of 1 1 3 1 Try.underlying23 (by kernel_rfl) ty_sz3 (by kernel_rfl)
theorem ty_i24 : (Try.prog.info? 24).map (fun i => (i.zero, i.size, i.bytes)) = some (some (.slice none 0 0), 1, 24) := by kernel_rfl
theorem ty_sz24 : Sz Try.prog 24 1 := fun w => by obtain ⟨i, h1, h2, h3, h4⟩ := info_parts ty_i24; simp [sizeOf, typeInfo, h1, h3]
theorem ty_zr24 : Zr Try.prog 24 [.slice none 0 0] := ⟨.slice none 0 0, rfl, fun w => by obtain ⟨i, h1, h2, h3, h4⟩ := info_parts ty_i24; simp [zeroValue, typeInfo, h1, h2]⟩
theorem ty_sc24 : Sc Try.prog 24 := fun w => by simp [isAgg, run_underlying Try.underlying24]
theorem ty_i25 : (Try.prog.info? 25).map (fun i => (i.zero, i.size, i.bytes)) = some (some (.slice none 0 0), 1, 24) := by kernel_rfl
theorem ty_sz25 : Sz Try.prog 25 1 := fun w => by obtain ⟨i, h1, h2, h3, h4⟩ := info_parts ty_i25; simp [sizeOf, typeInfo, h1, h3]
theorem ty_zr25 : Zr Try.prog 25 [.slice none 0 0] := ⟨.slice none 0 0, rfl, fun w => by obtain ⟨i, h1, h2, h3, h4⟩ := info_parts ty_i25; simp [zeroValue, typeInfo, h1, h2]⟩
theorem ty_sc25 : Sc Try.prog 25 := fun w => by simp [isAgg, run_underlying Try.underlying25]
theorem ty_i26 : (Try.prog.info? 26).map (fun i => (i.zero, i.size, i.bytes)) = some (some (.int .i64 0), 1, 8) := by kernel_rfl
theorem ty_sz26 : Sz Try.prog 26 1 := fun w => by obtain ⟨i, h1, h2, h3, h4⟩ := info_parts ty_i26; simp [sizeOf, typeInfo, h1, h3]
theorem ty_zr26 : Zr Try.prog 26 [.int .i64 0] := ⟨.int .i64 0, rfl, fun w => by obtain ⟨i, h1, h2, h3, h4⟩ := info_parts ty_i26; simp [zeroValue, typeInfo, h1, h2]⟩
theorem ty_sc26 : Sc Try.prog 26 := fun w => by simp [isAgg, run_underlying Try.underlying26]
theorem ty_i28 : (Try.prog.info? 28).map (fun i => (i.zero, i.size, i.bytes)) = some (some (.nilFunc), 1, 8) := by kernel_rfl
theorem ty_sz28 : Sz Try.prog 28 1 := fun w => by obtain ⟨i, h1, h2, h3, h4⟩ := info_parts ty_i28; simp [sizeOf, typeInfo, h1, h3]
theorem ty_zr28 : Zr Try.prog 28 [.nilFunc] := ⟨.nilFunc, rfl, fun w => by obtain ⟨i, h1, h2, h3, h4⟩ := info_parts ty_i28; simp [zeroValue, typeInfo, h1, h2]⟩
theorem ty_sc28 : Sc Try.prog 28 := fun w => by simp [isAgg, run_underlying Try.underlying28]
theorem ty_i30 : (Try.prog.info? 30).map (fun i => (i.zero, i.size, i.bytes)) = some (some (.nilFunc), 1, 8) := by kernel_rfl
theorem ty_sz30 : Sz Try.prog 30 1 := fun w => by obtain ⟨i, h1, h2, h3, h4⟩ := info_parts ty_i30; simp [sizeOf, typeInfo, h1, h3]
theorem ty_zr30 : Zr Try.prog 30 [.nilFunc] := ⟨.nilFunc, rfl, fun w => by obtain ⟨i, h1, h2, h3, h4⟩ := info_parts ty_i30; simp [zeroValue, typeInfo, h1, h2]⟩
theorem ty_sc30 : Sc Try.prog 30 := fun w => by simp [isAgg, run_underlying Try.underlying30]
theorem ty_i31 : (Try.prog.info? 31).map (fun i => (i.zero, i.size, i.bytes)) = some (some (.nilFunc), 1, 8) := by kernel_rfl
theorem ty_sz31 : Sz Try.prog 31 1 := fun w => by obtain ⟨i, h1, h2, h3, h4⟩ := info_parts ty_i31; simp [sizeOf, typeInfo, h1, h3]
theorem ty_zr31 : Zr Try.prog 31 [.nilFunc] := ⟨.nilFunc, rfl, fun w => by obtain ⟨i, h1, h2, h3, h4⟩ := info_parts ty_i31; simp [zeroValue, typeInfo, h1, h2]⟩
theorem ty_sc31 : Sc Try.prog 31 := fun w => by simp [isAgg, run_underlying Try.underlying31]
theorem ty_i32 : (Try.prog.info? 32).map (fun i => (i.zero, i.size, i.bytes)) = some (some (.nilFunc), 1, 8) := by kernel_rfl
theorem ty_sz32 : Sz Try.prog 32 1 := fun w => by obtain ⟨i, h1, h2, h3, h4⟩ := info_parts ty_i32; simp [sizeOf, typeInfo, h1, h3]
theorem ty_zr32 : Zr Try.prog 32 [.nilFunc] := ⟨.nilFunc, rfl, fun w => by obtain ⟨i, h1, h2, h3, h4⟩ := info_parts ty_i32; simp [zeroValue, typeInfo, h1, h2]⟩
theorem ty_sc32 : Sc Try.prog 32 := fun w => by simp [isAgg, run_underlying Try.underlying32]
theorem ty_i33 : (Try.prog.info? 33).map (fun i => (i.zero, i.size, i.bytes)) = some (some (.agg #[.int .i64 0, .int .i64 0, .int .i64 0, .int .i64 0, .int .i64 0, .int .i64 0, .int .i64 0, .int .i64 0, .int .i64 0, .int .i64 0, .int .i64 0, .int .i64 0, .int .i64 0, .int .i64 0]), 14, 112) := by kernel_rfl
theorem ty_sz33 : Sz Try.prog 33 14 := fun w => by obtain ⟨i, h1, h2, h3, h4⟩ := info_parts ty_i33; simp [sizeOf, typeInfo, h1, h3]
theorem ty_zr33 : Zr Try.prog 33 [.int .i64 0, .int .i64 0, .int .i64 0, .int .i64 0, .int .i64 0, .int .i64 0, .int .i64 0, .int .i64 0, .int .i64 0, .int .i64 0, .int .i64 0, .int .i64 0, .int .i64 0, .int .i64 0] := ⟨.agg #[.int .i64 0, .int .i64 0, .int .i64 0, .int .i64 0, .int .i64 0, .int .i64 0, .int .i64 0, .int .i64 0, .int .i64 0, .int .i64 0, .int .i64 0, .int .i64 0, .int .i64 0, .int .i64 0], rfl, fun w => by obtain ⟨i, h1, h2, h3, h4⟩ := info_parts ty_i33; simp [zeroValue, typeInfo, h1, h2]⟩
theorem ty_ag33 : Ag Try.prog 33 14 := ⟨fun w => by simp [isAgg, run_underlying Try.underlying33], ty_sz33⟩
theorem ty_fa33_0 : FieldAt Try.prog 33 0 0 := fieldAt_of 0 0 23 2 Try.underlying33 (by kernel_rfl) ty_sz23 (by kernel_rfl)
theorem ty_fa33_1 : FieldAt Try.prog 33 1 2 := fieldAt_of 1 2 23 2 Try.underlying33 (by kernel_rfl) ty_sz23 (by kernel_rfl)
theorem ty_fa33_2 : FieldAt Try.prog 33 2 4 := fieldAt_of 2 4 23 2 Try.underlying33 (by kernel_rfl) ty_sz23 (by kernel_rfl)
theorem ty_fa33_3 : FieldAt Try.prog 33 3 6 := fieldAt_of 3 6 23 2 Try.underlying33 (by kernel_rfl) ty_sz23 (by kernel_rfl)
theorem ty_fa33_4 : FieldAt Try.prog 33 4 8 := fieldAt_of 4 8 23 2 Try.underlying33 (by kernel_rfl) ty_sz23 (by kernel_rfl)
theorem ty_fa33_5 : FieldAt Try.prog 33 5 10 := fieldAt_of 5 10 23 2 Try.underlying33 (by kernel_rfl) ty_sz23 (by kernel_rfl)
theorem ty_fa33_6 : FieldAt Try.prog 33 6 12 := fieldAt_of 6 12 23 2 Try.underlying33 (by kernel_rfl) ty_sz23 (by kernel_rfl)
theorem ty_i34 : (Try.prog.info? 34).map (fun i => (i.zero, i.size, i.bytes)) = some (some (.agg #[.int .i64 0, .int .i64 0, .int .i64 0, .int .i64 0, .int .i64 0, .int .i64 0, .int .i64 0, .int .i64 0, .int .i64 0, .int .i64 0, .int .i64 0, .int .i64 0, .int .i64 0, .int .i64 0]), 14, 112) := by kernel_rfl
theorem ty_sz34 : Sz Try.prog 34 14 := fun w => by obtain ⟨i, h1, h2, h3, h4⟩ := info_parts ty_i34; simp [sizeOf, typeInfo, h1, h3]
theorem ty_zr34 : Zr Try.prog 34 [.int .i64 0, .int .i64 0, .int .i64 0, .int .i64 0, .int .i64 0, .int .i64 0, .int .i64 0, .int .i64 0, .int .i64 0, .int .i64 0, .int .i64 0, .int .i64 0, .int .i64 0, .int .i64 0] := ⟨.agg #[.int .i64 0, .int .i64 0, .int .i64 0, .int .i64 0, .int .i64 0, .int .i64 0, .int .i64 0, .int .i64 0, .int .i64 0, .int .i64 0, .int .i64 0, .int .i64 0, .int .i64 0, .int .i64 0], rfl, fun w => by obtain ⟨i, h1, h2, h3, h4⟩ := info_parts ty_i34; simp [zeroValue, typeInfo, h1, h2]⟩
theorem ty_ag34 : Ag Try.prog 34 14 := ⟨fun w => by simp [isAgg, run_underlying Try.underlying34], ty_sz34⟩
theorem ty_fa34_0 : FieldAt Try.prog 34 0 0 := fieldAt_of 0 0 23 2 Try.underlying34 (by kernel_rfl) ty_sz23 (by kernel_rfl)
theorem ty_fa34_1 : FieldAt Try.prog 34 1 2 := fieldAt_of 1 2 23 2 Try.underlying34 (by kernel_rfl) ty_sz23 (by kernel_rfl)
theorem ty_fa34_2 : FieldAt Try.prog 34 2 4 := fieldAt_of 2 4 23 2 Try.underlying34 (by kernel_rfl) ty_sz23 (by kernel_rfl)
theorem ty_fa34_3 : FieldAt Try.prog 34 3 6 := fieldAt_of 3 6 23 2 Try.underlying34 (by kernel_rfl) ty_sz23 (by kernel_rfl)
theorem ty_fa34_4 : FieldAt Try.prog 34 4 8 := fieldAt_of 4 8 23 2 Try.underlying34 (by kernel_rfl) ty_sz23 (by kernel_rfl)
theorem ty_fa34_5 : FieldAt Try.prog 34 5 10 := fieldAt_of 5 10 23 2 Try.underlying34 (by kernel_rfl) ty_sz23 (by kernel_rfl)
theorem ty_fa34_6 : FieldAt Try.prog 34 6 12 := fieldAt_of 6 12 23 2 Try.underlying34 (by kernel_rfl) ty_sz23 (by kernel_rfl)
theorem ty_i35 : (Try.prog.info? 35).map (fun i => (i.zero, i.size, i.bytes)) = some (some (.nilFunc), 1, 8) := by kernel_rfl
theorem ty_sz35 : Sz Try.prog 35 1 := fun w => by obtain ⟨i, h1, h2, h3, h4⟩ := info_parts ty_i35; simp [sizeOf, typeInfo, h1, h3]
theorem ty_zr35 : Zr Try.prog 35 [.nilFunc] := ⟨.nilFunc, rfl, fun w => by obtain ⟨i, h1, h2, h3, h4⟩ := info_parts ty_i35; simp [zeroValue, typeInfo, h1, h2]⟩
theorem ty_sc35 : Sc Try.prog 35 := fun w => by simp [isAgg, run_underlying Try.underlying35]
theorem ty_i36 : (Try.prog.info? 36).map (fun i => (i.zero, i.size, i.bytes)) = some (some (.slice none 0 0), 1, 24) := by kernel_rfl
theorem ty_sz36 : Sz Try.prog 36 1 := fun w => by obtain ⟨i, h1, h2, h3, h4⟩ := info_parts ty_i36; simp [sizeOf, typeInfo, h1, h3]
theorem ty_zr36 : Zr Try.prog 36 [.slice none 0 0] := ⟨.slice none 0 0, rfl, fun w => by obtain ⟨i, h1, h2, h3, h4⟩ := info_parts ty_i36; simp [zeroValue, typeInfo, h1, h2]⟩
theorem ty_sc36 : Sc Try.prog 36 := fun w => by simp [isAgg, run_underlying Try.underlying36]
theorem ty_i37 : (Try.prog.info? 37).map (fun i => (i.zero, i.size, i.bytes)) = some (some (.nilFunc), 1, 8) := by kernel_rfl
theorem ty_sz37 : Sz Try.prog 37 1 := fun w => by obtain ⟨i, h1, h2, h3, h4⟩ := info_parts ty_i37; simp [sizeOf, typeInfo, h1, h3]
theorem ty_zr37 : Zr Try.prog 37 [.nilFunc] := ⟨.nilFunc, rfl, fun w => by obtain ⟨i, h1, h2, h3, h4⟩ := info_parts ty_i37; simp [zeroValue, typeInfo, h1, h2]⟩
theorem ty_sc37 : Sc Try.prog 37 := fun w => by simp [isAgg, run_underlying Try.underlying37]
theorem ty_i38 : (Try.prog.info? 38).map (fun i => (i.zero, i.size, i.bytes)) = some (some (.nilFunc), 1, 8) := by kernel_rfl
theorem ty_sz38 : Sz Try.prog 38 1 := fun w => by obtain ⟨i, h1, h2, h3, h4⟩ := info_parts ty_i38; simp [sizeOf, typeInfo, h1, h3]
theorem ty_zr38 : Zr Try.prog 38 [.nilFunc] := ⟨.nilFunc, rfl, fun w => by obtain ⟨i, h1, h2, h3, h4⟩ := info_parts ty_i38; simp [zeroValue, typeInfo, h1, h2]⟩
theorem ty_sc38 : Sc Try.prog 38 := fun w => by simp [isAgg, run_underlying Try.underlying38]
theorem ty_i40 : (Try.prog.info? 40).map (fun i => (i.zero, i.size, i.bytes)) = some (some (.nilFunc), 1, 8) := by kernel_rfl
theorem ty_sz40 : Sz Try.prog 40 1 := fun w => by obtain ⟨i, h1, h2, h3, h4⟩ := info_parts ty_i40; simp [sizeOf, typeInfo, h1, h3]
theorem ty_zr40 : Zr Try.prog 40 [.nilFunc] := ⟨.nilFunc, rfl, fun w => by obtain ⟨i, h1, h2, h3, h4⟩ := info_parts ty_i40; simp [zeroValue, typeInfo, h1, h2]⟩
theorem ty_sc40 : Sc Try.prog 40 := fun w => by simp [isAgg, run_underlying Try.underlying40]
theorem ty_i42 : (Try.prog.info? 42).map (fun i => (i.zero, i.size, i.bytes)) = some (some (.nilFunc), 1, 8) := by kernel_rfl
theorem ty_sz42 : Sz Try.prog 42 1 := fun w => by obtain ⟨i, h1, h2, h3, h4⟩ := info_parts ty_i42; simp [sizeOf, typeInfo, h1, h3]
theorem ty_zr42 : Zr Try.prog 42 [.nilFunc] := ⟨.nilFunc, rfl, fun w => by obtain ⟨i, h1, h2, h3, h4⟩ := info_parts ty_i42; simp [zeroValue, typeInfo, h1, h2]⟩
theorem ty_sc42 : Sc Try.prog 42 := fun w => by simp [isAgg, run_underlying Try.underlying42]
theorem ty_i43 : (Try.prog.info? 43).map (fun i => (i.zero, i.size, i.bytes)) = some (some (.slice none 0 0), 1, 24) := by kernel_rfl
theorem ty_sz43 : Sz Try.prog 43 1 := fun w => by obtain ⟨i, h1, h2, h3, h4⟩ := info_parts ty_i43; simp [sizeOf, typeInfo, h1, h3]
theorem ty_zr43 : Zr Try.prog 43 [.slice none 0 0] := ⟨.slice none 0 0, rfl, fun w => by obtain ⟨i, h1, h2, h3, h4⟩ := info_parts ty_i43; simp [zeroValue, typeInfo, h1, h2]⟩
theorem ty_sc43 : Sc Try.prog 43 := fun w => by simp [isAgg, run_underlying Try.underlying43]
theorem ty_i45 : (Try.prog.info? 45).map (fun i => (i.zero, i.size, i.bytes)) = some (some (.nilFunc), 1, 8) := by kernel_rfl
theorem ty_sz45 : Sz Try.prog 45 1 := fun w => by obtain ⟨i, h1, h2, h3, h4⟩ := info_parts ty_i45; simp [sizeOf, typeInfo, h1, h3]
theorem ty_zr45 : Zr Try.prog 45 [.nilFunc] := ⟨.nilFunc, rfl, fun w => by obtain ⟨i, h1, h2, h3, h4⟩ := info_parts ty_i45; simp [zeroValue, typeInfo, h1, h2]⟩
theorem ty_sc45 : Sc Try.prog 45 := fun w => by simp [isAgg, run_underlying Try.underlying45]
theorem ty_i47 : (Try.prog.info? 47).map (fun i => (i.zero, i.size, i.bytes)) = some (some (.nilFunc), 1, 8) := by kernel_rfl
theorem ty_sz47 : Sz Try.prog 47 1 := fun w => by obtain ⟨i, h1, h2, h3, h4⟩ := info_parts ty_i47; simp [sizeOf, typeInfo, h1, h3]
theorem ty_zr47 : Zr Try.prog 47 [.nilFunc] := ⟨.nilFunc, rfl, fun w => by obtain ⟨i, h1, h2, h3, h4⟩ := info_parts ty_i47; simp [zeroValue, typeInfo, h1, h2]⟩
theorem ty_sc47 : Sc Try.prog 47 := fun w => by simp [isAgg, run_underlying Try.underlying47]
theorem ty_i49 : (Try.prog.info? 49).map (fun i => (i.zero, i.size, i.bytes)) = some (some (.nilFunc), 1, 8) := by kernel_rfl
theorem ty_sz49 : Sz Try.prog 49 1 := fun w => by obtain ⟨i, h1, h2, h3, h4⟩ := info_parts ty_i49; simp [sizeOf, typeInfo, h1, h3]
theorem ty_zr49 : Zr Try.prog 49 [.nilFunc] := ⟨.nilFunc, rfl, fun w => by obtain ⟨i, h1, h2, h3, h4⟩ := info_parts ty_i49; simp [zeroValue, typeInfo, h1, h2]⟩
theorem ty_sc49 : Sc Try.prog 49 := fun w => by simp [isAgg, run_underlying Try.underlying49]
theorem ty_i51 : (Try.prog.info? 51).map (fun i => (i.zero, i.size, i.bytes)) = some (some (.nilFunc), 1, 8) := by kernel_rfl
theorem ty_sz51 : Sz Try.prog 51 1 := fun w => by obtain ⟨i, h1, h2, h3, h4⟩ := info_parts ty_i51; simp [sizeOf, typeInfo, h1, h3]
theorem ty_zr51 : Zr Try.prog 51 [.nilFunc] := ⟨.nilFunc, rfl, fun w => by obtain ⟨i, h1, h2, h3, h4⟩ := info_parts ty_i51; simp [zeroValue, typeInfo, h1, h2]⟩
theorem ty_sc51 : Sc Try.prog 51 := fun w => by simp [isAgg, run_underlying Try.underlying51]
theorem ty_i52 : (Try.prog.info? 52).map (fun i => (i.zero, i.size, i.bytes)) = some (some (.nilFunc), 1, 8) := by kernel_rfl
theorem ty_sz52 : Sz Try.prog 52 1 := fun w => by obtain ⟨i, h1, h2, h3, h4⟩ := info_parts ty_i52; simp [sizeOf, typeInfo, h1, h3]
theorem ty_zr52 : Zr Try.prog 52 [.nilFunc] := ⟨.nilFunc, rfl, fun w => by obtain ⟨i, h1, h2, h3, h4⟩ := info_parts ty_i52; simp [zeroValue, typeInfo, h1, h2]⟩
theorem ty_sc52 : Sc Try.prog 52 := fun w => by simp [isAgg, run_underlying Try.underlying52]
theorem ty_i53 : (Try.prog.info? 53).map (fun i => (i.zero, i.size, i.bytes)) = some (some (.nilFunc), 1, 8) := by kernel_rfl
theorem ty_sz53 : Sz Try.prog 53 1 := fun w => by obtain ⟨i, h1, h2, h3, h4⟩ := info_parts ty_i53; simp [sizeOf, typeInfo, h1, h3]
theorem ty_zr53 : Zr Try.prog 53 [.nilFunc] := ⟨.nilFunc, rfl, fun w => by obtain ⟨i, h1, h2, h3, h4⟩ := info_parts ty_i53; simp [zeroValue, typeInfo, h1, h2]⟩
theorem ty_sc53 : Sc Try.prog 53 := fun w => by simp [isAgg, run_underlying Try.underlying53]
theorem ty_i54 : (Try.prog.info? 54).map (fun i => (i.zero, i.size, i.bytes)) = some (some (.nilFunc), 1, 8) := by kernel_rfl
theorem ty_sz54 : Sz Try.prog 54 1 := fun w => by obtain ⟨i, h1, h2, h3, h4⟩ := info_parts ty_i54; simp [sizeOf, typeInfo, h1, h3]
theorem ty_zr54 : Zr Try.prog 54 [.nilFunc] := ⟨.nilFunc, rfl, fun w => by obtain ⟨i, h1, h2, h3, h4⟩ := info_parts ty_i54; simp [zeroValue, typeInfo, h1, h2]⟩
theorem ty_sc54 : Sc Try.prog 54 := fun w => by simp [isAgg, run_underlying Try.underlying54]
theorem ty_i55 : (Try.prog.info? 55).map (fun i => (i.zero, i.size, i.bytes)) = some (some (.nilFunc), 1, 8) := by kernel_rfl
theorem ty_sz55 : Sz Try.prog 55 1 := fun w => by obtain ⟨i, h1, h2, h3, h4⟩ := info_parts ty_i55; simp [sizeOf, typeInfo, h1, h3]
theorem ty_zr55 : Zr Try.prog 55 [.nilFunc] := ⟨.nilFunc, rfl, fun w => by obtain ⟨i, h1, h2, h3, h4⟩ := info_parts ty_i55; simp [zeroValue, typeInfo, h1, h2]⟩
theorem ty_sc55 : Sc Try.prog 55 := fun w => by simp [isAgg, run_underlying Try.underlying55]
theorem ty_i56 : (Try.prog.info? 56).map (fun i => (i.zero, i.size, i.bytes)) = some (some (.nilFunc), 1, 8) := by kernel_rfl
theorem ty_sz56 : Sz Try.prog 56 1 := fun w => by obtain ⟨i, h1, h2, h3, h4⟩ := info_parts ty_i56; simp [sizeOf, typeInfo, h1, h3]
theorem ty_zr56 : Zr Try.prog 56 [.nilFunc] := ⟨.nilFunc, rfl, fun w => by obtain ⟨i, h1, h2, h3, h4⟩ := info_parts ty_i56; simp [zeroValue, typeInfo, h1, h2]⟩
theorem ty_sc56 : Sc Try.prog 56 := fun w => by simp [isAgg, run_underlying Try.underlying56]
theorem ty_i57 : (Try.prog.info? 57).map (fun i => (i.zero, i.size, i.bytes)) = some (some (.nilFunc), 1, 8) := by kernel_rfl
theorem ty_sz57 : Sz Try.prog 57 1 := fun w => by obtain ⟨i, h1, h2, h3, h4⟩ := info_parts ty_i57; simp [sizeOf, typeInfo, h1, h3]
theorem ty_zr57 : Zr Try.prog 57 [.nilFunc] := ⟨.nilFunc, rfl, fun w => by obtain ⟨i, h1, h2, h3, h4⟩ := info_parts ty_i57; simp [zeroValue, typeInfo, h1, h2]⟩
theorem ty_sc57 : Sc Try.prog 57 := fun w => by simp [isAgg, run_underlying Try.underlying57]
theorem ty_i58 : (Try.prog.info? 58).map (fun i => (i.zero, i.size, i.bytes)) = some (some (.nilFunc), 1, 8) := by kernel_rfl
theorem ty_sz58 : Sz Try.prog 58 1 := fun w => by obtain ⟨i, h1, h2, h3, h4⟩ := info_parts ty_i58; simp [sizeOf, typeInfo, h1, h3]
theorem ty_zr58 : Zr Try.prog 58 [.nilFunc] := ⟨.nilFunc, rfl, fun w => by obtain ⟨i, h1, h2, h3, h4⟩ := info_parts ty_i58; simp [zeroValue, typeInfo, h1, h2]⟩
theorem ty_sc58 : Sc Try.prog 58 := fun w => by simp [isAgg, run_underlying Try.underlying58]
theorem ty_i59 : (Try.prog.info? 59).map (fun i => (i.zero, i.size, i.bytes)) = some (some (.nilFunc), 1, 8) := by kernel_rfl
theorem ty_sz59 : Sz Try.prog 59 1 := fun w => by obtain ⟨i, h1, h2, h3, h4⟩ := info_parts ty_i59; simp [sizeOf, typeInfo, h1, h3]
theorem ty_zr59 : Zr Try.prog 59 [.nilFunc] := ⟨.nilFunc, rfl, fun w => by obtain ⟨i, h1, h2, h3, h4⟩ := info_parts ty_i59; simp [zeroValue, typeInfo, h1, h2]⟩
theorem ty_sc59 : Sc Try.prog 59 := fun w => by simp [isAgg, run_underlying Try.underlying59]
theorem ty_i60 : (Try.prog.info? 60).map (fun i => (i.zero, i.size, i.bytes)) = some (some (.nilFunc), 1, 8) := by kernel_rfl
theorem ty_sz60 : Sz Try.prog 60 1 := fun w => by obtain ⟨i, h1, h2, h3, h4⟩ := info_parts ty_i60; simp [sizeOf, typeInfo, h1, h3]
theorem ty_zr60 : Zr Try.prog 60 [.nilFunc] := ⟨.nilFunc, rfl, fun w => by obtain ⟨i, h1, h2, h3, h4⟩ := info_parts ty_i60; simp [zeroValue, typeInfo, h1, h2]⟩
theorem ty_sc60 : Sc Try.prog 60 := fun w => by simp [isAgg, run_underlying Try.underlying60]
theorem ty_i61 : (Try.prog.info? 61).map (fun i => (i.zero, i.size, i.bytes)) = some (some (.nilFunc), 1, 8) := by kernel_rfl
theorem ty_sz61 : Sz Try.prog 61 1 := fun w => by obtain ⟨i, h1, h2, h3, h4⟩ := info_parts ty_i61; simp [sizeOf, typeInfo, h1, h3]
theorem ty_zr61 : Zr Try.prog 61 [.nilFunc] := ⟨.nilFunc, rfl, fun w => by obtain ⟨i, h1, h2, h3, h4⟩ := info_parts ty_i61; simp [zeroValue, typeInfo, h1, h2]⟩
theorem ty_sc61 : Sc Try.prog 61 := fun w => by simp [isAgg, run_underlying Try.underlying61]
theorem ty_i62 : (Try.prog.info? 62).map (fun i => (i.zero, i.size, i.bytes)) = some (some (.nilFunc), 1, 8) := by kernel_rfl
theorem ty_sz62 : Sz Try.prog 62 1 := fun w => by obtain ⟨i, h1, h2, h3, h4⟩ := info_parts ty_i62; simp [sizeOf, typeInfo, h1, h3]
theorem ty_zr62 : Zr Try.prog 62 [.nilFunc] := ⟨.nilFunc, rfl, fun w => by obtain ⟨i, h1, h2, h3, h4⟩ := info_parts ty_i62; simp [zeroValue, typeInfo, h1, h2]⟩
theorem ty_sc62 : Sc Try.prog 62 := fun w => by simp [isAgg, run_underlying Try.underlying62]
theorem ty_i63 : (Try.prog.info? 63).map (fun i => (i.zero, i.size, i.bytes)) = some (some (.nilFunc), 1, 8) := by kernel_rfl
theorem ty_sz63 : Sz Try.prog 63 1 := fun w => by obtain ⟨i, h1, h2, h3, h4⟩ := info_parts ty_i63; simp [sizeOf, typeInfo, h1, h3]
theorem ty_zr63 : Zr Try.prog 63 [.nilFunc] := ⟨.nilFunc, rfl, fun w => by obtain ⟨i, h1, h2, h3, h4⟩ := info_parts ty_i63; simp [zeroValue, typeInfo, h1, h2]⟩
theorem ty_sc63 : Sc Try.prog 63 := fun w => by simp [isAgg, run_underlying Try.underlying63]
theorem ty_i64 : (Try.prog.info? 64).map (fun i => (i.zero, i.size, i.bytes)) = some (some (.nilFunc), 1, 8) := by kernel_rfl
theorem ty_sz64 : Sz Try.prog 64 1 := fun w => by obtain ⟨i, h1, h2, h3, h4⟩ := info_parts ty_i64; simp [sizeOf, typeInfo, h1, h3]
theorem ty_zr64 : Zr Try.prog 64 [.nilFunc] := ⟨.nilFunc, rfl, fun w => by obtain ⟨i, h1, h2, h3, h4⟩ := info_parts ty_i64; simp [zeroValue, typeInfo, h1, h2]⟩
theorem ty_sc64 : Sc Try.prog 64 := fun w => by simp [isAgg, run_underlying Try.underlying64]
theorem ty_i65 : (Try.prog.info? 65).map (fun i => (i.zero, i.size, i.bytes)) = some (some (.nilFunc), 1, 8) := by kernel_rfl
theorem ty_sz65 : Sz Try.prog 65 1 := fun w => by obtain ⟨i, h1, h2, h3, h4⟩ := info_parts ty_i65; simp [sizeOf, typeInfo, h1, h3]
theorem ty_zr65 : Zr Try.prog 65 [.nilFunc] := ⟨.nilFunc, rfl, fun w => by obtain ⟨i, h1, h2, h3, h4⟩ := info_parts ty_i65; simp [zeroValue, typeInfo, h1, h2]⟩
theorem ty_sc65 : Sc Try.prog 65 := fun w => by simp [isAgg, run_underlying Try.underlying65]
theorem ty_i66 : (Try.prog.info? 66).map (fun i => (i.zero, i.size, i.bytes)) = some (some (.pointer none), 1, 8) := by kernel_rfl
theorem ty_sz66 : Sz Try.prog 66 1 := fun w => by obtain ⟨i, h1, h2, h3, h4⟩ := info_parts ty_i66; simp [sizeOf, typeInfo, h1, h3]
theorem ty_zr66 : Zr Try.prog 66 [.pointer none] := ⟨.pointer none, rfl, fun w => by obtain ⟨i, h1, h2, h3, h4⟩ := info_parts ty_i66; simp [zeroValue, typeInfo, h1, h2]⟩
theorem ty_sc66 : Sc Try.prog 66 := fun w => by simp [isAgg, run_underlying Try.underlying66]
theorem ty_i67 : (Try.prog.info? 67).map (fun i => (i.zero, i.size, i.bytes)) = some (some (.pointer none), 1, 8) := by kernel_rfl
theorem ty_sz67 : Sz Try.prog 67 1 := fun w => by obtain ⟨i, h1, h2, h3, h4⟩ := info_parts ty_i67; simp [sizeOf, typeInfo, h1, h3]
theorem ty_zr67 : Zr Try.prog 67 [.pointer none] := ⟨.pointer none, rfl, fun w => by obtain ⟨i, h1, h2, h3, h4⟩ := info_parts ty_i67; simp [zeroValue, typeInfo, h1, h2]⟩
theorem ty_sc67 : Sc Try.prog 67 := fun w => by simp [isAgg, run_underlying Try.underlying67]
theorem ty_i68 : (Try.prog.info? 68).map (fun i => (i.zero, i.size, i.bytes)) = some (some (.agg #[.pointer none, .pointer none, .pointer none]), 3, 24) := by kernel_rfl
theorem ty_sz68 : Sz Try.prog 68 3 := fun w => by obtain ⟨i, h1, h2, h3, h4⟩ := info_parts ty_i68; simp [sizeOf, typeInfo, h1, h3]
theorem ty_zr68 : Zr Try.prog 68 [.pointer none, .pointer none, .pointer none] := ⟨.agg #[.pointer none, .pointer none, .pointer none], rfl, fun w => by obtain ⟨i, h1, h2, h3, h4⟩ := info_parts ty_i68; simp [zeroValue, typeInfo, h1, h2]⟩
theorem ty_ag68 : Ag Try.prog 68 3 := ⟨fun w => by simp [isAgg, run_underlying Try.underlying68], ty_sz68⟩
theorem ty_i70 : (Try.prog.info? 70).map (fun i => (i.zero, i.size, i.bytes)) = some (some (.nilFunc), 1, 8) := by kernel_rfl
theorem ty_sz70 : Sz Try.prog 70 1 := fun w => by obtain ⟨i, h1, h2, h3, h4⟩ := info_parts ty_i70; simp [sizeOf, typeInfo, h1, h3]
theorem ty_zr70 : Zr Try.prog 70 [.nilFunc] := ⟨.nilFunc, rfl, fun w => by obtain ⟨i, h1, h2, h3, h4⟩ := info_parts ty_i70; simp [zeroValue, typeInfo, h1, h2]⟩
theorem ty_sc70 : Sc Try.prog 70 := fun w => by simp [isAgg, run_underlying Try.underlying70]
theorem ty_i71 : (Try.prog.info? 71).map (fun i => (i.zero, i.size, i.bytes)) = some (some (.nilFunc), 1, 8) := by kernel_rfl
theorem ty_sz71 : Sz Try.prog 71 1 := fun w => by obtain ⟨i, h1, h2, h3, h4⟩ := info_parts ty_i71; simp [sizeOf, typeInfo, h1, h3]
theorem ty_zr71 : Zr Try.prog 71 [.nilFunc] := ⟨.nilFunc, rfl, fun w => by obtain ⟨i, h1, h2, h3, h4⟩ := info_parts ty_i71; simp [zeroValue, typeInfo, h1, h2]⟩
theorem ty_sc71 : Sc Try.prog 71 := fun w => by simp [isAgg, run_underlying Try.underlying71]
theorem ty_i72 : (Try.prog.info? 72).map (fun i => (i.zero, i.size, i.bytes)) = some (some (.nilFunc), 1, 8) := by kernel_rfl
theorem ty_sz72 : Sz Try.prog 72 1 := fun w => by obtain ⟨i, h1, h2, h3, h4⟩ := info_parts ty_i72; simp [sizeOf, typeInfo, h1, h3]
theorem ty_zr72 : Zr Try.prog 72 [.nilFunc] := ⟨.nilFunc, rfl, fun w => by obtain ⟨i, h1, h2, h3, h4⟩ := info_parts ty_i72; simp [zeroValue, typeInfo, h1, h2]⟩
theorem ty_sc72 : Sc Try.prog 72 := fun w => by simp [isAgg, run_underlying Try.underlying72]
theorem ty_i73 : (Try.prog.info? 73).map (fun i => (i.zero, i.size, i.bytes)) = some (some (.nilFunc), 1, 8) := by kernel_rfl
theorem ty_sz73 : Sz Try.prog 73 1 := fun w => by obtain ⟨i, h1, h2, h3, h4⟩ := info_parts ty_i73; simp [sizeOf, typeInfo, h1, h3]
theorem ty_zr73 : Zr Try.prog 73 [.nilFunc] := ⟨.nilFunc, rfl, fun w => by obtain ⟨i, h1, h2, h3, h4⟩ := info_parts ty_i73; simp [zeroValue, typeInfo, h1, h2]⟩
theorem ty_sc73 : Sc Try.prog 73 := fun w => by simp [isAgg, run_underlying Try.underlying73]
theorem ty_i74 : (Try.prog.info? 74).map (fun i => (i.zero, i.size, i.bytes)) = some (some (.slice none 0 0), 1, 24) := by kernel_rfl
theorem ty_sz74 : Sz Try.prog 74 1 := fun w => by obtain ⟨i, h1, h2, h3, h4⟩ := info_parts ty_i74; simp [sizeOf, typeInfo, h1, h3]
theorem ty_zr74 : Zr Try.prog 74 [.slice none 0 0] := ⟨.slice none 0 0, rfl, fun w => by obtain ⟨i, h1, h2, h3, h4⟩ := info_parts ty_i74; simp [zeroValue, typeInfo, h1, h2]⟩
theorem ty_sc74 : Sc Try.prog 74 := fun w => by simp [isAgg, run_underlying Try.underlying74]
theorem ty_i75 : (Try.prog.info? 75).map (fun i => (i.zero, i.size, i.bytes)) = some (some (.agg #[.int .i64 0, .int .i64 0, .int .i64 0, .int .i64 0, .slice none 0 0]), 5, 56) := by kernel_rfl
theorem ty_sz75 : Sz Try.prog 75 5 := fun w => by obtain ⟨i, h1, h2, h3, h4⟩ := info_parts ty_i75; simp [sizeOf, typeInfo, h1, h3]
theorem ty_zr75 : Zr Try.prog 75 [.int .i64 0, .int .i64 0, .int .i64 0, .int .i64 0, .slice none 0 0] := ⟨.agg #[.int .i64 0, .int .i64 0, .int .i64 0, .int .i64 0, .slice none 0 0], rfl, fun w => by obtain ⟨i, h1, h2, h3, h4⟩ := info_parts ty_i75; simp [zeroValue, typeInfo, h1, h2]⟩
theorem ty_ag75 : Ag Try.prog 75 5 := ⟨fun w => by simp [isAgg, run_underlying Try.underlying75], ty_sz75⟩
theorem ty_fa75_0 : FieldAt Try.prog 75 0 0 := fieldAt_of 0 0 3 1 Try.underlying75 (by kernel_rfl) ty_sz3 (by kernel_rfl)
theorem ty_fa75_1 : FieldAt Try.prog 75 1 1 := fieldAt_of 1 1 3 1 Try.underlying75 (by kernel_rfl) ty_sz3 (by kernel_rfl)
theorem ty_fa75_2 : FieldAt Try.prog 75 2 2 := fieldAt_of 2 2 23 2 Try.underlying75 (by kernel_rfl) ty_sz23 (by kernel_rfl)
theorem ty_fa75_3 : FieldAt Try.prog 75 3 4 := fieldAt_of 3 4 74 1 Try.underlying75 (by kernel_rfl) ty_sz74 (by kernel_rfl)
theorem ty_i76 : (Try.prog.info? 76).map (fun i => (i.zero, i.size, i.bytes)) = some (some (.agg #[.int .i64 0, .int .i64 0, .int .i64 0, .int .i64 0, .slice none 0 0]), 5, 56) := by kernel_rfl
theorem ty_sz76 : Sz Try.prog 76 5 := fun w => by obtain ⟨i, h1, h2, h3, h4⟩ := info_parts ty_i76; simp [sizeOf, typeInfo, h1, h3]
theorem ty_zr76 : Zr Try.prog 76 [.int .i64 0, .int .i64 0, .int .i64 0, .int .i64 0, .slice none 0 0] := ⟨.agg #[.int .i64 0, .int .i64 0, .int .i64 0, .int .i64 0, .slice none 0 0], rfl, fun w => by obtain ⟨i, h1, h2, h3, h4⟩ := info_parts ty_i76; simp [zeroValue, typeInfo, h1, h2]⟩
theorem ty_ag76 : Ag Try.prog 76 5 := ⟨fun w => by simp [isAgg, run_underlying Try.underlying76], ty_sz76⟩
theorem ty_fa76_0 : FieldAt Try.prog 76 0 0 := fieldAt_of 0 0 3 1 Try.underlying76 (by kernel_rfl) ty_sz3 (by kernel_rfl)
theorem ty_fa76_1 : FieldAt Try.prog 76 1 1 := fieldAt_of 1 1 3 1 Try.underlying76 (by kernel_rfl) ty_sz3 (by kernel_rfl)
theorem ty_fa76_2 : FieldAt Try.prog 76 2 2 := fieldAt_of 2 2 23 2 Try.underlying76 (by kernel_rfl) ty_sz23 (by kernel_rfl)
theorem ty_fa76_3 : FieldAt Try.prog 76 3 4 := fieldAt_of 3 4 74 1 Try.underlying76 (by kernel_rfl) ty_sz74 (by kernel_rfl)
theorem ty_i77 : (Try.prog.info? 77).map (fun i => (i.zero, i.size, i.bytes)) = some (some (.pointer none), 1, 8) := by kernel_rfl
theorem ty_sz77 : Sz Try.prog 77 1 := fun w => by obtain ⟨i, h1, h2, h3, h4⟩ := info_parts ty_i77; simp [sizeOf, typeInfo, h1, h3]
theorem ty_zr77 : Zr Try.prog 77 [.pointer none] := ⟨.pointer none, rfl, fun w => by obtain ⟨i, h1, h2, h3, h4⟩ := info_parts ty_i77; simp [zeroValue, typeInfo, h1, h2]⟩
theorem ty_sc77 : Sc Try.prog 77 := fun w => by simp [isAgg, run_underlying Try.underlying77]
theorem ty_i79 : (Try.prog.info? 79).map (fun i => (i.zero, i.size, i.bytes)) = some (some (.nilFunc), 1, 8) := by kernel_rfl
theorem ty_sz79 : Sz Try.prog 79 1 := fun w => by obtain ⟨i, h1, h2, h3, h4⟩ := info_parts ty_i79; simp [sizeOf, typeInfo, h1, h3]
theorem ty_zr79 : Zr Try.prog 79 [.nilFunc] := ⟨.nilFunc, rfl, fun w => by obtain ⟨i, h1, h2, h3, h4⟩ := info_parts ty_i79; simp [zeroValue, typeInfo, h1, h2]⟩
theorem ty_sc79 : Sc Try.prog 79 := fun w => by simp [isAgg, run_underlying Try.underlying79]
theorem ty_i81 : (Try.prog.info? 81).map (fun i => (i.zero, i.size, i.bytes)) = some (some (.nilFunc), 1, 8) := by kernel_rfl
theorem ty_sz81 : Sz Try.prog 81 1 := fun w => by obtain ⟨i, h1, h2, h3, h4⟩ := info_parts ty_i81; simp [sizeOf, typeInfo, h1, h3]
theorem ty_zr81 : Zr Try.prog 81 [.nilFunc] := ⟨.nilFunc, rfl, fun w => by obtain ⟨i, h1, h2, h3, h4⟩ := info_parts ty_i81; simp [zeroValue, typeInfo, h1, h2]⟩
theorem ty_sc81 : Sc Try.prog 81 := fun w => by simp [isAgg, run_underlying Try.underlying81]
theorem ty_i82 : (Try.prog.info? 82).map (fun i => (i.zero, i.size, i.bytes)) = some (some (.nilFunc), 1, 8) := by kernel_rfl
theorem ty_sz82 : Sz Try.prog 82 1 := fun w => by obtain ⟨i, h1, h2, h3, h4⟩ := info_parts ty_i82; simp [sizeOf, typeInfo, h1, h3]
theorem ty_zr82 : Zr Try.prog 82 [.nilFunc] := ⟨.nilFunc, rfl, fun w => by obtain ⟨i, h1, h2, h3, h4⟩ := info_parts ty_i82; simp [zeroValue, typeInfo, h1, h2]⟩
theorem ty_sc82 : Sc Try.prog 82 := fun w => by simp [isAgg, run_underlying Try.underlying82]
theorem ty_i84 : (Try.prog.info? 84).map (fun i => (i.zero, i.size, i.bytes)) = some (some (.nilFunc), 1, 8) := by kernel_rfl
theorem ty_sz84 : Sz Try.prog 84 1 := fun w => by obtain ⟨i, h1, h2, h3, h4⟩ := info_parts ty_i84; simp [sizeOf, typeInfo, h1, h3]
theorem ty_zr84 : Zr Try.prog 84 [.nilFunc] := ⟨.nilFunc, rfl, fun w => by obtain ⟨i, h1, h2, h3, h4⟩ := info_parts ty_i84; simp [zeroValue, typeInfo, h1, h2]⟩
theorem ty_sc84 : Sc Try.prog 84 := fun w => by simp [isAgg, run_underlying Try.underlying84]
theorem ty_i86 : (Try.prog.info? 86).map (fun i => (i.zero, i.size, i.bytes)) = some (some (.map none), 1, 8) := by kernel_rfl
theorem ty_sz86 : Sz Try.prog 86 1 := fun w => by obtain ⟨i, h1, h2, h3, h4⟩ := info_parts ty_i86; simp [sizeOf, typeInfo, h1, h3]
theorem ty_zr86 : Zr Try.prog 86 [.map none] := ⟨.map none, rfl, fun w => by obtain ⟨i, h1, h2, h3, h4⟩ := info_parts ty_i86; simp [zeroValue, typeInfo, h1, h2]⟩
theorem ty_sc86 : Sc Try.prog 86 := fun w => by simp [isAgg, run_underlying Try.underlying86]
theorem ty_i87 : (Try.prog.info? 87).map (fun i => (i.zero, i.size, i.bytes)) = some (some (.slice none 0 0), 1, 24) := by kernel_rfl
theorem ty_sz87 : Sz Try.prog 87 1 := fun w => by obtain ⟨i, h1, h2, h3, h4⟩ := info_parts ty_i87; simp [sizeOf, typeInfo, h1, h3]
theorem ty_zr87 : Zr Try.prog 87 [.slice none 0 0] := ⟨.slice none 0 0, rfl, fun w => by obtain ⟨i, h1, h2, h3, h4⟩ := info_parts ty_i87; simp [zeroValue, typeInfo, h1, h2]⟩
theorem ty_sc87 : Sc Try.prog 87 := fun w => by simp [isAgg, run_underlying Try.underlying87]
theorem ty_i88 : (Try.prog.info? 88).map (fun i => (i.zero, i.size, i.bytes)) = some (some (.agg #[.slice none 0 0, .map none, .slice none 0 0, .slice none 0 0]), 4, 80) := by kernel_rfl
theorem ty_sz88 : Sz Try.prog 88 4 := fun w => by obtain ⟨i, h1, h2, h3, h4⟩ := info_parts ty_i88; simp [sizeOf, typeInfo, h1, h3]
theorem ty_zr88 : Zr Try.prog 88 [.slice none 0 0, .map none, .slice none 0 0, .slice none 0 0] := ⟨.agg #[.slice none 0 0, .map none, .slice none 0 0, .slice none 0 0], rfl, fun w => by obtain ⟨i, h1, h2, h3, h4⟩ := info_parts ty_i88; simp [zeroValue, typeInfo, h1, h2]⟩
theorem ty_ag88 : Ag Try.prog 88 4 := ⟨fun w => by simp [isAgg, run_underlying Try.underlying88], ty_sz88⟩
theorem ty_fa88_0 : FieldAt Try.prog 88 0 0 := fieldAt_of 0 0 36 1 Try.underlying88 (by kernel_rfl) ty_sz36 (by kernel_rfl)
theorem ty_fa88_1 : FieldAt Try.prog 88 1 1 := fieldAt_of 1 1 86 1 Try.underlying88 (by kernel_rfl) ty_sz86 (by kernel_rfl)
theorem ty_fa88_2 : FieldAt Try.prog 88 2 2 := fieldAt_of 2 2 43 1 Try.underlying88 (by kernel_rfl) ty_sz43 (by kernel_rfl)
theorem ty_fa88_3 : FieldAt Try.prog 88 3 3 := fieldAt_of 3 3 87 1 Try.underlying88 (by kernel_rfl) ty_sz87 (by kernel_rfl)
theorem ty_i89 : (Try.prog.info? 89).map (fun i => (i.zero, i.size, i.bytes)) = some (some (.agg #[.slice none 0 0, .map none, .slice none 0 0, .slice none 0 0]), 4, 80) := by kernel_rfl
theorem ty_sz89 : Sz Try.prog 89 4 := fun w => by obtain ⟨i, h1, h2, h3, h4⟩ := info_parts ty_i89; simp [sizeOf, typeInfo, h1, h3]
theorem ty_zr89 : Zr Try.prog 89 [.slice none 0 0, .map none, .slice none 0 0, .slice none 0 0] := ⟨.agg #[.slice none 0 0, .map none, .slice none 0 0, .slice none 0 0], rfl, fun w => by obtain ⟨i, h1, h2, h3, h4⟩ := info_parts ty_i89; simp [zeroValue, typeInfo, h1, h2]⟩
theorem ty_ag89 : Ag Try.prog 89 4 := ⟨fun w => by simp [isAgg, run_underlying Try.underlying89], ty_sz89⟩
theorem ty_fa89_0 : FieldAt Try.prog 89 0 0 := fieldAt_of 0 0 36 1 Try.underlying89 (by kernel_rfl) ty_sz36 (by kernel_rfl)
theorem ty_fa89_1 : FieldAt Try.prog 89 1 1 := fieldAt_of 1 1 86 1 Try.underlying89 (by kernel_rfl) ty_sz86 (by kernel_rfl)
theorem ty_fa89_2 : FieldAt Try.prog 89 2 2 := fieldAt_of 2 2 43 1 Try.underlying89 (by kernel_rfl) ty_sz43 (by kernel_rfl)
theorem ty_fa89_3 : FieldAt Try.prog 89 3 3 := fieldAt_of 3 3 87 1 Try.underlying89 (by kernel_rfl) ty_sz87 (by kernel_rfl)
theorem ty_i90 : (Try.prog.info? 90).map (fun i => (i.zero, i.size, i.bytes)) = some (some (.nilFunc), 1, 8) := by kernel_rfl
theorem ty_sz90 : Sz Try.prog 90 1 := fun w => by obtain ⟨i, h1, h2, h3, h4⟩ := info_parts ty_i90; simp [sizeOf, typeInfo, h1, h3]
theorem ty_zr90 : Zr Try.prog 90 [.nilFunc] := ⟨.nilFunc, rfl, fun w => by obtain ⟨i, h1, h2, h3, h4⟩ := info_parts ty_i90; simp [zeroValue, typeInfo, h1, h2]⟩
theorem ty_sc90 : Sc Try.prog 90 := fun w => by simp [isAgg, run_underlying Try.underlying90]
theorem ty_i91 : (Try.prog.info? 91).map (fun i => (i.zero, i.size, i.bytes)) = some (some (.nilFunc), 1, 8) := by kernel_rfl
theorem ty_sz91 : Sz Try.prog 91 1 := fun w => by obtain ⟨i, h1, h2, h3, h4⟩ := info_parts ty_i91; simp [sizeOf, typeInfo, h1, h3]
theorem ty_zr91 : Zr Try.prog 91 [.nilFunc] := ⟨.nilFunc, rfl, fun w => by obtain ⟨i, h1, h2, h3, h4⟩ := info_parts ty_i91; simp [zeroValue, typeInfo, h1, h2]⟩
theorem ty_sc91 : Sc Try.prog 91 := fun w => by simp [isAgg, run_underlying Try.underlying91]
theorem ty_i92 : (Try.prog.info? 92).map (fun i => (i.zero, i.size, i.bytes)) = some (some (.nilFunc), 1, 8) := by kernel_rfl
theorem ty_sz92 : Sz Try.prog 92 1 := fun w => by obtain ⟨i, h1, h2, h3, h4⟩ := info_parts ty_i92; simp [sizeOf, typeInfo, h1, h3]
theorem ty_zr92 : Zr Try.prog 92 [.nilFunc] := ⟨.nilFunc, rfl, fun w => by obtain ⟨i, h1, h2, h3, h4⟩ := info_parts ty_i92; simp [zeroValue, typeInfo, h1, h2]⟩
theorem ty_sc92 : Sc Try.prog 92 := fun w => by simp [isAgg, run_underlying Try.underlying92]
theorem ty_i93 : (Try.prog.info? 93).map (fun i => (i.zero, i.size, i.bytes)) = some (some (.nilFunc), 1, 8) := by kernel_rfl
theorem ty_sz93 : Sz Try.prog 93 1 := fun w => by obtain ⟨i, h1, h2, h3, h4⟩ := info_parts ty_i93; simp [sizeOf, typeInfo, h1, h3]
theorem ty_zr93 : Zr Try.prog 93 [.nilFunc] := ⟨.nilFunc, rfl, fun w => by obtain ⟨i, h1, h2, h3, h4⟩ := info_parts ty_i93; simp [zeroValue, typeInfo, h1, h2]⟩
theorem ty_sc93 : Sc Try.prog 93 := fun w => by simp [isAgg, run_underlying Try.underlying93]
theorem ty_i94 : (Try.prog.info? 94).map (fun i => (i.zero, i.size, i.bytes)) = some (some (.nilFunc), 1, 8) := by kernel_rfl
theorem ty_sz94 : Sz Try.prog 94 1 := fun w => by obtain ⟨i, h1, h2, h3, h4⟩ := info_parts ty_i94; simp [sizeOf, typeInfo, h1, h3]
theorem ty_zr94 : Zr Try.prog 94 [.nilFunc] := ⟨.nilFunc, rfl, fun w => by obtain ⟨i, h1, h2, h3, h4⟩ := info_parts ty_i94; simp [zeroValue, typeInfo, h1, h2]⟩
theorem ty_sc94 : Sc Try.prog 94 := fun w => by simp [isAgg, run_underlying Try.underlying94]
theorem ty_i95 : (Try.prog.info? 95).map (fun i => (i.zero, i.size, i.bytes)) = some (some (.nilFunc), 1, 8) := by kernel_rfl
theorem ty_sz95 : Sz Try.prog 95 1 := fun w => by obtain ⟨i, h1, h2, h3, h4⟩ := info_parts ty_i95; simp [sizeOf, typeInfo, h1, h3]
theorem ty_zr95 : Zr Try.prog 95 [.nilFunc] := ⟨.nilFunc, rfl, fun w => by obtain ⟨i, h1, h2, h3, h4⟩ := info_parts ty_i95; simp [zeroValue, typeInfo, h1, h2]⟩
theorem ty_sc95 : Sc Try.prog 95 := fun w => by simp [isAgg, run_underlying Try.underlying95]
theorem ty_i96 : (Try.prog.info? 96).map (fun i => (i.zero, i.size, i.bytes)) = some (some (.nilFunc), 1, 8) := by kernel_rfl
theorem ty_sz96 : Sz Try.prog 96 1 := fun w => by obtain ⟨i, h1, h2, h3, h4⟩ := info_parts ty_i96; simp [sizeOf, typeInfo, h1, h3]
theorem ty_zr96 : Zr Try.prog 96 [.nilFunc] := ⟨.nilFunc, rfl, fun w => by obtain ⟨i, h1, h2, h3, h4⟩ := info_parts ty_i96; simp [zeroValue, typeInfo, h1, h2]⟩
theorem ty_sc96 : Sc Try.prog 96 := fun w => by simp [isAgg, run_underlying Try.underlying96]
theorem ty_i97 : (Try.prog.info? 97).map (fun i => (i.zero, i.size, i.bytes)) = some (some (.agg #[.int .i64 0, .int .i64 0]), 2, 16) := by kernel_rfl
theorem ty_sz97 : Sz Try.prog 97 2 := fun w => by obtain ⟨i, h1, h2, h3, h4⟩ := info_parts ty_i97; simp [sizeOf, typeInfo, h1, h3]
theorem ty_zr97 : Zr Try.prog 97 [.int .i64 0, .int .i64 0] := ⟨.agg #[.int .i64 0, .int .i64 0], rfl, fun w => by obtain ⟨i, h1, h2, h3, h4⟩ := info_parts ty_i97; simp [zeroValue, typeInfo, h1, h2]⟩
theorem ty_ag97 : Ag Try.prog 97 2 := ⟨fun w => by simp [isAgg, run_underlying Try.underlying97], ty_sz97⟩
theorem ty_fa97_0 : FieldAt Try.prog 97 0 0 := fieldAt_of 0 0 3 1 Try.underlying97 (by kernel_rfl) ty_sz3 (by kernel_rfl)
theorem ty_fa97_1 : FieldAt Try.prog 97 1 1 := fieldAt_of 1 1 3 1 Try.underlying97 (by kernel_rfl) ty_sz3 (by kernel_rfl)
theorem ty_i98 : (Try.prog.info? 98).map (fun i => (i.zero, i.size, i.bytes)) = some (some (.agg #[.int .i64 0, .int .i64 0]), 2, 16) := by kernel_rfl
theorem ty_sz98 : Sz Try.prog 98 2 := fun w => by obtain ⟨i, h1, h2, h3, h4⟩ := info_parts ty_i98; simp [sizeOf, typeInfo, h1, h3]
theorem ty_zr98 : Zr Try.prog 98 [.int .i64 0, .int .i64 0] := ⟨.agg #[.int .i64 0, .int .i64 0], rfl, fun w => by obtain ⟨i, h1, h2, h3, h4⟩ := info_parts ty_i98; simp [zeroValue, typeInfo, h1, h2]⟩
theorem ty_ag98 : Ag Try.prog 98 2 := ⟨fun w => by simp [isAgg, run_underlying Try.underlying98], ty_sz98⟩
theorem ty_fa98_0 : FieldAt Try.prog 98 0 0 := fieldAt_of 0 0 3 1 Try.underlying98 (by kernel_rfl) ty_sz3 (by kernel_rfl)
theorem ty_fa98_1 : FieldAt Try.prog 98 1 1 := fieldAt_of 1 1 3 1 Try.underlying98 (by kernel_rfl) ty_sz3 (by kernel_rfl)
theorem ty_i99 : (Try.prog.info? 99).map (fun i => (i.zero, i.size, i.bytes)) = some (some (.nilFunc), 1, 8) := by kernel_rfl
theorem ty_sz99 : Sz Try.prog 99 1 := fun w => by obtain ⟨i, h1, h2, h3, h4⟩ := info_parts ty_i99; simp [sizeOf, typeInfo, h1, h3]
theorem ty_zr99 : Zr Try.prog 99 [.nilFunc] := ⟨.nilFunc, rfl, fun w => by obtain ⟨i, h1, h2, h3, h4⟩ := info_parts ty_i99; simp [zeroValue, typeInfo, h1, h2]⟩
theorem ty_sc99 : Sc Try.prog 99 := fun w => by simp [isAgg, run_underlying Try.underlying99]
theorem ty_i100 : (Try.prog.info? 100).map (fun i => (i.zero, i.size, i.bytes)) = some (some (.nilFunc), 1, 8) := by kernel_rfl
theorem ty_sz100 : Sz Try.prog 100 1 := fun w => by obtain ⟨i, h1, h2, h3, h4⟩ := info_parts ty_i100; simp [sizeOf, typeInfo, h1, h3]
theorem ty_zr100 : Zr Try.prog 100 [.nilFunc] := ⟨.nilFunc, rfl, fun w => by obtain ⟨i, h1, h2, h3, h4⟩ := info_parts ty_i100; simp [zeroValue, typeInfo, h1, h2]⟩
theorem ty_sc100 : Sc Try.prog 100 := fun w => by simp [isAgg, run_underlying Try.underlying100]
theorem ty_i101 : (Try.prog.info? 101).map (fun i => (i.zero, i.size, i.bytes)) = some (some (.nilFunc), 1, 8) := by kernel_rfl
theorem ty_sz101 : Sz Try.prog 101 1 := fun w => by obtain ⟨i, h1, h2, h3, h4⟩ := info_parts ty_i101; simp [sizeOf, typeInfo, h1, h3]
theorem ty_zr101 : Zr Try.prog 101 [.nilFunc] := ⟨.nilFunc, rfl, fun w => by obtain ⟨i, h1, h2, h3, h4⟩ := info_parts ty_i101; simp [zeroValue, typeInfo, h1, h2]⟩
theorem ty_sc101 : Sc Try.prog 101 := fun w => by simp [isAgg, run_underlying Try.underlying101]
theorem ty_i102 : (Try.prog.info? 102).map (fun i => (i.zero, i.size, i.bytes)) = some (some (.nilFunc), 1, 8) := by kernel_rfl
theorem ty_sz102 : Sz Try.prog 102 1 := fun w => by obtain ⟨i, h1, h2, h3, h4⟩ := info_parts ty_i102; simp [sizeOf, typeInfo, h1, h3]
theorem ty_zr102 : Zr Try.prog 102 [.nilFunc] := ⟨.nilFunc, rfl, fun w => by obtain ⟨i, h1, h2, h3, h4⟩ := info_parts ty_i102; simp [zeroValue, typeInfo, h1, h2]⟩
theorem ty_sc102 : Sc Try.prog 102 := fun w => by simp [isAgg, run_underlying Try.underlying102]
theorem ty_i103 : (Try.prog.info? 103).map (fun i => (i.zero, i.size, i.bytes)) = some (some (.nilFunc), 1, 8) := by kernel_rfl
theorem ty_sz103 : Sz Try.prog 103 1 := fun w => by obtain ⟨i, h1, h2, h3, h4⟩ := info_parts ty_i103; simp [sizeOf, typeInfo, h1, h3]
theorem ty_zr103 : Zr Try.prog 103 [.nilFunc] := ⟨.nilFunc, rfl, fun w => by obtain ⟨i, h1, h2, h3, h4⟩ := info_parts ty_i103; simp [zeroValue, typeInfo, h1, h2]⟩
theorem ty_sc103 : Sc Try.prog 103 := fun w => by simp [isAgg, run_underlying Try.underlying103]
theorem ty_i104 : (Try.prog.info? 104).map (fun i => (i.zero, i.size, i.bytes)) = some (some (.nilFunc), 1, 8) := by kernel_rfl
theorem ty_sz104 : Sz Try.prog 104 1 := fun w => by obtain ⟨i, h1, h2, h3, h4⟩ := info_parts ty_i104; simp [sizeOf, typeInfo, h1, h3]
theorem ty_zr104 : Zr Try.prog 104 [.nilFunc] := ⟨.nilFunc, rfl, fun w => by obtain ⟨i, h1, h2, h3, h4⟩ := info_parts ty_i104; simp [zeroValue, typeInfo, h1, h2]⟩
theorem ty_sc104 : Sc Try.prog 104 := fun w => by simp [isAgg, run_underlying Try.underlying104]
theorem ty_i105 : (Try.prog.info? 105).map (fun i => (i.zero, i.size, i.bytes)) = some (some (.nilFunc), 1, 8) := by kernel_rfl
theorem ty_sz105 : Sz Try.prog 105 1 := fun w => by obtain ⟨i, h1, h2, h3, h4⟩ := info_parts ty_i105; simp [sizeOf, typeInfo, h1, h3]
theorem ty_zr105 : Zr Try.prog 105 [.nilFunc] := ⟨.nilFunc, rfl, fun w => by obtain ⟨i, h1, h2, h3, h4⟩ := info_parts ty_i105; simp [zeroValue, typeInfo, h1, h2]⟩
theorem ty_sc105 : Sc Try.prog 105 := fun w => by simp [isAgg, run_underlying Try.underlying105]
theorem ty_i106 : (Try.prog.info? 106).map (fun i => (i.zero, i.size, i.bytes)) = some (some (.nilFunc), 1, 8) := by kernel_rfl
theorem ty_sz106 : Sz Try.prog 106 1 := fun w => by obtain ⟨i, h1, h2, h3, h4⟩ := info_parts ty_i106; simp [sizeOf, typeInfo, h1, h3]
theorem ty_zr106 : Zr Try.prog 106 [.nilFunc] := ⟨.nilFunc, rfl, fun w => by obtain ⟨i, h1, h2, h3, h4⟩ := info_parts ty_i106; simp [zeroValue, typeInfo, h1, h2]⟩
theorem ty_sc106 : Sc Try.prog 106 := fun w => by simp [isAgg, run_underlying Try.underlying106]
theorem ty_i107 : (Try.prog.info? 107).map (fun i => (i.zero, i.size, i.bytes)) = some (some (.agg #[.int .i64 0, .int .i64 0, .int .i64 0, .int .i64 0, .int .i64 0, .int .i64 0, .int .i64 0, .int .i64 0]), 8, 64) := by kernel_rfl
theorem ty_sz107 : Sz Try.prog 107 8 := fun w => by obtain ⟨i, h1, h2, h3, h4⟩ := info_parts ty_i107; simp [sizeOf, typeInfo, h1, h3]
theorem ty_zr107 : Zr Try.prog 107 [.int .i64 0, .int .i64 0, .int .i64 0, .int .i64 0, .int .i64 0, .int .i64 0, .int .i64 0, .int .i64 0] := ⟨.agg #[.int .i64 0, .int .i64 0, .int .i64 0, .int .i64 0, .int .i64 0, .int .i64 0, .int .i64 0, .int .i64 0], rfl, fun w => by obtain ⟨i, h1, h2, h3, h4⟩ := info_parts ty_i107; simp [zeroValue, typeInfo, h1, h2]⟩
theorem ty_ag107 : Ag Try.prog 107 8 := ⟨fun w => by simp [isAgg, run_underlying Try.underlying107], ty_sz107⟩
theorem ty_i108 : (Try.prog.info? 108).map (fun i => (i.zero, i.size, i.bytes)) = some (some (.agg #[.int .i64 0, .int .i64 0, .int .i64 0, .int .i64 0, .int .i64 0, .int .i64 0, .int .i64 0, .int .i64 0]), 8, 64) := by kernel_rfl
theorem ty_sz108 : Sz Try.prog 108 8 := fun w => by obtain ⟨i, h1, h2, h3, h4⟩ := info_parts ty_i108; simp [sizeOf, typeInfo, h1, h3]
theorem ty_zr108 : Zr Try.prog 108 [.int .i64 0, .int .i64 0, .int .i64 0, .int .i64 0, .int .i64 0, .int .i64 0, .int .i64 0, .int .i64 0] := ⟨.agg #[.int .i64 0, .int .i64 0, .int .i64 0, .int .i64 0, .int .i64 0, .int .i64 0, .int .i64 0, .int .i64 0], rfl, fun w => by obtain ⟨i, h1, h2, h3, h4⟩ := info_parts ty_i108; simp [zeroValue, typeInfo, h1, h2]⟩
theorem ty_ag108 : Ag Try.prog 108 8 := ⟨fun w => by simp [isAgg, run_underlying Try.underlying108], ty_sz108⟩
theorem ty_i110 : (Try.prog.info? 110).map (fun i => (i.zero, i.size, i.bytes)) = some (some (.nilFunc), 1, 8) := by kernel_rfl
theorem ty_sz110 : Sz Try.prog 110 1 := fun w => by obtain ⟨i, h1, h2, h3, h4⟩ := info_parts ty_i110; simp [sizeOf, typeInfo, h1, h3]
theorem ty_zr110 : Zr Try.prog 110 [.nilFunc] := ⟨.nilFunc, rfl, fun w => by obtain ⟨i, h1, h2, h3, h4⟩ := info_parts ty_i110; simp [zeroValue, typeInfo, h1, h2]⟩
theorem ty_sc110 : Sc Try.prog 110 := fun w => by simp [isAgg, run_underlying Try.underlying110]
theorem ty_i111 : (Try.prog.info? 111).map (fun i => (i.zero, i.size, i.bytes)) = some (some (.nilFunc), 1, 8) := by kernel_rfl
theorem ty_sz111 : Sz Try.prog 111 1 := fun w => by obtain ⟨i, h1, h2, h3, h4⟩ := info_parts ty_i111; simp [sizeOf, typeInfo, h1, h3]
theorem ty_zr111 : Zr Try.prog 111 [.nilFunc] := ⟨.nilFunc, rfl, fun w => by obtain ⟨i, h1, h2, h3, h4⟩ := info_parts ty_i111; simp [zeroValue, typeInfo, h1, h2]⟩
theorem ty_sc111 : Sc Try.prog 111 := fun w => by simp [isAgg, run_underlying Try.underlying111]
theorem ty_i112 : (Try.prog.info? 112).map (fun i => (i.zero, i.size, i.bytes)) = some (some (.nilFunc), 1, 8) := by kernel_rfl
theorem ty_sz112 : Sz Try.prog 112 1 := fun w => by obtain ⟨i, h1, h2, h3, h4⟩ := info_parts ty_i112; simp [sizeOf, typeInfo, h1, h3]
theorem ty_zr112 : Zr Try.prog 112 [.nilFunc] := ⟨.nilFunc, rfl, fun w => by obtain ⟨i, h1, h2, h3, h4⟩ := info_parts ty_i112; simp [zeroValue, typeInfo, h1, h2]⟩
theorem ty_sc112 : Sc Try.prog 112 := fun w => by simp [isAgg, run_underlying Try.underlying112]
theorem ty_i113 : (Try.prog.info? 113).map (fun i => (i.zero, i.size, i.bytes)) = some (some (.nilFunc), 1, 8) := by kernel_rfl
theorem ty_sz113 : Sz Try.prog 113 1 := fun w => by obtain ⟨i, h1, h2, h3, h4⟩ := info_parts ty_i113; simp [sizeOf, typeInfo, h1, h3]
theorem ty_zr113 : Zr Try.prog 113 [.nilFunc] := ⟨.nilFunc, rfl, fun w => by obtain ⟨i, h1, h2, h3, h4⟩ := info_parts ty_i113; simp [zeroValue, typeInfo, h1, h2]⟩
theorem ty_sc113 : Sc Try.prog 113 := fun w => by simp [isAgg, run_underlying Try.underlying113]
theorem ty_i114 : (Try.prog.info? 114).map (fun i => (i.zero, i.size, i.bytes)) = some (some (.nilFunc), 1, 8) := by kernel_rfl
theorem ty_sz114 : Sz Try.prog 114 1 := fun w => by obtain ⟨i, h1, h2, h3, h4⟩ := info_parts ty_i114; simp [sizeOf, typeInfo, h1, h3]
theorem ty_zr114 : Zr Try.prog 114 [.nilFunc] := ⟨.nilFunc, rfl, fun w => by obtain ⟨i, h1, h2, h3, h4⟩ := info_parts ty_i114; simp [zeroValue, typeInfo, h1, h2]⟩
theorem ty_sc114 : Sc Try.prog 114 := fun w => by simp [isAgg, run_underlying Try.underlying114]
theorem ty_i115 : (Try.prog.info? 115).map (fun i => (i.zero, i.size, i.bytes)) = some (some (.nilFunc), 1, 8) := by kernel_rfl
theorem ty_sz115 : Sz Try.prog 115 1 := fun w => by obtain ⟨i, h1, h2, h3, h4⟩ := info_parts ty_i115; simp [sizeOf, typeInfo, h1, h3]
theorem ty_zr115 : Zr Try.prog 115 [.nilFunc] := ⟨.nilFunc, rfl, fun w => by obtain ⟨i, h1, h2, h3, h4⟩ := info_parts ty_i115; simp [zeroValue, typeInfo, h1, h2]⟩
theorem ty_sc115 : Sc Try.prog 115 := fun w => by simp [isAgg, run_underlying Try.underlying115]
theorem ty_i116 : (Try.prog.info? 116).map (fun i => (i.zero, i.size, i.bytes)) = some (some (.nilFunc), 1, 8) := by kernel_rfl
theorem ty_sz116 : Sz Try.prog 116 1 := fun w => by obtain ⟨i, h1, h2, h3, h4⟩ := info_parts ty_i116; simp [sizeOf, typeInfo, h1, h3]
theorem ty_zr116 : Zr Try.prog 116 [.nilFunc] := ⟨.nilFunc, rfl, fun w => by obtain ⟨i, h1, h2, h3, h4⟩ := info_parts ty_i116; simp [zeroValue, typeInfo, h1, h2]⟩
theorem ty_sc116 : Sc Try.prog 116 := fun w => by simp [isAgg, run_underlying Try.underlying116]
theorem ty_i117 : (Try.prog.info? 117).map (fun i => (i.zero, i.size, i.bytes)) = some (some (.nilFunc), 1, 8) := by kernel_rfl
theorem ty_sz117 : Sz Try.prog 117 1 := fun w => by obtain ⟨i, h1, h2, h3, h4⟩ := info_parts ty_i117; simp [sizeOf, typeInfo, h1, h3]
theorem ty_zr117 : Zr Try.prog 117 [.nilFunc] := ⟨.nilFunc, rfl, fun w => by obtain ⟨i, h1, h2, h3, h4⟩ := info_parts ty_i117; simp [zeroValue, typeInfo, h1, h2]⟩
theorem ty_sc117 : Sc Try.prog 117 := fun w => by simp [isAgg, run_underlying Try.underlying117]
theorem ty_i118 : (Try.prog.info? 118).map (fun i => (i.zero, i.size, i.bytes)) = some (some (.nilFunc), 1, 8) := by kernel_rfl
theorem ty_sz118 : Sz Try.prog 118 1 := fun w => by obtain ⟨i, h1, h2, h3, h4⟩ := info_parts ty_i118; simp [sizeOf, typeInfo, h1, h3]
theorem ty_zr118 : Zr Try.prog 118 [.nilFunc] := ⟨.nilFunc, rfl, fun w => by obtain ⟨i, h1, h2, h3, h4⟩ := info_parts ty_i118; simp [zeroValue, typeInfo, h1, h2]⟩
theorem ty_sc118 : Sc Try.prog 118 := fun w => by simp [isAgg, run_underlying Try.underlying118]
theorem ty_i119 : (Try.prog.info? 119).map (fun i => (i.zero, i.size, i.bytes)) = some (some (.nilFunc), 1, 8) := by kernel_rfl
theorem ty_sz119 : Sz Try.prog 119 1 := fun w => by obtain ⟨i, h1, h2, h3, h4⟩ := info_parts ty_i119; simp [sizeOf, typeInfo, h1, h3]
theorem ty_zr119 : Zr Try.prog 119 [.nilFunc] := ⟨.nilFunc, rfl, fun w => by obtain ⟨i, h1, h2, h3, h4⟩ := info_parts ty_i119; simp [zeroValue, typeInfo, h1, h2]⟩
theorem ty_sc119 : Sc Try.prog 119 := fun w => by simp [isAgg, run_underlying Try.underlying119]
theorem ty_i120 : (Try.prog.info? 120).map (fun i => (i.zero, i.size, i.bytes)) = some (some (.nilFunc), 1, 8) := by kernel_rfl
theorem ty_sz120 : Sz Try.prog 120 1 := fun w => by obtain ⟨i, h1, h2, h3, h4⟩ := info_parts ty_i120; simp [sizeOf, typeInfo, h1, h3]
theorem ty_zr120 : Zr Try.prog 120 [.nilFunc] := ⟨.nilFunc, rfl, fun w => by obtain ⟨i, h1, h2, h3, h4⟩ := info_parts ty_i120; simp [zeroValue, typeInfo, h1, h2]⟩
theorem ty_sc120 : Sc Try.prog 120 := fun w => by simp [isAgg, run_underlying Try.underlying120]
theorem ty_i121 : (Try.prog.info? 121).map (fun i => (i.zero, i.size, i.bytes)) = some (some (.nilFunc), 1, 8) := by kernel_rfl
theorem ty_sz121 : Sz Try.prog 121 1 := fun w => by obtain ⟨i, h1, h2, h3, h4⟩ := info_parts ty_i121; simp [sizeOf, typeInfo, h1, h3]
theorem ty_zr121 : Zr Try.prog 121 [.nilFunc] := ⟨.nilFunc, rfl, fun w => by obtain ⟨i, h1, h2, h3, h4⟩ := info_parts ty_i121; simp [zeroValue, typeInfo, h1, h2]⟩
theorem ty_sc121 : Sc Try.prog 121 := fun w => by simp [isAgg, run_underlying Try.underlying121]
theorem ty_i122 : (Try.prog.info? 122).map (fun i => (i.zero, i.size, i.bytes)) = some (some (.nilFunc), 1, 8) := by kernel_rfl
theorem ty_sz122 : Sz Try.prog 122 1 := fun w => by obtain ⟨i, h1, h2, h3, h4⟩ := info_parts ty_i122; simp [sizeOf, typeInfo, h1, h3]
theorem ty_zr122 : Zr Try.prog 122 [.nilFunc] := ⟨.nilFunc, rfl, fun w => by obtain ⟨i, h1, h2, h3, h4⟩ := info_parts ty_i122; simp [zeroValue, typeInfo, h1, h2]⟩
theorem ty_sc122 : Sc Try.prog 122 := fun w => by simp [isAgg, run_underlying Try.underlying122]
theorem ty_i123 : (Try.prog.info? 123).map (fun i => (i.zero, i.size, i.bytes)) = some (some (.nilFunc), 1, 8) := by kernel_rfl
theorem ty_sz123 : Sz Try.prog 123 1 := fun w => by obtain ⟨i, h1, h2, h3, h4⟩ := info_parts ty_i123; simp [sizeOf, typeInfo, h1, h3]
theorem ty_zr123 : Zr Try.prog 123 [.nilFunc] := ⟨.nilFunc, rfl, fun w => by obtain ⟨i, h1, h2, h3, h4⟩ := info_parts ty_i123; simp [zeroValue, typeInfo, h1, h2]⟩
theorem ty_sc123 : Sc Try.prog 123 := fun w => by simp [isAgg, run_underlying Try.underlying123]
theorem ty_i124 : (Try.prog.info? 124).map (fun i => (i.zero, i.size, i.bytes)) = some (some (.int .u64 0), 1, 8) := by kernel_rfl
theorem ty_sz124 : Sz Try.prog 124 1 := fun w => by obtain ⟨i, h1, h2, h3, h4⟩ := info_parts ty_i124; simp [sizeOf, typeInfo, h1, h3]
theorem ty_zr124 : Zr Try.prog 124 [.int .u64 0] := ⟨.int .u64 0, rfl, fun w => by obtain ⟨i, h1, h2, h3, h4⟩ := info_parts ty_i124; simp [zeroValue, typeInfo, h1, h2]⟩
theorem ty_sc124 : Sc Try.prog 124 := fun w => by simp [isAgg, run_underlying Try.underlying124]
theorem ty_i125 : (Try.prog.info? 125).map (fun i => (i.zero, i.size, i.bytes)) = some (some (.nilFunc), 1, 8) := by kernel_rfl
theorem ty_sz125 : Sz Try.prog 125 1 := fun w => by obtain ⟨i, h1, h2, h3, h4⟩ := info_parts ty_i125; simp [sizeOf, typeInfo, h1, h3]
theorem ty_zr125 : Zr Try.prog 125 [.nilFunc] := ⟨.nilFunc, rfl, fun w => by obtain ⟨i, h1, h2, h3, h4⟩ := info_parts ty_i125; simp [zeroValue, typeInfo, h1, h2]⟩
theorem ty_sc125 : Sc Try.prog 125 := fun w => by simp [isAgg, run_underlying Try.underlying125]
theorem ty_i126 : (Try.prog.info? 126).map (fun i => (i.zero, i.size, i.bytes)) = some (some (.nilFunc), 1, 8) := by kernel_rfl
theorem ty_sz126 : Sz Try.prog 126 1 := fun w => by obtain ⟨i, h1, h2, h3, h4⟩ := info_parts ty_i126; simp [sizeOf, typeInfo, h1, h3]
theorem ty_zr126 : Zr Try.prog 126 [.nilFunc] := ⟨.nilFunc, rfl, fun w => by obtain ⟨i, h1, h2, h3, h4⟩ := info_parts ty_i126; simp [zeroValue, typeInfo, h1, h2]⟩
theorem ty_sc126 : Sc Try.prog 126 := fun w => by simp [isAgg, run_underlying Try.underlying126]
theorem ty_i127 : (Try.prog.info? 127).map (fun i => (i.zero, i.size, i.bytes)) = some (some (.int .i64 0), 1, 8) := by kernel_rfl
theorem ty_sz127 : Sz Try.prog 127 1 := fun w => by obtain ⟨i, h1, h2, h3, h4⟩ := info_parts ty_i127; simp [sizeOf, typeInfo, h1, h3]
theorem ty_zr127 : Zr Try.prog 127 [.int .i64 0] := ⟨.int .i64 0, rfl, fun w => by obtain ⟨i, h1, h2, h3, h4⟩ := info_parts ty_i127; simp [zeroValue, typeInfo, h1, h2]⟩
theorem ty_sc127 : Sc Try.prog 127 := fun w => by simp [isAgg, run_underlying Try.underlying127]
theorem ty_i129 : (Try.prog.info? 129).map (fun i => (i.zero, i.size, i.bytes)) = some (some (.nilFunc), 1, 8) := by kernel_rfl
theorem ty_sz129 : Sz Try.prog 129 1 := fun w => by obtain ⟨i, h1, h2, h3, h4⟩ := info_parts ty_i129; simp [sizeOf, typeInfo, h1, h3]
theorem ty_zr129 : Zr Try.prog 129 [.nilFunc] := ⟨.nilFunc, rfl, fun w => by obtain ⟨i, h1, h2, h3, h4⟩ := info_parts ty_i129; simp [zeroValue, typeInfo, h1, h2]⟩
theorem ty_sc129 : Sc Try.prog 129 := fun w => by simp [isAgg, run_underlying Try.underlying129]
theorem ty_i130 : (Try.prog.info? 130).map (fun i => (i.zero, i.size, i.bytes)) = some (some (.nilFunc), 1, 8) := by kernel_rfl
theorem ty_sz130 : Sz Try.prog 130 1 := fun w => by obtain ⟨i, h1, h2, h3, h4⟩ := info_parts ty_i130; simp [sizeOf, typeInfo, h1, h3]
theorem ty_zr130 : Zr Try.prog 130 [.nilFunc] := ⟨.nilFunc, rfl, fun w => by obtain ⟨i, h1, h2, h3, h4⟩ := info_parts ty_i130; simp [zeroValue, typeInfo, h1, h2]⟩
theorem ty_sc130 : Sc Try.prog 130 := fun w => by simp [isAgg, run_underlying Try.underlying130]
theorem ty_i131 : (Try.prog.info? 131).map (fun i => (i.zero, i.size, i.bytes)) = some (some (.nilFunc), 1, 8) := by kernel_rfl
theorem ty_sz131 : Sz Try.prog 131 1 := fun w => by obtain ⟨i, h1, h2, h3, h4⟩ := info_parts ty_i131; simp [sizeOf, typeInfo, h1, h3]
theorem ty_zr131 : Zr Try.prog 131 [.nilFunc] := ⟨.nilFunc, rfl, fun w => by obtain ⟨i, h1, h2, h3, h4⟩ := info_parts ty_i131; simp [zeroValue, typeInfo, h1, h2]⟩
theorem ty_sc131 : Sc Try.prog 131 := fun w => by simp [isAgg, run_underlying Try.underlying131]
theorem ty_i132 : (Try.prog.info? 132).map (fun i => (i.zero, i.size, i.bytes)) = some (some (.nilFunc), 1, 8) := by kernel_rfl
theorem ty_sz132 : Sz Try.prog 132 1 := fun w => by obtain ⟨i, h1, h2, h3, h4⟩ := info_parts ty_i132; simp [sizeOf, typeInfo, h1, h3]
theorem ty_zr132 : Zr Try.prog 132 [.nilFunc] := ⟨.nilFunc, rfl, fun w => by obtain ⟨i, h1, h2, h3, h4⟩ := info_parts ty_i132; simp [zeroValue, typeInfo, h1, h2]⟩
theorem ty_sc132 : Sc Try.prog 132 := fun w => by simp [isAgg, run_underlying Try.underlying132]
theorem ty_i133 : (Try.prog.info? 133).map (fun i => (i.zero, i.size, i.bytes)) = some (some (.nilFunc), 1, 8) := by kernel_rfl
theorem ty_sz133 : Sz Try.prog 133 1 := fun w => by obtain ⟨i, h1, h2, h3, h4⟩ := info_parts ty_i133; simp [sizeOf, typeInfo, h1, h3]
theorem ty_zr133 : Zr Try.prog 133 [.nilFunc] := ⟨.nilFunc, rfl, fun w => by obtain ⟨i, h1, h2, h3, h4⟩ := info_parts ty_i133; simp [zeroValue, typeInfo, h1, h2]⟩
theorem ty_sc133 : Sc Try.prog 133 := fun w => by simp [isAgg, run_underlying Try.underlying133]
theorem ty_i134 : (Try.prog.info? 134).map (fun i => (i.zero, i.size, i.bytes)) = some (some (.int .u32 0), 1, 4) := by kernel_rfl
theorem ty_sz134 : Sz Try.prog 134 1 := fun w => by obtain ⟨i, h1, h2, h3, h4⟩ := info_parts ty_i134; simp [sizeOf, typeInfo, h1, h3]
theorem ty_zr134 : Zr Try.prog 134 [.int .u32 0] := ⟨.int .u32 0, rfl, fun w => by obtain ⟨i, h1, h2, h3, h4⟩ := info_parts ty_i134; simp [zeroValue, typeInfo, h1, h2]⟩
theorem ty_sc134 : Sc Try.prog 134 := fun w => by simp [isAgg, run_underlying Try.underlying134]
theorem ty_i135 : (Try.prog.info? 135).map (fun i => (i.zero, i.size, i.bytes)) = some (some (.nilFunc), 1, 8) := by kernel_rfl
theorem ty_sz135 : Sz Try.prog 135 1 := fun w => by obtain ⟨i, h1, h2, h3, h4⟩ := info_parts ty_i135; simp [sizeOf, typeInfo, h1, h3]
theorem ty_zr135 : Zr Try.prog 135 [.nilFunc] := ⟨.nilFunc, rfl, fun w => by obtain ⟨i, h1, h2, h3, h4⟩ := info_parts ty_i135; simp [zeroValue, typeInfo, h1, h2]⟩
theorem ty_sc135 : Sc Try.prog 135 := fun w => by simp [isAgg, run_underlying Try.underlying135]
theorem ty_i136 : (Try.prog.info? 136).map (fun i => (i.zero, i.size, i.bytes)) = some (some (.int .u64 0), 1, 8) := by kernel_rfl
theorem ty_sz136 : Sz Try.prog 136 1 := fun w => by obtain ⟨i, h1, h2, h3, h4⟩ := info_parts ty_i136; simp [sizeOf, typeInfo, h1, h3]
theorem ty_zr136 : Zr Try.prog 136 [.int .u64 0] := ⟨.int .u64 0, rfl, fun w => by obtain ⟨i, h1, h2, h3, h4⟩ := info_parts ty_i136; simp [zeroValue, typeInfo, h1, h2]⟩
theorem ty_sc136 : Sc Try.prog 136 := fun w => by simp [isAgg, run_underlying Try.underlying136]
theorem ty_i137 : (Try.prog.info? 137).map (fun i => (i.zero, i.size, i.bytes)) = some (some (.int .u64 0), 1, 8) := by kernel_rfl
theorem ty_sz137 : Sz Try.prog 137 1 := fun w => by obtain ⟨i, h1, h2, h3, h4⟩ := info_parts ty_i137; simp [sizeOf, typeInfo, h1, h3]
theorem ty_zr137 : Zr Try.prog 137 [.int .u64 0] := ⟨.int .u64 0, rfl, fun w => by obtain ⟨i, h1, h2, h3, h4⟩ := info_parts ty_i137; simp [zeroValue, typeInfo, h1, h2]⟩
theorem ty_sc137 : Sc Try.prog 137 := fun w => by simp [isAgg, run_underlying Try.underlying137]
theorem ty_i138 : (Try.prog.info? 138).map (fun i => (i.zero, i.size, i.bytes)) = some (some (.nilFunc), 1, 8) := by kernel_rfl
theorem ty_sz138 : Sz Try.prog 138 1 := fun w => by obtain ⟨i, h1, h2, h3, h4⟩ := info_parts ty_i138; simp [sizeOf, typeInfo, h1, h3]
theorem ty_zr138 : Zr Try.prog 138 [.nilFunc] := ⟨.nilFunc, rfl, fun w => by obtain ⟨i, h1, h2, h3, h4⟩ := info_parts ty_i138; simp [zeroValue, typeInfo, h1, h2]⟩
theorem ty_sc138 : Sc Try.prog 138 := fun w => by simp [isAgg, run_underlying Try.underlying138]
theorem ty_i139 : (Try.prog.info? 139).map (fun i => (i.zero, i.size, i.bytes)) = some (some (.nilFunc), 1, 8) := by kernel_rfl
theorem ty_sz139 : Sz Try.prog 139 1 := fun w => by obtain ⟨i, h1, h2, h3, h4⟩ := info_parts ty_i139; simp [sizeOf, typeInfo, h1, h3]
theorem ty_zr139 : Zr Try.prog 139 [.nilFunc] := ⟨.nilFunc, rfl, fun w => by obtain ⟨i, h1, h2, h3, h4⟩ := info_parts ty_i139; simp [zeroValue, typeInfo, h1, h2]⟩
theorem ty_sc139 : Sc Try.prog 139 := fun w => by simp [isAgg, run_underlying Try.underlying139]
theorem ty_i140 : (Try.prog.info? 140).map (fun i => (i.zero, i.size, i.bytes)) = some (some (.nilFunc), 1, 8) := by kernel_rfl
theorem ty_sz140 : Sz Try.prog 140 1 := fun w => by obtain ⟨i, h1, h2, h3, h4⟩ := info_parts ty_i140; simp [sizeOf, typeInfo, h1, h3]
theorem ty_zr140 : Zr Try.prog 140 [.nilFunc] := ⟨.nilFunc, rfl, fun w => by obtain ⟨i, h1, h2, h3, h4⟩ := info_parts ty_i140; simp [zeroValue, typeInfo, h1, h2]⟩
theorem ty_sc140 : Sc Try.prog 140 := fun w => by simp [isAgg, run_underlying Try.underlying140]
theorem ty_i141 : (Try.prog.info? 141).map (fun i => (i.zero, i.size, i.bytes)) = some (some (.pointer none), 1, 8) := by kernel_rfl
theorem ty_sz141 : Sz Try.prog 141 1 := fun w => by obtain ⟨i, h1, h2, h3, h4⟩ := info_parts ty_i141; simp [sizeOf, typeInfo, h1, h3]
theorem ty_zr141 : Zr Try.prog 141 [.pointer none] := ⟨.pointer none, rfl, fun w => by obtain ⟨i, h1, h2, h3, h4⟩ := info_parts ty_i141; simp [zeroValue, typeInfo, h1, h2]⟩
theorem ty_sc141 : Sc Try.prog 141 := fun w => by simp [isAgg, run_underlying Try.underlying141]
theorem ty_i142 : (Try.prog.info? 142).map (fun i => (i.zero, i.size, i.bytes)) = some (some (.nilFunc), 1, 8) := by kernel_rfl
theorem ty_sz142 : Sz Try.prog 142 1 := fun w => by obtain ⟨i, h1, h2, h3, h4⟩ := info_parts ty_i142; simp [sizeOf, typeInfo, h1, h3]
theorem ty_zr142 : Zr Try.prog 142 [.nilFunc] := ⟨.nilFunc, rfl, fun w => by obtain ⟨i, h1, h2, h3, h4⟩ := info_parts ty_i142; simp [zeroValue, typeInfo, h1, h2]⟩
theorem ty_sc142 : Sc Try.prog 142 := fun w => by simp [isAgg, run_underlying Try.underlying142]
theorem ty_i143 : (Try.prog.info? 143).map (fun i => (i.zero, i.size, i.bytes)) = some (some (.pointer none), 1, 8) := by kernel_rfl
theorem ty_sz143 : Sz Try.prog 143 1 := fun w => by obtain ⟨i, h1, h2, h3, h4⟩ := info_parts ty_i143; simp [sizeOf, typeInfo, h1, h3]
theorem ty_zr143 : Zr Try.prog 143 [.pointer none] := ⟨.pointer none, rfl, fun w => by obtain ⟨i, h1, h2, h3, h4⟩ := info_parts ty_i143; simp [zeroValue, typeInfo, h1, h2]⟩
theorem ty_sc143 : Sc Try.prog 143 := fun w => by simp [isAgg, run_underlying Try.underlying143]
theorem ty_i145 : (Try.prog.info? 145).map (fun i => (i.zero, i.size, i.bytes)) = some (some (.nilFunc), 1, 8) := by kernel_rfl
theorem ty_sz145 : Sz Try.prog 145 1 := fun w => by obtain ⟨i, h1, h2, h3, h4⟩ := info_parts ty_i145; simp [sizeOf, typeInfo, h1, h3]
theorem ty_zr145 : Zr Try.prog 145 [.nilFunc] := ⟨.nilFunc, rfl, fun w => by obtain ⟨i, h1, h2, h3, h4⟩ := info_parts ty_i145; simp [zeroValue, typeInfo, h1, h2]⟩
theorem ty_sc145 : Sc Try.prog 145 := fun w => by simp [isAgg, run_underlying Try.underlying145]
theorem ty_i146 : (Try.prog.info? 146).map (fun i => (i.zero, i.size, i.bytes)) = some (some (.nilFunc), 1, 8) := by kernel_rfl
theorem ty_sz146 : Sz Try.prog 146 1 := fun w => by obtain ⟨i, h1, h2, h3, h4⟩ := info_parts ty_i146; simp [sizeOf, typeInfo, h1, h3]
theorem ty_zr146 : Zr Try.prog 146 [.nilFunc] := ⟨.nilFunc, rfl, fun w => by obtain ⟨i, h1, h2, h3, h4⟩ := info_parts ty_i146; simp [zeroValue, typeInfo, h1, h2]⟩
theorem ty_sc146 : Sc Try.prog 146 := fun w => by simp [isAgg, run_underlying Try.underlying146]
theorem ty_i147 : (Try.prog.info? 147).map (fun i => (i.zero, i.size, i.bytes)) = some (some (.agg #[.pointer none, .pointer none, .pointer none, .string ⟨#[]⟩]), 4, 40) := by kernel_rfl
theorem ty_sz147 : Sz Try.prog 147 4 := fun w => by obtain ⟨i, h1, h2, h3, h4⟩ := info_parts ty_i147; simp [sizeOf, typeInfo, h1, h3]
theorem ty_zr147 : Zr Try.prog 147 [.pointer none, .pointer none, .pointer none, .string ⟨#[]⟩] := ⟨.agg #[.pointer none, .pointer none, .pointer none, .string ⟨#[]⟩], rfl, fun w => by obtain ⟨i, h1, h2, h3, h4⟩ := info_parts ty_i147; simp [zeroValue, typeInfo, h1, h2]⟩
theorem ty_ag147 : Ag Try.prog 147 4 := ⟨fun w => by simp [isAgg, run_underlying Try.underlying147], ty_sz147⟩
theorem ty_fa147_0 : FieldAt Try.prog 147 0 0 := fieldAt_of 0 0 17 1 Try.underlying147 (by kernel_rfl) ty_sz17 (by kernel_rfl)
theorem ty_fa147_1 : FieldAt Try.prog 147 1 1 := fieldAt_of 1 1 17 1 Try.underlying147 (by kernel_rfl) ty_sz17 (by kernel_rfl)
theorem ty_fa147_2 : FieldAt Try.prog 147 2 2 := fieldAt_of 2 2 17 1 Try.underlying147 (by kernel_rfl) ty_sz17 (by kernel_rfl)
theorem ty_fa147_3 : FieldAt Try.prog 147 3 3 := fieldAt_of 3 3 9 1 Try.underlying147 (by kernel_rfl) ty_sz9 (by kernel_rfl)
theorem ty_i148 : (Try.prog.info? 148).map (fun i => (i.zero, i.size, i.bytes)) = some (some (.agg #[.pointer none, .pointer none, .pointer none, .string ⟨#[]⟩]), 4, 40) := by kernel_rfl
theorem ty_sz148 : Sz Try.prog 148 4 := fun w => by obtain ⟨i, h1, h2, h3, h4⟩ := info_parts ty_i148; simp [sizeOf, typeInfo, h1, h3]
theorem ty_zr148 : Zr Try.prog 148 [.pointer none, .pointer none, .pointer none, .string ⟨#[]⟩] := ⟨.agg #[.pointer none, .pointer none, .pointer none, .string ⟨#[]⟩], rfl, fun w => by obtain ⟨i, h1, h2, h3, h4⟩ := info_parts ty_i148; simp [zeroValue, typeInfo, h1, h2]⟩
theorem ty_ag148 : Ag Try.prog 148 4 := ⟨fun w => by simp [isAgg, run_underlying Try.underlying148], ty_sz148⟩
theorem ty_fa148_0 : FieldAt Try.prog 148 0 0 := fieldAt_of 0 0 17 1 Try.underlying148 (by kernel_rfl) ty_sz17 (by kernel_rfl)
theorem ty_fa148_1 : FieldAt Try.prog 148 1 1 := fieldAt_of 1 1 17 1 Try.underlying148 (by kernel_rfl) ty_sz17 (by kernel_rfl)
theorem ty_fa148_2 : FieldAt Try.prog 148 2 2 := fieldAt_of 2 2 17 1 Try.underlying148 (by kernel_rfl) ty_sz17 (by kernel_rfl)
theorem ty_fa148_3 : FieldAt Try.prog 148 3 3 := fieldAt_of 3 3 9 1 Try.underlying148 (by kernel_rfl) ty_sz9 (by kernel_rfl)
theorem ty_i149 : (Try.prog.info? 149).map (fun i => (i.zero, i.size, i.bytes)) = some (some (.agg #[]), 0, 0) := by kernel_rfl
theorem ty_sz149 : Sz Try.prog 149 0 := fun w => by obtain ⟨i, h1, h2, h3, h4⟩ := info_parts ty_i149; simp [sizeOf, typeInfo, h1, h3]
theorem ty_zr149 : Zr Try.prog 149 [] := ⟨.agg #[], rfl, fun w => by obtain ⟨i, h1, h2, h3, h4⟩ := info_parts ty_i149; simp [zeroValue, typeInfo, h1, h2]⟩
theorem ty_ag149 : Ag Try.prog 149 0 := ⟨fun w => by simp [isAgg, run_underlying Try.underlying149], ty_sz149⟩
theorem ty_i150 : (Try.prog.info? 150).map (fun i => (i.zero, i.size, i.bytes)) = some (some (.agg #[]), 0, 0) := by kernel_rfl
theorem ty_sz150 : Sz Try.prog 150 0 := fun w => by obtain ⟨i, h1, h2, h3, h4⟩ := info_parts ty_i150; simp [sizeOf, typeInfo, h1, h3]
theorem ty_zr150 : Zr Try.prog 150 [] := ⟨.agg #[], rfl, fun w => by obtain ⟨i, h1, h2, h3, h4⟩ := info_parts ty_i150; simp [zeroValue, typeInfo, h1, h2]⟩
theorem ty_ag150 : Ag Try.prog 150 0 := ⟨fun w => by simp [isAgg, run_underlying Try.underlying150], ty_sz150⟩
theorem ty_i151 : (Try.prog.info? 151).map (fun i => (i.zero, i.size, i.bytes)) = some (some (.agg #[]), 0, 0) := by kernel_rfl
theorem ty_sz151 : Sz Try.prog 151 0 := fun w => by obtain ⟨i, h1, h2, h3, h4⟩ := info_parts ty_i151; simp [sizeOf, typeInfo, h1, h3]
theorem ty_zr151 : Zr Try.prog 151 [] := ⟨.agg #[], rfl, fun w => by obtain ⟨i, h1, h2, h3, h4⟩ := info_parts ty_i151; simp [zeroValue, typeInfo, h1, h2]⟩
theorem ty_ag151 : Ag Try.prog 151 0 := ⟨fun w => by simp [isAgg, run_underlying Try.underlying151], ty_sz151⟩
theorem ty_i152 : (Try.prog.info? 152).map (fun i => (i.zero, i.size, i.bytes)) = some (some (.nilFunc), 1, 8) := by kernel_rfl
theorem ty_sz152 : Sz Try.prog 152 1 := fun w => by obtain ⟨i, h1, h2, h3, h4⟩ := info_parts ty_i152; simp [sizeOf, typeInfo, h1, h3]
theorem ty_zr152 : Zr Try.prog 152 [.nilFunc] := ⟨.nilFunc, rfl, fun w => by obtain ⟨i, h1, h2, h3, h4⟩ := info_parts ty_i152; simp [zeroValue, typeInfo, h1, h2]⟩
theorem ty_sc152 : Sc Try.prog 152 := fun w => by simp [isAgg, run_underlying Try.underlying152]
theorem ty_i153 : (Try.prog.info? 153).map (fun i => (i.zero, i.size, i.bytes)) = some (some (.int .u8 0), 1, 1) := by kernel_rfl
theorem ty_sz153 : Sz Try.prog 153 1 := fun w => by obtain ⟨i, h1, h2, h3, h4⟩ := info_parts ty_i153; simp [sizeOf, typeInfo, h1, h3]
theorem ty_zr153 : Zr Try.prog 153 [.int .u8 0] := ⟨.int .u8 0, rfl, fun w => by obtain ⟨i, h1, h2, h3, h4⟩ := info_parts ty_i153; simp [zeroValue, typeInfo, h1, h2]⟩
theorem ty_sc153 : Sc Try.prog 153 := fun w => by simp [isAgg, run_underlying Try.underlying153]
theorem ty_i154 : (Try.prog.info? 154).map (fun i => (i.zero, i.size, i.bytes)) = some (some (.int .u8 0), 1, 1) := by kernel_rfl
theorem ty_sz154 : Sz Try.prog 154 1 := fun w => by obtain ⟨i, h1, h2, h3, h4⟩ := info_parts ty_i154; simp [sizeOf, typeInfo, h1, h3]
theorem ty_zr154 : Zr Try.prog 154 [.int .u8 0] := ⟨.int .u8 0, rfl, fun w => by obtain ⟨i, h1, h2, h3, h4⟩ := info_parts ty_i154; simp [zeroValue, typeInfo, h1, h2]⟩
theorem ty_sc154 : Sc Try.prog 154 := fun w => by simp [isAgg, run_underlying Try.underlying154]
theorem ty_i155 : (Try.prog.info? 155).map (fun i => (i.zero, i.size, i.bytes)) = some (some (.nilFunc), 1, 8) := by kernel_rfl
theorem ty_sz155 : Sz Try.prog 155 1 := fun w => by obtain ⟨i, h1, h2, h3, h4⟩ := info_parts ty_i155; simp [sizeOf, typeInfo, h1, h3]
theorem ty_zr155 : Zr Try.prog 155 [.nilFunc] := ⟨.nilFunc, rfl, fun w => by obtain ⟨i, h1, h2, h3, h4⟩ := info_parts ty_i155; simp [zeroValue, typeInfo, h1, h2]⟩
theorem ty_sc155 : Sc Try.prog 155 := fun w => by simp [isAgg, run_underlying Try.underlying155]
theorem ty_i156 : (Try.prog.info? 156).map (fun i => (i.zero, i.size, i.bytes)) = some (some (.pointer none), 1, 8) := by kernel_rfl
theorem ty_sz156 : Sz Try.prog 156 1 := fun w => by obtain ⟨i, h1, h2, h3, h4⟩ := info_parts ty_i156; simp [sizeOf, typeInfo, h1, h3]
theorem ty_zr156 : Zr Try.prog 156 [.pointer none] := ⟨.pointer none, rfl, fun w => by obtain ⟨i, h1, h2, h3, h4⟩ := info_parts ty_i156; simp [zeroValue, typeInfo, h1, h2]⟩
theorem ty_sc156 : Sc Try.prog 156 := fun w => by simp [isAgg, run_underlying Try.underlying156]
theorem ty_i157 : (Try.prog.info? 157).map (fun i => (i.zero, i.size, i.bytes)) = some (some (.int .i32 0), 1, 4) := by kernel_rfl
theorem ty_sz157 : Sz Try.prog 157 1 := fun w => by obtain ⟨i, h1, h2, h3, h4⟩ := info_parts ty_i157; simp [sizeOf, typeInfo, h1, h3]
theorem ty_zr157 : Zr Try.prog 157 [.int .i32 0] := ⟨.int .i32 0, rfl, fun w => by obtain ⟨i, h1, h2, h3, h4⟩ := info_parts ty_i157; simp [zeroValue, typeInfo, h1, h2]⟩
theorem ty_sc157 : Sc Try.prog 157 := fun w => by simp [isAgg, run_underlying Try.underlying157]
theorem ty_i158 : (Try.prog.info? 158).map (fun i => (i.zero, i.size, i.bytes)) = some (some (.int .i32 0), 1, 4) := by kernel_rfl
theorem ty_sz158 : Sz Try.prog 158 1 := fun w => by obtain ⟨i, h1, h2, h3, h4⟩ := info_parts ty_i158; simp [sizeOf, typeInfo, h1, h3]
theorem ty_zr158 : Zr Try.prog 158 [.int .i32 0] := ⟨.int .i32 0, rfl, fun w => by obtain ⟨i, h1, h2, h3, h4⟩ := info_parts ty_i158; simp [zeroValue, typeInfo, h1, h2]⟩
theorem ty_sc158 : Sc Try.prog 158 := fun w => by simp [isAgg, run_underlying Try.underlying158]
theorem ty_i159 : (Try.prog.info? 159).map (fun i => (i.zero, i.size, i.bytes)) = some (some (.agg #[.int .u64 0, .int .u64 0, .int .u32 0, .int .u8 0, .int .u8 0, .int .u8 0, .int .u8 0, .nilFunc, .pointer none, .int .i32 0, .int .i32 0]), 11, 48) := by kernel_rfl
theorem ty_sz159 : Sz Try.prog 159 11 := fun w => by obtain ⟨i, h1, h2, h3, h4⟩ := info_parts ty_i159; simp [sizeOf, typeInfo, h1, h3]
theorem ty_zr159 : Zr Try.prog 159 [.int .u64 0, .int .u64 0, .int .u32 0, .int .u8 0, .int .u8 0, .int .u8 0, .int .u8 0, .nilFunc, .pointer none, .int .i32 0, .int .i32 0] := ⟨.agg #[.int .u64 0, .int .u64 0, .int .u32 0, .int .u8 0, .int .u8 0, .int .u8 0, .int .u8 0, .nilFunc, .pointer none, .int .i32 0, .int .i32 0], rfl, fun w => by obtain ⟨i, h1, h2, h3, h4⟩ := info_parts ty_i159; simp [zeroValue, typeInfo, h1, h2]⟩
theorem ty_ag159 : Ag Try.prog 159 11 := ⟨fun w => by simp [isAgg, run_underlying Try.underlying159], ty_sz159⟩
theorem ty_fa159_0 : FieldAt Try.prog 159 0 0 := fieldAt_of 0 0 12 1 Try.underlying159 (by kernel_rfl) ty_sz12 (by kernel_rfl)
theorem ty_fa159_1 : FieldAt Try.prog 159 1 1 := fieldAt_of 1 1 12 1 Try.underlying159 (by kernel_rfl) ty_sz12 (by kernel_rfl)
theorem ty_fa159_2 : FieldAt Try.prog 159 2 2 := fieldAt_of 2 2 134 1 Try.underlying159 (by kernel_rfl) ty_sz134 (by kernel_rfl)
theorem ty_fa159_3 : FieldAt Try.prog 159 3 3 := fieldAt_of 3 3 153 1 Try.underlying159 (by kernel_rfl) ty_sz153 (by kernel_rfl)
theorem ty_fa159_4 : FieldAt Try.prog 159 4 4 := fieldAt_of 4 4 5 1 Try.underlying159 (by kernel_rfl) ty_sz5 (by kernel_rfl)
theorem ty_fa159_5 : FieldAt Try.prog 159 5 5 := fieldAt_of 5 5 5 1 Try.underlying159 (by kernel_rfl) ty_sz5 (by kernel_rfl)
theorem ty_fa159_6 : FieldAt Try.prog 159 6 6 := fieldAt_of 6 6 154 1 Try.underlying159 (by kernel_rfl) ty_sz154 (by kernel_rfl)
theorem ty_fa159_7 : FieldAt Try.prog 159 7 7 := fieldAt_of 7 7 155 1 Try.underlying159 (by kernel_rfl) ty_sz155 (by kernel_rfl)
theorem ty_fa159_8 : FieldAt Try.prog 159 8 8 := fieldAt_of 8 8 156 1 Try.underlying159 (by kernel_rfl) ty_sz156 (by kernel_rfl)
theorem ty_fa159_9 : FieldAt Try.prog 159 9 9 := fieldAt_of 9 9 157 1 Try.underlying159 (by kernel_rfl) ty_sz157 (by kernel_rfl)
theorem ty_fa159_10 : FieldAt Try.prog 159 10 10 := fieldAt_of 10 10 158 1 Try.underlying159 (by kernel_rfl) ty_sz158 (by kernel_rfl)
theorem ty_i160 : (Try.prog.info? 160).map (fun i => (i.zero, i.size, i.bytes)) = some (some (.agg #[.int .u64 0, .int .u64 0, .int .u32 0, .int .u8 0, .int .u8 0, .int .u8 0, .int .u8 0, .nilFunc, .pointer none, .int .i32 0, .int .i32 0]), 11, 48) := by kernel_rfl
theorem ty_sz160 : Sz Try.prog 160 11 := fun w => by obtain ⟨i, h1, h2, h3, h4⟩ := info_parts ty_i160; simp [sizeOf, typeInfo, h1, h3]
theorem ty_zr160 : Zr Try.prog 160 [.int .u64 0, .int .u64 0, .int .u32 0, .int .u8 0, .int .u8 0, .int .u8 0, .int .u8 0, .nilFunc, .pointer none, .int .i32 0, .int .i32 0] := ⟨.agg #[.int .u64 0, .int .u64 0, .int .u32 0, .int .u8 0, .int .u8 0, .int .u8 0, .int .u8 0, .nilFunc, .pointer none, .int .i32 0, .int .i32 0], rfl, fun w => by obtain ⟨i, h1, h2, h3, h4⟩ := info_parts ty_i160; simp [zeroValue, typeInfo, h1, h2]⟩
theorem ty_ag160 : Ag Try.prog 160 11 := ⟨fun w => by simp [isAgg, run_underlying Try.underlying160], ty_sz160⟩
theorem ty_fa160_0 : FieldAt Try.prog 160 0 0 := fieldAt_of 0 0 12 1 Try.underlying160 (by kernel_rfl) ty_sz12 (by kernel_rfl)
theorem ty_fa160_1 : FieldAt Try.prog 160 1 1 := fieldAt_of 1 1 12 1 Try.underlying160 (by kernel_rfl) ty_sz12 (by kernel_rfl)
theorem ty_fa160_2 : FieldAt Try.prog 160 2 2 := fieldAt_of 2 2 134 1 Try.underlying160 (by kernel_rfl) ty_sz134 (by kernel_rfl)
theorem ty_fa160_3 : FieldAt Try.prog 160 3 3 := fieldAt_of 3 3 153 1 Try.underlying160 (by kernel_rfl) ty_sz153 (by kernel_rfl)
theorem ty_fa160_4 : FieldAt Try.prog 160 4 4 := fieldAt_of 4 4 5 1 Try.underlying160 (by kernel_rfl) ty_sz5 (by kernel_rfl)
theorem ty_fa160_5 : FieldAt Try.prog 160 5 5 := fieldAt_of 5 5 5 1 Try.underlying160 (by kernel_rfl) ty_sz5 (by kernel_rfl)
theorem ty_fa160_6 : FieldAt Try.prog 160 6 6 := fieldAt_of 6 6 154 1 Try.underlying160 (by kernel_rfl) ty_sz154 (by kernel_rfl)
theorem ty_fa160_7 : FieldAt Try.prog 160 7 7 := fieldAt_of 7 7 155 1 Try.underlying160 (by kernel_rfl) ty_sz155 (by kernel_rfl)
theorem ty_fa160_8 : FieldAt Try.prog 160 8 8 := fieldAt_of 8 8 156 1 Try.underlying160 (by kernel_rfl) ty_sz156 (by kernel_rfl)
theorem ty_fa160_9 : FieldAt Try.prog 160 9 9 := fieldAt_of 9 9 157 1 Try.underlying160 (by kernel_rfl) ty_sz157 (by kernel_rfl)
theorem ty_fa160_10 : FieldAt Try.prog 160 10 10 := fieldAt_of 10 10 158 1 Try.underlying160 (by kernel_rfl) ty_sz158 (by kernel_rfl)
theorem ty_i161 : (Try.prog.info? 161).map (fun i => (i.zero, i.size, i.bytes)) = some (some (.nilFunc), 1, 8) := by kernel_rfl
theorem ty_sz161 : Sz Try.prog 161 1 := fun w => by obtain ⟨i, h1, h2, h3, h4⟩ := info_parts ty_i161; simp [sizeOf, typeInfo, h1, h3]
theorem ty_zr161 : Zr Try.prog 161 [.nilFunc] := ⟨.nilFunc, rfl, fun w => by obtain ⟨i, h1, h2, h3, h4⟩ := info_parts ty_i161; simp [zeroValue, typeInfo, h1, h2]⟩
theorem ty_sc161 : Sc Try.prog 161 := fun w => by simp [isAgg, run_underlying Try.underlying161]
theorem ty_i163 : (Try.prog.info? 163).map (fun i => (i.zero, i.size, i.bytes)) = some (some (.slice none 0 0), 1, 24) := by kernel_rfl
theorem ty_sz163 : Sz Try.prog 163 1 := fun w => by obtain ⟨i, h1, h2, h3, h4⟩ := info_parts ty_i163; simp [sizeOf, typeInfo, h1, h3]
theorem ty_zr163 : Zr Try.prog 163 [.slice none 0 0] := ⟨.slice none 0 0, rfl, fun w => by obtain ⟨i, h1, h2, h3, h4⟩ := info_parts ty_i163; simp [zeroValue, typeInfo, h1, h2]⟩
theorem ty_sc163 : Sc Try.prog 163 := fun w => by simp [isAgg, run_underlying Try.underlying163]
theorem ty_i164 : (Try.prog.info? 164).map (fun i => (i.zero, i.size, i.bytes)) = some (some (.agg #[.slice none 0 0, .int .i64 0, .int .i64 0, .int .i64 0]), 4, 48) := by kernel_rfl
theorem ty_sz164 : Sz Try.prog 164 4 := fun w => by obtain ⟨i, h1, h2, h3, h4⟩ := info_parts ty_i164; simp [sizeOf, typeInfo, h1, h3]
theorem ty_zr164 : Zr Try.prog 164 [.slice none 0 0, .int .i64 0, .int .i64 0, .int .i64 0] := ⟨.agg #[.slice none 0 0, .int .i64 0, .int .i64 0, .int .i64 0], rfl, fun w => by obtain ⟨i, h1, h2, h3, h4⟩ := info_parts ty_i164; simp [zeroValue, typeInfo, h1, h2]⟩
theorem ty_ag164 : Ag Try.prog 164 4 := ⟨fun w => by simp [isAgg, run_underlying Try.underlying164], ty_sz164⟩
theorem ty_fa164_0 : FieldAt Try.prog 164 0 0 := fieldAt_of 0 0 163 1 Try.underlying164 (by kernel_rfl) ty_sz163 (by kernel_rfl)
theorem ty_fa164_1 : FieldAt Try.prog 164 1 1 := fieldAt_of 1 1 3 1 Try.underlying164 (by kernel_rfl) ty_sz3 (by kernel_rfl)
theorem ty_fa164_2 : FieldAt Try.prog 164 2 2 := fieldAt_of 2 2 23 2 Try.underlying164 (by kernel_rfl) ty_sz23 (by kernel_rfl)
theorem ty_i165 : (Try.prog.info? 165).map (fun i => (i.zero, i.size, i.bytes)) = some (some (.agg #[.slice none 0 0, .int .i64 0, .int .i64 0, .int .i64 0]), 4, 48) := by kernel_rfl
theorem ty_sz165 : Sz Try.prog 165 4 := fun w => by obtain ⟨i, h1, h2, h3, h4⟩ := info_parts ty_i165; simp [sizeOf, typeInfo, h1, h3]
theorem ty_zr165 : Zr Try.prog 165 [.slice none 0 0, .int .i64 0, .int .i64 0, .int .i64 0] := ⟨.agg #[.slice none 0 0, .int .i64 0, .int .i64 0, .int .i64 0], rfl, fun w => by obtain ⟨i, h1, h2, h3, h4⟩ := info_parts ty_i165; simp [zeroValue, typeInfo, h1, h2]⟩
theorem ty_ag165 : Ag Try.prog 165 4 := ⟨fun w => by simp [isAgg, run_underlying Try.underlying165], ty_sz165⟩
theorem ty_fa165_0 : FieldAt Try.prog 165 0 0 := fieldAt_of 0 0 163 1 Try.underlying165 (by kernel_rfl) ty_sz163 (by kernel_rfl)
theorem ty_fa165_1 : FieldAt Try.prog 165 1 1 := fieldAt_of 1 1 3 1 Try.underlying165 (by kernel_rfl) ty_sz3 (by kernel_rfl)
theorem ty_fa165_2 : FieldAt Try.prog 165 2 2 := fieldAt_of 2 2 23 2 Try.underlying165 (by kernel_rfl) ty_sz23 (by kernel_rfl)
theorem ty_et24 : ElemT Try.prog 24 34 14 112 := elemT (z := .agg #[.int .i64 0, .int .i64 0, .int .i64 0, .int .i64 0, .int .i64 0, .int .i64 0, .int .i64 0, .int .i64 0, .int .i64 0, .int .i64 0, .int .i64 0, .int .i64 0, .int .i64 0, .int .i64 0]) Try.underlying24 ty_i34 rfl (by decide)
theorem ty_et25 : ElemT Try.prog 25 23 2 16 := elemT (z := .agg #[.int .i64 0, .int .i64 0]) Try.underlying25 ty_i23 rfl (by decide)
theorem ty_et36 : ElemT Try.prog 36 76 5 56 := elemT (z := .agg #[.int .i64 0, .int .i64 0, .int .i64 0, .int .i64 0, .slice none 0 0]) Try.underlying36 ty_i76 rfl (by decide)
theorem ty_et43 : ElemT Try.prog 43 3 1 8 := elemT (z := .int .i64 0) Try.underlying43 ty_i3 rfl (by decide)
theorem ty_et74 : ElemT Try.prog 74 98 2 16 := elemT (z := .agg #[.int .i64 0, .int .i64 0]) Try.underlying74 ty_i98 rfl (by decide)
theorem ty_et87 : ElemT Try.prog 87 108 8 64 := elemT (z := .agg #[.int .i64 0, .int .i64 0, .int .i64 0, .int .i64 0, .int .i64 0, .int .i64 0, .int .i64 0, .int .i64 0]) Try.underlying87 ty_i108 rfl (by decide)
theorem ty_et163 : ElemT Try.prog 163 134 1 4 := elemT (z := .int .u32 0) Try.underlying163 ty_i134 rfl (by decide)
end Go.Proofs.Ytifjnmflghfalaa

