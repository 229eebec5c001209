/-
  Facts on the types of the program, each in closed form. No condition.
-/
import Derived.Test.YtckiagbllkdfdaaKi
namespace Go.Proofs.Ytckiagbllkdfdaa
set_option linter.all false
set_option linter.unusedVariables false
set_option linter.unusedSimpArgs false
open Go.RowKit
theorem ty_i1 : (Try.prog.info? 1).map (fun i => (i.zero, i.size, i.bytes)) = some (some (.nilFunc), 1, 8) := by kernel_rfl
theorem ty_sz1 : Sz Try.prog 1 1 := fun w => by obtain ⟨i, h1, h2, h3, h4⟩ := info_parts ty_i1; simp [sizeOf, typeInfo, h1, h3]
theorem ty_zr1 : Zr Try.prog 1 [.nilFunc] := ⟨.nilFunc, rfl, fun w => by obtain ⟨i, h1, h2, h3, h4⟩ := info_parts ty_i1; simp [zeroValue, typeInfo, h1, h2]⟩
theorem ty_sc1 : Sc Try.prog 1 := fun w => by simp [isAgg, run_underlying Try.underlying1]
theorem ty_i2 : (Try.prog.info? 2).map (fun i => (i.zero, i.size, i.bytes)) = some (some (.int .i64 0), 1, 8) := by kernel_rfl
theorem ty_sz2 : Sz Try.prog 2 1 := fun w => by obtain ⟨i, h1, h2, h3, h4⟩ := info_parts ty_i2; simp [sizeOf, typeInfo, h1, h3]
theorem ty_zr2 : Zr Try.prog 2 [.int .i64 0] := ⟨.int .i64 0, rfl, fun w => by obtain ⟨i, h1, h2, h3, h4⟩ := info_parts ty_i2; simp [zeroValue, typeInfo, h1, h2]⟩
theorem ty_sc2 : Sc Try.prog 2 := fun w => by simp [isAgg, run_underlying Try.underlying2]
theorem ty_i3 : (Try.prog.info? 3).map (fun i => (i.zero, i.size, i.bytes)) = some (some (.int .i64 0), 1, 8) := by kernel_rfl
theorem ty_sz3 : Sz Try.prog 3 1 := fun w => by obtain ⟨i, h1, h2, h3, h4⟩ := info_parts ty_i3; simp [sizeOf, typeInfo, h1, h3]
theorem ty_zr3 : Zr Try.prog 3 [.int .i64 0] := ⟨.int .i64 0, rfl, fun w => by obtain ⟨i, h1, h2, h3, h4⟩ := info_parts ty_i3; simp [zeroValue, typeInfo, h1, h2]⟩
theorem ty_sc3 : Sc Try.prog 3 := fun w => by simp [isAgg, run_underlying Try.underlying3]
theorem ty_i4 : (Try.prog.info? 4).map (fun i => (i.zero, i.size, i.bytes)) = some (some (.bool false), 1, 1) := by kernel_rfl
theorem ty_sz4 : Sz Try.prog 4 1 := fun w => by obtain ⟨i, h1, h2, h3, h4⟩ := info_parts ty_i4; simp [sizeOf, typeInfo, h1, h3]
theorem ty_zr4 : Zr Try.prog 4 [.bool false] := ⟨.bool false, rfl, fun w => by obtain ⟨i, h1, h2, h3, h4⟩ := info_parts ty_i4; simp [zeroValue, typeInfo, h1, h2]⟩
theorem ty_sc4 : Sc Try.prog 4 := fun w => by simp [isAgg, run_underlying Try.underlying4]
theorem ty_i5 : (Try.prog.info? 5).map (fun i => (i.zero, i.size, i.bytes)) = some (some (.int .u8 0), 1, 1) := by kernel_rfl
theorem ty_sz5 : Sz Try.prog 5 1 := fun w => by obtain ⟨i, h1, h2, h3, h4⟩ := info_parts ty_i5; simp [sizeOf, typeInfo, h1, h3]
theorem ty_zr5 : Zr Try.prog 5 [.int .u8 0] := ⟨.int .u8 0, rfl, fun w => by obtain ⟨i, h1, h2, h3, h4⟩ := info_parts ty_i5; simp [zeroValue, typeInfo, h1, h2]⟩
theorem ty_sc5 : Sc Try.prog 5 := fun w => by simp [isAgg, run_underlying Try.underlying5]
theorem ty_i6 : (Try.prog.info? 6).map (fun i => (i.zero, i.size, i.bytes)) = some (some (.int .u8 0), 1, 1) := by kernel_rfl
theorem ty_sz6 : Sz Try.prog 6 1 := fun w => by obtain ⟨i, h1, h2, h3, h4⟩ := info_parts ty_i6; simp [sizeOf, typeInfo, h1, h3]
theorem ty_zr6 : Zr Try.prog 6 [.int .u8 0] := ⟨.int .u8 0, rfl, fun w => by obtain ⟨i, h1, h2, h3, h4⟩ := info_parts ty_i6; simp [zeroValue, typeInfo, h1, h2]⟩
theorem ty_sc6 : Sc Try.prog 6 := fun w => by simp [isAgg, run_underlying Try.underlying6]
theorem ty_i7 : (Try.prog.info? 7).map (fun i => (i.zero, i.size, i.bytes)) = some (some (.agg #[.int .i64 0, .int .i64 0, .bool false, .int .u8 0]), 4, 24) := by kernel_rfl
theorem ty_sz7 : Sz Try.prog 7 4 := fun w => by obtain ⟨i, h1, h2, h3, h4⟩ := info_parts ty_i7; simp [sizeOf, typeInfo, h1, h3]
theorem ty_zr7 : Zr Try.prog 7 [.int .i64 0, .int .i64 0, .bool false, .int .u8 0] := ⟨.agg #[.int .i64 0, .int .i64 0, .bool false, .int .u8 0], rfl, fun w => by obtain ⟨i, h1, h2, h3, h4⟩ := info_parts ty_i7; simp [zeroValue, typeInfo, h1, h2]⟩
theorem ty_ag7 : Ag Try.prog 7 4 := ⟨fun w => by simp [isAgg, run_underlying Try.underlying7], ty_sz7⟩
theorem ty_fa7_0 : FieldAt Try.prog 7 0 0 := fieldAt_of 0 0 2 1 Try.underlying7 (by kernel_rfl) ty_sz2 (by kernel_rfl)
theorem ty_fa7_1 : FieldAt Try.prog 7 1 1 := fieldAt_of 1 1 3 1 Try.underlying7 (by kernel_rfl) ty_sz3 (by kernel_rfl)
theorem ty_fa7_2 : FieldAt Try.prog 7 2 2 := fieldAt_of 2 2 4 1 Try.underlying7 (by kernel_rfl) ty_sz4 (by kernel_rfl)
theorem ty_fa7_3 : FieldAt Try.prog 7 3 3 := fieldAt_of 3 3 6 1 Try.underlying7 (by kernel_rfl) ty_sz6 (by kernel_rfl)
theorem ty_i8 : (Try.prog.info? 8).map (fun i => (i.zero, i.size, i.bytes)) = some (some (.agg #[.int .i64 0, .int .i64 0, .bool false, .int .u8 0]), 4, 24) := by kernel_rfl
theorem ty_sz8 : Sz Try.prog 8 4 := fun w => by obtain ⟨i, h1, h2, h3, h4⟩ := info_parts ty_i8; simp [sizeOf, typeInfo, h1, h3]
theorem ty_zr8 : Zr Try.prog 8 [.int .i64 0, .int .i64 0, .bool false, .int .u8 0] := ⟨.agg #[.int .i64 0, .int .i64 0, .bool false, .int .u8 0], rfl, fun w => by obtain ⟨i, h1, h2, h3, h4⟩ := info_parts ty_i8; simp [zeroValue, typeInfo, h1, h2]⟩
theorem ty_ag8 : Ag Try.prog 8 4 := ⟨fun w => by simp [isAgg, run_underlying Try.underlying8], ty_sz8⟩
theorem ty_fa8_0 : FieldAt Try.prog 8 0 0 := fieldAt_of 0 0 2 1 Try.underlying8 (by kernel_rfl) ty_sz2 (by kernel_rfl)
theorem ty_fa8_1 : FieldAt Try.prog 8 1 1 := fieldAt_of 1 1 3 1 Try.underlying8 (by kernel_rfl) ty_sz3 (by kernel_rfl)
theorem ty_fa8_2 : FieldAt Try.prog 8 2 2 := fieldAt_of 2 2 4 1 Try.underlying8 (by kernel_rfl) ty_sz4 (by kernel_rfl)
theorem ty_fa8_3 : FieldAt Try.prog 8 3 3 := fieldAt_of 3 3 6 1 Try.underlying8 (by kernel_rfl) ty_sz6 (by kernel_rfl)
theorem ty_i9 : (Try.prog.info? 9).map (fun i => (i.zero, i.size, i.bytes)) = some (some (.string ⟨#[]⟩), 1, 16) := by kernel_rfl
theorem ty_sz9 : Sz Try.prog 9 1 := fun w => by obtain ⟨i, h1, h2, h3, h4⟩ := info_parts ty_i9; simp [sizeOf, typeInfo, h1, h3]
theorem ty_zr9 : Zr Try.prog 9 [.string ⟨#[]⟩] := ⟨.string ⟨#[]⟩, rfl, fun w => by obtain ⟨i, h1, h2, h3, h4⟩ := info_parts ty_i9; simp [zeroValue, typeInfo, h1, h2]⟩
theorem ty_sc9 : Sc Try.prog 9 := fun w => by simp [isAgg, run_underlying Try.underlying9]
theorem ty_i10 : (Try.prog.info? 10).map (fun i => (i.zero, i.size, i.bytes)) = some (some (.string ⟨#[]⟩), 1, 16) := by kernel_rfl
theorem ty_sz10 : Sz Try.prog 10 1 := fun w => by obtain ⟨i, h1, h2, h3, h4⟩ := info_parts ty_i10; simp [sizeOf, typeInfo, h1, h3]
theorem ty_zr10 : Zr Try.prog 10 [.string ⟨#[]⟩] := ⟨.string ⟨#[]⟩, rfl, fun w => by obtain ⟨i, h1, h2, h3, h4⟩ := info_parts ty_i10; simp [zeroValue, typeInfo, h1, h2]⟩
theorem ty_sc10 : Sc Try.prog 10 := fun w => by simp [isAgg, run_underlying Try.underlying10]
theorem ty_i11 : (Try.prog.info? 11).map (fun i => (i.zero, i.size, i.bytes)) = some (some (.string ⟨#[]⟩), 1, 16) := by kernel_rfl
theorem ty_sz11 : Sz Try.prog 11 1 := fun w => by obtain ⟨i, h1, h2, h3, h4⟩ := info_parts ty_i11; simp [sizeOf, typeInfo, h1, h3]
theorem ty_zr11 : Zr Try.prog 11 [.string ⟨#[]⟩] := ⟨.string ⟨#[]⟩, rfl, fun w => by obtain ⟨i, h1, h2, h3, h4⟩ := info_parts ty_i11; simp [zeroValue, typeInfo, h1, h2]⟩
theorem ty_sc11 : Sc Try.prog 11 := fun w => by simp [isAgg, run_underlying Try.underlying11]
theorem ty_i12 : (Try.prog.info? 12).map (fun i => (i.zero, i.size, i.bytes)) = some (some (.int .u64 0), 1, 8) := by kernel_rfl
theorem ty_sz12 : Sz Try.prog 12 1 := fun w => by obtain ⟨i, h1, h2, h3, h4⟩ := info_parts ty_i12; simp [sizeOf, typeInfo, h1, h3]
theorem ty_zr12 : Zr Try.prog 12 [.int .u64 0] := ⟨.int .u64 0, rfl, fun w => by obtain ⟨i, h1, h2, h3, h4⟩ := info_parts ty_i12; simp [zeroValue, typeInfo, h1, h2]⟩
theorem ty_sc12 : Sc Try.prog 12 := fun w => by simp [isAgg, run_underlying Try.underlying12]
theorem ty_i13 : (Try.prog.info? 13).map (fun i => (i.zero, i.size, i.bytes)) = some (some (.agg #[.string ⟨#[]⟩, .int .u64 0]), 2, 24) := by kernel_rfl
theorem ty_sz13 : Sz Try.prog 13 2 := fun w => by obtain ⟨i, h1, h2, h3, h4⟩ := info_parts ty_i13; simp [sizeOf, typeInfo, h1, h3]
theorem ty_zr13 : Zr Try.prog 13 [.string ⟨#[]⟩, .int .u64 0] := ⟨.agg #[.string ⟨#[]⟩, .int .u64 0], rfl, fun w => by obtain ⟨i, h1, h2, h3, h4⟩ := info_parts ty_i13; simp [zeroValue, typeInfo, h1, h2]⟩
theorem ty_ag13 : Ag Try.prog 13 2 := ⟨fun w => by simp [isAgg, run_underlying Try.underlying13], ty_sz13⟩
theorem ty_fa13_0 : FieldAt Try.prog 13 0 0 := fieldAt_of 0 0 9 1 Try.underlying13 (by kernel_rfl) ty_sz9 (by kernel_rfl)
theorem ty_fa13_1 : FieldAt Try.prog 13 1 1 := fieldAt_of 1 1 12 1 Try.underlying13 (by kernel_rfl) ty_sz12 (by kernel_rfl)
theorem ty_i14 : (Try.prog.info? 14).map (fun i => (i.zero, i.size, i.bytes)) = some (some (.agg #[.string ⟨#[]⟩, .int .u64 0]), 2, 24) := by kernel_rfl
theorem ty_sz14 : Sz Try.prog 14 2 := fun w => by obtain ⟨i, h1, h2, h3, h4⟩ := info_parts ty_i14; simp [sizeOf, typeInfo, h1, h3]
theorem ty_zr14 : Zr Try.prog 14 [.string ⟨#[]⟩, .int .u64 0] := ⟨.agg #[.string ⟨#[]⟩, .int .u64 0], rfl, fun w => by obtain ⟨i, h1, h2, h3, h4⟩ := info_parts ty_i14; simp [zeroValue, typeInfo, h1, h2]⟩
theorem ty_ag14 : Ag Try.prog 14 2 := ⟨fun w => by simp [isAgg, run_underlying Try.underlying14], ty_sz14⟩
theorem ty_fa14_0 : FieldAt Try.prog 14 0 0 := fieldAt_of 0 0 9 1 Try.underlying14 (by kernel_rfl) ty_sz9 (by kernel_rfl)
theorem ty_fa14_1 : FieldAt Try.prog 14 1 1 := fieldAt_of 1 1 12 1 Try.underlying14 (by kernel_rfl) ty_sz12 (by kernel_rfl)
theorem ty_i15 : (Try.prog.info? 15).map (fun i => (i.zero, i.size, i.bytes)) = some (some (.pointer none), 1, 8) := by kernel_rfl
theorem ty_sz15 : Sz Try.prog 15 1 := fun w => by obtain ⟨i, h1, h2, h3, h4⟩ := info_parts ty_i15; simp [sizeOf, typeInfo, h1, h3]
theorem ty_zr15 : Zr Try.prog 15 [.pointer none] := ⟨.pointer none, rfl, fun w => by obtain ⟨i, h1, h2, h3, h4⟩ := info_parts ty_i15; simp [zeroValue, typeInfo, h1, h2]⟩
theorem ty_sc15 : Sc Try.prog 15 := fun w => by simp [isAgg, run_underlying Try.underlying15]
theorem ty_i16 : (Try.prog.info? 16).map (fun i => (i.zero, i.size, i.bytes)) = some (some (.pointer none), 1, 8) := by kernel_rfl
theorem ty_sz16 : Sz Try.prog 16 1 := fun w => by obtain ⟨i, h1, h2, h3, h4⟩ := info_parts ty_i16; simp [sizeOf, typeInfo, h1, h3]
theorem ty_zr16 : Zr Try.prog 16 [.pointer none] := ⟨.pointer none, rfl, fun w => by obtain ⟨i, h1, h2, h3, h4⟩ := info_parts ty_i16; simp [zeroValue, typeInfo, h1, h2]⟩
theorem ty_sc16 : Sc Try.prog 16 := fun w => by simp [isAgg, run_underlying Try.underlying16]
theorem ty_i17 : (Try.prog.info? 17).map (fun i => (i.zero, i.size, i.bytes)) = some (some (.pointer none), 1, 8) := by kernel_rfl
theorem ty_sz17 : Sz Try.prog 17 1 := fun w => by obtain ⟨i, h1, h2, h3, h4⟩ := info_parts ty_i17; simp [sizeOf, typeInfo, h1, h3]
theorem ty_zr17 : Zr Try.prog 17 [.pointer none] := ⟨.pointer none, rfl, fun w => by obtain ⟨i, h1, h2, h3, h4⟩ := info_parts ty_i17; simp [zeroValue, typeInfo, h1, h2]⟩
theorem ty_sc17 : Sc Try.prog 17 := fun w => by simp [isAgg, run_underlying Try.underlying17]
theorem ty_i18 : (Try.prog.info? 18).map (fun i => (i.zero, i.size, i.bytes)) = some (some (.agg #[.pointer none]), 1, 8) := by kernel_rfl
theorem ty_sz18 : Sz Try.prog 18 1 := fun w => by obtain ⟨i, h1, h2, h3, h4⟩ := info_parts ty_i18; simp [sizeOf, typeInfo, h1, h3]
theorem ty_zr18 : Zr Try.prog 18 [.pointer none] := ⟨.agg #[.pointer none], rfl, fun w => by obtain ⟨i, h1, h2, h3, h4⟩ := info_parts ty_i18; simp [zeroValue, typeInfo, h1, h2]⟩
theorem ty_ag18 : Ag Try.prog 18 1 := ⟨fun w => by simp [isAgg, run_underlying Try.underlying18], ty_sz18⟩
theorem ty_fa18_0 : FieldAt Try.prog 18 0 0 := fieldAt_of 0 0 17 1 Try.underlying18 (by kernel_rfl) ty_sz17 (by kernel_rfl)
theorem ty_i19 : (Try.prog.info? 19).map (fun i => (i.zero, i.size, i.bytes)) = some (some (.agg #[.pointer none]), 1, 8) := by kernel_rfl
theorem ty_sz19 : Sz Try.prog 19 1 := fun w => by obtain ⟨i, h1, h2, h3, h4⟩ := info_parts ty_i19; simp [sizeOf, typeInfo, h1, h3]
theorem ty_zr19 : Zr Try.prog 19 [.pointer none] := ⟨.agg #[.pointer none], rfl, fun w => by obtain ⟨i, h1, h2, h3, h4⟩ := info_parts ty_i19; simp [zeroValue, typeInfo, h1, h2]⟩
theorem ty_ag19 : Ag Try.prog 19 1 := ⟨fun w => by simp [isAgg, run_underlying Try.underlying19], ty_sz19⟩
theorem ty_fa19_0 : FieldAt Try.prog 19 0 0 := fieldAt_of 0 0 17 1 Try.underlying19 (by kernel_rfl) ty_sz17 (by kernel_rfl)
theorem ty_i20 : (Try.prog.info? 20).map (fun i => (i.zero, i.size, i.bytes)) = some (some (.nilIface), 1, 16) := by kernel_rfl
theorem ty_sz20 : Sz Try.prog 20 1 := fun w => by obtain ⟨i, h1, h2, h3, h4⟩ := info_parts ty_i20; simp [sizeOf, typeInfo, h1, h3]
theorem ty_zr20 : Zr Try.prog 20 [.nilIface] := ⟨.nilIface, rfl, fun w => by obtain ⟨i, h1, h2, h3, h4⟩ := info_parts ty_i20; simp [zeroValue, typeInfo, h1, h2]⟩
theorem ty_sc20 : Sc Try.prog 20 := fun w => by simp [isAgg, run_underlying Try.underlying20]
theorem ty_i21 : (Try.prog.info? 21).map (fun i => (i.zero, i.size, i.bytes)) = some (some (.int .i32 0), 1, 4) := by kernel_rfl
theorem ty_sz21 : Sz Try.prog 21 1 := fun w => by obtain ⟨i, h1, h2, h3, h4⟩ := info_parts ty_i21; simp [sizeOf, typeInfo, h1, h3]
theorem ty_zr21 : Zr Try.prog 21 [.int .i32 0] := ⟨.int .i32 0, rfl, fun w => by obtain ⟨i, h1, h2, h3, h4⟩ := info_parts ty_i21; simp [zeroValue, typeInfo, h1, h2]⟩
theorem ty_sc21 : Sc Try.prog 21 := fun w => by simp [isAgg, run_underlying Try.underlying21]
theorem ty_i22 : (Try.prog.info? 22).map (fun i => (i.zero, i.size, i.bytes)) = some (some (.slice none 0 0), 1, 24) := by kernel_rfl
theorem ty_sz22 : Sz Try.prog 22 1 := fun w => by obtain ⟨i, h1, h2, h3, h4⟩ := info_parts ty_i22; simp [sizeOf, typeInfo, h1, h3]
theorem ty_zr22 : Zr Try.prog 22 [.slice none 0 0] := ⟨.slice none 0 0, rfl, fun w => by obtain ⟨i, h1, h2, h3, h4⟩ := info_parts ty_i22; simp [zeroValue, typeInfo, h1, h2]⟩
theorem ty_sc22 : Sc Try.prog 22 := fun w => by simp [isAgg, run_underlying Try.underlying22]
theorem ty_i23 : (Try.prog.info? 23).map (fun i => (i.zero, i.size, i.bytes)) = some (some (.slice none 0 0), 1, 24) := by kernel_rfl
theorem ty_sz23 : Sz Try.prog 23 1 := fun w => by obtain ⟨i, h1, h2, h3, h4⟩ := info_parts ty_i23; simp [sizeOf, typeInfo, h1, h3]
theorem ty_zr23 : Zr Try.prog 23 [.slice none 0 0] := ⟨.slice none 0 0, rfl, fun w => by obtain ⟨i, h1, h2, h3, h4⟩ := info_parts ty_i23; simp [zeroValue, typeInfo, h1, h2]⟩
theorem ty_sc23 : Sc Try.prog 23 := fun w => by simp [isAgg, run_underlying Try.underlying23]
theorem ty_i24 : (Try.prog.info? 24).map (fun i => (i.zero, i.size, i.bytes)) = some (some (.agg #[.slice none 0 0, .slice none 0 0]), 2, 48) := by kernel_rfl
theorem ty_sz24 : Sz Try.prog 24 2 := fun w => by obtain ⟨i, h1, h2, h3, h4⟩ := info_parts ty_i24; simp [sizeOf, typeInfo, h1, h3]
theorem ty_zr24 : Zr Try.prog 24 [.slice none 0 0, .slice none 0 0] := ⟨.agg #[.slice none 0 0, .slice none 0 0], rfl, fun w => by obtain ⟨i, h1, h2, h3, h4⟩ := info_parts ty_i24; simp [zeroValue, typeInfo, h1, h2]⟩
theorem ty_ag24 : Ag Try.prog 24 2 := ⟨fun w => by simp [isAgg, run_underlying Try.underlying24], ty_sz24⟩
theorem ty_fa24_0 : FieldAt Try.prog 24 0 0 := fieldAt_of 0 0 22 1 Try.underlying24 (by kernel_rfl) ty_sz22 (by kernel_rfl)
theorem ty_fa24_1 : FieldAt Try.prog 24 1 1 := fieldAt_of 1 1 23 1 Try.underlying24 (by kernel_rfl) ty_sz23 (by kernel_rfl)
theorem ty_i25 : (Try.prog.info? 25).map (fun i => (i.zero, i.size, i.bytes)) = some (some (.agg #[.slice none 0 0, .slice none 0 0]), 2, 48) := by kernel_rfl
theorem ty_sz25 : Sz Try.prog 25 2 := fun w => by obtain ⟨i, h1, h2, h3, h4⟩ := info_parts ty_i25; simp [sizeOf, typeInfo, h1, h3]
theorem ty_zr25 : Zr Try.prog 25 [.slice none 0 0, .slice none 0 0] := ⟨.agg #[.slice none 0 0, .slice none 0 0], rfl, fun w => by obtain ⟨i, h1, h2, h3, h4⟩ := info_parts ty_i25; simp [zeroValue, typeInfo, h1, h2]⟩
theorem ty_ag25 : Ag Try.prog 25 2 := ⟨fun w => by simp [isAgg, run_underlying Try.underlying25], ty_sz25⟩
theorem ty_fa25_0 : FieldAt Try.prog 25 0 0 := fieldAt_of 0 0 22 1 Try.underlying25 (by kernel_rfl) ty_sz22 (by kernel_rfl)
theorem ty_fa25_1 : FieldAt Try.prog 25 1 1 := fieldAt_of 1 1 23 1 Try.underlying25 (by kernel_rfl) ty_sz23 (by kernel_rfl)
theorem ty_i26 : (Try.prog.info? 26).map (fun i => (i.zero, i.size, i.bytes)) = some (some (.slice none 0 0), 1, 24) := by kernel_rfl
theorem ty_sz26 : Sz Try.prog 26 1 := fun w => by obtain ⟨i, h1, h2, h3, h4⟩ := info_parts ty_i26; simp [sizeOf, typeInfo, h1, h3]
theorem ty_zr26 : Zr Try.prog 26 [.slice none 0 0] := ⟨.slice none 0 0, rfl, fun w => by obtain ⟨i, h1, h2, h3, h4⟩ := info_parts ty_i26; simp [zeroValue, typeInfo, h1, h2]⟩
theorem ty_sc26 : Sc Try.prog 26 := fun w => by simp [isAgg, run_underlying Try.underlying26]
theorem ty_i27 : (Try.prog.info? 27).map (fun i => (i.zero, i.size, i.bytes)) = some (some (.slice none 0 0), 1, 24) := by kernel_rfl
theorem ty_sz27 : Sz Try.prog 27 1 := fun w => by obtain ⟨i, h1, h2, h3, h4⟩ := info_parts ty_i27; simp [sizeOf, typeInfo, h1, h3]
theorem ty_zr27 : Zr Try.prog 27 [.slice none 0 0] := ⟨.slice none 0 0, rfl, fun w => by obtain ⟨i, h1, h2, h3, h4⟩ := info_parts ty_i27; simp [zeroValue, typeInfo, h1, h2]⟩
theorem ty_sc27 : Sc Try.prog 27 := fun w => by simp [isAgg, run_underlying Try.underlying27]
theorem ty_i28 : (Try.prog.info? 28).map (fun i => (i.zero, i.size, i.bytes)) = some (some (.slice none 0 0), 1, 24) := by kernel_rfl
theorem ty_sz28 : Sz Try.prog 28 1 := fun w => by obtain ⟨i, h1, h2, h3, h4⟩ := info_parts ty_i28; simp [sizeOf, typeInfo, h1, h3]
theorem ty_zr28 : Zr Try.prog 28 [.slice none 0 0] := ⟨.slice none 0 0, rfl, fun w => by obtain ⟨i, h1, h2, h3, h4⟩ := info_parts ty_i28; simp [zeroValue, typeInfo, h1, h2]⟩
theorem ty_sc28 : Sc Try.prog 28 := fun w => by simp [isAgg, run_underlying Try.underlying28]
theorem ty_i29 : (Try.prog.info? 29).map (fun i => (i.zero, i.size, i.bytes)) = some (some (.agg #[.slice none 0 0, .slice none 0 0, .slice none 0 0]), 3, 72) := by kernel_rfl
theorem ty_sz29 : Sz Try.prog 29 3 := fun w => by obtain ⟨i, h1, h2, h3, h4⟩ := info_parts ty_i29; simp [sizeOf, typeInfo, h1, h3]
theorem ty_zr29 : Zr Try.prog 29 [.slice none 0 0, .slice none 0 0, .slice none 0 0] := ⟨.agg #[.slice none 0 0, .slice none 0 0, .slice none 0 0], rfl, fun w => by obtain ⟨i, h1, h2, h3, h4⟩ := info_parts ty_i29; simp [zeroValue, typeInfo, h1, h2]⟩
theorem ty_ag29 : Ag Try.prog 29 3 := ⟨fun w => by simp [isAgg, run_underlying Try.underlying29], ty_sz29⟩
theorem ty_fa29_0 : FieldAt Try.prog 29 0 0 := fieldAt_of 0 0 26 1 Try.underlying29 (by kernel_rfl) ty_sz26 (by kernel_rfl)
theorem ty_fa29_1 : FieldAt Try.prog 29 1 1 := fieldAt_of 1 1 27 1 Try.underlying29 (by kernel_rfl) ty_sz27 (by kernel_rfl)
theorem ty_fa29_2 : FieldAt Try.prog 29 2 2 := fieldAt_of 2 2 28 1 Try.underlying29 (by kernel_rfl) ty_sz28 (by kernel_rfl)
theorem ty_i30 : (Try.prog.info? 30).map (fun i => (i.zero, i.size, i.bytes)) = some (some (.agg #[.slice none 0 0, .slice none 0 0, .slice none 0 0]), 3, 72) := by kernel_rfl
theorem ty_sz30 : Sz Try.prog 30 3 := fun w => by obtain ⟨i, h1, h2, h3, h4⟩ := info_parts ty_i30; simp [sizeOf, typeInfo, h1, h3]
theorem ty_zr30 : Zr Try.prog 30 [.slice none 0 0, .slice none 0 0, .slice none 0 0] := ⟨.agg #[.slice none 0 0, .slice none 0 0, .slice none 0 0], rfl, fun w => by obtain ⟨i, h1, h2, h3, h4⟩ := info_parts ty_i30; simp [zeroValue, typeInfo, h1, h2]⟩
theorem ty_ag30 : Ag Try.prog 30 3 := ⟨fun w => by simp [isAgg, run_underlying Try.underlying30], ty_sz30⟩
theorem ty_fa30_0 : FieldAt Try.prog 30 0 0 := fieldAt_of 0 0 26 1 Try.underlying30 (by kernel_rfl) ty_sz26 (by kernel_rfl)
theorem ty_fa30_1 : FieldAt Try.prog 30 1 1 := fieldAt_of 1 1 27 1 Try.underlying30 (by kernel_rfl) ty_sz27 (by kernel_rfl)
theorem ty_fa30_2 : FieldAt Try.prog 30 2 2 := fieldAt_of 2 2 28 1 Try.underlying30 (by kernel_rfl) ty_sz28 (by kernel_rfl)
theorem ty_i31 : (Try.prog.info? 31).map (fun i => (i.zero, i.size, i.bytes)) = some (some (.nilFunc), 1, 8) := by kernel_rfl
theorem ty_sz31 : Sz Try.prog 31 1 := fun w => by obtain ⟨i, h1, h2, h3, h4⟩ := info_parts ty_i31; simp [sizeOf, typeInfo, h1, h3]
theorem ty_zr31 : Zr Try.prog 31 [.nilFunc] := ⟨.nilFunc, rfl, fun w => by obtain ⟨i, h1, h2, h3, h4⟩ := info_parts ty_i31; simp [zeroValue, typeInfo, h1, h2]⟩
theorem ty_sc31 : Sc Try.prog 31 := fun w => by simp [isAgg, run_underlying Try.underlying31]
theorem ty_i32 : (Try.prog.info? 32).map (fun i => (i.zero, i.size, i.bytes)) = some (some (.slice none 0 0), 1, 24) := by kernel_rfl
theorem ty_sz32 : Sz Try.prog 32 1 := fun w => by obtain ⟨i, h1, h2, h3, h4⟩ := info_parts ty_i32; simp [sizeOf, typeInfo, h1, h3]
theorem ty_zr32 : Zr Try.prog 32 [.slice none 0 0] := ⟨.slice none 0 0, rfl, fun w => by obtain ⟨i, h1, h2, h3, h4⟩ := info_parts ty_i32; simp [zeroValue, typeInfo, h1, h2]⟩
theorem ty_sc32 : Sc Try.prog 32 := fun w => by simp [isAgg, run_underlying Try.underlying32]
theorem ty_i33 : (Try.prog.info? 33).map (fun i => (i.zero, i.size, i.bytes)) = some (some (.agg #[.int .i64 0, .int .i64 0, .slice none 0 0, .slice none 0 0, .slice none 0 0]), 5, 88) := by kernel_rfl
theorem ty_sz33 : Sz Try.prog 33 5 := fun w => by obtain ⟨i, h1, h2, h3, h4⟩ := info_parts ty_i33; simp [sizeOf, typeInfo, h1, h3]
theorem ty_zr33 : Zr Try.prog 33 [.int .i64 0, .int .i64 0, .slice none 0 0, .slice none 0 0, .slice none 0 0] := ⟨.agg #[.int .i64 0, .int .i64 0, .slice none 0 0, .slice none 0 0, .slice none 0 0], rfl, fun w => by obtain ⟨i, h1, h2, h3, h4⟩ := info_parts ty_i33; simp [zeroValue, typeInfo, h1, h2]⟩
theorem ty_ag33 : Ag Try.prog 33 5 := ⟨fun w => by simp [isAgg, run_underlying Try.underlying33], ty_sz33⟩
theorem ty_fa33_0 : FieldAt Try.prog 33 0 0 := fieldAt_of 0 0 3 1 Try.underlying33 (by kernel_rfl) ty_sz3 (by kernel_rfl)
theorem ty_fa33_1 : FieldAt Try.prog 33 1 1 := fieldAt_of 1 1 3 1 Try.underlying33 (by kernel_rfl) ty_sz3 (by kernel_rfl)
theorem ty_fa33_2 : FieldAt Try.prog 33 2 2 := fieldAt_of 2 2 32 1 Try.underlying33 (by kernel_rfl) ty_sz32 (by kernel_rfl)
theorem ty_fa33_3 : FieldAt Try.prog 33 3 3 := fieldAt_of 3 3 32 1 Try.underlying33 (by kernel_rfl) ty_sz32 (by kernel_rfl)
theorem ty_fa33_4 : FieldAt Try.prog 33 4 4 := fieldAt_of 4 4 32 1 Try.underlying33 (by kernel_rfl) ty_sz32 (by kernel_rfl)
theorem ty_i34 : (Try.prog.info? 34).map (fun i => (i.zero, i.size, i.bytes)) = some (some (.agg #[.int .i64 0, .int .i64 0, .slice none 0 0, .slice none 0 0, .slice none 0 0]), 5, 88) := by kernel_rfl
theorem ty_sz34 : Sz Try.prog 34 5 := fun w => by obtain ⟨i, h1, h2, h3, h4⟩ := info_parts ty_i34; simp [sizeOf, typeInfo, h1, h3]
theorem ty_zr34 : Zr Try.prog 34 [.int .i64 0, .int .i64 0, .slice none 0 0, .slice none 0 0, .slice none 0 0] := ⟨.agg #[.int .i64 0, .int .i64 0, .slice none 0 0, .slice none 0 0, .slice none 0 0], rfl, fun w => by obtain ⟨i, h1, h2, h3, h4⟩ := info_parts ty_i34; simp [zeroValue, typeInfo, h1, h2]⟩
theorem ty_ag34 : Ag Try.prog 34 5 := ⟨fun w => by simp [isAgg, run_underlying Try.underlying34], ty_sz34⟩
theorem ty_fa34_0 : FieldAt Try.prog 34 0 0 := fieldAt_of 0 0 3 1 Try.underlying34 (by kernel_rfl) ty_sz3 (by kernel_rfl)
theorem ty_fa34_1 : FieldAt Try.prog 34 1 1 := fieldAt_of 1 1 3 1 Try.underlying34 (by kernel_rfl) ty_sz3 (by kernel_rfl)
theorem ty_fa34_2 : FieldAt Try.prog 34 2 2 := fieldAt_of 2 2 32 1 Try.underlying34 (by kernel_rfl) ty_sz32 (by kernel_rfl)
theorem ty_fa34_3 : FieldAt Try.prog 34 3 3 := fieldAt_of 3 3 32 1 Try.underlying34 (by kernel_rfl) ty_sz32 (by kernel_rfl)
theorem ty_fa34_4 : FieldAt Try.prog 34 4 4 := fieldAt_of 4 4 32 1 Try.underlying34 (by kernel_rfl) ty_sz32 (by kernel_rfl)
theorem ty_i35 : (Try.prog.info? 35).map (fun i => (i.zero, i.size, i.bytes)) = some (some (.nilFunc), 1, 8) := by kernel_rfl
theorem ty_sz35 : Sz Try.prog 35 1 := fun w => by obtain ⟨i, h1, h2, h3, h4⟩ := info_parts ty_i35; simp [sizeOf, typeInfo, h1, h3]
theorem ty_zr35 : Zr Try.prog 35 [.nilFunc] := ⟨.nilFunc, rfl, fun w => by obtain ⟨i, h1, h2, h3, h4⟩ := info_parts ty_i35; simp [zeroValue, typeInfo, h1, h2]⟩
theorem ty_sc35 : Sc Try.prog 35 := fun w => by simp [isAgg, run_underlying Try.underlying35]
theorem ty_i36 : (Try.prog.info? 36).map (fun i => (i.zero, i.size, i.bytes)) = some (some (.nilFunc), 1, 8) := by kernel_rfl
theorem ty_sz36 : Sz Try.prog 36 1 := fun w => by obtain ⟨i, h1, h2, h3, h4⟩ := info_parts ty_i36; simp [sizeOf, typeInfo, h1, h3]
theorem ty_zr36 : Zr Try.prog 36 [.nilFunc] := ⟨.nilFunc, rfl, fun w => by obtain ⟨i, h1, h2, h3, h4⟩ := info_parts ty_i36; simp [zeroValue, typeInfo, h1, h2]⟩
theorem ty_sc36 : Sc Try.prog 36 := fun w => by simp [isAgg, run_underlying Try.underlying36]
theorem ty_i37 : (Try.prog.info? 37).map (fun i => (i.zero, i.size, i.bytes)) = some (some (.int .i64 0), 1, 8) := by kernel_rfl
theorem ty_sz37 : Sz Try.prog 37 1 := fun w => by obtain ⟨i, h1, h2, h3, h4⟩ := info_parts ty_i37; simp [sizeOf, typeInfo, h1, h3]
theorem ty_zr37 : Zr Try.prog 37 [.int .i64 0] := ⟨.int .i64 0, rfl, fun w => by obtain ⟨i, h1, h2, h3, h4⟩ := info_parts ty_i37; simp [zeroValue, typeInfo, h1, h2]⟩
theorem ty_sc37 : Sc Try.prog 37 := fun w => by simp [isAgg, run_underlying Try.underlying37]
theorem ty_i39 : (Try.prog.info? 39).map (fun i => (i.zero, i.size, i.bytes)) = some (some (.nilFunc), 1, 8) := by kernel_rfl
theorem ty_sz39 : Sz Try.prog 39 1 := fun w => by obtain ⟨i, h1, h2, h3, h4⟩ := info_parts ty_i39; simp [sizeOf, typeInfo, h1, h3]
theorem ty_zr39 : Zr Try.prog 39 [.nilFunc] := ⟨.nilFunc, rfl, fun w => by obtain ⟨i, h1, h2, h3, h4⟩ := info_parts ty_i39; simp [zeroValue, typeInfo, h1, h2]⟩
theorem ty_sc39 : Sc Try.prog 39 := fun w => by simp [isAgg, run_underlying Try.underlying39]
theorem ty_i41 : (Try.prog.info? 41).map (fun i => (i.zero, i.size, i.bytes)) = some (some (.nilFunc), 1, 8) := by kernel_rfl
theorem ty_sz41 : Sz Try.prog 41 1 := fun w => by obtain ⟨i, h1, h2, h3, h4⟩ := info_parts ty_i41; simp [sizeOf, typeInfo, h1, h3]
theorem ty_zr41 : Zr Try.prog 41 [.nilFunc] := ⟨.nilFunc, rfl, fun w => by obtain ⟨i, h1, h2, h3, h4⟩ := info_parts ty_i41; simp [zeroValue, typeInfo, h1, h2]⟩
theorem ty_sc41 : Sc Try.prog 41 := fun w => by simp [isAgg, run_underlying Try.underlying41]
theorem ty_i42 : (Try.prog.info? 42).map (fun i => (i.zero, i.size, i.bytes)) = some (some (.slice none 0 0), 1, 24) := by kernel_rfl
theorem ty_sz42 : Sz Try.prog 42 1 := fun w => by obtain ⟨i, h1, h2, h3, h4⟩ := info_parts ty_i42; simp [sizeOf, typeInfo, h1, h3]
theorem ty_zr42 : Zr Try.prog 42 [.slice none 0 0] := ⟨.slice none 0 0, rfl, fun w => by obtain ⟨i, h1, h2, h3, h4⟩ := info_parts ty_i42; simp [zeroValue, typeInfo, h1, h2]⟩
theorem ty_sc42 : Sc Try.prog 42 := fun w => by simp [isAgg, run_underlying Try.underlying42]
theorem ty_i44 : (Try.prog.info? 44).map (fun i => (i.zero, i.size, i.bytes)) = some (some (.nilFunc), 1, 8) := by kernel_rfl
theorem ty_sz44 : Sz Try.prog 44 1 := fun w => by obtain ⟨i, h1, h2, h3, h4⟩ := info_parts ty_i44; simp [sizeOf, typeInfo, h1, h3]
theorem ty_zr44 : Zr Try.prog 44 [.nilFunc] := ⟨.nilFunc, rfl, fun w => by obtain ⟨i, h1, h2, h3, h4⟩ := info_parts ty_i44; simp [zeroValue, typeInfo, h1, h2]⟩
theorem ty_sc44 : Sc Try.prog 44 := fun w => by simp [isAgg, run_underlying Try.underlying44]
theorem ty_i46 : (Try.prog.info? 46).map (fun i => (i.zero, i.size, i.bytes)) = some (some (.nilFunc), 1, 8) := by kernel_rfl
theorem ty_sz46 : Sz Try.prog 46 1 := fun w => by obtain ⟨i, h1, h2, h3, h4⟩ := info_parts ty_i46; simp [sizeOf, typeInfo, h1, h3]
theorem ty_zr46 : Zr Try.prog 46 [.nilFunc] := ⟨.nilFunc, rfl, fun w => by obtain ⟨i, h1, h2, h3, h4⟩ := info_parts ty_i46; simp [zeroValue, typeInfo, h1, h2]⟩
theorem ty_sc46 : Sc Try.prog 46 := fun w => by simp [isAgg, run_underlying Try.underlying46]
theorem ty_i47 : (Try.prog.info? 47).map (fun i => (i.zero, i.size, i.bytes)) = some (some (.nilFunc), 1, 8) := by kernel_rfl
theorem ty_sz47 : Sz Try.prog 47 1 := fun w => by obtain ⟨i, h1, h2, h3, h4⟩ := info_parts ty_i47; simp [sizeOf, typeInfo, h1, h3]
theorem ty_zr47 : Zr Try.prog 47 [.nilFunc] := ⟨.nilFunc, rfl, fun w => by obtain ⟨i, h1, h2, h3, h4⟩ := info_parts ty_i47; simp [zeroValue, typeInfo, h1, h2]⟩
theorem ty_sc47 : Sc Try.prog 47 := fun w => by simp [isAgg, run_underlying Try.underlying47]
theorem ty_i48 : (Try.prog.info? 48).map (fun i => (i.zero, i.size, i.bytes)) = some (some (.nilFunc), 1, 8) := by kernel_rfl
theorem ty_sz48 : Sz Try.prog 48 1 := fun w => by obtain ⟨i, h1, h2, h3, h4⟩ := info_parts ty_i48; simp [sizeOf, typeInfo, h1, h3]
theorem ty_zr48 : Zr Try.prog 48 [.nilFunc] := ⟨.nilFunc, rfl, fun w => by obtain ⟨i, h1, h2, h3, h4⟩ := info_parts ty_i48; simp [zeroValue, typeInfo, h1, h2]⟩
theorem ty_sc48 : Sc Try.prog 48 := fun w => by simp [isAgg, run_underlying Try.underlying48]
theorem ty_i49 : (Try.prog.info? 49).map (fun i => (i.zero, i.size, i.bytes)) = some (some (.nilFunc), 1, 8) := by kernel_rfl
theorem ty_sz49 : Sz Try.prog 49 1 := fun w => by obtain ⟨i, h1, h2, h3, h4⟩ := info_parts ty_i49; simp [sizeOf, typeInfo, h1, h3]
theorem ty_zr49 : Zr Try.prog 49 [.nilFunc] := ⟨.nilFunc, rfl, fun w => by obtain ⟨i, h1, h2, h3, h4⟩ := info_parts ty_i49; simp [zeroValue, typeInfo, h1, h2]⟩
theorem ty_sc49 : Sc Try.prog 49 := fun w => by simp [isAgg, run_underlying Try.underlying49]
theorem ty_i50 : (Try.prog.info? 50).map (fun i => (i.zero, i.size, i.bytes)) = some (some (.nilFunc), 1, 8) := by kernel_rfl
theorem ty_sz50 : Sz Try.prog 50 1 := fun w => by obtain ⟨i, h1, h2, h3, h4⟩ := info_parts ty_i50; simp [sizeOf, typeInfo, h1, h3]
theorem ty_zr50 : Zr Try.prog 50 [.nilFunc] := ⟨.nilFunc, rfl, fun w => by obtain ⟨i, h1, h2, h3, h4⟩ := info_parts ty_i50; simp [zeroValue, typeInfo, h1, h2]⟩
theorem ty_sc50 : Sc Try.prog 50 := fun w => by simp [isAgg, run_underlying Try.underlying50]
theorem ty_i51 : (Try.prog.info? 51).map (fun i => (i.zero, i.size, i.bytes)) = some (some (.nilFunc), 1, 8) := by kernel_rfl
theorem ty_sz51 : Sz Try.prog 51 1 := fun w => by obtain ⟨i, h1, h2, h3, h4⟩ := info_parts ty_i51; simp [sizeOf, typeInfo, h1, h3]
theorem ty_zr51 : Zr Try.prog 51 [.nilFunc] := ⟨.nilFunc, rfl, fun w => by obtain ⟨i, h1, h2, h3, h4⟩ := info_parts ty_i51; simp [zeroValue, typeInfo, h1, h2]⟩
theorem ty_sc51 : Sc Try.prog 51 := fun w => by simp [isAgg, run_underlying Try.underlying51]
theorem ty_i52 : (Try.prog.info? 52).map (fun i => (i.zero, i.size, i.bytes)) = some (some (.nilFunc), 1, 8) := by kernel_rfl
theorem ty_sz52 : Sz Try.prog 52 1 := fun w => by obtain ⟨i, h1, h2, h3, h4⟩ := info_parts ty_i52; simp [sizeOf, typeInfo, h1, h3]
theorem ty_zr52 : Zr Try.prog 52 [.nilFunc] := ⟨.nilFunc, rfl, fun w => by obtain ⟨i, h1, h2, h3, h4⟩ := info_parts ty_i52; simp [zeroValue, typeInfo, h1, h2]⟩
theorem ty_sc52 : Sc Try.prog 52 := fun w => by simp [isAgg, run_underlying Try.underlying52]
theorem ty_i53 : (Try.prog.info? 53).map (fun i => (i.zero, i.size, i.bytes)) = some (some (.nilFunc), 1, 8) := by kernel_rfl
theorem ty_sz53 : Sz Try.prog 53 1 := fun w => by obtain ⟨i, h1, h2, h3, h4⟩ := info_parts ty_i53; simp [sizeOf, typeInfo, h1, h3]
theorem ty_zr53 : Zr Try.prog 53 [.nilFunc] := ⟨.nilFunc, rfl, fun w => by obtain ⟨i, h1, h2, h3, h4⟩ := info_parts ty_i53; simp [zeroValue, typeInfo, h1, h2]⟩
theorem ty_sc53 : Sc Try.prog 53 := fun w => by simp [isAgg, run_underlying Try.underlying53]
theorem ty_i54 : (Try.prog.info? 54).map (fun i => (i.zero, i.size, i.bytes)) = some (some (.slice none 0 0), 1, 24) := by kernel_rfl
theorem ty_sz54 : Sz Try.prog 54 1 := fun w => by obtain ⟨i, h1, h2, h3, h4⟩ := info_parts ty_i54; simp [sizeOf, typeInfo, h1, h3]
theorem ty_zr54 : Zr Try.prog 54 [.slice none 0 0] := ⟨.slice none 0 0, rfl, fun w => by obtain ⟨i, h1, h2, h3, h4⟩ := info_parts ty_i54; simp [zeroValue, typeInfo, h1, h2]⟩
theorem ty_sc54 : Sc Try.prog 54 := fun w => by simp [isAgg, run_underlying Try.underlying54]
theorem ty_i55 : (Try.prog.info? 55).map (fun i => (i.zero, i.size, i.bytes)) = some (some (.agg #[.int .i64 0, .int .i64 0]), 2, 16) := by kernel_rfl
theorem ty_sz55 : Sz Try.prog 55 2 := fun w => by obtain ⟨i, h1, h2, h3, h4⟩ := info_parts ty_i55; simp [sizeOf, typeInfo, h1, h3]
theorem ty_zr55 : Zr Try.prog 55 [.int .i64 0, .int .i64 0] := ⟨.agg #[.int .i64 0, .int .i64 0], rfl, fun w => by obtain ⟨i, h1, h2, h3, h4⟩ := info_parts ty_i55; simp [zeroValue, typeInfo, h1, h2]⟩
theorem ty_ag55 : Ag Try.prog 55 2 := ⟨fun w => by simp [isAgg, run_underlying Try.underlying55], ty_sz55⟩
theorem ty_q2_55 : Eq2 Try.prog 55 := fun w x y i j m n => by
  by_cases h1 : i = m
  · by_cases h2 : j = n
    · subst h1 h2; go_simp
    · subst h1; go_simp
  · by_cases h2 : j = n
    · subst h2; go_simp
    · go_simp
theorem ty_fa55_0 : FieldAt Try.prog 55 0 0 := fieldAt_of 0 0 3 1 Try.underlying55 (by kernel_rfl) ty_sz3 (by kernel_rfl)
theorem ty_fa55_1 : FieldAt Try.prog 55 1 1 := fieldAt_of 1 1 3 1 Try.underlying55 (by kernel_rfl) ty_sz3 (by kernel_rfl)
theorem ty_i56 : (Try.prog.info? 56).map (fun i => (i.zero, i.size, i.bytes)) = some (some (.agg #[.int .i64 0, .int .i64 0]), 2, 16) := by kernel_rfl
theorem ty_sz56 : Sz Try.prog 56 2 := fun w => by obtain ⟨i, h1, h2, h3, h4⟩ := info_parts ty_i56; simp [sizeOf, typeInfo, h1, h3]
theorem ty_zr56 : Zr Try.prog 56 [.int .i64 0, .int .i64 0] := ⟨.agg #[.int .i64 0, .int .i64 0], rfl, fun w => by obtain ⟨i, h1, h2, h3, h4⟩ := info_parts ty_i56; simp [zeroValue, typeInfo, h1, h2]⟩
theorem ty_ag56 : Ag Try.prog 56 2 := ⟨fun w => by simp [isAgg, run_underlying Try.underlying56], ty_sz56⟩
theorem ty_q2_56 : Eq2 Try.prog 56 := fun w x y i j m n => by
  by_cases h1 : i = m
  · by_cases h2 : j = n
    · subst h1 h2; go_simp
    · subst h1; go_simp
  · by_cases h2 : j = n
    · subst h2; go_simp
    · go_simp
theorem ty_fa56_0 : FieldAt Try.prog 56 0 0 := fieldAt_of 0 0 3 1 Try.underlying56 (by kernel_rfl) ty_sz3 (by kernel_rfl)
theorem ty_fa56_1 : FieldAt Try.prog 56 1 1 := fieldAt_of 1 1 3 1 Try.underlying56 (by kernel_rfl) ty_sz3 (by kernel_rfl)
theorem ty_i57 : (Try.prog.info? 57).map (fun i => (i.zero, i.size, i.bytes)) = some (some (.agg #[.int .i64 0, .int .i64 0, .int .i64 0, .int .i64 0, .slice none 0 0]), 5, 56) := by kernel_rfl
theorem ty_sz57 : Sz Try.prog 57 5 := fun w => by obtain ⟨i, h1, h2, h3, h4⟩ := info_parts ty_i57; simp [sizeOf, typeInfo, h1, h3]
theorem ty_zr57 : Zr Try.prog 57 [.int .i64 0, .int .i64 0, .int .i64 0, .int .i64 0, .slice none 0 0] := ⟨.agg #[.int .i64 0, .int .i64 0, .int .i64 0, .int .i64 0, .slice none 0 0], rfl, fun w => by obtain ⟨i, h1, h2, h3, h4⟩ := info_parts ty_i57; simp [zeroValue, typeInfo, h1, h2]⟩
theorem ty_ag57 : Ag Try.prog 57 5 := ⟨fun w => by simp [isAgg, run_underlying Try.underlying57], ty_sz57⟩
theorem ty_fa57_0 : FieldAt Try.prog 57 0 0 := fieldAt_of 0 0 3 1 Try.underlying57 (by kernel_rfl) ty_sz3 (by kernel_rfl)
theorem ty_fa57_1 : FieldAt Try.prog 57 1 1 := fieldAt_of 1 1 3 1 Try.underlying57 (by kernel_rfl) ty_sz3 (by kernel_rfl)
theorem ty_fa57_2 : FieldAt Try.prog 57 2 2 := fieldAt_of 2 2 56 2 Try.underlying57 (by kernel_rfl) ty_sz56 (by kernel_rfl)
theorem ty_fa57_3 : FieldAt Try.prog 57 3 4 := fieldAt_of 3 4 54 1 Try.underlying57 (by kernel_rfl) ty_sz54 (by kernel_rfl)
theorem ty_i58 : (Try.prog.info? 58).map (fun i => (i.zero, i.size, i.bytes)) = some (some (.agg #[.int .i64 0, .int .i64 0, .int .i64 0, .int .i64 0, .slice none 0 0]), 5, 56) := by kernel_rfl
theorem ty_sz58 : Sz Try.prog 58 5 := fun w => by obtain ⟨i, h1, h2, h3, h4⟩ := info_parts ty_i58; simp [sizeOf, typeInfo, h1, h3]
theorem ty_zr58 : Zr Try.prog 58 [.int .i64 0, .int .i64 0, .int .i64 0, .int .i64 0, .slice none 0 0] := ⟨.agg #[.int .i64 0, .int .i64 0, .int .i64 0, .int .i64 0, .slice none 0 0], rfl, fun w => by obtain ⟨i, h1, h2, h3, h4⟩ := info_parts ty_i58; simp [zeroValue, typeInfo, h1, h2]⟩
theorem ty_ag58 : Ag Try.prog 58 5 := ⟨fun w => by simp [isAgg, run_underlying Try.underlying58], ty_sz58⟩
theorem ty_fa58_0 : FieldAt Try.prog 58 0 0 := fieldAt_of 0 0 3 1 Try.underlying58 (by kernel_rfl) ty_sz3 (by kernel_rfl)
theorem ty_fa58_1 : FieldAt Try.prog 58 1 1 := fieldAt_of 1 1 3 1 Try.underlying58 (by kernel_rfl) ty_sz3 (by kernel_rfl)
theorem ty_fa58_2 : FieldAt Try.prog 58 2 2 := fieldAt_of 2 2 56 2 Try.underlying58 (by kernel_rfl) ty_sz56 (by kernel_rfl)
theorem ty_fa58_3 : FieldAt Try.prog 58 3 4 := fieldAt_of 3 4 54 1 Try.underlying58 (by kernel_rfl) ty_sz54 (by kernel_rfl)
theorem ty_i59 : (Try.prog.info? 59).map (fun i => (i.zero, i.size, i.bytes)) = some (some (.nilFunc), 1, 8) := by kernel_rfl
theorem ty_sz59 : Sz Try.prog 59 1 := fun w => by obtain ⟨i, h1, h2, h3, h4⟩ := info_parts ty_i59; simp [sizeOf, typeInfo, h1, h3]
theorem ty_zr59 : Zr Try.prog 59 [.nilFunc] := ⟨.nilFunc, rfl, fun w => by obtain ⟨i, h1, h2, h3, h4⟩ := info_parts ty_i59; simp [zeroValue, typeInfo, h1, h2]⟩
theorem ty_sc59 : Sc Try.prog 59 := fun w => by simp [isAgg, run_underlying Try.underlying59]
theorem ty_i60 : (Try.prog.info? 60).map (fun i => (i.zero, i.size, i.bytes)) = some (some (.nilFunc), 1, 8) := by kernel_rfl
theorem ty_sz60 : Sz Try.prog 60 1 := fun w => by obtain ⟨i, h1, h2, h3, h4⟩ := info_parts ty_i60; simp [sizeOf, typeInfo, h1, h3]
theorem ty_zr60 : Zr Try.prog 60 [.nilFunc] := ⟨.nilFunc, rfl, fun w => by obtain ⟨i, h1, h2, h3, h4⟩ := info_parts ty_i60; simp [zeroValue, typeInfo, h1, h2]⟩
theorem ty_sc60 : Sc Try.prog 60 := fun w => by simp [isAgg, run_underlying Try.underlying60]
theorem ty_i61 : (Try.prog.info? 61).map (fun i => (i.zero, i.size, i.bytes)) = some (some (.agg #[.int .i64 0, .int .i64 0, .int .i64 0, .int .i64 0, .int .i64 0, .int .i64 0, .bool false]), 7, 56) := by kernel_rfl
theorem ty_sz61 : Sz Try.prog 61 7 := fun w => by obtain ⟨i, h1, h2, h3, h4⟩ := info_parts ty_i61; simp [sizeOf, typeInfo, h1, h3]
theorem ty_zr61 : Zr Try.prog 61 [.int .i64 0, .int .i64 0, .int .i64 0, .int .i64 0, .int .i64 0, .int .i64 0, .bool false] := ⟨.agg #[.int .i64 0, .int .i64 0, .int .i64 0, .int .i64 0, .int .i64 0, .int .i64 0, .bool false], rfl, fun w => by obtain ⟨i, h1, h2, h3, h4⟩ := info_parts ty_i61; simp [zeroValue, typeInfo, h1, h2]⟩
theorem ty_ag61 : Ag Try.prog 61 7 := ⟨fun w => by simp [isAgg, run_underlying Try.underlying61], ty_sz61⟩
theorem ty_fa61_0 : FieldAt Try.prog 61 0 0 := fieldAt_of 0 0 3 1 Try.underlying61 (by kernel_rfl) ty_sz3 (by kernel_rfl)
theorem ty_fa61_1 : FieldAt Try.prog 61 1 1 := fieldAt_of 1 1 3 1 Try.underlying61 (by kernel_rfl) ty_sz3 (by kernel_rfl)
theorem ty_fa61_2 : FieldAt Try.prog 61 2 2 := fieldAt_of 2 2 3 1 Try.underlying61 (by kernel_rfl) ty_sz3 (by kernel_rfl)
theorem ty_fa61_3 : FieldAt Try.prog 61 3 3 := fieldAt_of 3 3 3 1 Try.underlying61 (by kernel_rfl) ty_sz3 (by kernel_rfl)
theorem ty_fa61_4 : FieldAt Try.prog 61 4 4 := fieldAt_of 4 4 3 1 Try.underlying61 (by kernel_rfl) ty_sz3 (by kernel_rfl)
theorem ty_fa61_5 : FieldAt Try.prog 61 5 5 := fieldAt_of 5 5 3 1 Try.underlying61 (by kernel_rfl) ty_sz3 (by kernel_rfl)
theorem ty_fa61_6 : FieldAt Try.prog 61 6 6 := fieldAt_of 6 6 4 1 Try.underlying61 (by kernel_rfl) ty_sz4 (by kernel_rfl)
theorem ty_i62 : (Try.prog.info? 62).map (fun i => (i.zero, i.size, i.bytes)) = some (some (.agg #[.int .i64 0, .int .i64 0, .int .i64 0, .int .i64 0, .int .i64 0, .int .i64 0, .bool false]), 7, 56) := by kernel_rfl
theorem ty_sz62 : Sz Try.prog 62 7 := fun w => by obtain ⟨i, h1, h2, h3, h4⟩ := info_parts ty_i62; simp [sizeOf, typeInfo, h1, h3]
theorem ty_zr62 : Zr Try.prog 62 [.int .i64 0, .int .i64 0, .int .i64 0, .int .i64 0, .int .i64 0, .int .i64 0, .bool false] := ⟨.agg #[.int .i64 0, .int .i64 0, .int .i64 0, .int .i64 0, .int .i64 0, .int .i64 0, .bool false], rfl, fun w => by obtain ⟨i, h1, h2, h3, h4⟩ := info_parts ty_i62; simp [zeroValue, typeInfo, h1, h2]⟩
theorem ty_ag62 : Ag Try.prog 62 7 := ⟨fun w => by simp [isAgg, run_underlying Try.underlying62], ty_sz62⟩
theorem ty_fa62_0 : FieldAt Try.prog 62 0 0 := fieldAt_of 0 0 3 1 Try.underlying62 (by kernel_rfl) ty_sz3 (by kernel_rfl)
theorem ty_fa62_1 : FieldAt Try.prog 62 1 1 := fieldAt_of 1 1 3 1 Try.underlying62 (by kernel_rfl) ty_sz3 (by kernel_rfl)
theorem ty_fa62_2 : FieldAt Try.prog 62 2 2 := fieldAt_of 2 2 3 1 Try.underlying62 (by kernel_rfl) ty_sz3 (by kernel_rfl)
theorem ty_fa62_3 : FieldAt Try.prog 62 3 3 := fieldAt_of 3 3 3 1 Try.underlying62 (by kernel_rfl) ty_sz3 (by kernel_rfl)
theorem ty_fa62_4 : FieldAt Try.prog 62 4 4 := fieldAt_of 4 4 3 1 Try.underlying62 (by kernel_rfl) ty_sz3 (by kernel_rfl)
theorem ty_fa62_5 : FieldAt Try.prog 62 5 5 := fieldAt_of 5 5 3 1 Try.underlying62 (by kernel_rfl) ty_sz3 (by kernel_rfl)
theorem ty_fa62_6 : FieldAt Try.prog 62 6 6 := fieldAt_of 6 6 4 1 Try.underlying62 (by kernel_rfl) ty_sz4 (by kernel_rfl)
theorem ty_i63 : (Try.prog.info? 63).map (fun i => (i.zero, i.size, i.bytes)) = some (some (.agg #[.int .i64 0, .int .i64 0]), 2, 16) := by kernel_rfl
theorem ty_sz63 : Sz Try.prog 63 2 := fun w => by obtain ⟨i, h1, h2, h3, h4⟩ := info_parts ty_i63; simp [sizeOf, typeInfo, h1, h3]
theorem ty_zr63 : Zr Try.prog 63 [.int .i64 0, .int .i64 0] := ⟨.agg #[.int .i64 0, .int .i64 0], rfl, fun w => by obtain ⟨i, h1, h2, h3, h4⟩ := info_parts ty_i63; simp [zeroValue, typeInfo, h1, h2]⟩
theorem ty_ag63 : Ag Try.prog 63 2 := ⟨fun w => by simp [isAgg, run_underlying Try.underlying63], ty_sz63⟩
theorem ty_i64 : (Try.prog.info? 64).map (fun i => (i.zero, i.size, i.bytes)) = some (some (.nilFunc), 1, 8) := by kernel_rfl
theorem ty_sz64 : Sz Try.prog 64 1 := fun w => by obtain ⟨i, h1, h2, h3, h4⟩ := info_parts ty_i64; simp [sizeOf, typeInfo, h1, h3]
theorem ty_zr64 : Zr Try.prog 64 [.nilFunc] := ⟨.nilFunc, rfl, fun w => by obtain ⟨i, h1, h2, h3, h4⟩ := info_parts ty_i64; simp [zeroValue, typeInfo, h1, h2]⟩
theorem ty_sc64 : Sc Try.prog 64 := fun w => by simp [isAgg, run_underlying Try.underlying64]
theorem ty_i65 : (Try.prog.info? 65).map (fun i => (i.zero, i.size, i.bytes)) = some (some (.nilFunc), 1, 8) := by kernel_rfl
theorem ty_sz65 : Sz Try.prog 65 1 := fun w => by obtain ⟨i, h1, h2, h3, h4⟩ := info_parts ty_i65; simp [sizeOf, typeInfo, h1, h3]
theorem ty_zr65 : Zr Try.prog 65 [.nilFunc] := ⟨.nilFunc, rfl, fun w => by obtain ⟨i, h1, h2, h3, h4⟩ := info_parts ty_i65; simp [zeroValue, typeInfo, h1, h2]⟩
theorem ty_sc65 : Sc Try.prog 65 := fun w => by simp [isAgg, run_underlying Try.underlying65]
theorem ty_i66 : (Try.prog.info? 66).map (fun i => (i.zero, i.size, i.bytes)) = some (some (.nilFunc), 1, 8) := by kernel_rfl
theorem ty_sz66 : Sz Try.prog 66 1 := fun w => by obtain ⟨i, h1, h2, h3, h4⟩ := info_parts ty_i66; simp [sizeOf, typeInfo, h1, h3]
theorem ty_zr66 : Zr Try.prog 66 [.nilFunc] := ⟨.nilFunc, rfl, fun w => by obtain ⟨i, h1, h2, h3, h4⟩ := info_parts ty_i66; simp [zeroValue, typeInfo, h1, h2]⟩
theorem ty_sc66 : Sc Try.prog 66 := fun w => by simp [isAgg, run_underlying Try.underlying66]
theorem ty_i67 : (Try.prog.info? 67).map (fun i => (i.zero, i.size, i.bytes)) = some (some (.nilFunc), 1, 8) := by kernel_rfl
theorem ty_sz67 : Sz Try.prog 67 1 := fun w => by obtain ⟨i, h1, h2, h3, h4⟩ := info_parts ty_i67; simp [sizeOf, typeInfo, h1, h3]
theorem ty_zr67 : Zr Try.prog 67 [.nilFunc] := ⟨.nilFunc, rfl, fun w => by obtain ⟨i, h1, h2, h3, h4⟩ := info_parts ty_i67; simp [zeroValue, typeInfo, h1, h2]⟩
theorem ty_sc67 : Sc Try.prog 67 := fun w => by simp [isAgg, run_underlying Try.underlying67]
theorem ty_i68 : (Try.prog.info? 68).map (fun i => (i.zero, i.size, i.bytes)) = some (some (.agg #[.int .i64 0, .int .i64 0, .int .i64 0, .int .i64 0, .int .i64 0, .int .i64 0, .bool false]), 7, 56) := by kernel_rfl
theorem ty_sz68 : Sz Try.prog 68 7 := fun w => by obtain ⟨i, h1, h2, h3, h4⟩ := info_parts ty_i68; simp [sizeOf, typeInfo, h1, h3]
theorem ty_zr68 : Zr Try.prog 68 [.int .i64 0, .int .i64 0, .int .i64 0, .int .i64 0, .int .i64 0, .int .i64 0, .bool false] := ⟨.agg #[.int .i64 0, .int .i64 0, .int .i64 0, .int .i64 0, .int .i64 0, .int .i64 0, .bool false], rfl, fun w => by obtain ⟨i, h1, h2, h3, h4⟩ := info_parts ty_i68; simp [zeroValue, typeInfo, h1, h2]⟩
theorem ty_ag68 : Ag Try.prog 68 7 := ⟨fun w => by simp [isAgg, run_underlying Try.underlying68], ty_sz68⟩
theorem ty_fa68_0 : FieldAt Try.prog 68 0 0 := fieldAt_of 0 0 3 1 Try.underlying68 (by kernel_rfl) ty_sz3 (by kernel_rfl)
theorem ty_fa68_1 : FieldAt Try.prog 68 1 1 := fieldAt_of 1 1 3 1 Try.underlying68 (by kernel_rfl) ty_sz3 (by kernel_rfl)
theorem ty_fa68_2 : FieldAt Try.prog 68 2 2 := fieldAt_of 2 2 3 1 Try.underlying68 (by kernel_rfl) ty_sz3 (by kernel_rfl)
theorem ty_fa68_3 : FieldAt Try.prog 68 3 3 := fieldAt_of 3 3 3 1 Try.underlying68 (by kernel_rfl) ty_sz3 (by kernel_rfl)
theorem ty_fa68_4 : FieldAt Try.prog 68 4 4 := fieldAt_of 4 4 3 1 Try.underlying68 (by kernel_rfl) ty_sz3 (by kernel_rfl)
theorem ty_fa68_5 : FieldAt Try.prog 68 5 5 := fieldAt_of 5 5 3 1 Try.underlying68 (by kernel_rfl) ty_sz3 (by kernel_rfl)
theorem ty_fa68_6 : FieldAt Try.prog 68 6 6 := fieldAt_of 6 6 4 1 Try.underlying68 (by kernel_rfl) ty_sz4 (by kernel_rfl)
theorem ty_i69 : (Try.prog.info? 69).map (fun i => (i.zero, i.size, i.bytes)) = some (some (.nilFunc), 1, 8) := by kernel_rfl
theorem ty_sz69 : Sz Try.prog 69 1 := fun w => by obtain ⟨i, h1, h2, h3, h4⟩ := info_parts ty_i69; simp [sizeOf, typeInfo, h1, h3]
theorem ty_zr69 : Zr Try.prog 69 [.nilFunc] := ⟨.nilFunc, rfl, fun w => by obtain ⟨i, h1, h2, h3, h4⟩ := info_parts ty_i69; simp [zeroValue, typeInfo, h1, h2]⟩
theorem ty_sc69 : Sc Try.prog 69 := fun w => by simp [isAgg, run_underlying Try.underlying69]
theorem ty_i70 : (Try.prog.info? 70).map (fun i => (i.zero, i.size, i.bytes)) = some (some (.nilFunc), 1, 8) := by kernel_rfl
theorem ty_sz70 : Sz Try.prog 70 1 := fun w => by obtain ⟨i, h1, h2, h3, h4⟩ := info_parts ty_i70; simp [sizeOf, typeInfo, h1, h3]
theorem ty_zr70 : Zr Try.prog 70 [.nilFunc] := ⟨.nilFunc, rfl, fun w => by obtain ⟨i, h1, h2, h3, h4⟩ := info_parts ty_i70; simp [zeroValue, typeInfo, h1, h2]⟩
theorem ty_sc70 : Sc Try.prog 70 := fun w => by simp [isAgg, run_underlying Try.underlying70]
theorem ty_i71 : (Try.prog.info? 71).map (fun i => (i.zero, i.size, i.bytes)) = some (some (.agg #[.int .i64 0, .int .i64 0, .int .i64 0, .int .i64 0]), 4, 32) := by kernel_rfl
theorem ty_sz71 : Sz Try.prog 71 4 := fun w => by obtain ⟨i, h1, h2, h3, h4⟩ := info_parts ty_i71; simp [sizeOf, typeInfo, h1, h3]
theorem ty_zr71 : Zr Try.prog 71 [.int .i64 0, .int .i64 0, .int .i64 0, .int .i64 0] := ⟨.agg #[.int .i64 0, .int .i64 0, .int .i64 0, .int .i64 0], rfl, fun w => by obtain ⟨i, h1, h2, h3, h4⟩ := info_parts ty_i71; simp [zeroValue, typeInfo, h1, h2]⟩
theorem ty_ag71 : Ag Try.prog 71 4 := ⟨fun w => by simp [isAgg, run_underlying Try.underlying71], ty_sz71⟩
theorem ty_fa71_0 : FieldAt Try.prog 71 0 0 := fieldAt_of 0 0 3 1 Try.underlying71 (by kernel_rfl) ty_sz3 (by kernel_rfl)
theorem ty_fa71_1 : FieldAt Try.prog 71 1 1 := fieldAt_of 1 1 3 1 Try.underlying71 (by kernel_rfl) ty_sz3 (by kernel_rfl)
theorem ty_fa71_2 : FieldAt Try.prog 71 2 2 := fieldAt_of 2 2 3 1 Try.underlying71 (by kernel_rfl) ty_sz3 (by kernel_rfl)
theorem ty_fa71_3 : FieldAt Try.prog 71 3 3 := fieldAt_of 3 3 3 1 Try.underlying71 (by kernel_rfl) ty_sz3 (by kernel_rfl)
theorem ty_i72 : (Try.prog.info? 72).map (fun i => (i.zero, i.size, i.bytes)) = some (some (.agg #[.int .i64 0, .int .i64 0, .int .i64 0, .int .i64 0]), 4, 32) := by kernel_rfl
theorem ty_sz72 : Sz Try.prog 72 4 := fun w => by obtain ⟨i, h1, h2, h3, h4⟩ := info_parts ty_i72; simp [sizeOf, typeInfo, h1, h3]
theorem ty_zr72 : Zr Try.prog 72 [.int .i64 0, .int .i64 0, .int .i64 0, .int .i64 0] := ⟨.agg #[.int .i64 0, .int .i64 0, .int .i64 0, .int .i64 0], rfl, fun w => by obtain ⟨i, h1, h2, h3, h4⟩ := info_parts ty_i72; simp [zeroValue, typeInfo, h1, h2]⟩
theorem ty_ag72 : Ag Try.prog 72 4 := ⟨fun w => by simp [isAgg, run_underlying Try.underlying72], ty_sz72⟩
theorem ty_fa72_0 : FieldAt Try.prog 72 0 0 := fieldAt_of 0 0 3 1 Try.underlying72 (by kernel_rfl) ty_sz3 (by kernel_rfl)
theorem ty_fa72_1 : FieldAt Try.prog 72 1 1 := fieldAt_of 1 1 3 1 Try.underlying72 (by kernel_rfl) ty_sz3 (by kernel_rfl)
theorem ty_fa72_2 : FieldAt Try.prog 72 2 2 := fieldAt_of 2 2 3 1 Try.underlying72 (by kernel_rfl) ty_sz3 (by kernel_rfl)
theorem ty_fa72_3 : FieldAt Try.prog 72 3 3 := fieldAt_of 3 3 3 1 Try.underlying72 (by kernel_rfl) ty_sz3 (by kernel_rfl)
theorem ty_i73 : (Try.prog.info? 73).map (fun i => (i.zero, i.size, i.bytes)) = some (some (.agg #[.int .i64 0, .int .i64 0, .int .i64 0, .int .i64 0]), 4, 32) := by kernel_rfl
theorem ty_sz73 : Sz Try.prog 73 4 := fun w => by obtain ⟨i, h1, h2, h3, h4⟩ := info_parts ty_i73; simp [sizeOf, typeInfo, h1, h3]
theorem ty_zr73 : Zr Try.prog 73 [.int .i64 0, .int .i64 0, .int .i64 0, .int .i64 0] := ⟨.agg #[.int .i64 0, .int .i64 0, .int .i64 0, .int .i64 0], rfl, fun w => by obtain ⟨i, h1, h2, h3, h4⟩ := info_parts ty_i73; simp [zeroValue, typeInfo, h1, h2]⟩
theorem ty_ag73 : Ag Try.prog 73 4 := ⟨fun w => by simp [isAgg, run_underlying Try.underlying73], ty_sz73⟩
theorem ty_fa73_0 : FieldAt Try.prog 73 0 0 := fieldAt_of 0 0 3 1 Try.underlying73 (by kernel_rfl) ty_sz3 (by kernel_rfl)
theorem ty_fa73_1 : FieldAt Try.prog 73 1 1 := fieldAt_of 1 1 3 1 Try.underlying73 (by kernel_rfl) ty_sz3 (by kernel_rfl)
theorem ty_fa73_2 : FieldAt Try.prog 73 2 2 := fieldAt_of 2 2 3 1 Try.underlying73 (by kernel_rfl) ty_sz3 (by kernel_rfl)
theorem ty_fa73_3 : FieldAt Try.prog 73 3 3 := fieldAt_of 3 3 3 1 Try.underlying73 (by kernel_rfl) ty_sz3 (by kernel_rfl)
theorem ty_i74 : (Try.prog.info? 74).map (fun i => (i.zero, i.size, i.bytes)) = some (some (.nilFunc), 1, 8) := by kernel_rfl
theorem ty_sz74 : Sz Try.prog 74 1 := fun w => by obtain ⟨i, h1, h2, h3, h4⟩ := info_parts ty_i74; simp [sizeOf, typeInfo, h1, h3]
theorem ty_zr74 : Zr Try.prog 74 [.nilFunc] := ⟨.nilFunc, rfl, fun w => by obtain ⟨i, h1, h2, h3, h4⟩ := info_parts ty_i74; simp [zeroValue, typeInfo, h1, h2]⟩
theorem ty_sc74 : Sc Try.prog 74 := fun w => by simp [isAgg, run_underlying Try.underlying74]
theorem ty_i75 : (Try.prog.info? 75).map (fun i => (i.zero, i.size, i.bytes)) = some (some (.nilFunc), 1, 8) := by kernel_rfl
theorem ty_sz75 : Sz Try.prog 75 1 := fun w => by obtain ⟨i, h1, h2, h3, h4⟩ := info_parts ty_i75; simp [sizeOf, typeInfo, h1, h3]
theorem ty_zr75 : Zr Try.prog 75 [.nilFunc] := ⟨.nilFunc, rfl, fun w => by obtain ⟨i, h1, h2, h3, h4⟩ := info_parts ty_i75; simp [zeroValue, typeInfo, h1, h2]⟩
theorem ty_sc75 : Sc Try.prog 75 := fun w => by simp [isAgg, run_underlying Try.underlying75]
theorem ty_i76 : (Try.prog.info? 76).map (fun i => (i.zero, i.size, i.bytes)) = some (some (.agg #[.int .i64 0, .int .i64 0, .int .i64 0]), 3, 24) := by kernel_rfl
theorem ty_sz76 : Sz Try.prog 76 3 := fun w => by obtain ⟨i, h1, h2, h3, h4⟩ := info_parts ty_i76; simp [sizeOf, typeInfo, h1, h3]
theorem ty_zr76 : Zr Try.prog 76 [.int .i64 0, .int .i64 0, .int .i64 0] := ⟨.agg #[.int .i64 0, .int .i64 0, .int .i64 0], rfl, fun w => by obtain ⟨i, h1, h2, h3, h4⟩ := info_parts ty_i76; simp [zeroValue, typeInfo, h1, h2]⟩
theorem ty_ag76 : Ag Try.prog 76 3 := ⟨fun w => by simp [isAgg, run_underlying Try.underlying76], ty_sz76⟩
theorem ty_fa76_0 : FieldAt Try.prog 76 0 0 := fieldAt_of 0 0 3 1 Try.underlying76 (by kernel_rfl) ty_sz3 (by kernel_rfl)
theorem ty_fa76_1 : FieldAt Try.prog 76 1 1 := fieldAt_of 1 1 3 1 Try.underlying76 (by kernel_rfl) ty_sz3 (by kernel_rfl)
theorem ty_fa76_2 : FieldAt Try.prog 76 2 2 := fieldAt_of 2 2 3 1 Try.underlying76 (by kernel_rfl) ty_sz3 (by kernel_rfl)
theorem ty_i77 : (Try.prog.info? 77).map (fun i => (i.zero, i.size, i.bytes)) = some (some (.agg #[.int .i64 0, .int .i64 0, .int .i64 0]), 3, 24) := by kernel_rfl
theorem ty_sz77 : Sz Try.prog 77 3 := fun w => by obtain ⟨i, h1, h2, h3, h4⟩ := info_parts ty_i77; simp [sizeOf, typeInfo, h1, h3]
theorem ty_zr77 : Zr Try.prog 77 [.int .i64 0, .int .i64 0, .int .i64 0] := ⟨.agg #[.int .i64 0, .int .i64 0, .int .i64 0], rfl, fun w => by obtain ⟨i, h1, h2, h3, h4⟩ := info_parts ty_i77; simp [zeroValue, typeInfo, h1, h2]⟩
theorem ty_ag77 : Ag Try.prog 77 3 := ⟨fun w => by simp [isAgg, run_underlying Try.underlying77], ty_sz77⟩
theorem ty_fa77_0 : FieldAt Try.prog 77 0 0 := fieldAt_of 0 0 3 1 Try.underlying77 (by kernel_rfl) ty_sz3 (by kernel_rfl)
theorem ty_fa77_1 : FieldAt Try.prog 77 1 1 := fieldAt_of 1 1 3 1 Try.underlying77 (by kernel_rfl) ty_sz3 (by kernel_rfl)
theorem ty_fa77_2 : FieldAt Try.prog 77 2 2 := fieldAt_of 2 2 3 1 Try.underlying77 (by kernel_rfl) ty_sz3 (by kernel_rfl)
theorem ty_i78 : (Try.prog.info? 78).map (fun i => (i.zero, i.size, i.bytes)) = some (some (.agg #[.int .i64 0, .int .i64 0, .int .i64 0]), 3, 24) := by kernel_rfl
theorem ty_sz78 : Sz Try.prog 78 3 := fun w => by obtain ⟨i, h1, h2, h3, h4⟩ := info_parts ty_i78; simp [sizeOf, typeInfo, h1, h3]
theorem ty_zr78 : Zr Try.prog 78 [.int .i64 0, .int .i64 0, .int .i64 0] := ⟨.agg #[.int .i64 0, .int .i64 0, .int .i64 0], rfl, fun w => by obtain ⟨i, h1, h2, h3, h4⟩ := info_parts ty_i78; simp [zeroValue, typeInfo, h1, h2]⟩
theorem ty_ag78 : Ag Try.prog 78 3 := ⟨fun w => by simp [isAgg, run_underlying Try.underlying78], ty_sz78⟩
theorem ty_fa78_0 : FieldAt Try.prog 78 0 0 := fieldAt_of 0 0 3 1 Try.underlying78 (by kernel_rfl) ty_sz3 (by kernel_rfl)
theorem ty_fa78_1 : FieldAt Try.prog 78 1 1 := fieldAt_of 1 1 3 1 Try.underlying78 (by kernel_rfl) ty_sz3 (by kernel_rfl)
theorem ty_fa78_2 : FieldAt Try.prog 78 2 2 := fieldAt_of 2 2 3 1 Try.underlying78 (by kernel_rfl) ty_sz3 (by kernel_rfl)
theorem ty_i79 : (Try.prog.info? 79).map (fun i => (i.zero, i.size, i.bytes)) = some (some (.nilFunc), 1, 8) := by kernel_rfl
theorem ty_sz79 : Sz Try.prog 79 1 := fun w => by obtain ⟨i, h1, h2, h3, h4⟩ := info_parts ty_i79; simp [sizeOf, typeInfo, h1, h3]
theorem ty_zr79 : Zr Try.prog 79 [.nilFunc] := ⟨.nilFunc, rfl, fun w => by obtain ⟨i, h1, h2, h3, h4⟩ := info_parts ty_i79; simp [zeroValue, typeInfo, h1, h2]⟩
theorem ty_sc79 : Sc Try.prog 79 := fun w => by simp [isAgg, run_underlying Try.underlying79]
theorem ty_i80 : (Try.prog.info? 80).map (fun i => (i.zero, i.size, i.bytes)) = some (some (.nilFunc), 1, 8) := by kernel_rfl
theorem ty_sz80 : Sz Try.prog 80 1 := fun w => by obtain ⟨i, h1, h2, h3, h4⟩ := info_parts ty_i80; simp [sizeOf, typeInfo, h1, h3]
theorem ty_zr80 : Zr Try.prog 80 [.nilFunc] := ⟨.nilFunc, rfl, fun w => by obtain ⟨i, h1, h2, h3, h4⟩ := info_parts ty_i80; simp [zeroValue, typeInfo, h1, h2]⟩
theorem ty_sc80 : Sc Try.prog 80 := fun w => by simp [isAgg, run_underlying Try.underlying80]
theorem ty_i81 : (Try.prog.info? 81).map (fun i => (i.zero, i.size, i.bytes)) = some (some (.nilFunc), 1, 8) := by kernel_rfl
theorem ty_sz81 : Sz Try.prog 81 1 := fun w => by obtain ⟨i, h1, h2, h3, h4⟩ := info_parts ty_i81; simp [sizeOf, typeInfo, h1, h3]
theorem ty_zr81 : Zr Try.prog 81 [.nilFunc] := ⟨.nilFunc, rfl, fun w => by obtain ⟨i, h1, h2, h3, h4⟩ := info_parts ty_i81; simp [zeroValue, typeInfo, h1, h2]⟩
theorem ty_sc81 : Sc Try.prog 81 := fun w => by simp [isAgg, run_underlying Try.underlying81]
theorem ty_i82 : (Try.prog.info? 82).map (fun i => (i.zero, i.size, i.bytes)) = some (some (.agg #[.int .i64 0, .int .i64 0, .int .i64 0, .int .i64 0, .int .i64 0, .int .i64 0, .int .i64 0, .int .i64 0, .int .i64 0]), 9, 72) := by kernel_rfl
theorem ty_sz82 : Sz Try.prog 82 9 := fun w => by obtain ⟨i, h1, h2, h3, h4⟩ := info_parts ty_i82; simp [sizeOf, typeInfo, h1, h3]
theorem ty_zr82 : Zr Try.prog 82 [.int .i64 0, .int .i64 0, .int .i64 0, .int .i64 0, .int .i64 0, .int .i64 0, .int .i64 0, .int .i64 0, .int .i64 0] := ⟨.agg #[.int .i64 0, .int .i64 0, .int .i64 0, .int .i64 0, .int .i64 0, .int .i64 0, .int .i64 0, .int .i64 0, .int .i64 0], rfl, fun w => by obtain ⟨i, h1, h2, h3, h4⟩ := info_parts ty_i82; simp [zeroValue, typeInfo, h1, h2]⟩
theorem ty_ag82 : Ag Try.prog 82 9 := ⟨fun w => by simp [isAgg, run_underlying Try.underlying82], ty_sz82⟩
theorem ty_fa82_0 : FieldAt Try.prog 82 0 0 := fieldAt_of 0 0 3 1 Try.underlying82 (by kernel_rfl) ty_sz3 (by kernel_rfl)
theorem ty_fa82_1 : FieldAt Try.prog 82 1 1 := fieldAt_of 1 1 3 1 Try.underlying82 (by kernel_rfl) ty_sz3 (by kernel_rfl)
theorem ty_fa82_2 : FieldAt Try.prog 82 2 2 := fieldAt_of 2 2 3 1 Try.underlying82 (by kernel_rfl) ty_sz3 (by kernel_rfl)
theorem ty_fa82_3 : FieldAt Try.prog 82 3 3 := fieldAt_of 3 3 56 2 Try.underlying82 (by kernel_rfl) ty_sz56 (by kernel_rfl)
theorem ty_fa82_4 : FieldAt Try.prog 82 4 5 := fieldAt_of 4 5 3 1 Try.underlying82 (by kernel_rfl) ty_sz3 (by kernel_rfl)
theorem ty_fa82_5 : FieldAt Try.prog 82 5 6 := fieldAt_of 5 6 56 2 Try.underlying82 (by kernel_rfl) ty_sz56 (by kernel_rfl)
theorem ty_fa82_6 : FieldAt Try.prog 82 6 8 := fieldAt_of 6 8 3 1 Try.underlying82 (by kernel_rfl) ty_sz3 (by kernel_rfl)
theorem ty_i83 : (Try.prog.info? 83).map (fun i => (i.zero, i.size, i.bytes)) = some (some (.agg #[.int .i64 0, .int .i64 0, .int .i64 0, .int .i64 0, .int .i64 0, .int .i64 0, .int .i64 0, .int .i64 0, .int .i64 0]), 9, 72) := by kernel_rfl
theorem ty_sz83 : Sz Try.prog 83 9 := fun w => by obtain ⟨i, h1, h2, h3, h4⟩ := info_parts ty_i83; simp [sizeOf, typeInfo, h1, h3]
theorem ty_zr83 : Zr Try.prog 83 [.int .i64 0, .int .i64 0, .int .i64 0, .int .i64 0, .int .i64 0, .int .i64 0, .int .i64 0, .int .i64 0, .int .i64 0] := ⟨.agg #[.int .i64 0, .int .i64 0, .int .i64 0, .int .i64 0, .int .i64 0, .int .i64 0, .int .i64 0, .int .i64 0, .int .i64 0], rfl, fun w => by obtain ⟨i, h1, h2, h3, h4⟩ := info_parts ty_i83; simp [zeroValue, typeInfo, h1, h2]⟩
theorem ty_ag83 : Ag Try.prog 83 9 := ⟨fun w => by simp [isAgg, run_underlying Try.underlying83], ty_sz83⟩
theorem ty_fa83_0 : FieldAt Try.prog 83 0 0 := fieldAt_of 0 0 3 1 Try.underlying83 (by kernel_rfl) ty_sz3 (by kernel_rfl)
theorem ty_fa83_1 : FieldAt Try.prog 83 1 1 := fieldAt_of 1 1 3 1 Try.underlying83 (by kernel_rfl) ty_sz3 (by kernel_rfl)
theorem ty_fa83_2 : FieldAt Try.prog 83 2 2 := fieldAt_of 2 2 3 1 Try.underlying83 (by kernel_rfl) ty_sz3 (by kernel_rfl)
theorem ty_fa83_3 : FieldAt Try.prog 83 3 3 := fieldAt_of 3 3 56 2 Try.underlying83 (by kernel_rfl) ty_sz56 (by kernel_rfl)
theorem ty_fa83_4 : FieldAt Try.prog 83 4 5 := fieldAt_of 4 5 3 1 Try.underlying83 (by kernel_rfl) ty_sz3 (by kernel_rfl)
theorem ty_fa83_5 : FieldAt Try.prog 83 5 6 := fieldAt_of 5 6 56 2 Try.underlying83 (by kernel_rfl) ty_sz56 (by kernel_rfl)
theorem ty_fa83_6 : FieldAt Try.prog 83 6 8 := fieldAt_of 6 8 3 1 Try.underlying83 (by kernel_rfl) ty_sz3 (by kernel_rfl)
theorem ty_i84 : (Try.prog.info? 84).map (fun i => (i.zero, i.size, i.bytes)) = some (some (.agg #[.int .i64 0, .int .i64 0, .int .i64 0, .int .i64 0]), 4, 32) := by kernel_rfl
theorem ty_sz84 : Sz Try.prog 84 4 := fun w => by obtain ⟨i, h1, h2, h3, h4⟩ := info_parts ty_i84; simp [sizeOf, typeInfo, h1, h3]
theorem ty_zr84 : Zr Try.prog 84 [.int .i64 0, .int .i64 0, .int .i64 0, .int .i64 0] := ⟨.agg #[.int .i64 0, .int .i64 0, .int .i64 0, .int .i64 0], rfl, fun w => by obtain ⟨i, h1, h2, h3, h4⟩ := info_parts ty_i84; simp [zeroValue, typeInfo, h1, h2]⟩
theorem ty_ag84 : Ag Try.prog 84 4 := ⟨fun w => by simp [isAgg, run_underlying Try.underlying84], ty_sz84⟩
theorem ty_fa84_0 : FieldAt Try.prog 84 0 0 := fieldAt_of 0 0 56 2 Try.underlying84 (by kernel_rfl) ty_sz56 (by kernel_rfl)
theorem ty_fa84_1 : FieldAt Try.prog 84 1 2 := fieldAt_of 1 2 56 2 Try.underlying84 (by kernel_rfl) ty_sz56 (by kernel_rfl)
theorem ty_i85 : (Try.prog.info? 85).map (fun i => (i.zero, i.size, i.bytes)) = some (some (.agg #[.int .i64 0, .int .i64 0, .int .i64 0, .int .i64 0]), 4, 32) := by kernel_rfl
theorem ty_sz85 : Sz Try.prog 85 4 := fun w => by obtain ⟨i, h1, h2, h3, h4⟩ := info_parts ty_i85; simp [sizeOf, typeInfo, h1, h3]
theorem ty_zr85 : Zr Try.prog 85 [.int .i64 0, .int .i64 0, .int .i64 0, .int .i64 0] := ⟨.agg #[.int .i64 0, .int .i64 0, .int .i64 0, .int .i64 0], rfl, fun w => by obtain ⟨i, h1, h2, h3, h4⟩ := info_parts ty_i85; simp [zeroValue, typeInfo, h1, h2]⟩
theorem ty_ag85 : Ag Try.prog 85 4 := ⟨fun w => by simp [isAgg, run_underlying Try.underlying85], ty_sz85⟩
theorem ty_fa85_0 : FieldAt Try.prog 85 0 0 := fieldAt_of 0 0 56 2 Try.underlying85 (by kernel_rfl) ty_sz56 (by kernel_rfl)
theorem ty_fa85_1 : FieldAt Try.prog 85 1 2 := fieldAt_of 1 2 56 2 Try.underlying85 (by kernel_rfl) ty_sz56 (by kernel_rfl)
theorem ty_i86 : (Try.prog.info? 86).map (fun i => (i.zero, i.size, i.bytes)) = some (some (.nilFunc), 1, 8) := by kernel_rfl
theorem ty_sz86 : Sz Try.prog 86 1 := fun w => by obtain ⟨i, h1, h2, h3, h4⟩ := info_parts ty_i86; simp [sizeOf, typeInfo, h1, h3]
theorem ty_zr86 : Zr Try.prog 86 [.nilFunc] := ⟨.nilFunc, rfl, fun w => by obtain ⟨i, h1, h2, h3, h4⟩ := info_parts ty_i86; simp [zeroValue, typeInfo, h1, h2]⟩
theorem ty_sc86 : Sc Try.prog 86 := fun w => by simp [isAgg, run_underlying Try.underlying86]
theorem ty_i87 : (Try.prog.info? 87).map (fun i => (i.zero, i.size, i.bytes)) = some (some (.nilFunc), 1, 8) := by kernel_rfl
theorem ty_sz87 : Sz Try.prog 87 1 := fun w => by obtain ⟨i, h1, h2, h3, h4⟩ := info_parts ty_i87; simp [sizeOf, typeInfo, h1, h3]
theorem ty_zr87 : Zr Try.prog 87 [.nilFunc] := ⟨.nilFunc, rfl, fun w => by obtain ⟨i, h1, h2, h3, h4⟩ := info_parts ty_i87; simp [zeroValue, typeInfo, h1, h2]⟩
theorem ty_sc87 : Sc Try.prog 87 := fun w => by simp [isAgg, run_underlying Try.underlying87]
theorem ty_i88 : (Try.prog.info? 88).map (fun i => (i.zero, i.size, i.bytes)) = some (some (.nilFunc), 1, 8) := by kernel_rfl
theorem ty_sz88 : Sz Try.prog 88 1 := fun w => by obtain ⟨i, h1, h2, h3, h4⟩ := info_parts ty_i88; simp [sizeOf, typeInfo, h1, h3]
theorem ty_zr88 : Zr Try.prog 88 [.nilFunc] := ⟨.nilFunc, rfl, fun w => by obtain ⟨i, h1, h2, h3, h4⟩ := info_parts ty_i88; simp [zeroValue, typeInfo, h1, h2]⟩
theorem ty_sc88 : Sc Try.prog 88 := fun w => by simp [isAgg, run_underlying Try.underlying88]
theorem ty_i89 : (Try.prog.info? 89).map (fun i => (i.zero, i.size, i.bytes)) = some (some (.nilFunc), 1, 8) := by kernel_rfl
theorem ty_sz89 : Sz Try.prog 89 1 := fun w => by obtain ⟨i, h1, h2, h3, h4⟩ := info_parts ty_i89; simp [sizeOf, typeInfo, h1, h3]
theorem ty_zr89 : Zr Try.prog 89 [.nilFunc] := ⟨.nilFunc, rfl, fun w => by obtain ⟨i, h1, h2, h3, h4⟩ := info_parts ty_i89; simp [zeroValue, typeInfo, h1, h2]⟩
theorem ty_sc89 : Sc Try.prog 89 := fun w => by simp [isAgg, run_underlying Try.underlying89]
theorem ty_i90 : (Try.prog.info? 90).map (fun i => (i.zero, i.size, i.bytes)) = some (some (.nilFunc), 1, 8) := by kernel_rfl
theorem ty_sz90 : Sz Try.prog 90 1 := fun w => by obtain ⟨i, h1, h2, h3, h4⟩ := info_parts ty_i90; simp [sizeOf, typeInfo, h1, h3]
theorem ty_zr90 : Zr Try.prog 90 [.nilFunc] := ⟨.nilFunc, rfl, fun w => by obtain ⟨i, h1, h2, h3, h4⟩ := info_parts ty_i90; simp [zeroValue, typeInfo, h1, h2]⟩
theorem ty_sc90 : Sc Try.prog 90 := fun w => by simp [isAgg, run_underlying Try.underlying90]
theorem ty_i91 : (Try.prog.info? 91).map (fun i => (i.zero, i.size, i.bytes)) = some (some (.nilFunc), 1, 8) := by kernel_rfl
theorem ty_sz91 : Sz Try.prog 91 1 := fun w => by obtain ⟨i, h1, h2, h3, h4⟩ := info_parts ty_i91; simp [sizeOf, typeInfo, h1, h3]
theorem ty_zr91 : Zr Try.prog 91 [.nilFunc] := ⟨.nilFunc, rfl, fun w => by obtain ⟨i, h1, h2, h3, h4⟩ := info_parts ty_i91; simp [zeroValue, typeInfo, h1, h2]⟩
theorem ty_sc91 : Sc Try.prog 91 := fun w => by simp [isAgg, run_underlying Try.underlying91]
theorem ty_i92 : (Try.prog.info? 92).map (fun i => (i.zero, i.size, i.bytes)) = some (some (.nilFunc), 1, 8) := by kernel_rfl
theorem ty_sz92 : Sz Try.prog 92 1 := fun w => by obtain ⟨i, h1, h2, h3, h4⟩ := info_parts ty_i92; simp [sizeOf, typeInfo, h1, h3]
theorem ty_zr92 : Zr Try.prog 92 [.nilFunc] := ⟨.nilFunc, rfl, fun w => by obtain ⟨i, h1, h2, h3, h4⟩ := info_parts ty_i92; simp [zeroValue, typeInfo, h1, h2]⟩
theorem ty_sc92 : Sc Try.prog 92 := fun w => by simp [isAgg, run_underlying Try.underlying92]
theorem ty_i93 : (Try.prog.info? 93).map (fun i => (i.zero, i.size, i.bytes)) = some (some (.nilFunc), 1, 8) := by kernel_rfl
theorem ty_sz93 : Sz Try.prog 93 1 := fun w => by obtain ⟨i, h1, h2, h3, h4⟩ := info_parts ty_i93; simp [sizeOf, typeInfo, h1, h3]
theorem ty_zr93 : Zr Try.prog 93 [.nilFunc] := ⟨.nilFunc, rfl, fun w => by obtain ⟨i, h1, h2, h3, h4⟩ := info_parts ty_i93; simp [zeroValue, typeInfo, h1, h2]⟩
theorem ty_sc93 : Sc Try.prog 93 := fun w => by simp [isAgg, run_underlying Try.underlying93]
theorem ty_i94 : (Try.prog.info? 94).map (fun i => (i.zero, i.size, i.bytes)) = some (some (.nilFunc), 1, 8) := by kernel_rfl
theorem ty_sz94 : Sz Try.prog 94 1 := fun w => by obtain ⟨i, h1, h2, h3, h4⟩ := info_parts ty_i94; simp [sizeOf, typeInfo, h1, h3]
theorem ty_zr94 : Zr Try.prog 94 [.nilFunc] := ⟨.nilFunc, rfl, fun w => by obtain ⟨i, h1, h2, h3, h4⟩ := info_parts ty_i94; simp [zeroValue, typeInfo, h1, h2]⟩
theorem ty_sc94 : Sc Try.prog 94 := fun w => by simp [isAgg, run_underlying Try.underlying94]
theorem ty_i95 : (Try.prog.info? 95).map (fun i => (i.zero, i.size, i.bytes)) = some (some (.nilIface), 1, 16) := by kernel_rfl
theorem ty_sz95 : Sz Try.prog 95 1 := fun w => by obtain ⟨i, h1, h2, h3, h4⟩ := info_parts ty_i95; simp [sizeOf, typeInfo, h1, h3]
theorem ty_zr95 : Zr Try.prog 95 [.nilIface] := ⟨.nilIface, rfl, fun w => by obtain ⟨i, h1, h2, h3, h4⟩ := info_parts ty_i95; simp [zeroValue, typeInfo, h1, h2]⟩
theorem ty_sc95 : Sc Try.prog 95 := fun w => by simp [isAgg, run_underlying Try.underlying95]
theorem ty_i96 : (Try.prog.info? 96).map (fun i => (i.zero, i.size, i.bytes)) = some (some (.nilIface), 1, 16) := by kernel_rfl
theorem ty_sz96 : Sz Try.prog 96 1 := fun w => by obtain ⟨i, h1, h2, h3, h4⟩ := info_parts ty_i96; simp [sizeOf, typeInfo, h1, h3]
theorem ty_zr96 : Zr Try.prog 96 [.nilIface] := ⟨.nilIface, rfl, fun w => by obtain ⟨i, h1, h2, h3, h4⟩ := info_parts ty_i96; simp [zeroValue, typeInfo, h1, h2]⟩
theorem ty_sc96 : Sc Try.prog 96 := fun w => by simp [isAgg, run_underlying Try.underlying96]
theorem ty_i97 : (Try.prog.info? 97).map (fun i => (i.zero, i.size, i.bytes)) = some (some (.nilFunc), 1, 8) := by kernel_rfl
theorem ty_sz97 : Sz Try.prog 97 1 := fun w => by obtain ⟨i, h1, h2, h3, h4⟩ := info_parts ty_i97; simp [sizeOf, typeInfo, h1, h3]
theorem ty_zr97 : Zr Try.prog 97 [.nilFunc] := ⟨.nilFunc, rfl, fun w => by obtain ⟨i, h1, h2, h3, h4⟩ := info_parts ty_i97; simp [zeroValue, typeInfo, h1, h2]⟩
theorem ty_sc97 : Sc Try.prog 97 := fun w => by simp [isAgg, run_underlying Try.underlying97]
theorem ty_i98 : (Try.prog.info? 98).map (fun i => (i.zero, i.size, i.bytes)) = some (some (.nilFunc), 1, 8) := by kernel_rfl
theorem ty_sz98 : Sz Try.prog 98 1 := fun w => by obtain ⟨i, h1, h2, h3, h4⟩ := info_parts ty_i98; simp [sizeOf, typeInfo, h1, h3]
theorem ty_zr98 : Zr Try.prog 98 [.nilFunc] := ⟨.nilFunc, rfl, fun w => by obtain ⟨i, h1, h2, h3, h4⟩ := info_parts ty_i98; simp [zeroValue, typeInfo, h1, h2]⟩
theorem ty_sc98 : Sc Try.prog 98 := fun w => by simp [isAgg, run_underlying Try.underlying98]
theorem ty_i99 : (Try.prog.info? 99).map (fun i => (i.zero, i.size, i.bytes)) = some (some (.nilFunc), 1, 8) := by kernel_rfl
theorem ty_sz99 : Sz Try.prog 99 1 := fun w => by obtain ⟨i, h1, h2, h3, h4⟩ := info_parts ty_i99; simp [sizeOf, typeInfo, h1, h3]
theorem ty_zr99 : Zr Try.prog 99 [.nilFunc] := ⟨.nilFunc, rfl, fun w => by obtain ⟨i, h1, h2, h3, h4⟩ := info_parts ty_i99; simp [zeroValue, typeInfo, h1, h2]⟩
theorem ty_sc99 : Sc Try.prog 99 := fun w => by simp [isAgg, run_underlying Try.underlying99]
theorem ty_i100 : (Try.prog.info? 100).map (fun i => (i.zero, i.size, i.bytes)) = some (some (.nilFunc), 1, 8) := by kernel_rfl
theorem ty_sz100 : Sz Try.prog 100 1 := fun w => by obtain ⟨i, h1, h2, h3, h4⟩ := info_parts ty_i100; simp [sizeOf, typeInfo, h1, h3]
theorem ty_zr100 : Zr Try.prog 100 [.nilFunc] := ⟨.nilFunc, rfl, fun w => by obtain ⟨i, h1, h2, h3, h4⟩ := info_parts ty_i100; simp [zeroValue, typeInfo, h1, h2]⟩
theorem ty_sc100 : Sc Try.prog 100 := fun w => by simp [isAgg, run_underlying Try.underlying100]
theorem ty_i101 : (Try.prog.info? 101).map (fun i => (i.zero, i.size, i.bytes)) = some (some (.nilFunc), 1, 8) := by kernel_rfl
theorem ty_sz101 : Sz Try.prog 101 1 := fun w => by obtain ⟨i, h1, h2, h3, h4⟩ := info_parts ty_i101; simp [sizeOf, typeInfo, h1, h3]
theorem ty_zr101 : Zr Try.prog 101 [.nilFunc] := ⟨.nilFunc, rfl, fun w => by obtain ⟨i, h1, h2, h3, h4⟩ := info_parts ty_i101; simp [zeroValue, typeInfo, h1, h2]⟩
theorem ty_sc101 : Sc Try.prog 101 := fun w => by simp [isAgg, run_underlying Try.underlying101]
theorem ty_i102 : (Try.prog.info? 102).map (fun i => (i.zero, i.size, i.bytes)) = some (some (.nilFunc), 1, 8) := by kernel_rfl
theorem ty_sz102 : Sz Try.prog 102 1 := fun w => by obtain ⟨i, h1, h2, h3, h4⟩ := info_parts ty_i102; simp [sizeOf, typeInfo, h1, h3]
theorem ty_zr102 : Zr Try.prog 102 [.nilFunc] := ⟨.nilFunc, rfl, fun w => by obtain ⟨i, h1, h2, h3, h4⟩ := info_parts ty_i102; simp [zeroValue, typeInfo, h1, h2]⟩
theorem ty_sc102 : Sc Try.prog 102 := fun w => by simp [isAgg, run_underlying Try.underlying102]
theorem ty_i103 : (Try.prog.info? 103).map (fun i => (i.zero, i.size, i.bytes)) = some (some (.nilFunc), 1, 8) := by kernel_rfl
theorem ty_sz103 : Sz Try.prog 103 1 := fun w => by obtain ⟨i, h1, h2, h3, h4⟩ := info_parts ty_i103; simp [sizeOf, typeInfo, h1, h3]
theorem ty_zr103 : Zr Try.prog 103 [.nilFunc] := ⟨.nilFunc, rfl, fun w => by obtain ⟨i, h1, h2, h3, h4⟩ := info_parts ty_i103; simp [zeroValue, typeInfo, h1, h2]⟩
theorem ty_sc103 : Sc Try.prog 103 := fun w => by simp [isAgg, run_underlying Try.underlying103]
theorem ty_i104 : (Try.prog.info? 104).map (fun i => (i.zero, i.size, i.bytes)) = some (some (.nilFunc), 1, 8) := by kernel_rfl
theorem ty_sz104 : Sz Try.prog 104 1 := fun w => by obtain ⟨i, h1, h2, h3, h4⟩ := info_parts ty_i104; simp [sizeOf, typeInfo, h1, h3]
theorem ty_zr104 : Zr Try.prog 104 [.nilFunc] := ⟨.nilFunc, rfl, fun w => by obtain ⟨i, h1, h2, h3, h4⟩ := info_parts ty_i104; simp [zeroValue, typeInfo, h1, h2]⟩
theorem ty_sc104 : Sc Try.prog 104 := fun w => by simp [isAgg, run_underlying Try.underlying104]
theorem ty_i105 : (Try.prog.info? 105).map (fun i => (i.zero, i.size, i.bytes)) = some (some (.nilFunc), 1, 8) := by kernel_rfl
theorem ty_sz105 : Sz Try.prog 105 1 := fun w => by obtain ⟨i, h1, h2, h3, h4⟩ := info_parts ty_i105; simp [sizeOf, typeInfo, h1, h3]
theorem ty_zr105 : Zr Try.prog 105 [.nilFunc] := ⟨.nilFunc, rfl, fun w => by obtain ⟨i, h1, h2, h3, h4⟩ := info_parts ty_i105; simp [zeroValue, typeInfo, h1, h2]⟩
theorem ty_sc105 : Sc Try.prog 105 := fun w => by simp [isAgg, run_underlying Try.underlying105]
theorem ty_i106 : (Try.prog.info? 106).map (fun i => (i.zero, i.size, i.bytes)) = some (some (.slice none 0 0), 1, 24) := by kernel_rfl
theorem ty_sz106 : Sz Try.prog 106 1 := fun w => by obtain ⟨i, h1, h2, h3, h4⟩ := info_parts ty_i106; simp [sizeOf, typeInfo, h1, h3]
theorem ty_zr106 : Zr Try.prog 106 [.slice none 0 0] := ⟨.slice none 0 0, rfl, fun w => by obtain ⟨i, h1, h2, h3, h4⟩ := info_parts ty_i106; simp [zeroValue, typeInfo, h1, h2]⟩
theorem ty_sc106 : Sc Try.prog 106 := fun w => by simp [isAgg, run_underlying Try.underlying106]
theorem ty_i107 : (Try.prog.info? 107).map (fun i => (i.zero, i.size, i.bytes)) = some (some (.nilFunc), 1, 8) := by kernel_rfl
theorem ty_sz107 : Sz Try.prog 107 1 := fun w => by obtain ⟨i, h1, h2, h3, h4⟩ := info_parts ty_i107; simp [sizeOf, typeInfo, h1, h3]
theorem ty_zr107 : Zr Try.prog 107 [.nilFunc] := ⟨.nilFunc, rfl, fun w => by obtain ⟨i, h1, h2, h3, h4⟩ := info_parts ty_i107; simp [zeroValue, typeInfo, h1, h2]⟩
theorem ty_sc107 : Sc Try.prog 107 := fun w => by simp [isAgg, run_underlying Try.underlying107]
theorem ty_i108 : (Try.prog.info? 108).map (fun i => (i.zero, i.size, i.bytes)) = some (some (.nilFunc), 1, 8) := by kernel_rfl
theorem ty_sz108 : Sz Try.prog 108 1 := fun w => by obtain ⟨i, h1, h2, h3, h4⟩ := info_parts ty_i108; simp [sizeOf, typeInfo, h1, h3]
theorem ty_zr108 : Zr Try.prog 108 [.nilFunc] := ⟨.nilFunc, rfl, fun w => by obtain ⟨i, h1, h2, h3, h4⟩ := info_parts ty_i108; simp [zeroValue, typeInfo, h1, h2]⟩
theorem ty_sc108 : Sc Try.prog 108 := fun w => by simp [isAgg, run_underlying Try.underlying108]
theorem ty_i109 : (Try.prog.info? 109).map (fun i => (i.zero, i.size, i.bytes)) = some (some (.nilFunc), 1, 8) := by kernel_rfl
theorem ty_sz109 : Sz Try.prog 109 1 := fun w => by obtain ⟨i, h1, h2, h3, h4⟩ := info_parts ty_i109; simp [sizeOf, typeInfo, h1, h3]
theorem ty_zr109 : Zr Try.prog 109 [.nilFunc] := ⟨.nilFunc, rfl, fun w => by obtain ⟨i, h1, h2, h3, h4⟩ := info_parts ty_i109; simp [zeroValue, typeInfo, h1, h2]⟩
theorem ty_sc109 : Sc Try.prog 109 := fun w => by simp [isAgg, run_underlying Try.underlying109]
theorem ty_i110 : (Try.prog.info? 110).map (fun i => (i.zero, i.size, i.bytes)) = some (some (.nilFunc), 1, 8) := by kernel_rfl
theorem ty_sz110 : Sz Try.prog 110 1 := fun w => by obtain ⟨i, h1, h2, h3, h4⟩ := info_parts ty_i110; simp [sizeOf, typeInfo, h1, h3]
theorem ty_zr110 : Zr Try.prog 110 [.nilFunc] := ⟨.nilFunc, rfl, fun w => by obtain ⟨i, h1, h2, h3, h4⟩ := info_parts ty_i110; simp [zeroValue, typeInfo, h1, h2]⟩
theorem ty_sc110 : Sc Try.prog 110 := fun w => by simp [isAgg, run_underlying Try.underlying110]
theorem ty_i111 : (Try.prog.info? 111).map (fun i => (i.zero, i.size, i.bytes)) = some (some (.nilFunc), 1, 8) := by kernel_rfl
theorem ty_sz111 : Sz Try.prog 111 1 := fun w => by obtain ⟨i, h1, h2, h3, h4⟩ := info_parts ty_i111; simp [sizeOf, typeInfo, h1, h3]
theorem ty_zr111 : Zr Try.prog 111 [.nilFunc] := ⟨.nilFunc, rfl, fun w => by obtain ⟨i, h1, h2, h3, h4⟩ := info_parts ty_i111; simp [zeroValue, typeInfo, h1, h2]⟩
theorem ty_sc111 : Sc Try.prog 111 := fun w => by simp [isAgg, run_underlying Try.underlying111]
theorem ty_i112 : (Try.prog.info? 112).map (fun i => (i.zero, i.size, i.bytes)) = some (some (.agg #[.pointer none, .pointer none, .pointer none, .string ⟨#[]⟩]), 4, 40) := by kernel_rfl
theorem ty_sz112 : Sz Try.prog 112 4 := fun w => by obtain ⟨i, h1, h2, h3, h4⟩ := info_parts ty_i112; simp [sizeOf, typeInfo, h1, h3]
theorem ty_zr112 : Zr Try.prog 112 [.pointer none, .pointer none, .pointer none, .string ⟨#[]⟩] := ⟨.agg #[.pointer none, .pointer none, .pointer none, .string ⟨#[]⟩], rfl, fun w => by obtain ⟨i, h1, h2, h3, h4⟩ := info_parts ty_i112; simp [zeroValue, typeInfo, h1, h2]⟩
theorem ty_ag112 : Ag Try.prog 112 4 := ⟨fun w => by simp [isAgg, run_underlying Try.underlying112], ty_sz112⟩
theorem ty_fa112_0 : FieldAt Try.prog 112 0 0 := fieldAt_of 0 0 17 1 Try.underlying112 (by kernel_rfl) ty_sz17 (by kernel_rfl)
theorem ty_fa112_1 : FieldAt Try.prog 112 1 1 := fieldAt_of 1 1 17 1 Try.underlying112 (by kernel_rfl) ty_sz17 (by kernel_rfl)
theorem ty_fa112_2 : FieldAt Try.prog 112 2 2 := fieldAt_of 2 2 17 1 Try.underlying112 (by kernel_rfl) ty_sz17 (by kernel_rfl)
theorem ty_fa112_3 : FieldAt Try.prog 112 3 3 := fieldAt_of 3 3 9 1 Try.underlying112 (by kernel_rfl) ty_sz9 (by kernel_rfl)
theorem ty_i113 : (Try.prog.info? 113).map (fun i => (i.zero, i.size, i.bytes)) = some (some (.agg #[.pointer none, .pointer none, .pointer none, .string ⟨#[]⟩]), 4, 40) := by kernel_rfl
theorem ty_sz113 : Sz Try.prog 113 4 := fun w => by obtain ⟨i, h1, h2, h3, h4⟩ := info_parts ty_i113; simp [sizeOf, typeInfo, h1, h3]
theorem ty_zr113 : Zr Try.prog 113 [.pointer none, .pointer none, .pointer none, .string ⟨#[]⟩] := ⟨.agg #[.pointer none, .pointer none, .pointer none, .string ⟨#[]⟩], rfl, fun w => by obtain ⟨i, h1, h2, h3, h4⟩ := info_parts ty_i113; simp [zeroValue, typeInfo, h1, h2]⟩
theorem ty_ag113 : Ag Try.prog 113 4 := ⟨fun w => by simp [isAgg, run_underlying Try.underlying113], ty_sz113⟩
theorem ty_fa113_0 : FieldAt Try.prog 113 0 0 := fieldAt_of 0 0 17 1 Try.underlying113 (by kernel_rfl) ty_sz17 (by kernel_rfl)
theorem ty_fa113_1 : FieldAt Try.prog 113 1 1 := fieldAt_of 1 1 17 1 Try.underlying113 (by kernel_rfl) ty_sz17 (by kernel_rfl)
theorem ty_fa113_2 : FieldAt Try.prog 113 2 2 := fieldAt_of 2 2 17 1 Try.underlying113 (by kernel_rfl) ty_sz17 (by kernel_rfl)
theorem ty_fa113_3 : FieldAt Try.prog 113 3 3 := fieldAt_of 3 3 9 1 Try.underlying113 (by kernel_rfl) ty_sz9 (by kernel_rfl)
theorem ty_i114 : (Try.prog.info? 114).map (fun i => (i.zero, i.size, i.bytes)) = some (some (.agg #[]), 0, 0) := by kernel_rfl
theorem ty_sz114 : Sz Try.prog 114 0 := fun w => by obtain ⟨i, h1, h2, h3, h4⟩ := info_parts ty_i114; simp [sizeOf, typeInfo, h1, h3]
theorem ty_zr114 : Zr Try.prog 114 [] := ⟨.agg #[], rfl, fun w => by obtain ⟨i, h1, h2, h3, h4⟩ := info_parts ty_i114; simp [zeroValue, typeInfo, h1, h2]⟩
theorem ty_ag114 : Ag Try.prog 114 0 := ⟨fun w => by simp [isAgg, run_underlying Try.underlying114], ty_sz114⟩
theorem ty_i115 : (Try.prog.info? 115).map (fun i => (i.zero, i.size, i.bytes)) = some (some (.agg #[]), 0, 0) := by kernel_rfl
theorem ty_sz115 : Sz Try.prog 115 0 := fun w => by obtain ⟨i, h1, h2, h3, h4⟩ := info_parts ty_i115; simp [sizeOf, typeInfo, h1, h3]
theorem ty_zr115 : Zr Try.prog 115 [] := ⟨.agg #[], rfl, fun w => by obtain ⟨i, h1, h2, h3, h4⟩ := info_parts ty_i115; simp [zeroValue, typeInfo, h1, h2]⟩
theorem ty_ag115 : Ag Try.prog 115 0 := ⟨fun w => by simp [isAgg, run_underlying Try.underlying115], ty_sz115⟩
theorem ty_i116 : (Try.prog.info? 116).map (fun i => (i.zero, i.size, i.bytes)) = some (some (.agg #[]), 0, 0) := by kernel_rfl
theorem ty_sz116 : Sz Try.prog 116 0 := fun w => by obtain ⟨i, h1, h2, h3, h4⟩ := info_parts ty_i116; simp [sizeOf, typeInfo, h1, h3]
theorem ty_zr116 : Zr Try.prog 116 [] := ⟨.agg #[], rfl, fun w => by obtain ⟨i, h1, h2, h3, h4⟩ := info_parts ty_i116; simp [zeroValue, typeInfo, h1, h2]⟩
theorem ty_ag116 : Ag Try.prog 116 0 := ⟨fun w => by simp [isAgg, run_underlying Try.underlying116], ty_sz116⟩
theorem ty_i117 : (Try.prog.info? 117).map (fun i => (i.zero, i.size, i.bytes)) = some (some (.nilFunc), 1, 8) := by kernel_rfl
theorem ty_sz117 : Sz Try.prog 117 1 := fun w => by obtain ⟨i, h1, h2, h3, h4⟩ := info_parts ty_i117; simp [sizeOf, typeInfo, h1, h3]
theorem ty_zr117 : Zr Try.prog 117 [.nilFunc] := ⟨.nilFunc, rfl, fun w => by obtain ⟨i, h1, h2, h3, h4⟩ := info_parts ty_i117; simp [zeroValue, typeInfo, h1, h2]⟩
theorem ty_sc117 : Sc Try.prog 117 := fun w => by simp [isAgg, run_underlying Try.underlying117]
theorem ty_i118 : (Try.prog.info? 118).map (fun i => (i.zero, i.size, i.bytes)) = some (some (.int .u32 0), 1, 4) := by kernel_rfl
theorem ty_sz118 : Sz Try.prog 118 1 := fun w => by obtain ⟨i, h1, h2, h3, h4⟩ := info_parts ty_i118; simp [sizeOf, typeInfo, h1, h3]
theorem ty_zr118 : Zr Try.prog 118 [.int .u32 0] := ⟨.int .u32 0, rfl, fun w => by obtain ⟨i, h1, h2, h3, h4⟩ := info_parts ty_i118; simp [zeroValue, typeInfo, h1, h2]⟩
theorem ty_sc118 : Sc Try.prog 118 := fun w => by simp [isAgg, run_underlying Try.underlying118]
theorem ty_i119 : (Try.prog.info? 119).map (fun i => (i.zero, i.size, i.bytes)) = some (some (.int .u8 0), 1, 1) := by kernel_rfl
theorem ty_sz119 : Sz Try.prog 119 1 := fun w => by obtain ⟨i, h1, h2, h3, h4⟩ := info_parts ty_i119; simp [sizeOf, typeInfo, h1, h3]
theorem ty_zr119 : Zr Try.prog 119 [.int .u8 0] := ⟨.int .u8 0, rfl, fun w => by obtain ⟨i, h1, h2, h3, h4⟩ := info_parts ty_i119; simp [zeroValue, typeInfo, h1, h2]⟩
theorem ty_sc119 : Sc Try.prog 119 := fun w => by simp [isAgg, run_underlying Try.underlying119]
theorem ty_i120 : (Try.prog.info? 120).map (fun i => (i.zero, i.size, i.bytes)) = some (some (.int .u8 0), 1, 1) := by kernel_rfl
theorem ty_sz120 : Sz Try.prog 120 1 := fun w => by obtain ⟨i, h1, h2, h3, h4⟩ := info_parts ty_i120; simp [sizeOf, typeInfo, h1, h3]
theorem ty_zr120 : Zr Try.prog 120 [.int .u8 0] := ⟨.int .u8 0, rfl, fun w => by obtain ⟨i, h1, h2, h3, h4⟩ := info_parts ty_i120; simp [zeroValue, typeInfo, h1, h2]⟩
theorem ty_sc120 : Sc Try.prog 120 := fun w => by simp [isAgg, run_underlying Try.underlying120]
theorem ty_i121 : (Try.prog.info? 121).map (fun i => (i.zero, i.size, i.bytes)) = some (some (.nilFunc), 1, 8) := by kernel_rfl
theorem ty_sz121 : Sz Try.prog 121 1 := fun w => by obtain ⟨i, h1, h2, h3, h4⟩ := info_parts ty_i121; simp [sizeOf, typeInfo, h1, h3]
theorem ty_zr121 : Zr Try.prog 121 [.nilFunc] := ⟨.nilFunc, rfl, fun w => by obtain ⟨i, h1, h2, h3, h4⟩ := info_parts ty_i121; simp [zeroValue, typeInfo, h1, h2]⟩
theorem ty_sc121 : Sc Try.prog 121 := fun w => by simp [isAgg, run_underlying Try.underlying121]
theorem ty_i122 : (Try.prog.info? 122).map (fun i => (i.zero, i.size, i.bytes)) = some (some (.pointer none), 1, 8) := by kernel_rfl
theorem ty_sz122 : Sz Try.prog 122 1 := fun w => by obtain ⟨i, h1, h2, h3, h4⟩ := info_parts ty_i122; simp [sizeOf, typeInfo, h1, h3]
theorem ty_zr122 : Zr Try.prog 122 [.pointer none] := ⟨.pointer none, rfl, fun w => by obtain ⟨i, h1, h2, h3, h4⟩ := info_parts ty_i122; simp [zeroValue, typeInfo, h1, h2]⟩
theorem ty_sc122 : Sc Try.prog 122 := fun w => by simp [isAgg, run_underlying Try.underlying122]
theorem ty_i123 : (Try.prog.info? 123).map (fun i => (i.zero, i.size, i.bytes)) = some (some (.int .i32 0), 1, 4) := by kernel_rfl
theorem ty_sz123 : Sz Try.prog 123 1 := fun w => by obtain ⟨i, h1, h2, h3, h4⟩ := info_parts ty_i123; simp [sizeOf, typeInfo, h1, h3]
theorem ty_zr123 : Zr Try.prog 123 [.int .i32 0] := ⟨.int .i32 0, rfl, fun w => by obtain ⟨i, h1, h2, h3, h4⟩ := info_parts ty_i123; simp [zeroValue, typeInfo, h1, h2]⟩
theorem ty_sc123 : Sc Try.prog 123 := fun w => by simp [isAgg, run_underlying Try.underlying123]
theorem ty_i124 : (Try.prog.info? 124).map (fun i => (i.zero, i.size, i.bytes)) = some (some (.int .i32 0), 1, 4) := by kernel_rfl
theorem ty_sz124 : Sz Try.prog 124 1 := fun w => by obtain ⟨i, h1, h2, h3, h4⟩ := info_parts ty_i124; simp [sizeOf, typeInfo, h1, h3]
theorem ty_zr124 : Zr Try.prog 124 [.int .i32 0] := ⟨.int .i32 0, rfl, fun w => by obtain ⟨i, h1, h2, h3, h4⟩ := info_parts ty_i124; simp [zeroValue, typeInfo, h1, h2]⟩
theorem ty_sc124 : Sc Try.prog 124 := fun w => by simp [isAgg, run_underlying Try.underlying124]
theorem ty_i125 : (Try.prog.info? 125).map (fun i => (i.zero, i.size, i.bytes)) = some (some (.agg #[.int .u64 0, .int .u64 0, .int .u32 0, .int .u8 0, .int .u8 0, .int .u8 0, .int .u8 0, .nilFunc, .pointer none, .int .i32 0, .int .i32 0]), 11, 48) := by kernel_rfl
theorem ty_sz125 : Sz Try.prog 125 11 := fun w => by obtain ⟨i, h1, h2, h3, h4⟩ := info_parts ty_i125; simp [sizeOf, typeInfo, h1, h3]
theorem ty_zr125 : Zr Try.prog 125 [.int .u64 0, .int .u64 0, .int .u32 0, .int .u8 0, .int .u8 0, .int .u8 0, .int .u8 0, .nilFunc, .pointer none, .int .i32 0, .int .i32 0] := ⟨.agg #[.int .u64 0, .int .u64 0, .int .u32 0, .int .u8 0, .int .u8 0, .int .u8 0, .int .u8 0, .nilFunc, .pointer none, .int .i32 0, .int .i32 0], rfl, fun w => by obtain ⟨i, h1, h2, h3, h4⟩ := info_parts ty_i125; simp [zeroValue, typeInfo, h1, h2]⟩
theorem ty_ag125 : Ag Try.prog 125 11 := ⟨fun w => by simp [isAgg, run_underlying Try.underlying125], ty_sz125⟩
theorem ty_fa125_0 : FieldAt Try.prog 125 0 0 := fieldAt_of 0 0 12 1 Try.underlying125 (by kernel_rfl) ty_sz12 (by kernel_rfl)
theorem ty_fa125_1 : FieldAt Try.prog 125 1 1 := fieldAt_of 1 1 12 1 Try.underlying125 (by kernel_rfl) ty_sz12 (by kernel_rfl)
theorem ty_fa125_2 : FieldAt Try.prog 125 2 2 := fieldAt_of 2 2 118 1 Try.underlying125 (by kernel_rfl) ty_sz118 (by kernel_rfl)
theorem ty_fa125_3 : FieldAt Try.prog 125 3 3 := fieldAt_of 3 3 119 1 Try.underlying125 (by kernel_rfl) ty_sz119 (by kernel_rfl)
theorem ty_fa125_4 : FieldAt Try.prog 125 4 4 := fieldAt_of 4 4 5 1 Try.underlying125 (by kernel_rfl) ty_sz5 (by kernel_rfl)
theorem ty_fa125_5 : FieldAt Try.prog 125 5 5 := fieldAt_of 5 5 5 1 Try.underlying125 (by kernel_rfl) ty_sz5 (by kernel_rfl)
theorem ty_fa125_6 : FieldAt Try.prog 125 6 6 := fieldAt_of 6 6 120 1 Try.underlying125 (by kernel_rfl) ty_sz120 (by kernel_rfl)
theorem ty_fa125_7 : FieldAt Try.prog 125 7 7 := fieldAt_of 7 7 121 1 Try.underlying125 (by kernel_rfl) ty_sz121 (by kernel_rfl)
theorem ty_fa125_8 : FieldAt Try.prog 125 8 8 := fieldAt_of 8 8 122 1 Try.underlying125 (by kernel_rfl) ty_sz122 (by kernel_rfl)
theorem ty_fa125_9 : FieldAt Try.prog 125 9 9 := fieldAt_of 9 9 123 1 Try.underlying125 (by kernel_rfl) ty_sz123 (by kernel_rfl)
theorem ty_fa125_10 : FieldAt Try.prog 125 10 10 := fieldAt_of 10 10 124 1 Try.underlying125 (by kernel_rfl) ty_sz124 (by kernel_rfl)
theorem ty_i126 : (Try.prog.info? 126).map (fun i => (i.zero, i.size, i.bytes)) = some (some (.agg #[.int .u64 0, .int .u64 0, .int .u32 0, .int .u8 0, .int .u8 0, .int .u8 0, .int .u8 0, .nilFunc, .pointer none, .int .i32 0, .int .i32 0]), 11, 48) := by kernel_rfl
theorem ty_sz126 : Sz Try.prog 126 11 := fun w => by obtain ⟨i, h1, h2, h3, h4⟩ := info_parts ty_i126; simp [sizeOf, typeInfo, h1, h3]
theorem ty_zr126 : Zr Try.prog 126 [.int .u64 0, .int .u64 0, .int .u32 0, .int .u8 0, .int .u8 0, .int .u8 0, .int .u8 0, .nilFunc, .pointer none, .int .i32 0, .int .i32 0] := ⟨.agg #[.int .u64 0, .int .u64 0, .int .u32 0, .int .u8 0, .int .u8 0, .int .u8 0, .int .u8 0, .nilFunc, .pointer none, .int .i32 0, .int .i32 0], rfl, fun w => by obtain ⟨i, h1, h2, h3, h4⟩ := info_parts ty_i126; simp [zeroValue, typeInfo, h1, h2]⟩
theorem ty_ag126 : Ag Try.prog 126 11 := ⟨fun w => by simp [isAgg, run_underlying Try.underlying126], ty_sz126⟩
theorem ty_fa126_0 : FieldAt Try.prog 126 0 0 := fieldAt_of 0 0 12 1 Try.underlying126 (by kernel_rfl) ty_sz12 (by kernel_rfl)
theorem ty_fa126_1 : FieldAt Try.prog 126 1 1 := fieldAt_of 1 1 12 1 Try.underlying126 (by kernel_rfl) ty_sz12 (by kernel_rfl)
theorem ty_fa126_2 : FieldAt Try.prog 126 2 2 := fieldAt_of 2 2 118 1 Try.underlying126 (by kernel_rfl) ty_sz118 (by kernel_rfl)
theorem ty_fa126_3 : FieldAt Try.prog 126 3 3 := fieldAt_of 3 3 119 1 Try.underlying126 (by kernel_rfl) ty_sz119 (by kernel_rfl)
theorem ty_fa126_4 : FieldAt Try.prog 126 4 4 := fieldAt_of 4 4 5 1 Try.underlying126 (by kernel_rfl) ty_sz5 (by kernel_rfl)
theorem ty_fa126_5 : FieldAt Try.prog 126 5 5 := fieldAt_of 5 5 5 1 Try.underlying126 (by kernel_rfl) ty_sz5 (by kernel_rfl)
theorem ty_fa126_6 : FieldAt Try.prog 126 6 6 := fieldAt_of 6 6 120 1 Try.underlying126 (by kernel_rfl) ty_sz120 (by kernel_rfl)
theorem ty_fa126_7 : FieldAt Try.prog 126 7 7 := fieldAt_of 7 7 121 1 Try.underlying126 (by kernel_rfl) ty_sz121 (by kernel_rfl)
theorem ty_fa126_8 : FieldAt Try.prog 126 8 8 := fieldAt_of 8 8 122 1 Try.underlying126 (by kernel_rfl) ty_sz122 (by kernel_rfl)
theorem ty_fa126_9 : FieldAt Try.prog 126 9 9 := fieldAt_of 9 9 123 1 Try.underlying126 (by kernel_rfl) ty_sz123 (by kernel_rfl)
theorem ty_fa126_10 : FieldAt Try.prog 126 10 10 := fieldAt_of 10 10 124 1 Try.underlying126 (by kernel_rfl) ty_sz124 (by kernel_rfl)
theorem ty_et22 : ElemT Try.prog 22 83 9 72 := elemT (z := .agg #[.int .i64 0, .int .i64 0, .int .i64 0, .int .i64 0, .int .i64 0, .int .i64 0, .int .i64 0, .int .i64 0, .int .i64 0]) Try.underlying22 ty_i83 rfl (by decide)
theorem ty_et23 : ElemT Try.prog 23 58 5 56 := elemT (z := .agg #[.int .i64 0, .int .i64 0, .int .i64 0, .int .i64 0, .slice none 0 0]) Try.underlying23 ty_i58 rfl (by decide)
theorem ty_et26 : ElemT Try.prog 26 62 7 56 := elemT (z := .agg #[.int .i64 0, .int .i64 0, .int .i64 0, .int .i64 0, .int .i64 0, .int .i64 0, .bool false]) Try.underlying26 ty_i62 rfl (by decide)
theorem ty_et27 : ElemT Try.prog 27 72 4 32 := elemT (z := .agg #[.int .i64 0, .int .i64 0, .int .i64 0, .int .i64 0]) Try.underlying27 ty_i72 rfl (by decide)
theorem ty_et28 : ElemT Try.prog 28 77 3 24 := elemT (z := .agg #[.int .i64 0, .int .i64 0, .int .i64 0]) Try.underlying28 ty_i77 rfl (by decide)
theorem ty_et32 : ElemT Try.prog 32 3 1 8 := elemT (z := .int .i64 0) Try.underlying32 ty_i3 rfl (by decide)
theorem ty_et42 : ElemT Try.prog 42 63 2 16 := elemT (z := .agg #[.int .i64 0, .int .i64 0]) Try.underlying42 ty_i63 rfl (by decide)
theorem ty_et54 : ElemT Try.prog 54 85 4 32 := elemT (z := .agg #[.int .i64 0, .int .i64 0, .int .i64 0, .int .i64 0]) Try.underlying54 ty_i85 rfl (by decide)
theorem ty_et106 : ElemT Try.prog 106 56 2 16 := elemT (z := .agg #[.int .i64 0, .int .i64 0]) Try.underlying106 ty_i56 rfl (by decide)
end Go.Proofs.Ytckiagbllkdfdaa

