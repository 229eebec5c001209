/-
  Part 3 of the proof of leaderWrites_holds: declarations of several texts, in build order. No condition on a program.
-/
import Derived.Test.YtehlbkmebaideaaGreatDoorlw102
import Derived.Test.YtehlbkmebaideaaGreatDoorlw101
import Derived.Sort.Grow
import Derived.Lib.SliceRun
import Derived.ArgAppend
import Derived.IntWalk
namespace Go.Proofs.YtehlbkmebaideaaGreatDoor
set_option linter.all false
set_option linter.unusedVariables false
set_option linter.unusedSimpArgs false
open Go.RowKit
theorem ty_i3 : (Tryz.prog.info? 3).map (fun i => (i.zero, i.size, i.bytes)) = some (some (.int .i64 0), 1, 8) := by kernel_rfl
theorem ty_sz3 : Sz Tryz.prog 3 1 := fun w => by obtain ⟨i, h1, h2, h3, h4⟩ := info_parts ty_i3; simp [sizeOf, typeInfo, h1, h3]
theorem ty_zr3 : Zr Tryz.prog 3 [.int .i64 0] := ⟨.int .i64 0, rfl, fun w => by obtain ⟨i, h1, h2, h3, h4⟩ := info_parts ty_i3; simp [zeroValue, typeInfo, h1, h2]⟩
theorem ty_sc3 : Sc Tryz.prog 3 := fun w => by simp [isAgg, run_underlying Tryz.underlying3]
theorem ty_i4 : (Tryz.prog.info? 4).map (fun i => (i.zero, i.size, i.bytes)) = some (some (.bool false), 1, 1) := by kernel_rfl
theorem ty_sz4 : Sz Tryz.prog 4 1 := fun w => by obtain ⟨i, h1, h2, h3, h4⟩ := info_parts ty_i4; simp [sizeOf, typeInfo, h1, h3]
theorem ty_zr4 : Zr Tryz.prog 4 [.bool false] := ⟨.bool false, rfl, fun w => by obtain ⟨i, h1, h2, h3, h4⟩ := info_parts ty_i4; simp [zeroValue, typeInfo, h1, h2]⟩
theorem ty_sc4 : Sc Tryz.prog 4 := fun w => by simp [isAgg, run_underlying Tryz.underlying4]
theorem ty_i5 : (Tryz.prog.info? 5).map (fun i => (i.zero, i.size, i.bytes)) = some (some (.int .u8 0), 1, 1) := by kernel_rfl
theorem ty_sz5 : Sz Tryz.prog 5 1 := fun w => by obtain ⟨i, h1, h2, h3, h4⟩ := info_parts ty_i5; simp [sizeOf, typeInfo, h1, h3]
theorem ty_sc5 : Sc Tryz.prog 5 := fun w => by simp [isAgg, run_underlying Tryz.underlying5]
theorem ty_i9 : (Tryz.prog.info? 9).map (fun i => (i.zero, i.size, i.bytes)) = some (some (.string ⟨#[]⟩), 1, 16) := by kernel_rfl
theorem ty_sz9 : Sz Tryz.prog 9 1 := fun w => by obtain ⟨i, h1, h2, h3, h4⟩ := info_parts ty_i9; simp [sizeOf, typeInfo, h1, h3]
theorem ty_sc9 : Sc Tryz.prog 9 := fun w => by simp [isAgg, run_underlying Tryz.underlying9]
theorem ty_i22 : (Tryz.prog.info? 22).map (fun i => (i.zero, i.size, i.bytes)) = some (some (.slice none 0 0), 1, 24) := by kernel_rfl
theorem ty_sz22 : Sz Tryz.prog 22 1 := fun w => by obtain ⟨i, h1, h2, h3, h4⟩ := info_parts ty_i22; simp [sizeOf, typeInfo, h1, h3]
theorem ty_sc22 : Sc Tryz.prog 22 := fun w => by simp [isAgg, run_underlying Tryz.underlying22]
theorem ty_i23 : (Tryz.prog.info? 23).map (fun i => (i.zero, i.size, i.bytes)) = some (some (.slice none 0 0), 1, 24) := by kernel_rfl
theorem ty_sz23 : Sz Tryz.prog 23 1 := fun w => by obtain ⟨i, h1, h2, h3, h4⟩ := info_parts ty_i23; simp [sizeOf, typeInfo, h1, h3]
theorem ty_sc23 : Sc Tryz.prog 23 := fun w => by simp [isAgg, run_underlying Tryz.underlying23]
theorem ty_i25 : (Tryz.prog.info? 25).map (fun i => (i.zero, i.size, i.bytes)) = some (some (.agg #[.slice none 0 0, .slice none 0 0]), 2, 48) := by kernel_rfl
theorem ty_sz25 : Sz Tryz.prog 25 2 := fun w => by obtain ⟨i, h1, h2, h3, h4⟩ := info_parts ty_i25; simp [sizeOf, typeInfo, h1, h3]
theorem ty_ag25 : Ag Tryz.prog 25 2 := ⟨fun w => by simp [isAgg, run_underlying Tryz.underlying25], ty_sz25⟩
theorem ty_fa25_0 : FieldAt Tryz.prog 25 0 0 := fieldAt_of 0 0 22 1 Tryz.underlying25 (by kernel_rfl) ty_sz22 (by kernel_rfl)
theorem ty_fa25_1 : FieldAt Tryz.prog 25 1 1 := fieldAt_of 1 1 23 1 Tryz.underlying25 (by kernel_rfl) ty_sz23 (by kernel_rfl)
theorem ty_i48 : (Tryz.prog.info? 48).map (fun i => (i.zero, i.size, i.bytes)) = some (some (.slice none 0 0), 1, 24) := by kernel_rfl
theorem ty_sz48 : Sz Tryz.prog 48 1 := fun w => by obtain ⟨i, h1, h2, h3, h4⟩ := info_parts ty_i48; simp [sizeOf, typeInfo, h1, h3]
theorem ty_sc48 : Sc Tryz.prog 48 := fun w => by simp [isAgg, run_underlying Tryz.underlying48]
theorem ty_i50 : (Tryz.prog.info? 50).map (fun i => (i.zero, i.size, i.bytes)) = some (some (.agg #[.int .i64 0, .string ⟨#[]⟩, .slice none 0 0]), 3, 48) := by kernel_rfl
theorem ty_sz50 : Sz Tryz.prog 50 3 := fun w => by obtain ⟨i, h1, h2, h3, h4⟩ := info_parts ty_i50; simp [sizeOf, typeInfo, h1, h3]
theorem ty_zr50 : Zr Tryz.prog 50 [.int .i64 0, .string ⟨#[]⟩, .slice none 0 0] := ⟨.agg #[.int .i64 0, .string ⟨#[]⟩, .slice none 0 0], rfl, fun w => by obtain ⟨i, h1, h2, h3, h4⟩ := info_parts ty_i50; simp [zeroValue, typeInfo, h1, h2]⟩
theorem ty_ag50 : Ag Tryz.prog 50 3 := ⟨fun w => by simp [isAgg, run_underlying Tryz.underlying50], ty_sz50⟩
theorem ty_fa50_0 : FieldAt Tryz.prog 50 0 0 := fieldAt_of 0 0 3 1 Tryz.underlying50 (by kernel_rfl) ty_sz3 (by kernel_rfl)
theorem ty_fa50_1 : FieldAt Tryz.prog 50 1 1 := fieldAt_of 1 1 9 1 Tryz.underlying50 (by kernel_rfl) ty_sz9 (by kernel_rfl)
theorem ty_fa50_2 : FieldAt Tryz.prog 50 2 2 := fieldAt_of 2 2 48 1 Tryz.underlying50 (by kernel_rfl) ty_sz48 (by kernel_rfl)
theorem ty_i51 : (Tryz.prog.info? 51).map (fun i => (i.zero, i.size, i.bytes)) = some (some (.slice none 0 0), 1, 24) := by kernel_rfl
theorem ty_sz51 : Sz Tryz.prog 51 1 := fun w => by obtain ⟨i, h1, h2, h3, h4⟩ := info_parts ty_i51; simp [sizeOf, typeInfo, h1, h3]
theorem ty_zr51 : Zr Tryz.prog 51 [.slice none 0 0] := ⟨.slice none 0 0, rfl, fun w => by obtain ⟨i, h1, h2, h3, h4⟩ := info_parts ty_i51; simp [zeroValue, typeInfo, h1, h2]⟩
theorem ty_sc51 : Sc Tryz.prog 51 := fun w => by simp [isAgg, run_underlying Tryz.underlying51]
theorem ty_i61 : (Tryz.prog.info? 61).map (fun i => (i.zero, i.size, i.bytes)) = some (some (.agg #[.int .i64 0, .int .i64 0]), 2, 16) := by kernel_rfl
theorem ty_sz61 : Sz Tryz.prog 61 2 := fun w => by obtain ⟨i, h1, h2, h3, h4⟩ := info_parts ty_i61; simp [sizeOf, typeInfo, h1, h3]
theorem ty_zr61 : Zr Tryz.prog 61 [.int .i64 0, .int .i64 0] := ⟨.agg #[.int .i64 0, .int .i64 0], rfl, fun w => by obtain ⟨i, h1, h2, h3, h4⟩ := info_parts ty_i61; simp [zeroValue, typeInfo, h1, h2]⟩
theorem ty_ag61 : Ag Tryz.prog 61 2 := ⟨fun w => by simp [isAgg, run_underlying Tryz.underlying61], ty_sz61⟩
theorem ty_fa61_0 : FieldAt Tryz.prog 61 0 0 := fieldAt_of 0 0 3 1 Tryz.underlying61 (by kernel_rfl) ty_sz3 (by kernel_rfl)
theorem ty_fa61_1 : FieldAt Tryz.prog 61 1 1 := fieldAt_of 1 1 3 1 Tryz.underlying61 (by kernel_rfl) ty_sz3 (by kernel_rfl)
theorem ty_i63 : (Tryz.prog.info? 63).map (fun i => (i.zero, i.size, i.bytes)) = some (some (.agg #[.int .i64 0, .int .i64 0, .int .i64 0, .int .i64 0, .int .i64 0, .int .i64 0, .int .i64 0, .int .i64 0, .int .i64 0, .int .i64 0, .int .i64 0, .int .i64 0, .int .i64 0, .int .i64 0]), 14, 112) := by kernel_rfl
theorem ty_sz63 : Sz Tryz.prog 63 14 := fun w => by obtain ⟨i, h1, h2, h3, h4⟩ := info_parts ty_i63; simp [sizeOf, typeInfo, h1, h3]
theorem ty_zr63 : Zr Tryz.prog 63 [.int .i64 0, .int .i64 0, .int .i64 0, .int .i64 0, .int .i64 0, .int .i64 0, .int .i64 0, .int .i64 0, .int .i64 0, .int .i64 0, .int .i64 0, .int .i64 0, .int .i64 0, .int .i64 0] := ⟨.agg #[.int .i64 0, .int .i64 0, .int .i64 0, .int .i64 0, .int .i64 0, .int .i64 0, .int .i64 0, .int .i64 0, .int .i64 0, .int .i64 0, .int .i64 0, .int .i64 0, .int .i64 0, .int .i64 0], rfl, fun w => by obtain ⟨i, h1, h2, h3, h4⟩ := info_parts ty_i63; simp [zeroValue, typeInfo, h1, h2]⟩
theorem ty_ag63 : Ag Tryz.prog 63 14 := ⟨fun w => by simp [isAgg, run_underlying Tryz.underlying63], ty_sz63⟩
theorem ty_fa63_0 : FieldAt Tryz.prog 63 0 0 := fieldAt_of 0 0 61 2 Tryz.underlying63 (by kernel_rfl) ty_sz61 (by kernel_rfl)
theorem ty_fa63_1 : FieldAt Tryz.prog 63 1 2 := fieldAt_of 1 2 61 2 Tryz.underlying63 (by kernel_rfl) ty_sz61 (by kernel_rfl)
theorem ty_fa63_2 : FieldAt Tryz.prog 63 2 4 := fieldAt_of 2 4 61 2 Tryz.underlying63 (by kernel_rfl) ty_sz61 (by kernel_rfl)
theorem ty_fa63_3 : FieldAt Tryz.prog 63 3 6 := fieldAt_of 3 6 61 2 Tryz.underlying63 (by kernel_rfl) ty_sz61 (by kernel_rfl)
theorem ty_fa63_4 : FieldAt Tryz.prog 63 4 8 := fieldAt_of 4 8 61 2 Tryz.underlying63 (by kernel_rfl) ty_sz61 (by kernel_rfl)
theorem ty_fa63_5 : FieldAt Tryz.prog 63 5 10 := fieldAt_of 5 10 61 2 Tryz.underlying63 (by kernel_rfl) ty_sz61 (by kernel_rfl)
theorem ty_fa63_6 : FieldAt Tryz.prog 63 6 12 := fieldAt_of 6 12 61 2 Tryz.underlying63 (by kernel_rfl) ty_sz61 (by kernel_rfl)
theorem ty_i66 : (Tryz.prog.info? 66).map (fun i => (i.zero, i.size, i.bytes)) = some (some (.agg #[.int .i64 0, .int .i64 0, .int .u8 0, .int .i64 0, .int .i64 0, .int .i64 0, .int .i64 0, .bool false]), 8, 64) := by kernel_rfl
theorem ty_sz66 : Sz Tryz.prog 66 8 := fun w => by obtain ⟨i, h1, h2, h3, h4⟩ := info_parts ty_i66; simp [sizeOf, typeInfo, h1, h3]
theorem ty_zr66 : Zr Tryz.prog 66 [.int .i64 0, .int .i64 0, .int .u8 0, .int .i64 0, .int .i64 0, .int .i64 0, .int .i64 0, .bool false] := ⟨.agg #[.int .i64 0, .int .i64 0, .int .u8 0, .int .i64 0, .int .i64 0, .int .i64 0, .int .i64 0, .bool false], rfl, fun w => by obtain ⟨i, h1, h2, h3, h4⟩ := info_parts ty_i66; simp [zeroValue, typeInfo, h1, h2]⟩
theorem ty_ag66 : Ag Tryz.prog 66 8 := ⟨fun w => by simp [isAgg, run_underlying Tryz.underlying66], ty_sz66⟩
theorem ty_fa66_0 : FieldAt Tryz.prog 66 0 0 := fieldAt_of 0 0 3 1 Tryz.underlying66 (by kernel_rfl) ty_sz3 (by kernel_rfl)
theorem ty_fa66_1 : FieldAt Tryz.prog 66 1 1 := fieldAt_of 1 1 3 1 Tryz.underlying66 (by kernel_rfl) ty_sz3 (by kernel_rfl)
theorem ty_fa66_2 : FieldAt Tryz.prog 66 2 2 := fieldAt_of 2 2 5 1 Tryz.underlying66 (by kernel_rfl) ty_sz5 (by kernel_rfl)
theorem ty_fa66_3 : FieldAt Tryz.prog 66 3 3 := fieldAt_of 3 3 3 1 Tryz.underlying66 (by kernel_rfl) ty_sz3 (by kernel_rfl)
theorem ty_fa66_4 : FieldAt Tryz.prog 66 4 4 := fieldAt_of 4 4 3 1 Tryz.underlying66 (by kernel_rfl) ty_sz3 (by kernel_rfl)
theorem ty_fa66_5 : FieldAt Tryz.prog 66 5 5 := fieldAt_of 5 5 3 1 Tryz.underlying66 (by kernel_rfl) ty_sz3 (by kernel_rfl)
theorem ty_fa66_6 : FieldAt Tryz.prog 66 6 6 := fieldAt_of 6 6 3 1 Tryz.underlying66 (by kernel_rfl) ty_sz3 (by kernel_rfl)
theorem ty_fa66_7 : FieldAt Tryz.prog 66 7 7 := fieldAt_of 7 7 4 1 Tryz.underlying66 (by kernel_rfl) ty_sz4 (by kernel_rfl)
theorem ty_i89 : (Tryz.prog.info? 89).map (fun i => (i.zero, i.size, i.bytes)) = some (some (.pointer none), 1, 8) := by kernel_rfl
theorem ty_sz89 : Sz Tryz.prog 89 1 := fun w => by obtain ⟨i, h1, h2, h3, h4⟩ := info_parts ty_i89; simp [sizeOf, typeInfo, h1, h3]
theorem ty_sc89 : Sc Tryz.prog 89 := fun w => by simp [isAgg, run_underlying Tryz.underlying89]
theorem ty_i90 : (Tryz.prog.info? 90).map (fun i => (i.zero, i.size, i.bytes)) = some (some (.slice none 0 0), 1, 24) := by kernel_rfl
theorem ty_sz90 : Sz Tryz.prog 90 1 := fun w => by obtain ⟨i, h1, h2, h3, h4⟩ := info_parts ty_i90; simp [sizeOf, typeInfo, h1, h3]
theorem ty_sc90 : Sc Tryz.prog 90 := fun w => by simp [isAgg, run_underlying Tryz.underlying90]
theorem ty_i92 : (Tryz.prog.info? 92).map (fun i => (i.zero, i.size, i.bytes)) = some (some (.agg #[.pointer none, .slice none 0 0]), 2, 32) := by kernel_rfl
theorem ty_zr92 : Zr Tryz.prog 92 [.pointer none, .slice none 0 0] := ⟨.agg #[.pointer none, .slice none 0 0], rfl, fun w => by obtain ⟨i, h1, h2, h3, h4⟩ := info_parts ty_i92; simp [zeroValue, typeInfo, h1, h2]⟩
theorem ty_fa92_0 : FieldAt Tryz.prog 92 0 0 := fieldAt_of 0 0 89 1 Tryz.underlying92 (by kernel_rfl) ty_sz89 (by kernel_rfl)
theorem ty_fa92_1 : FieldAt Tryz.prog 92 1 1 := fieldAt_of 1 1 90 1 Tryz.underlying92 (by kernel_rfl) ty_sz90 (by kernel_rfl)
theorem ty_i104 : (Tryz.prog.info? 104).map (fun i => (i.zero, i.size, i.bytes)) = some (some (.agg #[.int .i64 0, .nilFunc]), 2, 16) := by kernel_rfl
theorem ty_sz104 : Sz Tryz.prog 104 2 := fun w => by obtain ⟨i, h1, h2, h3, h4⟩ := info_parts ty_i104; simp [sizeOf, typeInfo, h1, h3]
theorem ty_zr104 : Zr Tryz.prog 104 [.int .i64 0, .nilFunc] := ⟨.agg #[.int .i64 0, .nilFunc], rfl, fun w => by obtain ⟨i, h1, h2, h3, h4⟩ := info_parts ty_i104; simp [zeroValue, typeInfo, h1, h2]⟩
theorem ty_fa104_0 : FieldAt Tryz.prog 104 0 0 := fieldAt_of 0 0 3 1 Tryz.underlying104 (by kernel_rfl) ty_sz3 (by kernel_rfl)
theorem ty_et22 : ElemT Tryz.prog 22 63 14 112 := elemT (z := .agg #[.int .i64 0, .int .i64 0, .int .i64 0, .int .i64 0, .int .i64 0, .int .i64 0, .int .i64 0, .int .i64 0, .int .i64 0, .int .i64 0, .int .i64 0, .int .i64 0, .int .i64 0, .int .i64 0]) Tryz.underlying22 ty_i63 rfl (by decide)
theorem ty_et23 : ElemT Tryz.prog 23 66 8 64 := elemT (z := .agg #[.int .i64 0, .int .i64 0, .int .u8 0, .int .i64 0, .int .i64 0, .int .i64 0, .int .i64 0, .bool false]) Tryz.underlying23 ty_i66 rfl (by decide)
theorem ty_et26 : ElemT Tryz.prog 26 50 3 48 := elemT (z := .agg #[.int .i64 0, .string ⟨#[]⟩, .slice none 0 0]) Tryz.underlying26 ty_i50 rfl (by decide)
theorem ty_et48 : ElemT Tryz.prog 48 3 1 8 := elemT (z := .int .i64 0) Tryz.underlying48 ty_i3 rfl (by decide)
theorem ty_et51 : ElemT Tryz.prog 51 9 1 16 := elemT (z := .string ⟨#[]⟩) Tryz.underlying51 ty_i9 rfl (by decide)
theorem ty_et90 : ElemT Tryz.prog 90 5 1 1 := elemT (z := .int .u8 0) Tryz.underlying90 ty_i5 rfl (by decide)
theorem ty_zv104 : ∀ w, (zeroValue 104).run Tryz.prog w = .ok (.agg #[.int .i64 0, .nilFunc]) w := fun w => by obtain ⟨i, h1, h2, h3, h4⟩ := info_parts ty_i104; simp [zeroValue, typeInfo, h1, h2]
end Go.Proofs.YtehlbkmebaideaaGreatDoor
namespace Go.Proofs.YtehlbkmebaideaaGreatDoor
set_option linter.all false
set_option linter.unusedVariables false
set_option linter.unusedSimpArgs false
open Go.RowKit
def TWi (l : Nat) (c : Cx) (code : Code) (Q : Exit → Act → World → Prop) (F : Fr) (K : List Fact) : Prop := ∀ a w, FS c.n c.D F a → Sat c.S c.w0 K w → code.wpIn (Fence.wide.inRound l) 0 c.P Q a w
theorem operIn {P : Program} {l m : Nat} {o : Oper} {a : Act} {w : World} {K K' : Act → World → Prop} {Q : Exit → Act → World → Prop} (hK : ∀ a w, K a w → K' a w) (hnd : ∀ c, o.op ≠ .defer c) (h : o.wp P a w K Q) : o.wpIn (Fence.wide.inRound l) m P a w K' Q := by
 refine ⟨fun _ _ => trivial, ?_⟩
 rw [Fence.inRound_round, Oper.semAt_some l a.eval o hnd]
 unfold Oper.wp at h
 generalize (execOp a.eval o).run P w = r at *
 cases r with
 | ok x w' =>
  cases x <;> simp only [Oper.upon] at h <;> simp only [Oper.uponIn]
  case value u => exact hK _ _ h
  case skip => exact hK _ _ h
  case defer d => exact hK _ _ h
  case enter f args =>
   refine ⟨fun h9 => (by simp [Fence.wide] at h9), CallsIn.inRound l (callsIn_wide.2 (Calls.mono h fun e w'' he => ?_))⟩
   cases e with
   | returned u => exact hK _ _ he
   | panicked ch => exact he
   | outgrown => exact he
  case row row args =>
   refine ⟨fun h9 => (by simp [Fence.wide] at h9), fun c cs _ => ?_⟩
   obtain ⟨v, w'', r1, s1⟩ := h c cs
   exact ⟨v, w'', hK _ _ r1, stepsIn_wide.2 s1⟩
 | halt x w' => cases x <;> simp only [Oper.upon] at h <;> exact h
theorem operWide {P : Program} {m : Nat} {o : Oper} {a : Act} {w : World} {Z K' : Act → World → Prop} {Q : Exit → Act → World → Prop} (hK : ∀ a w, Z a w → K' a w) (h : o.wp P a w Z (nxt Z Q)) : o.wpIn Fence.wide m P a w K' Q := by
 refine ⟨fun _ _ => trivial, ?_⟩
 rw [Fence.wide_round, Oper.semAt_none]
 unfold Oper.wp at h
 generalize (execOp a.eval o).run P w = r at *
 cases r with
 | ok x w' =>
  cases x <;> simp only [Oper.upon] at h <;> simp only [Oper.uponIn]
  case value u => exact hK _ _ h
  case skip => exact hK _ _ h
  case defer d => exact hK _ _ h
  case enter f args =>
   refine ⟨fun h9 => (by simp [Fence.wide] at h9), callsIn_wide.2 (Calls.mono h fun e w'' he => ?_)⟩
   cases e with
   | returned u => exact hK _ _ he
   | panicked ch => exact he
   | outgrown => obtain ⟨x, y, z⟩ := he; exact ⟨x, y, z⟩
  case row row args =>
   refine ⟨fun h9 => (by simp [Fence.wide] at h9), fun c cs _ => ?_⟩
   obtain ⟨v, w'', r1, s1⟩ := h c cs
   exact ⟨v, w'', hK _ _ r1, stepsIn_wide.2 s1⟩
 | halt x w' => cases x <;> simp only [Oper.upon] at h <;> exact h
def noDeferL (l : List Oper) : Bool := l.all fun o => match o.op with | .defer _ => false | _ => true
theorem listIn {P : Program} {ops : Array Oper} {Q : Exit → Act → World → Prop} {l m : Nat} (hL : ¬ LetsOut Q) : ∀ (rest : List Oper), noDeferL rest = true → ∀ a w, wpList P ops Q rest a w → wpListIn (Fence.wide.inRound l) m P ops Q rest a w
 | [], _, _, _, h => h
 | o :: rest, hn, a, w, h => by
  simp only [noDeferL, List.all_cons, Bool.and_eq_true] at hn
  unfold wpList at h
  unfold wpListIn
  split
  · rename_i hw
    rw [if_pos hw] at h
    rcases h with h | ⟨_, h⟩
    · exact operIn (fun a w h => listIn hL rest hn.2 a w h) (fun c e => by rw [e] at hn; simp at hn) h
    · exact absurd h hL
  · rename_i hw
    rw [if_neg hw] at h
    exact ⟨fun _ _ => trivial, listIn hL rest hn.2 _ _ h⟩
section
variable {l : Nat} {c : Cx} {Q : Exit → Act → World → Prop} {F F' : Fr} {K K' K0 : List Fact} {ops : Array Oper} {rest : List Oper} {d : Option Tmp} {ty : TypeId} {pos : String} {af : Array Edge} {g : Option (Nat × Bool)}
theorem TWi.seq {x y : Code} (h : ∀ Y : Act → World → Prop, (∀ F K, TWi l c y Q F K → TQ c (fun _ => Y) .normal F K) → TWi l c x (Exit.then Y Q) F K) : TWi l c (.seq x y) Q F K := fun a w hF hK =>
 wpIn_seq (h (y.wpIn (Fence.wide.inRound l) 0 c.P Q) (fun _ _ h => h) a w hF hK)
theorem TWi.block {i : Nat} {x : Code} (h : TWi l c x (Exit.inBlock i Q) F K) : TWi l c (.block i x) Q F K := fun a w hF hK => wpIn_block (h a w hF hK)
theorem TWi.ret (h : TQ c Q .ret F K) : TWi l c .ret Q F K := fun a w hF hK => wpIn_ret (h a w hF hK)
theorem TWi.skip (h : TQ c Q .normal F K) : TWi l c .skip Q F K := fun a w hF hK => wpIn_skip (h a w hF hK)
theorem TWi.cond {x : Operand} {s t : Code} {b : Bool} (hx : ev F x = some (.bool b)) (ht : b = true → TWi l c s Q F K) (hf : b = false → TWi l c t Q F K) : TWi l c (.cond x s t) Q F K := fun a w hF hK =>
 wpIn_cond_split (hF.evl hx) (fun e => ht e a w hF hK) (fun e => hf e a w hF hK)
theorem TWi.region {id : Nat} {os : List Oper} (h : TL c os.toArray Q os F K) (hnd : noDeferL os = true := by rfl) (hL : ¬ LetsOut Q := by (rintro ⟨_, _, h⟩; exact h)) : TWi l c (.region id os.toArray false) Q F K := fun a w hF hK => wpIn_region_lit (listIn hL os hnd a w (h a w hF hK))
theorem TWi.dw {id : Nat} {os : List Oper} (nf : Nat) (h : RK c os.toArray Q nf 0 (os.take nf) [] [] (Array.replicate nf false) nf F K) (hm : c.P.follows .mixedOrders = true := by rfl) (hT : tailOk os.toArray nf = true := by kernel_rfl) (hp : Pan Q := by (intro d _ _ _ _; cases d <;> exact Iff.rfl)) (hnd : noDefer os.toArray = true := by kernel_rfl) (hL : ¬ LetsOut Q := by (rintro ⟨_, _, h⟩; exact h)) : TWi l c (.region id os.toArray true) Q F K := fun a w hF hK =>
 RW.beginIn hm hT hp hnd hL fun hb => h a w _ hF hK hb
def TLi (c : Cx) (ops : Array Oper) (Q : Exit → Act → World → Prop) (rest : List Oper) (F : Fr) (K : List Fact) : Prop := ∀ a w, FS c.n c.D F a → Sat c.S c.w0 K w → wpListIn Fence.wide 1 c.P ops Q rest a w
theorem TW.regionI {id : Nat} {os : List Oper} (h : TLi c os.toArray Q os F K) : TW c (.region id os.toArray false) Q F K := fun a w hF hK => (wpIn_wide (n := 1)).1 (wpIn_region_lit (h a w hF hK))
theorem TLi.nil (h : TQ c Q .normal F K) : TLi c ops Q [] F K := fun a w hF hK => h a w hF hK
theorem TLi.op {o : Oper} (h : ∀ Z : Act → World → Prop, (∀ F2 K2, TLi c ops Q rest F2 K2 → TQ c (fun _ => Z) .normal F2 K2) → TL c ops (nxt Z Q) [o] F K) (hL : ¬ LetsOut Q := by (rintro ⟨_, _, h⟩; exact h)) : TLi c ops Q (o :: rest) F K := fun a w hF hK => by
 have h1 := h (wpListIn Fence.wide 1 c.P ops Q rest) (fun F2 K2 h2 a w h3 h4 => h2 a w h3 h4) a w hF hK
 unfold wpList at h1
 unfold wpListIn
 split
 · rename_i hw
   rw [if_pos hw] at h1
   rcases h1 with h1 | ⟨_, h2⟩
   · exact operWide (fun _ _ h => h) h1
   · obtain ⟨x, y, z⟩ := h2
     exact absurd ⟨x, y, z⟩ hL
 · rename_i hw
   rw [if_neg hw] at h1
   exact ⟨fun _ _ => trivial, h1⟩
theorem TLi.yi {l : Nat} {x : Operand} {xs : List Operand} {ts : Array TypeId} {us : List Value} {R1 R2 : Type} {K1 : R1 → List Fact} {K2 : R2 → List Fact} (hf : ev F x = some (.func (.yield l) #[] #[])) (hx : evs F xs = some us)
   (hy : ∀ w, Sat c.S c.w0 K w → YieldAt Fence.wide 0 c.P l us.toArray w fun e w' => (e = .returned (.bool true) ∧ ∃ r, Sat c.S c.w0 (K1 r) w') ∨ (e = .returned (.bool false) ∧ ∃ r, Sat c.S c.w0 (K2 r) w'))
   (h1 : ∀ r, TLi c ops Q rest (fput F d (.bool true)) (K1 r)) (h2 : ∀ r, TLi c ops Q rest (fput F d (.bool false)) (K2 r)) (hg : gdB F ops g = some true := by rfl) (hd : dok d c.n = true := by rfl) :
   TLi c ops Q (⟨d, .call { callee := .value x, args := xs.toArray, argTypes := ts }, ty, pos, af, g⟩ :: rest) F K := fun a w hF hK => by
 unfold wpListIn
 rw [if_pos (hF.wanted hg)]
 obtain ⟨fn, tmps, assign, body, hy1, hy2⟩ := hy w hK
 have e1 := hF.evl hf
 have e2 := hF.evsl hx
 have hr : (execOp a.eval ⟨d, .call { callee := .value x, args := xs.toArray, argTypes := ts }, ty, pos, af, g⟩).run c.P w = .ok (.round l fn tmps assign body) w := by
   simp only [execOp, resolve, e1, Deferred.ofValue, List.map_toArray, e2, Sem.run_bind, Sem.run_pure, Result.andThen_ok, invoke]
   simpa using hy1
 refine ⟨fun _ _ => trivial, ?_⟩
 rw [Fence.wide_round, Oper.semAt_none, hr, Oper.uponIn_round]
 refine ⟨fun h9 => (by simp [Fence.wide] at h9), hy2.mono ?_⟩
 rintro e w' (⟨rfl, r, hs⟩ | ⟨rfl, r, hs⟩)
 · exact h1 r _ _ (hF.fput hd _) hs
 · exact h2 r _ _ (hF.fput hd _) hs
theorem Sat.newO {S : List Nat} {w0 w : World} (h : Sat S w0 K w) (o : Obj) (ho : o.isCells = false) : Sat S w0 (.obj w.heap.size o :: K) (w.alloc o) :=
 h.add (L := [_]) (Sat.one (Chg.of_ext ((Below.refl _ _).alloc (Nat.le_refl _) _)) (by simp [Fact.foot]) (fun b hb => by simp [Fact.foot] at hb; subst hb; exact .inr (Nat.le_refl _)) ⟨World.alloc_heap_new w o, ho⟩)
theorem Sat.putO {S : List Nat} {w0 w : World} {b : Nat} {o o' : Obj} (h : Sat S w0 (.obj b o :: K) w) (ho : o'.isCells = false) : Sat S w0 (.obj b o' :: K) (w.putObj b o') :=
 h.turn (φ' := .obj b o') (Chg.grown (grownBy_putObj' w b o')) (by simp [Fact.foot]) (fun x hx => .inl hx) ⟨World.putObj_heap_same (lt_of_get (h.holds (.obj b o) (by simp)).1), ho⟩
def putF : List Tmp → List Value → Fr → Fr
 | p :: ps, v :: vs, F => putF ps vs ((p, v) :: F)
 | _, _, F => F
theorem FS.putF {n : Nat} : ∀ {ps : List Tmp} {vs : List Value} {F : Fr} {t : Array Value}, FS n [] F { tmps := t, defers := [] } → (ps.all fun p => Nat.blt p n) = true → FS n [] (Go.Proofs.YtehlbkmebaideaaGreatDoor.putF ps vs F) { tmps := (ps.zip vs).foldl (fun t (p, v) => t.setIfInBounds p v) t, defers := [] }
 | [], _, _, _, h, _ => by simpa [Go.Proofs.YtehlbkmebaideaaGreatDoor.putF] using h
 | _ :: _, [], _, _, h, _ => by simpa [Go.Proofs.YtehlbkmebaideaaGreatDoor.putF] using h
 | p :: ps, v :: vs, F, t, h, hp => by
  simp only [List.all_cons, Bool.and_eq_true] at hp
  have := FS.putF (ps := ps) (vs := vs) (h.put hp.1 v) hp.2
  simpa [Go.Proofs.YtehlbkmebaideaaGreatDoor.putF, Act.put] using this
def RB (c : Cx) {R Rx : Type} (KN : R → List Fact) (jx : Rx → Code) (KX : Rx → List Fact) : Exit → Act → World → Prop
 | .normal, _, w => ∃ r, Sat c.S c.w0 (KN r) w
 | .ret, _, w => ∃ x, jx x = .ret ∧ Sat c.S c.w0 (KX x) w
 | .exit i, _, w => ∃ x, jx x = .exit i ∧ Sat c.S c.w0 (KX x) w
 | _, _, _ => False
theorem TQ.rbN {R Rx : Type} {KN : R → List Fact} {jx : Rx → Code} {KX : Rx → List Fact} (r : R) (hK : KSub K (KN r)) : TQ c (RB c KN jx KX) .normal F K := fun _ _ _ h => ⟨r, h.sub hK⟩
theorem TQ.rbR {R Rx : Type} {KN : R → List Fact} {jx : Rx → Code} {KX : Rx → List Fact} (x : Rx) (hx : jx x = .ret) (hK : KSub K (KX x)) : TQ c (RB c KN jx KX) .ret F K := fun _ _ _ h => ⟨x, hx, h.sub hK⟩
def IterK (P : Program) (gf : FuncId) (lb : List Value) (M : List Fact) (G : Type) (enc : Nat → G → List Value) (Y Y' : Nat → G → List Fact) (N : Nat) (L : List Fact) (S : List Nat) (w0 : World) : Prop :=
 ∀ (l : Nat) (R Rx : Type) (J : Nat → R → List Fact) (Jx : Rx → List Fact) (r0 : R) (w : World), Sat S w0 (M ++ J 0 r0) w →
  (∀ q g r w', q < N → Sat S w0 (Y q g ++ J q r) w' → YieldAt Fence.wide 0 P l (enc q g).toArray w' fun e w'' => (e = .returned (.bool true) ∧ ∃ r', Sat S w0 (Y' q g ++ J (q + 1) r') w'') ∨ (e = .returned (.bool false) ∧ ∃ x, Sat S w0 (Y' q g ++ Jx x) w'')) →
  Calls P gf (.func (.yield l) #[] #[] :: lb).toArray w fun e w' => (∃ v, e = .returned v) ∧ ((∃ r, Sat S w0 (L ++ J N r) w') ∨ ∃ x, Sat S w0 (Jx x) w')
theorem perm_objs (A B : List Fact) (x y : Fact) : (A ++ (x :: y :: B)).Perm (x :: y :: (A ++ B)) := List.perm_middle.trans (List.Perm.cons _ List.perm_middle)
theorem TW.range {g : Operand} {ps : List Tmp} {assign body : Code} {gf : Nat} {lb : List Value} {M L : List Fact} {G R Rx : Type} {enc : Nat → G → List Value} {Y Y' : Nat → G → List Fact} {N : Nat} (J : Nat → R → List Fact) (jx : Rx → Code) (Jx : Rx → List Fact) (r0 : R)
    (it : IterK c.P gf lb M G enc Y Y' N L c.S c.w0) (hKs : KSub K (M ++ J 0 r0))
    (round : ∀ (l D : Nat) (o1 o1' o2 : Obj) (q : Nat) (g : G) (r : R), q < N → ∀ Z : Act → World → Prop,
      (∀ F2 K1 K2, Pick K1 (.obj l o1) K2 → TWi l { c with D := [] } body (RB { c with D := [] } (fun r' => .obj l o1' :: .obj D o2 :: (Y' q g ++ J (q + 1) r')) jx (fun x => .obj l o1' :: .obj D o2 :: (Y' q g ++ Jx x))) F2 (.obj l o1' :: K2) → TQ { c with D := [] } (fun _ => Z) .normal F2 K1) →
      TWi l { c with D := [] } assign (Exit.then Z (fun _ _ _ => False)) (putF ps (enc q g) F) (.obj l o1 :: .obj D o2 :: (Y q g ++ J q r)))
    (done : ∀ (D : Nat) (r : R), TQ { c with D := { target := .collected D, args := #[] } :: c.D } Q .normal F (.obj D (.deferred (some [])) :: (L ++ J N r)))
    (stop : ∀ (D : Nat) (x : Rx), TW { c with D := { target := .collected D, args := #[] } :: c.D } (jx x) Q F (.obj D (.deferred (some [])) :: Jx x))
    (hg : ev F g = some (.func (.func gf) #[] lb.toArray) := by rfl) (eg : Enters c.P gf) (hps : ∀ q g, (enc q g).length = ps.length := by (intro _ _; rfl)) (hpn : (ps.all fun p => Nat.blt p c.n) = true := by rfl) :
    TW c (.rangeFunc g ps.toArray assign body) Q F K := fun a w hF hK => by
  refine (wpIn_wide (n := 2)).1 (wpIn_rangeFunc fun fn _ => ?_)
  obtain ⟨rc, hrc⟩ : ∃ rc : LoopState → Option Code → Loop, rc = fun st pe => { state := st, pending := pe, fn, tmps := a.tmps, params := ps.toArray, assign, body, defers := w.heap.size } := ⟨_, rfl⟩
  obtain ⟨W1, hW1⟩ : ∃ W1, (w.alloc (.deferred (some []))).alloc (.loop (rc .ready none)) = W1 := ⟨_, rfl⟩
  have hs := ((hK.sub hKs).newO (.deferred (some [])) rfl).newO (.loop (rc .ready none)) rfl
  rw [World.size_alloc, hW1] at hs
  have hFr : FS c.n ({ target := .collected w.heap.size, args := #[] } :: c.D) F { a with defers := [{ target := .collected w.heap.size, args := #[] }] ++ a.defers } := ⟨hF.size, by rw [hF.dfs]; rfl, hF.get⟩
  refine ⟨w.heap.size + 1, [{ target := .collected w.heap.size, args := #[] }], W1, { target := .fn (.func gf) lb.toArray, args := #[.func (.yield (w.heap.size + 1)) #[] #[]] }, W1, gf, (.func (.yield (w.heap.size + 1)) #[] #[] :: lb).toArray, W1, ?_, ?_, fun _ _ => trivial, ?_, fun _ => by decide, ?_⟩
  · rw [← hW1, hrc]; exact run_enterLoop_outer _ _ _ _ _
  · have := hF.evl hg
    simp only [resolve, this]
    simp [go_sem]
  · have := eg (.func (.yield (w.heap.size + 1)) #[] #[] :: lb).toArray W1
    have e : #[Value.func (.yield (w.heap.size + 1)) #[] #[]] ++ lb.toArray = (.func (.yield (w.heap.size + 1)) #[] #[] :: lb).toArray := by simp
    simp only [invoke, e]
    exact this
  · refine callsIn_wide.2 (Calls.mono (it (w.heap.size + 1) R Rx (fun q r => .obj (w.heap.size + 1) (.loop (rc .ready none)) :: .obj w.heap.size (.deferred (some [])) :: J q r) (fun x => .obj (w.heap.size + 1) (.loop (rc .done (some (jx x)))) :: .obj w.heap.size (.deferred (some [])) :: Jx x) r0 W1 (hs.perm (perm_objs M _ _ _).symm) ?_) ?_)
    · intro q g r w' hq hw'
      replace hw' := hw'.perm (perm_objs _ _ _ _)
      have hl : w'.heap[w.heap.size + 1]? = some (.loop (rc .ready none)) := (hw'.holds (.obj _ _) (by simp)).1
      have hy := run_yield (P := c.P) (args := (enc q g).toArray) hl (by rw [hrc]; simp [hps q g])
      rw [hrc] at hy
      refine ⟨fn, _, assign, body, hy, roundIn_of_wpIn trivial ?_⟩
      have hF0 : FS c.n [] F { tmps := a.tmps, defers := [] } := ⟨hF.size, rfl, hF.get⟩
      have hF1 := hF0.putF (vs := enc q g) hpn
      simp only [List.zip_toArray, List.foldl_toArray]
      refine round (w.heap.size + 1) w.heap.size (.loop (rc .ready none)) (.loop { rc .ready none with state := .busy }) (.deferred (some [])) q g r hq _ ?_ _ w' hF1 hw'
      intro F2 K1 K2 hp hb a1 w1 hF2 hK1
      have h1 := hK1.pick hp
      have hl1 : w1.heap[w.heap.size + 1]? = some (.loop (rc .ready none)) := (h1.holds (.obj _ _) (by simp)).1
      refine ⟨_, run_beginRound hl1 (by rw [hrc]), wpIn_mono (hb a1 _ hF2 (h1.putO rfl)) ?_⟩
      have fin : ∀ (jump : Option Code) (w3 : World), w3.heap[w.heap.size + 1]? = some (.loop { rc .ready none with state := .busy }) → (Instr.endRound (w.heap.size + 1) jump).run c.P w3 = .ok (.bool jump.isNone) (w3.putObj (w.heap.size + 1) (.loop (rc (if jump.isNone then .ready else .done) jump))) := fun jump w3 h3 => by
        have := run_endRound (P := c.P) jump h3
        rw [hrc] at this ⊢
        exact this
      rintro e a3 w3 he
      cases e with
      | normal =>
        obtain ⟨r', h3⟩ := he
        exact ⟨_, _, fin none w3 (h3.holds (.obj _ _) (by simp)).1, .inl ⟨rfl, r', (h3.putO rfl).perm (perm_objs _ _ _ _).symm⟩⟩
      | ret =>
        obtain ⟨x, hx, h3⟩ := he
        exact ⟨_, _, fin (some .ret) w3 (h3.holds (.obj _ _) (by simp)).1, .inr ⟨rfl, x, by rw [hx]; exact (h3.putO rfl).perm (perm_objs _ _ _ _).symm⟩⟩
      | exit i =>
        obtain ⟨x, hx, h3⟩ := he
        exact ⟨_, _, fin (some (.exit i)) w3 (h3.holds (.obj _ _) (by simp)).1, .inr ⟨rfl, x, by rw [hx]; exact (h3.putO rfl).perm (perm_objs _ _ _ _).symm⟩⟩
      | goto t => exact he.elim
      | panic ch => exact he.elim
      | outgrown => exact he.elim
    · rintro e w2 ⟨⟨v, rfl⟩, ⟨r, h2⟩ | ⟨x, h2⟩⟩
      · replace h2 := h2.perm (perm_objs _ _ _ _)
        have hl : w2.heap[w.heap.size + 1]? = some (.loop (rc .ready none)) := (h2.holds (.obj _ _) (by simp)).1
        refine ⟨none, _, by have := run_endLoop (P := c.P) hl (by rw [hrc]; simp); rw [hrc] at this; exact this, ?_⟩
        exact done w.heap.size r _ _ hFr ((h2.putO rfl).sub (KSub.drop (KSub.refl _)))
      · have hl : w2.heap[w.heap.size + 1]? = some (.loop (rc .done (some (jx x)))) := (h2.holds (.obj _ _) (by simp)).1
        refine ⟨some (jx x), _, by have := run_endLoop (P := c.P) hl (by rw [hrc]; simp); rw [hrc] at this; exact this, ?_⟩
        exact (wpIn_wide (n := 2)).2 (stop w.heap.size x _ _ hFr ((h2.putO rfl).sub (KSub.drop (KSub.refl _))))
theorem K_enterM {P : Program} {f : FuncId} {fn : Func} {code : Code} {n : Nat} {args : List Value} {R : Ending → World → Prop} {w w0 : World} {S : List Nat} {K : List Fact} (hf : P.funcs[f]? = some fn) (hb : fn.body = some code) (hn : fn.ntmps = n) (hl : Nat.ble args.length n = true) (hS : Sat S w0 K w)
  (h : TW ⟨P, n, [], S, w0⟩ code (bodyPostM Fence.wide 2 P fn R) (zipF 0 args) K) : Calls P f args.toArray w R := by
 refine calls_of_marks hf hb ?_
 rw [hn]
 exact h _ _ (FS.start (Nat.le_of_ble_eq_true hl)) hS
theorem K_enterW {P : Program} {f : FuncId} {fn : Func} {code : Code} {n : Nat} {args : List Value} {R : Ending → World → Prop} {w w0 : World} {S : List Nat} {K : List Fact} (hf : P.funcs[f]? = some fn) (hb : fn.body = some code) (hn : fn.ntmps = n) (hl : Nat.ble args.length n = true) (hS : Sat S w0 K w)
  (h : TW ⟨P, n, [], S, w0⟩ code (bodyPost P fn R) (zipF 0 args) K) : Calls P f args.toArray w R := by
 refine calls_of_wp hf hb ?_
 rw [hn]
 exact h _ _ (FS.start (Nat.le_of_ble_eq_true hl)) hS
theorem TQ.retM {fn : Func} {R : Ending → World → Prop} {rs : List ResultVar} {vs : List Value} {D : Nat} (hr : fn.results = rs.toArray) (hp : Pick K (.obj D (.deferred (some []))) K') (hv : RV c F K' rs vs) (h : ∀ w, Sat c.S c.w0 K' w → R (.returned (retV vs)) w) (hD : c.D = [{ target := .collected D, args := #[] }] := by rfl) : TQ c (bodyPostM Fence.wide 2 c.P fn R) .ret F K := fun a w hF hK => by
 have h1 := hK.pick hp
 have hd : w.heap[D]? = some (.deferred (some [])) := (h1.holds (.obj _ _) (by simp)).1
 have h2 : Sat c.S c.w0 K' (w.putObj D (.deferred none)) := (h1.putO (o' := .deferred none) rfl).sub (KSub.drop (KSub.refl _))
 obtain ⟨t, ds⟩ := a
 have e : ds = [{ target := .collected D, args := #[] }] := hF.dfs.trans hD
 subst e
 exact ret_marks hd (hv.results hr hF h2) (h _ h2)
theorem TQ.retM0 {fn : Func} {R : Ending → World → Prop} {rs : List ResultVar} {vs : List Value} (hr : fn.results = rs.toArray) (hv : RV c F K rs vs) (h : ∀ w, Sat c.S c.w0 K w → R (.returned (retV vs)) w) (hD : c.D = [] := by rfl) : TQ c (bodyPostM Fence.wide 2 c.P fn R) .ret F K := fun a w hF hK => by
 obtain ⟨t, ds⟩ := a
 have e : ds = [] := hF.dfs.trans hD
 subst e
 exact ret_marks0 (hv.results hr hF hK) (h w hK)
end
end Go.Proofs.YtehlbkmebaideaaGreatDoor
namespace Go.Proofs.YtehlbkmebaideaaGreatDoor
set_option linter.all false
set_option linter.unusedVariables false
set_option linter.unusedSimpArgs false
open Go.RowKit
def inB5 (lo hi a : Int) : Bool := decide (lo ≤ a) && decide (a ≤ hi)
theorem anyB_succ {n : Nat} {p : Nat → Bool} : anyB (n + 1) p = (anyB n p || p n) := by simp [anyB, List.range_succ]
theorem anyB_zero {p : Nat → Bool} : anyB 0 p = false := by simp [anyB]
def Fst (p : Nat → Bool) (n : Nat) : Type := { k : Nat // k ≤ n ∧ (∀ j, j < k → p j = false) ∧ (k < n → p k = true) }
def aft (n k : Nat) : Nat := if k < n then k + 1 else n
theorem Fst.any {p : Nat → Bool} {n : Nat} (x : Fst p n) : decide (x.1 < n) = (List.range n).any p := by
 obtain ⟨k, h1, h2, h3⟩ := x
 by_cases h : k < n
 · have : (List.range n).any p = true := List.any_eq_true.2 ⟨k, List.mem_range.2 h, h3 h⟩
   rw [this]; simpa using h
 · have : (List.range n).any p = false := by
    rw [List.any_eq_false]
    intro j hj
    have := h2 j (by have := List.mem_range.1 hj; omega)
    simp [this]
   rw [this]; simpa using h
theorem RdR.blk {w : World} {b : Nat} {E : TypeId} {cs : List Value} {n sz : Nat} {r : Nat → List Value} (h : Blk w b E cs.toArray) (hr : flatR n r = cs) (hl : ∀ i, i < n → (r i).length = sz) (hz : Nat.blt 0 sz = true := by rfl) (hn : Nat.ble n 1000000 = true := by rfl) : RdR w sz (some ⟨b, 0, none⟩) n r :=
 (OwnR.of_blk h hr hl hz hn).rdr
end Go.Proofs.YtehlbkmebaideaaGreatDoor
namespace Go.Proofs.YtehlbkmebaideaaGreatDoor
set_option linter.all false
set_option linter.unusedVariables false
set_option linter.unusedSimpArgs false
open Go.RowKit
def iL (L : List Int) : Nat → List Value := fun k => [.int .i64 (L.getD k 0)]
theorem iL_lt {L : List Int} {k : Nat} (h : k < L.length) : L[k]? = some (L.getD k 0) := by
 rw [List.getD_eq_getElem?_getD, List.getElem?_eq_getElem h]
 rfl
theorem getD_app {L M : List Int} {k : Nat} : (L ++ M).getD k 0 = if k < L.length then L.getD k 0 else M.getD (k - L.length) 0 := by
 simp only [List.getD_eq_getElem?_getD]
 by_cases h : k < L.length
 · rw [if_pos h, List.getElem?_append_left h]
 · rw [if_neg h, List.getElem?_append_right (by omega)]
theorem iL_cat {L M : List Int} {n : Nat} (hn : n = L.length) : ∀ i, catR n (iL L) (iL M) i = iL (L ++ M) i := fun i => by
 subst hn
 simp only [catR, iL]
 rw [getD_app]
 split <;> rfl
def toI (v : Nat → Int) (n : Nat) : List Int := (List.range n).map v
theorem toI_len {v : Nat → Int} {n : Nat} : (toI v n).length = n := by simp [toI]
theorem toI_get {v : Nat → Int} {n k : Nat} (h : k < n) : (toI v n).getD k 0 = v k := by
 simp [toI, List.getD_eq_getElem?_getD, h]
theorem RdR.toI {w : World} {A : Option Addr} {n : Nat} {v : Nat → Int} (h : RdR w 1 A n (fun k => [.int .i64 (v k)])) : RdR w 1 A (toI v n).length (iL (toI v n)) := by
 rw [toI_len]
 exact ⟨h.rd.congr fun i j hi hj => by simp only [rowF, iL, toI_get hi], fun i hi => rfl⟩
theorem mem_getD {L : List Int} {k : Nat} (h : k < L.length) : L.getD k 0 ∈ L := by
 have := iL_lt h
 exact List.mem_of_getElem? this
theorem take_succ {L : List Int} {k : Nat} (h : k < L.length) : L.take (k + 1) = L.take k ++ [L.getD k 0] := by
 rw [List.take_succ, iL_lt h]
 rfl
end Go.Proofs.YtehlbkmebaideaaGreatDoor
namespace Go.Proofs.YtehlbkmebaideaaGreatDoor
set_option linter.all false
set_option linter.unusedVariables false
set_option linter.unusedSimpArgs false
theorem Pu.bv {c : Cx} {F : Fr} {K : List Fact} {o : Oper} {b b' : Bool} (h : Pu c F K o (.bool b)) (e : b = b') : Pu c F K o (.bool b') := e ▸ h
theorem Pu.iv {c : Cx} {F : Fr} {K : List Fact} {o : Oper} {a b : Int} {k : IntKind} (h : Pu c F K o (.int k a)) (e : a = b) : Pu c F K o (.int k b) := e ▸ h
end Go.Proofs.YtehlbkmebaideaaGreatDoor
namespace Go.Proofs.YtehlbkmebaideaaGreatDoor
set_option linter.all false
set_option linter.unusedVariables false
set_option linter.unusedSimpArgs false
open Go.RowKit Go.Lib
def rwL (f : Nat → Int) : List Value := [.int .i64 (f 0), .int .i64 (f 1), .int .i64 (f 2), .int .i64 (f 3), .int .i64 (f 4), .int .i64 (f 5), .int .i64 (f 6), .int .i64 (f 7), .int .i64 (f 8), .int .i64 (f 9), .int .i64 (f 10), .int .i64 (f 11), .int .i64 (f 12), .int .i64 (f 13)]
def ltL (x : Ltr) : List Value := [.int .i64 x.id, .int .i64 x.day, .int .u8 x.kind, .int .i64 x.who, .int .i64 x.other, .int .i64 x.animal, .int .i64 x.rials, .bool x.mouth]
def enL (e : Ent) (A : Option Addr) (c : Nat) : List Value := [.int .i64 e.day, sv e.word, .slice A e.args.length c]
def dgB (u : Nat) : UInt8 := UInt8.ofNat (48 + u)
theorem wrap_dig : ∀ k : Nat, k < 10 → IntKind.i32.wrap ((48 + k : Nat) : Int) = ((48 + k : Nat) : Int) := by decide
theorem enc_dig : ∀ k : Nat, k < 10 → Utf8.encode ((48 + k : Nat) : Int) = ⟨[dgB k].toArray⟩
 | 0, _ => rfl
 | 1, _ => rfl
 | 2, _ => rfl
 | 3, _ => rfl
 | 4, _ => rfl
 | 5, _ => rfl
 | 6, _ => rfl
 | 7, _ => rfl
 | 8, _ => rfl
 | 9, _ => rfl
 | k + 10, h => by omega
theorem dec_len21 {u : Nat} (h : u ≤ 1000000000000) : (decDigits u).length ≤ 21 := by
 have := itoa_length_le (u : Int) (by omega) (by omega)
 unfold itoa at this
 rw [if_neg (by omega), Int.toNat_natCast] at this
 exact this
set_option maxRecDepth 100000 in
theorem numberN_any : ∀ (u : Nat), u ≤ 1000000000000 → ∀ w : World, Calls Tryz.prog 52 #[.int .i64 (u : Int)] w (Ret w (sv (decDigits u))) := by
 intro u
 induction u using Nat.strongRecOn with
 | _ u ih =>
 intro hu w
 refine K_enter (S := []) (K := []) Tryz.func52 rfl Tryz.ntmps52 rfl (Sat.start _) ?_
 refine TW.seq fun Y1 hY1 => TW.region ?_
 refine TL.p Pu.as ?_
 refine TL.nil (TQ.thenN (hY1 _ _ ?_))
 refine TW.seq fun Y2 hY2 => ?_
 refine TW.seq fun Y3 hY3 => TW.region ?_
 refine TL.p Pu.mv ?_
 refine TL.p Pu.lt ?_
 refine TL.nil (TQ.thenN (hY3 _ _ ?_))
 refine TW.condF rfl (decide_eq_false (by omega)) ?_
 refine TW.skip ?_
 refine TQ.thenN (hY2 _ _ ?_)
 refine TW.seq fun Y4 hY4 => ?_
 refine TW.seq fun Y5 hY5 => TW.region ?_
 refine TL.p Pu.mv ?_
 refine TL.p Pu.lt ?_
 refine TL.nil (TQ.thenN (hY5 _ _ ?_))
 refine TW.cond rfl (fun hc1 => ?_) (fun hc1 => ?_)
 try simp only [zcb9] at hc1
 have e1 : [dgB u] = decDigits u := by rw [decDigits, dif_pos (by omega)]; rfl
 refine TW.seq fun Y6 hY6 => TW.region ?_
 refine TL.p Pu.mv ?_
 refine TL.p Pu.ad ?_
 refine TL.p (Pu.cv (v := .int .i32 ((48 + u : Nat) : Int)) rfl (fun w => by go_simp; rw [show (48 + (u : Int)) = ((48 + u : Nat) : Int) by omega]; rw [wrap_dig u (by omega)])) ?_
 refine TL.p (Pu.sw (Pu.cv (v := sv [dgB u]) rfl (fun w => by clear e1; go_simp; rw [show (48 + (u : Int)) = ((48 + u : Nat) : Int) by omega, enc_dig u (by omega)]; rfl)) e1) ?_
 refine TL.p Pu.as ?_
 refine TL.nil (TQ.thenN (hY6 _ _ ?_))
 refine TW.ret ?_
 refine TQ.thenR ?_
 refine TQ.ret Tryz.results52 rfl ((.tmp rfl .nil)) ?_
 exact fun w hw => Ret.of hw
 try simp only [zcb9] at hc1
 have e1 : decDigits u = decDigits (u / 10) ++ decDigits (u % 10) := by
  have e2 : decDigits (u % 10) = [UInt8.ofNat (48 + u % 10)] := by rw [decDigits, dif_pos (Nat.mod_lt _ (by decide))]
  rw [decDigits, dif_neg (by omega), e2]
 have l1 := dec_len21 (u := u / 10) (by omega)
 have l2 := dec_len21 (u := u % 10) (by omega)
 refine TW.skip ?_
 refine TQ.thenN (hY4 _ _ ?_)
 refine TW.seq fun Y7 hY7 => TW.region ?_
 refine TL.p Pu.mv ?_
 refine TL.p (Pu.iv Pu.qu (show (u : Int) / 10 = ((u / 10 : Nat) : Int) by omega)) ?_
 refine TL.cr rfl (enters Tryz.func52 rfl rfl) (fun w hw => by
   exact ih (u / 10) (by omega) (by omega) _) ?_
 refine TL.p Pu.mv ?_
 refine TL.p (Pu.iv Pu.rm (show (u : Int) % 10 = ((u % 10 : Nat) : Int) by omega)) ?_
 refine TL.cr rfl (enters Tryz.func52 rfl rfl) (fun w hw => by
   exact ih (u % 10) (by omega) (by omega) _) ?_
 refine TL.p (Pu.sw Pu.sad e1.symm) ?_
 refine TL.p Pu.as ?_
 refine TL.nil (TQ.thenN (hY7 _ _ ?_))
 refine TW.ret ?_
 refine TQ.ret Tryz.results52 rfl ((.tmp rfl .nil)) ?_
 exact fun w hw => Ret.of hw
set_option maxRecDepth 100000 in
theorem number_any {n : Int} (h : -1000000000000 ≤ n ∧ n ≤ 1000000000000) (w : World) : Calls Tryz.prog 52 #[.int .i64 n] w (Ret w (sv (itoa n))) := by
 by_cases h0 : n < 0
 have e1 : itoa n = [45] ++ decDigits n.natAbs := by unfold itoa; rw [if_pos h0]; rfl
 have e2 : -n = ((n.natAbs : Nat) : Int) := by omega
 have l1 := dec_len21 (u := n.natAbs) (by omega)
 refine K_enter (S := []) (K := []) Tryz.func52 rfl Tryz.ntmps52 rfl (Sat.start _) ?_
 refine TW.seq fun Y1 hY1 => TW.region ?_
 refine TL.p Pu.as ?_
 refine TL.nil (TQ.thenN (hY1 _ _ ?_))
 refine TW.seq fun Y2 hY2 => ?_
 refine TW.seq fun Y3 hY3 => TW.region ?_
 refine TL.p Pu.mv ?_
 refine TL.p Pu.lt ?_
 refine TL.nil (TQ.thenN (hY3 _ _ ?_))
 refine TW.condT rfl (decide_eq_true h0) ?_
 refine TW.seq fun Y4 hY4 => TW.region ?_
 refine TL.p Pu.mv ?_
 refine TL.p (Pu.iv Pu.ng e2) ?_
 refine TL.cr rfl (enters Tryz.func52 rfl rfl) (fun w hw => by
  exact numberN_any n.natAbs (by omega) _) ?_
 refine TL.p (Pu.sw Pu.sad e1.symm) ?_
 refine TL.p Pu.as ?_
 refine TL.nil (TQ.thenN (hY4 _ _ ?_))
 refine TW.ret ?_
 refine TQ.thenR ?_
 refine TQ.ret Tryz.results52 rfl ((.tmp rfl .nil)) ?_
 exact fun w hw => Ret.of hw
 obtain ⟨u, rfl⟩ : ∃ u : Nat, n = (u : Int) := ⟨n.toNat, by omega⟩
 have e : itoa (u : Int) = decDigits u := by unfold itoa; rw [if_neg h0, Int.toNat_natCast]
 rw [e]
 exact numberN_any u (by omega) w
theorem all_get {l : List Int} {k : Nat} (h : l.all wrB = true) (hk : k < l.length) : -1000000000000 ≤ l.getD k 0 ∧ l.getD k 0 ≤ 1000000000000 := wrB_iff.1 (List.all_eq_true.1 h _ (mem_getD hk))
theorem all_take {l : List Int} {k : Nat} (h : l.all wrB = true) : (l.take k).all wrB = true := List.all_eq_true.2 fun x hx => List.all_eq_true.1 h x (List.mem_of_mem_take hx)
theorem phr_step {wd : List UInt8} {l : List Int} {k : Nat} (hk : k < l.length) : phr wd (l.take k) ++ ([32] ++ itoa (l.getD k 0)) = phr wd (l.take (k + 1)) := by
 rw [take_succ hk, phr_snoc]
 rfl
set_option maxRecDepth 100000 in
theorem line_any {wd : List UInt8} {l : List Int} {A : Option Addr} {cp : Nat} {w : World} (hwd : wd.length ≤ 1000000) (hl : l.length ≤ 1000) (hn : l.all wrB = true) (hR : RdR w 1 A l.length (iL l)) :
  Calls Tryz.prog 23 #[sv wd, .slice A l.length cp] w (Ret w (sv (phr wd l))) := by
 refine K_enter (S := []) (K := []) Tryz.func23 rfl Tryz.ntmps23 rfl (Sat.start _) ?_
 refine TW.seq fun Y1 hY1 => TW.region ?_
 refine TL.p Pu.as ?_
 refine TL.nil (TQ.thenN (hY1 _ _ ?_))
 refine TW.seq fun Y2 hY2 => ?_
 refine TW.seq fun Y3 hY3 => TW.region ?_
 refine TL.p Pu.as ?_
 refine TL.nil (TQ.thenN (hY3 _ _ ?_))
 refine TW.block ?_
 refine TW.loop1 (fun (k : Nat) => [(5, .int .i64 (k : Int)), (0, sv (phr wd (l.take k))), (1, .slice A l.length cp)]) (fun k => []) (fun k => k ≤ l.length) (fun k => l.length - k) 0 fs9 ?_ ?_ ?_
 exact ks9
 exact Nat.zero_le _
 rintro k hk Z0 hZ0
 refine TW.seq fun Y4 hY4 => ?_
 refine TW.seq fun Y5 hY5 => TW.region ?_
 refine TL.p Pu.mv ?_
 refine TL.p Pu.mv ?_
 refine TL.p (Pu.ln Tryz.underlying48) ?_
 refine TL.p Pu.lt ?_
 refine TL.nil (TQ.thenN (hY5 _ _ ?_))
 refine TW.cond rfl (fun hc0 => ?_) (fun hc0 => ?_)
 try simp only [zcb9] at hc0
 have hkl : k < l.length := by omega
 have l1 := phr_wr (w := wd) (l := l.take k) (all_take hn)
 have l2 := itoa_length_le (l.getD k 0) (by have := all_get hn hkl; omega) (by have := all_get hn hkl; omega)
 have l3 : (l.take k).length ≤ 1000 := by rw [List.length_take]; omega
 refine TW.skip ?_
 refine TQ.thenN (hY4 _ _ ?_)
 refine TW.seq fun Y6 hY6 => ?_
 refine TW.block ?_
 refine TW.region ?_
 refine TL.p Pu.mv ?_
 refine TL.p Pu.mv ?_
 refine TL.p Pu.mv ?_
 refine TL.p (Pu.el ty_et48) ?_
 refine TL.p (Pu.ld ty_sc3) ?_
 refine TL.cr rfl (enters Tryz.func52 rfl rfl) (fun w hw => by
   exact number_any (all_get hn hkl) _) ?_
 refine TL.p Pu.sad ?_
 refine TL.p (Pu.sw Pu.sad (phr_step hkl)) ?_
 refine TL.p Pu.as ?_
 refine TL.nil ?_
 refine TQ.blkN ?_
 refine TQ.thenN (hY6 _ _ ?_)
 refine TW.region ?_
 refine TL.p Pu.mv ?_
 refine TL.p Pu.ad ?_
 refine TL.p Pu.as ?_
 refine TL.nil ?_
 refine TQ.thenN (hZ0 (k + 1) _ _ ?_ ?_ fs9 ?_)
 exact (by omega)
 exact zom9
 exact ks9
 try simp only [zcb9] at hc0
 obtain rfl : k = l.length := by omega
 refine TW.exit ?_
 refine TQ.thenX ?_
 refine TQ.thenX ?_
 refine TQ.blkX ?_
 refine TQ.thenN (hY2 _ _ ?_)
 refine TW.seq fun Y7 hY7 => TW.region ?_
 refine TL.p Pu.mv ?_
 refine TL.p Pu.as ?_
 refine TL.nil (TQ.thenN (hY7 _ _ ?_))
 refine TW.ret ?_
 refine TQ.ret Tryz.results23 rfl ((.tmp rfl .nil)) ?_
 exact fun w hw => ⟨retS (by rw [List.take_length]), Chg.ext hw.chg⟩
set_option maxRecDepth 100000 in
theorem tied_any {t x : List UInt8} {w : World} (ht : t.length + x.length ≤ 100000000) : Calls Tryz.prog 22 #[sv t, sv x] w (Ret w (sv (tyL t x))) := by
 have hck : ckL 23 (t ++ x) < 8191 := ckL_lt (by decide)
 have hlen : (t ++ x).length = t.length + x.length := List.length_append
 have l2 := itoa_length_le (ckL 23 (t ++ x) : Int) (by omega) (by omega)
 refine K_enter (S := []) (K := []) Tryz.func22 rfl Tryz.ntmps22 rfl (Sat.start _) ?_
 refine TW.seq fun Y1 hY1 => TW.region ?_
 refine TL.p Pu.as ?_
 refine TL.nil (TQ.thenN (hY1 _ _ ?_))
 refine TW.seq fun Y2 hY2 => TW.region ?_
 refine TL.p Pu.mv ?_
 refine TL.p Pu.mv ?_
 refine TL.p Pu.sad ?_
 refine TL.p Pu.as ?_
 refine TL.nil (TQ.thenN (hY2 _ _ ?_))
 refine TW.seq fun Y3 hY3 => TW.region ?_
 refine TL.p Pu.mv ?_
 refine TL.p Pu.mv ?_
 refine TL.cr rfl (enters Tryz.func51 rfl rfl) (fun w hw => by
  exact sum_any (by omega) _) ?_
 refine TL.m Mk.bl ?_
 intro b1
 refine TL.cr rfl (enters Tryz.func23 rfl rfl) (fun w hw => by
  exact line_any (wd := []) (l := [(ckL 23 (t ++ x) : Int)]) (by decide) (by simp) (by simp [wrB_iff]; omega) (RdR.blk (hw.holds (.blk b1 3 [.int .i64 (ckL 23 (t ++ x) : Int)]) (Pick.mem pk9)) rfl (fun i hi => rfl))) ?_
 refine TL.p (Pu.sad rfl rfl (by show (t ++ x).length + (32 :: itoa (ckL 23 (t ++ x) : Int)).length ≤ _; rw [List.length_cons]; omega)) ?_
 refine TL.p (Pu.sw (Pu.sad rfl rfl (by show ((t ++ x) ++ (32 :: itoa (ckL 23 (t ++ x) : Int))).length + 1 ≤ _; rw [List.length_append, List.length_cons]; omega)) (show ((t ++ x) ++ phr [] [(ckL 23 (t ++ x) : Int)]) ++ [10] = tyL t x by unfold tyL; rw [List.append_assoc]; rfl)) ?_
 refine TL.p Pu.as ?_
 refine TL.nil (TQ.thenN (hY3 _ _ ?_))
 refine TW.ret ?_
 refine TQ.ret Tryz.results22 rfl ((.tmp rfl .nil)) ?_
 exact fun w hw => Ret.of hw
end Go.Proofs.YtehlbkmebaideaaGreatDoor
namespace Go.Proofs.YtehlbkmebaideaaGreatDoor
set_option linter.all false
set_option linter.unusedVariables false
set_option linter.unusedSimpArgs false
open Go.RowKit Go.Lib
def outV (t : List UInt8) : List UInt8 × Int := if 30000 < t.length then ([], 9) else (t, 0)
theorem outL_eq {l : List (List UInt8)} : outL l = outV (txtL l) := rfl
theorem within_any {n lo hi : Int} (w : World) : Calls Tryz.prog 29 #[.int .i64 n, .int .i64 lo, .int .i64 hi] w (Ret w (.bool (decide (lo ≤ n) && decide (n ≤ hi)))) := by
 refine K_enter (S := []) (K := []) Tryz.func29 rfl Tryz.ntmps29 rfl (Sat.start _) ?_
 refine TW.seq fun Y1 hY1 => TW.region ?_
 refine TL.p Pu.as ?_
 refine TL.nil (TQ.thenN (hY1 _ _ ?_))
 refine TW.seq fun Y2 hY2 => ?_
 refine TW.join [(6, .bool (decide (lo ≤ n) && decide (n ≤ hi)))] ?_ (fun hJ1 => ?_)
 refine TQ.thenN (hY2 _ _ ?_)
 refine TW.ret ?_
 refine TQ.ret Tryz.results29 rfl ((.tmp rfl .nil)) ?_
 exact fun w hw => Ret.of hw
 refine TW.region ?_
 refine TL.p Pu.mv ?_
 refine TL.p Pu.mv ?_
 refine TL.p Pu.ge ?_
 refine TL.p Pu.mv ?_
 refine TL.guard (t := 10) rfl (fun hg1 => ?_) (fun hg1 => ?_)
 refine TL.gd Pu.mv ?_
 refine TL.gd Pu.mv ?_
 refine TL.gd Pu.le ?_
 refine TL.p Pu.kt ?_
 refine TL.p Pu.as ?_
 refine TL.nil ?_
 exact TQ.sub (by repeat (first | exact trivial | refine ⟨rfl, ?_⟩ | refine ⟨trivial, ?_⟩ | refine ⟨(by show some (Value.bool _) = some (Value.bool _); first | (simp [hg1]; done) | (refine congrArg (fun z => some (Value.bool z)) (Bool.eq_iff_iff.2 ?_); simp [hg1]; omega)), ?_⟩)) ks9 hJ1
 refine TL.gs ?_
 refine TL.gs ?_
 refine TL.gs ?_
 refine TL.p Pu.kf ?_
 refine TL.p Pu.as ?_
 refine TL.nil ?_
 exact TQ.sub (by repeat (first | exact trivial | refine ⟨rfl, ?_⟩ | refine ⟨trivial, ?_⟩ | refine ⟨(by show some (Value.bool _) = some (Value.bool _); first | (simp [hg1]; done) | (refine congrArg (fun z => some (Value.bool z)) (Bool.eq_iff_iff.2 ?_); simp [hg1]; omega)), ?_⟩)) ks9 hJ1
set_option maxRecDepth 100000 in
theorem ended_any {t : List UInt8} {n : Nat} {w : World} (ht : t.length ≤ 10000000) (hn : n ≤ 1000000) : Calls Tryz.prog 26 #[sv t, .int .i64 (n : Int)] w (Ret w (.tuple #[sv (outV (tyL t (phr [69] [(n : Int)]))).1, .int .i64 (outV (tyL t (phr [69] [(n : Int)]))).2])) := by
 have hw1 : ([(n : Int)] : List Int).all wrB = true := by simp [wrB_iff]; omega
 have l1 := phr_wr (w := [69]) hw1
 have l2 : (phr [69] [(n : Int)]).length ≤ 100 := by simp only [List.length_cons, List.length_nil] at l1; omega
 refine K_enter (S := []) (K := []) Tryz.func26 rfl Tryz.ntmps26 rfl (Sat.start _) ?_
 refine TW.seq fun Y1 hY1 => TW.region ?_
 refine TL.p Pu.as ?_
 refine TL.p Pu.as ?_
 refine TL.nil (TQ.thenN (hY1 _ _ ?_))
 refine TW.seq fun Y2 hY2 => TW.region ?_
 refine TL.p Pu.mv ?_
 refine TL.p Pu.mv ?_
 refine TL.m Mk.bl ?_
 intro b1
 refine TL.cr rfl (enters Tryz.func23 rfl rfl) (fun w hw => by
  exact line_any (wd := [69]) (l := [(n : Int)]) (by decide) (by simp) hw1 (RdR.blk (hw.holds (.blk b1 3 [.int .i64 (n : Int)]) (Pick.mem pk9)) rfl (fun i hi => rfl))) ?_
 refine TL.cr rfl (enters Tryz.func22 rfl rfl) (fun w hw => by
  exact tied_any (by omega)) ?_
 refine TL.p Pu.as ?_
 refine TL.nil (TQ.thenN (hY2 _ _ ?_))
 refine TW.seq fun Y3 hY3 => ?_
 refine TW.seq fun Y4 hY4 => TW.region ?_
 refine TL.p Pu.mv ?_
 refine TL.p (Pu.sln Tryz.underlying9) ?_
 refine TL.p Pu.gt ?_
 refine TL.nil (TQ.thenN (hY4 _ _ ?_))
 refine TW.cond rfl (fun hc0 => ?_) (fun hc0 => ?_)
 try simp only [zcb9] at hc0
 have h9 : 30000 < (tyL t (phr [69] [(n : Int)])).length := by omega
 refine TW.seq fun Y5 hY5 => TW.region ?_
 refine TL.p Pu.as ?_
 refine TL.p Pu.as ?_
 refine TL.nil (TQ.thenN (hY5 _ _ ?_))
 refine TW.ret ?_
 refine TQ.thenR ?_
 refine TQ.ret Tryz.results26 rfl ((.tmp rfl (.tmp rfl .nil))) ?_
 refine fun w hw => ⟨?_, Chg.ext hw.chg⟩
 unfold outV
 rw [if_pos h9]
 rfl
 try simp only [zcb9] at hc0
 have h9 : ¬ 30000 < (tyL t (phr [69] [(n : Int)])).length := by omega
 refine TW.skip ?_
 refine TQ.thenN (hY3 _ _ ?_)
 refine TW.seq fun Y6 hY6 => TW.region ?_
 refine TL.p Pu.mv ?_
 refine TL.p Pu.as ?_
 refine TL.p Pu.as ?_
 refine TL.nil (TQ.thenN (hY6 _ _ ?_))
 refine TW.ret ?_
 refine TQ.ret Tryz.results26 rfl ((.tmp rfl (.tmp rfl .nil))) ?_
 refine fun w hw => ⟨?_, Chg.ext hw.chg⟩
 unfold outV
 rw [if_neg h9]
 rfl
def cmW (i : Nat) : List UInt8 := (cmT.getD i ([], 0)).1
def cmN (i : Nat) : Nat := (cmT.getD i ([], 0)).2
theorem cm_mem {i : Nat} (h : i < 10) : (cmW i, cmN i) ∈ cmT := by
 have h1 : cmT.length = 10 := rfl
 have : cmT[i]? = some (cmT.getD i ([], 0)) := by rw [List.getD_eq_getElem?_getD, List.getElem?_eq_getElem (by omega)]; rfl
 exact List.mem_of_getElem? this
set_option maxRecDepth 100000 in
theorem words_any (w : World) : CallsK Tryz.prog 55 #[] [] w (Nat × Nat) (fun x => .tuple #[.slice (some ⟨x.1, 0, none⟩) 10 10, .slice (some ⟨x.2, 0, none⟩) 10 10]) (fun x => [.own (some ⟨x.1, 0, none⟩) 10 10 9 1 (fun i => [sv (cmW i)]), .own (some ⟨x.2, 0, none⟩) 10 10 3 1 (fun i => [.int .i64 (cmN i : Int)])]) := by
 refine K_enter (S := []) (K := []) Tryz.func55 rfl Tryz.ntmps55 rfl (Sat.start _) ?_
 refine TW.seq fun Y1 hY1 => TW.region ?_
 refine TL.p Pu.as ?_
 refine TL.p Pu.as ?_
 refine TL.nil (TQ.thenN (hY1 _ _ ?_))
 refine TW.seq fun Y2 hY2 => TW.region ?_
 refine TL.m Mk.bl ?_
 intro b1
 refine TL.m Mk.bl ?_
 intro b2
 refine TL.p Pu.as ?_
 refine TL.p Pu.as ?_
 refine TL.nil (TQ.thenN (hY2 _ _ ?_))
 refine TW.ret ?_
 refine TQ.ret Tryz.results55 rfl ((.tmp rfl (.tmp rfl .nil))) ?_
 exact fun w hw => ⟨(b1, b2), rfl, hw.sub (KSub.ofBlk pk9 rfl (fun i hi => rfl) rfl rfl (KSub.ofBlk pk9 rfl (fun i hi => rfl) rfl rfl KSub.nil))⟩
set_option maxRecDepth 100000 in
theorem command_any {wd : List UInt8} {A : Option Addr} {n cp : Nat} {w : World} (hn : n ≤ 1000000000) : Calls Tryz.prog 30 #[sv wd, .slice A n cp] w (Ret w (.bool (cmB wd n))) := by
 refine K_enter (S := []) (K := []) Tryz.func30 rfl Tryz.ntmps30 rfl (Sat.start _) ?_
 refine TW.seq fun Y1 hY1 => TW.region ?_
 refine TL.p Pu.as ?_
 refine TL.nil (TQ.thenN (hY1 _ _ ?_))
 refine TW.seq fun Y2 hY2 => TW.region ?_
 refine TL.call (M := []) rfl (enters Tryz.func55 rfl rfl) (List.Perm.refl _) rfl (fun w hw => by
   exact words_any _) ?_
 rintro ⟨bw, bn⟩
 refine TL.p Pu.mv ?_
 refine TL.p Pu.ex ?_
 refine TL.p Pu.ex ?_
 refine TL.p Pu.as ?_
 refine TL.p Pu.as ?_
 refine TL.nil (TQ.thenN (hY2 _ _ ?_))
 refine TW.seq fun Y3 hY3 => ?_
 refine TW.seq fun Y4 hY4 => TW.region ?_
 refine TL.p Pu.as ?_
 refine TL.nil (TQ.thenN (hY4 _ _ ?_))
 refine TW.block ?_
 refine TW.loop1 (fun (k : Nat) => [(7, .int .i64 (k : Int)), (5, .slice (some ⟨bw, 0, none⟩) 10 10), (6, .slice (some ⟨bn, 0, none⟩) 10 10), (0, sv wd), (1, .slice A n cp)]) (fun k => [.own (some ⟨bw, 0, none⟩) 10 10 9 1 (fun i => [sv (cmW i)]), .own (some ⟨bn, 0, none⟩) 10 10 3 1 (fun i => [.int .i64 (cmN i : Int)])]) (fun k => k ≤ 10 ∧ ∀ j, j < k → cmW j ≠ wd) (fun k => 10 - k) 0 fs9 ?_ ?_ ?_
 exact ks9
 exact ⟨by omega, fun j hj => by omega⟩
 rintro k ⟨hk, hall⟩ Z0 hZ0
 refine TW.seq fun Y5 hY5 => ?_
 refine TW.seq fun Y6 hY6 => TW.region ?_
 refine TL.p Pu.mv ?_
 refine TL.p Pu.mv ?_
 refine TL.p (Pu.ln Tryz.underlying51) ?_
 refine TL.p Pu.lt ?_
 refine TL.nil (TQ.thenN (hY6 _ _ ?_))
 refine TW.cond rfl (fun hc0 => ?_) (fun hc0 => ?_)
 try simp only [zcb9] at hc0
 have hkl : k < 10 := by omega
 refine TW.skip ?_
 refine TQ.thenN (hY5 _ _ ?_)
 refine TW.seq fun Y7 hY7 => ?_
 refine TW.block ?_
 refine TW.seq fun Y8 hY8 => TW.region ?_
 refine TL.p Pu.mv ?_
 refine TL.p Pu.mv ?_
 refine TL.p (Pu.el ty_et51) ?_
 refine TL.p (Pu.ld ty_sc9) ?_
 refine TL.p Pu.mv ?_
 refine TL.p Pu.seq_ ?_
 refine TL.nil (TQ.thenN (hY8 _ _ ?_))
 refine TW.cond rfl (fun hc1 => ?_) (fun hc1 => ?_)
 try simp only [zcb9] at hc1
 subst hc1
 refine TW.seq fun Y9 hY9 => TW.region ?_
 refine TL.p Pu.mv ?_
 refine TL.p (Pu.ln Tryz.underlying48) ?_
 refine TL.p Pu.mv ?_
 refine TL.p Pu.mv ?_
 refine TL.p (Pu.el ty_et48) ?_
 refine TL.p (Pu.ld ty_sc3) ?_
 refine TL.p Pu.eq ?_
 refine TL.p Pu.as ?_
 refine TL.nil (TQ.thenN (hY9 _ _ ?_))
 refine TW.ret ?_
 refine TQ.blkR ?_
 refine TQ.thenR ?_
 refine TQ.thenR ?_
 refine TQ.blkR ?_
 refine TQ.thenR ?_
 refine TQ.ret Tryz.results30 rfl ((.tmp rfl .nil)) ?_
 refine fun w hw => ⟨?_, Chg.ext hw.chg⟩
 rw [cm_one (cm_mem hkl)]
 refine congrArg (fun b => Ending.returned (.bool b)) ?_
 rw [Bool.eq_iff_iff, decide_eq_true_eq, decide_eq_true_eq]
 omega
 try simp only [zcb9] at hc1
 refine TW.skip ?_
 refine TQ.blkN ?_
 refine TQ.thenN (hY7 _ _ ?_)
 refine TW.region ?_
 refine TL.p Pu.mv ?_
 refine TL.p Pu.ad ?_
 refine TL.p Pu.as ?_
 refine TL.nil ?_
 refine TQ.thenN (hZ0 (k + 1) _ _ ?_ ?_ fs9 ?_)
 refine ⟨by omega, fun j hj => ?_⟩
 by_cases h : j = k
 subst h; exact hc1
 exact hall j (by omega)
 exact zom9
 exact ks9
 try simp only [zcb9] at hc0
 obtain rfl : k = 10 := by omega
 refine TW.exit ?_
 refine TQ.thenX ?_
 refine TQ.thenX ?_
 refine TQ.blkX ?_
 refine TQ.thenN (hY3 _ _ ?_)
 refine TW.seq fun Y10 hY10 => TW.region ?_
 refine TL.p Pu.as ?_
 refine TL.nil (TQ.thenN (hY10 _ _ ?_))
 refine TW.ret ?_
 refine TQ.ret Tryz.results30 rfl ((.tmp rfl .nil)) ?_
 refine fun w hw => ⟨?_, Chg.ext hw.chg⟩
 rw [cm_none (fun p hp e => by
  obtain ⟨i, hi, rfl⟩ := List.getElem_of_mem hp
  have h1 : cmT.length = 10 := rfl
  refine hall i (by omega) ?_
  unfold cmW
  rw [List.getD_eq_getElem?_getD, List.getElem?_eq_getElem hi]
  exact e)]
 rfl
set_option maxRecDepth 100000 in
theorem said_any {l : List Int} {A : Option Addr} {cp : Nat} {w : World} (hl : l.length ≤ 1000000000) (hR : RdR w 1 A l.length (iL l)) : Calls Tryz.prog 31 #[.slice A l.length cp] w (Ret w (.bool (l.all wrB))) := by
 refine K_enter (S := []) (K := []) Tryz.func31 rfl Tryz.ntmps31 rfl (Sat.start _) ?_
 refine TW.seq fun Y1 hY1 => TW.region ?_
 refine TL.p Pu.as ?_
 refine TL.nil (TQ.thenN (hY1 _ _ ?_))
 refine TW.seq fun Y2 hY2 => ?_
 refine TW.seq fun Y3 hY3 => TW.region ?_
 refine TL.p Pu.as ?_
 refine TL.nil (TQ.thenN (hY3 _ _ ?_))
 refine TW.block ?_
 refine TW.loop1 (fun (k : Nat) => [(3, .int .i64 (k : Int)), (0, .slice A l.length cp)]) (fun k => []) (fun k => k ≤ l.length ∧ (l.take k).all wrB = true) (fun k => l.length - k) 0 fs9 ?_ ?_ ?_
 exact ks9
 exact ⟨Nat.zero_le _, rfl⟩
 rintro k ⟨hk, hall⟩ Z0 hZ0
 refine TW.seq fun Y4 hY4 => ?_
 refine TW.seq fun Y5 hY5 => TW.region ?_
 refine TL.p Pu.mv ?_
 refine TL.p Pu.mv ?_
 refine TL.p (Pu.ln Tryz.underlying48) ?_
 refine TL.p Pu.lt ?_
 refine TL.nil (TQ.thenN (hY5 _ _ ?_))
 refine TW.cond rfl (fun hc0 => ?_) (fun hc0 => ?_)
 try simp only [zcb9] at hc0
 have hkl : k < l.length := by omega
 refine TW.skip ?_
 refine TQ.thenN (hY4 _ _ ?_)
 refine TW.seq fun Y6 hY6 => ?_
 refine TW.block ?_
 refine TW.seq fun Y7 hY7 => TW.region ?_
 refine TL.p Pu.mv ?_
 refine TL.p Pu.mv ?_
 refine TL.p (Pu.el ty_et48) ?_
 refine TL.p (Pu.ld ty_sc3) ?_
 refine TL.cr rfl (enters Tryz.func29 rfl rfl) (fun w hw => by
   exact within_any _) ?_
 refine TL.p Pu.no ?_
 refine TL.nil (TQ.thenN (hY7 _ _ ?_))
 refine TW.cond rfl (fun hc1 => ?_) (fun hc1 => ?_)
 try simp only [zcb9] at hc1
 have hb : wrB (l.getD k 0) = false := by
  unfold wrB
  rw [Bool.and_eq_false_iff, decide_eq_false_iff_not, decide_eq_false_iff_not]
  omega
 refine TW.seq fun Y8 hY8 => TW.region ?_
 refine TL.p Pu.as ?_
 refine TL.nil (TQ.thenN (hY8 _ _ ?_))
 refine TW.ret ?_
 refine TQ.blkR ?_
 refine TQ.thenR ?_
 refine TQ.thenR ?_
 refine TQ.blkR ?_
 refine TQ.thenR ?_
 refine TQ.ret Tryz.results31 rfl ((.tmp rfl .nil)) ?_
 refine fun w hw => ⟨?_, Chg.ext hw.chg⟩
 refine congrArg (fun b => Ending.returned (.bool b)) ?_
 refine (List.all_eq_false.2 ⟨_, mem_getD hkl, ?_⟩).symm
 rw [hb]
 exact fun h => by cases h
 try simp only [zcb9] at hc1
 have hb : wrB (l.getD k 0) = true := by
  rw [wrB_iff]
  omega
 refine TW.skip ?_
 refine TQ.blkN ?_
 refine TQ.thenN (hY6 _ _ ?_)
 refine TW.region ?_
 refine TL.p Pu.mv ?_
 refine TL.p Pu.ad ?_
 refine TL.p Pu.as ?_
 refine TL.nil ?_
 refine TQ.thenN (hZ0 (k + 1) _ _ ?_ ?_ fs9 ?_)
 refine ⟨by omega, ?_⟩
 rw [take_succ hkl, List.all_append, hall, List.all_cons, hb]
 rfl
 exact zom9
 exact ks9
 try simp only [zcb9] at hc0
 obtain rfl : k = l.length := by omega
 refine TW.exit ?_
 refine TQ.thenX ?_
 refine TQ.thenX ?_
 refine TQ.blkX ?_
 refine TQ.thenN (hY2 _ _ ?_)
 refine TW.seq fun Y9 hY9 => TW.region ?_
 refine TL.p Pu.as ?_
 refine TL.nil (TQ.thenN (hY9 _ _ ?_))
 refine TW.ret ?_
 refine TQ.ret Tryz.results31 rfl ((.tmp rfl .nil)) ?_
 refine fun w hw => ⟨?_, Chg.ext hw.chg⟩
 rw [List.take_length] at hall
 rw [hall]
 rfl
set_option maxRecDepth 100000 in
theorem rowed_any {f : Nat → Int} (w : World) : CallsK Tryz.prog 24 #[.agg (rwL f).toArray] [] w (Option Addr × Nat) (fun x => .slice x.1 14 x.2) (fun x => [.own x.1 14 x.2 3 1 (iL (rowN f))]) := by
 refine K_enter (S := []) (K := []) Tryz.func24 rfl Tryz.ntmps24 rfl (Sat.start _) ?_
 refine TW.seq fun Y1 hY1 => TW.region ?_
 refine TL.m Mk.bx ?_
 intro b1
 refine TL.p Pu.as ?_
 refine TL.nil (TQ.thenN (hY1 _ _ ?_))
 refine TW.seq fun Y2 hY2 => TW.region ?_
 refine TL.p (by first | exact Pu.fb ty_fa63_0 | exact Pu.fe ty_fa63_0) ?_
 refine TL.p (by first | exact Pu.fb ty_fa61_0 | exact Pu.fe ty_fa61_0) ?_
 refine TL.p (Pu.ld ty_sc3) ?_
 refine TL.p (by first | exact Pu.fb ty_fa63_0 | exact Pu.fe ty_fa63_0) ?_
 refine TL.p (by first | exact Pu.fb ty_fa61_1 | exact Pu.fe ty_fa61_1) ?_
 refine TL.p (Pu.ld ty_sc3) ?_
 refine TL.p (by first | exact Pu.fb ty_fa63_1 | exact Pu.fe ty_fa63_1) ?_
 refine TL.p (by first | exact Pu.fb ty_fa61_0 | exact Pu.fe ty_fa61_0) ?_
 refine TL.p (Pu.ld ty_sc3) ?_
 refine TL.p (by first | exact Pu.fb ty_fa63_1 | exact Pu.fe ty_fa63_1) ?_
 refine TL.p (by first | exact Pu.fb ty_fa61_1 | exact Pu.fe ty_fa61_1) ?_
 refine TL.p (Pu.ld ty_sc3) ?_
 refine TL.p (by first | exact Pu.fb ty_fa63_2 | exact Pu.fe ty_fa63_2) ?_
 refine TL.p (by first | exact Pu.fb ty_fa61_0 | exact Pu.fe ty_fa61_0) ?_
 refine TL.p (Pu.ld ty_sc3) ?_
 refine TL.p (by first | exact Pu.fb ty_fa63_2 | exact Pu.fe ty_fa63_2) ?_
 refine TL.p (by first | exact Pu.fb ty_fa61_1 | exact Pu.fe ty_fa61_1) ?_
 refine TL.p (Pu.ld ty_sc3) ?_
 refine TL.p (by first | exact Pu.fb ty_fa63_3 | exact Pu.fe ty_fa63_3) ?_
 refine TL.p (by first | exact Pu.fb ty_fa61_0 | exact Pu.fe ty_fa61_0) ?_
 refine TL.p (Pu.ld ty_sc3) ?_
 refine TL.p (by first | exact Pu.fb ty_fa63_3 | exact Pu.fe ty_fa63_3) ?_
 refine TL.p (by first | exact Pu.fb ty_fa61_1 | exact Pu.fe ty_fa61_1) ?_
 refine TL.p (Pu.ld ty_sc3) ?_
 refine TL.p (by first | exact Pu.fb ty_fa63_4 | exact Pu.fe ty_fa63_4) ?_
 refine TL.p (by first | exact Pu.fb ty_fa61_0 | exact Pu.fe ty_fa61_0) ?_
 refine TL.p (Pu.ld ty_sc3) ?_
 refine TL.p (by first | exact Pu.fb ty_fa63_4 | exact Pu.fe ty_fa63_4) ?_
 refine TL.p (by first | exact Pu.fb ty_fa61_1 | exact Pu.fe ty_fa61_1) ?_
 refine TL.p (Pu.ld ty_sc3) ?_
 refine TL.p (by first | exact Pu.fb ty_fa63_5 | exact Pu.fe ty_fa63_5) ?_
 refine TL.p (by first | exact Pu.fb ty_fa61_0 | exact Pu.fe ty_fa61_0) ?_
 refine TL.p (Pu.ld ty_sc3) ?_
 refine TL.p (by first | exact Pu.fb ty_fa63_5 | exact Pu.fe ty_fa63_5) ?_
 refine TL.p (by first | exact Pu.fb ty_fa61_1 | exact Pu.fe ty_fa61_1) ?_
 refine TL.p (Pu.ld ty_sc3) ?_
 refine TL.p (by first | exact Pu.fb ty_fa63_6 | exact Pu.fe ty_fa63_6) ?_
 refine TL.p (by first | exact Pu.fb ty_fa61_0 | exact Pu.fe ty_fa61_0) ?_
 refine TL.p (Pu.ld ty_sc3) ?_
 refine TL.p (by first | exact Pu.fb ty_fa63_6 | exact Pu.fe ty_fa63_6) ?_
 refine TL.p (by first | exact Pu.fb ty_fa61_1 | exact Pu.fe ty_fa61_1) ?_
 refine TL.p (Pu.ld ty_sc3) ?_
 refine TL.m Mk.bl ?_
 intro b2
 refine TL.p Pu.as ?_
 refine TL.nil (TQ.thenN (hY2 _ _ ?_))
 refine TW.ret ?_
 refine TQ.ret Tryz.results24 rfl ((.tmp rfl .nil)) ?_
 exact fun w hw => ⟨(some ⟨b2, 0, none⟩, 14), rfl, hw.sub (KSub.ofBlk pk9 rfl (fun i hi => rfl) rfl rfl KSub.nil)⟩
set_option maxRecDepth 100000 in
theorem lettered_any {x : Ltr} (hk : 0 ≤ x.kind ∧ x.kind ≤ 255) (w : World) : CallsK Tryz.prog 25 #[.agg (ltL x).toArray] [] w (Option Addr × Nat) (fun y => .slice y.1 8 y.2) (fun y => [.own y.1 8 y.2 3 1 (iL (ltrN x))]) := by
 refine K_enter (S := []) (K := []) Tryz.func25 rfl Tryz.ntmps25 rfl (Sat.start _) ?_
 refine TW.seq fun Y1 hY1 => TW.region ?_
 refine TL.m Mk.bx ?_
 intro b1
 refine TL.p Pu.as ?_
 refine TL.nil (TQ.thenN (hY1 _ _ ?_))
 refine TW.seq fun Y2 hY2 => TW.region ?_
 refine TL.p Pu.as ?_
 refine TL.nil (TQ.thenN (hY2 _ _ ?_))
 refine TW.seq fun Y3 hY3 => ?_
 refine TW.seq fun Y4 hY4 => TW.region ?_
 refine TL.p (by first | exact Pu.fb ty_fa66_7 | exact Pu.fe ty_fa66_7) ?_
 refine TL.p (Pu.ld ty_sc4) ?_
 refine TL.nil (TQ.thenN (hY4 _ _ ?_))
 refine TW.cond rfl (fun hc0 => ?_) (fun hc0 => ?_)
 try simp only [zcb9] at hc0
 have hm : ltrN x = [x.id, x.day, x.kind, x.who, x.other, x.animal, x.rials, 1] := by unfold ltrN; rw [hc0]; rfl
 refine TW.region ?_
 refine TL.p Pu.as ?_
 refine TL.nil (TQ.thenN (hY3 _ _ ?_))
 refine TW.seq fun Y5 hY5 => TW.region ?_
 refine TL.p (by first | exact Pu.fb ty_fa66_0 | exact Pu.fe ty_fa66_0) ?_
 refine TL.p (Pu.ld ty_sc3) ?_
 refine TL.p (by first | exact Pu.fb ty_fa66_1 | exact Pu.fe ty_fa66_1) ?_
 refine TL.p (Pu.ld ty_sc3) ?_
 refine TL.p (by first | exact Pu.fb ty_fa66_2 | exact Pu.fe ty_fa66_2) ?_
 refine TL.p (Pu.ld ty_sc5) ?_
 refine TL.p (Pu.cv (v := .int .i64 x.kind) rfl (fun w => by go_simp; rw [IntWalk.i64_in x.kind (by omega)])) ?_
 refine TL.p (by first | exact Pu.fb ty_fa66_3 | exact Pu.fe ty_fa66_3) ?_
 refine TL.p (Pu.ld ty_sc3) ?_
 refine TL.p (by first | exact Pu.fb ty_fa66_4 | exact Pu.fe ty_fa66_4) ?_
 refine TL.p (Pu.ld ty_sc3) ?_
 refine TL.p (by first | exact Pu.fb ty_fa66_5 | exact Pu.fe ty_fa66_5) ?_
 refine TL.p (Pu.ld ty_sc3) ?_
 refine TL.p (by first | exact Pu.fb ty_fa66_6 | exact Pu.fe ty_fa66_6) ?_
 refine TL.p (Pu.ld ty_sc3) ?_
 refine TL.p Pu.mv ?_
 refine TL.m Mk.bl ?_
 intro b2
 refine TL.p Pu.as ?_
 refine TL.nil (TQ.thenN (hY5 _ _ ?_))
 refine TW.ret ?_
 refine TQ.ret Tryz.results25 rfl ((.tmp rfl .nil)) ?_
 exact fun w hw => ⟨(some ⟨b2, 0, none⟩, 8), rfl, by rw [hm]; exact hw.sub (KSub.ofBlk pk9 rfl (fun i hi => rfl) rfl rfl KSub.nil)⟩
 try simp only [zcb9] at hc0
 have hm : ltrN x = [x.id, x.day, x.kind, x.who, x.other, x.animal, x.rials, 0] := by unfold ltrN; rw [hc0]; rfl
 refine TW.skip ?_
 refine TQ.thenN (hY3 _ _ ?_)
 refine TW.seq fun Y6 hY6 => TW.region ?_
 refine TL.p (by first | exact Pu.fb ty_fa66_0 | exact Pu.fe ty_fa66_0) ?_
 refine TL.p (Pu.ld ty_sc3) ?_
 refine TL.p (by first | exact Pu.fb ty_fa66_1 | exact Pu.fe ty_fa66_1) ?_
 refine TL.p (Pu.ld ty_sc3) ?_
 refine TL.p (by first | exact Pu.fb ty_fa66_2 | exact Pu.fe ty_fa66_2) ?_
 refine TL.p (Pu.ld ty_sc5) ?_
 refine TL.p (Pu.cv (v := .int .i64 x.kind) rfl (fun w => by go_simp; rw [IntWalk.i64_in x.kind (by omega)])) ?_
 refine TL.p (by first | exact Pu.fb ty_fa66_3 | exact Pu.fe ty_fa66_3) ?_
 refine TL.p (Pu.ld ty_sc3) ?_
 refine TL.p (by first | exact Pu.fb ty_fa66_4 | exact Pu.fe ty_fa66_4) ?_
 refine TL.p (Pu.ld ty_sc3) ?_
 refine TL.p (by first | exact Pu.fb ty_fa66_5 | exact Pu.fe ty_fa66_5) ?_
 refine TL.p (Pu.ld ty_sc3) ?_
 refine TL.p (by first | exact Pu.fb ty_fa66_6 | exact Pu.fe ty_fa66_6) ?_
 refine TL.p (Pu.ld ty_sc3) ?_
 refine TL.p Pu.mv ?_
 refine TL.m Mk.bl ?_
 intro b3
 refine TL.p Pu.as ?_
 refine TL.nil (TQ.thenN (hY6 _ _ ?_))
 refine TW.ret ?_
 refine TQ.ret Tryz.results25 rfl ((.tmp rfl .nil)) ?_
 exact fun w hw => ⟨(some ⟨b3, 0, none⟩, 8), rfl, by rw [hm]; exact hw.sub (KSub.ofBlk pk9 rfl (fun i hi => rfl) rfl rfl KSub.nil)⟩
theorem row_len {f : Nat → Int} : (rowN f).length = 14 := by simp [rowN]
section
variable {R L : Option Addr} {nr cr nl cl : Nat} {f : Nat → Nat → Int} {g : Nat → Ltr} {w : World}
set_option maxRecDepth 100000 in
theorem book_any (hb : nr + nl ≤ 1000) (hR : RdR w 14 R nr (fun i => rwL (f i))) (hL : RdR w 8 L nl (fun i => ltL (g i))) (hk : ∀ i, i < nl → 0 ≤ (g i).kind ∧ (g i).kind ≤ 255) :
  Calls Tryz.prog 21 #[.agg #[.slice R nr cr, .slice L nl cl]] w (Ret w (.bool (bkOk f nr g nl))) := by
 refine K_enter (S := []) (K := []) Tryz.func21 rfl Tryz.ntmps21 rfl (Sat.start _) ?_
 refine TW.seq fun Y1 hY1 => TW.region ?_
 refine TL.m Mk.bx ?_
 intro b1
 refine TL.p Pu.as ?_
 refine TL.nil (TQ.thenN (hY1 _ _ ?_))
 refine TW.seq fun Y2 hY2 => ?_
 refine TW.seq fun Y3 hY3 => TW.region ?_
 refine TL.p (by first | exact Pu.fb ty_fa25_0 | exact Pu.fe ty_fa25_0) ?_
 refine TL.p (Pu.ld ty_sc22) ?_
 refine TL.p (Pu.ln Tryz.underlying22) ?_
 refine TL.p (by first | exact Pu.fb ty_fa25_1 | exact Pu.fe ty_fa25_1) ?_
 refine TL.p (Pu.ld ty_sc23) ?_
 refine TL.p (Pu.ln Tryz.underlying23) ?_
 refine TL.p Pu.ad ?_
 refine TL.p Pu.gt ?_
 refine TL.nil (TQ.thenN (hY3 _ _ ?_))
 refine TW.cond rfl (fun hc0 => ?_) (fun hc0 => ?_)
 try simp only [zcb9] at hc0
 have h3 : ¬ nr + nl ≤ 300 := by omega
 refine TW.seq fun Y4 hY4 => TW.region ?_
 refine TL.p Pu.as ?_
 refine TL.nil (TQ.thenN (hY4 _ _ ?_))
 refine TW.ret ?_
 refine TQ.thenR ?_
 refine TQ.ret Tryz.results21 rfl ((.tmp rfl .nil)) ?_
 refine fun w hw => ⟨?_, Chg.ext hw.chg⟩
 unfold bkOk
 rw [decide_eq_false h3, Bool.and_false]
 rfl
 try simp only [zcb9] at hc0
 have h3 : nr + nl ≤ 300 := by omega
 refine TW.skip ?_
 refine TQ.thenN (hY2 _ _ ?_)
 refine TW.seq fun Y5 hY5 => ?_
 refine TW.seq fun Y6 hY6 => TW.region ?_
 refine TL.p Pu.as ?_
 refine TL.nil (TQ.thenN (hY6 _ _ ?_))
 refine TW.block ?_
 refine TW.loop1 (fun (k : Nat) => [(3, .int .i64 (k : Int)), (1, .pointer (some ⟨b1, 0, none⟩))]) (fun k => [.blk b1 25 [.slice R nr cr, .slice L nl cl]]) (fun k => k ≤ nr ∧ pgOk (pgR f k) = true) (fun k => nr - k) 0 fs9 ?_ ?_ ?_
 exact ks9
 exact ⟨Nat.zero_le _, rfl⟩
 rintro k ⟨hkr, hall⟩ Z0 hZ0
 refine TW.seq fun Y7 hY7 => ?_
 refine TW.seq fun Y8 hY8 => TW.region ?_
 refine TL.p Pu.mv ?_
 refine TL.p (by first | exact Pu.fb ty_fa25_0 | exact Pu.fe ty_fa25_0) ?_
 refine TL.p (Pu.ld ty_sc22) ?_
 refine TL.p (Pu.ln Tryz.underlying22) ?_
 refine TL.p Pu.lt ?_
 refine TL.nil (TQ.thenN (hY8 _ _ ?_))
 refine TW.cond rfl (fun hc1 => ?_) (fun hc1 => ?_)
 try simp only [zcb9] at hc1
 have hkl : k < nr := by omega
 refine TW.skip ?_
 refine TQ.thenN (hY7 _ _ ?_)
 refine TW.seq fun Y9 hY9 => ?_
 refine TW.block ?_
 refine TW.seq fun Y10 hY10 => TW.region ?_
 refine TL.p (by first | exact Pu.fb ty_fa25_0 | exact Pu.fe ty_fa25_0) ?_
 refine TL.p (Pu.ld ty_sc22) ?_
 refine TL.p Pu.mv ?_
 refine TL.p (Pu.el ty_et22) ?_
 refine TL.p (Pu.lds ty_ag63) ?_
 refine TL.call (M := []) rfl (enters Tryz.func24 rfl rfl) (List.Perm.refl _) rfl (fun w hw => by
   exact rowed_any _) ?_
 rintro ⟨A2, c2⟩
 refine TL.cr rfl (enters Tryz.func31 rfl rfl) (fun w hw => by
   have h9 := OwnR.rdr (hw.own pk9)
   rw [← row_len (f := f k)] at h9
   have h8 := said_any (w := w) (cp := c2) (by rw [row_len]; decide) h9
   rw [row_len] at h8
   exact h8) ?_
 refine TL.p Pu.no ?_
 refine TL.nil (TQ.thenN (hY10 _ _ ?_))
 refine TW.cond rfl (fun hc2 => ?_) (fun hc2 => ?_)
 try simp only [zcb9] at hc2
 refine TW.seq fun Y11 hY11 => TW.region ?_
 refine TL.p Pu.as ?_
 refine TL.nil (TQ.thenN (hY11 _ _ ?_))
 refine TW.ret ?_
 refine TQ.blkR ?_
 refine TQ.thenR ?_
 refine TQ.thenR ?_
 refine TQ.blkR ?_
 refine TQ.thenR ?_
 refine TQ.ret Tryz.results21 rfl ((.tmp rfl .nil)) ?_
 refine fun w hw => ⟨?_, Chg.ext hw.chg⟩
 refine congrArg (fun b => Ending.returned (.bool b)) ?_
 unfold bkOk
 rw [pgOk_app, show pgOk (pgR f nr) = false from List.all_eq_false.2 ⟨(82, rowN (f k)), List.mem_map.2 ⟨k, List.mem_range.2 hkl, rfl⟩, by simpa using hc2⟩]
 rfl
 try simp only [zcb9] at hc2
 have hok : pgOk (pgR f (k + 1)) = true := by
  rw [pgR_succ, pgOk_app, hall]
  simp [pgOk]
  simpa using hc2
 refine TW.skip ?_
 refine TQ.blkN ?_
 refine TQ.thenN (hY9 _ _ ?_)
 refine TW.region ?_
 refine TL.p Pu.mv ?_
 refine TL.p Pu.ad ?_
 refine TL.p Pu.as ?_
 refine TL.nil ?_
 refine TQ.thenN (hZ0 (k + 1) _ _ ?_ ?_ fs9 ?_)
 exact ⟨by omega, hok⟩
 exact zom9
 exact ks9
 try simp only [zcb9] at hc1
 obtain rfl : nr = k := by omega
 refine TW.exit ?_
 refine TQ.thenX ?_
 refine TQ.thenX ?_
 refine TQ.blkX ?_
 refine TQ.thenN (hY5 _ _ ?_)
 refine TW.seq fun Y12 hY12 => ?_
 refine TW.seq fun Y13 hY13 => TW.region ?_
 refine TL.p Pu.as ?_
 refine TL.nil (TQ.thenN (hY13 _ _ ?_))
 refine TW.block ?_
 refine TW.loop1 (fun (k : Nat) => [(4, .int .i64 (k : Int)), (1, .pointer (some ⟨b1, 0, none⟩))]) (fun k => [.blk b1 25 [.slice R nr cr, .slice L nl cl]]) (fun k => k ≤ nl ∧ pgOk (pgL g k) = true) (fun k => nl - k) 0 fs9 ?_ ?_ ?_
 exact ks9
 exact ⟨Nat.zero_le _, rfl⟩
 rintro k ⟨hkr2, hall2⟩ Z1 hZ1
 refine TW.seq fun Y14 hY14 => ?_
 refine TW.seq fun Y15 hY15 => TW.region ?_
 refine TL.p Pu.mv ?_
 refine TL.p (by first | exact Pu.fb ty_fa25_1 | exact Pu.fe ty_fa25_1) ?_
 refine TL.p (Pu.ld ty_sc23) ?_
 refine TL.p (Pu.ln Tryz.underlying23) ?_
 refine TL.p Pu.lt ?_
 refine TL.nil (TQ.thenN (hY15 _ _ ?_))
 refine TW.cond rfl (fun hc3 => ?_) (fun hc3 => ?_)
 try simp only [zcb9] at hc3
 have hkl : k < nl := by omega
 refine TW.skip ?_
 refine TQ.thenN (hY14 _ _ ?_)
 refine TW.seq fun Y16 hY16 => ?_
 refine TW.block ?_
 refine TW.seq fun Y17 hY17 => TW.region ?_
 refine TL.p (by first | exact Pu.fb ty_fa25_1 | exact Pu.fe ty_fa25_1) ?_
 refine TL.p (Pu.ld ty_sc23) ?_
 refine TL.p Pu.mv ?_
 refine TL.p (Pu.el ty_et23) ?_
 refine TL.p (Pu.lds ty_ag66) ?_
 refine TL.call (M := []) rfl (enters Tryz.func25 rfl rfl) (List.Perm.refl _) rfl (fun w hw => by
   exact lettered_any (hk k hkl) _) ?_
 rintro ⟨A2, c2⟩
 refine TL.cr rfl (enters Tryz.func31 rfl rfl) (fun w hw => by
   exact said_any (l := ltrN (g k)) (cp := c2) (by show 8 ≤ 1000000000; decide) (OwnR.rdr (hw.own pk9))) ?_
 refine TL.p Pu.no ?_
 refine TL.nil (TQ.thenN (hY17 _ _ ?_))
 refine TW.cond rfl (fun hc4 => ?_) (fun hc4 => ?_)
 try simp only [zcb9] at hc4
 refine TW.seq fun Y18 hY18 => TW.region ?_
 refine TL.p Pu.as ?_
 refine TL.nil (TQ.thenN (hY18 _ _ ?_))
 refine TW.ret ?_
 refine TQ.blkR ?_
 refine TQ.thenR ?_
 refine TQ.thenR ?_
 refine TQ.blkR ?_
 refine TQ.thenR ?_
 refine TQ.ret Tryz.results21 rfl ((.tmp rfl .nil)) ?_
 refine fun w hw => ⟨?_, Chg.ext hw.chg⟩
 refine congrArg (fun b => Ending.returned (.bool b)) ?_
 unfold bkOk
 rw [pgOk_app, show pgOk (pgL g nl) = false from List.all_eq_false.2 ⟨(76, ltrN (g k)), List.mem_map.2 ⟨k, List.mem_range.2 hkl, rfl⟩, by simpa using hc4⟩, Bool.and_false]
 rfl
 try simp only [zcb9] at hc4
 have hok : pgOk (pgL g (k + 1)) = true := by
  rw [pgL_succ, pgOk_app, hall2]
  simp [pgOk]
  simpa using hc4
 refine TW.skip ?_
 refine TQ.blkN ?_
 refine TQ.thenN (hY16 _ _ ?_)
 refine TW.region ?_
 refine TL.p Pu.mv ?_
 refine TL.p Pu.ad ?_
 refine TL.p Pu.as ?_
 refine TL.nil ?_
 refine TQ.thenN (hZ1 (k + 1) _ _ ?_ ?_ fs9 ?_)
 exact ⟨by omega, hok⟩
 exact zom9
 exact ks9
 try simp only [zcb9] at hc3
 obtain rfl : nl = k := by omega
 refine TW.exit ?_
 refine TQ.thenX ?_
 refine TQ.thenX ?_
 refine TQ.blkX ?_
 refine TQ.thenN (hY12 _ _ ?_)
 refine TW.seq fun Y19 hY19 => TW.region ?_
 refine TL.p Pu.as ?_
 refine TL.nil (TQ.thenN (hY19 _ _ ?_))
 refine TW.ret ?_
 refine TQ.ret Tryz.results21 rfl ((.tmp rfl .nil)) ?_
 refine fun w hw => ⟨?_, Chg.ext hw.chg⟩
 unfold bkOk
 rw [pgOk_app, hall, hall2, decide_eq_true h3]
 rfl
theorem pgT_lenR {k : Nat} (h : pgOk (pgR f k) = true) : ∀ x, x ∈ pgT (pgR f k) → x.length ≤ 1000 := by
 intro x hx
 obtain ⟨p, hp, rfl⟩ := List.mem_map.1 hx
 obtain ⟨i, _, rfl⟩ := List.mem_map.1 hp
 exact pg_len (List.all_eq_true.1 h _ hp) (by rw [row_len]; exact Nat.le_refl _)
theorem pgT_lenL {k : Nat} (h : pgOk (pgL g k) = true) : ∀ x, x ∈ pgT (pgL g k) → x.length ≤ 1000 := by
 intro x hx
 obtain ⟨p, hp, rfl⟩ := List.mem_map.1 hx
 obtain ⟨i, _, rfl⟩ := List.mem_map.1 hp
 exact pg_len (List.all_eq_true.1 h _ hp) (by show 8 ≤ 14; decide)
theorem pgOk_takeR {k n : Nat} (h : pgOk (pgR f n) = true) (hk : k ≤ n) : pgOk (pgR f k) = true := by
 refine List.all_eq_true.2 fun p hp => ?_
 obtain ⟨i, hi, rfl⟩ := List.mem_map.1 hp
 exact List.all_eq_true.1 h _ (List.mem_map.2 ⟨i, List.mem_range.2 (by have := List.mem_range.1 hi; omega), rfl⟩)
theorem pgOk_takeL {k n : Nat} (h : pgOk (pgL g n) = true) (hk : k ≤ n) : pgOk (pgL g k) = true := by
 refine List.all_eq_true.2 fun p hp => ?_
 obtain ⟨i, hi, rfl⟩ := List.mem_map.1 hp
 exact List.all_eq_true.1 h _ (List.mem_map.2 ⟨i, List.mem_range.2 (by have := List.mem_range.1 hi; omega), rfl⟩)
theorem pg_rowOk {k n : Nat} (h : pgOk (pgR f n) = true) (hk : k < n) : (rowN (f k)).all wrB = true := List.all_eq_true.1 h (82, rowN (f k)) (List.mem_map.2 ⟨k, List.mem_range.2 hk, rfl⟩)
theorem pg_letOk {k n : Nat} (h : pgOk (pgL g n) = true) (hk : k < n) : (ltrN (g k)).all wrB = true := List.all_eq_true.1 h (76, ltrN (g k)) (List.mem_map.2 ⟨k, List.mem_range.2 hk, rfl⟩)
theorem twR_len {k : Nat} (h : pgOk (pgR f k) = true) (hk : k ≤ 300) : (twL [] (pgT (pgR f k))).length ≤ 306900 := by
 have h1 := tw_len (t := []) (pgT_lenR h)
 have h2 : (pgT (pgR f k)).length = k := by simp [pgT, pgR_len]
 rw [h2] at h1
 have h3 : k * (1000 + 23) ≤ 300 * (1000 + 23) := Nat.mul_le_mul_right _ hk
 simp only [List.length_nil] at h1
 omega
theorem twRL_len {n k : Nat} (h : pgOk (pgR f n) = true) (h9 : pgOk (pgL g k) = true) (hk : n + k ≤ 300) : (twL [] (pgT (pgR f n ++ pgL g k))).length ≤ 306900 := by
 have h0 : ∀ x, x ∈ pgT (pgR f n ++ pgL g k) → x.length ≤ 1000 := fun x hx => by
  rw [pgT_app] at hx
  rcases List.mem_append.1 hx with hx | hx
  · exact pgT_lenR h x hx
  · exact pgT_lenL h9 x hx
 have h1 := tw_len (t := []) h0
 have h2 : (pgT (pgR f n ++ pgL g k)).length = n + k := by simp [pgT, pgR_len, pgL_len]
 rw [h2] at h1
 have h3 : (n + k) * (1000 + 23) ≤ 300 * (1000 + 23) := Nat.mul_le_mul_right _ hk
 simp only [List.length_nil] at h1
 omega
theorem tw_pgR {k : Nat} : tyL (twL [] (pgT (pgR f k))) (phr [82] (rowN (f k))) = twL [] (pgT (pgR f (k + 1))) := by
 rw [pgR_succ, pgT_app]
 exact tw_snoc.symm
theorem tw_pgL {n k : Nat} : tyL (twL [] (pgT (pgR f n ++ pgL g k))) (phr [76] (ltrN (g k))) = twL [] (pgT (pgR f n ++ pgL g (k + 1))) := by
 rw [pgL_succ, ← List.append_assoc, pgT_app (l := pgR f n ++ pgL g k)]
 exact tw_snoc.symm
set_option maxRecDepth 100000 in
theorem refBookW_any (hb : nr + nl ≤ 1000) (hR : RdR w 14 R nr (fun i => rwL (f i))) (hL : RdR w 8 L nl (fun i => ltL (g i))) (hk : ∀ i, i < nl → 0 ≤ (g i).kind ∧ (g i).kind ≤ 255) :
  Calls Tryz.prog 8 #[.agg #[.slice R nr cr, .slice L nl cl]] w (Ret w (.tuple #[sv (bkW f nr g nl).1, .int .i64 (bkW f nr g nl).2])) := by
 refine K_enter (S := []) (K := []) Tryz.func8 rfl Tryz.ntmps8 rfl (Sat.start _) ?_
 refine TW.seq fun Y1 hY1 => TW.region ?_
 refine TL.m Mk.bx ?_
 intro b1
 refine TL.p Pu.as ?_
 refine TL.p Pu.as ?_
 refine TL.nil (TQ.thenN (hY1 _ _ ?_))
 refine TW.seq fun Y2 hY2 => ?_
 refine TW.seq fun Y3 hY3 => TW.region ?_
 refine TL.p (Pu.lds ty_ag25) ?_
 refine TL.cr rfl (enters Tryz.func21 rfl rfl) (fun w hw => by
   exact book_any hb (hR.sat hw Apart.nil) (hL.sat hw Apart.nil) hk) ?_
 refine TL.p Pu.no ?_
 refine TL.nil (TQ.thenN (hY3 _ _ ?_))
 refine TW.cond rfl (fun hc0 => ?_) (fun hc0 => ?_)
 try simp only [zcb9] at hc0
 refine TW.seq fun Y4 hY4 => TW.region ?_
 refine TL.p Pu.as ?_
 refine TL.p Pu.as ?_
 refine TL.nil (TQ.thenN (hY4 _ _ ?_))
 refine TW.ret ?_
 refine TQ.thenR ?_
 refine TQ.ret Tryz.results8 rfl ((.tmp rfl (.tmp rfl .nil))) ?_
 refine fun w hw => ⟨?_, Chg.ext hw.chg⟩
 unfold bkW
 rw [if_neg (by simpa using hc0)]
 rfl
 try simp only [zcb9] at hc0
 have hok : bkOk f nr g nl = true := by simpa using hc0
 have hok2 := hok
 unfold bkOk at hok2
 rw [pgOk_app, Bool.and_eq_true, Bool.and_eq_true, decide_eq_true_eq] at hok2
 obtain ⟨⟨ok1, ok2⟩, ok3⟩ := hok2
 refine TW.skip ?_
 refine TQ.thenN (hY2 _ _ ?_)
 refine TW.seq fun Y5 hY5 => TW.region ?_
 refine TL.p Pu.as ?_
 refine TL.nil (TQ.thenN (hY5 _ _ ?_))
 refine TW.seq fun Y6 hY6 => ?_
 refine TW.seq fun Y7 hY7 => TW.region ?_
 refine TL.p Pu.as ?_
 refine TL.nil (TQ.thenN (hY7 _ _ ?_))
 refine TW.block ?_
 refine TW.loop1 (fun (k : Nat) => [(5, .int .i64 (k : Int)), (4, sv (twL [] (pgT (pgR f k)))), (1, .pointer (some ⟨b1, 0, none⟩))]) (fun k => [.blk b1 25 [.slice R nr cr, .slice L nl cl]]) (fun k => k ≤ nr) (fun k => nr - k) 0 fs9 ?_ ?_ ?_
 exact ks9
 exact Nat.zero_le _
 rintro k hkr Z0 hZ0
 refine TW.seq fun Y8 hY8 => ?_
 refine TW.seq fun Y9 hY9 => TW.region ?_
 refine TL.p Pu.mv ?_
 refine TL.p (by first | exact Pu.fb ty_fa25_0 | exact Pu.fe ty_fa25_0) ?_
 refine TL.p (Pu.ld ty_sc22) ?_
 refine TL.p (Pu.ln Tryz.underlying22) ?_
 refine TL.p Pu.lt ?_
 refine TL.nil (TQ.thenN (hY9 _ _ ?_))
 refine TW.cond rfl (fun hc1 => ?_) (fun hc1 => ?_)
 try simp only [zcb9] at hc1
 have hkl : k < nr := by omega
 have l1 := twR_len (pgOk_takeR ok1 hkr) (by omega)
 have l2 := pg_len (p := (82, rowN (f k))) (pg_rowOk ok1 hkl) (by rw [row_len]; exact Nat.le_refl _)
 refine TW.skip ?_
 refine TQ.thenN (hY8 _ _ ?_)
 refine TW.seq fun Y10 hY10 => ?_
 refine TW.block ?_
 refine TW.region ?_
 refine TL.p Pu.mv ?_
 refine TL.p (by first | exact Pu.fb ty_fa25_0 | exact Pu.fe ty_fa25_0) ?_
 refine TL.p (Pu.ld ty_sc22) ?_
 refine TL.p Pu.mv ?_
 refine TL.p (Pu.el ty_et22) ?_
 refine TL.p (Pu.lds ty_ag63) ?_
 refine TL.call (M := []) rfl (enters Tryz.func24 rfl rfl) (List.Perm.refl _) rfl (fun w hw => by
   exact rowed_any _) ?_
 rintro ⟨A2, c2⟩
 refine TL.cr rfl (enters Tryz.func23 rfl rfl) (fun w hw => by
   have h9 := OwnR.rdr (hw.own pk9)
   rw [← row_len (f := f k)] at h9
   have h8 := line_any (w := w) (wd := [82]) (cp := c2) (by decide) (by rw [row_len]; decide) (pg_rowOk ok1 hkl) h9
   rw [row_len] at h8
   exact h8) ?_
 refine TL.cr rfl (enters Tryz.func22 rfl rfl) (fun w hw => by
   have h8 := tied_any (w := w) (t := twL [] (pgT (pgR f k))) (x := phr [82] (rowN (f k))) (by dsimp only at l2; omega)
   rw [tw_pgR] at h8
   exact h8) ?_
 refine TL.p Pu.as ?_
 refine TL.nil ?_
 refine TQ.blkN ?_
 refine TQ.thenN (hY10 _ _ ?_)
 refine TW.region ?_
 refine TL.p Pu.mv ?_
 refine TL.p Pu.ad ?_
 refine TL.p Pu.as ?_
 refine TL.nil ?_
 refine TQ.thenN (hZ0 (k + 1) _ _ ?_ ?_ fs9 ?_)
 exact (by omega)
 exact zom9
 exact ks9
 try simp only [zcb9] at hc1
 obtain rfl : nr = k := by omega
 refine TW.exit ?_
 refine TQ.thenX ?_
 refine TQ.thenX ?_
 refine TQ.blkX ?_
 refine TQ.thenN (hY6 _ _ ?_)
 refine TW.seq fun Y11 hY11 => ?_
 refine TW.seq fun Y12 hY12 => TW.region ?_
 refine TL.p Pu.as ?_
 refine TL.nil (TQ.thenN (hY12 _ _ ?_))
 refine TW.block ?_
 refine TW.loop1 (fun (k : Nat) => [(6, .int .i64 (k : Int)), (4, sv (twL [] (pgT (pgR f nr ++ pgL g k)))), (1, .pointer (some ⟨b1, 0, none⟩))]) (fun k => [.blk b1 25 [.slice R nr cr, .slice L nl cl]]) (fun k => k ≤ nl) (fun k => nl - k) 0 (by rw [show pgR f nr ++ pgL g 0 = pgR f nr from List.append_nil _]; repeat (first | exact trivial | refine ⟨rfl, ?_⟩ | refine ⟨trivial, ?_⟩)) ?_ ?_ ?_
 exact ks9
 exact Nat.zero_le _
 rintro k hkr2 Z1 hZ1
 refine TW.seq fun Y13 hY13 => ?_
 refine TW.seq fun Y14 hY14 => TW.region ?_
 refine TL.p Pu.mv ?_
 refine TL.p (by first | exact Pu.fb ty_fa25_1 | exact Pu.fe ty_fa25_1) ?_
 refine TL.p (Pu.ld ty_sc23) ?_
 refine TL.p (Pu.ln Tryz.underlying23) ?_
 refine TL.p Pu.lt ?_
 refine TL.nil (TQ.thenN (hY14 _ _ ?_))
 refine TW.cond rfl (fun hc2 => ?_) (fun hc2 => ?_)
 try simp only [zcb9] at hc2
 have hkl : k < nl := by omega
 have l1 := twRL_len ok1 (pgOk_takeL ok2 hkr2) (by omega)
 have l2 := pg_len (p := (76, ltrN (g k))) (pg_letOk ok2 hkl) (by show 8 ≤ 14; decide)
 refine TW.skip ?_
 refine TQ.thenN (hY13 _ _ ?_)
 refine TW.seq fun Y15 hY15 => ?_
 refine TW.block ?_
 refine TW.region ?_
 refine TL.p Pu.mv ?_
 refine TL.p (by first | exact Pu.fb ty_fa25_1 | exact Pu.fe ty_fa25_1) ?_
 refine TL.p (Pu.ld ty_sc23) ?_
 refine TL.p Pu.mv ?_
 refine TL.p (Pu.el ty_et23) ?_
 refine TL.p (Pu.lds ty_ag66) ?_
 refine TL.call (M := []) rfl (enters Tryz.func25 rfl rfl) (List.Perm.refl _) rfl (fun w hw => by
   exact lettered_any (hk k hkl) _) ?_
 rintro ⟨A2, c2⟩
 refine TL.cr rfl (enters Tryz.func23 rfl rfl) (fun w hw => by
   exact line_any (wd := [76]) (l := ltrN (g k)) (cp := c2) (by decide) (by show 8 ≤ 1000; decide) (pg_letOk ok2 hkl) (OwnR.rdr (hw.own pk9))) ?_
 refine TL.cr rfl (enters Tryz.func22 rfl rfl) (fun w hw => by
   have h8 := tied_any (w := w) (t := twL [] (pgT (pgR f nr ++ pgL g k))) (x := phr [76] (ltrN (g k))) (by dsimp only at l2; omega)
   rw [tw_pgL] at h8
   exact h8) ?_
 refine TL.p Pu.as ?_
 refine TL.nil ?_
 refine TQ.blkN ?_
 refine TQ.thenN (hY15 _ _ ?_)
 refine TW.region ?_
 refine TL.p Pu.mv ?_
 refine TL.p Pu.ad ?_
 refine TL.p Pu.as ?_
 refine TL.nil ?_
 refine TQ.thenN (hZ1 (k + 1) _ _ ?_ ?_ fs9 ?_)
 exact (by omega)
 exact zom9
 exact ks9
 try simp only [zcb9] at hc2
 obtain rfl : nl = k := by omega
 have l1 := twRL_len ok1 ok2 ok3
 refine TW.exit ?_
 refine TQ.thenX ?_
 refine TQ.thenX ?_
 refine TQ.blkX ?_
 refine TQ.thenN (hY11 _ _ ?_)
 refine TW.seq fun Y16 hY16 => TW.region ?_
 refine TL.p Pu.mv ?_
 refine TL.p (by first | exact Pu.fb ty_fa25_0 | exact Pu.fe ty_fa25_0) ?_
 refine TL.p (Pu.ld ty_sc22) ?_
 refine TL.p (Pu.ln Tryz.underlying22) ?_
 refine TL.p (by first | exact Pu.fb ty_fa25_1 | exact Pu.fe ty_fa25_1) ?_
 refine TL.p (Pu.ld ty_sc23) ?_
 refine TL.p (Pu.ln Tryz.underlying23) ?_
 refine TL.p Pu.ad ?_
 refine TL.cr rfl (enters Tryz.func26 rfl rfl) (fun w hw => by
   have h8 := ended_any (w := w) (t := twL [] (pgT (pgR f nr ++ pgL g nl))) (n := nr + nl) (by omega) (by omega)
   rw [show ((nr + nl : Nat) : Int) = (nr : Int) + nl by omega] at h8
   exact h8) ?_
 refine TL.p Pu.ex ?_
 refine TL.p Pu.ex ?_
 refine TL.p Pu.as ?_
 refine TL.p Pu.as ?_
 refine TL.nil (TQ.thenN (hY16 _ _ ?_))
 refine TW.ret ?_
 refine TQ.ret Tryz.results8 rfl ((.tmp rfl (.tmp rfl .nil))) ?_
 refine fun w hw => ⟨?_, Chg.ext hw.chg⟩
 unfold bkW
 rw [if_pos hok, outL_eq, txt_eq]
 have e : ((pgT (pgR f nr ++ pgL g nl)).length : Int) = (nr : Int) + nl := by
  have : (pgT (pgR f nr ++ pgL g nl)).length = nr + nl := by simp [pgT, pgR_len, pgL_len]
  omega
 rw [e]
 rfl
end
end Go.Proofs.YtehlbkmebaideaaGreatDoor
namespace Go.Proofs.YtehlbkmebaideaaGreatDoor
set_option linter.all false
set_option linter.unusedVariables false
set_option linter.unusedSimpArgs false
open Go.RowKit
section
variable {c : Cx} {F : Fr} {K K' : List Fact}
theorem TW.seqD {Q : Exit → Act → World → Prop} {x y : Code} (h : ∀ Y : Act → World → Prop, (∀ (c2 : Cx) (F : Fr) (K : List Fact), TW c2 y Q F K → (hP : c2.P = c.P := by rfl) → TQ c2 (fun _ => Y) .normal F K) → TW c x (Exit.then Y Q) F K) : TW c (.seq x y) Q F K := fun a w hF hK =>
 wp_seq (h (y.wp c.P Q) (fun c2 F K h hP a w h1 h2 => hP ▸ h a w h1 h2) a w hF hK)
end
end Go.Proofs.YtehlbkmebaideaaGreatDoor
namespace Go.Proofs.YtehlbkmebaideaaGreatDoor
set_option linter.all false
set_option linter.unusedVariables false
set_option linter.unusedSimpArgs false
open Go.RowKit
theorem rd_cells {w : World} {sz m : Nat} {p : Addr} {g : Nat → Nat → Value} (hz : 0 < sz) (hr : Rd w sz (some p) m g) : ∀ q u, (flat sz m g)[q]? = some u → w.cell? (p.add q) = some u := fun q u hq => by
 have hql : q < m * sz := by have := (List.getElem?_eq_some_iff.1 hq).1; rw [flat_length] at this; exact this
 have hm : 0 < m := by
   rcases Nat.eq_zero_or_pos m with rfl | h
   · simp at hql
   · exact h
 obtain ⟨b, off, e0, hlt, hc⟩ := hr hm
 injection e0 with e0
 subst e0
 have hi' : q / sz < m := Nat.div_lt_of_lt_mul (by rw [Nat.mul_comm]; exact hql)
 have hj' : q % sz < sz := Nat.mod_lt _ hz
 have e : q = q / sz * sz + q % sz := by rw [Nat.mul_comm]; exact (Nat.div_add_mod q sz).symm
 have h2 := flat_get (f := g) hi' hj'
 rw [← e, hq] at h2
 have h3 := hc _ _ hi' hj'
 rw [Nat.add_assoc, ← e, ← h2] at h3
 rw [← h3]
 unfold Addr.add
 by_cases hq0 : q = 0
 · subst hq0; rfl
 · rw [if_neg hq0]
theorem run_append_F {P : Program} {w : World} {t ty E : TypeId} {sz bytes : Nat} (T : ElemT P t E sz bytes) {A A2 : Option Addr} {n m c : Nat} {f g : Nat → Nat → Value} (hf : Rd w sz A n f) (hr : Rd w sz A2 m g) (h0 : 0 < m) (h1 : ∀ i j, i < m → j < sz → (g i j).oneCell' = true) (hm : n + m ≤ 1000000000) (hby : bytes ≤ 10000) :
  ∃ v' w', (Builtin.append_ #[t, t] ty #[.slice A n n, .slice A2 m c]).run P w = .ok v' w' ∧ Own w' 0 E sz v' (n + m) (cat n f g) ∧ w.grownBy w' none ∧ (∀ q, v'.ownBlock = some q → w.heap.size ≤ q) := by
 cases A with
 | none =>
  have hn : n = 0 := by
    rcases Nat.eq_zero_or_pos n with h | h
    · exact h
    · obtain ⟨b, off, e, _⟩ := hf h
      cases e
  subst hn
  have hown : Own w 0 E sz (.slice none 0 0) 0 f := ⟨by simp [flat], .inl ⟨rfl, rfl⟩⟩
  obtain ⟨v', w', h2, h3, h4, h5⟩ := run_append_R (ty := ty) T hown hr (fun _ => .inr trivial) h1 hm hby (Nat.zero_le _)
  refine ⟨v', w', h2, h3, h4, fun q hq => ?_⟩
  rcases h5 with h5 | h5
  · rw [h5] at hq; simp [Value.ownBlock] at hq
  · rw [h5] at hq; cases hq; exact Nat.le_refl _
 | some p =>
  obtain ⟨i, z, hi, hz, hs, hb, hzs⟩ := T.hi
  obtain ⟨b2, off, rfl, hlt, hc⟩ := hr h0
  obtain ⟨v', w', hrun, h2, h3⟩ := run_append_arg_grows (P := P) w t ty E i z sz bytes T.ht hi hz hs hb hzs T.pos p n n (flat sz n f) (flat_length _ _ _) (rd_cells T.pos hf) ⟨b2, off, none⟩ m c (flat sz m g) (flat_length _ _ _) (rd_cells T.pos hr) (by omega) (by simp only [maxLen]; omega) (Nat.le_trans (Nat.mul_le_mul hm hby) (by decide))
  have h4 : Own w' w.heap.size E sz v' (n + m) (cat n f g) := by
    unfold Own
    rw [flat_cat]
    exact h2
  refine ⟨v', w', hrun, ?_, h3, ?_⟩
  · rcases h4 with ⟨k1, k2⟩
    refine ⟨k1, ?_⟩
    rcases k2 with k2 | ⟨g', cap, cur, e, hge, rest⟩
    · exact .inl k2
    · exact .inr ⟨g', cap, cur, e, Nat.zero_le _, rest⟩
  · intro q hq
    rcases h4.2 with ⟨e, _⟩ | ⟨g', cap, cur, e, hge, _⟩
    · rw [e] at hq; simp [Value.ownBlock] at hq
    · rw [e] at hq; simp [Value.ownBlock] at hq; rw [← hq]; exact hge
section
variable {c : Cx} {Q : Exit → Act → World → Prop} {F F' : Fr} {K K' K0 : List Fact} {ops : Array Oper} {rest : List Oper} {d : Option Tmp} {ty : TypeId} {pos : String} {af : Array Edge} {g : Option (Nat × Bool)}
theorem TL.apF {x y : Operand} {t E : TypeId} {sz bytes : Nat} {A A2 : Option Addr} {n m cp2 : Nat} {r s : Nat → List Value} (T : ElemT c.P t E sz bytes) (h : ∀ A' cp', TL c ops Q rest (fput F d (.slice A' (n + m) cp')) (.own A' (n + m) cp' E sz (catR n r s) :: K)) (hx : ev F x = some (.slice A n n) := by rfl) (hy : ev F y = some (.slice A2 m cp2) := by rfl) (hd : dok d c.n = true := by rfl)
    (hs1 : Src c K sz A n r := by first | exact Src.old (by assumption) (by first | exact Apart.nil | assumption) | exact Src.own pk9) (hs2 : Src c K sz A2 m s := by first | exact Src.blk1 pk9 rfl | exact Src.old (by assumption) (by first | exact Apart.nil | assumption) | exact Src.own pk9)
    (h0 : 0 < m := by omega) (h1 : ∀ i, i < m → (s i).all Value.oneCell' = true := by first | (intro i hi; rfl) | assumption) (hm : n + m ≤ 1000000000 := by omega) (hby : bytes ≤ 10000 := by decide) :
    TL c ops Q (⟨d, .call { callee := .builtin .append, args := #[x, y], argTypes := #[t, t] }, ty, pos, af, none⟩ :: rest) F K := fun a w hF hK => by
  have hr := hs1 w hK
  have hq := hs2 w hK
  obtain ⟨v', w', hrun, hown, hg, hge⟩ := run_append_F (ty := ty) (c := cp2) T hr.rd hq.rd h0 (fun i j hi hj => by
    have := h1 i hi
    rw [List.all_eq_true] at this
    have hlen := hq.len i hi
    have e : rowF s i j = (s i)[j]'(by omega) := by simp [rowF, List.getD_eq_getElem?_getD, List.getElem?_eq_getElem (show j < (s i).length by omega)]
    rw [e]
    exact this _ (List.getElem_mem _)) hm hby
  refine wpList_plain rfl fun Z hZ => ?_
  unfold Oper.wp execOp
  simp only [resolve, invoke, builtin, Sem.run_bind, Sem.run_pure, Result.andThen_ok, List.map_toArray, List.map_cons, List.map_nil, hF.evl hx, hF.evl hy]
  rw [hrun]
  obtain ⟨A', cp', rfl, _, _, _⟩ := hown.form
  have hbe : Below w.heap.size w w' := (Below.refl _ _).grown hg (Nat.le_refl _) (fun k hk => by cases hk)
  have hnew : Sat [] w [.own A' (n + m) cp' E sz (catR n r s)] w' := by
    refine Sat.one (Chg.of_ext hbe) (by rw [own_foot]; cases (Value.slice A' (n + m) cp').ownBlock <;> simp) (fun q hq => .inr ?_) ⟨hown.congr fun i j hi hj => ?_, fun i hi => ?_⟩
    · rw [own_foot] at hq
      exact hge q (by cases e : (Value.slice A' (n + m) cp').ownBlock with
        | none => rw [e] at hq; cases hq
        | some b => rw [e] at hq; simp at hq; rw [hq])
    · simp only [cat, rowF, catR]; split <;> rfl
    · simp only [catR]; split
      · exact hr.len i ‹_›
      · exact hq.len _ (by omega)
  exact hZ _ _ (h A' cp' _ _ (hF.fput hd _) (hK.add hnew))
theorem Pu.s3 {T E : TypeId} {sz bytes : Nat} {x y z : Operand} {A : Option Addr} {n cp : Nat} {i j : Int} (hT : ElemT c.P T E sz bytes) (hx : ev F x = some (.slice A n cp) := by rfl) (hy : ev F y = some (.int .i64 i) := by rfl) (hz : ev F z = some (.int .i64 j) := by rfl) (h1 : i = n := by rfl) (h2 : j = n := by rfl) (h3 : n ≤ cp := by omega) : Pu c F K ⟨d, .slice T x none (some y) (some z), ty, pos, af, g⟩ (.slice A n n) := fun a w hF _ => by
 obtain ⟨i', z', hi, hz', hs, hb, hzs⟩ := hT.hi
 have hsz : (sizeOf E).run c.P w = .ok sz w := by simp [sizeOf, typeInfo, hi, hs]
 have hA : A.map (fun x => x.add 0) = A := by
  cases A with
  | none => rfl
  | some p => simp [Addr.add]
 subst h1 h2
 simp [execOp, Instr.sliceAt, Instr.slice, hF.evl hx, hF.evl hy, hF.evl hz, run_underlying hT.ht, Instr.sliceBounds, Instr.sliceBound, asIntOf, h3, hsz, hA]
end
end Go.Proofs.YtehlbkmebaideaaGreatDoor
namespace Go.Proofs.YtehlbkmebaideaaGreatDoor
set_option linter.all false
set_option linter.unusedVariables false
set_option linter.unusedSimpArgs false
open Go.RowKit
section
variable {c : Cx} {Q : Exit → Act → World → Prop} {F : Fr} {K K' K1 : List Fact} {ops : Array Oper} {rest : List Oper}
theorem OwnR.cap {w : World} {A : Option Addr} {n cp : Nat} {E : TypeId} {sz : Nat} {r : Nat → List Value} (h : OwnR w A n cp E sz r) : n ≤ cp := by
 obtain ⟨A', c', e, h1, _⟩ := h.own.form
 cases e
 exact h1
end
section
variable {c : Cx} {F : Fr} {K : List Fact} {d : Option Tmp} {ty xt yt : TypeId} {pos : String} {af : Array Edge} {g : Option (Nat × Bool)} {x y : Operand}
end
end Go.Proofs.YtehlbkmebaideaaGreatDoor
namespace Go.Proofs.YtehlbkmebaideaaGreatDoor
set_option linter.all false
set_option linter.unusedVariables false
set_option linter.unusedSimpArgs false
open Go.RowKit
theorem Pu.ap0 {c : Cx} {F : Fr} {K : List Fact} {d : Option Tmp} {ty : TypeId} {pos : String} {af : Array Edge} {g : Option (Nat × Bool)} {x y : Operand} {t E : TypeId} {sz bytes : Nat} {A A2 : Option Addr} {n cp cp2 : Nat} (T : ElemT c.P t E sz bytes) (hx : ev F x = some (.slice A n cp) := by rfl) (hy : ev F y = some (.slice A2 0 cp2) := by rfl) (hle : n ≤ cp := by omega) : Pu c F K ⟨d, .call { callee := .builtin .append, args := #[x, y], argTypes := #[t, t] }, ty, pos, af, g⟩ (.slice A n cp) := fun a w hF _ => by
 obtain ⟨i, z, hi, hz, hs, hb, hzs⟩ := T.hi
 cases A <;> cases A2 <;> simp [execOp, resolve, invoke, builtin, Builtin.append_, hF.evl hx, hF.evl hy, run_underlying T.ht, sizeOf, typeInfo, hi, hs, Builtin.lenOf, Builtin.firstCells, hle, storeCells, loadCells, loadCellsFrom]
set_option maxRecDepth 100000 in
theorem cloneStr_any {A : Option Addr} {n cp : Nat} {r : Nat → List Value} {w : World} (hn : n ≤ 1000000000) (hR : RdR w 1 A n r) (h1 : ∀ i, i < n → (r i).all Value.oneCell' = true) :
  CallsK Tryz.prog 68 #[.slice A n cp] [] w (Option Addr × Nat) (fun x => .slice x.1 n x.2) (fun x => [.own x.1 n x.2 9 1 r]) := by
 cases A with
 | none =>
  have h0 : n = 0 := by
   rcases Nat.eq_zero_or_pos n with h | h
   exact h
   obtain ⟨b, o, e, _⟩ := hR.rd h
   cases e
  subst h0
  refine K_enter (S := []) (K := []) Tryz.func68 rfl Tryz.ntmps68 rfl (Sat.start _) ?_
  refine TW.seq fun Y1 hY1 => TW.region ?_
  refine TL.p Pu.as ?_
  refine TL.nil (TQ.thenN (hY1 _ _ ?_))
  refine TW.seq fun Y2 hY2 => ?_
  refine TW.seq fun Y3 hY3 => TW.region ?_
  refine TL.p Pu.mv ?_
  refine TL.p Pu.bn ?_
  refine TL.nil (TQ.thenN (hY3 _ _ ?_))
  refine TW.condT rfl (rfl) ?_
  refine TW.seq fun Y4 hY4 => TW.region ?_
  refine TL.p Pu.as ?_
  refine TL.nil (TQ.thenN (hY4 _ _ ?_))
  refine TW.ret ?_
  refine TQ.thenR ?_
  refine TQ.ret Tryz.results68 rfl ((.tmp rfl .nil)) ?_
  exact fun w hw => ⟨(none, 0), rfl, hw.sub (KSub.nilOwn KSub.nil)⟩
 | some p =>
  refine K_enter (S := []) (K := []) Tryz.func68 rfl Tryz.ntmps68 rfl (Sat.start _) ?_
  refine TW.seq fun Y1 hY1 => TW.region ?_
  refine TL.p Pu.as ?_
  refine TL.nil (TQ.thenN (hY1 _ _ ?_))
  refine TW.seq fun Y2 hY2 => ?_
  refine TW.seq fun Y3 hY3 => TW.region ?_
  refine TL.p Pu.mv ?_
  refine TL.p Pu.bn ?_
  refine TL.nil (TQ.thenN (hY3 _ _ ?_))
  refine TW.condF rfl (rfl) ?_
  refine TW.skip ?_
  refine TQ.thenN (hY2 _ _ ?_)
  refine TW.seq fun Y4 hY4 => TW.region ?_
  refine TL.m Mk.bl ?_
  intro b1
  refine TL.p Pu.mv ?_
  refine TL.subK (KSub.ofBlk (n := 0) (sz := 1) (r := fun _ => []) Pick.hd rfl (fun _ h => by omega) rfl rfl KSub.nil) ?_
  first | refine TL.a0 ty_et51 ?_ | refine TL.ap ty_et51 ?_
  intro A2 c2
  refine TL.p Pu.as ?_
  refine TL.nil (TQ.thenN (hY4 _ _ ?_))
  refine TW.ret ?_
  refine TQ.ret Tryz.results68 rfl ((.tmp rfl .nil)) ?_
  exact fun w hw => ⟨(A2, c2), rfl, hw⟩
theorem clipStr_any {A : Option Addr} {n cp : Nat} (h : n ≤ cp) (w : World) : Calls Tryz.prog 67 #[.slice A n cp] w (Ret w (.slice A n n)) := by
 refine K_enter (S := []) (K := []) Tryz.func67 rfl Tryz.ntmps67 rfl (Sat.start _) ?_
 refine TW.seq fun Y1 hY1 => TW.region ?_
 refine TL.p Pu.as ?_
 refine TL.nil (TQ.thenN (hY1 _ _ ?_))
 refine TW.seq fun Y2 hY2 => TW.region ?_
 refine TL.p Pu.mv ?_
 refine TL.p Pu.mv ?_
 refine TL.p (Pu.ln Tryz.underlying51) ?_
 refine TL.p Pu.mv ?_
 refine TL.p (Pu.ln Tryz.underlying51) ?_
 refine TL.p (Pu.s3 ty_et51) ?_
 refine TL.p Pu.as ?_
 refine TL.nil (TQ.thenN (hY2 _ _ ?_))
 refine TW.ret ?_
 refine TQ.ret Tryz.results67 rfl ((.tmp rfl .nil)) ?_
 exact fun w hw => Ret.of hw
set_option maxRecDepth 100000 in
theorem andStr_any {A A2 : Option Addr} {n cp m cp2 : Nat} {r s : Nat → List Value} {w : World} (hn : n + m ≤ 1000000000) (hR : RdR w 1 A n r) (h1 : ∀ i, i < n → (r i).all Value.oneCell' = true) (hS : RdR w 1 A2 m s) (h2 : ∀ i, i < m → (s i).all Value.oneCell' = true) :
  CallsK Tryz.prog 47 #[.slice A n cp, .slice A2 m cp2] [] w (Option Addr × Nat × Nat) (fun y => .slice y.1 (n + m) y.2.1) (fun y => [.own y.1 (n + m) y.2.2 9 1 (catR n r s)]) := by
 rcases Nat.eq_zero_or_pos m with h0 | h0
 subst h0
 refine K_enter (S := []) (K := []) Tryz.func47 rfl Tryz.ntmps47 rfl (Sat.start _) ?_
 refine TW.seq fun Y1 hY1 => TW.region ?_
 refine TL.p Pu.as ?_
 refine TL.nil (TQ.thenN (hY1 _ _ ?_))
 refine TW.seq fun Y2 hY2 => TW.region ?_
 refine TL.p Pu.mv ?_
 refine TL.call (M := []) rfl (enters Tryz.func68 rfl rfl) (List.Perm.refl _) rfl (fun w hw => by
   exact cloneStr_any (by omega) (hR.sat hw Apart.nil) h1) ?_
 rintro ⟨A1, c1⟩
 refine TL.cr rfl (enters Tryz.func67 rfl rfl) (fun w hw => by
   have hle := OwnR.cap (hw.holds (.own A1 n c1 9 1 r) (Pick.mem pk9))
   exact clipStr_any hle _) ?_
 refine TL.p Pu.mv ?_
 refine TL.p (Pu.ap0 ty_et51) ?_
 refine TL.p Pu.as ?_
 refine TL.nil (TQ.thenN (hY2 _ _ ?_))
 refine TW.ret ?_
 refine TQ.ret Tryz.results47 rfl ((.tmp rfl .nil)) ?_
 exact fun w hw => ⟨(A1, n, c1), rfl, hw.sub (KSub.own pk9 (fun i hi => by simp only [catR]; rw [if_pos (by omega)]) KSub.nil)⟩
 have h9 := h0
 refine K_enter (S := []) (K := []) Tryz.func47 rfl Tryz.ntmps47 rfl (Sat.start _) ?_
 refine TW.seq fun Y1 hY1 => TW.region ?_
 refine TL.p Pu.as ?_
 refine TL.nil (TQ.thenN (hY1 _ _ ?_))
 refine TW.seq fun Y2 hY2 => TW.region ?_
 refine TL.p Pu.mv ?_
 refine TL.call (M := []) rfl (enters Tryz.func68 rfl rfl) (List.Perm.refl _) rfl (fun w hw => by
   exact cloneStr_any (by omega) (hR.sat hw Apart.nil) h1) ?_
 rintro ⟨A1, c1⟩
 refine TL.cr rfl (enters Tryz.func67 rfl rfl) (fun w hw => by
   have hle := OwnR.cap (hw.holds (.own A1 n c1 9 1 r) (Pick.mem pk9))
   exact clipStr_any hle _) ?_
 refine TL.p Pu.mv ?_
 refine TL.apF ty_et51 ?_
 intro A8 c8
 refine TL.p Pu.as ?_
 refine TL.nil (TQ.thenN (hY2 _ _ ?_))
 refine TW.ret ?_
 refine TQ.ret Tryz.results47 rfl ((.tmp rfl .nil)) ?_
 exact fun w hw => ⟨(A8, c8, c8), rfl, hw.sub (KSub.cons pk9 KSub.nil)⟩
end Go.Proofs.YtehlbkmebaideaaGreatDoor
