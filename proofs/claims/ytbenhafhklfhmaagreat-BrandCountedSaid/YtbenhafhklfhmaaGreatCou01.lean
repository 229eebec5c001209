/-
  The statement BrandCountedSaid: for every input the law BrandCounted returns true, and its arguments read afterwards as before. No condition.
-/
import Derived.Test.YtbenhafhklfhmaaGreatAl01
import Derived.Test.YtbenhafhklfhmaaGreatAl02
import Derived.Test.YtbenhafhklfhmaaGreatAl03
import Derived.Test.YtbenhafhklfhmaaGreatAl04
import Derived.Test.YtbenhafhklfhmaaGreatAl05
import Derived.Test.YtbenhafhklfhmaaGreatAl06
import Derived.Test.YtbenhafhklfhmaaGreatAl07
import Derived.Test.YtbenhafhklfhmaaGreatAl08
import Derived.Test.YtbenhafhklfhmaaGreatAl09
import Derived.Test.YtbenhafhklfhmaaGreatAl10
import Derived.Test.YtbenhafhklfhmaaGreatAl11
import Derived.Test.YtbenhafhklfhmaaGreatRows
import Derived.WalkKit
import Derived.WalkSpells
import Derived.WalkLawsBesides
import Derived.Deep.QuietTactic
import Derived.BigQuiet
import Derived.OrdersHeld
import Derived.Maps.AppendAt
import Derived.OwnWalk
import Derived.Lib.SliceRun
import Derived.RangeFuncNested
import Derived.RangeFuncBound
import Derived.RangeFuncCalls
import Derived.RangeFuncLeaves
import Derived.OwnWalkIn
import Derived.TacticsInMore
import Derived.LoopNIn
import Derived.LoopIn
import Derived.OrdersIn
import Derived.Deep.LoopGhost
import Derived.MapKept
import Derived.Carry
import Derived.Lib.AppendZerosOnto
import Derived.Laws.OwnMore
import Derived.Sort.Grow
import Derived.Deep.RegionHeld3
import Derived.BigRegion
import Derived.Deep.DeepMust
import Derived.ProofKit
import Derived.Deep.Slices
import Derived.Shelf.Small.Bits
import Derived.Shelf.Strconv.Itoa0
import Derived.Ground.SlsfProg
import Derived.Shelf.SlSortCmp.Insertion
import Derived.Ground.SlgmProg
import Derived.Shelf.SortM.Plain
import Derived.Shelf.SortM.SortNone
import Derived.Shelf.SlSortCmp.SiftDown1
import Derived.Shelf.SlSortCmp.HeapSort1
import Derived.Shelf.SlSortCmp.Insertion1
import Derived.Shelf.SlSortCmp.Median1
import Derived.Shelf.SlSortCmp.Pivot1
import Derived.Shelf.SlSortCmp.ReverseRange1
import Derived.Shelf.SlSortCmp.PartialInsertion1
import Derived.Shelf.SlSortCmp.PartitionEqual1
import Derived.Shelf.SlSortCmp.Partition1
import Derived.Shelf.SlSortCmp.Pdq1
import Derived.Shelf.SlSortCmp.Whole1
import Derived.Shelf.SlSortCmp.NoneTotal
import Derived.Test.YtbenhafhklfhmaaGreatProg
import Derived.IntWalk
import Derived.ChangeKeysEq
import Derived.OpenShut
namespace Go.Proofs.YtbenhafhklfhmaaGreat
set_option linter.all false
set_option linter.unusedVariables false
set_option linter.unusedSimpArgs false
open Go.RowKit
section
variable {c : Cx} {F : Fr} {K K' : List Fact} {d : Option Tmp} {ty : TypeId} {pos : String} {af : Array Edge} {g : Option (Nat × Bool)}
theorem Pu.nilC {x : Operand} {q : Option Addr} {vs : List Value} (hx : ev F x = some (.pointer q)) (hq : Cells c K q vs) : Pu c F K ⟨d, .nilCheck x, ty, pos, af, g⟩ (.pointer q) := fun a w hF hK => by
  obtain ⟨b, off, rfl, _⟩ := hq w hK
  simp only [execOp, hF.evl hx]
  rfl
section
variable {x y : Operand} {xt yt : TypeId} {i j : Int} {k : IntKind}
theorem Pu.mul (hx : ev F x = some (.int .i64 i)) (hy : ev F y = some (.int .i64 j)) (h : -9223372036854775808 ≤ i * j ∧ i * j ≤ 9223372036854775807) : Pu c F K ⟨d, .binOp .mul xt x y yt, ty, pos, af, g⟩ (.int .i64 (i * j)) :=
  Pu.arith hx hy (fun w => by rw [Op.intArith, IntWalk.i64_in _ h]; rfl) trivial
end
end
end Go.Proofs.YtbenhafhklfhmaaGreat
namespace Go.Proofs.YtbenhafhklfhmaaGreat
set_option linter.all false
set_option linter.unusedVariables false
set_option linter.unusedSimpArgs false
open Go.RowKit
section
variable {c : Cx} {Q : Exit → Act → World → Prop} {F F' : Fr} {K K' : List Fact} {ops : Array Oper} {rest : List Oper} {d : Option Tmp} {ty : TypeId} {pos : String} {af : Array Edge} {g : Option (Nat × Bool)} {nf k fuel : Nat} {pend : List (Nat × Oper)} {fl : List Fl} {listed : Array Bool} {bs : List Bool} {op : Op} {t : Nat}
theorem Pu.nc {x : Operand} {q : Option Addr} (hx : ev F x = some (.pointer q) := by rfl) {vs : List Value} (hq : CellsN c K q 0 vs := by first | exact CellsN.blk (by repeat (first | exact Pick.hd | apply Pick.tl)) (by repeat (first | exact SubL.nil | apply SubL.take | apply SubL.drop)) | exact CellsN.old (by assumption) (by first | exact Apart.nil | assumption) (by omega) (by repeat (first | exact SubL.nil | apply SubL.take | apply SubL.drop)) | exact CellsN.own (by repeat (first | exact Pick.hd | apply Pick.tl)) (by omega) (by repeat (first | exact SubL.nil | apply SubL.take | apply SubL.drop))) : Pu c F K ⟨d, .nilCheck x, ty, pos, af, g⟩ (.pointer q) := Pu.nilC hx hq.1
section
variable {x y : Operand} {xt yt : TypeId} {i j : Int} {kk : IntKind}
theorem Pu.ml (hx : ev F x = some (.int .i64 i) := by rfl) (hy : ev F y = some (.int .i64 j) := by rfl) (h : -9223372036854775808 ≤ i * j ∧ i * j ≤ 9223372036854775807 := by omega) : Pu c F K ⟨d, .binOp .mul xt x y yt, ty, pos, af, g⟩ (.int .i64 (i * j)) := Pu.mul hx hy h
end
end
end Go.Proofs.YtbenhafhklfhmaaGreat
namespace Go.Proofs.YtbenhafhklfhmaaGreat
set_option linter.all false
set_option linter.unusedVariables false
set_option linter.unusedSimpArgs false
open Go.RowKit
theorem ty_fa71_0 : FieldAt Tryz.prog 71 0 0 := fieldAt_of 0 0 36 2 Tryz.underlying71 (by kernel_rfl) ty_sz36 (by kernel_rfl)
theorem ty_fa71_1 : FieldAt Tryz.prog 71 1 2 := fieldAt_of 1 2 36 2 Tryz.underlying71 (by kernel_rfl) ty_sz36 (by kernel_rfl)
theorem ty_fa71_2 : FieldAt Tryz.prog 71 2 4 := fieldAt_of 2 4 36 2 Tryz.underlying71 (by kernel_rfl) ty_sz36 (by kernel_rfl)
theorem ty_fa71_4 : FieldAt Tryz.prog 71 4 8 := fieldAt_of 4 8 36 2 Tryz.underlying71 (by kernel_rfl) ty_sz36 (by kernel_rfl)
theorem ty_fa71_5 : FieldAt Tryz.prog 71 5 10 := fieldAt_of 5 10 36 2 Tryz.underlying71 (by kernel_rfl) ty_sz36 (by kernel_rfl)
theorem ty_fa71_6 : FieldAt Tryz.prog 71 6 12 := fieldAt_of 6 12 36 2 Tryz.underlying71 (by kernel_rfl) ty_sz36 (by kernel_rfl)
theorem ty_sc72 : Sc Tryz.prog 72 := fun w => by simp [isAgg, run_underlying Tryz.underlying72]
theorem ty_i73 : (Tryz.prog.info? 73).map (fun i => (i.zero, i.size, i.bytes)) = some (some (.agg #[.pointer none, .pointer none, .pointer none, .pointer none, .pointer none, .pointer none, .pointer none]), 7, 56) := by kernel_rfl
theorem ty_sz73 : Sz Tryz.prog 73 7 := fun w => by obtain ⟨i, h1, h2, h3, h4⟩ := info_parts ty_i73; simp [sizeOf, typeInfo, h1, h3]
theorem ty_zr73 : Zr Tryz.prog 73 [.pointer none, .pointer none, .pointer none, .pointer none, .pointer none, .pointer none, .pointer none] := ⟨.agg #[.pointer none, .pointer none, .pointer none, .pointer none, .pointer none, .pointer none, .pointer none], rfl, fun w => by obtain ⟨i, h1, h2, h3, h4⟩ := info_parts ty_i73; simp [zeroValue, typeInfo, h1, h2]⟩
theorem ty_ag73 : Ag Tryz.prog 73 7 := ⟨fun w => by simp [isAgg, run_underlying Tryz.underlying73], ty_sz73⟩
end Go.Proofs.YtbenhafhklfhmaaGreat
namespace Go.Proofs.YtbenhafhklfhmaaGreat
set_option linter.all false
set_option linter.unusedVariables false
set_option linter.unusedSimpArgs false
theorem Pu.iv {c : Cx} {F : Fr} {K : List Fact} {o : Oper} {a b : Int} {k : IntKind} (h : Pu c F K o (.int k a)) (e : a = b) : Pu c F K o (.int k b) := e ▸ h
end Go.Proofs.YtbenhafhklfhmaaGreat
namespace Go.Proofs.YtbenhafhklfhmaaGreat
set_option linter.all false
set_option linter.unusedVariables false
set_option linter.unusedSimpArgs false
theorem chB_bd {n : Nat} {u : Nat → Int} (h : U32b n u) (i : Nat) : 0 ≤ chB n u i ∧ chB n u i ≤ 4294967295 := by
 unfold chB
 split
 · next hi => exact h i hi
 · omega
section
variable {H : Hd} {t i : Nat} {d : Nat → Int} {dn : Nat → Bool}
end
end Go.Proofs.YtbenhafhklfhmaaGreat
namespace Go.Proofs.YtbenhafhklfhmaaGreat
set_option linter.all false
set_option linter.unusedVariables false
set_option linter.unusedSimpArgs false
theorem gl3 {r : Nat → Int} : growLo r 3 = r 0 + r 2 + r 4 - (r 7 + r 9 + r 11) := by
 simp only [growLo, Nat.mul_zero, Nat.zero_add, Nat.reduceMul, Nat.reduceAdd]
 omega
theorem gh3 {r : Nat → Int} : growHi r 3 = r 1 + r 3 + r 5 - (r 6 + r 8 + r 10) := by
 simp only [growHi, Nat.mul_zero, Nat.zero_add, Nat.reduceMul, Nat.reduceAdd]
 omega
structure RowN (r x : Nat → Int) (g : Int) : Prop where
 st : g = x 0 + x 1 + x 2 - (x 3 + x 4 + x 5)
 bd : ∀ k, k < 6 → r (2 * k) ≤ x k ∧ x k ≤ r (2 * k + 1)
theorem RowN.grow {r x : Nat → Int} {g : Int} (h : RowN r x g) : growLo r 3 ≤ g ∧ g ≤ growHi r 3 := by
 have h0 := h.bd 0 (by omega)
 have h1 := h.bd 1 (by omega)
 have h2 := h.bd 2 (by omega)
 have h3 := h.bd 3 (by omega)
 have h4 := h.bd 4 (by omega)
 have h5 := h.bd 5 (by omega)
 have h6 := h.st
 simp only [Nat.mul_zero, Nat.zero_add, Nat.reduceMul, Nat.reduceAdd] at h0 h1 h2 h3 h4 h5
 rw [gl3, gh3]
 omega
theorem part2 {a b c d g : Int} (h1 : a ≤ b) (h2 : c ≤ d) (h3 : a + c ≤ g) (h4 : g ≤ b + d) : ∃ u, (a ≤ u ∧ u ≤ b) ∧ (c ≤ g - u ∧ g - u ≤ d) := ⟨max a (g - d), by omega, by omega⟩
theorem rowN_of {r : Nat → Int} {g : Int} (h : ∀ k, k < 6 → r (2 * k) ≤ r (2 * k + 1)) (h1 : growLo r 3 ≤ g) (h2 : g ≤ growHi r 3) : ∃ x, RowN r x g := by
 rw [gl3] at h1
 rw [gh3] at h2
 have k0 := h 0 (by omega)
 have k1 := h 1 (by omega)
 have k2 := h 2 (by omega)
 have k3 := h 3 (by omega)
 have k4 := h 4 (by omega)
 have k5 := h 5 (by omega)
 simp only [Nat.mul_zero, Nat.zero_add, Nat.reduceMul, Nat.reduceAdd] at k0 k1 k2 k3 k4 k5
 obtain ⟨x0, a0, b0⟩ := part2 (a := r 0) (b := r 1) (c := r 2 + r 4 - (r 7 + r 9 + r 11)) (d := r 3 + r 5 - (r 6 + r 8 + r 10)) (g := g) k0 (by omega) (by omega) (by omega)
 obtain ⟨x1, a1, b1⟩ := part2 (a := r 2) (b := r 3) (c := r 4 - (r 7 + r 9 + r 11)) (d := r 5 - (r 6 + r 8 + r 10)) (g := g - x0) k1 (by omega) (by omega) (by omega)
 obtain ⟨x2, a2, b2⟩ := part2 (a := r 4) (b := r 5) (c := - (r 7 + r 9 + r 11)) (d := - (r 6 + r 8 + r 10)) (g := g - x0 - x1) k2 (by omega) (by omega) (by omega)
 obtain ⟨x3, a3, b3⟩ := part2 (a := r 6) (b := r 7) (c := r 8 + r 10) (d := r 9 + r 11) (g := -(g - x0 - x1 - x2)) k3 (by omega) (by omega) (by omega)
 obtain ⟨x4, a4, b4⟩ := part2 (a := r 8) (b := r 9) (c := r 10) (d := r 11) (g := -(g - x0 - x1 - x2) - x3) k4 (by omega) (by omega) (by omega)
 refine ⟨fun k => if k = 0 then x0 else if k = 1 then x1 else if k = 2 then x2 else if k = 3 then x3 else if k = 4 then x4 else -(g - x0 - x1 - x2) - x3 - x4, ?_, fun k hk => ?_⟩
 · simp; omega
 · rcases (by omega : k = 0 ∨ k = 1 ∨ k = 2 ∨ k = 3 ∨ k = 4 ∨ k = 5) with rfl | rfl | rfl | rfl | rfl | rfl <;> simp <;> omega
structure Fea (a b : Int) (n : Nat) (f x : Nat → Nat → Int) (y : Nat → Int) : Prop where
 y0 : a ≤ y 0 ∧ y 0 ≤ b
 rw_ : ∀ i, i < n → RowN (f i) (x i) (y (i + 1) - y i)
 cb : ∀ i, i < n → f i 12 ≤ y (i + 1) ∧ y (i + 1) ≤ f i 13
def InC (n : Nat) (c : Nat → Int × Int) (y : Nat → Int) : Prop := ∀ i, i ≤ n → (c i).1 ≤ y i ∧ y i ≤ (c i).2
section
variable {a b : Int} {n : Nat} {f x : Nat → Nat → Int} {y : Nat → Int} {c : Nat → Int × Int}
theorem Fea.inCnt (h : Fea a b n f x y) : InC n (cnt a b f) y := fun i hi => by
 induction i with
 | zero => exact h.y0
 | succ i ih =>
  have h1 := ih (by omega)
  have h2 := (h.rw_ i (by omega)).grow
  have h3 := h.cb i (by omega)
  simp only [cnt]
  omega
theorem Fea.inBack1 (h : Fea a b n f x y) (hc : InC n c y) {i : Nat} (hi : i < n) : InC n (back1 f c i) y := fun j hj => by
 have h1 := hc j hj
 have h2 := (h.rw_ i hi).grow
 have h3 := hc (i + 1) (by omega)
 unfold back1
 split
 · rename_i e; subst e; dsimp only; omega
 · exact h1
theorem Fea.inBacks (h : Fea a b n f x y) : ∀ (l : List Nat) (c : Nat → Int × Int), InC n c y → (∀ i ∈ l, i < n) → InC n (backs f c l) y
 | [], _, hc, _ => hc
 | i :: l, c, hc, hl => Fea.inBacks h l (back1 f c i) (h.inBack1 hc (hl i (by simp))) fun j hj => hl j (by simp [hj])
theorem Fea.inCounts (h : Fea a b n f x y) : InC n (counts a b f n) y := h.inBacks _ _ h.inCnt fun i hi => by simpa using hi
theorem Fea.inKnown (h : Fea a b n f x y) {i : Nat} (hi : i < n) : (∀ k, k < 6 → known f (counts a b f n) i (2 * k) ≤ x i k ∧ x i k ≤ known f (counts a b f n) i (2 * k + 1)) ∧ known f (counts a b f n) i 12 ≤ y (i + 1) ∧ y (i + 1) ≤ known f (counts a b f n) i 13 := by
 have hc := h.inCounts
 have h1 := hc i (by omega)
 have h2 := hc (i + 1) (by omega)
 have hr := h.rw_ i hi
 have b0 := hr.bd 0 (by omega)
 have b1 := hr.bd 1 (by omega)
 have b2 := hr.bd 2 (by omega)
 have b3 := hr.bd 3 (by omega)
 have b4 := hr.bd 4 (by omega)
 have b5 := hr.bd 5 (by omega)
 have hs := hr.st
 simp only [Nat.mul_zero, Nat.zero_add, Nat.reduceMul, Nat.reduceAdd] at b0 b1 b2 b3 b4 b5
 refine ⟨fun k hk => ?_, ?_⟩
 · rcases (by omega : k = 0 ∨ k = 1 ∨ k = 2 ∨ k = 3 ∨ k = 4 ∨ k = 5) with rfl | rfl | rfl | rfl | rfl | rfl <;> simp [known, overLo, overHi, gl3, gh3] <;> omega
 · simp [known]; omega
structure Cst (n : Nat) (f : Nat → Nat → Int) (c : Nat → Int × Int) : Prop where
 ne : ∀ i, i ≤ n → (c i).1 ≤ (c i).2
 fw : ∀ i, i < n → (c i).1 + growLo (f i) 3 ≤ (c (i + 1)).1 ∧ (c (i + 1)).2 ≤ (c i).2 + growHi (f i) 3
 bw : ∀ i, i < n → (c (i + 1)).1 - growHi (f i) 3 ≤ (c i).1 ∧ (c i).2 ≤ (c (i + 1)).2 - growLo (f i) 3
 cb : ∀ i, i < n → f i 12 ≤ (c (i + 1)).1 ∧ (c (i + 1)).2 ≤ f i 13
theorem grow_le {r : Nat → Int} (h : ∀ k, k < 6 → r (2 * k) ≤ r (2 * k + 1)) : growLo r 3 ≤ growHi r 3 := by
 have k0 := h 0 (by omega)
 have k1 := h 1 (by omega)
 have k2 := h 2 (by omega)
 have k3 := h 3 (by omega)
 have k4 := h 4 (by omega)
 have k5 := h 5 (by omega)
 simp only [Nat.mul_zero, Nat.zero_add, Nat.reduceMul, Nat.reduceAdd] at k0 k1 k2 k3 k4 k5
 rw [gl3, gh3]; omega
theorem back1_1 {i : Nat} : (back1 f c i i).1 = max (c i).1 ((c (i + 1)).1 - growHi (f i) 3) := by unfold back1; rw [if_pos rfl]
theorem back1_2 {i : Nat} : (back1 f c i i).2 = min (c i).2 ((c (i + 1)).2 - growLo (f i) 3) := by unfold back1; rw [if_pos rfl]
theorem back1_ne {i j : Nat} (h : j ≠ i) : back1 f c i j = c j := if_neg h
theorem back_inv (hr : ∀ i, i < n → ∀ k, k < 6 → f i (2 * k) ≤ f i (2 * k + 1)) (hn : ∀ i, i ≤ n → (cnt a b f i).1 ≤ (cnt a b f i).2) : ∀ p, p ≤ n →
    (∀ j, j ≤ n → (j + p < n + 0 ∨ j = n) → (backs f (cnt a b f) ((List.range n).reverse.take p) j) = cnt a b f j) ∧
    (∀ j, j ≤ n → (cnt a b f j).1 ≤ (backs f (cnt a b f) ((List.range n).reverse.take p) j).1 ∧ (backs f (cnt a b f) ((List.range n).reverse.take p) j).2 ≤ (cnt a b f j).2 ∧ (backs f (cnt a b f) ((List.range n).reverse.take p) j).1 ≤ (backs f (cnt a b f) ((List.range n).reverse.take p) j).2) ∧
    (∀ j, n ≤ j + p → j < n → (backs f (cnt a b f) ((List.range n).reverse.take p) j).1 + growLo (f j) 3 ≤ (backs f (cnt a b f) ((List.range n).reverse.take p) (j + 1)).1 ∧ (backs f (cnt a b f) ((List.range n).reverse.take p) (j + 1)).2 ≤ (backs f (cnt a b f) ((List.range n).reverse.take p) j).2 + growHi (f j) 3 ∧ (backs f (cnt a b f) ((List.range n).reverse.take p) (j + 1)).1 - growHi (f j) 3 ≤ (backs f (cnt a b f) ((List.range n).reverse.take p) j).1 ∧ (backs f (cnt a b f) ((List.range n).reverse.take p) j).2 ≤ (backs f (cnt a b f) ((List.range n).reverse.take p) (j + 1)).2 - growLo (f j) 3)
  | 0, _ => ⟨fun j _ _ => rfl, fun j hj => ⟨Int.le_refl _, Int.le_refl _, hn j hj⟩, fun j h1 h2 => by omega⟩
  | p + 1, hp => by
    obtain ⟨h1, h2, h3⟩ := back_inv hr hn p (by omega)
    have hl : (List.range n).reverse.take (p + 1) = (List.range n).reverse.take p ++ [n - 1 - p] := by
      rw [List.take_succ]
      congr 1
      rw [List.getElem?_reverse (by simp; omega)]
      simp [List.getElem?_range (show n - 1 - p < n by omega)]
    have e : backs f (cnt a b f) ((List.range n).reverse.take (p + 1)) = back1 f (backs f (cnt a b f) ((List.range n).reverse.take p)) (n - 1 - p) := by
      rw [hl]; simp [backs]
    rw [e]
    generalize backs f (cnt a b f) ((List.range n).reverse.take p) = C at h1 h2 h3
    have hx := hr (n - 1 - p) (by omega)
    have hg := grow_le hx
    have q1 := h1 (n - 1 - p) (by omega) (by omega)
    have q1a := congrArg Prod.fst q1
    have q1b := congrArg Prod.snd q1
    have q2 := h2 (n - 1 - p) (by omega)
    have q3 := h2 (n - 1 - p + 1) (by omega)
    have q4 : (cnt a b f (n - 1 - p)).1 + growLo (f (n - 1 - p)) 3 ≤ (cnt a b f (n - 1 - p + 1)).1 ∧ (cnt a b f (n - 1 - p + 1)).2 ≤ (cnt a b f (n - 1 - p)).2 + growHi (f (n - 1 - p)) 3 := by simp only [cnt]; omega
    have b1 := back1_1 (f := f) (c := C) (i := n - 1 - p)
    have b2 := back1_2 (f := f) (c := C) (i := n - 1 - p)
    have b3 : back1 f C (n - 1 - p) (n - 1 - p + 1) = C (n - 1 - p + 1) := back1_ne (by omega)
    refine ⟨fun j hj hh => ?_, fun j hj => ?_, fun j hj1 hj2 => ?_⟩
    · rw [back1_ne (by omega)]
      exact h1 j hj (by omega)
    · by_cases ej : j = n - 1 - p
      · rw [ej]; omega
      · rw [back1_ne ej]; exact h2 j hj
    · by_cases ej : j = n - 1 - p
      · rw [ej, b3]; omega
      · rw [back1_ne ej, back1_ne (by omega)]
        exact h3 j (by omega) hj2
theorem cst_counts (hr : ∀ i, i < n → ∀ k, k < 6 → f i (2 * k) ≤ f i (2 * k + 1)) (hn : ∀ i, i ≤ n → (cnt a b f i).1 ≤ (cnt a b f i).2) : Cst n f (counts a b f n) ∧ a ≤ (counts a b f n 0).1 ∧ (counts a b f n 0).2 ≤ b := by
 obtain ⟨h1, h2, h3⟩ := back_inv hr hn n (Nat.le_refl _)
 have e : (List.range n).reverse.take n = (List.range n).reverse := List.take_of_length_le (by simp)
 rw [e] at h1 h2 h3
 refine ⟨⟨fun i hi => (h2 i hi).2.2, fun i hi => ⟨(h3 i (by omega) hi).1, (h3 i (by omega) hi).2.1⟩, fun i hi => ⟨(h3 i (by omega) hi).2.2.1, (h3 i (by omega) hi).2.2.2⟩, fun i hi => ?_⟩, (h2 0 (by omega)).1, (h2 0 (by omega)).2.1⟩
 have h4 := h2 (i + 1) (by omega)
 have h5 : f i 12 ≤ (cnt a b f (i + 1)).1 ∧ (cnt a b f (i + 1)).2 ≤ f i 13 := by simp only [cnt]; omega
 unfold counts
 omega
def Stp (f : Nat → Nat → Int) (i : Nat) (u v : Int) : Prop := growLo (f i) 3 ≤ v - u ∧ v - u ≤ growHi (f i) 3
theorem ext_left (hr : ∀ i, i < n → ∀ k, k < 6 → f i (2 * k) ≤ f i (2 * k + 1)) (hc : Cst n f c) : ∀ (i : Nat) (v : Int), i ≤ n → (c i).1 ≤ v → v ≤ (c i).2 → ∃ y : Nat → Int, y i = v ∧ (∀ j, j ≤ i → (c j).1 ≤ y j ∧ y j ≤ (c j).2) ∧ ∀ j, j < i → Stp f j (y j) (y (j + 1))
  | 0, v, _, h1, h2 => ⟨fun _ => v, rfl, fun j hj => (show j = 0 by omega) ▸ ⟨h1, h2⟩, fun j hj => by omega⟩
  | i + 1, v, hi, h1, h2 => by
    have f1 := hc.fw i (by omega)
    have f2 := hc.bw i (by omega)
    have f3 := hc.ne i (by omega)
    have hg := grow_le (hr i (by omega))
    obtain ⟨y, e, hy, hs⟩ := ext_left hr hc i (max (c i).1 (v - growHi (f i) 3)) (by omega) (by omega) (by omega)
    refine ⟨fun j => if j ≤ i then y j else v, if_neg (by omega), fun j hj => ?_, fun j hj => ?_⟩
    · dsimp only
      by_cases e2 : j ≤ i
      · rw [if_pos e2]; exact hy j e2
      · rw [if_neg e2]
        obtain rfl : j = i + 1 := by omega
        exact ⟨h1, h2⟩
    · dsimp only
      rw [if_pos (by omega)]
      by_cases e2 : j + 1 ≤ i
      · rw [if_pos e2]; exact hs j (by omega)
      · obtain rfl : j = i := by omega
        rw [if_neg (by omega), e]
        unfold Stp; omega
theorem ext_right (hr : ∀ i, i < n → ∀ k, k < 6 → f i (2 * k) ≤ f i (2 * k + 1)) (hc : Cst n f c) : ∀ (m i : Nat) (v : Int), i + m = n → (c i).1 ≤ v → v ≤ (c i).2 → ∃ y : Nat → Int, y i = v ∧ (∀ j, i ≤ j → j ≤ n → (c j).1 ≤ y j ∧ y j ≤ (c j).2) ∧ ∀ j, i ≤ j → j < n → Stp f j (y j) (y (j + 1))
  | 0, i, v, hi, h1, h2 => ⟨fun _ => v, rfl, fun j hj hj2 => (show j = i by omega) ▸ ⟨h1, h2⟩, fun j hj hj2 => by omega⟩
  | m + 1, i, v, hi, h1, h2 => by
    have f1 := hc.fw i (by omega)
    have f2 := hc.bw i (by omega)
    have f3 := hc.ne (i + 1) (by omega)
    have hg := grow_le (hr i (by omega))
    obtain ⟨y, e, hy, hs⟩ := ext_right hr hc m (i + 1) (max (c (i + 1)).1 (v + growLo (f i) 3)) (by omega) (by omega) (by omega)
    refine ⟨fun j => if j ≤ i then v else y j, if_pos (Nat.le_refl _), fun j hj hj2 => ?_, fun j hj hj2 => ?_⟩
    · dsimp only
      by_cases e2 : j ≤ i
      · obtain rfl : j = i := by omega
        rw [if_pos e2]; exact ⟨h1, h2⟩
      · rw [if_neg e2]; exact hy j (by omega) hj2
    · dsimp only
      rw [if_neg (show ¬ j + 1 ≤ i by omega)]
      by_cases e2 : j ≤ i
      · obtain rfl : j = i := by omega
        rw [if_pos e2, e]
        unfold Stp; omega
      · rw [if_neg e2]; exact hs j (by omega) hj2
theorem ext_step {f' : Nat → Nat → Int} (hr : ∀ i, i < n → ∀ k, k < 6 → f i (2 * k) ≤ f i (2 * k + 1)) (hc : Cst n f c) {i : Nat} {u v : Int} (hi : i < n) (hu : (c i).1 ≤ u ∧ u ≤ (c i).2) (hv : (c (i + 1)).1 ≤ v ∧ v ≤ (c (i + 1)).2) (hs : Stp f' i u v) (hf : ∀ j, j < n → j ≠ i → f' j = f j) :
    ∃ y : Nat → Int, y i = u ∧ y (i + 1) = v ∧ (∀ j, j ≤ n → (c j).1 ≤ y j ∧ y j ≤ (c j).2) ∧ ∀ j, j < n → Stp f' j (y j) (y (j + 1)) := by
  obtain ⟨y1, e1, a1, b1⟩ := ext_left hr hc i u (by omega) hu.1 hu.2
  obtain ⟨y2, e2, a2, b2⟩ := ext_right hr hc (n - (i + 1)) (i + 1) v (by omega) hv.1 hv.2
  refine ⟨fun j => if j ≤ i then y1 j else y2 j, (if_pos (Nat.le_refl _)).trans e1, (if_neg (by omega)).trans e2, fun j hj => ?_, fun j hj => ?_⟩
  · dsimp only
    split
    · exact a1 j (by omega)
    · exact a2 j (by omega) hj
  · dsimp only
    by_cases h1 : j + 1 ≤ i
    · rw [if_pos (show j ≤ i by omega), if_pos h1]
      have := b1 j (by omega)
      unfold Stp at this ⊢
      rw [hf j hj (by omega)]; exact this
    · by_cases h2 : j = i
      · subst h2; rw [if_pos (Nat.le_refl _), if_neg h1, e1, e2]; exact hs
      · rw [if_neg (show ¬ j ≤ i by omega), if_neg h1]
        have := b2 j (by omega) hj
        unfold Stp at this ⊢
        rw [hf j hj h2]; exact this
theorem fea_of (hr : ∀ i, i < n → ∀ k, k < 6 → f i (2 * k) ≤ f i (2 * k + 1)) (h0 : a ≤ y 0 ∧ y 0 ≤ b) (hs : ∀ j, j < n → Stp f j (y j) (y (j + 1))) (hcb : ∀ i, i < n → f i 12 ≤ y (i + 1) ∧ y (i + 1) ≤ f i 13) : ∃ x, Fea a b n f x y := by
 have key : ∀ i, ∃ x, i < n → RowN (f i) x (y (i + 1) - y i) := fun i => by
  by_cases hi : i < n
  · obtain ⟨x, hx⟩ := rowN_of (hr i hi) (hs i hi).1 (hs i hi).2
    exact ⟨x, fun _ => hx⟩
  · exact ⟨fun _ => 0, fun h => absurd h hi⟩
 exact ⟨fun i => (key i).choose, h0, fun i hi => (key i).choose_spec hi, hcb⟩
def setF (f : Nat → Nat → Int) (i k : Nat) (lo hi : Int) : Nat → Nat → Int := fun j q => if j = i ∧ q = 2 * k then lo else if j = i ∧ q = 2 * k + 1 then hi else f j q
theorem setF_ne {i k j : Nat} {lo hi : Int} (h : j ≠ i) : setF f i k lo hi j = f j := by
 funext q; unfold setF; rw [if_neg (fun e => h e.1), if_neg (fun e => h e.1)]
theorem setF_lo {i k : Nat} {lo hi : Int} : setF f i k lo hi i (2 * k) = lo := by unfold setF; rw [if_pos ⟨rfl, rfl⟩]
theorem setF_hi {i k : Nat} {lo hi : Int} : setF f i k lo hi i (2 * k + 1) = hi := by unfold setF; rw [if_neg (by omega), if_pos ⟨rfl, rfl⟩]
theorem setF_oth {i k q : Nat} {lo hi : Int} (h : q / 2 ≠ k) : setF f i k lo hi i q = f i q := by unfold setF; rw [if_neg (by omega), if_neg (by omega)]
theorem setF_gl {i k : Nat} {lo hi : Int} (hk : k < 6) : growLo (setF f i k lo hi i) 3 = growLo (f i) 3 + (if k < 3 then lo - f i (2 * k) else f i (2 * k + 1) - hi) ∧ growHi (setF f i k lo hi i) 3 = growHi (f i) 3 + (if k < 3 then hi - f i (2 * k + 1) else f i (2 * k) - lo) := by
 rcases (by omega : k = 0 ∨ k = 1 ∨ k = 2 ∨ k = 3 ∨ k = 4 ∨ k = 5) with rfl | rfl | rfl | rfl | rfl | rfl <;> simp [gl3, gh3, setF] <;> omega
theorem reach (hr : ∀ i, i < n → ∀ k, k < 6 → f i (2 * k) ≤ f i (2 * k + 1)) (hn : ∀ i, i ≤ n → (cnt a b f i).1 ≤ (cnt a b f i).2) {i k : Nat} (hi : i < n) (hk : k < 7) {v : Int} (hv : v = known f (counts a b f n) i (2 * k) ∨ v = known f (counts a b f n) i (2 * k + 1)) :
    (f i (2 * k) ≤ v ∧ v ≤ f i (2 * k + 1)) ∧ ∃ x y, Fea a b n (setF f i k v v) x y := by
  obtain ⟨hc, h0a, h0b⟩ := cst_counts hr hn
  have hcb := hc.cb
  generalize hcd : counts a b f n = c at hc h0a h0b hv hcb
  have c1 := hc.ne i (by omega)
  have c2 := hc.ne (i + 1) (by omega)
  have c3 := hc.fw i hi
  have c4 := hc.bw i hi
  have c5 := hcb i hi
  have hri := hr i hi
  have hgl := grow_le hri
  have hr' : ∀ (lo hi' : Int), lo ≤ hi' → ∀ j, j < n → ∀ q, q < 6 → setF f i k lo hi' j (2 * q) ≤ setF f i k lo hi' j (2 * q + 1) := fun lo hi' hle j hj q hq => by
    by_cases e : j = i
    · subst e
      by_cases e2 : q = k
      · subst e2; rw [setF_lo, setF_hi]; exact hle
      · rw [setF_oth (by omega), setF_oth (by omega)]; exact hr j hj q hq
    · rw [setF_ne e]; exact hr j hj q hq
  by_cases h6 : k = 6
  · subst h6
    have hv' : (c (i + 1)).1 ≤ v ∧ v ≤ (c (i + 1)).2 := by rcases hv with rfl | rfl <;> simp [known] <;> omega
    refine ⟨by simp only [Nat.reduceMul, Nat.reduceAdd]; omega, ?_⟩
    have hgg : growLo (setF f i 6 v v i) 3 = growLo (f i) 3 ∧ growHi (setF f i 6 v v i) 3 = growHi (f i) 3 := by simp [gl3, gh3, setF]
    obtain ⟨u, hu1, hu2⟩ : ∃ u, ((c i).1 ≤ u ∧ u ≤ (c i).2) ∧ Stp (setF f i 6 v v) i u v := ⟨max (c i).1 (v - growHi (f i) 3), by omega, by unfold Stp; rw [hgg.1, hgg.2]; omega⟩
    obtain ⟨y, e1, e2, hy, hs⟩ := ext_step (f' := setF f i 6 v v) hr hc hi hu1 hv' hu2 fun j _ h => setF_ne h
    have h00 := hy 0 (by omega)
    obtain ⟨x, hx⟩ := fea_of (a := a) (b := b) (f := setF f i 6 v v) (y := y) (hr' v v (Int.le_refl _)) (by omega) hs fun j hj => by
      by_cases e : j = i
      · subst e
        have q1 : setF f j 6 v v j 12 = v := setF_lo (k := 6)
        have q2 : setF f j 6 v v j 13 = v := setF_hi (k := 6)
        rw [q1, q2, e2]; omega
      · rw [setF_ne e]
        have := hcb j hj
        have := hy (j + 1) (by omega)
        omega
    exact ⟨x, y, hx⟩
  · have hk6 : k < 6 := by omega
    have hkk := hri k hk6
    obtain ⟨g1, g2⟩ := setF_gl (f := f) (i := i) (lo := v) (hi := v) hk6
    have hbd : (f i (2 * k) ≤ v ∧ v ≤ f i (2 * k + 1)) ∧ (c (i + 1)).1 - (c i).2 ≤ growHi (setF f i k v v i) 3 ∧ growLo (setF f i k v v i) 3 ≤ (c (i + 1)).2 - (c i).1 ∧ growLo (setF f i k v v i) 3 ≤ growHi (setF f i k v v i) 3 := by
      rw [g1, g2]
      have o1 : (growHi (f i) 3 - (f i (2 * k + 1) - f i (2 * k))) - growLo (f i) 3 ≥ 0 := by
        have k0 := hri 0 (by omega)
        have k1 := hri 1 (by omega)
        have k2 := hri 2 (by omega)
        have k3 := hri 3 (by omega)
        have k4 := hri 4 (by omega)
        have k5 := hri 5 (by omega)
        simp only [Nat.mul_zero, Nat.zero_add, Nat.reduceMul, Nat.reduceAdd] at k0 k1 k2 k3 k4 k5
        rw [gl3, gh3]
        rcases (by omega : k = 0 ∨ k = 1 ∨ k = 2 ∨ k = 3 ∨ k = 4 ∨ k = 5) with rfl | rfl | rfl | rfl | rfl | rfl <;> simp <;> omega
      have o2 : ∀ j, j < 12 → j ≠ 12 ∧ j ≠ 13 := fun j h => ⟨by omega, by omega⟩
      by_cases h3 : k < 3
      · rw [if_pos h3, if_pos h3]
        have e1 : known f c i (2 * k) = max (f i (2 * k)) (overLo f c i + f i (2 * k + 1)) := by
          unfold known
          rw [if_neg (by omega), if_neg (by omega), if_pos (by omega), if_pos (by omega)]
        have e2 : known f c i (2 * k + 1) = min (f i (2 * k + 1)) (overHi f c i + f i (2 * k)) := by
          unfold known
          rw [if_neg (by omega), if_neg (by omega), if_pos (by omega), if_neg (by omega), show 2 * k + 1 - 1 = 2 * k by omega]
        rw [e1, e2] at hv
        unfold overLo overHi at hv
        rcases hv with hv | hv <;> omega
      · rw [if_neg h3, if_neg h3]
        have e1 : known f c i (2 * k) = max (f i (2 * k)) (f i (2 * k + 1) - overHi f c i) := by
          unfold known
          rw [if_neg (by omega), if_neg (by omega), if_neg (by omega), if_pos (by omega)]
        have e2 : known f c i (2 * k + 1) = min (f i (2 * k + 1)) (f i (2 * k) - overLo f c i) := by
          unfold known
          rw [if_neg (by omega), if_neg (by omega), if_neg (by omega), if_neg (by omega), show 2 * k + 1 - 1 = 2 * k by omega]
        rw [e1, e2] at hv
        unfold overLo overHi at hv
        rcases hv with hv | hv <;> omega
    obtain ⟨hb1, hb2, hb3, hb4⟩ := hbd
    refine ⟨hb1, ?_⟩
    obtain ⟨u, w, hu, hw, hs⟩ : ∃ u w, ((c i).1 ≤ u ∧ u ≤ (c i).2) ∧ ((c (i + 1)).1 ≤ w ∧ w ≤ (c (i + 1)).2) ∧ Stp (setF f i k v v) i u w := by
      unfold Stp
      generalize growLo (setF f i k v v i) 3 = gl at *
      generalize growHi (setF f i k v v i) 3 = gh at *
      by_cases h1 : (c (i + 1)).1 - (c i).2 ≥ gl
      · exact ⟨(c i).2, (c (i + 1)).1, by omega, by omega, by omega⟩
      · by_cases h2 : (c i).2 + gl ≤ (c (i + 1)).2
        · exact ⟨(c i).2, (c i).2 + gl, by omega, by omega, by omega⟩
        · exact ⟨(c (i + 1)).2 - gl, (c (i + 1)).2, by omega, by omega, by omega⟩
    obtain ⟨y, e1, e2, hy, hs2⟩ := ext_step (f' := setF f i k v v) hr hc hi hu hw hs fun j _ h => setF_ne h
    have h00 := hy 0 (by omega)
    obtain ⟨x, hx⟩ := fea_of (a := a) (b := b) (f := setF f i k v v) (y := y) (hr' v v (Int.le_refl _)) (by omega) hs2 fun j hj => by
      have q1 := hcb j hj
      have q2 := hy (j + 1) (by omega)
      by_cases e : j = i
      · subst e
        rw [setF_oth (by omega), setF_oth (by omega)]; omega
      · rw [setF_ne e]; omega
    exact ⟨x, y, hx⟩
theorem tErr_fea (hs : spanB a b = true) (h40 : n ≤ 40) (hok : ∀ i, i < n → rowOk (f i) = true) : tErr a b n f = none ↔ ∃ x y, Fea a b n f x y := by
 have hr : ∀ i, i < n → ∀ k, k < 6 → f i (2 * k) ≤ f i (2 * k + 1) := fun i hi k hk => (rowOk_iff.1 (hok i hi) k (by omega)).1
 unfold tErr
 rw [if_neg (by simp [hs]), if_neg (by omega), firstNot_none hok]
 dsimp only
 constructor
 · intro h
   have hn : ∀ i, i < n → decide ((cnt a b f (i + 1)).1 ≤ (cnt a b f (i + 1)).2) = true := fun i hi => by
    cases hq : decide ((cnt a b f (i + 1)).1 ≤ (cnt a b f (i + 1)).2) with
    | true => rfl
    | false =>
     have hne : ∃ k, firstNot n (fun i => decide ((cnt a b f (i + 1)).1 ≤ (cnt a b f (i + 1)).2)) = some k := by
      unfold firstNot
      cases hf : (List.range n).find? fun i => !decide ((cnt a b f (i + 1)).1 ≤ (cnt a b f (i + 1)).2) with
      | some k => exact ⟨k, rfl⟩
      | none =>
       rw [List.find?_range_eq_none] at hf
       have := hf i hi
       rw [hq] at this; cases this
     obtain ⟨k, hk⟩ := hne
     rw [hk] at h; cases h
   have hn2 : ∀ i, i ≤ n → (cnt a b f i).1 ≤ (cnt a b f i).2 := fun i hi => by
    cases i with
    | zero => exact (spanB_iff.1 hs).1
    | succ i => exact of_decide_eq_true (hn i (by omega))
   obtain ⟨hc, h0a, h0b⟩ := cst_counts hr hn2
   have c0 := hc.ne 0 (by omega)
   obtain ⟨y, e, hy, hst⟩ := ext_right hr hc n 0 (counts a b f n 0).1 (by omega) (Int.le_refl _) c0
   obtain ⟨x, hx⟩ := fea_of (a := a) (b := b) (f := f) (y := y) hr (by omega) (fun j hj => hst j (by omega) hj) fun j hj => by
    have q1 := hc.cb j hj
    have q2 := hy (j + 1) (by omega) (by omega)
    omega
   exact ⟨x, y, hx⟩
 · rintro ⟨x, y, h⟩
   have hc := h.inCnt
   rw [firstNot_none fun i hi => by
    have := hc (i + 1) (by omega)
    exact decide_eq_true (by omega)]
theorem Fea.wider {f' : Nat → Nat → Int} (h : Fea a b n f' x y) (hw : ∀ i, i < n → ∀ k, k < 7 → f i (2 * k) ≤ f' i (2 * k) ∧ f' i (2 * k + 1) ≤ f i (2 * k + 1)) : Fea a b n f x y :=
 ⟨h.y0, fun i hi => ⟨(h.rw_ i hi).st, fun k hk => by
  have h1 := (h.rw_ i hi).bd k hk
  have h2 := hw i hi k (by omega)
  omega⟩, fun i hi => by
  have h1 := h.cb i hi
  have h2 := hw i hi 6 (by omega)
  simp only [Nat.reduceMul, Nat.reduceAdd] at h2
  omega⟩
end
end Go.Proofs.YtbenhafhklfhmaaGreat
namespace Go.Proofs.YtbenhafhklfhmaaGreat
set_option linter.all false
set_option linter.unusedVariables false
set_option linter.unusedSimpArgs false
section
variable {a b : Int} {n : Nat} {f : Nat → Nat → Int}
def cOk (a b : Int) (f : Nat → Nat → Int) (i : Nat) : Bool := decide ((cnt a b f (i + 1)).1 ≤ (cnt a b f (i + 1)).2)
theorem tErr_rgt (hs : spanB a b = true) (h40 : n ≤ 40) (hok : ∀ i, i < n → rowOk (f i) = true) : tErr a b n f = match firstNot n (cOk a b f) with
    | some i => some (i, 25)
    | none => none := by
  unfold tErr
  rw [if_neg (by simp [hs]), if_neg (by omega), firstNot_none hok]
  rfl
theorem firstNot_is {p : Nat → Bool} : (∃ i, i < n ∧ firstNot n p = some i ∧ p i = false ∧ ∀ j, j < i → p j = true) ∨ (firstNot n p = none ∧ ∀ j, j < n → p j = true) := by
 unfold firstNot
 cases h : (List.range n).find? fun i => !p i with
 | none =>
  rw [List.find?_range_eq_none] at h
  exact .inr ⟨rfl, fun j hj => by simpa using h j hj⟩
 | some i =>
  rw [List.find?_range_eq_some] at h
  exact .inl ⟨i, by simpa using h.2.1, rfl, by simpa using h.1, fun j hj => by simpa using h.2.2 j hj⟩
structure ReachS (a b : Int) (n : Nat) (f : Nat → Nat → Int) (i k : Nat) (s : Nat → Nat → Int) : Prop where
 bd : f i (2 * k) ≤ s i (2 * k) ∧ s i (2 * k) ≤ s i (2 * k + 1) ∧ s i (2 * k + 1) ≤ f i (2 * k + 1)
 lo : tErr a b n (setF f i k (s i (2 * k)) (s i (2 * k))) = none
 hi : tErr a b n (setF f i k (s i (2 * k + 1)) (s i (2 * k + 1))) = none
 blo : s i (2 * k) ≠ f i (2 * k) → tErr a b n (setF f i k (f i (2 * k)) (s i (2 * k) - 1)) ≠ none
 bhi : s i (2 * k + 1) ≠ f i (2 * k + 1) → tErr a b n (setF f i k (s i (2 * k + 1) + 1) (f i (2 * k + 1))) ≠ none
theorem set_ok {i k : Nat} {lo hi : Int} (hok : ∀ i, i < n → rowOk (f i) = true) (hi9 : i < n) (hk : k < 7) (h1 : 0 ≤ lo) (h2 : lo ≤ hi) (h3 : hi ≤ 100000) : ∀ j, j < n → rowOk (setF f i k lo hi j) = true := fun j hj => by
 by_cases e : j = i
 · subst e
   rw [rowOk_iff]
   intro q hq
   by_cases e2 : q = k
   · subst e2; rw [setF_lo, setF_hi]; omega
   · rw [setF_oth (by omega), setF_oth (by omega)]; exact rowOk_iff.1 (hok j hj) q hq
 · rw [setF_ne e]; exact hok j hj
theorem set_wide {i k : Nat} {lo hi : Int} (hi9 : i < n) (hk : k < 7) (h1 : f i (2 * k) ≤ lo) (h2 : hi ≤ f i (2 * k + 1)) : ∀ j, j < n → ∀ q, q < 7 → f j (2 * q) ≤ setF f i k lo hi j (2 * q) ∧ setF f i k lo hi j (2 * q + 1) ≤ f j (2 * q + 1) := fun j hj q hq => by
 by_cases e : j = i
 · subst e
   by_cases e2 : q = k
   · subst e2; rw [setF_lo, setF_hi]; omega
   · rw [setF_oth (by omega), setF_oth (by omega)]; omega
 · rw [setF_ne e]; omega
theorem fea_in {x : Nat → Nat → Int} {y : Nat → Int} {i k : Nat} {lo hi : Int} (h : Fea a b n (setF f i k lo hi) x y) (hi9 : i < n) (hk : k < 7) (h1 : f i (2 * k) ≤ lo) (h2 : hi ≤ f i (2 * k + 1)) : known f (counts a b f n) i (2 * k) ≤ hi ∧ lo ≤ known f (counts a b f n) i (2 * k + 1) := by
  have hw := (h.wider (set_wide hi9 hk h1 h2)).inKnown hi9
  by_cases e : k = 6
  · subst e
    have h3 := h.cb i hi9
    have q1 : setF f i 6 lo hi i 12 = lo := setF_lo (k := 6)
    have q2 : setF f i 6 lo hi i 13 = hi := setF_hi (k := 6)
    rw [q1, q2] at h3
    have h4 := hw.2
    simp only [Nat.reduceMul, Nat.reduceAdd]
    omega
  · have h3 := (h.rw_ i hi9).bd k (by omega)
    rw [setF_lo, setF_hi] at h3
    have h4 := hw.1 k (by omega)
    omega
theorem reach_say (hs : spanB a b = true) (h40 : n ≤ 40) (hok : ∀ i, i < n → rowOk (f i) = true) (h0 : tErr a b n f = none) {i k : Nat} (hi : i < n) (hk : k < 7) : ReachS a b n f i k (known f (counts a b f n)) := by
  have hr : ∀ i, i < n → ∀ k, k < 6 → f i (2 * k) ≤ f i (2 * k + 1) := fun i hi k hk => (rowOk_iff.1 (hok i hi) k (by omega)).1
  have hrk := rowOk_iff.1 (hok i hi) k hk
  have hc : ∀ j, j < n → cOk a b f j = true := by
    rw [tErr_rgt hs h40 hok] at h0
    rcases firstNot_is (n := n) (p := cOk a b f) with ⟨i, h1, h2, _⟩ | ⟨_, h2⟩
    · rw [h2] at h0; cases h0
    · exact h2
  have hn : ∀ i, i ≤ n → (cnt a b f i).1 ≤ (cnt a b f i).2 := fun i hi => by
    cases i with
    | zero => exact (spanB_iff.1 hs).1
    | succ i => exact of_decide_eq_true (hc i (by omega))
  obtain ⟨b1, x1, y1, f1⟩ := reach (a := a) (b := b) hr hn hi hk (.inl rfl)
  obtain ⟨b2, x2, y2, f2⟩ := reach (a := a) (b := b) hr hn hi hk (.inr rfl)
  have hin := fea_in f1 hi hk b1.1 b1.2
  have ok1 := set_ok hok hi hk (lo := known f (counts a b f n) i (2 * k)) (hi := known f (counts a b f n) i (2 * k)) (by omega) (Int.le_refl _) (by omega)
  have ok2 := set_ok hok hi hk (lo := known f (counts a b f n) i (2 * k + 1)) (hi := known f (counts a b f n) i (2 * k + 1)) (by omega) (Int.le_refl _) (by omega)
  refine ⟨⟨b1.1, hin.2, b2.2⟩, (tErr_fea hs h40 ok1).2 ⟨x1, y1, f1⟩, (tErr_fea hs h40 ok2).2 ⟨x2, y2, f2⟩, fun hne h9 => ?_, fun hne h9 => ?_⟩
  · obtain ⟨x, y, hf⟩ := (tErr_fea hs h40 (set_ok hok hi hk (by omega) (by omega) (by omega))).1 h9
    have := fea_in hf hi hk (Int.le_refl _) (by omega)
    omega
  · obtain ⟨x, y, hf⟩ := (tErr_fea hs h40 (set_ok hok hi hk (by omega) (by omega) (by omega))).1 h9
    have := fea_in hf hi hk (by omega) (Int.le_refl _)
    omega
end
end Go.Proofs.YtbenhafhklfhmaaGreat
namespace Go.Proofs.YtbenhafhklfhmaaGreat
set_option linter.all false
set_option linter.unusedVariables false
set_option linter.unusedSimpArgs false
def putR (r : Nat → Int) (k : Nat) (lo hi : Int) (q : Nat) : Int := if q = 2 * k then lo else if q = 2 * k + 1 then hi else r q
section
variable {r : Nat → Int} {k q : Nat} {lo hi : Int}
theorem putR_lo : putR r k lo hi (2 * k) = lo := if_pos rfl
theorem putR_hi : putR r k lo hi (2 * k + 1) = hi := by unfold putR; rw [if_neg (by omega), if_pos rfl]
theorem putR_ne (h : q / 2 ≠ k) : putR r k lo hi q = r q := by unfold putR; rw [if_neg (by omega), if_neg (by omega)]
end
end Go.Proofs.YtbenhafhklfhmaaGreat
namespace Go.Proofs.YtbenhafhklfhmaaGreat
set_option linter.all false
set_option linter.unusedVariables false
set_option linter.unusedSimpArgs false
open Go.RowKit
theorem elA_some (b o k sz j : Nat) : elA (some ⟨b, o, none⟩) k sz j = some ⟨b, o + (k * sz + j), none⟩ := by
 unfold elA
 rw [Option.map_some, add_plain]
def fldV (A : Option Addr) (i : Nat) : List Value := [.pointer (elA A i 14 0), .pointer (elA A i 14 2), .pointer (elA A i 14 4), .pointer (elA A i 14 6), .pointer (elA A i 14 8), .pointer (elA A i 14 10), .pointer (elA A i 14 12)]
set_option maxRecDepth 100000 in
theorem fields0_any (b o : Nat) (w : World) : Calls Tryz.prog 29 #[.pointer (some ⟨b, o, none⟩)] w (Ret w (.agg #[.pointer (some ⟨b, o + 0, none⟩), .pointer (some ⟨b, o + 2, none⟩), .pointer (some ⟨b, o + 4, none⟩), .pointer (some ⟨b, o + 6, none⟩), .pointer (some ⟨b, o + 8, none⟩), .pointer (some ⟨b, o + 10, none⟩), .pointer (some ⟨b, o + 12, none⟩)])) := by
 refine K_enter (S := []) (K := []) Tryz.func29 rfl Tryz.ntmps29 rfl (Sat.start _) ?_
 refine TW.seq fun Y1 hY1 => TW.region ?_
 refine TL.m (Mk.al ty_zr73) ?_
 intro b1
 refine TL.nil (TQ.thenN (hY1 _ _ ?_))
 refine TW.seq fun Y2 hY2 => ?_
 refine TW.dw 22 ?_
 refine RK.tk Pu.mv ?_
 refine RK.tk (by first | exact Pu.nn | exact Pu.nc) ?_
 refine RK.tk (by first | exact Pu.fb ty_fa71_0 | exact Pu.fe ty_fa71_0) ?_
 refine RK.tk Pu.mv ?_
 refine RK.tk (by first | exact Pu.nn | exact Pu.nc) ?_
 refine RK.tk (by first | exact Pu.fb ty_fa71_1 | exact Pu.fe ty_fa71_1) ?_
 refine RK.tk Pu.mv ?_
 refine RK.tk (by first | exact Pu.nn | exact Pu.nc) ?_
 refine RK.tk (by first | exact Pu.fb ty_fa71_2 | exact Pu.fe ty_fa71_2) ?_
 refine RK.tk Pu.mv ?_
 refine RK.tk (by first | exact Pu.nn | exact Pu.nc) ?_
 refine RK.tk (by first | exact Pu.fb ty_fa71_3 | exact Pu.fe ty_fa71_3) ?_
 refine RK.tk Pu.mv ?_
 refine RK.tk (by first | exact Pu.nn | exact Pu.nc) ?_
 refine RK.tk (by first | exact Pu.fb ty_fa71_4 | exact Pu.fe ty_fa71_4) ?_
 refine RK.tk Pu.mv ?_
 refine RK.tk (by first | exact Pu.nn | exact Pu.nc) ?_
 refine RK.tk (by first | exact Pu.fb ty_fa71_5 | exact Pu.fe ty_fa71_5) ?_
 refine RK.tk Pu.mv ?_
 refine RK.tk (by first | exact Pu.nn | exact Pu.nc) ?_
 refine RK.tk (by first | exact Pu.fb ty_fa71_6 | exact Pu.fe ty_fa71_6) ?_
 refine RK.tk Pu.bd ?_
 refine RK.ch [] ?_ trivial
 refine WK.n ?_
 first | refine TL.st ty_sz73 ?_ | refine TL.se ty_sz73 ?_
 refine TL.nil (TQ.thenN (hY2 _ _ ?_))
 refine TW.ret ?_
 refine TQ.ret Tryz.results29 rfl ((RV.cs ty_ag73 .nil)) ?_
 exact fun w hw => Ret.of hw
theorem fields_any {A : Option Addr} (i : Nat) {w : World} (hA : ∃ b o, A = some ⟨b, o, none⟩) : Calls Tryz.prog 29 #[.pointer (elA A i 14 0)] w (Ret w (.agg (fldV A i).toArray)) := by
 obtain ⟨b, o, rfl⟩ := hA
 have h := fields0_any b (o + (i * 14 + 0)) w
 unfold fldV
 simp only [elA_some]
 simp only [Nat.add_assoc, Nat.zero_add, Nat.add_zero] at h ⊢
 exact h
theorem rdr_some {w : World} {sz n : Nat} {A : Option Addr} {r : Nat → List Value} (h : RdR w sz A n r) (hn : 0 < n) : ∃ b o, A = some ⟨b, o, none⟩ := by
 obtain ⟨b, off, h1, _⟩ := h.rd hn
 exact ⟨b, off, h1⟩
theorem put7 {r : Nat → Int} {k : Nat} {lo hi : Int} (hk : k < 7) : PutL (rowL r) (2 * k) [.int .i64 lo, .int .i64 hi] (rowL (putR r k lo hi)) := by
 unfold rowL
 rcases (by omega : k = 0 ∨ k = 1 ∨ k = 2 ∨ k = 3 ∨ k = 4 ∨ k = 5 ∨ k = 6) with rfl | rfl | rfl | rfl | rfl | rfl | rfl <;> simp only [putR] <;> (repeat (first | exact PutL.nil | apply PutL.put | apply PutL.pass))
section
variable {w : World} {A : Option Addr} {a b : Int} {n cp : Nat} {f : Nat → Nat → Int}
theorem sub70 {r : Nat → Int} {k : Nat} (hk : k < 7) : SubL (rowL r) (2 * k) 0 [] := by
 unfold rowL
 rcases (by omega : k = 0 ∨ k = 1 ∨ k = 2 ∨ k = 3 ∨ k = 4 ∨ k = 5 ∨ k = 6) with rfl | rfl | rfl | rfl | rfl | rfl | rfl <;> (repeat (first | exact SubL.nil | apply SubL.take | apply SubL.drop))
end
theorem tallyR_K (a b : Int) (A : Option Addr) (n cp : Nat) (f : Nat → Nat → Int) (w : World) (hR : RdR w 14 A n fun i => rowL (f i)) (hA : A = none → cp = 0 ∧ n = 0) (hn : n ≤ 1000000) :
    CallsK Tryz.prog 30 #[.agg #[.int .i64 a, .int .i64 b], .slice A n cp] [] w TX (tallyV (tErr a b n f) n) (tallyL a b f (tErr a b n f) n) := by
  refine (tally_any a b A n cp f w (hR.rd.congr fun i j hi hj => rowL_rowF (f i) j hj) hn hA).mono ?_
  rintro e w' ⟨hb, h⟩
  cases ht : tErr a b n f with
  | none =>
    rw [ht] at h
    obtain ⟨v1, v2, rfl, h1, h2⟩ := h
    obtain ⟨A1, c1, rfl, _, _, _⟩ := h1.form
    obtain ⟨A2, c2, rfl, _, _, _⟩ := h2.form
    refine ⟨(A1, c1, A2, c2), rfl, Chg.of_ext hb, ?_, fun q hq => ?_, fun φ hφ => ?_⟩
    · show ((Fact.own A1 (n + 1) c1 36 2 _).foot ++ ((Fact.own A2 n c2 71 14 _).foot ++ [])).Nodup
      rw [own_foot, own_foot, List.append_nil]
      refine List.nodup_append.2 ⟨?_, ?_, fun x hx y hy e => ?_⟩
      · cases (Value.slice A1 (n + 1) c1).ownBlock <;> simp
      · cases (Value.slice A2 n c2).ownBlock <;> simp
      · subst e
        simp only [Option.mem_toList] at hx hy
        rcases h1.2 with ⟨e1, _⟩ | ⟨g1, k1, u1, e1, _, q1, _⟩
        · rw [e1] at hx; cases hx
        · rcases h2.2 with ⟨e2, _⟩ | ⟨g2, k2, u2, e2, _, q2, _⟩
          · rw [e2] at hy; cases hy
          · rw [e1] at hx; rw [e2] at hy
            have hx' : g1 = x := by simpa [Value.ownBlock] using hx
            have hy' : g2 = x := by simpa [Value.ownBlock] using hy
            subst hx'
            subst hy'
            rw [q1] at q2
            cases q2
    · have hq' : q ∈ (Fact.own A1 (n + 1) c1 36 2 (fun _ => [])).foot ∨ q ∈ (Fact.own A2 n c2 71 14 (fun _ => [])).foot := by
        have : q ∈ (Fact.own A1 (n + 1) c1 36 2 (fun _ => [])).foot ++ ((Fact.own A2 n c2 71 14 (fun _ => [])).foot ++ []) := by
          rw [own_foot, own_foot]; rw [show feet (tallyL a b f none n (A1, c1, A2, c2)) = _ from rfl] at hq; simpa [feet, tallyL, own_foot, tN] using hq
        simpa using this
      rw [own_foot, own_foot] at hq'
      rcases hq' with hq' | hq'
      · exact .inr (h1.blk (by simpa using hq')).1
      · exact .inr (h2.blk (by simpa using hq')).1
    · have : φ = .own A1 (n + 1) c1 36 2 (fun i => spL (if (0 : Nat) = 0 then (counts a b f n i).1 else 0) (counts a b f n i).2) ∨ φ = .own A2 n c2 71 14 (fun i => rowL (known f (counts a b f n) i)) := by simpa [tallyL, tN] using hφ
      rcases this with rfl | rfl
      · exact ⟨(h1.mono (Nat.zero_le _)).congr fun i j hi hj => by
          have h2 : j = 0 ∨ j = 1 := by omega
          rcases h2 with rfl | rfl <;> rfl, fun _ _ => rfl⟩
      · exact ⟨(h2.mono (Nat.zero_le _)).congr fun i j hi hj => (rowL_rowF _ j hj).symm, fun _ _ => rfl⟩
  | some x =>
    obtain ⟨i, c⟩ := x
    rw [ht] at h
    subst h
    exact ⟨(none, 0, none, 0), rfl, (Sat.nil (Chg.of_ext hb)).sub (KSub.nilOwn (KSub.nilOwn KSub.nil))⟩
section
variable {w : World} {A : Option Addr} {a b : Int} {n cp : Nat} {f : Nat → Nat → Int}
theorem lw_tal {nC nK : Nat} {iC cC : Int} {cn : Nat → Int × Int} {kf : Nat → Nat → Int} (k1 : tN (tErr a b n f) (n + 1) = nC) (k2 : tN (tErr a b n f) n = nK) (k3 : tI (tErr a b n f) = iC) (k4 : tC (tErr a b n f) = cC) (k5 : counts a b f n = cn) (k6 : known f (counts a b f n) = kf) (hR : RdR w 14 A n fun i => rowL (f i)) (hA : A = none → cp = 0 ∧ n = 0) (hn : n ≤ 1000000) :
   CallsK Tryz.prog 30 #[.agg #[.int .i64 a, .int .i64 b], .slice A n cp] [] w TX (fun y => .tuple #[.slice y.1 nC y.2.1, .slice y.2.2.1 nK y.2.2.2, .int .i64 iC, .int .i64 cC]) (fun y => [.own y.1 nC y.2.1 36 2 (fun i => spL (cn i).1 (cn i).2), .own y.2.2.1 nK y.2.2.2 71 14 (fun i => rowL (kf i))]) := by
 subst k1 k2 k3 k4 k5 k6
 refine (tallyR_K a b A n cp f w hR hA hn).to (fun y => ?_) (fun y => ?_)
 · obtain ⟨A1, c1, A2, c2⟩ := y; rfl
 · obtain ⟨A1, c1, A2, c2⟩ := y
   show KSub [.own A1 (tN (tErr a b n f) (n + 1)) c1 36 2 (fun i => spL (if (0 : Nat) = 0 then (counts a b f n i).1 else 0) (counts a b f n i).2), .own A2 (tN (tErr a b n f) n) c2 71 14 (fun i => rowL (known f (counts a b f n) i))] _
   exact KSub.own Pick.hd (fun i hi => by rw [if_pos rfl]) (KSub.cons Pick.hd KSub.nil)
end
end Go.Proofs.YtbenhafhklfhmaaGreat
namespace Go.Proofs.YtbenhafhklfhmaaGreat
set_option linter.all false
set_option linter.unusedVariables false
set_option linter.unusedSimpArgs false
def gsm (t : Nat → Int) : Nat → Int
 | 0 => 0
 | k + 1 => gsm t k + (if k < 3 then t (2 * k) else -(t (2 * k)))
theorem gsm_congr {s t : Nat → Int} : ∀ k, (∀ q, q < k → s (2 * q) = t (2 * q)) → gsm s k = gsm t k
 | 0, _ => rfl
 | k + 1, h => by simp only [gsm]; rw [gsm_congr k fun q hq => h q (by omega), h k (by omega)]
theorem gsm_6 (t : Nat → Int) : gsm t 6 = t 0 + t 2 + t 4 - (t 6 + t 8 + t 10) := by
 simp only [gsm, Nat.mul_zero, Nat.reduceMul, Nat.reduceLT, if_true, if_false]
 simp
 omega
structure InI (c0 yi : Int) (i k : Nat) (rr tt : Nat → Int) (now cm wt : Int) : Prop where
 xs : ∀ q, q < k → 0 ≤ rr (2 * q) ∧ rr (2 * q) ≤ tt (2 * q) ∧ tt (2 * q) ≤ rr (2 * q + 1) ∧ rr (2 * q + 1) ≤ 100
 sm : now = yi + gsm tt k
 n0 : 0 ≤ now ∧ now ≤ yi + 12 * (k : Int)
 eq : c0 + cm - wt = now
 cb : 0 ≤ cm ∧ 0 ≤ wt ∧ cm ≤ 72 * (i : Int) + 12 * (k : Int) ∧ wt ≤ 72 * (i : Int) + 12 * (k : Int)
section
variable {c0 yi : Int} {i k : Nat} {rr tt : Nat → Int} {now cm wt x lo hi : Int}
theorem InI.xs' (h : InI c0 yi i k rr tt now cm wt) (h1 : 0 ≤ lo ∧ lo ≤ x ∧ x ≤ hi ∧ hi ≤ 100) : ∀ q, q < k + 1 → 0 ≤ putR rr k lo hi (2 * q) ∧ putR rr k lo hi (2 * q) ≤ putR tt k x x (2 * q) ∧ putR tt k x x (2 * q) ≤ putR rr k lo hi (2 * q + 1) ∧ putR rr k lo hi (2 * q + 1) ≤ 100 := fun q hq => by
 by_cases e : q = k
 · subst e
   rw [putR_lo, putR_lo, putR_hi]; exact h1
 · rw [putR_ne (by omega), putR_ne (by omega), putR_ne (by omega)]; exact h.xs q (by omega)
theorem InI.come (h : InI c0 yi i k rr tt now cm wt) (hk : k < 3) (h0 : 0 ≤ x ∧ x ≤ 12) (h1 : 0 ≤ lo ∧ lo ≤ x ∧ x ≤ hi ∧ hi ≤ 100) : InI c0 yi i (k + 1) (putR rr k lo hi) (putR tt k x x) (now + x) (cm + x) wt := by
 have h2 := h.n0
 have h3 := h.cb
 have h4 := h.eq
 have h5 := h.sm
 refine ⟨h.xs' h1, ?_, by omega, by omega, by omega⟩
 simp only [gsm]
 rw [if_pos hk, putR_lo, gsm_congr (t := tt) k fun q hq => putR_ne (by omega)]
 omega
theorem InI.go (h : InI c0 yi i k rr tt now cm wt) (hk : ¬ k < 3) (h0 : 0 ≤ x ∧ x ≤ 12) (hx : x ≤ now) (h1 : 0 ≤ lo ∧ lo ≤ x ∧ x ≤ hi ∧ hi ≤ 100) : InI c0 yi i (k + 1) (putR rr k lo hi) (putR tt k x x) (now - x) cm (wt + x) := by
 have h2 := h.n0
 have h3 := h.cb
 have h4 := h.eq
 have h5 := h.sm
 refine ⟨h.xs' h1, ?_, by omega, by omega, by omega⟩
 simp only [gsm]
 rw [if_neg hk, putR_lo, gsm_congr (t := tt) k fun q hq => putR_ne (by omega)]
 omega
end
structure CS where
 f : Nat → Nat → Int
 g : Nat → Nat → Int
 y : Nat → Int
 now : Int
 cm : Int
 wt : Int
structure CntI (c0 : Int) (i : Nat) (X : CS) : Prop where
 yn : X.y i = X.now
 y0 : X.y 0 = c0
 rw_ : ∀ j, j < i → RowN (X.f j) (fun k => X.g j (2 * k)) (X.y (j + 1) - X.y j)
 cb : ∀ j, j < i → X.f j 12 ≤ X.y (j + 1) ∧ X.y (j + 1) ≤ X.f j 13
 ok : ∀ j, j < i → rowOk (X.f j) = true
 g6 : ∀ j, j < i → X.g j 12 = X.y (j + 1)
 nb : 0 ≤ X.y i ∧ X.y i ≤ 999 + 72 * (i : Int)
 eq : c0 + X.cm - X.wt = X.y i
 ct : 0 ≤ X.cm ∧ 0 ≤ X.wt ∧ X.cm ≤ 72 * (i : Int) ∧ X.wt ≤ 72 * (i : Int)
def CS.nx (X : CS) (i : Nat) (rr tt : Nat → Int) (now cm wt : Int) : CS := ⟨updA X.f i rr, updA X.g i tt, updA X.y (i + 1) now, now, cm, wt⟩
section
variable {c0 : Int} {i : Nat} {X : CS} {rr tt : Nat → Int} {now cm wt lo hi' : Int}
theorem CntI.start (h : 0 ≤ c0 ∧ c0 ≤ 999) : CntI c0 0 ⟨fun _ _ => 0, fun _ _ => 0, fun _ => c0, c0, 0, 0⟩ :=
 ⟨rfl, rfl, fun j h => absurd h (Nat.not_lt_zero j), fun j h => absurd h (Nat.not_lt_zero j), fun j h => absurd h (Nat.not_lt_zero j), fun j h => absurd h (Nat.not_lt_zero j), by dsimp only; omega, by dsimp only; omega, by dsimp only; omega⟩
theorem CntI.inn (h : CntI c0 i X) : InI c0 (X.y i) i 0 (fun _ => 0) (fun _ => 0) X.now X.cm X.wt := by
 have h0 := h.yn
 have h1 := h.nb
 have h2 := h.eq
 have h3 := h.ct
 exact ⟨fun q h => absurd h (Nat.not_lt_zero q), by simp only [gsm]; omega, by omega, by omega, by omega⟩
theorem CntI.next (h : CntI c0 i X) (hi40 : i ≤ 40) (hi : InI c0 (X.y i) i 6 rr tt now cm wt) (h1 : 0 ≤ lo ∧ lo ≤ now ∧ now ≤ hi' ∧ hi' ≤ now + 100) : CntI c0 (i + 1) (X.nx i (putR rr 6 lo hi') (putR tt 6 now now) now cm wt) := by
  have n0 := hi.n0
  have sm := hi.sm
  have cb := hi.cb
  have nb := h.nb
  have ey : ∀ j, j < i + 1 → (X.nx i (putR rr 6 lo hi') (putR tt 6 now now) now cm wt).y j = X.y j := fun j hj => if_neg (by omega)
  have ey2 : (X.nx i (putR rr 6 lo hi') (putR tt 6 now now) now cm wt).y (i + 1) = now := if_pos rfl
  have ef : ∀ j, j < i → (X.nx i (putR rr 6 lo hi') (putR tt 6 now now) now cm wt).f j = X.f j := fun j hj => if_neg (by omega)
  have ef2 : (X.nx i (putR rr 6 lo hi') (putR tt 6 now now) now cm wt).f i = putR rr 6 lo hi' := if_pos rfl
  have eg : ∀ j, j < i → (X.nx i (putR rr 6 lo hi') (putR tt 6 now now) now cm wt).g j = X.g j := fun j hj => if_neg (by omega)
  have eg2 : (X.nx i (putR rr 6 lo hi') (putR tt 6 now now) now cm wt).g i = putR tt 6 now now := if_pos rfl
  refine ⟨ey2, (ey 0 (by omega)).trans h.y0, fun j hj => ?_, fun j hj => ?_, fun j hj => ?_, fun j hj => ?_, ?_, ?_, ?_⟩
  · by_cases e : j = i
    · subst e
      rw [ef2, eg2, ey2, ey j (by omega)]
      refine ⟨?_, fun k hk => ?_⟩
      · have e9 : ∀ k, k < 6 → putR tt 6 now now (2 * k) = tt (2 * k) := fun k hk => putR_ne (by omega)
        try dsimp only
        rw [e9 0 (by omega), e9 1 (by omega), e9 2 (by omega), e9 3 (by omega), e9 4 (by omega), e9 5 (by omega)]
        rw [gsm_6] at sm
        simp only [Nat.mul_zero, Nat.reduceMul, Nat.mul_one]
        omega
      · have := hi.xs k hk
        try dsimp only
        rw [putR_ne (by omega), putR_ne (by omega), putR_ne (by omega)]
        omega
    · rw [ef j (by omega), eg j (by omega), ey j (by omega), ey (j + 1) (by omega)]; exact h.rw_ j (by omega)
  · by_cases e : j = i
    · subst e
      rw [ef2, ey2, show (12 : Nat) = 2 * 6 from rfl, putR_lo, show (13 : Nat) = 2 * 6 + 1 from rfl, putR_hi]; omega
    · rw [ef j (by omega), ey (j + 1) (by omega)]; exact h.cb j (by omega)
  · by_cases e : j = i
    · subst e
      rw [ef2, rowOk_iff]
      intro q hq
      by_cases e2 : q = 6
      · subst e2; rw [putR_lo, putR_hi]; omega
      · have := hi.xs q (by omega)
        rw [putR_ne (by omega), putR_ne (by omega)]; omega
    · rw [ef j (by omega)]; exact h.ok j (by omega)
  · by_cases e : j = i
    · subst e
      rw [eg2, ey2, show (12 : Nat) = 2 * 6 from rfl, putR_lo]
    · rw [eg j (by omega), ey (j + 1) (by omega)]; exact h.g6 j (by omega)
  · rw [ey2]; omega
  · rw [ey2]; exact hi.eq
  · show 0 ≤ cm ∧ 0 ≤ wt ∧ cm ≤ 72 * ((i + 1 : Nat) : Int) ∧ wt ≤ 72 * ((i + 1 : Nat) : Int)
    omega
structure CntE (c0 fa fb : Int) (m : Nat) (X : CS) (cn : Nat → Int × Int) (kf : Nat → Nat → Int) : Prop where
 c0 : (cn 0).1 ≤ c0 ∧ c0 ≤ (cn 0).2 ∧ fa ≤ (cn 0).1 ∧ (cn 0).2 ≤ fb
 kn : ∀ j k, j < m → k < 7 → kf j (2 * k) ≤ X.g j (2 * k) ∧ X.g j (2 * k) ≤ kf j (2 * k + 1) ∧ X.f j (2 * k) ≤ kf j (2 * k) ∧ kf j (2 * k + 1) ≤ X.f j (2 * k + 1)
 kc : ∀ j, kf j 12 = (cn (j + 1)).1 ∧ kf j 13 = (cn (j + 1)).2
theorem CntI.fin {fa fb : Int} {m : Nat} (h : CntI c0 m X) (hm : m ≤ 40) (h1 : 0 ≤ fa ∧ fa ≤ c0 ∧ c0 ≤ fb ∧ fb ≤ 100000) : tErr fa fb m X.f = none ∧ CntE c0 fa fb m X (counts fa fb X.f m) (known X.f (counts fa fb X.f m)) := by
  have hs : spanB fa fb = true := spanB_iff.2 (by omega)
  have hF : Fea fa fb m X.f (fun j k => X.g j (2 * k)) X.y := ⟨by rw [h.y0]; omega, h.rw_, h.cb⟩
  have h0 := (tErr_fea hs hm h.ok).2 ⟨_, _, hF⟩
  have hr : ∀ i, i < m → ∀ k, k < 6 → X.f i (2 * k) ≤ X.f i (2 * k + 1) := fun i hi k hk => (rowOk_iff.1 (h.ok i hi) k (by omega)).1
  have hc : ∀ j, j < m → cOk fa fb X.f j = true := by
    rw [tErr_rgt hs hm h.ok] at h0
    rcases firstNot_is (n := m) (p := cOk fa fb X.f) with ⟨i, h1, h2, _⟩ | ⟨_, h2⟩
    · rw [h2] at h0; cases h0
    · exact h2
  have hn : ∀ i, i ≤ m → (cnt fa fb X.f i).1 ≤ (cnt fa fb X.f i).2 := fun i hi => by
    cases i with
    | zero => exact (spanB_iff.1 hs).1
    | succ i => exact of_decide_eq_true (hc i (by omega))
  obtain ⟨_, ha, hb⟩ := cst_counts (a := fa) (b := fb) hr hn
  have hin := hF.inCounts 0 (Nat.zero_le _)
  rw [h.y0] at hin
  refine ⟨h0, ⟨⟨hin.1, hin.2, ha, hb⟩, fun j k hj hk => ?_, fun j => ⟨?_, ?_⟩⟩⟩
  · have hbd := (reach_say hs hm h.ok h0 hj hk).bd
    have hk9 := hF.inKnown hj
    by_cases e : k = 6
    · subst e
      have e6 : X.g j (2 * 6) = X.y (j + 1) := h.g6 j hj
      have := hk9.2
      rw [e6]
      exact ⟨this.1, this.2, hbd.1, hbd.2.2⟩
    · have := hk9.1 k (by omega)
      exact ⟨this.1, this.2, hbd.1, hbd.2.2⟩
  · unfold known; rw [if_pos rfl]
  · unfold known; rw [if_neg (by decide), if_pos rfl]
end
end Go.Proofs.YtbenhafhklfhmaaGreat
namespace Go.Proofs.YtbenhafhklfhmaaGreat
set_option linter.all false
set_option linter.unusedVariables false
set_option linter.unusedSimpArgs false
open Go.RowKit
theorem ty_ar73 : ArrT Tryz.prog 73 72 7 1 := ⟨Tryz.underlying73, fun w => by kernel_rfl⟩
theorem Pu.rmW {c : Cx} {F : Fr} {K : List Fact} {d : Option Tmp} {ty xt yt : TypeId} {pos : String} {af : Array Edge} {g : Option (Nat × Bool)} {x y : Operand} {i j : Int} (hx : ev F x = some (.int .u32 i) := by rfl) (hy : ev F y = some (.int .u32 j) := by rfl) (h0 : 0 ≤ i ∧ 0 < j := by omega) : Pu c F K ⟨d, .binOp .rem xt x y yt, ty, pos, af, g⟩ (.int .u32 (i % j)) := Pu.bin hx hy fun w => by
 obtain ⟨h0, h2⟩ := h0
 have hj : j ≠ 0 := by omega
 have e : i.tmod j = i % j := Int.tmod_eq_emod_of_nonneg h0
 simp only [eqGuard, binOp, Op.intDiv, hj, if_false, e]
 rfl
theorem neSp {a b c d : Int} (x y : Operand) (h1 : a = c) (h2 : b = d) (w : World) : (do eqGuard .neq 36 x y (.agg #[.int .i64 a, .int .i64 b]) (.agg #[.int .i64 c, .int .i64 d]); binOp .neq 36 (.agg #[.int .i64 a, .int .i64 b]) (.agg #[.int .i64 c, .int .i64 d]) : Sem Value).run Tryz.prog w = .ok (.bool false) w := by
 subst h1 h2
 go_simp
theorem TW.bo {c : Cx} {Q : Exit → Act → World → Prop} {F : Fr} {K K' : List Fact} {x : Code} {b n : Nat} {E : TypeId} {sz : Nat} {r : Nat → List Value} {cs : List Value} (hp : Pick K (.own (some ⟨b, 0, none⟩) n n E sz r) K') (hc : flatR n r = cs) (h : TW c x Q F (.blk b E cs :: K')) : TW c x Q F K := fun a w hF hK => h a w hF ((hK.pick hp).bo hc)
theorem sub1 {r : Nat → Int} {k : Nat} (hk : k < 7) : SubL (rowL r) (2 * k + 0) 1 [.int .i64 (r (2 * k))] ∧ SubL (rowL r) (2 * k + 1) 1 [.int .i64 (r (2 * k + 1))] := by
 unfold rowL
 rcases (by omega : k = 0 ∨ k = 1 ∨ k = 2 ∨ k = 3 ∨ k = 4 ∨ k = 5 ∨ k = 6) with rfl | rfl | rfl | rfl | rfl | rfl | rfl <;> constructor <;> (repeat (first | exact SubL.nil | apply SubL.take | apply SubL.drop))
theorem upd0 {r : Nat → List Value} {row : List Value} {j : Nat} (hj : j < 1) : updR r 0 row j = row := if_pos (by omega)
theorem cat_up {i : Nat} {f : Nat → Nat → Int} {R : Nat → Int} (j : Nat) : catR i (fun j => rowL (f j)) (fun _ => rowL R) j = (fun j => rowL (updA f i R j)) j ∨ i < j := by
 unfold catR updA
 by_cases h : j < i
 · left; rw [if_pos h]; dsimp only; rw [if_neg (by omega)]
 · by_cases e : j = i
   · left; rw [if_neg h]; dsimp only; rw [if_pos e]
   · right; omega
section
variable {w : World} {G : Option Addr} {gn gc : Nat} {u : Nat → Int} {st : Int}
theorem choose2_x {w : World} (x : Int) (h0 : 0 ≤ x) (hR : RdR w 1 G gn (fun k => [.int .u32 (u k)])) : Calls Tryz.prog 17 #[.slice G gn gc, .int .i64 x] w (Ret w (.int .u32 (chB gn u x.toNat))) := by
 have h := choose2_any (cp := gc) x.toNat hR
 rwa [Int.toNat_of_nonneg h0] at h
set_option maxRecDepth 100000 in
set_option maxHeartbeats 16000000 in
theorem lawCount_any (hst : 0 ≤ st ∧ st ≤ 4294967295) (hu : U32b gn u) (hGR : RdR w 1 G gn (fun k => [.int .u32 (u k)])) (o : Nat) (ho : o ≤ 255) :
  Calls Tryz.prog 8 #[.int .u32 st, .slice G gn gc, .int .u8 (o : Int)] w (Ret w (.bool true)) := by
 obtain ⟨m, hm⟩ : ∃ m : Nat, m = o % 41 := ⟨_, rfl⟩
 have hm40 : m ≤ 40 := by omega
 have hmI := hidT (show (o : Int) % 41 = (m : Int) by omega)
 clear hm
 obtain ⟨c0, hc0⟩ : ∃ z : Int, z = st % 1000 := ⟨_, rfl⟩
 have hc09 : 0 ≤ c0 ∧ c0 ≤ 999 := by omega
 replace hc0 := hidT hc0
 have cv1 := chB_bd hu (300 : Int).toNat
 obtain ⟨v1, hv1⟩ : ∃ z, z = chB gn u (300 : Int).toNat := ⟨_, rfl⟩
 rw [← hv1] at cv1
 replace hv1 := hidT hv1
 have cv2 := chB_bd hu (301 : Int).toNat
 obtain ⟨v2, hv2⟩ : ∃ z, z = chB gn u (301 : Int).toNat := ⟨_, rfl⟩
 rw [← hv2] at cv2
 replace hv2 := hidT hv2
 obtain ⟨fa, hfa⟩ : ∃ z : Int, z = max 0 (c0 - v1 % 20) := ⟨_, rfl⟩
 obtain ⟨fb, hfb⟩ : ∃ z : Int, z = c0 + v2 % 20 := ⟨_, rfl⟩
 have hfab : 0 ≤ fa ∧ fa ≤ c0 ∧ c0 ≤ fb ∧ fb ≤ 2000 := by omega
 replace hfa := hidT hfa
 replace hfb := hidT hfb
 refine K_enter (S := []) (K := []) Tryz.func8 rfl Tryz.ntmps8 rfl (Sat.start _) ?_
 refine TW.seq fun Y1 hY1 => TW.region ?_
 refine TL.p Pu.as ?_
 refine TL.nil (TQ.thenN (hY1 _ _ ?_))
 refine TW.seq fun Y2 hY2 => TW.region ?_
 refine TL.cr rfl (enters Tryz.func12 rfl rfl) (fun w hw => by
   exact alive_any _) ?_
 refine TL.p Pu.as ?_
 refine TL.nil (TQ.thenN (hY2 _ _ ?_))
 refine TW.seq fun Y3 hY3 => ?_
 refine TW.seq fun Y4 hY4 => TW.region ?_
 refine TL.p Pu.mv ?_
 refine TL.p Pu.no ?_
 refine TL.nil (TQ.thenN (hY4 _ _ ?_))
 refine TW.condF rfl rfl ?_
 refine TW.skip ?_
 refine TQ.thenN (hY3 _ _ ?_)
 refine TW.seq fun Y5 hY5 => TW.region ?_
 refine TL.p Pu.mv ?_
 refine TL.p Pu.rmW ?_
 refine TL.p (Pu.cv (v := .int .i64 c0) rfl (fun w => by go_simp; rw [← hc0.out, IntWalk.i64_in c0 (by omega)])) ?_
 refine TL.p Pu.as ?_
 refine TL.nil (TQ.thenN (hY5 _ _ ?_))
 refine TW.seq fun Y6 hY6 => TW.region ?_
 refine TL.p Pu.mv ?_
 refine TL.p Pu.mv ?_
 refine TL.cr rfl (enters Tryz.func17 rfl rfl) (fun w hw => by
   have h9 := choose2_x (gc := gc) (300) (by omega) (hGR.sat hw Apart.nil)
   rw [← hv1.out] at h9
   exact h9) ?_
 refine TL.p Pu.rmW ?_
 refine TL.p (Pu.cv (v := .int .i64 (v1 % 20)) rfl (fun w => by go_simp; rw [IntWalk.i64_in (v1 % 20) (by omega)])) ?_
 refine TL.p Pu.sb ?_
 refine TL.p (Pu.iv Pu.mx hfa.out.symm) ?_
 refine TL.p Pu.mv ?_
 refine TL.p Pu.mv ?_
 refine TL.cr rfl (enters Tryz.func17 rfl rfl) (fun w hw => by
   have h9 := choose2_x (gc := gc) (301) (by omega) (hGR.sat hw Apart.nil)
   rw [← hv2.out] at h9
   exact h9) ?_
 refine TL.p Pu.rmW ?_
 refine TL.p (Pu.cv (v := .int .i64 (v2 % 20)) rfl (fun w => by go_simp; rw [IntWalk.i64_in (v2 % 20) (by omega)])) ?_
 refine TL.p (Pu.iv Pu.ad hfb.out.symm) ?_
 refine TL.cr rfl (enters Tryz.func18 rfl rfl) (fun w hw => by
   exact span2_any _ _ _) ?_
 refine TL.m (Mk.al ty_zr36) ?_
 intro b1
 first | refine TL.st ty_sz36 ?_ | refine TL.se ty_sz36 ?_
 refine TL.nil (TQ.thenN (hY6 _ _ ?_))
 refine TW.seq fun Y7 hY7 => TW.region ?_
 refine TL.p Pu.as ?_
 refine TL.p Pu.as ?_
 refine TL.nil (TQ.thenN (hY7 _ _ ?_))
 refine TW.seq fun Y8 hY8 => TW.region ?_
 refine TL.p Pu.as ?_
 refine TL.p Pu.as ?_
 refine TL.nil (TQ.thenN (hY8 _ _ ?_))
 refine TW.seq fun Y9 hY9 => TW.region ?_
 refine TL.p Pu.mv ?_
 refine TL.p Pu.as ?_
 refine TL.nil (TQ.thenN (hY9 _ _ ?_))
 refine TW.seq fun Y10 hY10 => ?_
 refine TW.seq fun Y11 hY11 => TW.region ?_
 refine TL.p Pu.mv ?_
 refine TL.p (Pu.cv (v := .int .i64 (o : Int)) rfl (fun w => by go_simp; rw [IntWalk.i64_in (o : Int) (by omega)])) ?_
 refine TL.p (Pu.iv Pu.rm hmI.out) ?_
 refine TL.p Pu.mv ?_
 refine TL.nil (TQ.thenN (hY11 _ _ ?_))
 refine TW.block ?_
 refine TW.loop6 (fun (i : Nat) (A1 : Option Addr) (c1 : Nat) (A2 : Option Addr) (c2 : Nat) (X : CS) => [(56, .int .i64 (i : Int)), (10, .slice A1 i c1), (11, .slice A2 i c2), (12, .int .i64 X.cm), (13, .int .i64 X.wt), (14, .int .i64 X.now), (55, .int .i64 (m : Int)), (8, .int .i64 c0), (9, .pointer (some ⟨b1, 0, none⟩)), (7, .bool true), (1, .slice G gn gc)]) (fun i A1 c1 A2 c2 X => [.own A1 i c1 71 14 (fun j => rowL (X.f j)), .own A2 i c2 71 14 (fun j => rowL (X.g j)), .blk b1 36 [.int .i64 fa, .int .i64 fb]]) (fun i A1 c1 A2 c2 X => i ≤ m ∧ CntI c0 i X) (fun i A1 c1 A2 c2 X => m - i) 0 none 0 none 0 ⟨fun _ _ => 0, fun _ _ => 0, fun _ => c0, c0, 0, 0⟩ fs9 ?_ ?_ ?_
 exact KSub.nilOwn (KSub.nilOwn ks9)
 exact ⟨Nat.zero_le _, CntI.start hc09⟩
 rintro i A1 c1 A2 c2 X ⟨him, hX⟩ Z0 hZ0
 refine TW.seq fun Y12 hY12 => TW.region ?_
 refine TL.p Pu.lt ?_
 refine TL.nil (TQ.thenN (hY12 _ _ ?_))
 refine TW.seq fun Y13 hY13 => ?_
 refine TW.cond rfl (fun hc1 => ?_) (fun hc1 => ?_)
 try simp only [zcb9] at hc1
 have hil : i < m := by omega
 have hin0 := hX.inn
 refine TW.skip ?_
 refine TQ.thenN (hY13 _ _ ?_)
 refine TW.seq fun Y14 hY14 => ?_
 refine TW.block ?_
 refine TW.seq fun Y15 hY15 => TW.region ?_
 refine TL.p Pu.mv ?_
 refine TL.p Pu.as ?_
 refine TL.nil (TQ.thenN (hY15 _ _ ?_))
 refine TW.seq fun Y16 hY16 => TW.region ?_
 refine TL.m (Mk.al ty_zr71) ?_
 intro b2
 refine TL.m (Mk.al ty_zr71) ?_
 intro b3
 refine TL.nil (TQ.thenN (hY16 _ _ ?_))
 refine TW.seq fun Y17 hY17 => TW.region ?_
 refine TL.cr rfl (enters Tryz.func29 rfl rfl) (fun w hw => by
   exact fields_any (A := some ⟨b3, 0, none⟩) 0 ⟨b3, 0, rfl⟩) ?_
 refine TL.cr rfl (enters Tryz.func29 rfl rfl) (fun w hw => by
   exact fields_any (A := some ⟨b2, 0, none⟩) 0 ⟨b2, 0, rfl⟩) ?_
 refine TL.m (Mk.al ty_zr73) ?_
 intro b4
 refine TL.m (Mk.al ty_zr73) ?_
 intro b5
 first | refine TL.st ty_sz73 ?_ | refine TL.se ty_sz73 ?_
 first | refine TL.st ty_sz73 ?_ | refine TL.se ty_sz73 ?_
 refine TL.nil (TQ.thenN (hY17 _ _ ?_))
 refine TW.seq fun Y18 hY18 => ?_
 refine TW.seq fun Y19 hY19 => TW.region ?_
 refine TL.p Pu.mv ?_
 refine TL.nil (TQ.thenN (hY19 _ _ ?_))
 refine TW.block ?_
 refine TW.loop6 (fun (k : Nat) (rr : Nat → Int) (tt : Nat → Int) (now : Int) (cm : Int) (wt : Int) => [(61, .int .i64 (k : Int)), (12, .int .i64 cm), (13, .int .i64 wt), (14, .int .i64 now), (18, .pointer (some ⟨b4, 0, none⟩)), (19, .pointer (some ⟨b5, 0, none⟩)), (16, .pointer (some ⟨b2, 0, none⟩)), (17, .pointer (some ⟨b3, 0, none⟩)), (15, .int .i64 (i : Int)), (56, .int .i64 (i : Int)), (10, .slice A1 i c1), (11, .slice A2 i c2), (55, .int .i64 (m : Int)), (8, .int .i64 c0), (9, .pointer (some ⟨b1, 0, none⟩)), (7, .bool true), (1, .slice G gn gc)]) (fun k rr tt now cm wt => [.own (some ⟨b2, 0, none⟩) 1 1 71 14 (fun _ => rowL rr), .own (some ⟨b3, 0, none⟩) 1 1 71 14 (fun _ => rowL tt), .own (some ⟨b4, 0, none⟩) 7 7 73 1 (fun q => [.pointer (elA (some ⟨b3, 0, none⟩) 0 14 (2 * q))]), .own (some ⟨b5, 0, none⟩) 7 7 73 1 (fun q => [.pointer (elA (some ⟨b2, 0, none⟩) 0 14 (2 * q))]), .own A1 i c1 71 14 (fun j => rowL (X.f j)), .own A2 i c2 71 14 (fun j => rowL (X.g j)), .blk b1 36 [.int .i64 fa, .int .i64 fb]]) (fun k rr tt now cm wt => k ≤ 6 ∧ InI c0 (X.y i) i k rr tt now cm wt) (fun k rr tt now cm wt => 6 - k) 0 (fun _ => 0) (fun _ => 0) X.now X.cm X.wt fs9 ?_ ?_ ?_
 exact KSub.ofBlk pk9 rfl (fun _ _ => rfl) rfl rfl (KSub.ofBlk pk9 rfl (fun _ _ => rfl) rfl rfl (KSub.ofBlk pk9 rfl (fun _ _ => rfl) rfl rfl (KSub.ofBlk pk9 rfl (fun _ _ => rfl) rfl rfl ks9)))
 exact ⟨Nat.zero_le _, hin0⟩
 rintro k rr tt now cm wt ⟨hk6, hin⟩ Z1 hZ1
 have hn0 := hin.n0
 have hcb := hin.cb
 have hXn := hX.nb
 refine TW.seq fun Y20 hY20 => TW.region ?_
 refine TL.p Pu.lt ?_
 refine TL.nil (TQ.thenN (hY20 _ _ ?_))
 refine TW.seq fun Y21 hY21 => ?_
 refine TW.cond rfl (fun hc2 => ?_) (fun hc2 => ?_)
 try simp only [zcb9] at hc2
 have hkl : k < 6 := by omega
 have cu1 := chB_bd hu (7 * (i : Int) + (k : Int)).toNat
 obtain ⟨u1, hu1⟩ : ∃ z, z = chB gn u (7 * (i : Int) + (k : Int)).toNat := ⟨_, rfl⟩
 rw [← hu1] at cu1
 replace hu1 := hidT hu1
 have cu2 := chB_bd hu (7 * (i : Int) + (k : Int) + 1).toNat
 obtain ⟨u2, hu2⟩ : ∃ z, z = chB gn u (7 * (i : Int) + (k : Int) + 1).toNat := ⟨_, rfl⟩
 rw [← hu2] at cu2
 replace hu2 := hidT hu2
 have cu3 := chB_bd hu (7 * (i : Int) + (k : Int) + 2).toNat
 obtain ⟨u3, hu3⟩ : ∃ z, z = chB gn u (7 * (i : Int) + (k : Int) + 2).toNat := ⟨_, rfl⟩
 rw [← hu3] at cu3
 replace hu3 := hidT hu3
 refine TW.skip ?_
 refine TQ.thenN (hY21 _ _ ?_)
 refine TW.seq fun Y22 hY22 => ?_
 refine TW.block ?_
 refine TW.seq fun Y23 hY23 => TW.region ?_
 refine TL.p Pu.mv ?_
 refine TL.p Pu.as ?_
 refine TL.nil (TQ.thenN (hY23 _ _ ?_))
 refine TW.seq fun Y24 hY24 => TW.region ?_
 refine TL.p Pu.as ?_
 refine TL.nil (TQ.thenN (hY24 _ _ ?_))
 refine TW.seq fun Y25 hY25 => ?_
 refine TW.seq fun Y26 hY26 => TW.region ?_
 refine TL.p Pu.mv ?_
 refine TL.p Pu.ge ?_
 refine TL.nil (TQ.thenN (hY26 _ _ ?_))
 refine TW.cond rfl (fun hc3 => ?_) (fun hc3 => ?_)
 try simp only [zcb9] at hc3
 have hk3 : 3 ≤ k := by omega
 obtain ⟨mo, hmo9⟩ : ∃ z : Int, z = min 12 now := ⟨_, rfl⟩
 have hmo : 0 ≤ mo ∧ mo ≤ 12 ∧ mo ≤ now := by omega
 have hm9 := hidT (show mo = mo by omega)
 replace hmo9 := hidT hmo9
 have hx1 := Int.emod_nonneg u1 (show mo + 1 ≠ 0 by omega)
 have hx2 := Int.emod_lt_of_pos u1 (show 0 < mo + 1 by omega)
 obtain ⟨x, hx⟩ : ∃ z : Int, z = u1 % (mo + 1) := ⟨_, rfl⟩
 rw [← hx] at hx1 hx2
 replace hx := hidT hx
 obtain ⟨lo, hlo⟩ : ∃ z : Int, z = max 0 (x - u2 % 4) := ⟨_, rfl⟩
 obtain ⟨hi, hhi⟩ : ∃ z : Int, z = x + u3 % 4 := ⟨_, rfl⟩
 have hlh : 0 ≤ lo ∧ lo ≤ x ∧ x ≤ hi ∧ hi ≤ 100 := by omega
 replace hlo := hidT hlo
 replace hhi := hidT hhi
 refine TW.region ?_
 refine TL.p Pu.mv ?_
 refine TL.p (Pu.iv Pu.mn hmo9.out.symm) ?_
 refine TL.p Pu.as ?_
 refine TL.nil (TQ.thenN (hY25 _ _ ?_))
 refine TW.seq fun Y27 hY27 => TW.region ?_
 refine TL.p Pu.mv ?_
 refine TL.p Pu.mv ?_
 refine TL.p Pu.ml ?_
 refine TL.p Pu.mv ?_
 refine TL.p Pu.ad ?_
 refine TL.cr rfl (enters Tryz.func17 rfl rfl) (fun w hw => by
   have h9 := choose2_x (gc := gc) (7 * (i : Int) + (k : Int)) (by omega) (hGR.sat hw Apart.nil)
   rw [← hu1.out] at h9
   exact h9) ?_
 refine TL.p (Pu.cv (v := .int .i64 (u1)) rfl (fun w => by go_simp; rw [IntWalk.i64_in (u1) (by omega)])) ?_
 refine TL.p (Pu.iv Pu.mv hm9.out) ?_
 refine TL.p Pu.ad ?_
 refine TL.p (Pu.iv Pu.rm hx.out.symm) ?_
 refine TL.p Pu.as ?_
 refine TL.nil (TQ.thenN (hY27 _ _ ?_))
 refine TW.seq fun Y28 hY28 => ?_
 refine TW.seq fun Y29 hY29 => TW.region ?_
 refine TL.p Pu.mv ?_
 refine TL.p Pu.lt ?_
 refine TL.nil (TQ.thenN (hY29 _ _ ?_))
 refine TW.condF rfl ((decide_eq_false (by omega))) ?_
 refine TW.seq fun Y30 hY30 => TW.region ?_
 refine TL.p Pu.mv ?_
 refine TL.p Pu.mv ?_
 refine TL.p Pu.sb ?_
 refine TL.p Pu.as ?_
 refine TL.nil (TQ.thenN (hY30 _ _ ?_))
 refine TW.region ?_
 refine TL.p Pu.mv ?_
 refine TL.p Pu.mv ?_
 refine TL.p Pu.ad ?_
 refine TL.p Pu.as ?_
 refine TL.nil (TQ.thenN (hY28 _ _ ?_))
 refine TW.seq fun Y31 hY31 => ?_
 refine TW.dw 7 ?_
 refine RK.tk Pu.mv ?_
 refine RK.tk (Pu.ea ty_ar73) ?_
 refine RK.tk (Pu.ld ty_sc72) ?_
 refine RK.tk Pu.mv ?_
 refine RK.tk Pu.mv ?_
 refine RK.keep ?_
 refine RK.keep ?_
 refine RK.ch [false, true] ?_ trivial
 refine WK.cr rfl (enters Tryz.func18 rfl rfl) (fun w hw => by
   exact span2_any _ _ _) ?_
 refine WK.p (by first | exact Pu.nn | exact Pu.nc) ?_
 refine WK.n ?_
 refine TL.se ty_sz36 (hput := put7 (k := k) (show k < 7 by omega)) ?_
 refine TL.nil (TQ.thenN (hY31 _ _ ?_))
 refine TW.dw 28 ?_
 refine RK.tk Pu.mv ?_
 refine RK.tk (Pu.ea ty_ar73) ?_
 refine RK.tk (Pu.ld ty_sc72) ?_
 refine RK.tk Pu.mv ?_
 refine RK.tk Pu.mv ?_
 refine RK.tk Pu.mv ?_
 refine RK.tk Pu.ml ?_
 refine RK.tk Pu.mv ?_
 refine RK.tk Pu.ad ?_
 refine RK.tk Pu.ad ?_
 refine RK.keep ?_
 refine RK.keep ?_
 refine RK.keep ?_
 refine RK.keep ?_
 refine RK.keep ?_
 refine RK.tk Pu.mv ?_
 refine RK.tk Pu.mv ?_
 refine RK.tk Pu.mv ?_
 refine RK.tk Pu.ml ?_
 refine RK.tk Pu.mv ?_
 refine RK.tk Pu.ad ?_
 refine RK.tk Pu.ad ?_
 refine RK.keep ?_
 refine RK.keep ?_
 refine RK.keep ?_
 refine RK.keep ?_
 refine RK.keep ?_
 refine RK.keep ?_
 refine RK.ch [false, true, true, true, true, false, true, true, true, false, true] ?_ trivial
 refine WK.cr rfl (enters Tryz.func17 rfl rfl) (fun w hw => by
   have h9 := choose2_x (gc := gc) (7 * (i : Int) + (k : Int) + 1) (by omega) (hGR.sat hw Apart.nil)
   rw [← hu2.out] at h9
   exact h9) ?_
 refine WK.p Pu.rmW ?_
 refine WK.p (Pu.cv (v := .int .i64 (u2 % 4)) rfl (fun w => by go_simp; rw [IntWalk.i64_in (u2 % 4) (by omega)])) ?_
 refine WK.p Pu.sb ?_
 refine WK.p (Pu.iv Pu.mx hlo.out.symm) ?_
 refine WK.cr rfl (enters Tryz.func17 rfl rfl) (fun w hw => by
   have h9 := choose2_x (gc := gc) (7 * (i : Int) + (k : Int) + 2) (by omega) (hGR.sat hw Apart.nil)
   rw [← hu3.out] at h9
   exact h9) ?_
 refine WK.p Pu.rmW ?_
 refine WK.p (Pu.cv (v := .int .i64 (u3 % 4)) rfl (fun w => by go_simp; rw [IntWalk.i64_in (u3 % 4) (by omega)])) ?_
 refine WK.p (Pu.iv Pu.ad hhi.out.symm) ?_
 refine WK.cr rfl (enters Tryz.func18 rfl rfl) (fun w hw => by
   exact span2_any _ _ _) ?_
 refine WK.p (by first | exact Pu.nn | exact Pu.nc) ?_
 refine WK.n ?_
 refine TL.se ty_sz36 (hput := put7 (k := k) (show k < 7 by omega)) ?_
 refine TL.nil ?_
 refine TQ.blkN ?_
 refine TQ.thenN (hY22 _ _ ?_)
 refine TW.region ?_
 refine TL.p Pu.ad ?_
 refine TL.p Pu.mv ?_
 refine TL.nil ?_
 refine TQ.thenN (hZ1 (k + 1) (putR rr k lo hi) (putR tt k x x) _ _ _ _ _ ?_ ?_ fs9 ?_)
 exact ⟨by omega, by first | exact hin.come (by omega) (by omega) hlh | exact hin.go (by omega) (by omega) (by omega) hlh⟩
 exact zom9
 exact KSub.own pk9 (fun j hj => upd0 hj) (KSub.own pk9 (fun j hj => upd0 hj) ks9)
 try simp only [zcb9] at hc3
 have hk3 : k < 3 := by omega
 obtain ⟨mo, hmo9⟩ : ∃ z : Int, z = 12 := ⟨_, rfl⟩
 have hmo : 0 ≤ mo ∧ mo ≤ 12 ∧ mo = 12 := by omega
 have hm9 := hidT (show (12 : Int) = mo by omega)
 replace hmo9 := hidT hmo9
 have hx1 := Int.emod_nonneg u1 (show mo + 1 ≠ 0 by omega)
 have hx2 := Int.emod_lt_of_pos u1 (show 0 < mo + 1 by omega)
 obtain ⟨x, hx⟩ : ∃ z : Int, z = u1 % (mo + 1) := ⟨_, rfl⟩
 rw [← hx] at hx1 hx2
 replace hx := hidT hx
 obtain ⟨lo, hlo⟩ : ∃ z : Int, z = max 0 (x - u2 % 4) := ⟨_, rfl⟩
 obtain ⟨hi, hhi⟩ : ∃ z : Int, z = x + u3 % 4 := ⟨_, rfl⟩
 have hlh : 0 ≤ lo ∧ lo ≤ x ∧ x ≤ hi ∧ hi ≤ 100 := by omega
 replace hlo := hidT hlo
 replace hhi := hidT hhi
 refine TW.skip ?_
 refine TQ.thenN (hY25 _ _ ?_)
 refine TW.seq fun Y32 hY32 => TW.region ?_
 refine TL.p Pu.mv ?_
 refine TL.p Pu.mv ?_
 refine TL.p Pu.ml ?_
 refine TL.p Pu.mv ?_
 refine TL.p Pu.ad ?_
 refine TL.cr rfl (enters Tryz.func17 rfl rfl) (fun w hw => by
   have h9 := choose2_x (gc := gc) (7 * (i : Int) + (k : Int)) (by omega) (hGR.sat hw Apart.nil)
   rw [← hu1.out] at h9
   exact h9) ?_
 refine TL.p (Pu.cv (v := .int .i64 (u1)) rfl (fun w => by go_simp; rw [IntWalk.i64_in (u1) (by omega)])) ?_
 refine TL.p (Pu.iv Pu.mv hm9.out) ?_
 refine TL.p Pu.ad ?_
 refine TL.p (Pu.iv Pu.rm hx.out.symm) ?_
 refine TL.p Pu.as ?_
 refine TL.nil (TQ.thenN (hY32 _ _ ?_))
 refine TW.seq fun Y33 hY33 => ?_
 refine TW.seq fun Y34 hY34 => TW.region ?_
 refine TL.p Pu.mv ?_
 refine TL.p Pu.lt ?_
 refine TL.nil (TQ.thenN (hY34 _ _ ?_))
 refine TW.condT rfl ((decide_eq_true (by omega))) ?_
 refine TW.seq fun Y35 hY35 => TW.region ?_
 refine TL.p Pu.mv ?_
 refine TL.p Pu.mv ?_
 refine TL.p Pu.ad ?_
 refine TL.p Pu.as ?_
 refine TL.nil (TQ.thenN (hY35 _ _ ?_))
 refine TW.region ?_
 refine TL.p Pu.mv ?_
 refine TL.p Pu.mv ?_
 refine TL.p Pu.ad ?_
 refine TL.p Pu.as ?_
 refine TL.nil (TQ.thenN (hY33 _ _ ?_))
 refine TW.seq fun Y36 hY36 => ?_
 refine TW.dw 7 ?_
 refine RK.tk Pu.mv ?_
 refine RK.tk (Pu.ea ty_ar73) ?_
 refine RK.tk (Pu.ld ty_sc72) ?_
 refine RK.tk Pu.mv ?_
 refine RK.tk Pu.mv ?_
 refine RK.keep ?_
 refine RK.keep ?_
 refine RK.ch [false, true] ?_ trivial
 refine WK.cr rfl (enters Tryz.func18 rfl rfl) (fun w hw => by
   exact span2_any _ _ _) ?_
 refine WK.p (by first | exact Pu.nn | exact Pu.nc) ?_
 refine WK.n ?_
 refine TL.se ty_sz36 (hput := put7 (k := k) (show k < 7 by omega)) ?_
 refine TL.nil (TQ.thenN (hY36 _ _ ?_))
 refine TW.dw 28 ?_
 refine RK.tk Pu.mv ?_
 refine RK.tk (Pu.ea ty_ar73) ?_
 refine RK.tk (Pu.ld ty_sc72) ?_
 refine RK.tk Pu.mv ?_
 refine RK.tk Pu.mv ?_
 refine RK.tk Pu.mv ?_
 refine RK.tk Pu.ml ?_
 refine RK.tk Pu.mv ?_
 refine RK.tk Pu.ad ?_
 refine RK.tk Pu.ad ?_
 refine RK.keep ?_
 refine RK.keep ?_
 refine RK.keep ?_
 refine RK.keep ?_
 refine RK.keep ?_
 refine RK.tk Pu.mv ?_
 refine RK.tk Pu.mv ?_
 refine RK.tk Pu.mv ?_
 refine RK.tk Pu.ml ?_
 refine RK.tk Pu.mv ?_
 refine RK.tk Pu.ad ?_
 refine RK.tk Pu.ad ?_
 refine RK.keep ?_
 refine RK.keep ?_
 refine RK.keep ?_
 refine RK.keep ?_
 refine RK.keep ?_
 refine RK.keep ?_
 refine RK.ch [false, true, true, true, true, false, true, true, true, false, true] ?_ trivial
 refine WK.cr rfl (enters Tryz.func17 rfl rfl) (fun w hw => by
   have h9 := choose2_x (gc := gc) (7 * (i : Int) + (k : Int) + 1) (by omega) (hGR.sat hw Apart.nil)
   rw [← hu2.out] at h9
   exact h9) ?_
 refine WK.p Pu.rmW ?_
 refine WK.p (Pu.cv (v := .int .i64 (u2 % 4)) rfl (fun w => by go_simp; rw [IntWalk.i64_in (u2 % 4) (by omega)])) ?_
 refine WK.p Pu.sb ?_
 refine WK.p (Pu.iv Pu.mx hlo.out.symm) ?_
 refine WK.cr rfl (enters Tryz.func17 rfl rfl) (fun w hw => by
   have h9 := choose2_x (gc := gc) (7 * (i : Int) + (k : Int) + 2) (by omega) (hGR.sat hw Apart.nil)
   rw [← hu3.out] at h9
   exact h9) ?_
 refine WK.p Pu.rmW ?_
 refine WK.p (Pu.cv (v := .int .i64 (u3 % 4)) rfl (fun w => by go_simp; rw [IntWalk.i64_in (u3 % 4) (by omega)])) ?_
 refine WK.p (Pu.iv Pu.ad hhi.out.symm) ?_
 refine WK.cr rfl (enters Tryz.func18 rfl rfl) (fun w hw => by
   exact span2_any _ _ _) ?_
 refine WK.p (by first | exact Pu.nn | exact Pu.nc) ?_
 refine WK.n ?_
 refine TL.se ty_sz36 (hput := put7 (k := k) (show k < 7 by omega)) ?_
 refine TL.nil ?_
 refine TQ.blkN ?_
 refine TQ.thenN (hY22 _ _ ?_)
 refine TW.region ?_
 refine TL.p Pu.ad ?_
 refine TL.p Pu.mv ?_
 refine TL.nil ?_
 refine TQ.thenN (hZ1 (k + 1) (putR rr k lo hi) (putR tt k x x) _ _ _ _ _ ?_ ?_ fs9 ?_)
 exact ⟨by omega, by first | exact hin.come (by omega) (by omega) hlh | exact hin.go (by omega) (by omega) (by omega) hlh⟩
 exact zom9
 exact KSub.own pk9 (fun j hj => upd0 hj) (KSub.own pk9 (fun j hj => upd0 hj) ks9)
 try simp only [zcb9] at hc2
 obtain rfl : k = 6 := by omega
 have cu5 := chB_bd hu (7 * (i : Int) + 6).toNat
 obtain ⟨u5, hu5⟩ : ∃ z, z = chB gn u (7 * (i : Int) + 6).toNat := ⟨_, rfl⟩
 rw [← hu5] at cu5
 replace hu5 := hidT hu5
 have cu6 := chB_bd hu (7 * (i : Int) + 5).toNat
 obtain ⟨u6, hu6⟩ : ∃ z, z = chB gn u (7 * (i : Int) + 5).toNat := ⟨_, rfl⟩
 rw [← hu6] at cu6
 replace hu6 := hidT hu6
 obtain ⟨lo6, hlo6⟩ : ∃ z : Int, z = max 0 (now - u5 % 9) := ⟨_, rfl⟩
 obtain ⟨hi6, hhi6⟩ : ∃ z : Int, z = now + u6 % 9 := ⟨_, rfl⟩
 have hl6 : 0 ≤ lo6 ∧ lo6 ≤ now ∧ now ≤ hi6 ∧ hi6 ≤ now + 100 := by omega
 replace hlo6 := hidT hlo6
 replace hhi6 := hidT hhi6
 obtain ⟨R6, hR6⟩ : ∃ z, z = putR rr 6 lo6 hi6 := ⟨_, rfl⟩
 obtain ⟨T6, hT6⟩ : ∃ z, z = putR tt 6 now now := ⟨_, rfl⟩
 have hnx := hX.next (by omega) hin hl6
 rw [← hR6, ← hT6] at hnx
 replace hR6 := hidT hR6
 replace hT6 := hidT hT6
 refine TW.exit ?_
 refine TQ.thenX ?_
 refine TQ.thenX ?_
 refine TQ.blkX ?_
 refine TQ.thenN (hY18 _ _ ?_)
 refine TW.seq fun Y37 hY37 => ?_
 refine TW.dw 6 ?_
 refine RK.tk (Pu.ea ty_ar73 (q := 6) (hk := rfl)) ?_
 refine RK.tk (Pu.ld ty_sc72) ?_
 refine RK.tk Pu.mv ?_
 refine RK.tk Pu.mv ?_
 refine RK.keep ?_
 refine RK.keep ?_
 refine RK.ch [false, true] ?_ trivial
 refine WK.cr rfl (enters Tryz.func18 rfl rfl) (fun w hw => by
   exact span2_any _ _ _) ?_
 refine WK.p (by first | exact Pu.nn | exact Pu.nc) ?_
 refine WK.n ?_
 refine TL.se ty_sz36 (hput := put7 (k := 6) (by decide)) ?_
 refine TL.nil (TQ.thenN (hY37 _ _ ?_))
 refine TW.seq fun Y38 hY38 => ?_
 refine TW.dw 23 ?_
 refine RK.tk (Pu.ea ty_ar73 (q := 6) (hk := rfl)) ?_
 refine RK.tk (Pu.ld ty_sc72) ?_
 refine RK.tk Pu.mv ?_
 refine RK.tk Pu.mv ?_
 refine RK.tk Pu.mv ?_
 refine RK.tk Pu.ml ?_
 refine RK.tk Pu.ad ?_
 refine RK.keep ?_
 refine RK.keep ?_
 refine RK.keep ?_
 refine RK.keep ?_
 refine RK.keep ?_
 refine RK.tk Pu.mv ?_
 refine RK.tk Pu.mv ?_
 refine RK.tk Pu.mv ?_
 refine RK.tk Pu.ml ?_
 refine RK.tk Pu.ad ?_
 refine RK.keep ?_
 refine RK.keep ?_
 refine RK.keep ?_
 refine RK.keep ?_
 refine RK.keep ?_
 refine RK.keep ?_
 refine RK.ch [false, true, true, true, true, false, true, true, true, false, true] ?_ trivial
 refine WK.cr rfl (enters Tryz.func17 rfl rfl) (fun w hw => by
   have h9 := choose2_x (gc := gc) (7 * (i : Int) + 6) (by omega) (hGR.sat hw Apart.nil)
   rw [← hu5.out] at h9
   exact h9) ?_
 refine WK.p Pu.rmW ?_
 refine WK.p (Pu.cv (v := .int .i64 (u5 % 9)) rfl (fun w => by go_simp; rw [IntWalk.i64_in (u5 % 9) (by omega)])) ?_
 refine WK.p Pu.sb ?_
 refine WK.p (Pu.iv Pu.mx hlo6.out.symm) ?_
 refine WK.cr rfl (enters Tryz.func17 rfl rfl) (fun w hw => by
   have h9 := choose2_x (gc := gc) (7 * (i : Int) + 5) (by omega) (hGR.sat hw Apart.nil)
   rw [← hu6.out] at h9
   exact h9) ?_
 refine WK.p Pu.rmW ?_
 refine WK.p (Pu.cv (v := .int .i64 (u6 % 9)) rfl (fun w => by go_simp; rw [IntWalk.i64_in (u6 % 9) (by omega)])) ?_
 refine WK.p (Pu.iv Pu.ad hhi6.out.symm) ?_
 refine WK.cr rfl (enters Tryz.func18 rfl rfl) (fun w hw => by
   exact span2_any _ _ _) ?_
 refine WK.p (by first | exact Pu.nn | exact Pu.nc) ?_
 refine WK.n ?_
 refine TL.se ty_sz36 (hput := put7 (k := 6) (by decide)) ?_
 refine TL.nil (TQ.thenN (hY38 _ _ ?_))
 refine TW.subK (KSub.own pk9 (s := fun _ => rowL R6) (fun j hj => (upd0 hj).trans (by rw [hR6.out])) (KSub.own pk9 (s := fun _ => rowL T6) (fun j hj => (upd0 hj).trans (by rw [hT6.out])) (KSub.refl _))) ?_
 refine TW.bo (b := b2) (cs := [.int .i64 (R6 0), .int .i64 (R6 1), .int .i64 (R6 2), .int .i64 (R6 3), .int .i64 (R6 4), .int .i64 (R6 5), .int .i64 (R6 6), .int .i64 (R6 7), .int .i64 (R6 8), .int .i64 (R6 9), .int .i64 (R6 10), .int .i64 (R6 11), .int .i64 (R6 12), .int .i64 (R6 13)]) pk9 rfl ?_
 refine TW.bo (b := b3) (cs := [.int .i64 (T6 0), .int .i64 (T6 1), .int .i64 (T6 2), .int .i64 (T6 3), .int .i64 (T6 4), .int .i64 (T6 5), .int .i64 (T6 6), .int .i64 (T6 7), .int .i64 (T6 8), .int .i64 (T6 9), .int .i64 (T6 10), .int .i64 (T6 11), .int .i64 (T6 12), .int .i64 (T6 13)]) pk9 rfl ?_
 refine TW.expk [.blk b2 71 [.int .i64 (R6 0), .int .i64 (R6 1), .int .i64 (R6 2), .int .i64 (R6 3), .int .i64 (R6 4), .int .i64 (R6 5), .int .i64 (R6 6), .int .i64 (R6 7), .int .i64 (R6 8), .int .i64 (R6 9), .int .i64 (R6 10), .int .i64 (R6 11), .int .i64 (R6 12), .int .i64 (R6 13)], .blk b3 71 [.int .i64 (T6 0), .int .i64 (T6 1), .int .i64 (T6 2), .int .i64 (T6 3), .int .i64 (T6 4), .int .i64 (T6 5), .int .i64 (T6 6), .int .i64 (T6 7), .int .i64 (T6 8), .int .i64 (T6 9), .int .i64 (T6 10), .int .i64 (T6 11), .int .i64 (T6 12), .int .i64 (T6 13)]] (fun (⟨A3, c3, A7, c7⟩ : Option Addr × Nat × Option Addr × Nat) => ([(56, .int .i64 (i : Int)), (10, .slice A3 (i + 1) c3), (11, .slice A7 (i + 1) c7), (12, .int .i64 cm), (13, .int .i64 wt), (14, .int .i64 now), (55, .int .i64 (m : Int)), (8, .int .i64 c0), (9, .pointer (some ⟨b1, 0, none⟩)), (7, .bool true), (1, .slice G gn gc)] : Fr)) (fun (⟨A3, c3, A7, c7⟩ : Option Addr × Nat × Option Addr × Nat) => [.own A3 (i + 1) c3 71 14 (catR i (fun j => rowL (X.f j)) (fun _ => rowL R6)), .own A7 (i + 1) c7 71 14 (catR i (fun j => rowL (X.g j)) (fun _ => rowL T6)), .blk b1 36 [.int .i64 fa, .int .i64 fb]]) ?_ (fun hE => ?_)
 rintro ⟨A3, c3, A7, c7⟩
 refine TQ.blkN ?_
 refine TQ.thenN (hY14 _ _ ?_)
 refine TW.region ?_
 refine TL.p Pu.ad ?_
 refine TL.p Pu.mv ?_
 refine TL.nil ?_
 refine TQ.thenN (hZ0 (i + 1) A3 c3 A7 c7 (X.nx i R6 T6 now cm wt) _ _ ?_ ?_ fs9 ?_)
 exact ⟨by omega, hnx⟩
 exact zom9
 exact KSub.own pk9 (fun j hj => (cat_up j).resolve_right (by omega)) (KSub.own pk9 (fun j hj => (cat_up j).resolve_right (by omega)) ks9)
 refine RG.tk 0 rfl Pu.mv ?_
 refine RG.tk 1 rfl (Pu.lds ty_ag71) ?_
 refine RG.tk 4 rfl Pu.mv ?_
 refine RG.tk 5 rfl (Pu.lds ty_ag71) ?_
 refine RG.a2 2 6 rfl rfl (fun X2 hX2 => ?_) (fun X6 hX6 => ?_)
 refine TL.m Mk.bl ?_
 intro x2
 refine TL.nil ?_
 refine TQ.nxt (hX2 _ _ hl9 ?_)
 refine RG.a2 3 6 rfl rfl (fun X3 hX3 => ?_) (fun X6 hX6 => ?_)
 first | refine TL.a0 ty_et69 ?_ | refine TL.ap ty_et69 ?_
 intro A3 c3
 refine TL.nil ?_
 refine TQ.nxt (hX3 _ _ hl9 ?_)
 refine RG.a1 6 rfl (fun X6 hX6 => ?_)
 refine TL.m Mk.bl ?_
 intro x6
 refine TL.nil ?_
 refine TQ.nxt (hX6 _ _ hl9 ?_)
 refine RG.a1 7 rfl (fun X7 hX7 => ?_)
 first | refine TL.a0 ty_et69 ?_ | refine TL.ap ty_et69 ?_
 intro A7 c7
 refine TL.nil ?_
 refine TQ.nxt (hX7 _ _ hl9 ?_)
 refine RG.tk 8 rfl Pu.as ?_
 refine RG.tk 9 rfl Pu.as ?_
 exact RG.nil (TQ.sub fs9 kt9 (hE ⟨A3, c3, A7, c7⟩)) (by kernel_rfl)
 refine TL.m Mk.bl ?_
 intro x6
 refine TL.nil ?_
 refine TQ.nxt (hX6 _ _ hl9 ?_)
 refine RG.a1 3 rfl (fun X3 hX3 => ?_)
 first | refine TL.a0 ty_et69 ?_ | refine TL.ap ty_et69 ?_
 intro A3 c3
 refine TL.nil ?_
 refine TQ.nxt (hX3 _ _ hl9 ?_)
 refine RG.a1 7 rfl (fun X7 hX7 => ?_)
 first | refine TL.a0 ty_et69 ?_ | refine TL.ap ty_et69 ?_
 intro A7 c7
 refine TL.nil ?_
 refine TQ.nxt (hX7 _ _ hl9 ?_)
 refine RG.tk 8 rfl Pu.as ?_
 refine RG.tk 9 rfl Pu.as ?_
 exact RG.nil (TQ.sub fs9 kt9 (hE ⟨A3, c3, A7, c7⟩)) (by kernel_rfl)
 refine TL.m Mk.bl ?_
 intro x6
 refine TL.nil ?_
 refine TQ.nxt (hX6 _ _ hl9 ?_)
 refine RG.a1 2 rfl (fun X2 hX2 => ?_)
 refine TL.m Mk.bl ?_
 intro x2
 refine TL.nil ?_
 refine TQ.nxt (hX2 _ _ hl9 ?_)
 refine RG.a1 3 rfl (fun X3 hX3 => ?_)
 first | refine TL.a0 ty_et69 ?_ | refine TL.ap ty_et69 ?_
 intro A3 c3
 refine TL.nil ?_
 refine TQ.nxt (hX3 _ _ hl9 ?_)
 refine RG.a1 7 rfl (fun X7 hX7 => ?_)
 first | refine TL.a0 ty_et69 ?_ | refine TL.ap ty_et69 ?_
 intro A7 c7
 refine TL.nil ?_
 refine TQ.nxt (hX7 _ _ hl9 ?_)
 refine RG.tk 8 rfl Pu.as ?_
 refine RG.tk 9 rfl Pu.as ?_
 exact RG.nil (TQ.sub fs9 kt9 (hE ⟨A3, c3, A7, c7⟩)) (by kernel_rfl)
 try simp only [zcb9] at hc1
 obtain rfl : i = m := by omega
 have hXn := hX.nb
 have hXy := hX.yn
 have hXe := hidT hX.eq
 have hXc := hX.ct
 obtain ⟨h0, hE⟩ := hX.fin (fa := fa) (fb := fb) hm40 (by omega)
 obtain ⟨cn, hcn⟩ : ∃ z, z = counts fa fb X.f i := ⟨_, rfl⟩
 obtain ⟨kf, hkf⟩ : ∃ z, z = known X.f (counts fa fb X.f i) := ⟨_, rfl⟩
 rw [← hkf, ← hcn] at hE
 have hE0 := hE.c0
 have hEk := hE.kn
 have hEc := hE.kc
 replace h0 := hidT h0
 replace hcn := hidT hcn
 replace hkf := hidT hkf
 refine TW.exit ?_
 refine TQ.thenX ?_
 refine TQ.thenX ?_
 refine TQ.blkX ?_
 refine TQ.thenN (hY10 _ _ ?_)
 refine TW.seq fun Y39 hY39 => ?_
 refine TW.seq fun Y40 hY40 => TW.region ?_
 refine TL.p Pu.mv ?_
 refine TL.p Pu.gt ?_
 refine TL.lit (t := 167) (b' := false) rfl ((decide_eq_false (by omega))) ?_
 refine TL.p Pu.mv ?_
 refine TL.gd Pu.mv ?_
 refine TL.gd Pu.mv ?_
 refine TL.gd Pu.ad ?_
 refine TL.gd Pu.mv ?_
 refine TL.gd Pu.sb ?_
 refine TL.gd Pu.mv ?_
 refine TL.gd Pu.ne ?_
 refine TL.lit (t := 175) (b' := false) rfl ((by rw [decide_eq_true (show c0 + X.cm - X.wt = X.now by have := hXe.out; omega)]; rfl)) ?_
 refine TL.p Pu.kf ?_
 refine TL.nil (TQ.thenN (hY40 _ _ ?_))
 refine TW.condF rfl rfl ?_
 refine TW.skip ?_
 refine TQ.thenN (hY39 _ _ ?_)
 refine TW.seq fun Y41 hY41 => TW.region ?_
 refine TL.p (Pu.lds ty_ag36) ?_
 refine TL.p Pu.mv ?_
 refine TL.call (M := []) rfl (enters Tryz.func30 rfl rfl) (List.Perm.refl _) rfl (fun w hw => by
   have ho9 := hw.holds (.own A1 i c1 71 14 (fun j => rowL (X.f j))) (Pick.mem pk9)
   exact lw_tal (nC := i + 1) (nK := i) (iC := 0) (cC := 0) (by rw [h0.out]; rfl) (by rw [h0.out]; rfl) (by rw [h0.out]; rfl) (by rw [h0.out]; rfl) hcn.out.symm hkf.out.symm (OwnR.rdr ho9) (fun e9 => by rw [e9] at ho9; exact (OwnR.noneZero ho9).symm) (by omega)) ?_
 rintro ⟨PC, pc, PK, pk⟩
 refine TL.p Pu.mv ?_
 refine TL.p Pu.ex ?_
 refine TL.p Pu.ex ?_
 refine TL.p Pu.ex ?_
 refine TL.p Pu.ex ?_
 refine TL.p Pu.as ?_
 refine TL.p Pu.as ?_
 refine TL.p Pu.as ?_
 refine TL.p Pu.as ?_
 refine TL.nil (TQ.thenN (hY41 _ _ ?_))
 refine TW.seq fun Y42 hY42 => ?_
 refine TW.seq fun Y43 hY43 => TW.region ?_
 refine TL.p Pu.mv ?_
 refine TL.p Pu.ne ?_
 refine TL.lit (t := 186) (b' := false) rfl (rfl) ?_
 refine TL.p Pu.mv ?_
 refine TL.gd Pu.mv ?_
 refine TL.gd Pu.ne ?_
 refine TL.lit (t := 189) (b' := false) rfl (rfl) ?_
 refine TL.p Pu.kf ?_
 refine TL.p Pu.mv ?_
 refine TL.gd Pu.mv ?_
 refine TL.gd (Pu.ln Tryz.underlying31) ?_
 refine TL.gd Pu.mv ?_
 refine TL.gd (Pu.ln Tryz.underlying69) ?_
 refine TL.gd Pu.ad ?_
 refine TL.gd Pu.ne ?_
 refine TL.lit (t := 197) (b' := false) rfl ((by simp)) ?_
 refine TL.p Pu.kf ?_
 refine TL.p Pu.mv ?_
 refine TL.gd Pu.mv ?_
 refine TL.gd (Pu.ln Tryz.underlying69) ?_
 refine TL.gd Pu.mv ?_
 refine TL.gd (Pu.ln Tryz.underlying69) ?_
 refine TL.gd Pu.ne ?_
 refine TL.lit (t := 204) (b' := false) rfl ((by simp)) ?_
 refine TL.p Pu.kf ?_
 refine TL.nil (TQ.thenN (hY43 _ _ ?_))
 refine TW.condF rfl rfl ?_
 refine TW.skip ?_
 refine TQ.thenN (hY42 _ _ ?_)
 refine TW.rebase fun w1 hw1 => ?_
 have rA := OwnR.rdr (hw1.holds (.own A1 i c1 71 14 (fun j => rowL (X.f j))) (Pick.mem pk9))
 have rT := OwnR.rdr (hw1.holds (.own A2 i c2 71 14 (fun j => rowL (X.g j))) (Pick.mem pk9))
 have rC := OwnR.rdr (hw1.holds (.own PC (i + 1) pc 36 2 (fun j => spL (cn j).1 (cn j).2)) (Pick.mem pk9))
 have rK := OwnR.rdr (hw1.holds (.own PK i pk 71 14 (fun j => rowL (kf j))) (Pick.mem pk9))
 have oB := OldB.of_blk (hw1.holds (.blk b1 36 [.int .i64 fa, .int .i64 fb]) (Pick.mem pk9))
 clear hGR
 refine TW.seq fun Y44 hY44 => ?_
 refine TW.seq fun Y45 hY45 => ?_
 refine TW.dw 32 ?_
 refine RK.tk Pu.mv ?_
 refine RK.tk Pu.mv ?_
 refine RK.tk (Pu.el ty_et31 (q := 0) (hk := rfl) (h1 := by omega) (hA := CellsN.old rC Apart.nil (show 0 < i + 1 by omega) SubL.nil)) ?_
 refine RK.tk (Pu.fe ty_fa36_0 (hq := CellsN.old rC Apart.nil (show 0 < i + 1 by omega) SubL.nil)) ?_
 refine RK.tk (Pu.ld ty_sc3 (hq := (CellsN.old (m := 1) rC Apart.nil (show 0 < i + 1 by omega) (by repeat (first | exact SubL.nil | apply SubL.take | apply SubL.drop))).1)) ?_
 refine RK.tk (Pu.bv Pu.lt (decide_eq_false (by omega))) ?_
 refine RK.tk Pu.mv ?_
 refine RK.tk Pu.mv ?_
 refine RK.tk Pu.mv ?_
 refine RK.tk (Pu.el ty_et31 (q := 0) (hk := rfl) (h1 := by omega) (hA := CellsN.old rC Apart.nil (show 0 < i + 1 by omega) SubL.nil)) ?_
 refine RK.tk (Pu.fe ty_fa36_1 (hq := CellsN.old rC Apart.nil (show 0 < i + 1 by omega) SubL.nil)) ?_
 refine RK.tk (Pu.ld ty_sc3 (hq := (CellsN.old (m := 1) rC Apart.nil (show 0 < i + 1 by omega) (by repeat (first | exact SubL.nil | apply SubL.take | apply SubL.drop))).1)) ?_
 refine RK.tk (Pu.bv Pu.gt (decide_eq_false (by omega))) ?_
 refine RK.tk Pu.kf ?_
 refine RK.tk Pu.mv ?_
 refine RK.tk Pu.mv ?_
 refine RK.tk (Pu.el ty_et31 (q := 0) (hk := rfl) (h1 := by omega) (hA := CellsN.old rC Apart.nil (show 0 < i + 1 by omega) SubL.nil)) ?_
 refine RK.tk (Pu.fe ty_fa36_0 (hq := CellsN.old rC Apart.nil (show 0 < i + 1 by omega) SubL.nil)) ?_
 refine RK.tk (Pu.ld ty_sc3 (hq := (CellsN.old (m := 1) rC Apart.nil (show 0 < i + 1 by omega) (by repeat (first | exact SubL.nil | apply SubL.take | apply SubL.drop))).1)) ?_
 refine RK.tk (by first | exact Pu.fb ty_fa36_0 | exact Pu.fe ty_fa36_0) ?_
 refine RK.tk (Pu.ldo ty_sc3) ?_
 refine RK.tk (Pu.bv Pu.lt (decide_eq_false (by omega))) ?_
 refine RK.tk Pu.kf ?_
 refine RK.tk Pu.mv ?_
 refine RK.tk Pu.mv ?_
 refine RK.tk (Pu.el ty_et31 (q := 0) (hk := rfl) (h1 := by omega) (hA := CellsN.old rC Apart.nil (show 0 < i + 1 by omega) SubL.nil)) ?_
 refine RK.tk (Pu.fe ty_fa36_1 (hq := CellsN.old rC Apart.nil (show 0 < i + 1 by omega) SubL.nil)) ?_
 refine RK.tk (Pu.ld ty_sc3 (hq := (CellsN.old (m := 1) rC Apart.nil (show 0 < i + 1 by omega) (by repeat (first | exact SubL.nil | apply SubL.take | apply SubL.drop))).1)) ?_
 refine RK.tk (by first | exact Pu.fb ty_fa36_1 | exact Pu.fe ty_fa36_1) ?_
 refine RK.tk (Pu.ldo ty_sc3) ?_
 refine RK.tk (Pu.bv Pu.gt (decide_eq_false (by omega))) ?_
 refine RK.tk Pu.kf ?_
 refine RK.ch [] ?_ trivial
 refine WK.n ?_
 refine TL.nil (TQ.thenN (hY45 _ _ ?_))
 refine TW.condF rfl rfl ?_
 refine TW.skip ?_
 refine TQ.thenN (hY44 _ _ ?_)
 refine TW.seq fun Y46 hY46 => ?_
 refine TW.seq fun Y47 hY47 => TW.region ?_
 refine TL.p Pu.mv ?_
 refine TL.p (Pu.ln Tryz.underlying69) ?_
 refine TL.p Pu.mv ?_
 refine TL.nil (TQ.thenN (hY47 _ _ ?_))
 refine TW.block ?_
 refine TW.loop1 (fun (j : Nat) => [(240, .int .i64 (j : Int)), (239, .int .i64 (i : Int)), (10, .slice A1 i c1), (11, .slice A2 i c2), (23, .slice PC (i + 1) pc), (24, .slice PK i pk), (7, .bool true)]) (fun j => []) (fun j => j ≤ i) (fun j => i - j) 0 fs9 ?_ ?_ ?_
 exact ks9
 exact Nat.zero_le _
 rintro j hj Z2 hZ2
 refine TW.seq fun Y48 hY48 => TW.region ?_
 refine TL.p Pu.lt ?_
 refine TL.nil (TQ.thenN (hY48 _ _ ?_))
 refine TW.seq fun Y49 hY49 => ?_
 refine TW.cond rfl (fun hc8 => ?_) (fun hc8 => ?_)
 try simp only [zcb9] at hc8
 have hjl : j < i := by omega
 have hEc1 := hEc j
 refine TW.skip ?_
 refine TQ.thenN (hY49 _ _ ?_)
 refine TW.seq fun Y50 hY50 => ?_
 refine TW.block ?_
 refine TW.seq fun Y51 hY51 => TW.region ?_
 refine TL.p Pu.mv ?_
 refine TL.p Pu.as ?_
 refine TL.nil (TQ.thenN (hY51 _ _ ?_))
 refine TW.seq fun Y52 hY52 => ?_
 refine TW.dw 15 ?_
 refine RK.tk Pu.mv ?_
 refine RK.tk Pu.mv ?_
 refine RK.tk (Pu.el ty_et69 (hA := CellsN.old rT Apart.nil hjl SubL.nil)) ?_
 refine RK.keep ?_
 refine RK.tk Pu.mv ?_
 refine RK.tk Pu.mv ?_
 refine RK.tk (Pu.el ty_et69 (hA := CellsN.old rK Apart.nil hjl SubL.nil)) ?_
 refine RK.keep ?_
 refine RK.tk Pu.mv ?_
 refine RK.tk Pu.mv ?_
 refine RK.tk (Pu.el ty_et69 (hA := CellsN.old rA Apart.nil hjl SubL.nil)) ?_
 refine RK.keep ?_
 refine RK.float [.pointer none, .pointer none, .pointer none, .pointer none, .pointer none, .pointer none, .pointer none] ?_
 refine RK.float [.pointer none, .pointer none, .pointer none, .pointer none, .pointer none, .pointer none, .pointer none] ?_
 refine RK.float [.pointer none, .pointer none, .pointer none, .pointer none, .pointer none, .pointer none, .pointer none] ?_
 refine RK.ch [false, false, false] ?_ ⟨ty_zr73, ty_zr73, ty_zr73, trivial⟩
 refine WK.cr rfl (enters Tryz.func29 rfl rfl) (fun w hw => by
   exact fields_any j (rdr_some rT (by omega))) ?_
 refine WK.cr rfl (enters Tryz.func29 rfl rfl) (fun w hw => by
   exact fields_any j (rdr_some rK (by omega))) ?_
 refine WK.cr rfl (enters Tryz.func29 rfl rfl) (fun w hw => by
   exact fields_any j (rdr_some rA (by omega))) ?_
 refine WK.n ?_
 intro b6
 intro b7
 intro b8
 first | refine TL.st ty_sz73 ?_ | refine TL.se ty_sz73 ?_
 first | refine TL.st ty_sz73 ?_ | refine TL.se ty_sz73 ?_
 first | refine TL.st ty_sz73 ?_ | refine TL.se ty_sz73 ?_
 refine TL.nil (TQ.thenN (hY52 _ _ ?_))
 refine TW.seq fun Y53 hY53 => ?_
 refine TW.seq fun Y54 hY54 => TW.region ?_
 refine TL.p Pu.mv ?_
 refine TL.nil (TQ.thenN (hY54 _ _ ?_))
 refine TW.block ?_
 refine TW.loop1 (fun (k : Nat) => [(255, .int .i64 (k : Int)), (28, .pointer (some ⟨b6, 0, none⟩)), (29, .pointer (some ⟨b7, 0, none⟩)), (30, .pointer (some ⟨b8, 0, none⟩)), (27, .int .i64 (j : Int)), (240, .int .i64 (j : Int)), (239, .int .i64 (i : Int)), (10, .slice A1 i c1), (11, .slice A2 i c2), (23, .slice PC (i + 1) pc), (24, .slice PK i pk), (7, .bool true)]) (fun k => [.own (some ⟨b6, 0, none⟩) 7 7 73 1 (fun q => [.pointer (elA A2 j 14 (2 * q))]), .own (some ⟨b7, 0, none⟩) 7 7 73 1 (fun q => [.pointer (elA PK j 14 (2 * q))]), .own (some ⟨b8, 0, none⟩) 7 7 73 1 (fun q => [.pointer (elA A1 j 14 (2 * q))])]) (fun k => k ≤ 7) (fun k => 7 - k) 0 fs9 ?_ ?_ ?_
 exact KSub.ofBlk pk9 rfl (fun _ _ => rfl) rfl rfl (KSub.ofBlk pk9 rfl (fun _ _ => rfl) rfl rfl (KSub.ofBlk pk9 rfl (fun _ _ => rfl) rfl rfl KSub.nil))
 exact Nat.zero_le _
 rintro k hk7 Z3 hZ3
 refine TW.seq fun Y55 hY55 => TW.region ?_
 refine TL.p Pu.lt ?_
 refine TL.nil (TQ.thenN (hY55 _ _ ?_))
 refine TW.seq fun Y56 hY56 => ?_
 refine TW.cond rfl (fun hc9 => ?_) (fun hc9 => ?_)
 try simp only [zcb9] at hc9
 have hkl : k < 7 := by omega
 have hEk1 := hEk j k hjl hkl
 refine TW.skip ?_
 refine TQ.thenN (hY56 _ _ ?_)
 refine TW.seq fun Y57 hY57 => ?_
 refine TW.block ?_
 refine TW.seq fun Y58 hY58 => TW.region ?_
 refine TL.p Pu.mv ?_
 refine TL.p Pu.as ?_
 refine TL.nil (TQ.thenN (hY58 _ _ ?_))
 refine TW.seq fun Y59 hY59 => ?_
 refine TW.dw 58 ?_
 refine RK.tk Pu.mv ?_
 refine RK.tk (Pu.ea ty_ar73) ?_
 refine RK.tk (Pu.ld ty_sc72) ?_
 refine RK.tk (Pu.nc (hq := CellsN.old rT Apart.nil hjl (sub70 hkl))) ?_
 refine RK.tk (Pu.fe ty_fa36_0 (hq := CellsN.old rT Apart.nil hjl (sub70 hkl))) ?_
 refine RK.tk (Pu.ld ty_sc3 (hq := (CellsN.old rT Apart.nil hjl (sub1 hkl).1).1)) ?_
 refine RK.tk Pu.mv ?_
 refine RK.tk (Pu.ea ty_ar73) ?_
 refine RK.tk (Pu.ld ty_sc72) ?_
 refine RK.tk (Pu.nc (hq := CellsN.old rK Apart.nil hjl (sub70 hkl))) ?_
 refine RK.tk (Pu.fe ty_fa36_0 (hq := CellsN.old rK Apart.nil hjl (sub70 hkl))) ?_
 refine RK.tk (Pu.ld ty_sc3 (hq := (CellsN.old rK Apart.nil hjl (sub1 hkl).1).1)) ?_
 refine RK.tk (Pu.bv Pu.lt (decide_eq_false (by omega))) ?_
 refine RK.tk Pu.mv ?_
 refine RK.tk Pu.mv ?_
 refine RK.tk (Pu.ea ty_ar73) ?_
 refine RK.tk (Pu.ld ty_sc72) ?_
 refine RK.tk (Pu.nc (hq := CellsN.old rT Apart.nil hjl (sub70 hkl))) ?_
 refine RK.tk (Pu.fe ty_fa36_0 (hq := CellsN.old rT Apart.nil hjl (sub70 hkl))) ?_
 refine RK.tk (Pu.ld ty_sc3 (hq := (CellsN.old rT Apart.nil hjl (sub1 hkl).1).1)) ?_
 refine RK.tk Pu.mv ?_
 refine RK.tk (Pu.ea ty_ar73) ?_
 refine RK.tk (Pu.ld ty_sc72) ?_
 refine RK.tk (Pu.nc (hq := CellsN.old rK Apart.nil hjl (sub70 hkl))) ?_
 refine RK.tk (Pu.fe ty_fa36_1 (hq := CellsN.old rK Apart.nil hjl (sub70 hkl))) ?_
 refine RK.tk (Pu.ld ty_sc3 (hq := (CellsN.old rK Apart.nil hjl (sub1 hkl).2).1)) ?_
 refine RK.tk (Pu.bv Pu.gt (decide_eq_false (by omega))) ?_
 refine RK.tk Pu.kf ?_
 refine RK.tk Pu.mv ?_
 refine RK.tk Pu.mv ?_
 refine RK.tk (Pu.ea ty_ar73) ?_
 refine RK.tk (Pu.ld ty_sc72) ?_
 refine RK.tk (Pu.nc (hq := CellsN.old rK Apart.nil hjl (sub70 hkl))) ?_
 refine RK.tk (Pu.fe ty_fa36_0 (hq := CellsN.old rK Apart.nil hjl (sub70 hkl))) ?_
 refine RK.tk (Pu.ld ty_sc3 (hq := (CellsN.old rK Apart.nil hjl (sub1 hkl).1).1)) ?_
 refine RK.tk Pu.mv ?_
 refine RK.tk (Pu.ea ty_ar73) ?_
 refine RK.tk (Pu.ld ty_sc72) ?_
 refine RK.tk (Pu.nc (hq := CellsN.old rA Apart.nil hjl (sub70 hkl))) ?_
 refine RK.tk (Pu.fe ty_fa36_0 (hq := CellsN.old rA Apart.nil hjl (sub70 hkl))) ?_
 refine RK.tk (Pu.ld ty_sc3 (hq := (CellsN.old rA Apart.nil hjl (sub1 hkl).1).1)) ?_
 refine RK.tk (Pu.bv Pu.lt (decide_eq_false (by omega))) ?_
 refine RK.tk Pu.kf ?_
 refine RK.tk Pu.mv ?_
 refine RK.tk Pu.mv ?_
 refine RK.tk (Pu.ea ty_ar73) ?_
 refine RK.tk (Pu.ld ty_sc72) ?_
 refine RK.tk (Pu.nc (hq := CellsN.old rK Apart.nil hjl (sub70 hkl))) ?_
 refine RK.tk (Pu.fe ty_fa36_1 (hq := CellsN.old rK Apart.nil hjl (sub70 hkl))) ?_
 refine RK.tk (Pu.ld ty_sc3 (hq := (CellsN.old rK Apart.nil hjl (sub1 hkl).2).1)) ?_
 refine RK.tk Pu.mv ?_
 refine RK.tk (Pu.ea ty_ar73) ?_
 refine RK.tk (Pu.ld ty_sc72) ?_
 refine RK.tk (Pu.nc (hq := CellsN.old rA Apart.nil hjl (sub70 hkl))) ?_
 refine RK.tk (Pu.fe ty_fa36_1 (hq := CellsN.old rA Apart.nil hjl (sub70 hkl))) ?_
 refine RK.tk (Pu.ld ty_sc3 (hq := (CellsN.old rA Apart.nil hjl (sub1 hkl).2).1)) ?_
 refine RK.tk (Pu.bv Pu.gt (decide_eq_false (by omega))) ?_
 refine RK.tk Pu.kf ?_
 refine RK.ch [] ?_ trivial
 refine WK.n ?_
 refine TL.nil (TQ.thenN (hY59 _ _ ?_))
 refine TW.condF rfl rfl ?_
 refine TW.skip ?_
 refine TQ.blkN ?_
 refine TQ.thenN (hY57 _ _ ?_)
 refine TW.region ?_
 refine TL.p Pu.ad ?_
 refine TL.p Pu.mv ?_
 refine TL.nil ?_
 refine TQ.thenN (hZ3 (k + 1) _ _ ?_ ?_ fs9 ?_)
 exact (by omega)
 exact zom9
 exact ks9
 try simp only [zcb9] at hc9
 refine TW.exit ?_
 refine TQ.thenX ?_
 refine TQ.thenX ?_
 refine TQ.blkX ?_
 refine TQ.thenN (hY53 _ _ ?_)
 refine TW.seq fun Y60 hY60 => ?_
 refine TW.dw 11 ?_
 refine RK.tk Pu.mv ?_
 refine RK.tk Pu.mv ?_
 refine RK.tk (Pu.el ty_et69 (hA := CellsN.old rK Apart.nil hjl SubL.nil)) ?_
 refine RK.tk (Pu.fe ty_fa71_6 (hq := CellsN.old rK Apart.nil hjl SubL.nil)) ?_
 refine RK.tk (Pu.lds ty_ag36 (hq := CellsN.old rK Apart.nil hjl (by unfold rowL; repeat (first | exact SubL.nil | apply SubL.take | apply SubL.drop)))) ?_
 refine RK.tk Pu.mv ?_
 refine RK.tk Pu.mv ?_
 refine RK.tk Pu.ad ?_
 refine RK.tk (Pu.el ty_et31 (q := j + 1) (hk := by omega) (hA := CellsN.old rC Apart.nil (show j + 1 < i + 1 by omega) SubL.nil)) ?_
 refine RK.tk (Pu.lds ty_ag36 (hq := CellsN.old rC Apart.nil (show j + 1 < i + 1 by omega) (by repeat (first | exact SubL.nil | apply SubL.take | apply SubL.drop)))) ?_
 refine RK.tk (Pu.bn (r := .bool false) rfl rfl (fun w => neSp _ _ hEc1.1 hEc1.2 w)) ?_
 refine RK.ch [] ?_ trivial
 refine WK.n ?_
 refine TL.nil (TQ.thenN (hY60 _ _ ?_))
 refine TW.condF rfl rfl ?_
 refine TW.skip ?_
 refine TQ.blkN ?_
 refine TQ.thenN (hY50 _ _ ?_)
 refine TW.region ?_
 refine TL.p Pu.ad ?_
 refine TL.p Pu.mv ?_
 refine TL.nil ?_
 refine TQ.thenN (hZ2 (j + 1) _ _ ?_ ?_ fs9 ?_)
 exact (by omega)
 exact zom9
 exact ks9
 try simp only [zcb9] at hc8
 refine TW.exit ?_
 refine TQ.thenX ?_
 refine TQ.thenX ?_
 refine TQ.blkX ?_
 refine TQ.thenN (hY46 _ _ ?_)
 refine TW.seq fun Y61 hY61 => TW.region ?_
 refine TL.p Pu.mv ?_
 refine TL.p Pu.as ?_
 refine TL.nil (TQ.thenN (hY61 _ _ ?_))
 refine TW.ret ?_
 refine TQ.ret Tryz.results8 rfl ((.tmp rfl .nil)) ?_
 exact fun w hw => Ret.of (hw.from hw1.chg (fun _ hb => .inl hb))
end
end Go.Proofs.YtbenhafhklfhmaaGreat
namespace Go.Proofs.YtbenhafhklfhmaaGreat
set_option linter.all false
set_option linter.unusedVariables false
set_option linter.unusedSimpArgs false
open Go.ChangeShapes Go.WideShapes Go.ChangeAt Go.RowKit Go.Deep
theorem Tryz.own : ownKnob Tryz.prog.godebug = none := by kernel_rfl
theorem Tryz.laidOut : laidOutB Tryz.prog = true := by kernel_rfl
set_option maxRecDepth 100000 in
theorem brandCounted_lifted (os : Os) (started : os.Started) (H : Type) (enc : TypeId × Value → H) :
    ReturnsInHanded {} Tryz.checked os 8 .any (Rows.brandCountedSpec.pre6 enc Tryz.prog Tryz.f8 Rows.brandCountedRow.domain false) (Rows.brandCountedSpec.post enc Tryz.prog Tryz.f8 false true false false) := by
  refine returnsInHanded_of_change (C := Tryz.checked) Tryz.own started (by kernel_rfl) Tryz.func8
    (ChangeSpec.witness6 (enc := enc) (C := Tryz.checked) false ⟨#[], #[.int .u32 0, .slice none 0 0, .int .u8 0], []⟩ 8 (by kernel_rfl) (by kernel_rfl) (by kernel_rfl) (by kernel_rfl)) ?_
  intro W base args ds gs before hval0 hW hcnd _
  have hval : ∀ (j : Nat) t v, Tryz.f8.params[j]? = some t → args[j]? = some v → Value.okWide Tryz.prog W .any base t v := hval0
  have hW' := hW
  obtain ⟨p, q, hA0, hV, rfl, hfz, hnd⟩ := hW
  have hA : DataW.TrodAll enc Tryz.prog W 0 (fun _ => true) true Tryz.f8.params.toList args.toList ds p := hA0
  have hA1 := hA
  rw [Tryz.params8] at hA hval
  obtain ⟨v0, v1, v2, d0, d1, d2, p0, p1, p2, rfl, rfl, rfl, h0, h1, h2⟩ := trodAll_three hA
  obtain ⟨rfl, rfl⟩ := trodVars_none hV
  obtain ⟨st, rfl, hst⟩ := open_u32b Tryz.underlying25 (hval 0 25 v0 rfl rfl) h0
  obtain ⟨G, gn, gc, u, rfl, hGR, hu⟩ := open_u32sB (hval 1 24 v1 rfl rfl) h1
  obtain ⟨o, rfl, ho⟩ := open_u8b Tryz.underlying5 (hval 2 5 v2 rfl rfl) h2
  clear hA0 hval0
  simp only [List.append_nil] at hW'
  refine (lawCount_any hst hu hGR o ho).mono ?_
  rintro e W' ⟨rfl, hb⟩
  exact ⟨_, rfl, law_post Tryz.laidOut rfl hW' hA1 (by kernel_rfl) (by kernel_rfl) Tryz.underlying4 rfl hb⟩
theorem brandCounted_holds : Rows.BrandCountedSaid :=
  OpenClaim.holds_of_wide 8 Tryz.f8 rfl rfl rfl rfl rfl rfl rfl ⟨rfl, rfl, rfl, rfl, rfl⟩ rfl rfl rfl rfl rfl (by kernel_rfl) Tryz.func8 (by kernel_rfl)
    (of_decide_eq_true (by kernel_rfl)) (by unfold Func.isWrapper; first | (rw [if_pos (by decide +kernel)]; kernel_rfl) | (rw [if_neg (by decide +kernel)]; exact ⟨rfl, rfl⟩))
    (fun os started H enc _ => brandCounted_lifted os started H enc)
end Go.Proofs.YtbenhafhklfhmaaGreat
