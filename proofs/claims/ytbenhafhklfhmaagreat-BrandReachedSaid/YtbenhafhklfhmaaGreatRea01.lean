/-
  Part 1 of the proof of brandReached_holds: declarations of several texts, in build order. No condition on a program.
-/
import Derived.Test.YtbenhafhklfhmaaGreatAl01
import Derived.Test.YtbenhafhklfhmaaGreatAl02
import Derived.Test.YtbenhafhklfhmaaGreatAl03
import Derived.Test.YtbenhafhklfhmaaGreatAl04
import Derived.Test.YtbenhafhklfhmaaGreatAl05
import Derived.Test.YtbenhafhklfhmaaGreatAl06
import Derived.Test.YtbenhafhklfhmaaGreatAl07
import Derived.Test.YtbenhafhklfhmaaGreatAl08
import Derived.Test.YtbenhafhklfhmaaGreatAl09
import Derived.Test.YtbenhafhklfhmaaGreatAl10
import Derived.Test.YtbenhafhklfhmaaGreatAl11
import Derived.Test.YtbenhafhklfhmaaGreatRows
import Derived.WalkKit
import Derived.WalkSpells
import Derived.WalkLawsBesides
import Derived.Deep.QuietTactic
import Derived.BigQuiet
import Derived.OrdersHeld
import Derived.Maps.AppendAt
import Derived.OwnWalk
import Derived.Lib.SliceRun
import Derived.RangeFuncNested
import Derived.RangeFuncBound
import Derived.RangeFuncCalls
import Derived.RangeFuncLeaves
import Derived.OwnWalkIn
import Derived.TacticsInMore
import Derived.LoopNIn
import Derived.LoopIn
import Derived.OrdersIn
import Derived.Deep.LoopGhost
import Derived.MapKept
import Derived.Carry
import Derived.Lib.AppendZerosOnto
import Derived.Laws.OwnMore
import Derived.Deep.RegionHeld3
import Derived.BigRegion
import Derived.IntWalk
import Derived.Deep.DeepMust
import Derived.ProofKit
import Derived.Deep.Slices
import Derived.Sort.Grow
import Derived.Shelf.Small.Bits
import Derived.Shelf.Strconv.Itoa0
import Derived.Ground.SlsfProg
import Derived.Shelf.SlSortCmp.Insertion
import Derived.Ground.SlgmProg
import Derived.Shelf.SortM.Plain
import Derived.Shelf.SortM.SortNone
import Derived.Shelf.SlSortCmp.SiftDown1
import Derived.Shelf.SlSortCmp.HeapSort1
import Derived.Shelf.SlSortCmp.Insertion1
import Derived.Shelf.SlSortCmp.Median1
import Derived.Shelf.SlSortCmp.Pivot1
import Derived.Shelf.SlSortCmp.ReverseRange1
import Derived.Shelf.SlSortCmp.PartialInsertion1
import Derived.Shelf.SlSortCmp.PartitionEqual1
import Derived.Shelf.SlSortCmp.Partition1
import Derived.Shelf.SlSortCmp.Pdq1
import Derived.Shelf.SlSortCmp.Whole1
import Derived.Shelf.SlSortCmp.NoneTotal
import Derived.Test.YtbenhafhklfhmaaGreatProg
import Derived.ChangeKeysEq
namespace Go.Proofs.YtbenhafhklfhmaaGreat
set_option linter.all false
set_option linter.unusedVariables false
set_option linter.unusedSimpArgs false
open Go.RowKit
section
variable {c : Cx} {F : Fr} {K K' : List Fact} {d : Option Tmp} {ty : TypeId} {pos : String} {af : Array Edge} {g : Option (Nat × Bool)}
theorem Pu.nilC {x : Operand} {q : Option Addr} {vs : List Value} (hx : ev F x = some (.pointer q)) (hq : Cells c K q vs) : Pu c F K ⟨d, .nilCheck x, ty, pos, af, g⟩ (.pointer q) := fun a w hF hK => by
  obtain ⟨b, off, rfl, _⟩ := hq w hK
  simp only [execOp, hF.evl hx]
  rfl
section
variable {x y : Operand} {xt yt : TypeId} {i j : Int} {k : IntKind}
end
end
end Go.Proofs.YtbenhafhklfhmaaGreat
namespace Go.Proofs.YtbenhafhklfhmaaGreat
set_option linter.all false
set_option linter.unusedVariables false
set_option linter.unusedSimpArgs false
open Go.RowKit
section
variable {c : Cx} {Q : Exit → Act → World → Prop} {F F' : Fr} {K K' : List Fact} {ty : TypeId} {pos : String} {af : Array Edge} {g : Option (Nat × Bool)}
theorem tnS (n : Nat) : ((n : Int) + 1).toNat = n + 1 := by omega
variable {ops : Array Oper} {nf k fuel : Nat} {rest : List Oper} {pend : List (Nat × Oper)} {fl : List Fl} {listed : Array Bool} {bs : List Bool}
end
end Go.Proofs.YtbenhafhklfhmaaGreat
namespace Go.Proofs.YtbenhafhklfhmaaGreat
set_option linter.all false
set_option linter.unusedVariables false
set_option linter.unusedSimpArgs false
open Go.RowKit
section
variable {c : Cx} {Q : Exit → Act → World → Prop} {F F' : Fr} {K K' : List Fact} {ops : Array Oper} {rest : List Oper} {d : Option Tmp} {ty : TypeId} {pos : String} {af : Array Edge} {g : Option (Nat × Bool)} {nf k fuel : Nat} {pend : List (Nat × Oper)} {fl : List Fl} {listed : Array Bool} {bs : List Bool} {op : Op} {t : Nat}
theorem Pu.nc {x : Operand} {q : Option Addr} (hx : ev F x = some (.pointer q) := by rfl) {vs : List Value} (hq : CellsN c K q 0 vs := by first | exact CellsN.blk (by repeat (first | exact Pick.hd | apply Pick.tl)) (by repeat (first | exact SubL.nil | apply SubL.take | apply SubL.drop)) | exact CellsN.old (by assumption) (by first | exact Apart.nil | assumption) (by omega) (by repeat (first | exact SubL.nil | apply SubL.take | apply SubL.drop)) | exact CellsN.own (by repeat (first | exact Pick.hd | apply Pick.tl)) (by omega) (by repeat (first | exact SubL.nil | apply SubL.take | apply SubL.drop))) : Pu c F K ⟨d, .nilCheck x, ty, pos, af, g⟩ (.pointer q) := Pu.nilC hx hq.1
section
variable {x y : Operand} {xt yt : TypeId} {i j : Int} {kk : IntKind}
end
end
end Go.Proofs.YtbenhafhklfhmaaGreat
namespace Go.Proofs.YtbenhafhklfhmaaGreat
set_option linter.all false
set_option linter.unusedVariables false
set_option linter.unusedSimpArgs false
open Go.RowKit
section
variable {c : Cx} {Q : Exit → Act → World → Prop} {F F' : Fr} {K K' K0 : List Fact} {ops : Array Oper} {rest : List Oper} {d : Option Tmp} {ty : TypeId} {pos : String} {af : Array Edge} {g : Option (Nat × Bool)} {k fuel t : Nat} {pend : List (Nat × Oper)} {listed : Array Bool} {op : Op}
def Eq2 (P : Program) (T : TypeId) : Prop := ∀ (w : World) (x y : Operand) (i j m n : Int), (do eqGuard .eql T x y (.agg #[.int .i64 i, .int .i64 j]) (.agg #[.int .i64 m, .int .i64 n]); binOp .eql T (.agg #[.int .i64 i, .int .i64 j]) (.agg #[.int .i64 m, .int .i64 n]) : Sem Value).run P w = .ok (.bool (decide (i = m) && decide (j = n))) w
theorem Pu.q2 {x y : Operand} {xt yt : TypeId} {i j m n : Int} (hT : Eq2 c.P xt) (hx : ev F x = some (.agg #[.int .i64 i, .int .i64 j]) := by rfl) (hy : ev F y = some (.agg #[.int .i64 m, .int .i64 n]) := by rfl) : Pu c F K ⟨d, .binOp .eql xt x y yt, ty, pos, af, g⟩ (.bool (decide (i = m) && decide (j = n))) := Pu.bin hx hy fun w => hT w x y i j m n
end
end Go.Proofs.YtbenhafhklfhmaaGreat
namespace Go.Proofs.YtbenhafhklfhmaaGreat
set_option linter.all false
set_option linter.unusedVariables false
set_option linter.unusedSimpArgs false
open Go.RowKit
section
variable {c : Cx} {Q : Exit → Act → World → Prop} {F F' : Fr} {K K' K0 : List Fact} {ops : Array Oper} {rest : List Oper} {d : Option Tmp} {ty : TypeId} {pos : String} {af : Array Edge} {g : Option (Nat × Bool)} {k fuel t nf : Nat} {pend : List (Nat × Oper)} {listed : Array Bool} {bs : List Bool} {fl : List Fl} {op : Op}
theorem Pu.ldso {x : Operand} {T : TypeId} {m : Nat} {q : Option Addr} {vs : List Value} (hT : Ag c.P T m) (hx : ev F x = some (.pointer q) := by rfl) (hq : CellsN c K q m vs := by exact CellsN.ob (by assumption) (by first | exact Apart.nil | assumption) (by repeat (first | exact SubL.nil | apply SubL.take | apply SubL.drop))) : Pu c F K ⟨d, .load T x, ty, pos, af, g⟩ (.agg vs.toArray) := Pu.loads hx hT hq.1 hq.2
end
section
variable {c : Cx} {Q : Exit → Act → World → Prop} {F F' : Fr} {K K' K0 : List Fact} {ops : Array Oper} {listed : Array Bool} {fuel : Nat}
theorem RG.a3 (i j k : Nat) {o o' o'' : Oper} (ho : ops[i]? = some o) (ho' : ops[j]? = some o') (ho'' : ops[k]? = some o'') (h : RGo c ops Q K0 listed fuel F K i o) (h' : RGo c ops Q K0 listed fuel F K j o') (h'' : RGo c ops Q K0 listed fuel F K k o'') (hr : Region.ready .any ops listed = [i, j, k] := by kernel_rfl) : RG c ops Q K0 [] listed (fuel + 1) F K :=
  RG.all hr (by simp) fun k hk => by
    simp only [List.mem_cons, List.not_mem_nil, or_false] at hk
    rcases hk with rfl | rfl | rfl
    · exact ⟨o, ho, h⟩
    · exact ⟨o', ho', h'⟩
    · exact ⟨o'', ho'', h''⟩
theorem TW.ex0 {id : Nat} {l : List Oper} (hd : Drop F K K0) (h2 : RG c l.toArray Q K0 [] (Array.replicate l.length false) l.length F K) (hm : c.P.follows .mixedOrders = true := by rfl) : TW c (.region id l.toArray true) Q F K := fun a w hF hK => by
  refine wp_region_any hm (wpAny_of_held (S := Sat c.S c.w0 K0) _ _ _ _ ?_)
  rw [List.size_toArray]
  exact h2 (fun p hp => by cases hp) a w.drew hF (hK.ext (keep_drew w))
theorem TW.expl {id : Nat} {l : List Oper} {X : Type} (Fj : X → Fr) (Kj : X → List Fact) (hd : Drop F K K0) (h1 : ∀ x, TQ c Q .normal (Fj x) (Kj x)) (h2 : (∀ x, TQ c Q .normal (Fj x) (Kj x)) → RG c l.toArray Q K0 [] (Array.replicate l.length false) l.length F K) (hm : c.P.follows .mixedOrders = true := by rfl) : TW c (.region id l.toArray true) Q F K := TW.ex0 hd (h2 h1) hm
end
end Go.Proofs.YtbenhafhklfhmaaGreat
namespace Go.Proofs.YtbenhafhklfhmaaGreat
set_option linter.all false
set_option linter.unusedVariables false
set_option linter.unusedSimpArgs false
open Go.RowKit
section
variable {c : Cx} {Q : Exit → Act → World → Prop} {F F' : Fr} {K K' K0 : List Fact} {ops : Array Oper} {rest : List Oper} {d : Option Tmp} {ty : TypeId} {pos : String} {af : Array Edge} {g : Option (Nat × Bool)} {t : Nat}
theorem TL.ob {b : Nat} {E : TypeId} {sz : Nat} {r : Nat → List Value} (hp : Pick K (.blk b E []) K') (hz : Nat.blt 0 sz = true) (h : TL c ops Q rest F (.own (some ⟨b, 0, none⟩) 0 0 E sz r :: K')) : TL c ops Q rest F K := fun a w hF hK => by
 have hs := hK.pick hp
 have hb : Blk w b E #[] := hs.holds (.blk b E []) (by simp)
 have ho : OwnR w (some ⟨b, 0, none⟩) 0 0 E sz r := OwnR.of_blk (cs := []) hb rfl (fun _ h => by omega) hz rfl
 refine h a w hF ⟨hs.chg, hs.nd, hs.ge, fun φ hφ => ?_⟩
 rcases List.mem_cons.1 hφ with rfl | hφ
 · exact ho
 · exact hs.holds φ (by simp [hφ])
end
end Go.Proofs.YtbenhafhklfhmaaGreat
namespace Go.Proofs.YtbenhafhklfhmaaGreat
set_option linter.all false
set_option linter.unusedVariables false
set_option linter.unusedSimpArgs false
open Go.RowKit
theorem ty_q2_36 : Eq2 Tryz.prog 36 := fun w x y i j m n => by
 by_cases h1 : i = m
 · by_cases h2 : j = n
   · subst h1 h2; go_simp
   · subst h1; go_simp
 · by_cases h2 : j = n
   · subst h2; go_simp
   · go_simp
theorem ty_sc69 : Sc Tryz.prog 69 := fun w => by simp [isAgg, run_underlying Tryz.underlying69]
theorem ty_fa71_0 : FieldAt Tryz.prog 71 0 0 := fieldAt_of 0 0 36 2 Tryz.underlying71 (by kernel_rfl) ty_sz36 (by kernel_rfl)
theorem ty_fa71_1 : FieldAt Tryz.prog 71 1 2 := fieldAt_of 1 2 36 2 Tryz.underlying71 (by kernel_rfl) ty_sz36 (by kernel_rfl)
theorem ty_fa71_2 : FieldAt Tryz.prog 71 2 4 := fieldAt_of 2 4 36 2 Tryz.underlying71 (by kernel_rfl) ty_sz36 (by kernel_rfl)
theorem ty_fa71_4 : FieldAt Tryz.prog 71 4 8 := fieldAt_of 4 8 36 2 Tryz.underlying71 (by kernel_rfl) ty_sz36 (by kernel_rfl)
theorem ty_fa71_5 : FieldAt Tryz.prog 71 5 10 := fieldAt_of 5 10 36 2 Tryz.underlying71 (by kernel_rfl) ty_sz36 (by kernel_rfl)
theorem ty_fa71_6 : FieldAt Tryz.prog 71 6 12 := fieldAt_of 6 12 36 2 Tryz.underlying71 (by kernel_rfl) ty_sz36 (by kernel_rfl)
theorem ty_i73 : (Tryz.prog.info? 73).map (fun i => (i.zero, i.size, i.bytes)) = some (some (.agg #[.pointer none, .pointer none, .pointer none, .pointer none, .pointer none, .pointer none, .pointer none]), 7, 56) := by kernel_rfl
theorem ty_sz73 : Sz Tryz.prog 73 7 := fun w => by obtain ⟨i, h1, h2, h3, h4⟩ := info_parts ty_i73; simp [sizeOf, typeInfo, h1, h3]
theorem ty_zr73 : Zr Tryz.prog 73 [.pointer none, .pointer none, .pointer none, .pointer none, .pointer none, .pointer none, .pointer none] := ⟨.agg #[.pointer none, .pointer none, .pointer none, .pointer none, .pointer none, .pointer none, .pointer none], rfl, fun w => by obtain ⟨i, h1, h2, h3, h4⟩ := info_parts ty_i73; simp [zeroValue, typeInfo, h1, h2]⟩
theorem ty_ag73 : Ag Tryz.prog 73 7 := ⟨fun w => by simp [isAgg, run_underlying Tryz.underlying73], ty_sz73⟩
end Go.Proofs.YtbenhafhklfhmaaGreat
namespace Go.Proofs.YtbenhafhklfhmaaGreat
set_option linter.all false
set_option linter.unusedVariables false
set_option linter.unusedSimpArgs false
open Go.RowKit
set_option maxRecDepth 100000 in
theorem tOrd_any (a b lo hi : Int) (w : World) :
  Calls Tryz.prog 100 #[.agg #[.int .i64 a, .int .i64 b], .int .i64 lo, .int .i64 hi] w (Ret w (.bool (decide (lo ≤ a) && decide (a ≤ b) && decide (b ≤ hi)))) := by
 refine K_enter (S := []) (K := []) Tryz.func100 rfl Tryz.ntmps100 rfl (Sat.start _) ?_
 refine TW.seq fun Y1 hY1 => TW.region ?_
 refine TL.m Mk.bx ?_
 intro b1
 refine TL.p Pu.as ?_
 refine TL.nil (TQ.thenN (hY1 _ _ ?_))
 refine TW.seq fun Y2 hY2 => ?_
 refine TW.join [(6, .bool (decide (lo ≤ a) && decide (a ≤ b) && decide (b ≤ hi)))] ?_ (fun hJ1 => ?_)
 refine TQ.thenN (hY2 _ _ ?_)
 refine TW.ret ?_
 refine TQ.ret Tryz.results100 rfl ((.tmp rfl .nil)) ?_
 exact fun w hw => Ret.of hw
 refine TW.region ?_
 refine TL.p (by first | exact Pu.fb ty_fa36_0 | exact Pu.fe ty_fa36_0) ?_
 refine TL.p (Pu.ld ty_sc3) ?_
 refine TL.p Pu.mv ?_
 refine TL.p Pu.ge ?_
 refine TL.p Pu.mv ?_
 refine TL.guard (t := 11) rfl (fun hg1 => ?_) (fun hg1 => ?_)
 refine TL.gd (by first | exact Pu.fb ty_fa36_0 | exact Pu.fe ty_fa36_0) ?_
 refine TL.gd (Pu.ld ty_sc3) ?_
 refine TL.gd (by first | exact Pu.fb ty_fa36_1 | exact Pu.fe ty_fa36_1) ?_
 refine TL.gd (Pu.ld ty_sc3) ?_
 refine TL.gd Pu.le ?_
 refine TL.p Pu.kt ?_
 refine TL.p Pu.mv ?_
 refine TL.guard (t := 18) rfl (fun hg2 => ?_) (fun hg2 => ?_)
 refine TL.gd (by first | exact Pu.fb ty_fa36_1 | exact Pu.fe ty_fa36_1) ?_
 refine TL.gd (Pu.ld ty_sc3) ?_
 refine TL.gd Pu.mv ?_
 refine TL.gd Pu.le ?_
 refine TL.p Pu.kt ?_
 refine TL.p Pu.as ?_
 refine TL.nil ?_
 exact TQ.sub (by repeat (first | exact trivial | refine ⟨rfl, ?_⟩ | refine ⟨trivial, ?_⟩ | refine ⟨(by show some (Value.bool _) = some (Value.bool _); first | (simp [hg1, hg2]; done) | (refine congrArg (fun z => some (Value.bool z)) (Bool.eq_iff_iff.2 ?_); simp [hg1, hg2]; omega)), ?_⟩)) ks9 hJ1
 refine TL.gs ?_
 refine TL.gs ?_
 refine TL.gs ?_
 refine TL.gs ?_
 refine TL.p Pu.kf ?_
 refine TL.p Pu.as ?_
 refine TL.nil ?_
 exact TQ.sub (by repeat (first | exact trivial | refine ⟨rfl, ?_⟩ | refine ⟨trivial, ?_⟩ | refine ⟨(by show some (Value.bool _) = some (Value.bool _); first | (simp [hg1, hg2]; done) | (refine congrArg (fun z => some (Value.bool z)) (Bool.eq_iff_iff.2 ?_); simp [hg1, hg2]; omega)), ?_⟩)) ks9 hJ1
 refine TL.gs ?_
 refine TL.gs ?_
 refine TL.gs ?_
 refine TL.gs ?_
 refine TL.gs ?_
 refine TL.p Pu.kf ?_
 refine TL.p Pu.mv ?_
 refine TL.gs ?_
 refine TL.gs ?_
 refine TL.gs ?_
 refine TL.gs ?_
 refine TL.p Pu.kf ?_
 refine TL.p Pu.as ?_
 refine TL.nil ?_
 exact TQ.sub (by repeat (first | exact trivial | refine ⟨rfl, ?_⟩ | refine ⟨trivial, ?_⟩ | refine ⟨(by show some (Value.bool _) = some (Value.bool _); first | (simp [hg1]; done) | (refine congrArg (fun z => some (Value.bool z)) (Bool.eq_iff_iff.2 ?_); simp [hg1]; omega)), ?_⟩)) ks9 hJ1
def ordO (r : Nat → Int) (j : Nat) : Bool := decide (0 ≤ r (2 * j)) && decide (r (2 * j) ≤ r (2 * j + 1)) && decide (r (2 * j + 1) ≤ 100000)
theorem rowOk_ord {r : Nat → Int} : rowOk r = true ↔ ∀ j, j < 7 → ordO r j = true := by
 rw [rowOk_iff]
 constructor
 · intro h j hj
   obtain ⟨h1, h2, h3⟩ := h j hj
   simp [ordO, h1, h2, h3]
 · intro h j hj
   have := h j hj
   simp [ordO] at this
   exact ⟨this.1.2, this.1.1, this.2⟩
theorem row_any (r : Nat → Int) (w : World) :
  Calls Tryz.prog 80 #[.agg #[.int .i64 (r 0), .int .i64 (r 1), .int .i64 (r 2), .int .i64 (r 3), .int .i64 (r 4), .int .i64 (r 5), .int .i64 (r 6), .int .i64 (r 7), .int .i64 (r 8), .int .i64 (r 9), .int .i64 (r 10), .int .i64 (r 11), .int .i64 (r 12), .int .i64 (r 13)]] w (Ret w (.bool (rowOk r))) := by
 refine K_enter (S := []) (K := []) Tryz.func80 rfl Tryz.ntmps80 rfl (Sat.start _) ?_
 refine TW.seq fun Y1 hY1 => TW.region ?_
 refine TL.m Mk.bx ?_
 intro b1
 refine TL.p Pu.as ?_
 refine TL.nil (TQ.thenN (hY1 _ _ ?_))
 refine TW.seq fun Y2 hY2 => TW.region ?_
 refine TL.p (by first | exact Pu.fb ty_fa71_0 | exact Pu.fe ty_fa71_0) ?_
 refine TL.p (Pu.lds ty_ag36) ?_
 refine TL.p (by first | exact Pu.fb ty_fa71_1 | exact Pu.fe ty_fa71_1) ?_
 refine TL.p (Pu.lds ty_ag36) ?_
 refine TL.p (by first | exact Pu.fb ty_fa71_2 | exact Pu.fe ty_fa71_2) ?_
 refine TL.p (Pu.lds ty_ag36) ?_
 refine TL.p (by first | exact Pu.fb ty_fa71_3 | exact Pu.fe ty_fa71_3) ?_
 refine TL.p (Pu.lds ty_ag36) ?_
 refine TL.p (by first | exact Pu.fb ty_fa71_4 | exact Pu.fe ty_fa71_4) ?_
 refine TL.p (Pu.lds ty_ag36) ?_
 refine TL.p (by first | exact Pu.fb ty_fa71_5 | exact Pu.fe ty_fa71_5) ?_
 refine TL.p (Pu.lds ty_ag36) ?_
 refine TL.p (by first | exact Pu.fb ty_fa71_6 | exact Pu.fe ty_fa71_6) ?_
 refine TL.p (Pu.lds ty_ag36) ?_
 refine TL.m Mk.bl ?_
 intro b2
 refine TL.p Pu.as ?_
 refine TL.nil (TQ.thenN (hY2 _ _ ?_))
 refine TW.seq fun Y3 hY3 => ?_
 refine TW.seq fun Y4 hY4 => TW.region ?_
 refine TL.p Pu.as ?_
 refine TL.nil (TQ.thenN (hY4 _ _ ?_))
 refine TW.block ?_
 refine TW.loop1 (fun (k : Nat) => [(4, .int .i64 (k : Int)), (3, .slice (some ⟨b2, 0, none⟩) 7 7)]) (fun k => [.own (some ⟨b2, 0, none⟩) 7 7 36 2 (fun i => spL (r (2 * i)) (r (2 * i + 1)))]) (fun k => k ≤ 7 ∧ ∀ j, j < k → ordO r j = true) (fun k => 7 - k) 0 fs9 ?_ ?_ ?_
 exact KSub.ofBlk Pick.hd rfl (fun _ _ => rfl) rfl rfl KSub.nil
 exact ⟨by omega, fun j hj => by omega⟩
 rintro k ⟨hk, hall⟩ Z0 hZ0
 refine TW.seq fun Y5 hY5 => ?_
 refine TW.seq fun Y6 hY6 => TW.region ?_
 refine TL.p Pu.mv ?_
 refine TL.p Pu.mv ?_
 refine TL.p (Pu.ln Tryz.underlying31) ?_
 refine TL.p Pu.lt ?_
 refine TL.nil (TQ.thenN (hY6 _ _ ?_))
 refine TW.cond rfl (fun hc0 => ?_) (fun hc0 => ?_)
 try simp only [zcb9] at hc0
 refine TW.skip ?_
 refine TQ.thenN (hY5 _ _ ?_)
 refine TW.seq fun Y7 hY7 => ?_
 refine TW.block ?_
 refine TW.seq fun Y8 hY8 => TW.region ?_
 refine TL.p Pu.mv ?_
 refine TL.p Pu.mv ?_
 refine TL.p (Pu.el ty_et31) ?_
 refine TL.p (Pu.lds ty_ag36) ?_
 refine TL.cr rfl (enters Tryz.func100 rfl rfl) (fun w hw => by
   exact tOrd_any _ _ _ _ _) ?_
 refine TL.p Pu.no ?_
 refine TL.nil (TQ.thenN (hY8 _ _ ?_))
 refine TW.cond rfl (fun hc1 => ?_) (fun hc1 => ?_)
 try simp only [zcb9] at hc1
 have hno : ordO r k = false := by simp [ordO]; omega
 refine TW.seq fun Y9 hY9 => TW.region ?_
 refine TL.p Pu.as ?_
 refine TL.nil (TQ.thenN (hY9 _ _ ?_))
 refine TW.ret ?_
 refine TQ.blkR ?_
 refine TQ.thenR ?_
 refine TQ.thenR ?_
 refine TQ.blkR ?_
 refine TQ.thenR ?_
 refine TQ.ret Tryz.results80 rfl ((.tmp rfl .nil)) ?_
 refine fun w hw => ⟨ret_bool (Bool.eq_false_iff.2 fun h => ?_), Chg.ext hw.chg⟩
 rw [rowOk_ord.1 h k (by omega)] at hno
 cases hno
 try simp only [zcb9] at hc1
 have hyes : ordO r k = true := by simp [ordO]; omega
 refine TW.skip ?_
 refine TQ.blkN ?_
 refine TQ.thenN (hY7 _ _ ?_)
 refine TW.region ?_
 refine TL.p Pu.mv ?_
 refine TL.p Pu.ad ?_
 refine TL.p Pu.as ?_
 refine TL.nil ?_
 refine TQ.thenN (hZ0 (k + 1) _ _ ?_ ?_ fs9 ?_)
 refine ⟨by omega, fun j hj => ?_⟩
 rcases Nat.lt_or_ge j k with h | h
 exact hall j h
 obtain rfl : j = k := by omega
 exact hyes
 exact zom9
 exact ks9
 try simp only [zcb9] at hc0
 refine TW.exit ?_
 refine TQ.thenX ?_
 refine TQ.thenX ?_
 refine TQ.blkX ?_
 refine TQ.thenN (hY3 _ _ ?_)
 refine TW.seq fun Y10 hY10 => TW.region ?_
 refine TL.p Pu.as ?_
 refine TL.nil (TQ.thenN (hY10 _ _ ?_))
 refine TW.ret ?_
 refine TQ.ret Tryz.results80 rfl ((.tmp rfl .nil)) ?_
 refine fun w hw => ⟨ret_bool (rowOk_ord.2 fun j hj => hall j (by omega)), Chg.ext hw.chg⟩
end Go.Proofs.YtbenhafhklfhmaaGreat
namespace Go.Proofs.YtbenhafhklfhmaaGreat
set_option linter.all false
set_option linter.unusedVariables false
set_option linter.unusedSimpArgs false
theorem Pu.iv {c : Cx} {F : Fr} {K : List Fact} {o : Oper} {a b : Int} {k : IntKind} (h : Pu c F K o (.int k a)) (e : a = b) : Pu c F K o (.int k b) := e ▸ h
end Go.Proofs.YtbenhafhklfhmaaGreat
namespace Go.Proofs.YtbenhafhklfhmaaGreat
set_option linter.all false
set_option linter.unusedVariables false
set_option linter.unusedSimpArgs false
open Go.RowKit
section
variable {c : Cx} {Q : Exit → Act → World → Prop} {F : Fr} {K K' K1 : List Fact} {ops : Array Oper} {rest : List Oper}
end
theorem RdR.few {w : World} {sz n m : Nat} {A : Option Addr} {r : Nat → List Value} (h : RdR w sz A n r) (hm : m ≤ n) : RdR w sz A m r :=
 ⟨fun hn => by
  obtain ⟨b, off, h1, h2, h3⟩ := h.rd (by omega)
  exact ⟨b, off, h1, h2, fun i j hi hj => h3 i j (by omega) hj⟩, fun i hi => h.len i (by omega)⟩
section
variable {c : Cx} {F : Fr} {K : List Fact} {d : Option Tmp} {ty xt yt : TypeId} {pos : String} {af : Array Edge} {g : Option (Nat × Bool)} {x y : Operand}
end
end Go.Proofs.YtbenhafhklfhmaaGreat
namespace Go.Proofs.YtbenhafhklfhmaaGreat
set_option linter.all false
set_option linter.unusedVariables false
set_option linter.unusedSimpArgs false
open Go.RowKit
section
variable {w : World} {x : EH} {b b1 b2 b3 b4 b5 : Nat}
theorem exTlC {E : TypeId} {A : Option Addr} {n cp : Nat} {f : Nat → Nat → Int} {e : Option (Nat × Int)} {a b : Int} (h : OwnR w A n cp E 14 fun i => rowL (f i)) (hn : n ≤ 1000000) (he : tErr a b n f = e) :
  CallsK Tryz.prog 30 #[.agg #[.int .i64 a, .int .i64 b], .slice A n cp] [] w TX (fun y => .tuple #[.slice y.1 (tN e (n + 1)) y.2.1, .slice y.2.2.1 (tN e n) y.2.2.2, .int .i64 (tI e), .int .i64 (tC e)]) (fun y => []) :=
 (tally_K' a b A n cp E f w h hn he).to (fun y => by obtain ⟨A1, c1, A2, c2⟩ := y; rfl) (fun y => KSub.nil)
end
end Go.Proofs.YtbenhafhklfhmaaGreat
namespace Go.Proofs.YtbenhafhklfhmaaGreat
set_option linter.all false
set_option linter.unusedVariables false
set_option linter.unusedSimpArgs false
theorem gl3 {r : Nat → Int} : growLo r 3 = r 0 + r 2 + r 4 - (r 7 + r 9 + r 11) := by
 simp only [growLo, Nat.mul_zero, Nat.zero_add, Nat.reduceMul, Nat.reduceAdd]
 omega
theorem gh3 {r : Nat → Int} : growHi r 3 = r 1 + r 3 + r 5 - (r 6 + r 8 + r 10) := by
 simp only [growHi, Nat.mul_zero, Nat.zero_add, Nat.reduceMul, Nat.reduceAdd]
 omega
structure RowN (r x : Nat → Int) (g : Int) : Prop where
 st : g = x 0 + x 1 + x 2 - (x 3 + x 4 + x 5)
 bd : ∀ k, k < 6 → r (2 * k) ≤ x k ∧ x k ≤ r (2 * k + 1)
theorem RowN.grow {r x : Nat → Int} {g : Int} (h : RowN r x g) : growLo r 3 ≤ g ∧ g ≤ growHi r 3 := by
 have h0 := h.bd 0 (by omega)
 have h1 := h.bd 1 (by omega)
 have h2 := h.bd 2 (by omega)
 have h3 := h.bd 3 (by omega)
 have h4 := h.bd 4 (by omega)
 have h5 := h.bd 5 (by omega)
 have h6 := h.st
 simp only [Nat.mul_zero, Nat.zero_add, Nat.reduceMul, Nat.reduceAdd] at h0 h1 h2 h3 h4 h5
 rw [gl3, gh3]
 omega
theorem part2 {a b c d g : Int} (h1 : a ≤ b) (h2 : c ≤ d) (h3 : a + c ≤ g) (h4 : g ≤ b + d) : ∃ u, (a ≤ u ∧ u ≤ b) ∧ (c ≤ g - u ∧ g - u ≤ d) := ⟨max a (g - d), by omega, by omega⟩
theorem rowN_of {r : Nat → Int} {g : Int} (h : ∀ k, k < 6 → r (2 * k) ≤ r (2 * k + 1)) (h1 : growLo r 3 ≤ g) (h2 : g ≤ growHi r 3) : ∃ x, RowN r x g := by
 rw [gl3] at h1
 rw [gh3] at h2
 have k0 := h 0 (by omega)
 have k1 := h 1 (by omega)
 have k2 := h 2 (by omega)
 have k3 := h 3 (by omega)
 have k4 := h 4 (by omega)
 have k5 := h 5 (by omega)
 simp only [Nat.mul_zero, Nat.zero_add, Nat.reduceMul, Nat.reduceAdd] at k0 k1 k2 k3 k4 k5
 obtain ⟨x0, a0, b0⟩ := part2 (a := r 0) (b := r 1) (c := r 2 + r 4 - (r 7 + r 9 + r 11)) (d := r 3 + r 5 - (r 6 + r 8 + r 10)) (g := g) k0 (by omega) (by omega) (by omega)
 obtain ⟨x1, a1, b1⟩ := part2 (a := r 2) (b := r 3) (c := r 4 - (r 7 + r 9 + r 11)) (d := r 5 - (r 6 + r 8 + r 10)) (g := g - x0) k1 (by omega) (by omega) (by omega)
 obtain ⟨x2, a2, b2⟩ := part2 (a := r 4) (b := r 5) (c := - (r 7 + r 9 + r 11)) (d := - (r 6 + r 8 + r 10)) (g := g - x0 - x1) k2 (by omega) (by omega) (by omega)
 obtain ⟨x3, a3, b3⟩ := part2 (a := r 6) (b := r 7) (c := r 8 + r 10) (d := r 9 + r 11) (g := -(g - x0 - x1 - x2)) k3 (by omega) (by omega) (by omega)
 obtain ⟨x4, a4, b4⟩ := part2 (a := r 8) (b := r 9) (c := r 10) (d := r 11) (g := -(g - x0 - x1 - x2) - x3) k4 (by omega) (by omega) (by omega)
 refine ⟨fun k => if k = 0 then x0 else if k = 1 then x1 else if k = 2 then x2 else if k = 3 then x3 else if k = 4 then x4 else -(g - x0 - x1 - x2) - x3 - x4, ?_, fun k hk => ?_⟩
 · simp; omega
 · rcases (by omega : k = 0 ∨ k = 1 ∨ k = 2 ∨ k = 3 ∨ k = 4 ∨ k = 5) with rfl | rfl | rfl | rfl | rfl | rfl <;> simp <;> omega
structure Fea (a b : Int) (n : Nat) (f x : Nat → Nat → Int) (y : Nat → Int) : Prop where
 y0 : a ≤ y 0 ∧ y 0 ≤ b
 rw_ : ∀ i, i < n → RowN (f i) (x i) (y (i + 1) - y i)
 cb : ∀ i, i < n → f i 12 ≤ y (i + 1) ∧ y (i + 1) ≤ f i 13
def InC (n : Nat) (c : Nat → Int × Int) (y : Nat → Int) : Prop := ∀ i, i ≤ n → (c i).1 ≤ y i ∧ y i ≤ (c i).2
section
variable {a b : Int} {n : Nat} {f x : Nat → Nat → Int} {y : Nat → Int} {c : Nat → Int × Int}
theorem Fea.inCnt (h : Fea a b n f x y) : InC n (cnt a b f) y := fun i hi => by
 induction i with
 | zero => exact h.y0
 | succ i ih =>
  have h1 := ih (by omega)
  have h2 := (h.rw_ i (by omega)).grow
  have h3 := h.cb i (by omega)
  simp only [cnt]
  omega
theorem Fea.inBack1 (h : Fea a b n f x y) (hc : InC n c y) {i : Nat} (hi : i < n) : InC n (back1 f c i) y := fun j hj => by
 have h1 := hc j hj
 have h2 := (h.rw_ i hi).grow
 have h3 := hc (i + 1) (by omega)
 unfold back1
 split
 · rename_i e; subst e; dsimp only; omega
 · exact h1
theorem Fea.inBacks (h : Fea a b n f x y) : ∀ (l : List Nat) (c : Nat → Int × Int), InC n c y → (∀ i ∈ l, i < n) → InC n (backs f c l) y
 | [], _, hc, _ => hc
 | i :: l, c, hc, hl => Fea.inBacks h l (back1 f c i) (h.inBack1 hc (hl i (by simp))) fun j hj => hl j (by simp [hj])
theorem Fea.inCounts (h : Fea a b n f x y) : InC n (counts a b f n) y := h.inBacks _ _ h.inCnt fun i hi => by simpa using hi
theorem Fea.inKnown (h : Fea a b n f x y) {i : Nat} (hi : i < n) : (∀ k, k < 6 → known f (counts a b f n) i (2 * k) ≤ x i k ∧ x i k ≤ known f (counts a b f n) i (2 * k + 1)) ∧ known f (counts a b f n) i 12 ≤ y (i + 1) ∧ y (i + 1) ≤ known f (counts a b f n) i 13 := by
 have hc := h.inCounts
 have h1 := hc i (by omega)
 have h2 := hc (i + 1) (by omega)
 have hr := h.rw_ i hi
 have b0 := hr.bd 0 (by omega)
 have b1 := hr.bd 1 (by omega)
 have b2 := hr.bd 2 (by omega)
 have b3 := hr.bd 3 (by omega)
 have b4 := hr.bd 4 (by omega)
 have b5 := hr.bd 5 (by omega)
 have hs := hr.st
 simp only [Nat.mul_zero, Nat.zero_add, Nat.reduceMul, Nat.reduceAdd] at b0 b1 b2 b3 b4 b5
 refine ⟨fun k hk => ?_, ?_⟩
 · rcases (by omega : k = 0 ∨ k = 1 ∨ k = 2 ∨ k = 3 ∨ k = 4 ∨ k = 5) with rfl | rfl | rfl | rfl | rfl | rfl <;> simp [known, overLo, overHi, gl3, gh3] <;> omega
 · simp [known]; omega
structure Cst (n : Nat) (f : Nat → Nat → Int) (c : Nat → Int × Int) : Prop where
 ne : ∀ i, i ≤ n → (c i).1 ≤ (c i).2
 fw : ∀ i, i < n → (c i).1 + growLo (f i) 3 ≤ (c (i + 1)).1 ∧ (c (i + 1)).2 ≤ (c i).2 + growHi (f i) 3
 bw : ∀ i, i < n → (c (i + 1)).1 - growHi (f i) 3 ≤ (c i).1 ∧ (c i).2 ≤ (c (i + 1)).2 - growLo (f i) 3
 cb : ∀ i, i < n → f i 12 ≤ (c (i + 1)).1 ∧ (c (i + 1)).2 ≤ f i 13
theorem grow_le {r : Nat → Int} (h : ∀ k, k < 6 → r (2 * k) ≤ r (2 * k + 1)) : growLo r 3 ≤ growHi r 3 := by
 have k0 := h 0 (by omega)
 have k1 := h 1 (by omega)
 have k2 := h 2 (by omega)
 have k3 := h 3 (by omega)
 have k4 := h 4 (by omega)
 have k5 := h 5 (by omega)
 simp only [Nat.mul_zero, Nat.zero_add, Nat.reduceMul, Nat.reduceAdd] at k0 k1 k2 k3 k4 k5
 rw [gl3, gh3]; omega
theorem back1_1 {i : Nat} : (back1 f c i i).1 = max (c i).1 ((c (i + 1)).1 - growHi (f i) 3) := by unfold back1; rw [if_pos rfl]
theorem back1_2 {i : Nat} : (back1 f c i i).2 = min (c i).2 ((c (i + 1)).2 - growLo (f i) 3) := by unfold back1; rw [if_pos rfl]
theorem back1_ne {i j : Nat} (h : j ≠ i) : back1 f c i j = c j := if_neg h
theorem back_inv (hr : ∀ i, i < n → ∀ k, k < 6 → f i (2 * k) ≤ f i (2 * k + 1)) (hn : ∀ i, i ≤ n → (cnt a b f i).1 ≤ (cnt a b f i).2) : ∀ p, p ≤ n →
    (∀ j, j ≤ n → (j + p < n + 0 ∨ j = n) → (backs f (cnt a b f) ((List.range n).reverse.take p) j) = cnt a b f j) ∧
    (∀ j, j ≤ n → (cnt a b f j).1 ≤ (backs f (cnt a b f) ((List.range n).reverse.take p) j).1 ∧ (backs f (cnt a b f) ((List.range n).reverse.take p) j).2 ≤ (cnt a b f j).2 ∧ (backs f (cnt a b f) ((List.range n).reverse.take p) j).1 ≤ (backs f (cnt a b f) ((List.range n).reverse.take p) j).2) ∧
    (∀ j, n ≤ j + p → j < n → (backs f (cnt a b f) ((List.range n).reverse.take p) j).1 + growLo (f j) 3 ≤ (backs f (cnt a b f) ((List.range n).reverse.take p) (j + 1)).1 ∧ (backs f (cnt a b f) ((List.range n).reverse.take p) (j + 1)).2 ≤ (backs f (cnt a b f) ((List.range n).reverse.take p) j).2 + growHi (f j) 3 ∧ (backs f (cnt a b f) ((List.range n).reverse.take p) (j + 1)).1 - growHi (f j) 3 ≤ (backs f (cnt a b f) ((List.range n).reverse.take p) j).1 ∧ (backs f (cnt a b f) ((List.range n).reverse.take p) j).2 ≤ (backs f (cnt a b f) ((List.range n).reverse.take p) (j + 1)).2 - growLo (f j) 3)
  | 0, _ => ⟨fun j _ _ => rfl, fun j hj => ⟨Int.le_refl _, Int.le_refl _, hn j hj⟩, fun j h1 h2 => by omega⟩
  | p + 1, hp => by
    obtain ⟨h1, h2, h3⟩ := back_inv hr hn p (by omega)
    have hl : (List.range n).reverse.take (p + 1) = (List.range n).reverse.take p ++ [n - 1 - p] := by
      rw [List.take_succ]
      congr 1
      rw [List.getElem?_reverse (by simp; omega)]
      simp [List.getElem?_range (show n - 1 - p < n by omega)]
    have e : backs f (cnt a b f) ((List.range n).reverse.take (p + 1)) = back1 f (backs f (cnt a b f) ((List.range n).reverse.take p)) (n - 1 - p) := by
      rw [hl]; simp [backs]
    rw [e]
    generalize backs f (cnt a b f) ((List.range n).reverse.take p) = C at h1 h2 h3
    have hx := hr (n - 1 - p) (by omega)
    have hg := grow_le hx
    have q1 := h1 (n - 1 - p) (by omega) (by omega)
    have q1a := congrArg Prod.fst q1
    have q1b := congrArg Prod.snd q1
    have q2 := h2 (n - 1 - p) (by omega)
    have q3 := h2 (n - 1 - p + 1) (by omega)
    have q4 : (cnt a b f (n - 1 - p)).1 + growLo (f (n - 1 - p)) 3 ≤ (cnt a b f (n - 1 - p + 1)).1 ∧ (cnt a b f (n - 1 - p + 1)).2 ≤ (cnt a b f (n - 1 - p)).2 + growHi (f (n - 1 - p)) 3 := by simp only [cnt]; omega
    have b1 := back1_1 (f := f) (c := C) (i := n - 1 - p)
    have b2 := back1_2 (f := f) (c := C) (i := n - 1 - p)
    have b3 : back1 f C (n - 1 - p) (n - 1 - p + 1) = C (n - 1 - p + 1) := back1_ne (by omega)
    refine ⟨fun j hj hh => ?_, fun j hj => ?_, fun j hj1 hj2 => ?_⟩
    · rw [back1_ne (by omega)]
      exact h1 j hj (by omega)
    · by_cases ej : j = n - 1 - p
      · rw [ej]; omega
      · rw [back1_ne ej]; exact h2 j hj
    · by_cases ej : j = n - 1 - p
      · rw [ej, b3]; omega
      · rw [back1_ne ej, back1_ne (by omega)]
        exact h3 j (by omega) hj2
theorem cst_counts (hr : ∀ i, i < n → ∀ k, k < 6 → f i (2 * k) ≤ f i (2 * k + 1)) (hn : ∀ i, i ≤ n → (cnt a b f i).1 ≤ (cnt a b f i).2) : Cst n f (counts a b f n) ∧ a ≤ (counts a b f n 0).1 ∧ (counts a b f n 0).2 ≤ b := by
 obtain ⟨h1, h2, h3⟩ := back_inv hr hn n (Nat.le_refl _)
 have e : (List.range n).reverse.take n = (List.range n).reverse := List.take_of_length_le (by simp)
 rw [e] at h1 h2 h3
 refine ⟨⟨fun i hi => (h2 i hi).2.2, fun i hi => ⟨(h3 i (by omega) hi).1, (h3 i (by omega) hi).2.1⟩, fun i hi => ⟨(h3 i (by omega) hi).2.2.1, (h3 i (by omega) hi).2.2.2⟩, fun i hi => ?_⟩, (h2 0 (by omega)).1, (h2 0 (by omega)).2.1⟩
 have h4 := h2 (i + 1) (by omega)
 have h5 : f i 12 ≤ (cnt a b f (i + 1)).1 ∧ (cnt a b f (i + 1)).2 ≤ f i 13 := by simp only [cnt]; omega
 unfold counts
 omega
def Stp (f : Nat → Nat → Int) (i : Nat) (u v : Int) : Prop := growLo (f i) 3 ≤ v - u ∧ v - u ≤ growHi (f i) 3
theorem ext_left (hr : ∀ i, i < n → ∀ k, k < 6 → f i (2 * k) ≤ f i (2 * k + 1)) (hc : Cst n f c) : ∀ (i : Nat) (v : Int), i ≤ n → (c i).1 ≤ v → v ≤ (c i).2 → ∃ y : Nat → Int, y i = v ∧ (∀ j, j ≤ i → (c j).1 ≤ y j ∧ y j ≤ (c j).2) ∧ ∀ j, j < i → Stp f j (y j) (y (j + 1))
  | 0, v, _, h1, h2 => ⟨fun _ => v, rfl, fun j hj => (show j = 0 by omega) ▸ ⟨h1, h2⟩, fun j hj => by omega⟩
  | i + 1, v, hi, h1, h2 => by
    have f1 := hc.fw i (by omega)
    have f2 := hc.bw i (by omega)
    have f3 := hc.ne i (by omega)
    have hg := grow_le (hr i (by omega))
    obtain ⟨y, e, hy, hs⟩ := ext_left hr hc i (max (c i).1 (v - growHi (f i) 3)) (by omega) (by omega) (by omega)
    refine ⟨fun j => if j ≤ i then y j else v, if_neg (by omega), fun j hj => ?_, fun j hj => ?_⟩
    · dsimp only
      by_cases e2 : j ≤ i
      · rw [if_pos e2]; exact hy j e2
      · rw [if_neg e2]
        obtain rfl : j = i + 1 := by omega
        exact ⟨h1, h2⟩
    · dsimp only
      rw [if_pos (by omega)]
      by_cases e2 : j + 1 ≤ i
      · rw [if_pos e2]; exact hs j (by omega)
      · obtain rfl : j = i := by omega
        rw [if_neg (by omega), e]
        unfold Stp; omega
theorem ext_right (hr : ∀ i, i < n → ∀ k, k < 6 → f i (2 * k) ≤ f i (2 * k + 1)) (hc : Cst n f c) : ∀ (m i : Nat) (v : Int), i + m = n → (c i).1 ≤ v → v ≤ (c i).2 → ∃ y : Nat → Int, y i = v ∧ (∀ j, i ≤ j → j ≤ n → (c j).1 ≤ y j ∧ y j ≤ (c j).2) ∧ ∀ j, i ≤ j → j < n → Stp f j (y j) (y (j + 1))
  | 0, i, v, hi, h1, h2 => ⟨fun _ => v, rfl, fun j hj hj2 => (show j = i by omega) ▸ ⟨h1, h2⟩, fun j hj hj2 => by omega⟩
  | m + 1, i, v, hi, h1, h2 => by
    have f1 := hc.fw i (by omega)
    have f2 := hc.bw i (by omega)
    have f3 := hc.ne (i + 1) (by omega)
    have hg := grow_le (hr i (by omega))
    obtain ⟨y, e, hy, hs⟩ := ext_right hr hc m (i + 1) (max (c (i + 1)).1 (v + growLo (f i) 3)) (by omega) (by omega) (by omega)
    refine ⟨fun j => if j ≤ i then v else y j, if_pos (Nat.le_refl _), fun j hj hj2 => ?_, fun j hj hj2 => ?_⟩
    · dsimp only
      by_cases e2 : j ≤ i
      · obtain rfl : j = i := by omega
        rw [if_pos e2]; exact ⟨h1, h2⟩
      · rw [if_neg e2]; exact hy j (by omega) hj2
    · dsimp only
      rw [if_neg (show ¬ j + 1 ≤ i by omega)]
      by_cases e2 : j ≤ i
      · obtain rfl : j = i := by omega
        rw [if_pos e2, e]
        unfold Stp; omega
      · rw [if_neg e2]; exact hs j (by omega) hj2
theorem ext_step {f' : Nat → Nat → Int} (hr : ∀ i, i < n → ∀ k, k < 6 → f i (2 * k) ≤ f i (2 * k + 1)) (hc : Cst n f c) {i : Nat} {u v : Int} (hi : i < n) (hu : (c i).1 ≤ u ∧ u ≤ (c i).2) (hv : (c (i + 1)).1 ≤ v ∧ v ≤ (c (i + 1)).2) (hs : Stp f' i u v) (hf : ∀ j, j < n → j ≠ i → f' j = f j) :
    ∃ y : Nat → Int, y i = u ∧ y (i + 1) = v ∧ (∀ j, j ≤ n → (c j).1 ≤ y j ∧ y j ≤ (c j).2) ∧ ∀ j, j < n → Stp f' j (y j) (y (j + 1)) := by
  obtain ⟨y1, e1, a1, b1⟩ := ext_left hr hc i u (by omega) hu.1 hu.2
  obtain ⟨y2, e2, a2, b2⟩ := ext_right hr hc (n - (i + 1)) (i + 1) v (by omega) hv.1 hv.2
  refine ⟨fun j => if j ≤ i then y1 j else y2 j, (if_pos (Nat.le_refl _)).trans e1, (if_neg (by omega)).trans e2, fun j hj => ?_, fun j hj => ?_⟩
  · dsimp only
    split
    · exact a1 j (by omega)
    · exact a2 j (by omega) hj
  · dsimp only
    by_cases h1 : j + 1 ≤ i
    · rw [if_pos (show j ≤ i by omega), if_pos h1]
      have := b1 j (by omega)
      unfold Stp at this ⊢
      rw [hf j hj (by omega)]; exact this
    · by_cases h2 : j = i
      · subst h2; rw [if_pos (Nat.le_refl _), if_neg h1, e1, e2]; exact hs
      · rw [if_neg (show ¬ j ≤ i by omega), if_neg h1]
        have := b2 j (by omega) hj
        unfold Stp at this ⊢
        rw [hf j hj h2]; exact this
theorem fea_of (hr : ∀ i, i < n → ∀ k, k < 6 → f i (2 * k) ≤ f i (2 * k + 1)) (h0 : a ≤ y 0 ∧ y 0 ≤ b) (hs : ∀ j, j < n → Stp f j (y j) (y (j + 1))) (hcb : ∀ i, i < n → f i 12 ≤ y (i + 1) ∧ y (i + 1) ≤ f i 13) : ∃ x, Fea a b n f x y := by
 have key : ∀ i, ∃ x, i < n → RowN (f i) x (y (i + 1) - y i) := fun i => by
  by_cases hi : i < n
  · obtain ⟨x, hx⟩ := rowN_of (hr i hi) (hs i hi).1 (hs i hi).2
    exact ⟨x, fun _ => hx⟩
  · exact ⟨fun _ => 0, fun h => absurd h hi⟩
 exact ⟨fun i => (key i).choose, h0, fun i hi => (key i).choose_spec hi, hcb⟩
def setF (f : Nat → Nat → Int) (i k : Nat) (lo hi : Int) : Nat → Nat → Int := fun j q => if j = i ∧ q = 2 * k then lo else if j = i ∧ q = 2 * k + 1 then hi else f j q
theorem setF_ne {i k j : Nat} {lo hi : Int} (h : j ≠ i) : setF f i k lo hi j = f j := by
 funext q; unfold setF; rw [if_neg (fun e => h e.1), if_neg (fun e => h e.1)]
theorem setF_lo {i k : Nat} {lo hi : Int} : setF f i k lo hi i (2 * k) = lo := by unfold setF; rw [if_pos ⟨rfl, rfl⟩]
theorem setF_hi {i k : Nat} {lo hi : Int} : setF f i k lo hi i (2 * k + 1) = hi := by unfold setF; rw [if_neg (by omega), if_pos ⟨rfl, rfl⟩]
theorem setF_oth {i k q : Nat} {lo hi : Int} (h : q / 2 ≠ k) : setF f i k lo hi i q = f i q := by unfold setF; rw [if_neg (by omega), if_neg (by omega)]
theorem setF_gl {i k : Nat} {lo hi : Int} (hk : k < 6) : growLo (setF f i k lo hi i) 3 = growLo (f i) 3 + (if k < 3 then lo - f i (2 * k) else f i (2 * k + 1) - hi) ∧ growHi (setF f i k lo hi i) 3 = growHi (f i) 3 + (if k < 3 then hi - f i (2 * k + 1) else f i (2 * k) - lo) := by
 rcases (by omega : k = 0 ∨ k = 1 ∨ k = 2 ∨ k = 3 ∨ k = 4 ∨ k = 5) with rfl | rfl | rfl | rfl | rfl | rfl <;> simp [gl3, gh3, setF] <;> omega
theorem reach (hr : ∀ i, i < n → ∀ k, k < 6 → f i (2 * k) ≤ f i (2 * k + 1)) (hn : ∀ i, i ≤ n → (cnt a b f i).1 ≤ (cnt a b f i).2) {i k : Nat} (hi : i < n) (hk : k < 7) {v : Int} (hv : v = known f (counts a b f n) i (2 * k) ∨ v = known f (counts a b f n) i (2 * k + 1)) :
    (f i (2 * k) ≤ v ∧ v ≤ f i (2 * k + 1)) ∧ ∃ x y, Fea a b n (setF f i k v v) x y := by
  obtain ⟨hc, h0a, h0b⟩ := cst_counts hr hn
  have hcb := hc.cb
  generalize hcd : counts a b f n = c at hc h0a h0b hv hcb
  have c1 := hc.ne i (by omega)
  have c2 := hc.ne (i + 1) (by omega)
  have c3 := hc.fw i hi
  have c4 := hc.bw i hi
  have c5 := hcb i hi
  have hri := hr i hi
  have hgl := grow_le hri
  have hr' : ∀ (lo hi' : Int), lo ≤ hi' → ∀ j, j < n → ∀ q, q < 6 → setF f i k lo hi' j (2 * q) ≤ setF f i k lo hi' j (2 * q + 1) := fun lo hi' hle j hj q hq => by
    by_cases e : j = i
    · subst e
      by_cases e2 : q = k
      · subst e2; rw [setF_lo, setF_hi]; exact hle
      · rw [setF_oth (by omega), setF_oth (by omega)]; exact hr j hj q hq
    · rw [setF_ne e]; exact hr j hj q hq
  by_cases h6 : k = 6
  · subst h6
    have hv' : (c (i + 1)).1 ≤ v ∧ v ≤ (c (i + 1)).2 := by rcases hv with rfl | rfl <;> simp [known] <;> omega
    refine ⟨by simp only [Nat.reduceMul, Nat.reduceAdd]; omega, ?_⟩
    have hgg : growLo (setF f i 6 v v i) 3 = growLo (f i) 3 ∧ growHi (setF f i 6 v v i) 3 = growHi (f i) 3 := by simp [gl3, gh3, setF]
    obtain ⟨u, hu1, hu2⟩ : ∃ u, ((c i).1 ≤ u ∧ u ≤ (c i).2) ∧ Stp (setF f i 6 v v) i u v := ⟨max (c i).1 (v - growHi (f i) 3), by omega, by unfold Stp; rw [hgg.1, hgg.2]; omega⟩
    obtain ⟨y, e1, e2, hy, hs⟩ := ext_step (f' := setF f i 6 v v) hr hc hi hu1 hv' hu2 fun j _ h => setF_ne h
    have h00 := hy 0 (by omega)
    obtain ⟨x, hx⟩ := fea_of (a := a) (b := b) (f := setF f i 6 v v) (y := y) (hr' v v (Int.le_refl _)) (by omega) hs fun j hj => by
      by_cases e : j = i
      · subst e
        have q1 : setF f j 6 v v j 12 = v := setF_lo (k := 6)
        have q2 : setF f j 6 v v j 13 = v := setF_hi (k := 6)
        rw [q1, q2, e2]; omega
      · rw [setF_ne e]
        have := hcb j hj
        have := hy (j + 1) (by omega)
        omega
    exact ⟨x, y, hx⟩
  · have hk6 : k < 6 := by omega
    have hkk := hri k hk6
    obtain ⟨g1, g2⟩ := setF_gl (f := f) (i := i) (lo := v) (hi := v) hk6
    have hbd : (f i (2 * k) ≤ v ∧ v ≤ f i (2 * k + 1)) ∧ (c (i + 1)).1 - (c i).2 ≤ growHi (setF f i k v v i) 3 ∧ growLo (setF f i k v v i) 3 ≤ (c (i + 1)).2 - (c i).1 ∧ growLo (setF f i k v v i) 3 ≤ growHi (setF f i k v v i) 3 := by
      rw [g1, g2]
      have o1 : (growHi (f i) 3 - (f i (2 * k + 1) - f i (2 * k))) - growLo (f i) 3 ≥ 0 := by
        have k0 := hri 0 (by omega)
        have k1 := hri 1 (by omega)
        have k2 := hri 2 (by omega)
        have k3 := hri 3 (by omega)
        have k4 := hri 4 (by omega)
        have k5 := hri 5 (by omega)
        simp only [Nat.mul_zero, Nat.zero_add, Nat.reduceMul, Nat.reduceAdd] at k0 k1 k2 k3 k4 k5
        rw [gl3, gh3]
        rcases (by omega : k = 0 ∨ k = 1 ∨ k = 2 ∨ k = 3 ∨ k = 4 ∨ k = 5) with rfl | rfl | rfl | rfl | rfl | rfl <;> simp <;> omega
      have o2 : ∀ j, j < 12 → j ≠ 12 ∧ j ≠ 13 := fun j h => ⟨by omega, by omega⟩
      by_cases h3 : k < 3
      · rw [if_pos h3, if_pos h3]
        have e1 : known f c i (2 * k) = max (f i (2 * k)) (overLo f c i + f i (2 * k + 1)) := by
          unfold known
          rw [if_neg (by omega), if_neg (by omega), if_pos (by omega), if_pos (by omega)]
        have e2 : known f c i (2 * k + 1) = min (f i (2 * k + 1)) (overHi f c i + f i (2 * k)) := by
          unfold known
          rw [if_neg (by omega), if_neg (by omega), if_pos (by omega), if_neg (by omega), show 2 * k + 1 - 1 = 2 * k by omega]
        rw [e1, e2] at hv
        unfold overLo overHi at hv
        rcases hv with hv | hv <;> omega
      · rw [if_neg h3, if_neg h3]
        have e1 : known f c i (2 * k) = max (f i (2 * k)) (f i (2 * k + 1) - overHi f c i) := by
          unfold known
          rw [if_neg (by omega), if_neg (by omega), if_neg (by omega), if_pos (by omega)]
        have e2 : known f c i (2 * k + 1) = min (f i (2 * k + 1)) (f i (2 * k) - overLo f c i) := by
          unfold known
          rw [if_neg (by omega), if_neg (by omega), if_neg (by omega), if_neg (by omega), show 2 * k + 1 - 1 = 2 * k by omega]
        rw [e1, e2] at hv
        unfold overLo overHi at hv
        rcases hv with hv | hv <;> omega
    obtain ⟨hb1, hb2, hb3, hb4⟩ := hbd
    refine ⟨hb1, ?_⟩
    obtain ⟨u, w, hu, hw, hs⟩ : ∃ u w, ((c i).1 ≤ u ∧ u ≤ (c i).2) ∧ ((c (i + 1)).1 ≤ w ∧ w ≤ (c (i + 1)).2) ∧ Stp (setF f i k v v) i u w := by
      unfold Stp
      generalize growLo (setF f i k v v i) 3 = gl at *
      generalize growHi (setF f i k v v i) 3 = gh at *
      by_cases h1 : (c (i + 1)).1 - (c i).2 ≥ gl
      · exact ⟨(c i).2, (c (i + 1)).1, by omega, by omega, by omega⟩
      · by_cases h2 : (c i).2 + gl ≤ (c (i + 1)).2
        · exact ⟨(c i).2, (c i).2 + gl, by omega, by omega, by omega⟩
        · exact ⟨(c (i + 1)).2 - gl, (c (i + 1)).2, by omega, by omega, by omega⟩
    obtain ⟨y, e1, e2, hy, hs2⟩ := ext_step (f' := setF f i k v v) hr hc hi hu hw hs fun j _ h => setF_ne h
    have h00 := hy 0 (by omega)
    obtain ⟨x, hx⟩ := fea_of (a := a) (b := b) (f := setF f i k v v) (y := y) (hr' v v (Int.le_refl _)) (by omega) hs2 fun j hj => by
      have q1 := hcb j hj
      have q2 := hy (j + 1) (by omega)
      by_cases e : j = i
      · subst e
        rw [setF_oth (by omega), setF_oth (by omega)]; omega
      · rw [setF_ne e]; omega
    exact ⟨x, y, hx⟩
theorem tErr_fea (hs : spanB a b = true) (h40 : n ≤ 40) (hok : ∀ i, i < n → rowOk (f i) = true) : tErr a b n f = none ↔ ∃ x y, Fea a b n f x y := by
 have hr : ∀ i, i < n → ∀ k, k < 6 → f i (2 * k) ≤ f i (2 * k + 1) := fun i hi k hk => (rowOk_iff.1 (hok i hi) k (by omega)).1
 unfold tErr
 rw [if_neg (by simp [hs]), if_neg (by omega), firstNot_none hok]
 dsimp only
 constructor
 · intro h
   have hn : ∀ i, i < n → decide ((cnt a b f (i + 1)).1 ≤ (cnt a b f (i + 1)).2) = true := fun i hi => by
    cases hq : decide ((cnt a b f (i + 1)).1 ≤ (cnt a b f (i + 1)).2) with
    | true => rfl
    | false =>
     have hne : ∃ k, firstNot n (fun i => decide ((cnt a b f (i + 1)).1 ≤ (cnt a b f (i + 1)).2)) = some k := by
      unfold firstNot
      cases hf : (List.range n).find? fun i => !decide ((cnt a b f (i + 1)).1 ≤ (cnt a b f (i + 1)).2) with
      | some k => exact ⟨k, rfl⟩
      | none =>
       rw [List.find?_range_eq_none] at hf
       have := hf i hi
       rw [hq] at this; cases this
     obtain ⟨k, hk⟩ := hne
     rw [hk] at h; cases h
   have hn2 : ∀ i, i ≤ n → (cnt a b f i).1 ≤ (cnt a b f i).2 := fun i hi => by
    cases i with
    | zero => exact (spanB_iff.1 hs).1
    | succ i => exact of_decide_eq_true (hn i (by omega))
   obtain ⟨hc, h0a, h0b⟩ := cst_counts hr hn2
   have c0 := hc.ne 0 (by omega)
   obtain ⟨y, e, hy, hst⟩ := ext_right hr hc n 0 (counts a b f n 0).1 (by omega) (Int.le_refl _) c0
   obtain ⟨x, hx⟩ := fea_of (a := a) (b := b) (f := f) (y := y) hr (by omega) (fun j hj => hst j (by omega) hj) fun j hj => by
    have q1 := hc.cb j hj
    have q2 := hy (j + 1) (by omega) (by omega)
    omega
   exact ⟨x, y, hx⟩
 · rintro ⟨x, y, h⟩
   have hc := h.inCnt
   rw [firstNot_none fun i hi => by
    have := hc (i + 1) (by omega)
    exact decide_eq_true (by omega)]
theorem Fea.wider {f' : Nat → Nat → Int} (h : Fea a b n f' x y) (hw : ∀ i, i < n → ∀ k, k < 7 → f i (2 * k) ≤ f' i (2 * k) ∧ f' i (2 * k + 1) ≤ f i (2 * k + 1)) : Fea a b n f x y :=
 ⟨h.y0, fun i hi => ⟨(h.rw_ i hi).st, fun k hk => by
  have h1 := (h.rw_ i hi).bd k hk
  have h2 := hw i hi k (by omega)
  omega⟩, fun i hi => by
  have h1 := h.cb i hi
  have h2 := hw i hi 6 (by omega)
  simp only [Nat.reduceMul, Nat.reduceAdd] at h2
  omega⟩
end
end Go.Proofs.YtbenhafhklfhmaaGreat
namespace Go.Proofs.YtbenhafhklfhmaaGreat
set_option linter.all false
set_option linter.unusedVariables false
set_option linter.unusedSimpArgs false
section
variable {a b : Int} {n : Nat} {f : Nat → Nat → Int}
def rgtB (a b : Int) (n : Nat) (f : Nat → Nat → Int) : Bool := spanB a b && decide (n ≤ 40) && allB n fun i => rowOk (f i)
theorem rgt_in (h : rgtB a b n f = true) : spanB a b = true ∧ n ≤ 40 ∧ ∀ i, i < n → rowOk (f i) = true := by
 unfold rgtB at h
 rw [Bool.and_eq_true, Bool.and_eq_true, decide_eq_true_eq, allB_iff] at h
 exact ⟨h.1.1, h.1.2, h.2⟩
def cOk (a b : Int) (f : Nat → Nat → Int) (i : Nat) : Bool := decide ((cnt a b f (i + 1)).1 ≤ (cnt a b f (i + 1)).2)
theorem tErr_rgt (hs : spanB a b = true) (h40 : n ≤ 40) (hok : ∀ i, i < n → rowOk (f i) = true) : tErr a b n f = match firstNot n (cOk a b f) with
    | some i => some (i, 25)
    | none => none := by
  unfold tErr
  rw [if_neg (by simp [hs]), if_neg (by omega), firstNot_none hok]
  rfl
theorem firstNot_is {p : Nat → Bool} : (∃ i, i < n ∧ firstNot n p = some i ∧ p i = false ∧ ∀ j, j < i → p j = true) ∨ (firstNot n p = none ∧ ∀ j, j < n → p j = true) := by
 unfold firstNot
 cases h : (List.range n).find? fun i => !p i with
 | none =>
  rw [List.find?_range_eq_none] at h
  exact .inr ⟨rfl, fun j hj => by simpa using h j hj⟩
 | some i =>
  rw [List.find?_range_eq_some] at h
  exact .inl ⟨i, by simpa using h.2.1, rfl, by simpa using h.1, fun j hj => by simpa using h.2.2 j hj⟩
theorem tly_first (hs : spanB a b = true) (h40 : n ≤ 40) (hok : ∀ i, i < n → rowOk (f i) = true) : tErr a b n f = none ∨ ∃ i, i < n ∧ tErr a b n f = some (i, 25) ∧ tErr a b i f = none ∧ tErr a b (i + 1) f = some (i, 25) := by
  rw [tErr_rgt hs h40 hok]
  rcases firstNot_is (n := n) (p := cOk a b f) with ⟨i, h1, h2, h3, h4⟩ | ⟨h1, _⟩
  · refine .inr ⟨i, h1, by rw [h2], ?_, ?_⟩
    · rw [tErr_rgt hs (by omega) fun j hj => hok j (by omega), firstNot_none fun j hj => h4 j hj]
    · rw [tErr_rgt hs (by omega) fun j hj => hok j (by omega), firstNot_some (by omega) h3 h4]
  · rw [h1]; exact .inl rfl
structure ReachS (a b : Int) (n : Nat) (f : Nat → Nat → Int) (i k : Nat) (s : Nat → Nat → Int) : Prop where
 bd : f i (2 * k) ≤ s i (2 * k) ∧ s i (2 * k) ≤ s i (2 * k + 1) ∧ s i (2 * k + 1) ≤ f i (2 * k + 1)
 lo : tErr a b n (setF f i k (s i (2 * k)) (s i (2 * k))) = none
 hi : tErr a b n (setF f i k (s i (2 * k + 1)) (s i (2 * k + 1))) = none
 blo : s i (2 * k) ≠ f i (2 * k) → tErr a b n (setF f i k (f i (2 * k)) (s i (2 * k) - 1)) ≠ none
 bhi : s i (2 * k + 1) ≠ f i (2 * k + 1) → tErr a b n (setF f i k (s i (2 * k + 1) + 1) (f i (2 * k + 1))) ≠ none
theorem set_ok {i k : Nat} {lo hi : Int} (hok : ∀ i, i < n → rowOk (f i) = true) (hi9 : i < n) (hk : k < 7) (h1 : 0 ≤ lo) (h2 : lo ≤ hi) (h3 : hi ≤ 100000) : ∀ j, j < n → rowOk (setF f i k lo hi j) = true := fun j hj => by
 by_cases e : j = i
 · subst e
   rw [rowOk_iff]
   intro q hq
   by_cases e2 : q = k
   · subst e2; rw [setF_lo, setF_hi]; omega
   · rw [setF_oth (by omega), setF_oth (by omega)]; exact rowOk_iff.1 (hok j hj) q hq
 · rw [setF_ne e]; exact hok j hj
theorem set_wide {i k : Nat} {lo hi : Int} (hi9 : i < n) (hk : k < 7) (h1 : f i (2 * k) ≤ lo) (h2 : hi ≤ f i (2 * k + 1)) : ∀ j, j < n → ∀ q, q < 7 → f j (2 * q) ≤ setF f i k lo hi j (2 * q) ∧ setF f i k lo hi j (2 * q + 1) ≤ f j (2 * q + 1) := fun j hj q hq => by
 by_cases e : j = i
 · subst e
   by_cases e2 : q = k
   · subst e2; rw [setF_lo, setF_hi]; omega
   · rw [setF_oth (by omega), setF_oth (by omega)]; omega
 · rw [setF_ne e]; omega
theorem fea_in {x : Nat → Nat → Int} {y : Nat → Int} {i k : Nat} {lo hi : Int} (h : Fea a b n (setF f i k lo hi) x y) (hi9 : i < n) (hk : k < 7) (h1 : f i (2 * k) ≤ lo) (h2 : hi ≤ f i (2 * k + 1)) : known f (counts a b f n) i (2 * k) ≤ hi ∧ lo ≤ known f (counts a b f n) i (2 * k + 1) := by
  have hw := (h.wider (set_wide hi9 hk h1 h2)).inKnown hi9
  by_cases e : k = 6
  · subst e
    have h3 := h.cb i hi9
    have q1 : setF f i 6 lo hi i 12 = lo := setF_lo (k := 6)
    have q2 : setF f i 6 lo hi i 13 = hi := setF_hi (k := 6)
    rw [q1, q2] at h3
    have h4 := hw.2
    simp only [Nat.reduceMul, Nat.reduceAdd]
    omega
  · have h3 := (h.rw_ i hi9).bd k (by omega)
    rw [setF_lo, setF_hi] at h3
    have h4 := hw.1 k (by omega)
    omega
theorem reach_say (hs : spanB a b = true) (h40 : n ≤ 40) (hok : ∀ i, i < n → rowOk (f i) = true) (h0 : tErr a b n f = none) {i k : Nat} (hi : i < n) (hk : k < 7) : ReachS a b n f i k (known f (counts a b f n)) := by
  have hr : ∀ i, i < n → ∀ k, k < 6 → f i (2 * k) ≤ f i (2 * k + 1) := fun i hi k hk => (rowOk_iff.1 (hok i hi) k (by omega)).1
  have hrk := rowOk_iff.1 (hok i hi) k hk
  have hc : ∀ j, j < n → cOk a b f j = true := by
    rw [tErr_rgt hs h40 hok] at h0
    rcases firstNot_is (n := n) (p := cOk a b f) with ⟨i, h1, h2, _⟩ | ⟨_, h2⟩
    · rw [h2] at h0; cases h0
    · exact h2
  have hn : ∀ i, i ≤ n → (cnt a b f i).1 ≤ (cnt a b f i).2 := fun i hi => by
    cases i with
    | zero => exact (spanB_iff.1 hs).1
    | succ i => exact of_decide_eq_true (hc i (by omega))
  obtain ⟨b1, x1, y1, f1⟩ := reach (a := a) (b := b) hr hn hi hk (.inl rfl)
  obtain ⟨b2, x2, y2, f2⟩ := reach (a := a) (b := b) hr hn hi hk (.inr rfl)
  have hin := fea_in f1 hi hk b1.1 b1.2
  have ok1 := set_ok hok hi hk (lo := known f (counts a b f n) i (2 * k)) (hi := known f (counts a b f n) i (2 * k)) (by omega) (Int.le_refl _) (by omega)
  have ok2 := set_ok hok hi hk (lo := known f (counts a b f n) i (2 * k + 1)) (hi := known f (counts a b f n) i (2 * k + 1)) (by omega) (Int.le_refl _) (by omega)
  refine ⟨⟨b1.1, hin.2, b2.2⟩, (tErr_fea hs h40 ok1).2 ⟨x1, y1, f1⟩, (tErr_fea hs h40 ok2).2 ⟨x2, y2, f2⟩, fun hne h9 => ?_, fun hne h9 => ?_⟩
  · obtain ⟨x, y, hf⟩ := (tErr_fea hs h40 (set_ok hok hi hk (by omega) (by omega) (by omega))).1 h9
    have := fea_in hf hi hk (Int.le_refl _) (by omega)
    omega
  · obtain ⟨x, y, hf⟩ := (tErr_fea hs h40 (set_ok hok hi hk (by omega) (by omega) (by omega))).1 h9
    have := fea_in hf hi hk (by omega) (Int.le_refl _)
    omega
end
end Go.Proofs.YtbenhafhklfhmaaGreat
namespace Go.Proofs.YtbenhafhklfhmaaGreat
set_option linter.all false
set_option linter.unusedVariables false
set_option linter.unusedSimpArgs false
def putR (r : Nat → Int) (k : Nat) (lo hi : Int) (q : Nat) : Int := if q = 2 * k then lo else if q = 2 * k + 1 then hi else r q
section
variable {r : Nat → Int} {k q : Nat} {lo hi : Int}
end
end Go.Proofs.YtbenhafhklfhmaaGreat
namespace Go.Proofs.YtbenhafhklfhmaaGreat
set_option linter.all false
set_option linter.unusedVariables false
set_option linter.unusedSimpArgs false
open Go.RowKit
theorem elA_some (b o k sz j : Nat) : elA (some ⟨b, o, none⟩) k sz j = some ⟨b, o + (k * sz + j), none⟩ := by
 unfold elA
 rw [Option.map_some, add_plain]
def fldV (A : Option Addr) (i : Nat) : List Value := [.pointer (elA A i 14 0), .pointer (elA A i 14 2), .pointer (elA A i 14 4), .pointer (elA A i 14 6), .pointer (elA A i 14 8), .pointer (elA A i 14 10), .pointer (elA A i 14 12)]
set_option maxRecDepth 100000 in
theorem fields0_any (b o : Nat) (w : World) : Calls Tryz.prog 29 #[.pointer (some ⟨b, o, none⟩)] w (Ret w (.agg #[.pointer (some ⟨b, o + 0, none⟩), .pointer (some ⟨b, o + 2, none⟩), .pointer (some ⟨b, o + 4, none⟩), .pointer (some ⟨b, o + 6, none⟩), .pointer (some ⟨b, o + 8, none⟩), .pointer (some ⟨b, o + 10, none⟩), .pointer (some ⟨b, o + 12, none⟩)])) := by
 refine K_enter (S := []) (K := []) Tryz.func29 rfl Tryz.ntmps29 rfl (Sat.start _) ?_
 refine TW.seq fun Y1 hY1 => TW.region ?_
 refine TL.m (Mk.al ty_zr73) ?_
 intro b1
 refine TL.nil (TQ.thenN (hY1 _ _ ?_))
 refine TW.seq fun Y2 hY2 => ?_
 refine TW.dw 22 ?_
 refine RK.tk Pu.mv ?_
 refine RK.tk (by first | exact Pu.nn | exact Pu.nc) ?_
 refine RK.tk (by first | exact Pu.fb ty_fa71_0 | exact Pu.fe ty_fa71_0) ?_
 refine RK.tk Pu.mv ?_
 refine RK.tk (by first | exact Pu.nn | exact Pu.nc) ?_
 refine RK.tk (by first | exact Pu.fb ty_fa71_1 | exact Pu.fe ty_fa71_1) ?_
 refine RK.tk Pu.mv ?_
 refine RK.tk (by first | exact Pu.nn | exact Pu.nc) ?_
 refine RK.tk (by first | exact Pu.fb ty_fa71_2 | exact Pu.fe ty_fa71_2) ?_
 refine RK.tk Pu.mv ?_
 refine RK.tk (by first | exact Pu.nn | exact Pu.nc) ?_
 refine RK.tk (by first | exact Pu.fb ty_fa71_3 | exact Pu.fe ty_fa71_3) ?_
 refine RK.tk Pu.mv ?_
 refine RK.tk (by first | exact Pu.nn | exact Pu.nc) ?_
 refine RK.tk (by first | exact Pu.fb ty_fa71_4 | exact Pu.fe ty_fa71_4) ?_
 refine RK.tk Pu.mv ?_
 refine RK.tk (by first | exact Pu.nn | exact Pu.nc) ?_
 refine RK.tk (by first | exact Pu.fb ty_fa71_5 | exact Pu.fe ty_fa71_5) ?_
 refine RK.tk Pu.mv ?_
 refine RK.tk (by first | exact Pu.nn | exact Pu.nc) ?_
 refine RK.tk (by first | exact Pu.fb ty_fa71_6 | exact Pu.fe ty_fa71_6) ?_
 refine RK.tk Pu.bd ?_
 refine RK.ch [] ?_ trivial
 refine WK.n ?_
 first | refine TL.st ty_sz73 ?_ | refine TL.se ty_sz73 ?_
 refine TL.nil (TQ.thenN (hY2 _ _ ?_))
 refine TW.ret ?_
 refine TQ.ret Tryz.results29 rfl ((RV.cs ty_ag73 .nil)) ?_
 exact fun w hw => Ret.of hw
theorem fields_any {A : Option Addr} (i : Nat) {w : World} (hA : ∃ b o, A = some ⟨b, o, none⟩) : Calls Tryz.prog 29 #[.pointer (elA A i 14 0)] w (Ret w (.agg (fldV A i).toArray)) := by
 obtain ⟨b, o, rfl⟩ := hA
 have h := fields0_any b (o + (i * 14 + 0)) w
 unfold fldV
 simp only [elA_some]
 simp only [Nat.add_assoc, Nat.zero_add, Nat.add_zero] at h ⊢
 exact h
theorem rdr_some {w : World} {sz n : Nat} {A : Option Addr} {r : Nat → List Value} (h : RdR w sz A n r) (hn : 0 < n) : ∃ b o, A = some ⟨b, o, none⟩ := by
 obtain ⟨b, off, h1, _⟩ := h.rd hn
 exact ⟨b, off, h1⟩
set_option maxRecDepth 100000 in
theorem idx7 {A : Option Addr} {i k : Nat} (hk : k < 7) (w : World) : (Instr.index 73 (.agg (fldV A i).toArray) (.int .i64 (k : Int))).run Tryz.prog w = .ok (.pointer (elA A i 14 (2 * k))) w := by
 unfold fldV
 rcases (by omega : k = 0 ∨ k = 1 ∨ k = 2 ∨ k = 3 ∨ k = 4 ∨ k = 5 ∨ k = 6) with rfl | rfl | rfl | rfl | rfl | rfl | rfl <;> first | kernel_rfl | (go_simp; rfl)
theorem sub7 {r : Nat → Int} {k : Nat} (hk : k < 7) : SubL (rowL r) (2 * k) 2 [.int .i64 (r (2 * k)), .int .i64 (r (2 * k + 1))] := by
 unfold rowL
 rcases (by omega : k = 0 ∨ k = 1 ∨ k = 2 ∨ k = 3 ∨ k = 4 ∨ k = 5 ∨ k = 6) with rfl | rfl | rfl | rfl | rfl | rfl | rfl <;> (repeat (first | exact SubL.nil | apply SubL.take | apply SubL.drop))
theorem put7 {r : Nat → Int} {k : Nat} {lo hi : Int} (hk : k < 7) : PutL (rowL r) (2 * k) [.int .i64 lo, .int .i64 hi] (rowL (putR r k lo hi)) := by
 unfold rowL
 rcases (by omega : k = 0 ∨ k = 1 ∨ k = 2 ∨ k = 3 ∨ k = 4 ∨ k = 5 ∨ k = 6) with rfl | rfl | rfl | rfl | rfl | rfl | rfl <;> simp only [putR] <;> (repeat (first | exact PutL.nil | apply PutL.put | apply PutL.pass))
theorem put_set {f : Nat → Nat → Int} {i k : Nat} {lo hi : Int} (j : Nat) : updR (fun j => rowL (f j)) i (rowL (putR (f i) k lo hi)) j = rowL (setF f i k lo hi j) := by
 unfold updR
 by_cases e : j = i
 · subst e
   rw [if_pos rfl]
   have : putR (f j) k lo hi = setF f j k lo hi j := by
    funext q
    unfold putR setF
    simp only [true_and]
   rw [this]
 · rw [if_neg e, setF_ne e]
section
variable {w : World} {A : Option Addr} {a b : Int} {n cp : Nat} {f : Nat → Nat → Int}
theorem tC_none : tC (tErr a b n f) = 0 ↔ tErr a b n f = none := by
 cases h : tErr a b n f with
 | none => exact ⟨fun _ => rfl, fun _ => rfl⟩
 | some x =>
  obtain ⟨i, c⟩ := x
  refine ⟨fun h9 => ?_, fun h9 => (by cases h9)⟩
  have h8 : c = 0 := h9
  unfold tErr at h
  split at h
  · cases h; cases h8
  · split at h
    · cases h; cases h8
    · split at h
      · cases h; cases h8
      · split at h
        · cases h; cases h8
        · cases h
theorem sub70 {r : Nat → Int} {k : Nat} (hk : k < 7) : SubL (rowL r) (2 * k) 0 [] := by
 unfold rowL
 rcases (by omega : k = 0 ∨ k = 1 ∨ k = 2 ∨ k = 3 ∨ k = 4 ∨ k = 5 ∨ k = 6) with rfl | rfl | rfl | rfl | rfl | rfl | rfl <;> (repeat (first | exact SubL.nil | apply SubL.take | apply SubL.drop))
end
theorem tallyR_K (a b : Int) (A : Option Addr) (n cp : Nat) (f : Nat → Nat → Int) (w : World) (hR : RdR w 14 A n fun i => rowL (f i)) (hA : A = none → cp = 0 ∧ n = 0) (hn : n ≤ 1000000) :
    CallsK Tryz.prog 30 #[.agg #[.int .i64 a, .int .i64 b], .slice A n cp] [] w TX (tallyV (tErr a b n f) n) (tallyL a b f (tErr a b n f) n) := by
  refine (tally_any a b A n cp f w (hR.rd.congr fun i j hi hj => rowL_rowF (f i) j hj) hn hA).mono ?_
  rintro e w' ⟨hb, h⟩
  cases ht : tErr a b n f with
  | none =>
    rw [ht] at h
    obtain ⟨v1, v2, rfl, h1, h2⟩ := h
    obtain ⟨A1, c1, rfl, _, _, _⟩ := h1.form
    obtain ⟨A2, c2, rfl, _, _, _⟩ := h2.form
    refine ⟨(A1, c1, A2, c2), rfl, Chg.of_ext hb, ?_, fun q hq => ?_, fun φ hφ => ?_⟩
    · show ((Fact.own A1 (n + 1) c1 36 2 _).foot ++ ((Fact.own A2 n c2 71 14 _).foot ++ [])).Nodup
      rw [own_foot, own_foot, List.append_nil]
      refine List.nodup_append.2 ⟨?_, ?_, fun x hx y hy e => ?_⟩
      · cases (Value.slice A1 (n + 1) c1).ownBlock <;> simp
      · cases (Value.slice A2 n c2).ownBlock <;> simp
      · subst e
        simp only [Option.mem_toList] at hx hy
        rcases h1.2 with ⟨e1, _⟩ | ⟨g1, k1, u1, e1, _, q1, _⟩
        · rw [e1] at hx; cases hx
        · rcases h2.2 with ⟨e2, _⟩ | ⟨g2, k2, u2, e2, _, q2, _⟩
          · rw [e2] at hy; cases hy
          · rw [e1] at hx; rw [e2] at hy
            have hx' : g1 = x := by simpa [Value.ownBlock] using hx
            have hy' : g2 = x := by simpa [Value.ownBlock] using hy
            subst hx'
            subst hy'
            rw [q1] at q2
            cases q2
    · have hq' : q ∈ (Fact.own A1 (n + 1) c1 36 2 (fun _ => [])).foot ∨ q ∈ (Fact.own A2 n c2 71 14 (fun _ => [])).foot := by
        have : q ∈ (Fact.own A1 (n + 1) c1 36 2 (fun _ => [])).foot ++ ((Fact.own A2 n c2 71 14 (fun _ => [])).foot ++ []) := by
          rw [own_foot, own_foot]; rw [show feet (tallyL a b f none n (A1, c1, A2, c2)) = _ from rfl] at hq; simpa [feet, tallyL, own_foot, tN] using hq
        simpa using this
      rw [own_foot, own_foot] at hq'
      rcases hq' with hq' | hq'
      · exact .inr (h1.blk (by simpa using hq')).1
      · exact .inr (h2.blk (by simpa using hq')).1
    · have : φ = .own A1 (n + 1) c1 36 2 (fun i => spL (if (0 : Nat) = 0 then (counts a b f n i).1 else 0) (counts a b f n i).2) ∨ φ = .own A2 n c2 71 14 (fun i => rowL (known f (counts a b f n) i)) := by simpa [tallyL, tN] using hφ
      rcases this with rfl | rfl
      · exact ⟨(h1.mono (Nat.zero_le _)).congr fun i j hi hj => by
          have h2 : j = 0 ∨ j = 1 := by omega
          rcases h2 with rfl | rfl <;> rfl, fun _ _ => rfl⟩
      · exact ⟨(h2.mono (Nat.zero_le _)).congr fun i j hi hj => (rowL_rowF _ j hj).symm, fun _ _ => rfl⟩
  | some x =>
    obtain ⟨i, c⟩ := x
    rw [ht] at h
    subst h
    exact ⟨(none, 0, none, 0), rfl, (Sat.nil (Chg.of_ext hb)).sub (KSub.nilOwn (KSub.nilOwn KSub.nil))⟩
section
variable {w : World} {A : Option Addr} {a b : Int} {n cp : Nat} {f : Nat → Nat → Int}
theorem lw_talc {m : Nat} {e : Option (Nat × Int)} (he : tErr a b m f = e) (hR : RdR w 14 A m fun i => rowL (f i)) (hA : A = none → cp = 0 ∧ m = 0) (hn : m ≤ 1000000) :
  CallsK Tryz.prog 30 #[.agg #[.int .i64 a, .int .i64 b], .slice A m cp] [] w TX (fun y => .tuple #[.slice y.1 (tN e (m + 1)) y.2.1, .slice y.2.2.1 (tN e m) y.2.2.2, .int .i64 (tI e), .int .i64 (tC e)]) (fun y => []) := by
 have h9 := tallyR_K a b A m cp f w hR hA hn
 rw [he] at h9
 exact h9.to (fun y => by obtain ⟨A1, c1, A2, c2⟩ := y; rfl) (fun y => KSub.nil)
structure TallyS (a b : Int) (n : Nat) (f : Nat → Nat → Int) (nC nK : Nat) (iC cC : Int) (cn : Nat → Int × Int) (kf : Nat → Nat → Int) : Prop where
 ye : cC = 0 → nC = n + 1 ∧ nK = n ∧ (n = 0 → (cn 0).1 = a ∧ (cn 0).2 = b) ∧ ∀ i k, i < n → k < 7 → ReachS a b n f i k kf
 no : cC ≠ 0 → cC = 25 ∧ nC = 0 ∧ nK = 0 ∧ ∃ i : Nat, iC = (i : Int) ∧ i < n ∧ tErr a b i f = none ∧ tErr a b (i + 1) f = some (i, 25)
theorem tally_say (h : rgtB a b n f = true) : ∃ (nC nK : Nat) (iC cC : Int) (cn : Nat → Int × Int) (kf : Nat → Nat → Int), TallyS a b n f nC nK iC cC cn kf ∧ tN (tErr a b n f) (n + 1) = nC ∧ tN (tErr a b n f) n = nK ∧ tI (tErr a b n f) = iC ∧ tC (tErr a b n f) = cC ∧ counts a b f n = cn ∧ known f (counts a b f n) = kf := by
 obtain ⟨h1, h2, h3⟩ := rgt_in h
 refine ⟨_, _, _, _, _, _, ⟨fun h0 => ?_, fun h0 => ?_⟩, rfl, rfl, rfl, rfl, rfl, rfl⟩
 · have h9 := tC_none.1 h0
   rw [h9]
   refine ⟨rfl, rfl, fun e => ?_, fun i k hi hk => reach_say h1 h2 h3 h9 hi hk⟩
   subst e
   exact ⟨rfl, rfl⟩
 · rcases tly_first h1 h2 h3 with h9 | ⟨i, h4, h5, h6, h7⟩
   · rw [h9] at h0; exact absurd rfl h0
   · rw [h5]
     exact ⟨rfl, rfl, rfl, i, rfl, h4, h6, h7⟩
theorem lw_tal {nC nK : Nat} {iC cC : Int} {cn : Nat → Int × Int} {kf : Nat → Nat → Int} (k1 : tN (tErr a b n f) (n + 1) = nC) (k2 : tN (tErr a b n f) n = nK) (k3 : tI (tErr a b n f) = iC) (k4 : tC (tErr a b n f) = cC) (k5 : counts a b f n = cn) (k6 : known f (counts a b f n) = kf) (hR : RdR w 14 A n fun i => rowL (f i)) (hA : A = none → cp = 0 ∧ n = 0) (hn : n ≤ 1000000) :
   CallsK Tryz.prog 30 #[.agg #[.int .i64 a, .int .i64 b], .slice A n cp] [] w TX (fun y => .tuple #[.slice y.1 nC y.2.1, .slice y.2.2.1 nK y.2.2.2, .int .i64 iC, .int .i64 cC]) (fun y => [.own y.1 nC y.2.1 36 2 (fun i => spL (cn i).1 (cn i).2), .own y.2.2.1 nK y.2.2.2 71 14 (fun i => rowL (kf i))]) := by
 subst k1 k2 k3 k4 k5 k6
 refine (tallyR_K a b A n cp f w hR hA hn).to (fun y => ?_) (fun y => ?_)
 · obtain ⟨A1, c1, A2, c2⟩ := y; rfl
 · obtain ⟨A1, c1, A2, c2⟩ := y
   show KSub [.own A1 (tN (tErr a b n f) (n + 1)) c1 36 2 (fun i => spL (if (0 : Nat) = 0 then (counts a b f n i).1 else 0) (counts a b f n i).2), .own A2 (tN (tErr a b n f) n) c2 71 14 (fun i => rowL (known f (counts a b f n) i))] _
   exact KSub.own Pick.hd (fun i hi => by rw [if_pos rfl]) (KSub.cons Pick.hd KSub.nil)
set_option maxRecDepth 100000 in
set_option maxHeartbeats 2000000 in
theorem right_any (hn : n ≤ 9223372036854775807) (hR : RdR w 14 A n fun i => rowL (f i)) : Calls Tryz.prog 31 #[.agg #[.int .i64 a, .int .i64 b], .slice A n cp] w (Ret w (.bool (rgtB a b n f))) := by
 unfold rowL at hR
 refine K_enter (S := []) (K := []) Tryz.func31 rfl Tryz.ntmps31 rfl (Sat.start _) ?_
 refine TW.seq fun Y1 hY1 => TW.region ?_
 refine TL.m Mk.bx ?_
 intro b1
 refine TL.p Pu.as ?_
 refine TL.nil (TQ.thenN (hY1 _ _ ?_))
 refine TW.seq fun Y2 hY2 => ?_
 refine TW.seq fun Y3 hY3 => ?_
 refine TW.join [(26, .bool (!spanB a b || decide ((40 : Int) < (n : Int))))] ?_ (fun hJ1 => ?_)
 refine TQ.thenN (hY3 _ _ ?_)
 refine TW.cond rfl (fun hc0 => ?_) (fun hc0 => ?_)
 try simp only [zcb9] at hc0
 have hbad : rgtB a b n f = false := by
  unfold rgtB
  rcases hc0 with h9 | h9
  rw [show spanB a b = false by simpa using h9]; rfl
  rw [decide_eq_false (show ¬ n ≤ 40 by omega), Bool.and_false, Bool.false_and]
 refine TW.seq fun Y4 hY4 => TW.region ?_
 refine TL.p Pu.as ?_
 refine TL.nil (TQ.thenN (hY4 _ _ ?_))
 refine TW.ret ?_
 refine TQ.thenR ?_
 refine TQ.ret Tryz.results31 rfl ((.tmp rfl .nil)) ?_
 exact fun w hw => ⟨by rw [hbad]; rfl, Chg.ext hw.chg⟩
 try simp only [zcb9] at hc0
 have hsp : spanB a b = true := by simpa using hc0.1
 have h40 : n ≤ 40 := by have := hc0.2; omega
 refine TW.skip ?_
 refine TQ.thenN (hY2 _ _ ?_)
 refine TW.seq fun Y5 hY5 => ?_
 refine TW.seq fun Y6 hY6 => TW.region ?_
 refine TL.p Pu.mv ?_
 refine TL.p (Pu.ln Tryz.underlying69) ?_
 refine TL.p Pu.mv ?_
 refine TL.nil (TQ.thenN (hY6 _ _ ?_))
 refine TW.block ?_
 refine TW.loop1 (fun (k : Nat) => [(29, .int .i64 (k : Int)), (28, .int .i64 (n : Int)), (27, .slice A n cp)]) (fun k => []) (fun k => k ≤ n ∧ ∀ j, j < k → rowOk (f j) = true) (fun k => n - k) 0 fs9 ?_ ?_ ?_
 exact ks9
 exact ⟨Nat.zero_le _, fun j hj => by omega⟩
 rintro k ⟨hkn, hall⟩ Z0 hZ0
 refine TW.seq fun Y7 hY7 => TW.region ?_
 refine TL.p Pu.lt ?_
 refine TL.nil (TQ.thenN (hY7 _ _ ?_))
 refine TW.seq fun Y8 hY8 => ?_
 refine TW.cond rfl (fun hc1 => ?_) (fun hc1 => ?_)
 try simp only [zcb9] at hc1
 have hkl : k < n := by omega
 refine TW.skip ?_
 refine TQ.thenN (hY8 _ _ ?_)
 refine TW.seq fun Y9 hY9 => ?_
 refine TW.block ?_
 refine TW.seq fun Y10 hY10 => TW.region ?_
 refine TL.p (Pu.el ty_et69) ?_
 refine TL.p (Pu.lds ty_ag71) ?_
 refine TL.m (Mk.al ty_zr71) ?_
 intro b2
 first | refine TL.st ty_sz71 ?_ | refine TL.se ty_sz71 ?_
 refine TL.nil (TQ.thenN (hY10 _ _ ?_))
 refine TW.seq fun Y11 hY11 => TW.region ?_
 refine TL.p (Pu.lds ty_ag71) ?_
 refine TL.cr rfl (enters Tryz.func80 rfl rfl) (fun w hw => by
   exact row_any (f k) _) ?_
 refine TL.p Pu.no ?_
 refine TL.nil (TQ.thenN (hY11 _ _ ?_))
 refine TW.cond rfl (fun hc2 => ?_) (fun hc2 => ?_)
 try simp only [zcb9] at hc2
 have hno : rowOk (f k) = false := by simpa using hc2
 refine TW.seq fun Y12 hY12 => TW.region ?_
 refine TL.p Pu.as ?_
 refine TL.nil (TQ.thenN (hY12 _ _ ?_))
 refine TW.ret ?_
 refine TQ.blkR ?_
 refine TQ.thenR ?_
 refine TQ.thenR ?_
 refine TQ.blkR ?_
 refine TQ.thenR ?_
 refine TQ.ret Tryz.results31 rfl ((.tmp rfl .nil)) ?_
 refine fun w hw => ⟨ret_bool ?_, Chg.ext hw.chg⟩
 cases h8 : rgtB a b n f with
 | false => rfl
 | true => have := (rgt_in h8).2.2 k hkl; rw [hno] at this; cases this
 try simp only [zcb9] at hc2
 have hyes : rowOk (f k) = true := by simpa using hc2
 refine TW.skip ?_
 refine TQ.blkN ?_
 refine TQ.thenN (hY9 _ _ ?_)
 refine TW.region ?_
 refine TL.p Pu.ad ?_
 refine TL.p Pu.mv ?_
 refine TL.nil ?_
 refine TQ.thenN (hZ0 (k + 1) _ _ ?_ ?_ fs9 ?_)
 refine ⟨by omega, fun j hj => ?_⟩
 by_cases e : j = k
 rw [e]; exact hyes
 exact hall j (by omega)
 exact zom9
 exact ks9
 try simp only [zcb9] at hc1
 obtain rfl : k = n := by omega
 refine TW.exit ?_
 refine TQ.thenX ?_
 refine TQ.thenX ?_
 refine TQ.blkX ?_
 refine TQ.thenN (hY5 _ _ ?_)
 refine TW.seq fun Y13 hY13 => TW.region ?_
 refine TL.p Pu.as ?_
 refine TL.nil (TQ.thenN (hY13 _ _ ?_))
 refine TW.ret ?_
 refine TQ.ret Tryz.results31 rfl ((.tmp rfl .nil)) ?_
 refine fun w hw => ⟨ret_bool ?_, Chg.ext hw.chg⟩
 unfold rgtB
 rw [hsp, decide_eq_true h40, show (allB k fun i => rowOk (f i)) = true from allB_iff.2 hall]
 rfl
 refine TW.region ?_
 refine TL.p (by first | exact Pu.fb ty_fa36_0 | exact Pu.fe ty_fa36_0) ?_
 refine TL.p (Pu.ld ty_sc3) ?_
 refine TL.p Pu.lt ?_
 refine TL.p Pu.mv ?_
 refine TL.guard (t := 10) rfl (fun hg1 => ?_) (fun hg1 => ?_)
 try simp only [zgb9] at hg1
 refine TL.gs ?_
 refine TL.gs ?_
 refine TL.gs ?_
 refine TL.gs ?_
 refine TL.gs ?_
 refine TL.p Pu.kt ?_
 refine TL.p Pu.mv ?_
 refine TL.gs ?_
 refine TL.gs ?_
 refine TL.gs ?_
 refine TL.p Pu.kt ?_
 refine TL.p Pu.mv ?_
 refine TL.gs ?_
 refine TL.gs ?_
 refine TL.gs ?_
 refine TL.p Pu.kt ?_
 refine TL.nil ?_
 exact TQ.sub (by repeat (first | exact trivial | refine ⟨rfl, ?_⟩ | refine ⟨trivial, ?_⟩ | refine ⟨(by show some (Value.bool _) = some (Value.bool _); first | (simp [hg1, spanB]; done) | (refine congrArg (fun z => some (Value.bool z)) (Bool.eq_iff_iff.2 ?_); simp [hg1, spanB]; omega)), ?_⟩)) ks9 hJ1
 try simp only [zgb9] at hg1
 refine TL.gd (by first | exact Pu.fb ty_fa36_0 | exact Pu.fe ty_fa36_0) ?_
 refine TL.gd (Pu.ld ty_sc3) ?_
 refine TL.gd (by first | exact Pu.fb ty_fa36_1 | exact Pu.fe ty_fa36_1) ?_
 refine TL.gd (Pu.ld ty_sc3) ?_
 refine TL.gd Pu.gt ?_
 refine TL.p Pu.kf ?_
 refine TL.p Pu.mv ?_
 refine TL.guard (t := 17) rfl (fun hg2 => ?_) (fun hg2 => ?_)
 try simp only [zgb9] at hg2
 refine TL.gs ?_
 refine TL.gs ?_
 refine TL.gs ?_
 refine TL.p Pu.kt ?_
 refine TL.p Pu.mv ?_
 refine TL.gs ?_
 refine TL.gs ?_
 refine TL.gs ?_
 refine TL.p Pu.kt ?_
 refine TL.nil ?_
 exact TQ.sub (by repeat (first | exact trivial | refine ⟨rfl, ?_⟩ | refine ⟨trivial, ?_⟩ | refine ⟨(by show some (Value.bool _) = some (Value.bool _); first | (simp [hg1, hg2, spanB]; done) | (refine congrArg (fun z => some (Value.bool z)) (Bool.eq_iff_iff.2 ?_); simp [hg1, hg2, spanB]; omega)), ?_⟩)) ks9 hJ1
 try simp only [zgb9] at hg2
 refine TL.gd (by first | exact Pu.fb ty_fa36_1 | exact Pu.fe ty_fa36_1) ?_
 refine TL.gd (Pu.ld ty_sc3) ?_
 refine TL.gd Pu.gt ?_
 refine TL.p Pu.kf ?_
 refine TL.p Pu.mv ?_
 refine TL.guard (t := 22) rfl (fun hg3 => ?_) (fun hg3 => ?_)
 try simp only [zgb9] at hg3
 refine TL.gs ?_
 refine TL.gs ?_
 refine TL.gs ?_
 refine TL.p Pu.kt ?_
 refine TL.nil ?_
 exact TQ.sub (by repeat (first | exact trivial | refine ⟨rfl, ?_⟩ | refine ⟨trivial, ?_⟩ | refine ⟨(by show some (Value.bool _) = some (Value.bool _); first | (simp [hg1, hg2, hg3, spanB]; done) | (refine congrArg (fun z => some (Value.bool z)) (Bool.eq_iff_iff.2 ?_); simp [hg1, hg2, hg3, spanB]; omega)), ?_⟩)) ks9 hJ1
 try simp only [zgb9] at hg3
 refine TL.gd Pu.mv ?_
 refine TL.gd (Pu.ln Tryz.underlying69) ?_
 refine TL.gd Pu.gt ?_
 refine TL.p Pu.kf ?_
 refine TL.nil ?_
 exact TQ.sub (by repeat (first | exact trivial | refine ⟨rfl, ?_⟩ | refine ⟨trivial, ?_⟩ | refine ⟨(by show some (Value.bool _) = some (Value.bool _); first | (simp [hg1, hg2, hg3, spanB]; done) | (refine congrArg (fun z => some (Value.bool z)) (Bool.eq_iff_iff.2 ?_); simp [hg1, hg2, hg3, spanB]; omega)), ?_⟩)) ks9 hJ1
end
end Go.Proofs.YtbenhafhklfhmaaGreat
namespace Go.Proofs.YtbenhafhklfhmaaGreat
set_option linter.all false
set_option linter.unusedVariables false
set_option linter.unusedSimpArgs false
open Go.RowKit
section
variable {w : World} {A : Option Addr} {a b : Int} {n cp : Nat} {f : Nat → Nat → Int}
set_option maxRecDepth 100000 in
set_option maxHeartbeats 4000000 in
theorem thenR_any {br bi bk bf i k : Nat} {lo hi : Int} (hi9 : i < n) (hk : k < 7) (hn : n ≤ 1000) (hR : RdR w 14 A n fun i => rowL (f i)) (o1 : OldB w br [.slice A n cp]) (o2 : OldB w bi [.int .i64 (i : Int)]) (o3 : OldB w bk [.int .i64 (k : Int)]) (o4 : OldB w bf [.int .i64 a, .int .i64 b]) :
  Calls Tryz.prog 32 #[.agg #[.int .i64 lo, .int .i64 hi], .pointer (some ⟨br, 0, none⟩), .pointer (some ⟨bi, 0, none⟩), .pointer (some ⟨bk, 0, none⟩), .pointer (some ⟨bf, 0, none⟩)] w (Ret w (.bool (decide (tC (tErr a b n (setF f i k lo hi)) = 0)))) := by
 refine K_enter (S := []) (K := []) Tryz.func32 rfl Tryz.ntmps32 rfl (Sat.start _) ?_
 refine TW.seq fun Y1 hY1 => TW.region ?_
 refine TL.m Mk.bx ?_
 intro b1
 refine TL.p Pu.as ?_
 refine TL.nil (TQ.thenN (hY1 _ _ ?_))
 refine TW.seq fun Y2 hY2 => TW.region ?_
 refine TL.m Mk.bl ?_
 intro b2
 refine TL.p (by first | exact (Pu.ld ty_sc69) | exact (Pu.ldo ty_sc69)) ?_
 refine TL.ob (E := 71) (sz := 14) (r := fun _ => []) pk9 rfl ?_
 first | refine TL.a0 ty_et69 ?_ | refine TL.ap ty_et69 ?_
 intro A3 c3
 refine TL.p Pu.as ?_
 refine TL.nil (TQ.thenN (hY2 _ _ ?_))
 refine TW.seq fun Y3 hY3 => ?_
 refine TW.dw 8 ?_
 refine RK.tk Pu.mv ?_
 refine RK.tk (by first | exact (Pu.ld ty_sc3) | exact (Pu.ldo ty_sc3)) ?_
 refine RK.tk (Pu.el ty_et69) ?_
 refine RK.keep ?_
 refine RK.tk (by first | exact (Pu.ld ty_sc3) | exact (Pu.ldo ty_sc3)) ?_
 refine RK.keep ?_
 refine RK.tk (by first | exact (Pu.lds ty_ag36) | exact (Pu.ldso ty_ag36)) ?_
 refine RK.keep ?_
 refine RK.ch [false, true, true] ?_ trivial
 refine WK.cr rfl (enters Tryz.func29 rfl rfl) (fun w hw => by
   exact fields_any i (rdr_some (OwnR.rdr (hw.holds (.own A3 n c3 71 14 (fun i => rowL (f i))) (Pick.mem pk9))) (by omega))) ?_
 refine WK.p (Pu.ix (hr := fun w => idx7 hk w)) ?_
 refine WK.p (Pu.nc (hq := CellsN.own pk9 hi9 (sub70 hk))) ?_
 refine WK.n ?_
 refine TL.se ty_sz36 (hput := put7 hk) ?_
 refine TL.nil (TQ.thenN (hY3 _ _ ?_))
 refine TW.seq fun Y4 hY4 => TW.region ?_
 refine TL.p (by first | exact (Pu.lds ty_ag36) | exact (Pu.ldso ty_ag36)) ?_
 refine TL.p Pu.mv ?_
 refine TL.subK (KSub.own Pick.hd (s := fun j => rowL (setF f i k lo hi j)) (fun j hj => put_set j) ks9) ?_
 refine TL.call (M := []) rfl (enters Tryz.func30 rfl rfl) (List.Perm.refl _) rfl (fun w hw => by
   exact exTlC (f := setF f i k lo hi) (hw.holds (.own A3 n c3 71 14 (fun j => rowL (setF f i k lo hi j))) (List.mem_cons_self ..)) (by omega) rfl) ?_
 rintro ⟨P, pc, Q, qc⟩
 refine TL.p Pu.mv ?_
 refine TL.p Pu.ex ?_
 refine TL.p Pu.ex ?_
 refine TL.p Pu.ex ?_
 refine TL.p Pu.ex ?_
 refine TL.p Pu.as ?_
 refine TL.p Pu.as ?_
 refine TL.p Pu.as ?_
 refine TL.p Pu.as ?_
 refine TL.nil (TQ.thenN (hY4 _ _ ?_))
 refine TW.seq fun Y5 hY5 => TW.region ?_
 refine TL.p Pu.mv ?_
 refine TL.p Pu.eq ?_
 refine TL.p Pu.as ?_
 refine TL.nil (TQ.thenN (hY5 _ _ ?_))
 refine TW.ret ?_
 refine TQ.ret Tryz.results32 rfl ((.tmp rfl .nil)) ?_
 exact fun w hw => Ret.of hw
set_option maxRecDepth 100000 in
set_option maxHeartbeats 8000000 in
theorem lawReach_any (hR : RdR w 14 A n fun i => rowL (f i)) (hA : A = none → cp = 0 ∧ n = 0) (hcp : n ≤ cp) (hcm : cp ≤ maxLen) (o p : Nat) (ho : o ≤ 255) (hp : p ≤ 255) :
  Calls Tryz.prog 9 #[.agg #[.int .i64 a, .int .i64 b], .slice A n cp, .int .u8 (o : Int), .int .u8 (p : Int)] w (Ret w (.bool true)) := by
 have hcm9 : cp ≤ 9223372036854775807 := hcm
 have fT := fun (w' : World) (br bi bk bf i k : Nat) (lo hi : Int) (h40 : n ≤ 40) (hi9 : i < n) (hk : k < 7) (h0 : RdR w' 14 A n fun i => rowL (f i)) (h1 : Fact.holds (.blk br 69 [.slice A n cp]) w') (h2 : Fact.holds (.blk bi 3 [.int .i64 (i : Int)]) w') (h3 : Fact.holds (.blk bk 3 [.int .i64 (k : Int)]) w') (h4 : Fact.holds (.blk bf 36 [.int .i64 a, .int .i64 b]) w') => thenR_any (lo := lo) (hi := hi) hi9 hk (by omega) h0 (OldB.of_blk h1) (OldB.of_blk h2) (OldB.of_blk h3) (OldB.of_blk h4)
 refine K_enter (S := []) (K := []) Tryz.func9 rfl Tryz.ntmps9 rfl (Sat.start _) ?_
 refine TW.seq fun Y1 hY1 => TW.region ?_
 refine TL.m Mk.bx ?_
 intro b1
 refine TL.m Mk.bx ?_
 intro b2
 refine TL.p Pu.as ?_
 refine TL.nil (TQ.thenN (hY1 _ _ ?_))
 refine TW.seq fun Y2 hY2 => TW.region ?_
 refine TL.cr rfl (enters Tryz.func12 rfl rfl) (fun w hw => by
   exact alive_any _) ?_
 refine TL.p Pu.as ?_
 refine TL.nil (TQ.thenN (hY2 _ _ ?_))
 refine TW.seq fun Y3 hY3 => ?_
 refine TW.seq fun Y4 hY4 => ?_
 refine TW.join [(35, .bool (!rgtB a b n f))] ?_ (fun hJ1 => ?_)
 refine TQ.thenN (hY4 _ _ ?_)
 refine TW.cond rfl (fun hc0 => ?_) (fun hc0 => ?_)
 try simp only [zcb9] at hc0
 refine TW.seq fun Y5 hY5 => TW.region ?_
 refine TL.p Pu.mv ?_
 refine TL.p Pu.as ?_
 refine TL.nil (TQ.thenN (hY5 _ _ ?_))
 refine TW.ret ?_
 refine TQ.thenR ?_
 refine TQ.ret Tryz.results9 rfl ((.tmp rfl .nil)) ?_
 exact fun w hw => Ret.of hw
 try simp only [zcb9] at hc0
 have hr1 : rgtB a b n f = true := by simpa using hc0
 obtain ⟨_, h40, _⟩ := rgt_in hr1
 obtain ⟨nC, nK, iC, cC, cn, kf, hS, k1, k2, k3, k4, k5, k6⟩ := tally_say hr1
 replace k1 := hidT k1
 replace k2 := hidT k2
 replace k3 := hidT k3
 replace k4 := hidT k4
 replace k5 := hidT k5
 replace k6 := hidT k6
 replace hS := hidT hS
 refine TW.skip ?_
 refine TQ.thenN (hY3 _ _ ?_)
 refine TW.seq fun Y6 hY6 => TW.region ?_
 refine TL.p (Pu.lds ty_ag36) ?_
 refine TL.p (Pu.ld ty_sc69) ?_
 refine TL.call (M := []) rfl (enters Tryz.func30 rfl rfl) (List.Perm.refl _) rfl (fun w hw => by
   exact lw_tal k1.out k2.out k3.out k4.out k5.out k6.out (hR.sat hw Apart.nil) hA (by omega)) ?_
 rintro ⟨P1, p1, P2, p2⟩
 refine TL.p Pu.mv ?_
 refine TL.p Pu.ex ?_
 refine TL.p Pu.ex ?_
 refine TL.p Pu.ex ?_
 refine TL.p Pu.ex ?_
 refine TL.p Pu.as ?_
 refine TL.p Pu.as ?_
 refine TL.p Pu.as ?_
 refine TL.p Pu.as ?_
 refine TL.nil (TQ.thenN (hY6 _ _ ?_))
 refine TW.seq fun Y7 hY7 => ?_
 refine TW.seq fun Y8 hY8 => TW.region ?_
 refine TL.p Pu.mv ?_
 refine TL.p Pu.ne ?_
 refine TL.nil (TQ.thenN (hY8 _ _ ?_))
 refine TW.cond rfl (fun hc1 => ?_) (fun hc1 => ?_)
 try simp only [zcb9] at hc1
 have hne : cC ≠ 0 := by simpa using hc1
 obtain ⟨he25, hC0, hK0, i, rfl, hi, hpre, hfst⟩ := hS.out.no hne
 replace he25 := hidT he25
 replace hC0 := hidT hC0
 replace hK0 := hidT hK0
 replace hpre := hidT hpre
 replace hfst := hidT hfst
 have hnC9 : nC ≤ 0 := by rw [hC0.out]; exact Nat.le_refl _
 have hnK9 : nK ≤ 0 := by rw [hK0.out]; exact Nat.le_refl _
 refine TW.seq fun Y9 hY9 => ?_
 refine TW.seq fun Y10 hY10 => TW.region ?_
 refine TL.p Pu.mv ?_
 refine TL.p Pu.ne ?_
 refine TL.lit (t := 48) (b' := false) rfl ((by rw [he25.out]; rfl)) ?_
 refine TL.p Pu.mv ?_
 refine TL.gd Pu.mv ?_
 refine TL.gd Pu.lt ?_
 refine TL.lit (t := 51) (b' := false) rfl ((decide_eq_false (by omega))) ?_
 refine TL.p Pu.kf ?_
 refine TL.p Pu.mv ?_
 refine TL.gd Pu.mv ?_
 refine TL.gd (Pu.ld ty_sc69) ?_
 refine TL.gd (Pu.ln Tryz.underlying69) ?_
 refine TL.gd Pu.ge ?_
 refine TL.lit (t := 57) (b' := false) rfl ((decide_eq_false (by omega))) ?_
 refine TL.p Pu.kf ?_
 refine TL.p Pu.mv ?_
 refine TL.gd Pu.mv ?_
 refine TL.gd (Pu.ln Tryz.underlying31) ?_
 refine TL.gd Pu.mv ?_
 refine TL.gd (Pu.ln Tryz.underlying69) ?_
 refine TL.gd Pu.ad ?_
 refine TL.gd Pu.ne ?_
 refine TL.lit (t := 65) (b' := false) rfl ((by rw [hC0.out, hK0.out]; rfl)) ?_
 refine TL.p Pu.kf ?_
 refine TL.nil (TQ.thenN (hY10 _ _ ?_))
 refine TW.condF rfl rfl ?_
 refine TW.skip ?_
 refine TQ.thenN (hY9 _ _ ?_)
 refine TW.seq fun Y11 hY11 => ?_
 refine TW.dw 14 ?_
 refine RK.tk (Pu.lds ty_ag36) ?_
 refine RK.tk (Pu.ld ty_sc69) ?_
 refine RK.tk Pu.mv ?_
 refine RK.tk (Pu.sh ty_et69) ?_
 refine RK.keep ?_
 refine RK.keep ?_
 refine RK.keep ?_
 refine RK.keep ?_
 refine RK.keep ?_
 refine RK.keep ?_
 refine RK.keep ?_
 refine RK.keep ?_
 refine RK.keep ?_
 refine RK.keep ?_
 refine RK.ch [false, true, true, true, true, true, true, true, true, true] ?_ trivial
 refine WK.call rfl (enters Tryz.func30 rfl rfl) rfl (fun w hw => by
   exact lw_talc (a := a) (b := b) (m := i) hpre.out ((hR.sat hw Apart.nil).few (by omega)) (fun e9 => by have := hA e9; omega) (by omega)) ?_
 rintro ⟨P3, p3, P4, p4⟩
 refine WK.p Pu.mv ?_
 refine WK.p Pu.ex ?_
 refine WK.p Pu.ex ?_
 refine WK.p Pu.ex ?_
 refine WK.p Pu.ex ?_
 refine WK.p Pu.as ?_
 refine WK.p Pu.as ?_
 refine WK.p Pu.as ?_
 refine WK.p Pu.as ?_
 refine WK.n ?_
 refine TL.nil (TQ.thenN (hY11 _ _ ?_))
 refine TW.seq fun Y12 hY12 => ?_
 refine TW.dw 15 ?_
 refine RK.tk (Pu.lds ty_ag36) ?_
 refine RK.tk (Pu.ld ty_sc69) ?_
 refine RK.tk Pu.mv ?_
 refine RK.tk Pu.ad ?_
 refine RK.tk (Pu.sh ty_et69) ?_
 refine RK.keep ?_
 refine RK.keep ?_
 refine RK.keep ?_
 refine RK.keep ?_
 refine RK.keep ?_
 refine RK.keep ?_
 refine RK.keep ?_
 refine RK.keep ?_
 refine RK.keep ?_
 refine RK.keep ?_
 refine RK.ch [false, true, true, true, true, true, true, true, true, true] ?_ trivial
 refine WK.call rfl (enters Tryz.func30 rfl rfl) rfl (fun w hw => by
   exact lw_talc (a := a) (b := b) (m := i + 1) hfst.out ((hR.sat hw Apart.nil).few (by omega)) (fun e9 => by have := hA e9; omega) (by omega)) ?_
 rintro ⟨P5, p5, P6, p6⟩
 refine WK.p Pu.mv ?_
 refine WK.p Pu.ex ?_
 refine WK.p Pu.ex ?_
 refine WK.p Pu.ex ?_
 refine WK.p Pu.ex ?_
 refine WK.p Pu.as ?_
 refine WK.p Pu.as ?_
 refine WK.p Pu.as ?_
 refine WK.p Pu.as ?_
 refine WK.n ?_
 refine TL.nil (TQ.thenN (hY12 _ _ ?_))
 refine TW.seq fun Y13 hY13 => TW.region ?_
 refine TL.p Pu.mv ?_
 refine TL.p Pu.mv ?_
 refine TL.lit (t := 89) (b' := true) rfl (rfl) ?_
 refine TL.gd Pu.mv ?_
 refine TL.gd Pu.eq ?_
 refine TL.lit (t := 91) (b' := true) rfl (rfl) ?_
 refine TL.p Pu.kt ?_
 refine TL.p Pu.mv ?_
 refine TL.gd Pu.mv ?_
 refine TL.gd Pu.eq ?_
 refine TL.lit (t := 95) (b' := true) rfl (rfl) ?_
 refine TL.p Pu.kt ?_
 refine TL.p Pu.mv ?_
 refine TL.gd Pu.mv ?_
 refine TL.gd Pu.mv ?_
 refine TL.gd Pu.eq ?_
 refine TL.lit (t := 100) (b' := true) rfl ((decide_eq_true rfl)) ?_
 refine TL.p Pu.kt ?_
 refine TL.p Pu.as ?_
 refine TL.nil (TQ.thenN (hY13 _ _ ?_))
 refine TW.ret ?_
 refine TQ.thenR ?_
 refine TQ.ret Tryz.results9 rfl ((.tmp rfl .nil)) ?_
 exact fun w hw => Ret.of hw
 try simp only [zcb9] at hc1
 have hee : cC = 0 := by simpa using hc1
 obtain ⟨hC0, hK0, hz, hrs⟩ := hS.out.ye hee
 replace hz := hidT hz
 have hC1 : n + 1 ≤ nC := by omega
 have hK1 : n ≤ nK := by omega
 replace hC0 := hidT hC0
 replace hK0 := hidT hK0
 refine TW.skip ?_
 refine TQ.thenN (hY7 _ _ ?_)
 refine TW.seq fun Y14 hY14 => ?_
 refine TW.seq fun Y15 hY15 => TW.region ?_
 refine TL.p (Pu.ld ty_sc69) ?_
 refine TL.p (Pu.ln Tryz.underlying69) ?_
 refine TL.p Pu.eq ?_
 refine TL.nil (TQ.thenN (hY15 _ _ ?_))
 refine TW.cond rfl (fun hc3 => ?_) (fun hc3 => ?_)
 try simp only [zcb9] at hc3
 have hn0 : n = 0 := by omega
 obtain ⟨hz1, hz2⟩ := hz.out hn0
 refine TW.seq fun Y16 hY16 => ?_
 refine TW.dw 14 ?_
 refine RK.tk Pu.mv ?_
 refine RK.tk Pu.mv ?_
 refine RK.tk Pu.mv ?_
 refine RK.tk (Pu.ln Tryz.underlying31) ?_
 refine RK.tk (Pu.bv Pu.eq (decide_eq_true (by rw [hC0.out, hn0]; rfl))) ?_
 refine RK.tk Pu.kt ?_
 refine RK.tk Pu.mv ?_
 refine RK.tk Pu.mv ?_
 refine RK.tk (Pu.el ty_et31 (q := 0) (hk := rfl) (h1 := by omega) (hA := CellsN.own pk9 (show 0 < nC by omega) SubL.nil)) ?_
 refine RK.tk (Pu.lds ty_ag36 (hq := CellsN.own pk9 (show 0 < nC by omega) (by repeat (first | exact SubL.nil | apply SubL.take | apply SubL.drop)))) ?_
 refine RK.tk (Pu.lds ty_ag36) ?_
 refine RK.tk (Pu.bv (Pu.q2 ty_q2_36) (show (decide ((cn 0).1 = a) && decide ((cn 0).2 = b)) = true by rw [decide_eq_true hz1, decide_eq_true hz2]; rfl)) ?_
 refine RK.tk Pu.kt ?_
 refine RK.tk Pu.as ?_
 refine RK.ch [] ?_ trivial
 refine WK.n ?_
 refine TL.nil (TQ.thenN (hY16 _ _ ?_))
 refine TW.ret ?_
 refine TQ.thenR ?_
 refine TQ.ret Tryz.results9 rfl ((.tmp rfl .nil)) ?_
 exact fun w hw => Ret.of hw
 try simp only [zcb9] at hc3
 have hnp : 0 < n := by omega
 obtain ⟨i, ei, hi⟩ : ∃ i : Nat, HidT ((o : Int) % (n : Int) = (i : Int)) ∧ i < n := ⟨o % n, hidT (Int.natCast_emod o n).symm, Nat.mod_lt _ hnp⟩
 obtain ⟨k, ek, hk⟩ : ∃ k : Nat, HidT ((p : Int) % 7 = (k : Int)) ∧ k < 7 := ⟨p % 7, hidT (Int.natCast_emod p 7).symm, Nat.mod_lt _ (by decide)⟩
 have hrs1 := hrs i k hi hk
 have hbd := hrs1.bd
 have hlo := hidT (show tC (tErr a b n (setF f i k (kf i (2 * k)) (kf i (2 * k)))) = 0 by rw [hrs1.lo]; rfl)
 have hhi := hidT (show tC (tErr a b n (setF f i k (kf i (2 * k + 1)) (kf i (2 * k + 1)))) = 0 by rw [hrs1.hi]; rfl)
 have hblo : kf i (2 * k) ≠ f i (2 * k) → tC (tErr a b n (setF f i k (f i (2 * k)) (kf i (2 * k) - 1))) ≠ 0 := fun h9 h8 => hrs1.blo h9 (tC_none.1 h8)
 have hbhi : kf i (2 * k + 1) ≠ f i (2 * k + 1) → tC (tErr a b n (setF f i k (kf i (2 * k + 1) + 1) (f i (2 * k + 1)))) ≠ 0 := fun h9 h8 => hrs1.bhi h9 (tC_none.1 h8)
 have hb0 : ∀ i k, i < n → k < 7 → -1000000 ≤ f i (2 * k) ∧ f i (2 * k + 1) ≤ 1000000 := fun i k hi hk => by
  have := rowOk_iff.1 ((rgt_in hr1).2.2 i hi) k hk
  omega
 have hb1 := hb0 i k hi hk
 clear hrs hrs1 hb0
 refine TW.skip ?_
 refine TQ.thenN (hY14 _ _ ?_)
 refine TW.seq fun Y17 hY17 => ?_
 refine TW.seq fun Y18 hY18 => TW.region ?_
 refine TL.p Pu.mv ?_
 refine TL.p (Pu.ln Tryz.underlying69) ?_
 refine TL.p (Pu.ld ty_sc69) ?_
 refine TL.p (Pu.ln Tryz.underlying69) ?_
 refine TL.p Pu.ne ?_
 refine TL.nil (TQ.thenN (hY18 _ _ ?_))
 refine TW.condF rfl ((by rw [hK0.out]; simp)) ?_
 refine TW.skip ?_
 refine TQ.thenN (hY17 _ _ ?_)
 refine TW.seq fun Y19 hY19 => TW.region ?_
 refine TL.p Pu.mv ?_
 refine TL.p (Pu.cv (v := .int .i64 (o : Int)) rfl (fun w => by go_simp; rw [IntWalk.i64_in (o : Int) (by omega)])) ?_
 refine TL.p (Pu.ld ty_sc69) ?_
 refine TL.p (Pu.ln Tryz.underlying69) ?_
 refine TL.p (Pu.iv Pu.rm ei.out) ?_
 refine TL.p Pu.mv ?_
 refine TL.p (Pu.cv (v := .int .i64 (p : Int)) rfl (fun w => by go_simp; rw [IntWalk.i64_in (p : Int) (by omega)])) ?_
 refine TL.p (Pu.iv Pu.rm ek.out) ?_
 refine TL.m (Mk.al ty_zr3) ?_
 intro b3
 refine TL.m (Mk.al ty_zr3) ?_
 intro b4
 first | refine TL.st ty_sz3 ?_ | refine TL.se ty_sz3 ?_
 first | refine TL.st ty_sz3 ?_ | refine TL.se ty_sz3 ?_
 refine TL.nil (TQ.thenN (hY19 _ _ ?_))
 refine TW.seq fun Y20 hY20 => TW.region ?_
 refine TL.p Pu.fn ?_
 refine TL.p Pu.as ?_
 refine TL.nil (TQ.thenN (hY20 _ _ ?_))
 refine TW.seq fun Y21 hY21 => ?_
 refine TW.expl (fun (⟨x16, x17⟩ : Nat × Nat) => ([(25, .pointer (some ⟨x16, 0, none⟩)), (26, .pointer (some ⟨x17, 0, none⟩)), (9, .bool true), (24, .func (.func 32) #[] #[.pointer (some ⟨b2, 0, none⟩), .pointer (some ⟨b3, 0, none⟩), .pointer (some ⟨b4, 0, none⟩), .pointer (some ⟨b1, 0, none⟩)])] : Fr)) (fun (⟨x16, x17⟩ : Nat × Nat) => [.blk x16 36 [.int .i64 (kf i (2 * k)), .int .i64 (kf i (2 * k + 1))], .blk x17 36 [.int .i64 (f i (2 * k)), .int .i64 (f i (2 * k + 1))], .blk b1 36 [.int .i64 a, .int .i64 b], .blk b2 69 [.slice A n cp], .blk b3 3 [.int .i64 (i : Int)], .blk b4 3 [.int .i64 (k : Int)]]) Drop.done ?_ (fun hE => ?_)
 rintro ⟨x16, x17⟩
 refine TQ.thenN (hY21 _ _ ?_)
 refine TW.seq fun Y22 hY22 => ?_
 refine TW.seq fun Y23 hY23 => TW.region ?_
 refine TL.p (by first | exact Pu.fb ty_fa36_0 | exact Pu.fe ty_fa36_0) ?_
 refine TL.p (Pu.ld ty_sc3) ?_
 refine TL.p (by first | exact Pu.fb ty_fa36_0 | exact Pu.fe ty_fa36_0) ?_
 refine TL.p (Pu.ld ty_sc3) ?_
 refine TL.p Pu.lt ?_
 refine TL.lit (t := 152) (b' := false) rfl ((decide_eq_false (by omega))) ?_
 refine TL.p Pu.mv ?_
 refine TL.gd (by first | exact Pu.fb ty_fa36_1 | exact Pu.fe ty_fa36_1) ?_
 refine TL.gd (Pu.ld ty_sc3) ?_
 refine TL.gd (by first | exact Pu.fb ty_fa36_1 | exact Pu.fe ty_fa36_1) ?_
 refine TL.gd (Pu.ld ty_sc3) ?_
 refine TL.gd Pu.gt ?_
 refine TL.lit (t := 158) (b' := false) rfl ((decide_eq_false (by omega))) ?_
 refine TL.p Pu.kf ?_
 refine TL.p Pu.mv ?_
 refine TL.gd (by first | exact Pu.fb ty_fa36_0 | exact Pu.fe ty_fa36_0) ?_
 refine TL.gd (Pu.ld ty_sc3) ?_
 refine TL.gd (by first | exact Pu.fb ty_fa36_1 | exact Pu.fe ty_fa36_1) ?_
 refine TL.gd (Pu.ld ty_sc3) ?_
 refine TL.gd Pu.gt ?_
 refine TL.lit (t := 165) (b' := false) rfl ((decide_eq_false (by omega))) ?_
 refine TL.p Pu.kf ?_
 refine TL.p Pu.mv ?_
 refine TL.gd Pu.mv ?_
 refine TL.gd (by first | exact Pu.fb ty_fa36_0 | exact Pu.fe ty_fa36_0) ?_
 refine TL.gd (Pu.ld ty_sc3) ?_
 refine TL.gd (by first | exact Pu.fb ty_fa36_0 | exact Pu.fe ty_fa36_0) ?_
 refine TL.gd (Pu.ld ty_sc3) ?_
 refine TL.cr rfl (enters Tryz.func18 rfl rfl) (fun w hw => by
   exact span2_any _ _ _) ?_
 refine TL.cv rfl rfl (enters Tryz.func32 rfl rfl) (fun w hw => by
   exact fT _ b2 b3 b4 b1 i k _ _ h40 hi hk (hR.sat hw Apart.nil) (hw.holds _ (Pick.mem pk9)) (hw.holds _ (Pick.mem pk9)) (hw.holds _ (Pick.mem pk9)) (hw.holds _ (Pick.mem pk9))) ?_
 refine TL.lit (t := 174) (b' := true) rfl ((decide_eq_true hlo.out)) ?_
 refine TL.gd Pu.no ?_
 refine TL.p Pu.kf ?_
 refine TL.p Pu.mv ?_
 refine TL.gd Pu.mv ?_
 refine TL.gd (by first | exact Pu.fb ty_fa36_1 | exact Pu.fe ty_fa36_1) ?_
 refine TL.gd (Pu.ld ty_sc3) ?_
 refine TL.gd (by first | exact Pu.fb ty_fa36_1 | exact Pu.fe ty_fa36_1) ?_
 refine TL.gd (Pu.ld ty_sc3) ?_
 refine TL.cr rfl (enters Tryz.func18 rfl rfl) (fun w hw => by
   exact span2_any _ _ _) ?_
 refine TL.cv rfl rfl (enters Tryz.func32 rfl rfl) (fun w hw => by
   exact fT _ b2 b3 b4 b1 i k _ _ h40 hi hk (hR.sat hw Apart.nil) (hw.holds _ (Pick.mem pk9)) (hw.holds _ (Pick.mem pk9)) (hw.holds _ (Pick.mem pk9)) (hw.holds _ (Pick.mem pk9))) ?_
 refine TL.lit (t := 184) (b' := true) rfl ((decide_eq_true hhi.out)) ?_
 refine TL.gd Pu.no ?_
 refine TL.p Pu.kf ?_
 refine TL.nil (TQ.thenN (hY23 _ _ ?_))
 refine TW.condF rfl rfl ?_
 refine TW.skip ?_
 refine TQ.thenN (hY22 _ _ ?_)
 refine TW.seq fun Y24 hY24 => TW.region ?_
 refine TL.p Pu.mv ?_
 refine TL.p Pu.mv ?_
 refine TL.lit (t := 188) (b' := true) rfl (rfl) ?_
 refine TL.gd (by first | exact Pu.fb ty_fa36_0 | exact Pu.fe ty_fa36_0) ?_
 refine TL.gd (Pu.ld ty_sc3) ?_
 refine TL.gd (by first | exact Pu.fb ty_fa36_0 | exact Pu.fe ty_fa36_0) ?_
 refine TL.gd (Pu.ld ty_sc3) ?_
 refine TL.gd Pu.eq ?_
 refine TL.gd Pu.mv ?_
 refine TL.guard (t := 194) rfl (fun hg1 => ?_) (fun hg1 => ?_)
 try simp only [zgb9] at hg1
 refine TL.gs ?_
 refine TL.gs ?_
 refine TL.gs ?_
 refine TL.gs ?_
 refine TL.gs ?_
 refine TL.gs ?_
 refine TL.gs ?_
 refine TL.gs ?_
 refine TL.gs ?_
 refine TL.gd Pu.kt ?_
 refine TL.p Pu.kt ?_
 refine TL.p Pu.mv ?_
 refine TL.gd (by first | exact Pu.fb ty_fa36_1 | exact Pu.fe ty_fa36_1) ?_
 refine TL.gd (Pu.ld ty_sc3) ?_
 refine TL.gd (by first | exact Pu.fb ty_fa36_1 | exact Pu.fe ty_fa36_1) ?_
 refine TL.gd (Pu.ld ty_sc3) ?_
 refine TL.gd Pu.eq ?_
 refine TL.gd Pu.mv ?_
 refine TL.guard (t := 212) rfl (fun hg2 => ?_) (fun hg2 => ?_)
 try simp only [zgb9] at hg2
 refine TL.gs ?_
 refine TL.gs ?_
 refine TL.gs ?_
 refine TL.gs ?_
 refine TL.gs ?_
 refine TL.gs ?_
 refine TL.gs ?_
 refine TL.gs ?_
 refine TL.gs ?_
 refine TL.gd Pu.kt ?_
 refine TL.p Pu.kt ?_
 refine TL.p Pu.as ?_
 refine TL.nil (TQ.thenN (hY24 _ _ ?_))
 refine TW.ret ?_
 refine TQ.ret Tryz.results9 rfl ((.tmp rfl .nil)) ?_
 exact fun w hw => Ret.of hw
 try simp only [zgb9] at hg2
 refine TL.gd Pu.mv ?_
 refine TL.gd (by first | exact Pu.fb ty_fa36_1 | exact Pu.fe ty_fa36_1) ?_
 refine TL.gd (Pu.ld ty_sc3) ?_
 refine TL.gd Pu.ad ?_
 refine TL.gd (by first | exact Pu.fb ty_fa36_1 | exact Pu.fe ty_fa36_1) ?_
 refine TL.gd (Pu.ld ty_sc3) ?_
 refine TL.cr rfl (enters Tryz.func18 rfl rfl) (fun w hw => by
   exact span2_any _ _ _) ?_
 refine TL.cv rfl rfl (enters Tryz.func32 rfl rfl) (fun w hw => by
   exact fT _ b2 b3 b4 b1 i k _ _ h40 hi hk (hR.sat hw Apart.nil) (hw.holds _ (Pick.mem pk9)) (hw.holds _ (Pick.mem pk9)) (hw.holds _ (Pick.mem pk9)) (hw.holds _ (Pick.mem pk9))) ?_
 refine TL.lit (t := 220) (b' := false) rfl ((decide_eq_false (hbhi (by assumption)))) ?_
 refine TL.gd Pu.no ?_
 refine TL.gd Pu.kf ?_
 refine TL.p Pu.kt ?_
 refine TL.p Pu.as ?_
 refine TL.nil (TQ.thenN (hY24 _ _ ?_))
 refine TW.ret ?_
 refine TQ.ret Tryz.results9 rfl ((.tmp rfl .nil)) ?_
 exact fun w hw => Ret.of hw
 try simp only [zgb9] at hg1
 refine TL.gd Pu.mv ?_
 refine TL.gd (by first | exact Pu.fb ty_fa36_0 | exact Pu.fe ty_fa36_0) ?_
 refine TL.gd (Pu.ld ty_sc3) ?_
 refine TL.gd (by first | exact Pu.fb ty_fa36_0 | exact Pu.fe ty_fa36_0) ?_
 refine TL.gd (Pu.ld ty_sc3) ?_
 refine TL.gd Pu.sb ?_
 refine TL.cr rfl (enters Tryz.func18 rfl rfl) (fun w hw => by
   exact span2_any _ _ _) ?_
 refine TL.cv rfl rfl (enters Tryz.func32 rfl rfl) (fun w hw => by
   exact fT _ b2 b3 b4 b1 i k _ _ h40 hi hk (hR.sat hw Apart.nil) (hw.holds _ (Pick.mem pk9)) (hw.holds _ (Pick.mem pk9)) (hw.holds _ (Pick.mem pk9)) (hw.holds _ (Pick.mem pk9))) ?_
 refine TL.lit (t := 202) (b' := false) rfl ((decide_eq_false (hblo (by assumption)))) ?_
 refine TL.gd Pu.no ?_
 refine TL.gd Pu.kf ?_
 refine TL.p Pu.kt ?_
 refine TL.p Pu.mv ?_
 refine TL.gd (by first | exact Pu.fb ty_fa36_1 | exact Pu.fe ty_fa36_1) ?_
 refine TL.gd (Pu.ld ty_sc3) ?_
 refine TL.gd (by first | exact Pu.fb ty_fa36_1 | exact Pu.fe ty_fa36_1) ?_
 refine TL.gd (Pu.ld ty_sc3) ?_
 refine TL.gd Pu.eq ?_
 refine TL.gd Pu.mv ?_
 refine TL.guard (t := 212) rfl (fun hg3 => ?_) (fun hg3 => ?_)
 try simp only [zgb9] at hg3
 refine TL.gs ?_
 refine TL.gs ?_
 refine TL.gs ?_
 refine TL.gs ?_
 refine TL.gs ?_
 refine TL.gs ?_
 refine TL.gs ?_
 refine TL.gs ?_
 refine TL.gs ?_
 refine TL.gd Pu.kt ?_
 refine TL.p Pu.kt ?_
 refine TL.p Pu.as ?_
 refine TL.nil (TQ.thenN (hY24 _ _ ?_))
 refine TW.ret ?_
 refine TQ.ret Tryz.results9 rfl ((.tmp rfl .nil)) ?_
 exact fun w hw => Ret.of hw
 try simp only [zgb9] at hg3
 refine TL.gd Pu.mv ?_
 refine TL.gd (by first | exact Pu.fb ty_fa36_1 | exact Pu.fe ty_fa36_1) ?_
 refine TL.gd (Pu.ld ty_sc3) ?_
 refine TL.gd Pu.ad ?_
 refine TL.gd (by first | exact Pu.fb ty_fa36_1 | exact Pu.fe ty_fa36_1) ?_
 refine TL.gd (Pu.ld ty_sc3) ?_
 refine TL.cr rfl (enters Tryz.func18 rfl rfl) (fun w hw => by
   exact span2_any _ _ _) ?_
 refine TL.cv rfl rfl (enters Tryz.func32 rfl rfl) (fun w hw => by
   exact fT _ b2 b3 b4 b1 i k _ _ h40 hi hk (hR.sat hw Apart.nil) (hw.holds _ (Pick.mem pk9)) (hw.holds _ (Pick.mem pk9)) (hw.holds _ (Pick.mem pk9)) (hw.holds _ (Pick.mem pk9))) ?_
 refine TL.lit (t := 220) (b' := false) rfl ((decide_eq_false (hbhi (by assumption)))) ?_
 refine TL.gd Pu.no ?_
 refine TL.gd Pu.kf ?_
 refine TL.p Pu.kt ?_
 refine TL.p Pu.as ?_
 refine TL.nil (TQ.thenN (hY24 _ _ ?_))
 refine TW.ret ?_
 refine TQ.ret Tryz.results9 rfl ((.tmp rfl .nil)) ?_
 exact fun w hw => Ret.of hw
 refine RG.tk 0 rfl Pu.mv ?_
 refine RG.tk 1 rfl (Pu.ld ty_sc3) ?_
 refine RG.tk 2 rfl (Pu.el ty_et69) ?_
 refine RG.tk 4 rfl (Pu.ld ty_sc3) ?_
 refine RG.tk 8 rfl (Pu.ld ty_sc69) ?_
 refine RG.tk 9 rfl (Pu.ld ty_sc3) ?_
 refine RG.tk 10 rfl (Pu.el ty_et69) ?_
 refine RG.tk 12 rfl (Pu.ld ty_sc3) ?_
 refine RG.a3 3 16 17 rfl rfl rfl (fun X3 hX3 => ?_) (fun X16 hX16 => ?_) (fun X17 hX17 => ?_)
 refine TL.cr rfl (enters Tryz.func29 rfl rfl) (fun w hw => by
   exact fields_any i (rdr_some (OwnR.rdr (hw.holds (.own P2 nK p2 71 14 (fun i => rowL (kf i))) (Pick.mem pk9))) (by omega))) ?_
 refine TL.nil ?_
 refine TQ.nxt (hX3 _ _ hl9 ?_)
 refine RG.tk 5 rfl (Pu.ix (hr := fun w => idx7 hk w)) ?_
 refine RG.tk 6 rfl (Pu.nc (hq := CellsN.own pk9 (show i < nK by omega) (sub70 hk))) ?_
 refine RG.tk 7 rfl (Pu.lds ty_ag36 (hq := CellsN.own pk9 (show i < nK by omega) (sub7 hk))) ?_
 refine RG.a3 11 16 17 rfl rfl rfl (fun X11 hX11 => ?_) (fun X16 hX16 => ?_) (fun X17 hX17 => ?_)
 refine TL.cr rfl (enters Tryz.func29 rfl rfl) (fun w hw => by
   exact fields_any i (rdr_some hR (by omega))) ?_
 refine TL.nil ?_
 refine TQ.nxt (hX11 _ _ hl9 ?_)
 refine RG.tk 13 rfl (Pu.ix (hr := fun w => idx7 hk w)) ?_
 refine RG.tk 14 rfl (Pu.nc (hq := CellsN.old hR Apart.nil hi (sub70 hk))) ?_
 refine RG.tk 15 rfl (Pu.lds ty_ag36 (hq := CellsN.old hR Apart.nil hi (sub7 hk))) ?_
 refine RG.a2 16 17 rfl rfl (fun X16 hX16 => ?_) (fun X17 hX17 => ?_)
 refine TL.m (Mk.al ty_zr36) ?_
 intro x16
 refine TL.nil ?_
 refine TQ.nxt (hX16 _ _ hl9 ?_)
 refine RG.a1 17 rfl (fun X17 hX17 => ?_)
 refine TL.m (Mk.al ty_zr36) ?_
 intro x17
 refine TL.nil ?_
 refine TQ.nxt (hX17 _ _ hl9 ?_)
 refine RG.a1 18 rfl (fun X18 hX18 => ?_)
 first | refine TL.st ty_sz36 ?_ | refine TL.se ty_sz36 ?_
 refine TL.nil ?_
 refine TQ.nxt (hX18 _ _ hl9 ?_)
 refine RG.a1 19 rfl (fun X19 hX19 => ?_)
 first | refine TL.st ty_sz36 ?_ | refine TL.se ty_sz36 ?_
 refine TL.nil ?_
 refine TQ.nxt (hX19 _ _ hl9 ?_)
 exact RG.nil (TQ.sub fs9 kt9 (hE ⟨x16, x17⟩)) (by kernel_rfl)
 refine TL.m (Mk.al ty_zr36) ?_
 intro x17
 refine TL.nil ?_
 refine TQ.nxt (hX17 _ _ hl9 ?_)
 refine RG.a1 16 rfl (fun X16 hX16 => ?_)
 refine TL.m (Mk.al ty_zr36) ?_
 intro x16
 refine TL.nil ?_
 refine TQ.nxt (hX16 _ _ hl9 ?_)
 refine RG.a1 18 rfl (fun X18 hX18 => ?_)
 first | refine TL.st ty_sz36 ?_ | refine TL.se ty_sz36 ?_
 refine TL.nil ?_
 refine TQ.nxt (hX18 _ _ hl9 ?_)
 refine RG.a1 19 rfl (fun X19 hX19 => ?_)
 first | refine TL.st ty_sz36 ?_ | refine TL.se ty_sz36 ?_
 refine TL.nil ?_
 refine TQ.nxt (hX19 _ _ hl9 ?_)
 exact RG.nil (TQ.sub fs9 kt9 (hE ⟨x16, x17⟩)) (by kernel_rfl)
 refine TL.m (Mk.al ty_zr36) ?_
 intro x16
 refine TL.nil ?_
 refine TQ.nxt (hX16 _ _ hl9 ?_)
 refine RG.a2 11 17 rfl rfl (fun X11 hX11 => ?_) (fun X17 hX17 => ?_)
 refine TL.cr rfl (enters Tryz.func29 rfl rfl) (fun w hw => by
   exact fields_any i (rdr_some hR (by omega))) ?_
 refine TL.nil ?_
 refine TQ.nxt (hX11 _ _ hl9 ?_)
 refine RG.tk 13 rfl (Pu.ix (hr := fun w => idx7 hk w)) ?_
 refine RG.tk 14 rfl (Pu.nc (hq := CellsN.old hR Apart.nil hi (sub70 hk))) ?_
 refine RG.tk 15 rfl (Pu.lds ty_ag36 (hq := CellsN.old hR Apart.nil hi (sub7 hk))) ?_
 refine RG.a1 17 rfl (fun X17 hX17 => ?_)
 refine TL.m (Mk.al ty_zr36) ?_
 intro x17
 refine TL.nil ?_
 refine TQ.nxt (hX17 _ _ hl9 ?_)
 refine RG.a1 18 rfl (fun X18 hX18 => ?_)
 first | refine TL.st ty_sz36 ?_ | refine TL.se ty_sz36 ?_
 refine TL.nil ?_
 refine TQ.nxt (hX18 _ _ hl9 ?_)
 refine RG.a1 19 rfl (fun X19 hX19 => ?_)
 first | refine TL.st ty_sz36 ?_ | refine TL.se ty_sz36 ?_
 refine TL.nil ?_
 refine TQ.nxt (hX19 _ _ hl9 ?_)
 exact RG.nil (TQ.sub fs9 kt9 (hE ⟨x16, x17⟩)) (by kernel_rfl)
 refine TL.m (Mk.al ty_zr36) ?_
 intro x17
 refine TL.nil ?_
 refine TQ.nxt (hX17 _ _ hl9 ?_)
 refine RG.a1 11 rfl (fun X11 hX11 => ?_)
 refine TL.cr rfl (enters Tryz.func29 rfl rfl) (fun w hw => by
   exact fields_any i (rdr_some hR (by omega))) ?_
 refine TL.nil ?_
 refine TQ.nxt (hX11 _ _ hl9 ?_)
 refine RG.tk 13 rfl (Pu.ix (hr := fun w => idx7 hk w)) ?_
 refine RG.tk 14 rfl (Pu.nc (hq := CellsN.old hR Apart.nil hi (sub70 hk))) ?_
 refine RG.tk 15 rfl (Pu.lds ty_ag36 (hq := CellsN.old hR Apart.nil hi (sub7 hk))) ?_
 refine RG.a1 18 rfl (fun X18 hX18 => ?_)
 first | refine TL.st ty_sz36 ?_ | refine TL.se ty_sz36 ?_
 refine TL.nil ?_
 refine TQ.nxt (hX18 _ _ hl9 ?_)
 refine RG.a1 19 rfl (fun X19 hX19 => ?_)
 first | refine TL.st ty_sz36 ?_ | refine TL.se ty_sz36 ?_
 refine TL.nil ?_
 refine TQ.nxt (hX19 _ _ hl9 ?_)
 exact RG.nil (TQ.sub fs9 kt9 (hE ⟨x16, x17⟩)) (by kernel_rfl)
 refine TL.m (Mk.al ty_zr36) ?_
 intro x17
 refine TL.nil ?_
 refine TQ.nxt (hX17 _ _ hl9 ?_)
 refine RG.a2 11 16 rfl rfl (fun X11 hX11 => ?_) (fun X16 hX16 => ?_)
 refine TL.cr rfl (enters Tryz.func29 rfl rfl) (fun w hw => by
   exact fields_any i (rdr_some hR (by omega))) ?_
 refine TL.nil ?_
 refine TQ.nxt (hX11 _ _ hl9 ?_)
 refine RG.tk 13 rfl (Pu.ix (hr := fun w => idx7 hk w)) ?_
 refine RG.tk 14 rfl (Pu.nc (hq := CellsN.old hR Apart.nil hi (sub70 hk))) ?_
 refine RG.tk 15 rfl (Pu.lds ty_ag36 (hq := CellsN.old hR Apart.nil hi (sub7 hk))) ?_
 refine RG.a1 16 rfl (fun X16 hX16 => ?_)
 refine TL.m (Mk.al ty_zr36) ?_
 intro x16
 refine TL.nil ?_
 refine TQ.nxt (hX16 _ _ hl9 ?_)
 refine RG.a1 18 rfl (fun X18 hX18 => ?_)
 first | refine TL.st ty_sz36 ?_ | refine TL.se ty_sz36 ?_
 refine TL.nil ?_
 refine TQ.nxt (hX18 _ _ hl9 ?_)
 refine RG.a1 19 rfl (fun X19 hX19 => ?_)
 first | refine TL.st ty_sz36 ?_ | refine TL.se ty_sz36 ?_
 refine TL.nil ?_
 refine TQ.nxt (hX19 _ _ hl9 ?_)
 exact RG.nil (TQ.sub fs9 kt9 (hE ⟨x16, x17⟩)) (by kernel_rfl)
 refine TL.m (Mk.al ty_zr36) ?_
 intro x16
 refine TL.nil ?_
 refine TQ.nxt (hX16 _ _ hl9 ?_)
 refine RG.a1 11 rfl (fun X11 hX11 => ?_)
 refine TL.cr rfl (enters Tryz.func29 rfl rfl) (fun w hw => by
   exact fields_any i (rdr_some hR (by omega))) ?_
 refine TL.nil ?_
 refine TQ.nxt (hX11 _ _ hl9 ?_)
 refine RG.tk 13 rfl (Pu.ix (hr := fun w => idx7 hk w)) ?_
 refine RG.tk 14 rfl (Pu.nc (hq := CellsN.old hR Apart.nil hi (sub70 hk))) ?_
 refine RG.tk 15 rfl (Pu.lds ty_ag36 (hq := CellsN.old hR Apart.nil hi (sub7 hk))) ?_
 refine RG.a1 18 rfl (fun X18 hX18 => ?_)
 first | refine TL.st ty_sz36 ?_ | refine TL.se ty_sz36 ?_
 refine TL.nil ?_
 refine TQ.nxt (hX18 _ _ hl9 ?_)
 refine RG.a1 19 rfl (fun X19 hX19 => ?_)
 first | refine TL.st ty_sz36 ?_ | refine TL.se ty_sz36 ?_
 refine TL.nil ?_
 refine TQ.nxt (hX19 _ _ hl9 ?_)
 exact RG.nil (TQ.sub fs9 kt9 (hE ⟨x16, x17⟩)) (by kernel_rfl)
 refine TL.m (Mk.al ty_zr36) ?_
 intro x16
 refine TL.nil ?_
 refine TQ.nxt (hX16 _ _ hl9 ?_)
 refine RG.a2 3 17 rfl rfl (fun X3 hX3 => ?_) (fun X17 hX17 => ?_)
 refine TL.cr rfl (enters Tryz.func29 rfl rfl) (fun w hw => by
   exact fields_any i (rdr_some (OwnR.rdr (hw.holds (.own P2 nK p2 71 14 (fun i => rowL (kf i))) (Pick.mem pk9))) (by omega))) ?_
 refine TL.nil ?_
 refine TQ.nxt (hX3 _ _ hl9 ?_)
 refine RG.tk 5 rfl (Pu.ix (hr := fun w => idx7 hk w)) ?_
 refine RG.tk 6 rfl (Pu.nc (hq := CellsN.own pk9 (show i < nK by omega) (sub70 hk))) ?_
 refine RG.tk 7 rfl (Pu.lds ty_ag36 (hq := CellsN.own pk9 (show i < nK by omega) (sub7 hk))) ?_
 refine RG.a2 11 17 rfl rfl (fun X11 hX11 => ?_) (fun X17 hX17 => ?_)
 refine TL.cr rfl (enters Tryz.func29 rfl rfl) (fun w hw => by
   exact fields_any i (rdr_some hR (by omega))) ?_
 refine TL.nil ?_
 refine TQ.nxt (hX11 _ _ hl9 ?_)
 refine RG.tk 13 rfl (Pu.ix (hr := fun w => idx7 hk w)) ?_
 refine RG.tk 14 rfl (Pu.nc (hq := CellsN.old hR Apart.nil hi (sub70 hk))) ?_
 refine RG.tk 15 rfl (Pu.lds ty_ag36 (hq := CellsN.old hR Apart.nil hi (sub7 hk))) ?_
 refine RG.a1 17 rfl (fun X17 hX17 => ?_)
 refine TL.m (Mk.al ty_zr36) ?_
 intro x17
 refine TL.nil ?_
 refine TQ.nxt (hX17 _ _ hl9 ?_)
 refine RG.a1 18 rfl (fun X18 hX18 => ?_)
 first | refine TL.st ty_sz36 ?_ | refine TL.se ty_sz36 ?_
 refine TL.nil ?_
 refine TQ.nxt (hX18 _ _ hl9 ?_)
 refine RG.a1 19 rfl (fun X19 hX19 => ?_)
 first | refine TL.st ty_sz36 ?_ | refine TL.se ty_sz36 ?_
 refine TL.nil ?_
 refine TQ.nxt (hX19 _ _ hl9 ?_)
 exact RG.nil (TQ.sub fs9 kt9 (hE ⟨x16, x17⟩)) (by kernel_rfl)
 refine TL.m (Mk.al ty_zr36) ?_
 intro x17
 refine TL.nil ?_
 refine TQ.nxt (hX17 _ _ hl9 ?_)
 refine RG.a1 11 rfl (fun X11 hX11 => ?_)
 refine TL.cr rfl (enters Tryz.func29 rfl rfl) (fun w hw => by
   exact fields_any i (rdr_some hR (by omega))) ?_
 refine TL.nil ?_
 refine TQ.nxt (hX11 _ _ hl9 ?_)
 refine RG.tk 13 rfl (Pu.ix (hr := fun w => idx7 hk w)) ?_
 refine RG.tk 14 rfl (Pu.nc (hq := CellsN.old hR Apart.nil hi (sub70 hk))) ?_
 refine RG.tk 15 rfl (Pu.lds ty_ag36 (hq := CellsN.old hR Apart.nil hi (sub7 hk))) ?_
 refine RG.a1 18 rfl (fun X18 hX18 => ?_)
 first | refine TL.st ty_sz36 ?_ | refine TL.se ty_sz36 ?_
 refine TL.nil ?_
 refine TQ.nxt (hX18 _ _ hl9 ?_)
 refine RG.a1 19 rfl (fun X19 hX19 => ?_)
 first | refine TL.st ty_sz36 ?_ | refine TL.se ty_sz36 ?_
 refine TL.nil ?_
 refine TQ.nxt (hX19 _ _ hl9 ?_)
 exact RG.nil (TQ.sub fs9 kt9 (hE ⟨x16, x17⟩)) (by kernel_rfl)
 refine TL.m (Mk.al ty_zr36) ?_
 intro x17
 refine TL.nil ?_
 refine TQ.nxt (hX17 _ _ hl9 ?_)
 refine RG.a1 3 rfl (fun X3 hX3 => ?_)
 refine TL.cr rfl (enters Tryz.func29 rfl rfl) (fun w hw => by
   exact fields_any i (rdr_some (OwnR.rdr (hw.holds (.own P2 nK p2 71 14 (fun i => rowL (kf i))) (Pick.mem pk9))) (by omega))) ?_
 refine TL.nil ?_
 refine TQ.nxt (hX3 _ _ hl9 ?_)
 refine RG.tk 5 rfl (Pu.ix (hr := fun w => idx7 hk w)) ?_
 refine RG.tk 6 rfl (Pu.nc (hq := CellsN.own pk9 (show i < nK by omega) (sub70 hk))) ?_
 refine RG.tk 7 rfl (Pu.lds ty_ag36 (hq := CellsN.own pk9 (show i < nK by omega) (sub7 hk))) ?_
 refine RG.a1 11 rfl (fun X11 hX11 => ?_)
 refine TL.cr rfl (enters Tryz.func29 rfl rfl) (fun w hw => by
   exact fields_any i (rdr_some hR (by omega))) ?_
 refine TL.nil ?_
 refine TQ.nxt (hX11 _ _ hl9 ?_)
 refine RG.tk 13 rfl (Pu.ix (hr := fun w => idx7 hk w)) ?_
 refine RG.tk 14 rfl (Pu.nc (hq := CellsN.old hR Apart.nil hi (sub70 hk))) ?_
 refine RG.tk 15 rfl (Pu.lds ty_ag36 (hq := CellsN.old hR Apart.nil hi (sub7 hk))) ?_
 refine RG.a1 18 rfl (fun X18 hX18 => ?_)
 first | refine TL.st ty_sz36 ?_ | refine TL.se ty_sz36 ?_
 refine TL.nil ?_
 refine TQ.nxt (hX18 _ _ hl9 ?_)
 refine RG.a1 19 rfl (fun X19 hX19 => ?_)
 first | refine TL.st ty_sz36 ?_ | refine TL.se ty_sz36 ?_
 refine TL.nil ?_
 refine TQ.nxt (hX19 _ _ hl9 ?_)
 exact RG.nil (TQ.sub fs9 kt9 (hE ⟨x16, x17⟩)) (by kernel_rfl)
 refine TL.m (Mk.al ty_zr36) ?_
 intro x17
 refine TL.nil ?_
 refine TQ.nxt (hX17 _ _ hl9 ?_)
 refine RG.a2 3 16 rfl rfl (fun X3 hX3 => ?_) (fun X16 hX16 => ?_)
 refine TL.cr rfl (enters Tryz.func29 rfl rfl) (fun w hw => by
   exact fields_any i (rdr_some (OwnR.rdr (hw.holds (.own P2 nK p2 71 14 (fun i => rowL (kf i))) (Pick.mem pk9))) (by omega))) ?_
 refine TL.nil ?_
 refine TQ.nxt (hX3 _ _ hl9 ?_)
 refine RG.tk 5 rfl (Pu.ix (hr := fun w => idx7 hk w)) ?_
 refine RG.tk 6 rfl (Pu.nc (hq := CellsN.own pk9 (show i < nK by omega) (sub70 hk))) ?_
 refine RG.tk 7 rfl (Pu.lds ty_ag36 (hq := CellsN.own pk9 (show i < nK by omega) (sub7 hk))) ?_
 refine RG.a2 11 16 rfl rfl (fun X11 hX11 => ?_) (fun X16 hX16 => ?_)
 refine TL.cr rfl (enters Tryz.func29 rfl rfl) (fun w hw => by
   exact fields_any i (rdr_some hR (by omega))) ?_
 refine TL.nil ?_
 refine TQ.nxt (hX11 _ _ hl9 ?_)
 refine RG.tk 13 rfl (Pu.ix (hr := fun w => idx7 hk w)) ?_
 refine RG.tk 14 rfl (Pu.nc (hq := CellsN.old hR Apart.nil hi (sub70 hk))) ?_
 refine RG.tk 15 rfl (Pu.lds ty_ag36 (hq := CellsN.old hR Apart.nil hi (sub7 hk))) ?_
 refine RG.a1 16 rfl (fun X16 hX16 => ?_)
 refine TL.m (Mk.al ty_zr36) ?_
 intro x16
 refine TL.nil ?_
 refine TQ.nxt (hX16 _ _ hl9 ?_)
 refine RG.a1 18 rfl (fun X18 hX18 => ?_)
 first | refine TL.st ty_sz36 ?_ | refine TL.se ty_sz36 ?_
 refine TL.nil ?_
 refine TQ.nxt (hX18 _ _ hl9 ?_)
 refine RG.a1 19 rfl (fun X19 hX19 => ?_)
 first | refine TL.st ty_sz36 ?_ | refine TL.se ty_sz36 ?_
 refine TL.nil ?_
 refine TQ.nxt (hX19 _ _ hl9 ?_)
 exact RG.nil (TQ.sub fs9 kt9 (hE ⟨x16, x17⟩)) (by kernel_rfl)
 refine TL.m (Mk.al ty_zr36) ?_
 intro x16
 refine TL.nil ?_
 refine TQ.nxt (hX16 _ _ hl9 ?_)
 refine RG.a1 11 rfl (fun X11 hX11 => ?_)
 refine TL.cr rfl (enters Tryz.func29 rfl rfl) (fun w hw => by
   exact fields_any i (rdr_some hR (by omega))) ?_
 refine TL.nil ?_
 refine TQ.nxt (hX11 _ _ hl9 ?_)
 refine RG.tk 13 rfl (Pu.ix (hr := fun w => idx7 hk w)) ?_
 refine RG.tk 14 rfl (Pu.nc (hq := CellsN.old hR Apart.nil hi (sub70 hk))) ?_
 refine RG.tk 15 rfl (Pu.lds ty_ag36 (hq := CellsN.old hR Apart.nil hi (sub7 hk))) ?_
 refine RG.a1 18 rfl (fun X18 hX18 => ?_)
 first | refine TL.st ty_sz36 ?_ | refine TL.se ty_sz36 ?_
 refine TL.nil ?_
 refine TQ.nxt (hX18 _ _ hl9 ?_)
 refine RG.a1 19 rfl (fun X19 hX19 => ?_)
 first | refine TL.st ty_sz36 ?_ | refine TL.se ty_sz36 ?_
 refine TL.nil ?_
 refine TQ.nxt (hX19 _ _ hl9 ?_)
 exact RG.nil (TQ.sub fs9 kt9 (hE ⟨x16, x17⟩)) (by kernel_rfl)
 refine TL.m (Mk.al ty_zr36) ?_
 intro x16
 refine TL.nil ?_
 refine TQ.nxt (hX16 _ _ hl9 ?_)
 refine RG.a1 3 rfl (fun X3 hX3 => ?_)
 refine TL.cr rfl (enters Tryz.func29 rfl rfl) (fun w hw => by
   exact fields_any i (rdr_some (OwnR.rdr (hw.holds (.own P2 nK p2 71 14 (fun i => rowL (kf i))) (Pick.mem pk9))) (by omega))) ?_
 refine TL.nil ?_
 refine TQ.nxt (hX3 _ _ hl9 ?_)
 refine RG.tk 5 rfl (Pu.ix (hr := fun w => idx7 hk w)) ?_
 refine RG.tk 6 rfl (Pu.nc (hq := CellsN.own pk9 (show i < nK by omega) (sub70 hk))) ?_
 refine RG.tk 7 rfl (Pu.lds ty_ag36 (hq := CellsN.own pk9 (show i < nK by omega) (sub7 hk))) ?_
 refine RG.a1 11 rfl (fun X11 hX11 => ?_)
 refine TL.cr rfl (enters Tryz.func29 rfl rfl) (fun w hw => by
   exact fields_any i (rdr_some hR (by omega))) ?_
 refine TL.nil ?_
 refine TQ.nxt (hX11 _ _ hl9 ?_)
 refine RG.tk 13 rfl (Pu.ix (hr := fun w => idx7 hk w)) ?_
 refine RG.tk 14 rfl (Pu.nc (hq := CellsN.old hR Apart.nil hi (sub70 hk))) ?_
 refine RG.tk 15 rfl (Pu.lds ty_ag36 (hq := CellsN.old hR Apart.nil hi (sub7 hk))) ?_
 refine RG.a1 18 rfl (fun X18 hX18 => ?_)
 first | refine TL.st ty_sz36 ?_ | refine TL.se ty_sz36 ?_
 refine TL.nil ?_
 refine TQ.nxt (hX18 _ _ hl9 ?_)
 refine RG.a1 19 rfl (fun X19 hX19 => ?_)
 first | refine TL.st ty_sz36 ?_ | refine TL.se ty_sz36 ?_
 refine TL.nil ?_
 refine TQ.nxt (hX19 _ _ hl9 ?_)
 exact RG.nil (TQ.sub fs9 kt9 (hE ⟨x16, x17⟩)) (by kernel_rfl)
 refine TW.region ?_
 refine TL.p (Pu.lds ty_ag36) ?_
 refine TL.p (Pu.ld ty_sc69) ?_
 refine TL.cr rfl (enters Tryz.func31 rfl rfl) (fun w hw => by
   exact right_any (by omega) (hR.sat hw Apart.nil)) ?_
 refine TL.p Pu.no ?_
 refine TL.p Pu.mv ?_
 refine TL.guard (t := 32) rfl (fun hg4 => ?_) (fun hg4 => ?_)
 try simp only [zgb9] at hg4
 refine TL.gs ?_
 refine TL.gs ?_
 refine TL.p Pu.kt ?_
 refine TL.nil ?_
 exact TQ.sub (by repeat (first | exact trivial | refine ⟨rfl, ?_⟩ | refine ⟨trivial, ?_⟩ | refine ⟨(by show some (Value.bool _) = some (Value.bool _); first | (simp [hg4]; done) | (refine congrArg (fun z => some (Value.bool z)) (Bool.eq_iff_iff.2 ?_); simp [hg4]; omega)), ?_⟩)) ks9 hJ1
 try simp only [zgb9] at hg4
 refine TL.gd Pu.mv ?_
 refine TL.gd Pu.no ?_
 refine TL.lit (t := 34) (b' := false) rfl (rfl) ?_
 refine TL.p Pu.kf ?_
 refine TL.nil ?_
 exact TQ.sub (by repeat (first | exact trivial | refine ⟨rfl, ?_⟩ | refine ⟨trivial, ?_⟩ | refine ⟨(by show some (Value.bool _) = some (Value.bool _); first | (simp [hg4]; done) | (refine congrArg (fun z => some (Value.bool z)) (Bool.eq_iff_iff.2 ?_); simp [hg4]; omega)), ?_⟩)) ks9 hJ1
end
end Go.Proofs.YtbenhafhklfhmaaGreat
namespace Go.Proofs.YtbenhafhklfhmaaGreat
set_option linter.all false
set_option linter.unusedVariables false
set_option linter.unusedSimpArgs false
open Go.ChangeShapes Go.WideShapes Go.ChangeAt Go.RowKit Go.Deep
section
variable {H : Type} {enc : TypeId × Value → H} {P : Program} {w : World} {base : Nat} {spare : Nat → Bool} {held : Bool}
set_option maxRecDepth 100000 in
theorem open_rowsB {r : Reach} {b0 : Nat} {v : Value} {dd : DataW H} {p : List MemPlace} (hv : Value.okWide Tryz.prog w r b0 69 v) (h : DataW.Trod enc Tryz.prog w base spare held 69 v dd p) :
  ∃ (A : Option Addr) (n cp : Nat) (f : Nat → Nat → Int), v = .slice A n cp ∧ RdR w 14 A n (fun i => rowL (f i)) ∧ (A = none → cp = 0 ∧ n = 0) ∧ n ≤ cp ∧ cp ≤ maxLen := by
 obtain ⟨A, n, cp, g, rfl, hg, hR, h1, h2, h3⟩ := open_rows 3 [.i64, .i64, .i64, .i64, .i64, .i64, .i64, .i64, .i64, .i64, .i64, .i64, .i64, .i64] Tryz.underlying69 (by kernel_rfl) (by kernel_rfl) rfl hv h
 exact ⟨A, n, cp, fun i => gi (g i), rfl, hR.rowK hg, fun e => ⟨(h1 e).2, (h1 e).1⟩, h2, h3⟩
set_option maxRecDepth 100000 in
theorem open_spanB {r : Reach} {b0 : Nat} {v : Value} {dd : DataW H} {p : List MemPlace} (hv : Value.okWide Tryz.prog w r b0 36 v) (h : DataW.Trod enc Tryz.prog w base spare held 36 v dd p) :
    ∃ (a b : Int), v = .agg #[.int .i64 a, .int .i64 b] := by
  obtain ⟨cs, rfl, hlen⟩ := okWide_struct Tryz.underlying36 hv
  obtain ⟨fuel, hf⟩ := h
  obtain ⟨s2, e2, l2⟩ := kindsF_spec 2 36 [.i64, .i64] (by kernel_rfl) _ _ _ hf
  match s2, l2 with
  | [a0, a1], _ =>
    obtain ⟨L⟩ := cs
    have e2 : L = [.int .i64 a0, .int .i64 a1] := e2
    subst e2
    exact ⟨a0, a1, rfl⟩
end
end Go.Proofs.YtbenhafhklfhmaaGreat
