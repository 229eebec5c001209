/-
  Part 1 of the proof of brandTrue_holds: declarations of several texts, in build order. No condition on a program.
-/
import Derived.Test.YtbenhafhklfhmaaGreatAl01
import Derived.Test.YtbenhafhklfhmaaGreatAl02
import Derived.Test.YtbenhafhklfhmaaGreatAl03
import Derived.Test.YtbenhafhklfhmaaGreatAl04
import Derived.Test.YtbenhafhklfhmaaGreatAl05
import Derived.Test.YtbenhafhklfhmaaGreatAl06
import Derived.Test.YtbenhafhklfhmaaGreatAl07
import Derived.Test.YtbenhafhklfhmaaGreatAl08
import Derived.Test.YtbenhafhklfhmaaGreatAl09
import Derived.Test.YtbenhafhklfhmaaGreatAl10
import Derived.Test.YtbenhafhklfhmaaGreatAl11
import Derived.Test.YtbenhafhklfhmaaGreatRows
import Derived.WalkKit
import Derived.WalkSpells
import Derived.WalkLawsBesides
import Derived.Deep.QuietTactic
import Derived.BigQuiet
import Derived.OrdersHeld
import Derived.Maps.AppendAt
import Derived.OwnWalk
import Derived.Lib.SliceRun
import Derived.RangeFuncNested
import Derived.RangeFuncBound
import Derived.RangeFuncCalls
import Derived.RangeFuncLeaves
import Derived.OwnWalkIn
import Derived.TacticsInMore
import Derived.LoopNIn
import Derived.LoopIn
import Derived.OrdersIn
import Derived.Deep.LoopGhost
import Derived.MapKept
import Derived.Carry
import Derived.Lib.AppendZerosOnto
import Derived.Laws.OwnMore
import Derived.Sort.Grow
import Derived.IntWalk
import Derived.Shelf.Small.Bits
import Derived.Shelf.Strconv.Itoa0
import Derived.Ground.SlsfProg
import Derived.Shelf.SlSortCmp.Insertion
import Derived.Ground.SlgmProg
import Derived.Shelf.SortM.Plain
import Derived.Shelf.SortM.SortNone
import Derived.Shelf.SlSortCmp.SiftDown1
import Derived.Shelf.SlSortCmp.HeapSort1
import Derived.Shelf.SlSortCmp.Insertion1
import Derived.Shelf.SlSortCmp.Median1
import Derived.Shelf.SlSortCmp.Pivot1
import Derived.Shelf.SlSortCmp.ReverseRange1
import Derived.Shelf.SlSortCmp.PartialInsertion1
import Derived.Shelf.SlSortCmp.PartitionEqual1
import Derived.Shelf.SlSortCmp.Partition1
import Derived.Shelf.SlSortCmp.Pdq1
import Derived.Shelf.SlSortCmp.Whole1
import Derived.Shelf.SlSortCmp.NoneTotal
import Derived.Test.YtbenhafhklfhmaaGreatProg
import Derived.Deep.RegionHeld3
import Derived.BigRegion
import Derived.Deep.DeepMust
import Derived.ProofKit
import Derived.Deep.Slices
import Derived.ChangeKeysEq
namespace Go.Proofs.YtbenhafhklfhmaaGreat
set_option linter.all false
set_option linter.unusedVariables false
set_option linter.unusedSimpArgs false
open Go.RowKit
section
variable {n : Nat} {D : List Deferred} {F F' : Fr} {a : Act}
end
section
variable {S : List Nat} {w0 w w' : World} {K K' M L : List Fact} {φ φ' : Fact}
end
section
variable {c : Cx} {Q : Exit → Act → World → Prop} {F F' : Fr} {K K' : List Fact} {ops : Array Oper} {rest : List Oper}
theorem TW.loop4 {ι1 ι2 ι3 ι4 : Type} {x : Code} (FI : ι1 → ι2 → ι3 → ι4 → Fr) (KI : ι1 → ι2 → ι3 → ι4 → List Fact) (p : ι1 → ι2 → ι3 → ι4 → Prop) (μ : ι1 → ι2 → ι3 → ι4 → Nat) (i1 : ι1) (i2 : ι2) (i3 : ι3) (i4 : ι4) (hF : fsub F (FI i1 i2 i3 i4)) (hK : KSub K (KI i1 i2 i3 i4)) (hp : p i1 i2 i3 i4)
    (round : ∀ i1 i2 i3 i4, p i1 i2 i3 i4 → ∀ Y : Act → World → Prop, (∀ j1 j2 j3 j4 F K, p j1 j2 j3 j4 → μ j1 j2 j3 j4 < μ i1 i2 i3 i4 → fsub F (FI j1 j2 j3 j4) → KSub K (KI j1 j2 j3 j4) → TQ c (fun _ => Y) .normal F K) → TW c x (Exit.then Y Q) (FI i1 i2 i3 i4) (KI i1 i2 i3 i4)) : TW c (.loop x) Q F K :=
  TW.loop (ι := { t : ι1 × ι2 × ι3 × ι4 // p t.1 t.2.1 t.2.2.1 t.2.2.2 }) (fun t => FI t.1.1 t.1.2.1 t.1.2.2.1 t.1.2.2.2) (fun t => KI t.1.1 t.1.2.1 t.1.2.2.1 t.1.2.2.2) (fun t => μ t.1.1 t.1.2.1 t.1.2.2.1 t.1.2.2.2) ⟨(i1, i2, i3, i4), hp⟩ hF hK fun t Y hY => round t.1.1 t.1.2.1 t.1.2.2.1 t.1.2.2.2 t.2 Y fun j1 j2 j3 j4 F K h1 h2 h3 h4 => hY ⟨(j1, j2, j3, j4), h1⟩ F K h2 h3 h4
end
end Go.Proofs.YtbenhafhklfhmaaGreat
namespace Go.Proofs.YtbenhafhklfhmaaGreat
set_option linter.all false
set_option linter.unusedVariables false
set_option linter.unusedSimpArgs false
open Go.RowKit
section
variable {c : Cx} {F : Fr} {K K' : List Fact} {d : Option Tmp} {ty : TypeId} {pos : String} {af : Array Edge} {g : Option (Nat × Bool)}
section
variable {x y : Operand} {xt yt : TypeId} {i j : Int} {k : IntKind}
theorem Pu.mul (hx : ev F x = some (.int .i64 i)) (hy : ev F y = some (.int .i64 j)) (h : -9223372036854775808 ≤ i * j ∧ i * j ≤ 9223372036854775807) : Pu c F K ⟨d, .binOp .mul xt x y yt, ty, pos, af, g⟩ (.int .i64 (i * j)) :=
  Pu.arith hx hy (fun w => by rw [Op.intArith, IntWalk.i64_in _ h]; rfl) trivial
end
end
end Go.Proofs.YtbenhafhklfhmaaGreat
namespace Go.Proofs.YtbenhafhklfhmaaGreat
set_option linter.all false
set_option linter.unusedVariables false
set_option linter.unusedSimpArgs false
open Go.RowKit
section
variable {c : Cx} {Q : Exit → Act → World → Prop} {F F' : Fr} {K K' : List Fact} {ty : TypeId} {pos : String} {af : Array Edge} {g : Option (Nat × Bool)}
variable {ops : Array Oper} {nf k fuel : Nat} {rest : List Oper} {pend : List (Nat × Oper)} {fl : List Fl} {listed : Array Bool} {bs : List Bool}
theorem WK.mk {i : Nat} {d : Option Tmp} {op : Op} {v : Nat → Value} {t : TypeId} {cs : List Value} (hm : Mk c F K ⟨d, op, ty, pos, af, none⟩ v t cs) (hd : dok d c.n = true) (h : ∀ b, WK c ops Q nf fl bs pend (fput F d (v b)) (.blk b t cs :: K)) : WK c ops Q nf fl (false :: bs) ((i, ⟨d, op, ty, pos, af, none⟩) :: pend) F K :=
  WK.act fun a w' K' hF hK ho hK' => by
    refine wpOp_of ho rfl ?_
    have hr := hm a w' hF hK
    unfold Oper.wp
    rw [hr]
    have hs : Sat [] w' [.blk w'.heap.size t cs] (w'.alloc (.cells cs.toArray t)) := (Sat.start w').new t cs
    exact hK' _ [.blk w'.heap.size t cs] _ _ hs (hF.fput hd _) (h w'.heap.size)
theorem WK.lit {t : Nat} {b b' : Bool} (ht : fget F t = some (.bool b)) (hb : b = b') (h : WK c ops Q nf fl bs pend ((t, .bool b') :: F) K) : WK c ops Q nf fl bs pend F K := fun W N a w hp h0 hF hK hN hb9 =>
  h W N a w hp h0 ⟨hF.size, hF.dfs, fun u v hv => by
    simp only [fget] at hv
    cases h1 : Nat.beq t u with
    | true => rw [h1] at hv; have := beq_iff.1 h1; subst this; injection hv with hv; subst hv; rw [← hb]; exact hF.get _ _ ht
    | false => rw [h1] at hv; exact hF.get _ _ hv⟩ hK hN hb9
end
end Go.Proofs.YtbenhafhklfhmaaGreat
namespace Go.Proofs.YtbenhafhklfhmaaGreat
set_option linter.all false
set_option linter.unusedVariables false
set_option linter.unusedSimpArgs false
open Go.RowKit
section
variable {c : Cx} {Q : Exit → Act → World → Prop} {F F' : Fr} {K K' : List Fact} {ops : Array Oper} {rest : List Oper} {d : Option Tmp} {ty : TypeId} {pos : String} {af : Array Edge} {g : Option (Nat × Bool)} {nf k fuel : Nat} {pend : List (Nat × Oper)} {fl : List Fl} {listed : Array Bool} {bs : List Bool} {op : Op} {t : Nat}
theorem WK.m {i : Nat} {v : Nat → Value} {T : TypeId} {cs : List Value} (hm : Mk c F K ⟨d, op, ty, pos, af, none⟩ v T cs) (h : ∀ b, WK c ops Q nf fl bs pend (fput F d (v b)) (.blk b T cs :: K)) (hd : dok d c.n = true := by rfl) : WK c ops Q nf fl (false :: bs) ((i, ⟨d, op, ty, pos, af, none⟩) :: pend) F K := WK.mk hm hd h
section
variable {x y : Operand} {xt yt : TypeId} {i j : Int} {kk : IntKind}
theorem Pu.ml (hx : ev F x = some (.int .i64 i) := by rfl) (hy : ev F y = some (.int .i64 j) := by rfl) (h : -9223372036854775808 ≤ i * j ∧ i * j ≤ 9223372036854775807 := by omega) : Pu c F K ⟨d, .binOp .mul xt x y yt, ty, pos, af, g⟩ (.int .i64 (i * j)) := Pu.mul hx hy h
end
end
end Go.Proofs.YtbenhafhklfhmaaGreat
namespace Go.Proofs.YtbenhafhklfhmaaGreat
set_option linter.all false
set_option linter.unusedVariables false
set_option linter.unusedSimpArgs false
open Go.RowKit
section
variable {c : Cx} {Q : Exit → Act → World → Prop} {F F' : Fr} {K K' K0 : List Fact} {ops : Array Oper} {rest : List Oper} {d : Option Tmp} {ty : TypeId} {pos : String} {af : Array Edge} {g : Option (Nat × Bool)} {k fuel t nf : Nat} {pend : List (Nat × Oper)} {listed : Array Bool} {bs : List Bool} {fl : List Fl} {op : Op}
end
section
variable {c : Cx} {Q : Exit → Act → World → Prop} {F F' : Fr} {K K' K0 : List Fact} {ops : Array Oper} {listed : Array Bool} {fuel : Nat}
theorem TW.ex0 {id : Nat} {l : List Oper} (hd : Drop F K K0) (h2 : RG c l.toArray Q K0 [] (Array.replicate l.length false) l.length F K) (hm : c.P.follows .mixedOrders = true := by rfl) : TW c (.region id l.toArray true) Q F K := fun a w hF hK => by
  refine wp_region_any hm (wpAny_of_held (S := Sat c.S c.w0 K0) _ _ _ _ ?_)
  rw [List.size_toArray]
  exact h2 (fun p hp => by cases hp) a w.drew hF (hK.ext (keep_drew w))
end
end Go.Proofs.YtbenhafhklfhmaaGreat
namespace Go.Proofs.YtbenhafhklfhmaaGreat
set_option linter.all false
set_option linter.unusedVariables false
set_option linter.unusedSimpArgs false
open Go.RowKit Go.MapKept
section
variable {c : Cx} {Q : Exit → Act → World → Prop} {F F' : Fr} {K K' K0 : List Fact} {ops : Array Oper} {rest : List Oper} {d : Option Tmp} {ty : TypeId} {pos : String} {af : Array Edge} {g : Option (Nat × Bool)} {k fuel t nf : Nat} {pend : List (Nat × Oper)} {listed : Array Bool} {bs : List Bool} {fl : List Fl} {op : Op}
theorem Pu.l1 {x y : Operand} {T kt et : TypeId} {kk : IntKind} {b : Nat} {i : Int} {z : Value} {l : List (Int × Value)} (hT : MapT c.P T kt et kk) (hz : ∀ w, (zeroValue et).run c.P w = .ok z w) (hx : ev F x = some (.map (some b)) := by rfl) (hy : ev F y = some (.int kk i) := by rfl)
    (hp : Pick K (.obj b (mapO kk l)) K' := by repeat (first | exact Pick.hd | apply Pick.tl)) : Pu c F K ⟨d, .lookup T x y false, ty, pos, af, g⟩ ((mlook i l).getD z) := fun a w hF hK => by
  have hb : w.heap[b]? = some (mapO kk l) := (hK.holds _ hp.mem).1
  have hr := run_lookup_o (i := i) hT hb (hz w) false
  simp [execOp, hF.evl hx, hF.evl hy, hr]
end
end Go.Proofs.YtbenhafhklfhmaaGreat
namespace Go.Proofs.YtbenhafhklfhmaaGreat
set_option linter.all false
set_option linter.unusedVariables false
set_option linter.unusedSimpArgs false
open Go.RowKit
theorem ty_i5 : (Tryz.prog.info? 5).map (fun i => (i.zero, i.size, i.bytes)) = some (some (.int .u8 0), 1, 1) := by kernel_rfl
theorem ty_sc5 : Sc Tryz.prog 5 := fun w => by simp [isAgg, run_underlying Tryz.underlying5]
theorem ty_et23 : ElemT Tryz.prog 23 5 1 1 := elemT (z := .int .u8 0) Tryz.underlying23 ty_i5 rfl (by decide)
theorem ty_et95 : ElemT Tryz.prog 95 4 1 1 := elemT (z := .bool false) Tryz.underlying95 ty_i4 rfl (by decide)
end Go.Proofs.YtbenhafhklfhmaaGreat
namespace Go.Proofs.YtbenhafhklfhmaaGreat
set_option linter.all false
set_option linter.unusedVariables false
set_option linter.unusedSimpArgs false
section
variable {p : Nat → Bool} {n k : Nat}
end
section
variable {f : Nat → Int} {n i s t : Nat}
theorem dep_pos (h : upH f i n < 0) : 0 < depH f n i := by
 have h1 := dep_end h
 cases h2 : depH f n i with
 | zero => rw [h2] at h1; simp only [upH] at h1; omega
 | succ => omega
end
end Go.Proofs.YtbenhafhklfhmaaGreat
namespace Go.Proofs.YtbenhafhklfhmaaGreat
set_option linter.all false
set_option linter.unusedVariables false
set_option linter.unusedSimpArgs false
open Go.RowKit
theorem mem_srt {L : List Int} {x : Int} : x ∈ srt L ↔ x ∈ L := (srt_perm L).mem_iff
end Go.Proofs.YtbenhafhklfhmaaGreat
namespace Go.Proofs.YtbenhafhklfhmaaGreat
set_option linter.all false
set_option linter.unusedVariables false
set_option linter.unusedSimpArgs false
open Go.RowKit
theorem cmpL_mem {t : Int} : ∀ L : List Int, t ∈ cmpL L ↔ t ∈ L
 | [] => by simp [cmpL]
 | a :: l => by
  have ih := cmpL_mem (t := t) l
  simp only [cmpL]
  split
  · next h =>
    rw [h] at ih
    simp only [List.not_mem_nil, false_iff] at ih
    simp [ih]
  · next b m h =>
    rw [h] at ih
    split
    · next e =>
      subst e
      rw [ih]
      simp only [List.mem_cons] at ih ⊢
      exact ⟨fun h => .inr h, fun h => h.elim (fun e => ih.1 (.inl e)) id⟩
    · rw [List.mem_cons, ih, List.mem_cons]
theorem cmpL_le : ∀ L : List Int, (cmpL L).length ≤ L.length
 | [] => by simp [cmpL]
 | [a] => by simp [cmpL]
 | a :: b :: m => by
  have ih := cmpL_le (b :: m)
  rw [cmpL_cons]
  split
  · simp only [List.length_cons] at ih ⊢; omega
  · simp only [List.length_cons] at ih ⊢; omega
section
variable {c : Cx} {F : Fr} {K K' : List Fact} {d : Option Tmp} {ty : TypeId} {pos : String} {af : Array Edge} {g : Option (Nat × Bool)}
end
end Go.Proofs.YtbenhafhklfhmaaGreat
namespace Go.Proofs.YtbenhafhklfhmaaGreat
set_option linter.all false
set_option linter.unusedVariables false
set_option linter.unusedSimpArgs false
section
variable {H : Hd} {L : Nat → Lk} {nc nl : Nat} {dm yg : Nat → Int} {f : Nat → Int} {n : Nat} {S S' : BSt}
end
theorem asc_uniq : ∀ {A B : List Int}, A.Pairwise (· < ·) → B.Pairwise (· < ·) → (∀ x, x ∈ A ↔ x ∈ B) → A = B
 | A, B, hA, hB, h => by
  refine List.Perm.eq_of_pairwise (le := (· ≤ ·)) (fun a b _ _ h1 h2 => Int.le_antisymm h1 h2) (hA.imp (by intro a b h; omega)) (hB.imp (by intro a b h; omega)) ?_
  have nA : A.Nodup := hA.imp (by intro a b h e; omega)
  have nB : B.Nodup := hB.imp (by intro a b h e; omega)
  exact (List.perm_ext_iff_of_nodup nA nB).2 h
theorem cmpL_asc : ∀ {A : List Int}, A.Pairwise (· ≤ ·) → (cmpL A).Pairwise (· < ·)
 | [], _ => List.Pairwise.nil
 | [a], _ => by simp [cmpL]
 | a :: b :: m, h => by
  have h1 := List.pairwise_cons.1 h
  have ih := cmpL_asc h1.2
  rw [cmpL_cons]
  split
  · exact ih
  · rename_i hab
    refine List.pairwise_cons.2 ⟨fun z hz => ?_, ih⟩
    have hz := (cmpL_mem (b :: m)).1 hz
    have h2 := h1.1 b (by simp)
    rcases List.mem_cons.1 hz with rfl | hz
    · omega
    · have h3 := (List.pairwise_cons.1 h1.2).1 z hz
      omega
theorem ascL_mem {A : List Int} {x : Int} : x ∈ ascL A ↔ x ∈ A := by unfold ascL; rw [cmpL_mem, mem_srt]
theorem ascL_asc {A : List Int} : (ascL A).Pairwise (· < ·) := cmpL_asc (srt_mono A)
theorem ascL_le {A : List Int} : (ascL A).length ≤ A.length := by
 have := cmpL_le (srt A)
 rw [srt_len] at this
 exact this
theorem idsL_mem {H : Hd} {A : List Nat} {x : Int} : x ∈ idsL H A ↔ ∃ i, i ∈ A ∧ H.id i = x := by unfold idsL; rw [ascL_mem, List.mem_map]
theorem idsL_asc {H : Hd} {A : List Nat} : (idsL H A).Pairwise (· < ·) := ascL_asc
theorem idsL_le {H : Hd} {A : List Nat} : (idsL H A).length ≤ A.length := by
 have := ascL_le (A := A.map H.id)
 rwa [List.length_map] at this
theorem nmL_mem {H : Hd} {nl : Nat} {L : Nat → Lk} {nc : Nat} {dm yg : Nat → Int} {k : Nat} {x : Int} (hk : HOk H) (hc : cvB nl nc dm yg = true) : x ∈ nmL H nl L nc dm yg k ↔ ∃ a, Vld H L nl nc dm yg a ∧ H.id (a.getD k 0) = x := by
 unfold nmL nmR
 rw [idsL_mem]
 constructor
 · rintro ⟨i, hi, e⟩
   obtain ⟨a, ha, rfl⟩ := List.mem_map.1 hi
   exact ⟨a, (srch_vld hk hc).1 ha, e⟩
 · rintro ⟨a, ha, e⟩
   exact ⟨_, List.mem_map.2 ⟨a, (srch_vld hk hc).2 ha, rfl⟩, e⟩
end Go.Proofs.YtbenhafhklfhmaaGreat
namespace Go.Proofs.YtbenhafhklfhmaaGreat
set_option linter.all false
set_option linter.unusedVariables false
set_option linter.unusedSimpArgs false
structure Tru (H : Hd) (d : Nat → Int) : Prop where
 own : ∀ i, i < H.n → H.lo i ≤ d i ∧ d i ≤ H.hi i
 mo : ∀ i, i < H.n → 0 ≤ moH H i → d (moH H i).toNat + 1400 ≤ d i ∧ d i ≤ d (moH H i).toNat + 10000
section
variable {H : Hd} {d : Nat → Int} {S S' : BSt} {L : Nat → Lk} {nl nc : Nat} {dm yg : Nat → Int}
theorem Tru.con (h : Tru H d) : Con (moH H) H.n (fun i => (d i, d i)) := fun i hi h0 => by
 have := h.mo i hi h0
 dsimp only
 omega
theorem Tru.inb (hk : HOk H) (h : Tru H d) (hS : ∀ i, i < H.n → (S i).1 ≤ d i ∧ d i ≤ (S i).2) : ∀ i, i < H.n → (bth (moH H) H.n S i).1 ≤ d i ∧ d i ≤ (bth (moH H) H.n S i).2 := fun i hi =>
 (bth_w (S := S) moH_Mo hk.ac).top _ h.con hS i hi
theorem Tru.ok (hk : HOk H) (h : Tru H d) (hS : ∀ i, i < H.n → (S i).1 ≤ d i ∧ d i ≤ (S i).2) : bthOk (moH H) H.n S = true := bthOk_iff.2 fun i hi => by
 have := h.inb hk hS i hi
 omega
theorem nrw_in : ∀ (t : List Nat) (S : BSt) (k : Nat), (∀ i, i < H.n → (S i).1 ≤ d i ∧ d i ≤ (S i).2) → (∀ j, j < t.length → (L (k + j)).day - (L (k + j)).ahi ≤ d (t.getD j 0) ∧ d (t.getD j 0) ≤ (L (k + j)).day - (L (k + j)).alo) → ∀ i, i < H.n → (nrw L S k t i).1 ≤ d i ∧ d i ≤ (nrw L S k t i).2
 | [], S, k, h, _ => h
 | q :: t, S, k, h, ha => nrw_in t (putS1 S q (agd (S q) (L k))) (k + 1) (fun i hi => by
  by_cases e : i = q
  · subst e
    rw [putS1_at]
    have h1 := h i hi
    have h2 := ha 0 (by simp)
    simp only [Nat.add_zero, List.getD_cons_zero] at h2
    unfold agd comm
    dsimp only
    omega
  · rw [putS1_ne e]; exact h i hi) fun j hj => by
  have := ha (j + 1) (by simp; omega)
  rw [show k + (j + 1) = k + 1 + j by omega] at this
  simpa using this
theorem Tru.vld (hk : HOk H) (h : Tru H d) {x : List Nat} (hx : x.length = nl) (hb : ∀ k, k < nl → x.getD k 0 < H.n) (hm : ∀ k, k < nl → maB H (L k) (x.getD k 0) = true) (hn : ∀ k j, k < j → j < nl → x.getD k 0 ≠ x.getD j 0) (hc : ∀ c, c < nc → moH H (x.getD (yg c).toNat 0) = (x.getD (dm c).toNat 0 : Int))
  (ha : ∀ k, k < nl → (L k).day - (L k).ahi ≤ d (x.getD k 0) ∧ d (x.getD k 0) ≤ (L k).day - (L k).alo) : Vld H L nl nc dm yg x :=
 ⟨hx, hb, hm, hn, hc, h.ok hk (nrw_in x (bornH H) 0 h.own fun j hj => by rw [Nat.zero_add]; exact ha j (by omega))⟩
theorem Tru.fit (hk : HOk H) (h : Tru H d) {l : Lk} {i : Nat} (hi : i < H.n) (hm : maB H l i = true) (ha : l.day - l.ahi ≤ d i ∧ d i ≤ l.day - l.alo) : fitB H l i = true := by
 have h1 := h.inb hk (S := bornH H) h.own i hi
 unfold fitB agd comm
 rw [hm, Bool.true_and, decide_eq_true_eq]
 dsimp only
 omega
theorem bth_mono (hk : HOk H) (h : SubS H.n S' S) : SubS H.n (bth (moH H) H.n S') (bth (moH H) H.n S) :=
 (bth_w (S := S) moH_Mo hk.ac).top _ (bth_w (S := S') moH_Mo hk.ac).con ((bth_w (S := S') moH_Mo hk.ac).sub.trans h)
theorem nrw_at : ∀ (t : List Nat) (S : BSt) (k j : Nat), (∀ q, q < t.length → t.getD q 0 < H.n) → j < t.length → (L (k + j)).day - (L (k + j)).ahi ≤ (nrw L S k t (t.getD j 0)).1 ∧ (nrw L S k t (t.getD j 0)).2 ≤ (L (k + j)).day - (L (k + j)).alo
 | [], _, _, _, _, hj => absurd hj (Nat.not_lt_zero _)
 | q :: t, S, k, 0, hb, _ => by
  have hs := nrw_sub (L := L) (n := H.n) t (putS1 S q (agd (S q) (L k))) (k + 1) q (by simpa using hb 0 (by simp))
  rw [putS1_at] at hs
  simp only [nrw, List.getD_cons_zero, Nat.add_zero]
  unfold agd comm at hs ⊢
  dsimp only at hs ⊢
  omega
 | q :: t, S, k, j + 1, hb, hj => by
  have := nrw_at t (putS1 S q (agd (S q) (L k))) (k + 1) j (fun p hp => by simpa using hb (p + 1) (by simp; omega)) (by simpa using hj)
  rw [show k + 1 + j = k + (j + 1) by omega] at this
  simpa [nrw] using this
theorem Vld.fit (hk : HOk H) {x : List Nat} (h : Vld H L nl nc dm yg x) {k : Nat} (hkn : k < nl) : fitB H (L k) (x.getD k 0) = true := by
 have hb := h.bd k hkn
 have hs := nrw_sub (L := L) (n := H.n) x (bornH H) 0
 have h1 := bth_mono hk hs _ hb
 have h2 := nrw_at (H := H) (L := L) x (bornH H) 0 k (fun q hq => h.bd q (by rw [h.len] at hq; exact hq)) (by rw [h.len]; exact hkn)
 have h3 := (bth_w (S := nrw L (bornH H) 0 x) moH_Mo hk.ac).sub _ hb
 have h4 := bthOk_iff.1 h.bt _ hb
 rw [Nat.zero_add] at h2
 unfold fitB agd comm
 rw [h.ma k hkn, Bool.true_and, decide_eq_true_eq]
 dsimp only
 omega
theorem fitL_mem (hc : fitC H (L 0) = 0) {v : Int} : v ∈ fitL H (L 0) ↔ ∃ i, i < H.n ∧ fitB H (L 0) i = true ∧ H.id i = v := by
 unfold fitL
 rw [if_pos hc, idsL_mem]
 constructor
 · rintro ⟨i, hi, e⟩
   exact ⟨i, (mem_fitP.1 hi).1, (mem_fitP.1 hi).2, e⟩
 · rintro ⟨i, h1, h2, e⟩
   exact ⟨i, mem_fitP.2 ⟨h1, h2⟩, e⟩
end
end Go.Proofs.YtbenhafhklfhmaaGreat
namespace Go.Proofs.YtbenhafhklfhmaaGreat
set_option linter.all false
set_option linter.unusedVariables false
set_option linter.unusedSimpArgs false
theorem chB_bd {n : Nat} {u : Nat → Int} (h : U32b n u) (i : Nat) : 0 ≤ chB n u i ∧ chB n u i ≤ 4294967295 := by
 unfold chB
 split
 · next hi => exact h i hi
 · omega
theorem inV_bd {lo hi x : Int} (h : lo ≤ hi) : lo ≤ inV lo hi x ∧ inV lo hi x ≤ hi := by
 unfold inV
 have h1 := Int.emod_nonneg x (show hi - lo + 1 ≠ 0 by omega)
 have h2 := Int.emod_lt_of_pos x (show 0 < hi - lo + 1 by omega)
 omega
structure DayI (H : Hd) (t i : Nat) (d : Nat → Int) (dn : Nat → Bool) : Prop where
 ok : ∀ j, j < H.n → dn j = true → (H.lo j ≤ d j ∧ d j ≤ H.hi j) ∧ (0 ≤ moH H j → dn (moH H j).toNat = true ∧ d (moH H j).toNat + 1400 ≤ d j ∧ d j ≤ d (moH H j).toNat + 10000)
 pr : ∀ j, j < H.n → depH (moH H) H.n j ≤ t → dn j = true
 pi : ∀ j, j < i → j < H.n → depH (moH H) H.n j ≤ t + 1 → dn j = true
section
variable {H : Hd} {t i : Nat} {d : Nat → Int} {dn : Nat → Bool}
theorem DayI.start (hk : HOk H) : DayI H 0 0 d (fun _ => false) :=
 ⟨fun _ _ h => absurd h Bool.false_ne_true, fun j hj h => absurd (dep_pos (hk.ac j hj)) (by omega), fun j h => absurd h (Nat.not_lt_zero j)⟩
theorem DayI.next (h : DayI H t H.n d dn) : DayI H (t + 1) 0 d dn := ⟨h.ok, fun j hj hd => h.pi j hj hj hd, fun j h => absurd h (Nat.not_lt_zero j)⟩
theorem DayI.skip (h : DayI H t i d dn) (hd : dn i = true) : DayI H t (i + 1) d dn := ⟨h.ok, h.pr, fun j hj hj2 hd2 => by
 by_cases e : j = i
 · subst e; exact hd
 · exact h.pi j (by omega) hj2 hd2⟩
theorem DayI.wait (hk : HOk H) (h : DayI H t i d dn) (hi : i < H.n) (h0 : 0 ≤ moH H i) (hm : dn (moH H i).toNat = false) : DayI H t (i + 1) d dn := ⟨h.ok, h.pr, fun j hj hj2 hd2 => by
 by_cases e : j = i
 · subst e
   have h1 := dep_mother hk.ac moH_Mo hi h0
   have h2 := moH_Mo (H := H) j hi
   have h3 := h.pr (moH H j).toNat (by omega) (by omega)
   rw [hm] at h3; cases h3
 · exact h.pi j (by omega) hj2 hd2⟩
def updI (d : Nat → Int) (i : Nat) (v : Int) : Nat → Int := fun j => if j = i then v else d j
def updB (d : Nat → Bool) (i : Nat) : Nat → Bool := fun j => if j = i then true else d j
theorem DayI.put (h : DayI H t i d dn) (hi : i < H.n) (hn : dn i = false) {v : Int} (h1 : H.lo i ≤ v ∧ v ≤ H.hi i) (h2 : 0 ≤ moH H i → dn (moH H i).toNat = true ∧ d (moH H i).toNat + 1400 ≤ v ∧ v ≤ d (moH H i).toNat + 10000) : DayI H t (i + 1) (updI d i v) (updB dn i) := by
  have hb : ∀ j, dn j = true → updB dn i j = true := fun j hj => by
    unfold updB
    split
    · rfl
    · exact hj
  have hne : ∀ j, dn j = true → updI d i v j = d j := fun j hj => by
    unfold updI
    split
    · next e => subst e; rw [hn] at hj; cases hj
    · rfl
  refine ⟨fun j hj hd => ?_, fun j hj hd => hb j (h.pr j hj hd), fun j hj hj2 hd => ?_⟩
  · by_cases e : j = i
    · subst e
      have e1 : updI d j v j = v := if_pos rfl
      rw [e1]
      refine ⟨h1, fun h0 => ?_⟩
      obtain ⟨a, b, c⟩ := h2 h0
      rw [hne _ a]
      exact ⟨hb _ a, b, c⟩
    · have hd : dn j = true := by unfold updB at hd; rwa [if_neg e] at hd
      obtain ⟨a, b⟩ := h.ok j hj hd
      rw [hne _ hd]
      refine ⟨a, fun h0 => ?_⟩
      obtain ⟨b1, b2⟩ := b h0
      rw [hne _ b1]
      exact ⟨hb _ b1, b2⟩
  · by_cases e : j = i
    · subst e; exact if_pos rfl
    · exact hb j (h.pi j (by omega) hj2 hd)
theorem DayI.tru (h : DayI H H.n 0 d dn) : Tru H d :=
 ⟨fun j hj => (h.ok j hj (h.pr j hj dep_le)).1, fun j hj h0 => ((h.ok j hj (h.pr j hj dep_le)).2 h0).2⟩
end
end Go.Proofs.YtbenhafhklfhmaaGreat
namespace Go.Proofs.YtbenhafhklfhmaaGreat
set_option linter.all false
set_option linter.unusedVariables false
set_option linter.unusedSimpArgs false
open Go.RowKit
theorem bitsW_or {a b : Nat} (ha : a ≤ 4294967295) (hb : b ≤ 4294967295) : bits .or .u32 (a : Int) (b : Int) = ((a ||| b : Nat) : Int) := by
 have h2 : bits .or .u32 (a : Int) (b : Int) = IntKind.u32.wrap ((BitVec.ofInt 32 (a : Int) ||| BitVec.ofInt 32 (b : Int)).toNat : Int) := rfl
 rw [h2, BitVec.toNat_or, ofI32 ha, ofI32 hb]
 have h3 : a ||| b < 2 ^ 32 := Nat.or_lt_two_pow (by omega) (by omega)
 exact IntWalk.u32_in _ (by omega)
section
variable {c : Cx} {F : Fr} {K : List Fact} {d : Option Tmp} {ty xt yt : TypeId} {pos : String} {af : Array Edge} {g : Option (Nat × Bool)} {x y : Operand}
theorem Pu.aW {a b : Nat} (hx : ev F x = some (.int .u32 (a : Int)) := by rfl) (hy : ev F y = some (.int .u32 (b : Int)) := by rfl) (ha : a ≤ 4294967295 := by omega) (hb : b ≤ 4294967295 := by omega) : Pu c F K ⟨d, .binOp .and xt x y yt, ty, pos, af, g⟩ (.int .u32 ((a &&& b : Nat) : Int)) := Pu.bin hx hy fun w => by
 have h := bitsW_and ha hb
 go_simp
theorem Pu.oW {a b : Nat} (hx : ev F x = some (.int .u32 (a : Int)) := by rfl) (hy : ev F y = some (.int .u32 (b : Int)) := by rfl) (ha : a ≤ 4294967295 := by omega) (hb : b ≤ 4294967295 := by omega) : Pu c F K ⟨d, .binOp .or xt x y yt, ty, pos, af, g⟩ (.int .u32 ((a ||| b : Nat) : Int)) := Pu.bin hx hy fun w => by
 have h := bitsW_or ha hb
 go_simp
theorem Pu.slW {j : Nat} (hx : ev F x = some (.int .u32 1) := by rfl) (hy : ev F y = some (.int .i64 (j : Int)) := by rfl) (hj : j ≤ 31 := by omega) : Pu c F K ⟨d, .binOp .shl xt x y yt, ty, pos, af, g⟩ (.int .u32 ((2 ^ j : Nat) : Int)) := Pu.bin hx hy fun w => by
 have h1 : (2 : Nat) ^ j ≤ 2147483648 := Nat.le_trans (Nat.pow_le_pow_right (by omega) hj) (by decide)
 have h2 : ((2 ^ j : Nat) : Int) = 2 ^ j := by simp
 have h9 : Min.min j 32 = j := Nat.min_eq_left (by omega)
 go_simp
 have h5 : ((2 ^ j : Nat) : Int) ≤ 2147483648 := Int.ofNat_le.2 h1
 have h4 : (0 : Int) ≤ ((2 ^ j : Nat) : Int) := Int.natCast_nonneg _
 rw [← h2]
 generalize ((2 ^ j : Nat) : Int) = X at *
 exact IntWalk.u32_in _ (by omega)
end
end Go.Proofs.YtbenhafhklfhmaaGreat
namespace Go.Proofs.YtbenhafhklfhmaaGreat
set_option linter.all false
set_option linter.unusedVariables false
set_option linter.unusedSimpArgs false
theorem Pu.iv {c : Cx} {F : Fr} {K : List Fact} {o : Oper} {a b : Int} {k : IntKind} (h : Pu c F K o (.int k a)) (e : a = b) : Pu c F K o (.int k b) := e ▸ h
end Go.Proofs.YtbenhafhklfhmaaGreat
namespace Go.Proofs.YtbenhafhklfhmaaGreat
set_option linter.all false
set_option linter.unusedVariables false
set_option linter.unusedSimpArgs false
open Go.RowKit
section
variable {w : World} {A : Option Addr} {cp : Nat} {H : Hd} {a : Nat → Option Addr} {c : Nat → Nat}
theorem rdy_in {H : Hd} (h : rdyH H = true) : HOk H ∧ H.n ≤ 1000 ∧ ∀ i, i < H.n → H.ml i ≤ 1000 := by
 unfold rdyH at h
 rw [Bool.and_eq_true, Bool.not_eq_true'] at h
 obtain ⟨h20, h12⟩ := great_in h.1
 exact ⟨herdB_ok.1 h.2, by omega, fun i hi => by have := h12 i hi; omega⟩
end
end Go.Proofs.YtbenhafhklfhmaaGreat
namespace Go.Proofs.YtbenhafhklfhmaaGreat
set_option linter.all false
set_option linter.unusedVariables false
set_option linter.unusedSimpArgs false
open Go.RowKit
section
variable {E : TypeId} {sz : Nat} {A A2 : Nat → Option Addr} {l l2 c c2 : Nat → Nat} {r r2 : Nat → Nat → List Value} {s : Nat}
variable {cx : Cx} {Q : Exit → Act → World → Prop} {F : Fr} {K K' : List Fact} {ops : Array Oper} {rest : List Oper}
theorem Pu.l1V {d : Option Tmp} {ty : TypeId} {pos : String} {af : Array Edge} {g : Option (Nat × Bool)} {x y : Operand} {T kt et : TypeId} {kk : IntKind} {b : Nat} {i : Int} {z : Value} (v : Value) {m : List (Int × Value)} (hT : MapT cx.P T kt et kk) (hz : ∀ w, (zeroValue et).run cx.P w = .ok z w) (hv : (mlook i m).getD z = v) (hx : ev F x = some (.map (some b)) := by rfl) (hy : ev F y = some (.int kk i) := by rfl)
    (hp : Pick K (.obj b (mapO kk m)) K' := by repeat (first | exact Pick.hd | apply Pick.tl)) : Pu cx F K ⟨d, .lookup T x y false, ty, pos, af, g⟩ v := by
  subst hv
  exact Pu.l1 hT hz hx hy hp
end
end Go.Proofs.YtbenhafhklfhmaaGreat
namespace Go.Proofs.YtbenhafhklfhmaaGreat
set_option linter.all false
set_option linter.unusedVariables false
set_option linter.unusedSimpArgs false
open Go.RowKit
abbrev DX (H : Hd) := { x : (Option Addr × Nat) × (Nat → Int) × Bool // x.2.2 = true → Tru H x.2.1 }
theorem updI_row {d : Nat → Int} {i : Nat} {v : Int} (j : Nat) : updR (fun j => [Value.int .i64 (d j)]) i [.int .i64 v] j = [.int .i64 (updI d i v j)] := by
 unfold updR updI
 by_cases e : j = i
 · rw [if_pos e, if_pos e]
 · rw [if_neg e, if_neg e]
theorem updB_row {d : Nat → Bool} {i : Nat} (j : Nat) : updR (fun j => [Value.bool (d j)]) i [.bool true] j = [.bool (updB d i j)] := by
 unfold updR updB
 by_cases e : j = i
 · rw [if_pos e, if_pos e]
 · rw [if_neg e, if_neg e]
section
variable {w : World} {A G : Option Addr} {cp gn gc : Nat} {H : Hd} {a : Nat → Option Addr} {c : Nat → Nat} {u : Nat → Int}
set_option maxRecDepth 100000 in
set_option maxHeartbeats 4000000 in
theorem days_any (hk : HOk H) (hI : HIn w A H a c) (hu : U32b gn u) (hGR : RdR w 1 G gn (fun k => [.int .u32 (u k)])) :
  CallsK Tryz.prog 14 #[.slice A H.n cp, .slice G gn gc] [] w (DX H) (fun y => .tuple #[.slice y.1.1.1 (if y.1.2.2 then H.n else 0) y.1.1.2, .bool y.1.2.2]) (fun y => [.own y.1.1.1 (if y.1.2.2 then H.n else 0) y.1.1.2 3 1 (fun j => [.int .i64 (y.1.2.1 j)])]) := by
 have hR := hI.hR
 have h16 := hk.n16
 unfold anL at hR
 refine K_enter (S := []) (K := []) Tryz.func14 rfl Tryz.ntmps14 rfl (Sat.start _) ?_
 refine TW.seq fun Y1 hY1 => TW.region ?_
 refine TL.p Pu.as ?_
 refine TL.p Pu.as ?_
 refine TL.nil (TQ.thenN (hY1 _ _ ?_))
 refine TW.seq fun Y2 hY2 => TW.region ?_
 refine TL.p Pu.mv ?_
 refine TL.p (Pu.ln Tryz.underlying22) ?_
 refine TL.ms ty_et28 ty_zr3 ?_
 intro b1
 refine TL.p Pu.as ?_
 refine TL.nil (TQ.thenN (hY2 _ _ ?_))
 refine TW.seq fun Y3 hY3 => TW.region ?_
 refine TL.p Pu.mv ?_
 refine TL.p (Pu.ln Tryz.underlying22) ?_
 refine TL.ms ty_et95 ty_zr4 ?_
 intro b2
 refine TL.p Pu.as ?_
 refine TL.nil (TQ.thenN (hY3 _ _ ?_))
 refine TW.seq fun Y4 hY4 => ?_
 refine TW.seq fun Y5 hY5 => TW.region ?_
 refine TL.p Pu.mv ?_
 refine TL.p (Pu.ln Tryz.underlying22) ?_
 refine TL.p Pu.mv ?_
 refine TL.nil (TQ.thenN (hY5 _ _ ?_))
 refine TW.block ?_
 refine TW.loop3 (fun (t : Nat) (d : Nat → Int) (dn : Nat → Bool) => [(20, .int .i64 (t : Int)), (19, .int .i64 (H.n : Int)), (6, .slice (some ⟨b1, 0, none⟩) H.n H.n), (7, .slice (some ⟨b2, 0, none⟩) H.n H.n), (0, .slice A H.n cp), (1, .slice G gn gc)]) (fun t d dn => [.own (some ⟨b1, 0, none⟩) H.n H.n 3 1 (fun j => [.int .i64 (d j)]), .own (some ⟨b2, 0, none⟩) H.n H.n 4 1 (fun j => [.bool (dn j)])]) (fun t d dn => t ≤ H.n ∧ DayI H t 0 d dn) (fun t d dn => H.n - t) 0 (fun _ => 0) (fun _ => false) fs9 ?_ ?_ ?_
 exact ks9
 exact ⟨Nat.zero_le _, DayI.start hk⟩
 rintro t d dn ⟨ht, hD⟩ Z0 hZ0
 refine TW.seq fun Y6 hY6 => TW.region ?_
 refine TL.p Pu.lt ?_
 refine TL.nil (TQ.thenN (hY6 _ _ ?_))
 refine TW.seq fun Y7 hY7 => ?_
 refine TW.cond rfl (fun hc0 => ?_) (fun hc0 => ?_)
 try simp only [zcb9] at hc0
 have htl : t < H.n := by omega
 refine TW.skip ?_
 refine TQ.thenN (hY7 _ _ ?_)
 refine TW.seq fun Y8 hY8 => ?_
 refine TW.block ?_
 refine TW.seq fun Y9 hY9 => TW.region ?_
 refine TL.p Pu.mv ?_
 refine TL.p (Pu.ln Tryz.underlying22) ?_
 refine TL.p Pu.mv ?_
 refine TL.nil (TQ.thenN (hY9 _ _ ?_))
 refine TW.block ?_
 refine TW.loop3 (fun (i : Nat) (d : Nat → Int) (dn : Nat → Bool) => [(24, .int .i64 (i : Int)), (23, .int .i64 (H.n : Int)), (22, .slice A H.n cp), (20, .int .i64 (t : Int)), (19, .int .i64 (H.n : Int)), (6, .slice (some ⟨b1, 0, none⟩) H.n H.n), (7, .slice (some ⟨b2, 0, none⟩) H.n H.n), (0, .slice A H.n cp), (1, .slice G gn gc)]) (fun i d dn => [.own (some ⟨b1, 0, none⟩) H.n H.n 3 1 (fun j => [.int .i64 (d j)]), .own (some ⟨b2, 0, none⟩) H.n H.n 4 1 (fun j => [.bool (dn j)])]) (fun i d dn => i ≤ H.n ∧ DayI H t i d dn) (fun i d dn => H.n - i) 0 d dn fs9 ?_ ?_ ?_
 exact ks9
 exact ⟨Nat.zero_le _, hD⟩
 rintro i d dn ⟨hi, hD⟩ Z1 hZ1
 refine TW.seq fun Y10 hY10 => TW.region ?_
 refine TL.p Pu.lt ?_
 refine TL.nil (TQ.thenN (hY10 _ _ ?_))
 refine TW.seq fun Y11 hY11 => ?_
 refine TW.cond rfl (fun hc1 => ?_) (fun hc1 => ?_)
 try simp only [zcb9] at hc1
 have hil : i < H.n := by omega
 have hbd := hk.bd i hil
 have hmo := moH_Mo (H := H) i hil
 have hcb := chB_bd hu i
 refine TW.skip ?_
 refine TQ.thenN (hY11 _ _ ?_)
 refine TW.seq fun Y12 hY12 => ?_
 refine TW.block ?_
 refine TW.seq fun Y13 hY13 => TW.region ?_
 refine TL.p Pu.mv ?_
 refine TL.p (Pu.el ty_et22) ?_
 refine TL.p (Pu.lds ty_ag46) ?_
 refine TL.m (Mk.al ty_zr46) ?_
 intro b3
 refine TL.p Pu.as ?_
 first | refine TL.st ty_sz46 ?_ | refine TL.se ty_sz46 ?_
 refine TL.nil (TQ.thenN (hY13 _ _ ?_))
 refine TW.seq fun Y14 hY14 => ?_
 refine TW.seq fun Y15 hY15 => TW.region ?_
 refine TL.p Pu.mv ?_
 refine TL.p Pu.mv ?_
 refine TL.p (Pu.el ty_et95) ?_
 refine TL.p (Pu.ld ty_sc4) ?_
 refine TL.nil (TQ.thenN (hY15 _ _ ?_))
 refine TW.cond rfl (fun hc2 => ?_) (fun hc2 => ?_)
 try simp only [zcb9] at hc2
 refine TW.exit ?_
 refine TQ.thenX ?_
 refine TQ.blkX ?_
 refine TQ.thenN (hY12 _ _ ?_)
 refine TW.region ?_
 refine TL.p Pu.ad ?_
 refine TL.p Pu.mv ?_
 refine TL.nil ?_
 refine TQ.thenN (hZ1 (i + 1) (by first | exact updI d i w9 | exact d) (by first | exact (fun (_ : w9 = w9) => updB dn i) rfl | exact dn) _ _ ?_ ?_ fs9 ?_)
 first
  | exact ⟨by omega, hD.skip (by simpa using hc2)⟩
  | exact ⟨by omega, hD.wait hk hil h0 hw1⟩
  | exact ⟨by omega, hD.put hil hdn (v := w9) (by rw [hw9.out]; have := inV_bd (x := chB gn u i) hle; omega) (fun _ => by rw [hqq, hw9.out]; have := inV_bd (x := chB gn u i) hle; exact ⟨hdq, by omega, by omega⟩)⟩
  | exact ⟨by omega, hD.put hil hdn (v := w9) (by rw [hw9.out]; exact inV_bd hle) (fun h9 => absurd h9 h0)⟩
 exact zom9
 first
  | (rw [hw9.out]; exact KSub.own pk9 (fun j _ => updI_row j) (KSub.own pk9 (fun j _ => updB_row j) KSub.nil))
  | exact ks9
 try simp only [zcb9] at hc2
 have hdn : dn i = false := by simpa using hc2
 refine TW.skip ?_
 refine TQ.thenN (hY14 _ _ ?_)
 refine TW.seq fun Y16 hY16 => TW.region ?_
 refine TL.p (by first | exact Pu.fb ty_fa46_2 | exact Pu.fe ty_fa46_2) ?_
 refine TL.p (Pu.lds ty_ag36) ?_
 refine TL.m (Mk.al ty_zr36) ?_
 intro b4
 first | refine TL.st ty_sz36 ?_ | refine TL.se ty_sz36 ?_
 refine TL.nil (TQ.thenN (hY16 _ _ ?_))
 refine TW.seq fun Y17 hY17 => ?_
 refine TW.seq fun Y18 hY18 => TW.region ?_
 refine TL.p Pu.mv ?_
 refine TL.p Pu.mv ?_
 refine TL.cr rfl (enters Tryz.func19 rfl rfl) (fun w hw => by
   exact place2_any (hI.sat hw) hk hil) ?_
 refine TL.p Pu.as ?_
 refine TL.nil (TQ.thenN (hY18 _ _ ?_))
 refine TW.seq fun Y19 hY19 => TW.region ?_
 refine TL.p Pu.mv ?_
 refine TL.p Pu.ge ?_
 refine TL.nil (TQ.thenN (hY19 _ _ ?_))
 refine TW.cond rfl (fun hc3 => ?_) (fun hc3 => ?_)
 try simp only [zcb9] at hc3
 have h0 : 0 ≤ moH H i := hc3
 obtain ⟨q, hq⟩ : ∃ q : Nat, moH H i = (q : Int) := ⟨(moH H i).toNat, by omega⟩
 have hql : q < H.n := by omega
 have hqq : (moH H i).toNat = q := by omega
 rw [hq]
 replace hq := hidT hq
 obtain ⟨v9, hv9⟩ : ∃ z : Int, z = inV (max (H.lo i) (d q + 1400)) (min (H.hi i) (d q + 10000)) (chB gn u i) := ⟨_, rfl⟩
 replace hv9 := hidT hv9
 refine TW.seq fun Y20 hY20 => ?_
 refine TW.seq fun Y21 hY21 => TW.region ?_
 refine TL.p Pu.mv ?_
 refine TL.p Pu.mv ?_
 refine TL.p (Pu.el ty_et95) ?_
 refine TL.p (Pu.ld ty_sc4) ?_
 refine TL.p Pu.no ?_
 refine TL.nil (TQ.thenN (hY21 _ _ ?_))
 refine TW.cond rfl (fun hc4 => ?_) (fun hc4 => ?_)
 try simp only [zcb9] at hc4
 have hw1 : dn (moH H i).toNat = false := by rw [hqq]; simpa using hc4
 refine TW.exit ?_
 refine TQ.thenX ?_
 refine TQ.thenX ?_
 refine TQ.blkX ?_
 refine TQ.thenN (hY12 _ _ ?_)
 refine TW.region ?_
 refine TL.p Pu.ad ?_
 refine TL.p Pu.mv ?_
 refine TL.nil ?_
 refine TQ.thenN (hZ1 (i + 1) (by first | exact updI d i w9 | exact d) (by first | exact (fun (_ : w9 = w9) => updB dn i) rfl | exact dn) _ _ ?_ ?_ fs9 ?_)
 first
  | exact ⟨by omega, hD.skip (by simpa using hc2)⟩
  | exact ⟨by omega, hD.wait hk hil h0 hw1⟩
  | exact ⟨by omega, hD.put hil hdn (v := w9) (by rw [hw9.out]; have := inV_bd (x := chB gn u i) hle; omega) (fun _ => by rw [hqq, hw9.out]; have := inV_bd (x := chB gn u i) hle; exact ⟨hdq, by omega, by omega⟩)⟩
  | exact ⟨by omega, hD.put hil hdn (v := w9) (by rw [hw9.out]; exact inV_bd hle) (fun h9 => absurd h9 h0)⟩
 exact zom9
 first
  | (rw [hw9.out]; exact KSub.own pk9 (fun j _ => updI_row j) (KSub.own pk9 (fun j _ => updB_row j) KSub.nil))
  | exact ks9
 try simp only [zcb9] at hc4
 have hdq : dn q = true := by simpa using hc4
 have hbq := (hD.ok q hql hdq).1
 have hbq2 := hk.bd q hql
 refine TW.skip ?_
 refine TQ.thenN (hY20 _ _ ?_)
 refine TW.dw 17 ?_
 refine RK.tk (by first | exact Pu.fb ty_fa36_0 | exact Pu.fe ty_fa36_0) ?_
 refine RK.tk (Pu.ld ty_sc3) ?_
 refine RK.tk Pu.mv ?_
 refine RK.tk Pu.mv ?_
 refine RK.tk (Pu.el ty_et28) ?_
 refine RK.tk (Pu.ld ty_sc3) ?_
 refine RK.tk Pu.ad ?_
 refine RK.tk Pu.mx ?_
 refine RK.tk (by first | exact Pu.fb ty_fa36_1 | exact Pu.fe ty_fa36_1) ?_
 refine RK.tk (Pu.ld ty_sc3) ?_
 refine RK.tk Pu.mv ?_
 refine RK.tk Pu.mv ?_
 refine RK.tk (Pu.el ty_et28) ?_
 refine RK.tk (Pu.ld ty_sc3) ?_
 refine RK.tk Pu.ad ?_
 refine RK.tk Pu.mn ?_
 refine RK.keep ?_
 refine RK.ch [false] ?_ trivial
 refine WK.cr rfl (enters Tryz.func18 rfl rfl) (fun w hw => by
   exact span2_any _ _ _) ?_
 refine WK.n ?_
 first | refine TL.st ty_sz36 ?_ | refine TL.se ty_sz36 ?_
 refine TL.nil (TQ.thenN (hY17 _ _ ?_))
 refine TW.seq fun Y22 hY22 => ?_
 refine TW.seq fun Y23 hY23 => TW.region ?_
 refine TL.p (by first | exact Pu.fb ty_fa36_0 | exact Pu.fe ty_fa36_0) ?_
 refine TL.p (Pu.ld ty_sc3) ?_
 refine TL.p (by first | exact Pu.fb ty_fa36_1 | exact Pu.fe ty_fa36_1) ?_
 refine TL.p (Pu.ld ty_sc3) ?_
 refine TL.p Pu.gt ?_
 refine TL.nil (TQ.thenN (hY23 _ _ ?_))
 refine TW.cond rfl (fun hc5 => ?_) (fun hc5 => ?_)
 try simp only [zcb9] at hc5
 refine TW.seq fun Y24 hY24 => TW.region ?_
 refine TL.p Pu.as ?_
 refine TL.p Pu.as ?_
 refine TL.nil (TQ.thenN (hY24 _ _ ?_))
 refine TW.ret ?_
 refine TQ.thenR ?_
 refine TQ.blkR ?_
 refine TQ.thenR ?_
 refine TQ.thenR ?_
 refine TQ.blkR ?_
 refine TQ.blkR ?_
 refine TQ.thenR ?_
 refine TQ.thenR ?_
 refine TQ.blkR ?_
 refine TQ.thenR ?_
 refine TQ.ret Tryz.results14 rfl ((.tmp rfl (.tmp rfl .nil))) ?_
 exact fun w hw => ⟨⟨((none, 0), fun _ => 0, false), fun h => absurd h (by decide)⟩, rfl, hw.sub (KSub.nilOwn KSub.nil)⟩
 try simp only [zcb9] at hc5
 have hle : _ ≤ _ := hc5
 obtain ⟨w9, hw9⟩ : ∃ z : Int, z = v9 := ⟨_, rfl⟩
 replace hw9 := hidT (hw9.trans hv9.out)
 refine TW.skip ?_
 refine TQ.thenN (hY22 _ _ ?_)
 refine TW.ex0 (Drop.own 6 rfl pk9 (Drop.own 7 rfl pk9 Drop.done)) ?_
 refine RG.tk 0 rfl Pu.mv ?_
 refine RG.tk 1 rfl Pu.mv ?_
 refine RG.tk 2 rfl Pu.mv ?_
 refine RG.tk 3 rfl Pu.mv ?_
 refine RG.tk 4 rfl (Pu.lds ty_ag36) ?_
 refine RG.tk 5 rfl Pu.mv ?_
 refine RG.tk 6 rfl Pu.mv ?_
 refine RG.a1 7 rfl (fun X7 hX7 => ?_)
 refine TL.cr rfl (enters Tryz.func17 rfl rfl) (fun w hw => by
   exact choose2_any i (hGR.sat hw Apart.nil)) ?_
 refine TL.nil ?_
 refine TQ.nxt (hX7 _ _ hl9 ?_)
 refine RG.a1 8 rfl (fun X8 hX8 => ?_)
 refine TL.cr rfl (enters Tryz.func25 rfl rfl) (fun w hw => by
   exact inside2_any (by omega) (by omega) (by omega) hcb _) ?_
 refine TL.nil ?_
 refine TQ.nxt (hX8 _ _ hl9 ?_)
 refine RG.a1 9 rfl (fun X9 hX9 => ?_)
 refine TL.p (Pu.el ty_et28) ?_
 refine TL.nil ?_
 refine TQ.nxt (hX9 _ _ hl9 ?_)
 refine RG.a1 10 rfl (fun X10 hX10 => ?_)
 first | refine TL.st ty_sz3 ?_ | refine TL.se ty_sz3 ?_
 refine TL.nil ?_
 refine TQ.nxt (hX10 _ _ hl9 ?_)
 refine RG.a1 11 rfl (fun X11 hX11 => ?_)
 refine TL.p (Pu.el ty_et95) ?_
 refine TL.nil ?_
 refine TQ.nxt (hX11 _ _ hl9 ?_)
 refine RG.a1 12 rfl (fun X12 hX12 => ?_)
 first | refine TL.st ty_sz4 ?_ | refine TL.se ty_sz4 ?_
 refine TL.nil ?_
 refine TQ.nxt (hX12 _ _ hl9 ?_)
 refine RG.nil ?_ (by kernel_rfl)
 refine TQ.blkN ?_
 refine TQ.thenN (hY12 _ _ ?_)
 refine TW.region ?_
 refine TL.p Pu.ad ?_
 refine TL.p Pu.mv ?_
 refine TL.nil ?_
 refine TQ.thenN (hZ1 (i + 1) (by first | exact updI d i w9 | exact d) (by first | exact (fun (_ : w9 = w9) => updB dn i) rfl | exact dn) _ _ ?_ ?_ fs9 ?_)
 first
  | exact ⟨by omega, hD.skip (by simpa using hc2)⟩
  | exact ⟨by omega, hD.wait hk hil h0 hw1⟩
  | exact ⟨by omega, hD.put hil hdn (v := w9) (by rw [hw9.out]; have := inV_bd (x := chB gn u i) hle; omega) (fun _ => by rw [hqq, hw9.out]; have := inV_bd (x := chB gn u i) hle; exact ⟨hdq, by omega, by omega⟩)⟩
  | exact ⟨by omega, hD.put hil hdn (v := w9) (by rw [hw9.out]; exact inV_bd hle) (fun h9 => absurd h9 h0)⟩
 exact zom9
 first
  | (rw [hw9.out]; exact KSub.own pk9 (fun j _ => updI_row j) (KSub.own pk9 (fun j _ => updB_row j) KSub.nil))
  | exact ks9
 try simp only [zcb9] at hc3
 have h0 : ¬ 0 ≤ moH H i := by omega
 obtain ⟨v9, hv9⟩ : ∃ z : Int, z = inV (H.lo i) (H.hi i) (chB gn u i) := ⟨_, rfl⟩
 replace hv9 := hidT hv9
 refine TW.skip ?_
 refine TQ.thenN (hY17 _ _ ?_)
 refine TW.seq fun Y25 hY25 => ?_
 refine TW.seq fun Y26 hY26 => TW.region ?_
 refine TL.p (by first | exact Pu.fb ty_fa36_0 | exact Pu.fe ty_fa36_0) ?_
 refine TL.p (Pu.ld ty_sc3) ?_
 refine TL.p (by first | exact Pu.fb ty_fa36_1 | exact Pu.fe ty_fa36_1) ?_
 refine TL.p (Pu.ld ty_sc3) ?_
 refine TL.p Pu.gt ?_
 refine TL.nil (TQ.thenN (hY26 _ _ ?_))
 refine TW.cond rfl (fun hc5 => ?_) (fun hc5 => ?_)
 try simp only [zcb9] at hc5
 refine TW.seq fun Y27 hY27 => TW.region ?_
 refine TL.p Pu.as ?_
 refine TL.p Pu.as ?_
 refine TL.nil (TQ.thenN (hY27 _ _ ?_))
 refine TW.ret ?_
 refine TQ.thenR ?_
 refine TQ.blkR ?_
 refine TQ.thenR ?_
 refine TQ.thenR ?_
 refine TQ.blkR ?_
 refine TQ.blkR ?_
 refine TQ.thenR ?_
 refine TQ.thenR ?_
 refine TQ.blkR ?_
 refine TQ.thenR ?_
 refine TQ.ret Tryz.results14 rfl ((.tmp rfl (.tmp rfl .nil))) ?_
 exact fun w hw => ⟨⟨((none, 0), fun _ => 0, false), fun h => absurd h (by decide)⟩, rfl, hw.sub (KSub.nilOwn KSub.nil)⟩
 try simp only [zcb9] at hc5
 have hle : _ ≤ _ := hc5
 obtain ⟨w9, hw9⟩ : ∃ z : Int, z = v9 := ⟨_, rfl⟩
 replace hw9 := hidT (hw9.trans hv9.out)
 refine TW.skip ?_
 refine TQ.thenN (hY25 _ _ ?_)
 refine TW.ex0 (Drop.own 6 rfl pk9 (Drop.own 7 rfl pk9 Drop.done)) ?_
 refine RG.tk 0 rfl Pu.mv ?_
 refine RG.tk 1 rfl Pu.mv ?_
 refine RG.tk 2 rfl Pu.mv ?_
 refine RG.tk 3 rfl Pu.mv ?_
 refine RG.tk 4 rfl (Pu.lds ty_ag36) ?_
 refine RG.tk 5 rfl Pu.mv ?_
 refine RG.tk 6 rfl Pu.mv ?_
 refine RG.a1 7 rfl (fun X7 hX7 => ?_)
 refine TL.cr rfl (enters Tryz.func17 rfl rfl) (fun w hw => by
   exact choose2_any i (hGR.sat hw Apart.nil)) ?_
 refine TL.nil ?_
 refine TQ.nxt (hX7 _ _ hl9 ?_)
 refine RG.a1 8 rfl (fun X8 hX8 => ?_)
 refine TL.cr rfl (enters Tryz.func25 rfl rfl) (fun w hw => by
   exact inside2_any (by omega) (by omega) (by omega) hcb _) ?_
 refine TL.nil ?_
 refine TQ.nxt (hX8 _ _ hl9 ?_)
 refine RG.a1 9 rfl (fun X9 hX9 => ?_)
 refine TL.p (Pu.el ty_et28) ?_
 refine TL.nil ?_
 refine TQ.nxt (hX9 _ _ hl9 ?_)
 refine RG.a1 10 rfl (fun X10 hX10 => ?_)
 first | refine TL.st ty_sz3 ?_ | refine TL.se ty_sz3 ?_
 refine TL.nil ?_
 refine TQ.nxt (hX10 _ _ hl9 ?_)
 refine RG.a1 11 rfl (fun X11 hX11 => ?_)
 refine TL.p (Pu.el ty_et95) ?_
 refine TL.nil ?_
 refine TQ.nxt (hX11 _ _ hl9 ?_)
 refine RG.a1 12 rfl (fun X12 hX12 => ?_)
 first | refine TL.st ty_sz4 ?_ | refine TL.se ty_sz4 ?_
 refine TL.nil ?_
 refine TQ.nxt (hX12 _ _ hl9 ?_)
 refine RG.nil ?_ (by kernel_rfl)
 refine TQ.blkN ?_
 refine TQ.thenN (hY12 _ _ ?_)
 refine TW.region ?_
 refine TL.p Pu.ad ?_
 refine TL.p Pu.mv ?_
 refine TL.nil ?_
 refine TQ.thenN (hZ1 (i + 1) (by first | exact updI d i w9 | exact d) (by first | exact (fun (_ : w9 = w9) => updB dn i) rfl | exact dn) _ _ ?_ ?_ fs9 ?_)
 first
  | exact ⟨by omega, hD.skip (by simpa using hc2)⟩
  | exact ⟨by omega, hD.wait hk hil h0 hw1⟩
  | exact ⟨by omega, hD.put hil hdn (v := w9) (by rw [hw9.out]; have := inV_bd (x := chB gn u i) hle; omega) (fun _ => by rw [hqq, hw9.out]; have := inV_bd (x := chB gn u i) hle; exact ⟨hdq, by omega, by omega⟩)⟩
  | exact ⟨by omega, hD.put hil hdn (v := w9) (by rw [hw9.out]; exact inV_bd hle) (fun h9 => absurd h9 h0)⟩
 exact zom9
 first
  | (rw [hw9.out]; exact KSub.own pk9 (fun j _ => updI_row j) (KSub.own pk9 (fun j _ => updB_row j) KSub.nil))
  | exact ks9
 try simp only [zcb9] at hc1
 obtain rfl : i = H.n := by omega
 refine TW.exit ?_
 refine TQ.thenX ?_
 refine TQ.thenX ?_
 refine TQ.blkX ?_
 refine TQ.blkN ?_
 refine TQ.thenN (hY8 _ _ ?_)
 refine TW.region ?_
 refine TL.p Pu.ad ?_
 refine TL.p Pu.mv ?_
 refine TL.nil ?_
 refine TQ.thenN (hZ0 (t + 1) d dn _ _ ?_ ?_ fs9 ?_)
 exact ⟨by omega, hD.next⟩
 exact zom9
 exact ks9
 try simp only [zcb9] at hc0
 obtain rfl : t = H.n := by omega
 refine TW.exit ?_
 refine TQ.thenX ?_
 refine TQ.thenX ?_
 refine TQ.blkX ?_
 refine TQ.thenN (hY4 _ _ ?_)
 refine TW.seq fun Y28 hY28 => TW.region ?_
 refine TL.p Pu.mv ?_
 refine TL.p Pu.as ?_
 refine TL.p Pu.as ?_
 refine TL.nil (TQ.thenN (hY28 _ _ ?_))
 refine TW.ret ?_
 refine TQ.ret Tryz.results14 rfl ((.tmp rfl (.tmp rfl .nil))) ?_
 exact fun w hw => ⟨⟨((some ⟨b1, 0, none⟩, H.n), d, true), fun _ => hD.tru⟩, rfl, hw.sub (KSub.cons pk9 KSub.nil)⟩
end
end Go.Proofs.YtbenhafhklfhmaaGreat
namespace Go.Proofs.YtbenhafhklfhmaaGreat
set_option linter.all false
set_option linter.unusedVariables false
set_option linter.unusedSimpArgs false
section
variable {H : Hd} {l l' : Lk} {L L' : Nat → Lk} {nl nc : Nat} {dm yg : Nat → Int} {v : Int}
theorem liv9 (hk : HOk H) : livC9 H = if bthOk (moH H) H.n (bornH H) then 0 else 21 := by
 unfold livC9
 rw [herdB_ok.2 hk, if_pos rfl]
theorem nm_zero (hk : HOk H) : nmC H nl L nc dm yg = 0 ↔ livC9 H = 0 ∧ lksC nl L nc dm yg = 0 ∧ ∃ x, Vld H L nl nc dm yg x := by
 unfold nmC
 by_cases h1 : livC9 H = 0
 · rw [if_neg (fun h => h h1)]
   by_cases h2 : lksC nl L nc dm yg = 0
   · rw [if_neg (fun h => h h2)]
     have hc := (lks_zero.1 h2).2.2
     by_cases h3 : (nmR H nl L nc dm yg).length = 0
     · rw [if_pos h3]
       refine ⟨fun h => (by cases h), fun ⟨_, _, x, hx⟩ => ?_⟩
       have := (srch_vld hk hc).2 hx
       rw [show srch H L nc dm yg nl (bornH H) [] = [] from List.length_eq_zero_iff.1 h3] at this
       cases this
     · rw [if_neg h3]
       refine ⟨fun _ => ⟨h1, h2, ?_⟩, fun _ => rfl⟩
       obtain ⟨x, hx⟩ := List.exists_mem_of_length_pos (l := nmR H nl L nc dm yg) (by omega)
       exact ⟨x, (srch_vld hk hc).1 hx⟩
   · rw [if_pos h2]
     exact ⟨fun h => absurd h h2, fun h => absurd h.2.1 h2⟩
 · rw [if_pos h1]
   exact ⟨fun h => absurd h h1, fun h => absurd h.1 h1⟩
theorem fit_zero (hl : livC9 H = 0) (h : lkB l = true) : fitC H l = 0 := by
 unfold fitC
 rw [if_neg (fun h9 => h9 hl), if_pos h]
theorem fit_mem (hc : fitC H l = 0) : v ∈ fitL H l ↔ ∃ i, i < H.n ∧ fitB H l i = true ∧ H.id i = v := fitL_mem (L := fun _ => l) hc
end
end Go.Proofs.YtbenhafhklfhmaaGreat
namespace Go.Proofs.YtbenhafhklfhmaaGreat
set_option linter.all false
set_option linter.unusedVariables false
set_option linter.unusedSimpArgs false
section
variable {H : Hd} {L : Nat → Lk} {nl nc : Nat} {dm yg : Nat → Int} {v : Int}
theorem nm_in (hk : HOk H) (hc : cvB nl nc dm yg = true) {k : Nat} (hkn : k < nl) (h : v ∈ nmL H nl L nc dm yg k) : ∃ i, i < H.n ∧ H.id i = v ∧ atH H v = (i : Int) := by
 obtain ⟨a, ha, e⟩ := (nmL_mem hk hc).1 h
 have hb := ha.bd k hkn
 exact ⟨_, hb, e, by rw [← e]; exact hk.at_ _ hb⟩
theorem asc_sub {l M : List Int} (hl : l.Pairwise (· < ·)) (h : ∀ v ∈ l, v ∈ M) : l.length ≤ M.length := by
 have e : l = (ascL M).filter fun v => decide (v ∈ l) := asc_uniq hl (ascL_asc.filter _) fun v => by
  rw [List.mem_filter, ascL_mem, decide_eq_true_eq]
  exact ⟨fun hv => ⟨h v hv, hv⟩, fun hv => hv.2⟩
 rw [e]
 exact Nat.le_trans (List.length_filter_le _ _) ascL_le
theorem nm_le (hk : HOk H) (hc : cvB nl nc dm yg = true) {k : Nat} (hkn : k < nl) : (nmL H nl L nc dm yg k).length ≤ H.n := by
 have h := asc_sub (l := nmL H nl L nc dm yg k) (M := (List.range H.n).map H.id) idsL_asc fun v hv => by
  obtain ⟨i, h1, h2, _⟩ := nm_in hk hc hkn hv
  exact List.mem_map.2 ⟨i, List.mem_range.2 h1, h2⟩
 rwa [List.length_map, List.length_range] at h
end
end Go.Proofs.YtbenhafhklfhmaaGreat
namespace Go.Proofs.YtbenhafhklfhmaaGreat
set_option linter.all false
set_option linter.unusedVariables false
set_option linter.unusedSimpArgs false
open Go.RowKit
theorem sgK_first {H : Hd} {i s : Nat} : ∀ k, (∀ j, j < k → markB H i j = true) → sgK H i k s = if fst1 (fun q => decide (H.sp i q = (s : Int))) k < k then H.sg i (fst1 (fun q => decide (H.sp i q = (s : Int))) k) else 0
  | 0, _ => rfl
  | k + 1, h => by
    have ih := sgK_first (H := H) (i := i) (s := s) k fun j hj => h j (by omega)
    have hk := h k (by omega)
    unfold markB at hk
    simp only [Bool.and_eq_true, allB_iff, Bool.not_eq_true', decide_eq_false_iff_not, inB5, decide_eq_true_eq] at hk
    obtain ⟨⟨h7, h20⟩, hd⟩ := hk
    simp only [sgK, fst1]
    by_cases e : s = (H.sp i k).toNat
    · have e2 : H.sp i k = (s : Int) := by omega
      rw [if_pos e]
      have hl : ¬ fst1 (fun q => decide (H.sp i q = (s : Int))) k < k := fun hl => by
        have := fst1_yes hl
        simp only [decide_eq_true_eq] at this
        exact hd _ hl (by omega)
      rw [if_neg hl, if_pos (decide_eq_true e2), if_pos (by omega)]
    · have e2 : ¬ H.sp i k = (s : Int) := by omega
      rw [if_neg e, ih]
      by_cases hl : fst1 (fun q => decide (H.sp i q = (s : Int))) k < k
      · rw [if_pos hl, if_pos hl, if_pos (by omega)]
      · rw [if_neg hl, if_neg hl, if_neg (show ¬ decide (H.sp i k = (s : Int)) = true by simpa using e2), if_neg (by omega)]
theorem sgn_eq {H : Hd} (hk : HOk H) {i s : Nat} (hi : i < H.n) : sgnK H i s = sgH H i s := (sgK_first _ fun j hj => allB_iff.1 (hk.mks i hi) j hj).symm
end Go.Proofs.YtbenhafhklfhmaaGreat
namespace Go.Proofs.YtbenhafhklfhmaaGreat
set_option linter.all false
set_option linter.unusedVariables false
set_option linter.unusedSimpArgs false
open Go.RowKit
structure TS where
 at_ : List Nat
 L : Nat → Lk
 R : List (Int × Int)
 la : Nat → Option Addr
 lc : Nat → Nat
 Aa : Option Addr
 ca : Nat
 Al : Option Addr
 cl : Nat
 Ac : Option Addr
 cc : Nat
def prD (R : List (Int × Int)) (c : Nat) : Int := (R.getD c (0, 0)).1
def prY (R : List (Int × Int)) (c : Nat) : Int := (R.getD c (0, 0)).2
structure TrI (H : Hd) (d : Nat → Int) (on : Int) (at_ : List Nat) (L : Nat → Lk) (R : List (Int × Int)) : Prop where
 len : at_.length ≤ 4
 bd : ∀ k, k < at_.length → at_.getD k 0 < H.n
 nd : ∀ k j, k < j → j < at_.length → at_.getD k 0 ≠ at_.getD j 0
 lk : ∀ k, k < at_.length → lkB (L k) = true
 ma : ∀ k, k < at_.length → maB H (L k) (at_.getD k 0) = true
 ag : ∀ k, k < at_.length → (L k).day - (L k).ahi ≤ d (at_.getD k 0) ∧ d (at_.getD k 0) ≤ (L k).day - (L k).alo
 rl : R.length ≤ at_.length
 rc : ∀ c, c < R.length → (0 ≤ prD R c ∧ prD R c < at_.length) ∧ (0 ≤ prY R c ∧ prY R c < at_.length) ∧ prD R c ≠ prY R c ∧ moH H (at_.getD (prY R c).toNat 0) = (at_.getD (prD R c).toNat 0 : Int)
section
variable {H : Hd} {d : Nat → Int} {on : Int} {at_ : List Nat} {L : Nat → Lk} {R : List (Int × Int)} {i : Nat} {l : Lk}
theorem TrI.start : TrI H d on [] L [] := ⟨by simp, fun k h => absurd h (Nat.not_lt_zero k), fun k j _ h => absurd h (Nat.not_lt_zero j), fun k h => absurd h (Nat.not_lt_zero k), fun k h => absurd h (Nat.not_lt_zero k), fun k h => absurd h (Nat.not_lt_zero k), Nat.le_refl _, fun k h => absurd h (Nat.not_lt_zero k)⟩
theorem at_l {k : Nat} (h : k < at_.length) : (at_ ++ [i]).getD k 0 = at_.getD k 0 := getD_appl h
theorem at_r : (at_ ++ [i]).getD at_.length 0 = i := getD_apps (b := [])
theorem TrI.look (h : TrI H d on at_ L R) (h4 : at_.length < 4) (hi : i < H.n) (hn : ∀ k, k < at_.length → at_.getD k 0 ≠ i) (hl : lkB l = true) (hm : maB H l i = true) (ha : l.day - l.ahi ≤ d i ∧ d i ≤ l.day - l.alo) : TrI H d on (at_ ++ [i]) (updA L at_.length l) R := by
 have el : (at_ ++ [i]).length = at_.length + 1 := by simp
 have eL : ∀ k, k < at_.length → updA L at_.length l k = L k := fun k hk => if_neg (by omega)
 have eL2 : updA L at_.length l at_.length = l := if_pos rfl
 refine ⟨by omega, fun k hk => ?_, fun k j h1 h2 => ?_, fun k hk => ?_, fun k hk => ?_, fun k hk => ?_, by have := h.rl; omega, fun c hc => ?_⟩
 · by_cases e : k = at_.length
   · subst e; rw [at_r]; exact hi
   · rw [at_l (by omega)]; exact h.bd k (by omega)
 · by_cases e : j = at_.length
   · subst e; rw [at_r, at_l h1]; exact hn k h1
   · rw [at_l (by omega), at_l (by omega)]; exact h.nd k j h1 (by omega)
 · by_cases e : k = at_.length
   · subst e; rw [eL2]; exact hl
   · rw [eL k (by omega)]; exact h.lk k (by omega)
 · by_cases e : k = at_.length
   · subst e; rw [eL2, at_r]; exact hm
   · rw [eL k (by omega), at_l (by omega)]; exact h.ma k (by omega)
 · by_cases e : k = at_.length
   · subst e; rw [eL2, at_r]; exact ha
   · rw [eL k (by omega), at_l (by omega)]; exact h.ag k (by omega)
 · obtain ⟨h1, h2, h3, h4⟩ := h.rc c hc
   rw [at_l (by omega), at_l (by omega)]
   exact ⟨by omega, by omega, h3, h4⟩
theorem pr_l {p : Int × Int} {c : Nat} (h : c < R.length) : (R ++ [p]).getD c (0, 0) = R.getD c (0, 0) := by
 rw [List.getD_eq_getElem?_getD, List.getD_eq_getElem?_getD, List.getElem?_append_left h]
theorem pr_r {p : Int × Int} : (R ++ [p]).getD R.length (0, 0) = p := by
 rw [List.getD_eq_getElem?_getD, List.getElem?_append_right (Nat.le_refl _), Nat.sub_self]
 rfl
theorem TrI.calf (h : TrI H d on at_ L R) (hr : R.length < at_.length) {a b : Nat} (ha : a < at_.length) (hb : b < at_.length) (hab : a ≠ b) (hm : moH H (at_.getD b 0) = (at_.getD a 0 : Int)) : TrI H d on at_ L (R ++ [((a : Int), (b : Int))]) := by
  refine ⟨h.len, h.bd, h.nd, h.lk, h.ma, h.ag, by rw [List.length_append, List.length_singleton]; omega, fun c hc => ?_⟩
  rw [List.length_append, List.length_singleton] at hc
  unfold prD prY
  by_cases e : c = R.length
  · subst e
    rw [pr_r]
    dsimp only
    rw [Int.toNat_natCast, Int.toNat_natCast]
    exact ⟨by omega, by omega, by omega, hm⟩
  · rw [pr_l (by omega)]
    exact h.rc c (by omega)
structure TruS (H : Hd) (at_ : List Nat) (L : Nat → Lk) (M : Nat → List Int) : Prop where
 fit : ∀ k, k < at_.length → fitC H (L k) = 0
 inM : ∀ k, k < at_.length → H.id (at_.getD k 0) ∈ M k
 inF : ∀ k, k < at_.length → H.id (at_.getD k 0) ∈ fitL H (L k)
 sub : ∀ k, k < at_.length → ∀ v, v ∈ M k → v ∈ fitL H (L k)
 asc : ∀ k, (M k).Pairwise (· < ·)
 lM : ∀ k, k < at_.length → (M k).length ≤ 1000000
theorem TrI.fin (hk : HOk H) (ht : Tru H d) (h : TrI H d on at_ L R) : (nmC H at_.length L R.length (prD R) (prY R) = 0 ∧ nmN H at_.length L R.length (prD R) (prY R) = at_.length) ∧ TruS H at_ L (nmL H at_.length L R.length (prD R) (prY R)) := by
 have hcv : cvB at_.length R.length (prD R) (prY R) = true := by
   unfold cvB
   rw [allB_iff]
   intro c hc
   obtain ⟨h1, h2, h3, _⟩ := h.rc c hc
   simp only [inB5, Bool.and_eq_true, Bool.not_eq_true', decide_eq_true_eq, decide_eq_false_iff_not]
   omega
 have hlks : lksC at_.length L R.length (prD R) (prY R) = 0 := lks_zero.2 ⟨by have := h.len; have := h.rl; omega, h.lk, hcv⟩
 have hv : Vld H L at_.length R.length (prD R) (prY R) at_ := ht.vld hk rfl h.bd h.ma h.nd (fun c hc => (h.rc c hc).2.2.2) h.ag
 have hl9 : livC9 H = 0 := by rw [liv9 hk, if_pos (ht.ok hk ht.own)]
 have hn : nmC H at_.length L R.length (prD R) (prY R) = 0 := (nm_zero hk).2 ⟨hl9, hlks, _, hv⟩
 have h16 := hk.n16
 have hf : ∀ k, k < at_.length → fitC H (L k) = 0 := fun k hk9 => fit_zero hl9 (h.lk k hk9)
 refine ⟨⟨hn, if_pos hn⟩, hf, fun k hk9 => (nmL_mem hk hcv).2 ⟨_, hv, rfl⟩, fun k hk9 => ?_, fun k hk9 v hv9 => ?_, fun k => idsL_asc, fun k hk9 => by have := nm_le (L := L) hk hcv hk9; omega⟩
 · exact (fit_mem (hf k hk9)).2 ⟨_, h.bd k hk9, ht.fit hk (h.bd k hk9) (h.ma k hk9) (h.ag k hk9), rfl⟩
 · obtain ⟨x, hx, e⟩ := (nmL_mem hk hcv).1 hv9
   exact (fit_mem (hf k hk9)).2 ⟨_, hx.bd k hk9, hx.fit hk hk9, e⟩
def usM (X : List Nat) : Nat → List (Int × Value)
 | 0 => []
 | k + 1 => usM X k ++ [((X.getD k 0 : Int), .int .i64 (k : Int))]
theorem us_none {X : List Nat} {x : Int} : ∀ k, (∀ q, q < k → (X.getD q 0 : Int) ≠ x) → mlook x (usM X k) = none
 | 0, _ => rfl
 | k + 1, h => by
  simp only [usM]
  rw [mlook_app, us_none k fun q hq => h q (by omega), if_neg (fun e => h k (by omega) e.symm)]
  rfl
theorem us_get {X : List Nat} {x : Int} : ∀ k, (mlook x (usM X k)).isSome = true → ∃ q, q < k ∧ (X.getD q 0 : Int) = x ∧ mlook x (usM X k) = some (.int .i64 (q : Int))
 | 0, h => by cases h
 | k + 1, h => by
  simp only [usM] at h ⊢
  rw [mlook_app] at h ⊢
  cases h1 : mlook x (usM X k) with
  | some v =>
   obtain ⟨q, h2, h3, h4⟩ := us_get k (by rw [h1]; rfl)
   rw [h1] at h4
   exact ⟨q, by omega, h3, by rw [h4]; rfl⟩
  | none =>
   rw [h1] at h
   by_cases e : x = (X.getD k 0 : Int)
   · exact ⟨k, by omega, e.symm, by rw [if_pos e]; rfl⟩
   · rw [if_neg e] at h; cases h
theorem us_no {X : List Nat} {x : Int} {k : Nat} (h : (mlook x (usM X k)).isSome = false) : ∀ q, q < k → (X.getD q 0 : Int) ≠ x := by
 induction k with
 | zero => exact fun q hq => absurd hq (Nat.not_lt_zero q)
 | succ k ih =>
  simp only [usM] at h
  rw [mlook_app] at h
  intro q hq e
  cases h1 : mlook x (usM X k) with
  | some v => rw [h1] at h; cases h
  | none =>
   rw [h1] at h
   by_cases e2 : q = k
   · subst e2; rw [if_pos e.symm] at h; cases h
   · exact ih (by rw [h1]; rfl) q (by omega) e
theorem us_congr {X Y : List Nat} : ∀ k, (∀ q, q < k → X.getD q 0 = Y.getD q 0) → usM X k = usM Y k
 | 0, _ => rfl
 | k + 1, h => by simp only [usM]; rw [us_congr k fun q hq => h q (by omega), h k (by omega)]
theorem us_put (h : (mlook (i : Int) (usM at_ at_.length)).isSome = false) : mput (i : Int) (.int .i64 (at_.length : Int)) (usM at_ at_.length) = usM (at_ ++ [i]) (at_.length + 1) := by
 have h1 : mlook (i : Int) (usM at_ at_.length) = none := us_none _ (us_no h)
 rw [mput_new h1]
 simp only [usM]
 rw [at_r, us_congr (X := at_ ++ [i]) (Y := at_) at_.length fun q hq => at_l hq]
theorem us_last (hn : ∀ q, q < at_.length → at_.getD q 0 ≠ i) : mlook (i : Int) (usM (at_ ++ [i]) (at_.length + 1)) = some (.int .i64 (at_.length : Int)) := by
 simp only [usM]
 rw [mlook_app, at_r, us_none, if_pos rfl]
 · rfl
 · intro q hq e
   rw [at_l hq] at e
   exact hn q hq (by omega)
def sgN (s c : Nat) : Nat := (2 ^ s ||| c) &&& 2097151
theorem sgN_bd {s c : Nat} : sgN s c < 2097152 := Nat.lt_of_le_of_lt Nat.and_le_right (by decide)
theorem sgN_bit {s c : Nat} (h : s ≤ 20) : sgN s c / 2 ^ s % 2 = 1 := by
 have h1 : (sgN s c).testBit s = true := by
  unfold sgN
  rw [Nat.testBit_and, Nat.testBit_or, Nat.testBit_two_pow_self, Bool.true_or, Bool.true_and]
  have : ∀ s, s ≤ 20 → Nat.testBit 2097151 s = true := by decide
  exact this s h
 rw [Nat.testBit_eq_decide_div_mod_eq] at h1
 exact of_decide_eq_true h1
end
end Go.Proofs.YtbenhafhklfhmaaGreat
namespace Go.Proofs.YtbenhafhklfhmaaGreat
set_option linter.all false
set_option linter.unusedVariables false
set_option linter.unusedSimpArgs false
open Go.RowKit
section
variable {w : World} {A : Option Addr} {cp : Nat} {H : Hd} {a : Nat → Option Addr} {c : Nat → Nat} {i : Nat}
theorem lw_births {B : BSt} {e : Int} {nb : Nat} (h1 : livC H = e) (h2 : livB H = B) (h3 : (if livC H = 0 then H.n else 0) = nb) (h : HIn w A H a c) : CallsK Tryz.prog 15 #[.slice A H.n cp] [] w (Option Addr × Nat) (fun x => .tuple #[.slice x.1 nb x.2, .int .i64 e]) (fun x => [.own x.1 nb x.2 36 2 (fun j => spL (B j).1 (B j).2)]) := by
 have h9 := bBirths_any (cp := cp) h
 rw [h3, h1, h2] at h9
 exact h9
end
end Go.Proofs.YtbenhafhklfhmaaGreat
namespace Go.Proofs.YtbenhafhklfhmaaGreat
set_option linter.all false
set_option linter.unusedVariables false
set_option linter.unusedSimpArgs false
section
variable {H : Hd} {at_ i s k : Nat} {v : Int} {L : List Int}
theorem asc_at : ∀ {L : List Int} {k : Nat}, L.Pairwise (· < ·) → 0 < k → k < L.length → L.getD (k - 1) 0 < L.getD k 0
 | [], _, _, _, hk => absurd hk (Nat.not_lt_zero _)
 | [_], k, _, h0, hk => by simp at hk; omega
 | x :: y :: L, k + 1, h, _, hk => by
  obtain ⟨h1, h2⟩ := List.pairwise_cons.1 h
  cases k with
  | zero => simpa using h1 y (by simp)
  | succ k =>
   have := asc_at h2 (k := k + 1) (by omega) (by simpa using hk)
   simpa using this
end
end Go.Proofs.YtbenhafhklfhmaaGreat
namespace Go.Proofs.YtbenhafhklfhmaaGreat
set_option linter.all false
set_option linter.unusedVariables false
set_option linter.unusedSimpArgs false
open Go.RowKit
section
variable {w : World} {A : Option Addr} {cp : Nat} {H : Hd} {a : Nat → Option Addr} {c : Nat → Nat} {i : Nat}
theorem lw_sign {k : Nat} {v : Int} (hk : HOk H) (hkn : k < H.n) (h : HIn w A H a c) (hv : 0 ≤ v) : Calls Tryz.prog 16 #[.agg (anL H a c k).toArray, .int .i64 v] w (Ret w (.int .i64 (sgH H k v.toNat))) := by
 have h9 := rSign_any (a := a) (c := c) (s := v.toNat) (h.hl k hkn) (h.hM k hkn)
 rw [sgn_eq hk hkn, Int.toNat_of_nonneg hv] at h9
 exact h9
end
end Go.Proofs.YtbenhafhklfhmaaGreat
namespace Go.Proofs.YtbenhafhklfhmaaGreat
set_option linter.all false
set_option linter.unusedVariables false
set_option linter.unusedSimpArgs false
open Go.RowKit
section
variable {w : World} {A : Option Addr} {cp : Nat} {H : Hd} {a : Nat → Option Addr} {c : Nat → Nat}
end
theorem getD_memI {X : List Int} {k : Nat} (h : k < X.length) : X.getD k 0 ∈ X := mem_int_getD.2 ⟨k, h, rfl⟩
end Go.Proofs.YtbenhafhklfhmaaGreat
namespace Go.Proofs.YtbenhafhklfhmaaGreat
set_option linter.all false
set_option linter.unusedVariables false
set_option linter.unusedSimpArgs false
open Go.RowKit
theorem fit_len {H : Hd} {l : Lk} (hk : HOk H) : (fitL H l).length ≤ 1000000 := by
 have h16 := hk.n16
 unfold fitL
 split
 · have := Nat.le_trans (idsL_le (H := H) (A := fitP H l H.n)) fitP_len
   omega
 · exact Nat.zero_le _
def prL (P : List (Int × Int)) (k : Nat) : List Value := [.int .i64 (P.getD k (0, 0)).1, .int .i64 (P.getD k (0, 0)).2]
theorem prL_app {L L' : List (Int × Int)} {m : Nat} {x y : Int} {s : Nat → List Value} (hm : m = L.length) (hL : L' = L ++ [(x, y)]) (hs : s 0 = [.int .i64 x, .int .i64 y]) : ∀ i, i < m + 1 → catR m (prL L) s i = prL L' i := fun i hi => by
 subst hL
 unfold catR prL
 split
 · rename_i h
   rw [List.getD_eq_getElem?_getD, List.getD_eq_getElem?_getD, List.getElem?_append_left (by omega)]
 · rename_i h
   obtain rfl : i = m := by omega
   rw [Nat.sub_self, hs, List.getD_eq_getElem?_getD, List.getElem?_append_right (by omega), hm, Nat.sub_self]
   rfl
section
variable {w : World} {A B C G : Option Addr} {cp cb cc gc nl nc gn : Nat} {H : Hd} {a : Nat → Option Addr} {c : Nat → Nat} {L : Nat → Lk} {la : Nat → Option Addr} {lc : Nat → Nat} {dm yg u : Nat → Int} {x y : Int}
end
end Go.Proofs.YtbenhafhklfhmaaGreat
namespace Go.Proofs.YtbenhafhklfhmaaGreat
set_option linter.all false
set_option linter.unusedVariables false
set_option linter.unusedSimpArgs false
open Go.RowKit
theorem Pu.rmW {c : Cx} {F : Fr} {K : List Fact} {d : Option Tmp} {ty xt yt : TypeId} {pos : String} {af : Array Edge} {g : Option (Nat × Bool)} {x y : Operand} {i j : Int} (hx : ev F x = some (.int .u32 i) := by rfl) (hy : ev F y = some (.int .u32 j) := by rfl) (h0 : 0 ≤ i ∧ 0 < j := by omega) : Pu c F K ⟨d, .binOp .rem xt x y yt, ty, pos, af, g⟩ (.int .u32 (i % j)) := Pu.bin hx hy fun w => by
 obtain ⟨h0, h2⟩ := h0
 have hj : j ≠ 0 := by omega
 have e : i.tmod j = i % j := Int.tmod_eq_emod_of_nonneg h0
 simp only [eqGuard, binOp, Op.intDiv, hj, if_false, e]
 rfl
section
variable {w : World} {G : Option Addr} {gn gc : Nat} {u : Nat → Int} {st : Int}
end
end Go.Proofs.YtbenhafhklfhmaaGreat
