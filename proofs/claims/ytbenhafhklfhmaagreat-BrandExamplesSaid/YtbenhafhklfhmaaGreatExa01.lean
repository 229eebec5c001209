/-
  The statement BrandExamplesSaid: for every input the law BrandExamples returns true, and its arguments read afterwards as before. No condition.
-/
import Derived.Test.YtbenhafhklfhmaaGreatAl01
import Derived.Test.YtbenhafhklfhmaaGreatAl02
import Derived.Test.YtbenhafhklfhmaaGreatAl03
import Derived.Test.YtbenhafhklfhmaaGreatAl04
import Derived.Test.YtbenhafhklfhmaaGreatAl05
import Derived.Test.YtbenhafhklfhmaaGreatAl06
import Derived.Test.YtbenhafhklfhmaaGreatAl07
import Derived.Test.YtbenhafhklfhmaaGreatAl08
import Derived.Test.YtbenhafhklfhmaaGreatAl09
import Derived.Test.YtbenhafhklfhmaaGreatAl10
import Derived.Test.YtbenhafhklfhmaaGreatAl11
import Derived.Test.YtbenhafhklfhmaaGreatRows
import Derived.WalkKit
import Derived.WalkSpells
import Derived.WalkLawsBesides
import Derived.Deep.QuietTactic
import Derived.BigQuiet
import Derived.OrdersHeld
import Derived.Maps.AppendAt
import Derived.OwnWalk
import Derived.Lib.SliceRun
import Derived.RangeFuncNested
import Derived.RangeFuncBound
import Derived.RangeFuncCalls
import Derived.RangeFuncLeaves
import Derived.OwnWalkIn
import Derived.TacticsInMore
import Derived.LoopNIn
import Derived.LoopIn
import Derived.OrdersIn
import Derived.Deep.LoopGhost
import Derived.MapKept
import Derived.Carry
import Derived.Lib.AppendZerosOnto
import Derived.Laws.OwnMore
import Derived.Shelf.Small.Bits
import Derived.Shelf.Strconv.Itoa0
import Derived.Ground.SlsfProg
import Derived.Shelf.SlSortCmp.Insertion
import Derived.Ground.SlgmProg
import Derived.Shelf.SortM.Plain
import Derived.Shelf.SortM.SortNone
import Derived.Shelf.SlSortCmp.SiftDown1
import Derived.Shelf.SlSortCmp.HeapSort1
import Derived.Shelf.SlSortCmp.Insertion1
import Derived.Shelf.SlSortCmp.Median1
import Derived.Shelf.SlSortCmp.Pivot1
import Derived.Shelf.SlSortCmp.ReverseRange1
import Derived.Shelf.SlSortCmp.PartialInsertion1
import Derived.Shelf.SlSortCmp.PartitionEqual1
import Derived.Shelf.SlSortCmp.Partition1
import Derived.Shelf.SlSortCmp.Pdq1
import Derived.Shelf.SlSortCmp.Whole1
import Derived.Shelf.SlSortCmp.NoneTotal
import Derived.Test.YtbenhafhklfhmaaGreatProg
import Derived.Sort.Grow
import Derived.Deep.RegionHeld3
import Derived.BigRegion
import Derived.Deep.DeepMust
import Derived.ProofKit
import Derived.Deep.Slices
import Derived.IntWalk
import Derived.ChangeKeysEq
import Derived.OpenShut
namespace Go.Proofs.YtbenhafhklfhmaaGreat
set_option linter.all false
set_option linter.unusedVariables false
set_option linter.unusedSimpArgs false
open Go.RowKit
section
variable {c : Cx} {Q : Exit → Act → World → Prop} {F F' : Fr} {K K' : List Fact} {ty : TypeId} {pos : String} {af : Array Edge} {g : Option (Nat × Bool)}
theorem tnS (n : Nat) : ((n : Int) + 1).toNat = n + 1 := by omega
variable {ops : Array Oper} {nf k fuel : Nat} {rest : List Oper} {pend : List (Nat × Oper)} {fl : List Fl} {listed : Array Bool} {bs : List Bool}
theorem WK.mk {i : Nat} {d : Option Tmp} {op : Op} {v : Nat → Value} {t : TypeId} {cs : List Value} (hm : Mk c F K ⟨d, op, ty, pos, af, none⟩ v t cs) (hd : dok d c.n = true) (h : ∀ b, WK c ops Q nf fl bs pend (fput F d (v b)) (.blk b t cs :: K)) : WK c ops Q nf fl (false :: bs) ((i, ⟨d, op, ty, pos, af, none⟩) :: pend) F K :=
  WK.act fun a w' K' hF hK ho hK' => by
    refine wpOp_of ho rfl ?_
    have hr := hm a w' hF hK
    unfold Oper.wp
    rw [hr]
    have hs : Sat [] w' [.blk w'.heap.size t cs] (w'.alloc (.cells cs.toArray t)) := (Sat.start w').new t cs
    exact hK' _ [.blk w'.heap.size t cs] _ _ hs (hF.fput hd _) (h w'.heap.size)
end
end Go.Proofs.YtbenhafhklfhmaaGreat
namespace Go.Proofs.YtbenhafhklfhmaaGreat
set_option linter.all false
set_option linter.unusedVariables false
set_option linter.unusedSimpArgs false
open Go.RowKit
section
variable {c : Cx} {Q : Exit → Act → World → Prop} {F F' : Fr} {K K' : List Fact} {ops : Array Oper} {rest : List Oper} {d : Option Tmp} {ty : TypeId} {pos : String} {af : Array Edge} {g : Option (Nat × Bool)} {nf k fuel : Nat} {pend : List (Nat × Oper)} {fl : List Fl} {listed : Array Bool} {bs : List Bool} {op : Op} {t : Nat}
theorem WK.m {i : Nat} {v : Nat → Value} {T : TypeId} {cs : List Value} (hm : Mk c F K ⟨d, op, ty, pos, af, none⟩ v T cs) (h : ∀ b, WK c ops Q nf fl bs pend (fput F d (v b)) (.blk b T cs :: K)) (hd : dok d c.n = true := by rfl) : WK c ops Q nf fl (false :: bs) ((i, ⟨d, op, ty, pos, af, none⟩) :: pend) F K := WK.mk hm hd h
section
variable {x y : Operand} {xt yt : TypeId} {i j : Int} {kk : IntKind}
end
end
end Go.Proofs.YtbenhafhklfhmaaGreat
namespace Go.Proofs.YtbenhafhklfhmaaGreat
set_option linter.all false
set_option linter.unusedVariables false
set_option linter.unusedSimpArgs false
open Go.RowKit
section
variable {c : Cx} {Q : Exit → Act → World → Prop} {F F' : Fr} {K K' K0 : List Fact} {ops : Array Oper} {rest : List Oper} {d : Option Tmp} {ty : TypeId} {pos : String} {af : Array Edge} {g : Option (Nat × Bool)} {k fuel t nf : Nat} {pend : List (Nat × Oper)} {listed : Array Bool} {bs : List Bool} {fl : List Fl} {op : Op}
end
theorem RdR.apart {w : World} {S : List Nat} {sz n : Nat} {A : Option Addr} {r : Nat → List Value} (h : RdR w sz A n r) (hS : ∀ b ∈ S, w.heap.size ≤ b) (hn : 0 < n) : Apart S A := fun b hb hm => by
  obtain ⟨q, o, e, hq, _⟩ := h.rd hn
  subst e
  cases hb
  have : w.heap.size ≤ q := hS _ hm
  omega
section
variable {c : Cx} {Q : Exit → Act → World → Prop} {F F' : Fr} {K K' K0 : List Fact} {ops : Array Oper} {listed : Array Bool} {fuel : Nat}
theorem TW.ex0 {id : Nat} {l : List Oper} (hd : Drop F K K0) (h2 : RG c l.toArray Q K0 [] (Array.replicate l.length false) l.length F K) (hm : c.P.follows .mixedOrders = true := by rfl) : TW c (.region id l.toArray true) Q F K := fun a w hF hK => by
  refine wp_region_any hm (wpAny_of_held (S := Sat c.S c.w0 K0) _ _ _ _ ?_)
  rw [List.size_toArray]
  exact h2 (fun p hp => by cases hp) a w.drew hF (hK.ext (keep_drew w))
theorem TW.expl {id : Nat} {l : List Oper} {X : Type} (Fj : X → Fr) (Kj : X → List Fact) (hd : Drop F K K0) (h1 : ∀ x, TQ c Q .normal (Fj x) (Kj x)) (h2 : (∀ x, TQ c Q .normal (Fj x) (Kj x)) → RG c l.toArray Q K0 [] (Array.replicate l.length false) l.length F K) (hm : c.P.follows .mixedOrders = true := by rfl) : TW c (.region id l.toArray true) Q F K := TW.ex0 hd (h2 h1) hm
end
end Go.Proofs.YtbenhafhklfhmaaGreat
namespace Go.Proofs.YtbenhafhklfhmaaGreat
set_option linter.all false
set_option linter.unusedVariables false
set_option linter.unusedSimpArgs false
open Go.RowKit
theorem ty_zr25 : Zr Tryz.prog 25 [.int .u32 0] := ⟨.int .u32 0, rfl, fun w => by obtain ⟨i, h1, h2, h3, h4⟩ := info_parts ty_i25; simp [zeroValue, typeInfo, h1, h2]⟩
end Go.Proofs.YtbenhafhklfhmaaGreat
namespace Go.Proofs.YtbenhafhklfhmaaGreat
set_option linter.all false
set_option linter.unusedVariables false
set_option linter.unusedSimpArgs false
open Go.RowKit
theorem check_any {w : World} {A : Option Addr} {cp : Nat} {H : Hd} {a : Nat → Option Addr} {c : Nat → Nat} (hI : HIn w A H a c) :
  Calls Tryz.prog 39 #[.slice A H.n cp] w (Ret w (.int .i64 (if herdB H then 0 else 20))) := by
 cases hh : herdB H with
 | false =>
  refine K_enter (S := []) (K := []) Tryz.func39 rfl Tryz.ntmps39 rfl (Sat.start _) ?_
  refine TW.seq fun Y1 hY1 => TW.region ?_
  refine TL.p Pu.as ?_
  refine TL.nil (TQ.thenN (hY1 _ _ ?_))
  refine TW.seq fun Y2 hY2 => TW.region ?_
  refine TL.p Pu.mv ?_
  refine TL.call (M := []) rfl (enters Tryz.func69 rfl rfl) (List.Perm.refl _) rfl (fun w hw => by
   have h9 := open_any (cp := cp) (hI.sat hw)
   rw [hh] at h9
   exact h9) ?_
  rintro xo
  refine TL.p Pu.mv ?_
  refine TL.p Pu.ex ?_
  refine TL.p Pu.ex ?_
  refine TL.p Pu.as ?_
  refine TL.p Pu.as ?_
  refine TL.nil (TQ.thenN (hY2 _ _ ?_))
  refine TW.seq fun Y3 hY3 => TW.region ?_
  refine TL.p Pu.mv ?_
  refine TL.p Pu.as ?_
  refine TL.nil (TQ.thenN (hY3 _ _ ?_))
  refine TW.ret ?_
  refine TQ.ret Tryz.results39 rfl ((.tmp rfl .nil)) ?_
  exact fun w hw => Ret.of hw
 | true =>
  refine K_enter (S := []) (K := []) Tryz.func39 rfl Tryz.ntmps39 rfl (Sat.start _) ?_
  refine TW.seq fun Y1 hY1 => TW.region ?_
  refine TL.p Pu.as ?_
  refine TL.nil (TQ.thenN (hY1 _ _ ?_))
  refine TW.seq fun Y2 hY2 => TW.region ?_
  refine TL.p Pu.mv ?_
  refine TL.call (M := []) rfl (enters Tryz.func69 rfl rfl) (List.Perm.refl _) rfl (fun w hw => by
   have h9 := open_any (cp := cp) (hI.sat hw)
   rw [hh] at h9
   exact h9) ?_
  rintro xo
  refine TL.p Pu.mv ?_
  refine TL.p Pu.ex ?_
  refine TL.p Pu.ex ?_
  refine TL.p Pu.as ?_
  refine TL.p Pu.as ?_
  refine TL.nil (TQ.thenN (hY2 _ _ ?_))
  refine TW.seq fun Y3 hY3 => TW.region ?_
  refine TL.p Pu.mv ?_
  refine TL.p Pu.as ?_
  refine TL.nil (TQ.thenN (hY3 _ _ ?_))
  refine TW.ret ?_
  refine TQ.ret Tryz.results39 rfl ((.tmp rfl .nil)) ?_
  exact fun w hw => Ret.of hw
end Go.Proofs.YtbenhafhklfhmaaGreat
namespace Go.Proofs.YtbenhafhklfhmaaGreat
set_option linter.all false
set_option linter.unusedVariables false
set_option linter.unusedSimpArgs false
open Go.RowKit
theorem dep_up {f : Nat → Int} {n i : Nat} (ha : Acyc f n) (hf : Mo f n) (hi : i < n) : ∀ q, q < depH f n i → depH f n (upH f i q).toNat + q = depH f n i
 | 0, _ => by simp [upH]
 | q + 1, hq => by
  have ih := dep_up ha hf hi q (by omega)
  have h0 := dep_in (f := f) (n := n) (i := i) (s := q) (by omega)
  have h1 := dep_in hq
  have hb := upH_bd hf hi q
  have e : upH f i (q + 1) = f (upH f i q).toNat := if_neg (by omega)
  rw [e] at h1 ⊢
  have := dep_mother ha hf (i := (upH f i q).toNat) (by omega) h1
  omega
theorem up_ne {f : Nat → Int} {n i q : Nat} (ha : Acyc f n) (hf : Mo f n) (hi : i < n) (hq : q + 1 < depH f n i) : upH f i (q + 1) ≠ i := fun e => by
 have := dep_up ha hf hi (q + 1) hq
 rw [e] at this
 simp at this
def linC (H : Hd) (id : Int) : Int := if herdB H then (if 0 ≤ atH H id then 0 else 2) else 20
def linN (H : Hd) (id : Int) : Nat := if linC H id = 0 then depH (moH H) H.n (atH H id).toNat - 1 else 0
def linV (H : Hd) (id : Int) (s : Nat) : Int := H.id (upH (moH H) (atH H id).toNat (s + 1)).toNat
set_option maxRecDepth 100000 in
set_option maxHeartbeats 2000000 in
theorem bLine_any {w : World} {A : Option Addr} {cp : Nat} {H : Hd} {a : Nat → Option Addr} {c : Nat → Nat} {id : Int} (hI : HIn w A H a c) :
  CallsK Tryz.prog 34 #[.slice A H.n cp, .int .i64 id] [] w (Option Addr × Nat) (fun y => .tuple #[.slice y.1 (linN H id) y.2, .int .i64 (linC H id)]) (fun y => [.own y.1 (linN H id) y.2 3 1 (fun s => [.int .i64 (linV H id s)])]) := by
 cases hh : herdB H with
 | false =>
  have hc : linC H id = 20 := by unfold linC; rw [hh]; rfl
  have hN : linN H id = 0 := by unfold linN; rw [hc]; rfl
  refine K_enterM (S := []) (K := []) Tryz.func34 rfl Tryz.ntmps34 rfl (Sat.start _) ?_
  refine TW.seqD fun Y1 hY1 => ?_
  refine TW.region ?_
  refine TL.p Pu.as ?_
  refine TL.p Pu.as ?_
  refine TL.nil ?_
  refine TQ.thenN (hY1 _ _ _ ?_)
  refine TW.seqD fun Y2 hY2 => ?_
  refine TW.region ?_
  refine TL.p Pu.mv ?_
  refine TL.call (M := []) rfl (enters Tryz.func69 rfl rfl) (List.Perm.refl _) rfl (fun w hw => by
    have h9 := open_any (cp := cp) (hI.sat hw)
    rw [hh] at h9
    exact h9) ?_
  rintro xo
  refine TL.p Pu.mv ?_
  refine TL.p Pu.ex ?_
  refine TL.p Pu.ex ?_
  refine TL.m (Mk.al ty_zr96) ?_
  intro b1
  first | refine TL.st ty_sz96 ?_ | refine TL.se ty_sz96 ?_
  refine TL.p Pu.as ?_
  refine TL.nil ?_
  refine TQ.thenN (hY2 _ _ _ ?_)
  refine TW.seqD fun Y3 hY3 => ?_
  refine TW.seqD fun Y4 hY4 => ?_
  refine TW.region ?_
  refine TL.p Pu.mv ?_
  refine TL.p Pu.ne ?_
  refine TL.nil ?_
  refine TQ.thenN (hY4 _ _ _ ?_)
  refine TW.condT rfl (rfl) ?_
  refine TW.seqD fun Y5 hY5 => ?_
  refine TW.region ?_
  refine TL.p Pu.mv ?_
  refine TL.p Pu.as ?_
  refine TL.p Pu.as ?_
  refine TL.nil ?_
  refine TQ.thenN (hY5 _ _ _ ?_)
  refine TW.ret ?_
  refine TQ.thenR ?_
  refine TQ.retM0 Tryz.results34 ((.tmp rfl (.tmp rfl .nil))) ?_
  exact fun w hw => ⟨(none, 0), by simp only [hN, hc]; rfl, by simp only [hN]; exact hw.sub (KSub.nilOwn KSub.nil)⟩
 | true =>
  have hk := herdB_ok.1 hh
  have h16 := hk.n16
  obtain ⟨i, hi9⟩ : ∃ i, i = (atH H id).toNat := ⟨_, rfl⟩
  refine K_enterM (S := []) (K := []) Tryz.func34 rfl Tryz.ntmps34 rfl (Sat.start _) ?_
  refine TW.seqD fun Y1 hY1 => ?_
  refine TW.region ?_
  refine TL.p Pu.as ?_
  refine TL.p Pu.as ?_
  refine TL.nil ?_
  refine TQ.thenN (hY1 _ _ _ ?_)
  refine TW.seqD fun Y2 hY2 => ?_
  refine TW.region ?_
  refine TL.p Pu.mv ?_
  refine TL.call (M := []) rfl (enters Tryz.func69 rfl rfl) (List.Perm.refl _) rfl (fun w hw => by
    have h9 := open_any (cp := cp) (hI.sat hw)
    rw [hh] at h9
    exact h9) ?_
  rintro xo
  simp only [if_true, opK]
  refine TL.p Pu.mv ?_
  refine TL.p Pu.ex ?_
  refine TL.p Pu.ex ?_
  refine TL.m (Mk.al ty_zr96) ?_
  intro b1
  first | refine TL.st ty_sz96 ?_ | refine TL.se ty_sz96 ?_
  refine TL.p Pu.as ?_
  refine TL.nil ?_
  refine TQ.thenN (hY2 _ _ _ ?_)
  refine TW.seqD fun Y3 hY3 => ?_
  refine TW.seqD fun Y4 hY4 => ?_
  refine TW.region ?_
  refine TL.p Pu.mv ?_
  refine TL.p Pu.ne ?_
  refine TL.nil ?_
  refine TQ.thenN (hY4 _ _ _ ?_)
  refine TW.condF rfl (rfl) ?_
  refine TW.skip ?_
  refine TQ.thenN (hY3 _ _ _ ?_)
  refine TW.seqD fun Y5 hY5 => ?_
  refine TW.region ?_
  refine TL.p (Pu.ld ty_sc96) ?_
  refine TL.p (by first | exact Pu.nn | exact Pu.nc) ?_
  refine TL.p (by first | exact Pu.fb ty_fa106_1 | exact Pu.fe ty_fa106_1) ?_
  refine TL.p (Pu.ld ty_sc39) ?_
  refine TL.p Pu.mv ?_
  refine TL.p (Pu.lkV (.int .i64 (i : Int)) (decide (0 ≤ atH H id)) ty_mp39 ty_zv3 (hi9 ▸ pl_n) pl_s) ?_
  refine TL.p Pu.mv ?_
  refine TL.p Pu.ex ?_
  refine TL.p Pu.ex ?_
  refine TL.m (Mk.al ty_zr3) ?_
  intro b2
  first | refine TL.st ty_sz3 ?_ | refine TL.se ty_sz3 ?_
  refine TL.p Pu.as ?_
  refine TL.nil ?_
  refine TQ.thenN (hY5 _ _ _ ?_)
  refine TW.seqD fun Y6 hY6 => ?_
  refine TW.seqD fun Y7 hY7 => ?_
  refine TW.region ?_
  refine TL.p Pu.mv ?_
  refine TL.p Pu.no ?_
  refine TL.nil ?_
  refine TQ.thenN (hY7 _ _ _ ?_)
  refine TW.cond rfl (fun hc1 => ?_) (fun hc1 => ?_)
  try simp only [zcb9] at hc1
  have hc : linC H id = 2 := by unfold linC; rw [hh, if_pos rfl, if_neg (by omega)]
  have hN : linN H id = 0 := by unfold linN; rw [hc]; rfl
  refine TW.seqD fun Y8 hY8 => ?_
  refine TW.region ?_
  refine TL.p Pu.as ?_
  refine TL.p Pu.as ?_
  refine TL.nil ?_
  refine TQ.thenN (hY8 _ _ _ ?_)
  refine TW.ret ?_
  refine TQ.thenR ?_
  refine TQ.retM0 Tryz.results34 ((.tmp rfl (.tmp rfl .nil))) ?_
  exact fun w hw => ⟨(none, 0), by simp only [hN, hc]; rfl, by simp only [hN]; exact hw.sub (KSub.nilOwn KSub.nil)⟩
  try simp only [zcb9] at hc1
  have hat : 0 ≤ atH H id := hc1
  have hc : linC H id = 0 := by unfold linC; rw [hh, if_pos rfl, if_pos hat]
  have hN : linN H id = depH (moH H) H.n (atH H id).toNat - 1 := by unfold linN; rw [hc]; rfl
  obtain ⟨hil, hie⟩ := at_lt hat
  rw [← hi9] at hil hie hN
  refine TW.skip ?_
  refine TQ.thenN (hY6 _ _ _ ?_)
  refine TW.seqD fun Y9 hY9 => ?_
  refine TW.region ?_
  refine TL.m (Mk.al ty_zr28) ?_
  intro b3
  refine TL.nil ?_
  refine TQ.thenN (hY9 _ _ _ ?_)
  refine TW.seqD fun Y10 hY10 => ?_
  refine TW.rebaseK [.blk b3 28 [.slice none 0 0], .blk b1 96 [.pointer (some ⟨xo.1.1, 0, none⟩)], .blk b2 3 [.int .i64 (i : Int)]] (opK H A cp xo) (by unfold opK; (repeat (first | exact KSub.nil | refine KSub.cons pk9 ?_))) fun w1 hw1 => ?_
  have hoB : OldB w1 xo.1.1 [.slice A H.n cp, .map (some xo.1.2), .slice xo.2.1.1 H.n xo.2.1.2, .slice xo.2.2.1 H.n xo.2.2.2] := OldB.of_blk (hw1.holds (.blk xo.1.1 106 [.slice A H.n cp, .map (some xo.1.2), .slice xo.2.1.1 H.n xo.2.1.2, .slice xo.2.2.1 H.n xo.2.2.2]) (by simp [opK]))
  have hSb := hw1.apartB (b := xo.1.1) (t := 106) (cs := [.slice A H.n cp, .map (some xo.1.2), .slice xo.2.1.1 H.n xo.2.1.2, .slice xo.2.2.1 H.n xo.2.2.2]) (by simp [opK])
  have hoM : RdR w1 1 xo.2.1.1 H.n (fun j => [.int .i64 (moH H j)]) := OwnR.rdr (hw1.holds (.own xo.2.1.1 H.n xo.2.1.2 3 1 (fun j => [.int .i64 (moH H j)])) (by simp [opK]))
  have hSm := hw1.apartO (A := xo.2.1.1) (n := H.n) (c := xo.2.1.2) (E := 3) (sz := 1) (r := fun j => [.int .i64 (moH H j)]) (by simp [opK])
  have hRA : RdR w1 5 A H.n (fun i => anL H a c i) := hI.hR.sat hw1 Apart.nil
  have hSA := hI.hR.apart (S := feet [.blk b3 28 [.slice none 0 0], .blk b1 96 [.pointer (some ⟨xo.1.1, 0, none⟩)], .blk b2 3 [.int .i64 (i : Int)]]) (fun b hb => (hw1.ge b (by rw [feet_append]; exact List.mem_append_left _ hb)).resolve_left (by simp)) (by omega)
  refine TW.seqD fun Y11 hY11 => ?_
  refine TW.region ?_
  refine TL.p (Pu.ld ty_sc96) ?_
  refine TL.p (Pu.ld ty_sc3) ?_
  refine TL.call (M := []) rfl (enters Tryz.func82 rfl rfl) (List.Perm.refl _) rfl (fun w hw => by
    exact line_any) ?_
  rintro ⟨bi, bp⟩
  refine TL.nil ?_
  refine TQ.thenN (hY11 _ _ _ ?_)
  refine TW.block ?_
  refine TW.rangeR (fun (q : Nat) (r : Option Addr × Nat) => .own r.1 (q - 1) r.2 3 1 (fun s => [.int .i64 (H.id (upH (moH H) i (s + 1)).toNat)]) :: .blk b3 28 [.slice r.1 (q - 1) r.2] :: .blk b1 96 [.pointer (some ⟨xo.1.1, 0, none⟩)] :: .blk b2 3 [.int .i64 (i : Int)] :: []) (fun x : Empty => x.elim) (fun x => x.elim) ((none, 0)) (fun x y => line1_iter (N := depH (moH H) H.n i) (bi := bi) (bp := bp) (i := i) hoB hSb hoM hSm moH_Mo hil (.inl ⟨rfl, hk.ac i hil⟩)) ?_ ?_ ?_ ?_ (eg := enters Tryz.func107 rfl rfl)
  exact KSub.cons pk9 (KSub.cons pk9 (KSub.nilOwn (KSub.cons pk9 (KSub.cons pk9 (KSub.cons pk9 KSub.nil)))))
  rintro lR DR oR oR1 oR2 q g ⟨Al, cl⟩ hq ZR0 hZR0
  simp only [linM, List.cons_append, List.nil_append]
  have hdl := dep_le (f := moH H) (n := H.n) (i := i)
  have hup := dep_in hq
  have hub := upH_bd moH_Mo hil q
  refine TWi.region ?_
  refine TL.p Pu.as ?_
  refine TL.nil ?_
  refine TQ.thenN (hZR0 _ _ _ Pick.hd ?_)
  refine TWi.block ?_
  refine TWi.seq fun Y12 hY12 => ?_
  refine TWi.region ?_
  refine TL.p Pu.mv ?_
  refine TL.p (Pu.ld ty_sc3) ?_
  refine TL.p Pu.ne ?_
  refine TL.nil (TQ.thenN (hY12 _ _ ?_))
  refine TWi.cond rfl (fun hc2 => ?_) (fun hc2 => ?_)
  try simp only [zcb9] at hc2
  have hq1 : q ≠ 0 := fun e => hc2 (by rw [e]; rfl)
  obtain ⟨q', rfl⟩ : ∃ q', q = q' + 1 := ⟨q - 1, by omega⟩
  simp only [Nat.add_sub_cancel]
  refine TWi.dw 10 ?_
  refine RK.tk (Pu.ld ty_sc28) ?_
  refine RK.tk (Pu.ld ty_sc96) ?_
  refine RK.tk (by first | exact Pu.nn | exact Pu.nc) ?_
  refine RK.tk (by first | exact Pu.fb ty_fa106_0 | exact Pu.fe ty_fa106_0) ?_
  refine RK.tk (Pu.ldo ty_sc22) ?_
  refine RK.tk Pu.mv ?_
  refine RK.tk (Pu.el (q := (upH (moH H) i (q' + 1)).toNat) ty_et22 (hk := rfl)) ?_
  refine RK.tk (by first | exact Pu.fb ty_fa46_0 | exact Pu.fe ty_fa46_0) ?_
  refine RK.tk (Pu.ld ty_sc3) ?_
  refine RK.keep ?_
  refine RK.ch [false] ?_ trivial
  refine WK.m Mk.bl ?_
  intro b4
  refine WK.n ?_
  first | refine TL.a0 ty_et28 ?_ | refine TL.ap ty_et28 ?_
  intro A5 c5
  first | refine TL.st ty_sz28 ?_ | refine TL.se ty_sz28 ?_
  refine TL.nil ?_
  refine TQ.blkN ?_
  first
   | (generalize A5 = A9; generalize c5 = c9)
   | (generalize Al = A9; generalize cl = c9)
  refine TQ.rbN ((A9, c9)) ?_
  simp only [linM, Nat.add_sub_cancel, List.cons_append, List.nil_append]
  first
   | exact KSub.cons pk9 (KSub.cons pk9 (KSub.cons pk9 (KSub.cons pk9 (KSub.own pk9 (fun j hj => by exact cat_rows (r := fun s => [Value.int .i64 (H.id (upH (moH H) i (s + 1)).toNat)]) (by rw [hi9]) hj) (KSub.cons pk9 (KSub.cons pk9 (KSub.cons pk9 KSub.nil)))))))
   | exact KSub.cons pk9 (KSub.cons pk9 (KSub.cons pk9 (KSub.cons pk9 (KSub.cons pk9 (KSub.cons pk9 (KSub.cons pk9 (KSub.cons pk9 KSub.nil)))))))
  try simp only [zcb9] at hc2
  have hq0 : q = 0 := by
   cases q with
   | zero => rfl
   | succ q' => exact absurd hc2 (up_ne hk.ac moH_Mo hil hq)
  subst hq0
  refine TWi.skip ?_
  refine TQ.blkN ?_
  first
   | (generalize A5 = A9; generalize c5 = c9)
   | (generalize Al = A9; generalize cl = c9)
  refine TQ.rbN ((A9, c9)) ?_
  simp only [linM, Nat.add_sub_cancel, List.cons_append, List.nil_append]
  first
   | exact KSub.cons pk9 (KSub.cons pk9 (KSub.cons pk9 (KSub.cons pk9 (KSub.own pk9 (fun j hj => by exact cat_rows (r := fun s => [Value.int .i64 (H.id (upH (moH H) i (s + 1)).toNat)]) (by rw [hi9]) hj) (KSub.cons pk9 (KSub.cons pk9 (KSub.cons pk9 KSub.nil)))))))
   | exact KSub.cons pk9 (KSub.cons pk9 (KSub.cons pk9 (KSub.cons pk9 (KSub.cons pk9 (KSub.cons pk9 (KSub.cons pk9 (KSub.cons pk9 KSub.nil)))))))
  rintro DR ⟨Al, cl⟩
  simp only [List.nil_append]
  refine TQ.blkN ?_
  refine TQ.thenN (hY10 _ _ _ ?_)
  refine TW.seqD fun Y13 hY13 => ?_
  refine TW.region ?_
  refine TL.p (Pu.ld ty_sc28) ?_
  refine TL.p Pu.as ?_
  refine TL.p Pu.as ?_
  refine TL.nil ?_
  refine TQ.thenN (hY13 _ _ _ ?_)
  refine TW.ret ?_
  refine TQ.retM Tryz.results34 pk9 ((.tmp rfl (.tmp rfl .nil))) ?_
  exact fun w hw => ⟨(Al, cl), by simp only [hN, hc]; rfl, by simp only [hN]; exact Sat.sub (K := _ ++ opK H A cp xo) (hw1.step hw) (KSub.own Pick.hd (fun s hs => by unfold linV; rw [← hi9]) KSub.nil)⟩
  intro _ x; exact x.elim
end Go.Proofs.YtbenhafhklfhmaaGreat
namespace Go.Proofs.YtbenhafhklfhmaaGreat
set_option linter.all false
set_option linter.unusedVariables false
set_option linter.unusedSimpArgs false
section
variable {H : Hd}
def setH (H : Hd) (i : Nat) (lo hi : Int) : Hd := { H with lo := fun j => if j = i then lo else H.lo j, hi := fun j => if j = i then hi else H.hi j }
end
section
variable {H : Hd} {L L' : Nat → Lk} {nl nc : Nat} {dm yg : Nat → Int}
end
section
variable {N : Nat → List Int}
end
end Go.Proofs.YtbenhafhklfhmaaGreat
namespace Go.Proofs.YtbenhafhklfhmaaGreat
set_option linter.all false
set_option linter.unusedVariables false
set_option linter.unusedSimpArgs false
open Go.RowKit
def exY : Hd := setH (setH exH 1 1300 1399) 0 0 0
def exZ : Hd := ⟨5, fnL [1, 2, 3, 4, 5], fnL [-1, 1, 1, 2, -1], fnL [0, 1300, 5000, 2900, 0], fnL [100, 1600, 20000, 3100, 0], fun i => [1, 2, 1, 1, 1].getD i 0, fun i k => ([[0], [0, 1], [0], [1], [7]].getD i []).getD k 0, fun i k => ([[3], [3, 5], [3], [5], [1]].getD i []).getD k 0⟩
def exN (n : Nat) : Lk := ⟨n, fun _ => 0, 0, 0, 0⟩
def exO : Hd := ⟨2, fun _ => 0, fun _ => 0, fun _ => 0, fun _ => 0, fun _ => 0, fun _ _ => 0, fun _ _ => 0⟩
set_option maxRecDepth 100000 in
theorem eRest : livC exY = 21 ∧ kinC exZ 1 5 = 6 ∧ kinR exZ 1 5 = (0, 0) ∧ fitC exH (exN 0) = 22 ∧ herdB exO = false ∧ nmC exH 1 (fun _ => exN 8) 0 (fun _ => 0) (fun _ => 0) = 23 ∧ nmC exH 5 (fun _ => exN 0) 0 (fun _ => 0) (fun _ => 0) = 4 := by decide +kernel
set_option maxRecDepth 100000 in
theorem eLin : linC exH 4 = 0 ∧ linN exH 4 = 2 ∧ linV exH 4 0 = 2 ∧ linV exH 4 1 = 1 ∧ linC exH 9 = 2 := by decide +kernel
def exR2 (i : Nat) : Nat → Int := if i = 0 then exR 4 else fun j => if j = 12 then 1 else 0
set_option maxRecDepth 100000 in
theorem eTly2 : tErr 2 1 0 (fun _ _ => 0) = some (0, 2) ∧ tErr 10 12 2 exR2 = some (1, 24) ∧ tErr 10 12 2 (fun _ => exR 4) = none ∧ tErr 10 12 41 (fun _ _ => 0) = some (0, 4) := by decide +kernel
theorem eTel1 : telL exH 1 = [] := by
 unfold telL
 rw [if_neg (by rw [eTel.2.2.1]; decide)]
section
variable {w : World} {x : EH} {b b1 b2 b3 b4 b5 : Nat}
theorem exLi4 (h : (bun (exHf x)).holds w) : CallsK Tryz.prog 34 #[.slice (some ⟨x.1, 0, none⟩) 4 4, .int .i64 4] [] w (Option Addr × Nat) (fun y => .tuple #[.slice y.1 2 y.2, .int .i64 0]) (fun y => [.own y.1 2 y.2 3 1 (iL [2, 1])]) := by
 have h9 := bLine_any (cp := 4) (id := 4) (exH_in h)
 rw [eLin.1, eLin.2.1] at h9
 refine h9.to (fun _ => rfl) (fun y => KSub.own Pick.hd (fun i hi => ?_) KSub.nil)
 rcases (by omega : i = 0 ∨ i = 1) with rfl | rfl
 · rw [eLin.2.2.1]; rfl
 · rw [eLin.2.2.2.1]; rfl
theorem exLi9 (h : (bun (exHf x)).holds w) : CallsK Tryz.prog 34 #[.slice (some ⟨x.1, 0, none⟩) 4 4, .int .i64 9] [] w (Option Addr × Nat) (fun y => .tuple #[.slice y.1 (linN exH 9) y.2, .int .i64 2]) (fun y => []) := by
 have h9 := bLine_any (cp := 4) (id := 9) (exH_in h)
 rw [eLin.2.2.2.2] at h9
 exact h9.to (fun _ => rfl) (fun y => KSub.nil)
theorem exFiN {A : Option Addr} {cl : Nat} (h : (bun (exHf x)).holds w) (hL : LkIn w (exN 0) A) : CallsK Tryz.prog 21 #[.slice (some ⟨x.1, 0, none⟩) 4 4, .agg (lkL (exN 0) A cl).toArray] [] w (Option Addr × Nat) (fun y => .tuple #[.slice y.1 (fitL exH (exN 0)).length y.2, .int .i64 22]) (fun y => []) := by
 have h9 := bFits_any (cp := 4) (cl := cl) (exH_in h) hL
 rw [eRest.2.2.2.1] at h9
 exact h9.to (fun _ => rfl) (fun y => KSub.nil)
theorem exNmC {nl nc cb cc : Nat} {L : Nat → Lk} {dm yg : Nat → Int} {B C : Option Addr} {la : Nat → Option Addr} {lc : Nat → Nat} {e : Int} (h : (bun (exHf x)).holds w) (hL : LksIn w nl L B la lc) (hC : CvsIn w nc dm yg C) (he : nmC exH nl L nc dm yg = e) :
  CallsK Tryz.prog 20 #[.slice (some ⟨x.1, 0, none⟩) 4 4, .slice B nl cb, .slice C nc cc] [] w NX9 (fun y => .tuple #[.slice y.1.1 (nmN exH nl L nc dm yg) y.1.2, .int .i64 e]) (fun y => []) := by
 have h9 := bNames_any (cp := 4) (cb := cb) (cc := cc) (exH_in h) hL hC
 refine h9.to (fun y => ?_) (fun y => KSub.nil)
 unfold nmV
 rw [he]
theorem exTlC {E : TypeId} {A : Option Addr} {n cp : Nat} {f : Nat → Nat → Int} {e : Option (Nat × Int)} {a b : Int} (h : OwnR w A n cp E 14 fun i => rowL (f i)) (hn : n ≤ 1000000) (he : tErr a b n f = e) :
  CallsK Tryz.prog 30 #[.agg #[.int .i64 a, .int .i64 b], .slice A n cp] [] w TX (fun y => .tuple #[.slice y.1 (tN e (n + 1)) y.2.1, .slice y.2.2.1 (tN e n) y.2.2.2, .int .i64 (tI e), .int .i64 (tC e)]) (fun y => []) :=
 (tally_K' a b A n cp E f w h hn he).to (fun y => by obtain ⟨A1, c1, A2, c2⟩ := y; rfl) (fun y => KSub.nil)
theorem exBiY {A : Option Addr} {cp : Nat} {a : Nat → Option Addr} {c : Nat → Nat} (h : HIn w A exY a c) : CallsK Tryz.prog 15 #[.slice A 4 cp] [] w (Option Addr × Nat) (fun y => .tuple #[.slice y.1 0 y.2, .int .i64 21]) (fun y => []) := by
 have h9 := bBirths_any (cp := cp) h
 rw [eRest.1] at h9
 exact h9.to (fun _ => rfl) (fun y => KSub.nil)
theorem exKiZ {A : Option Addr} {cp : Nat} {a : Nat → Option Addr} {c : Nat → Nat} (h : HIn w A exZ a c) : Calls Tryz.prog 33 #[.slice A 5 cp, .int .i64 1, .int .i64 5] w (Ret w (.tuple #[.int .i64 0, .int .i64 0, .int .i64 6])) := by
 have h9 := bKin_any (cp := cp) (ia := 1) (ib := 5) h
 rw [eRest.2.1, eRest.2.2.1] at h9
 exact h9
theorem exChO {A : Option Addr} {cp : Nat} {a : Nat → Option Addr} {c : Nat → Nat} (h : HIn w A exO a c) : Calls Tryz.prog 39 #[.slice A 2 cp] w (Ret w (.int .i64 20)) := by
 have h9 := check_any (cp := cp) h
 rw [eRest.2.2.2.2.1] at h9
 exact h9
abbrev exMk (x : EH) : List Fact := [.own (some ⟨x.2.1, 0, none⟩) 1 1 87 2 (fun k => spL (exH.sp 0 k) (exH.sg 0 k)), .own (some ⟨x.2.2.1, 0, none⟩) 2 2 87 2 (fun k => spL (exH.sp 1 k) (exH.sg 1 k)), .own (some ⟨x.2.2.2.1, 0, none⟩) 1 1 87 2 (fun k => spL (exH.sp 2 k) (exH.sg 2 k)), .own (some ⟨x.2.2.2.2, 0, none⟩) 1 1 87 2 (fun k => spL (exH.sp 3 k) (exH.sg 3 k))]
theorem exY_in {A : Option Addr} {cp : Nat} (h : Fact.holds (.own A 4 cp 46 5 (fun i => anL exY (exA x) exH.ml i)) w) (hm : ∀ φ ∈ exMk x, φ.holds w) : HIn w A exY (exA x) exH.ml := by
 refine ⟨by decide, OwnR.rdr h, fun i hi => ?_, fun i hi => ?_⟩
 · have hi : i < 4 := hi
   rcases i with _ | _ | _ | _ | i
   · exact OwnR.rdr (hm _ (List.mem_cons_self ..))
   · exact OwnR.rdr (hm _ (List.mem_cons_of_mem _ (List.mem_cons_self ..)))
   · exact OwnR.rdr (hm _ (List.mem_cons_of_mem _ (List.mem_cons_of_mem _ (List.mem_cons_self ..))))
   · exact OwnR.rdr (hm _ (List.mem_cons_of_mem _ (List.mem_cons_of_mem _ (List.mem_cons_of_mem _ (List.mem_cons_self ..)))))
   · omega
 · have hi : i < 4 := hi
   rcases i with _ | _ | _ | _ | i
   · show (1 : Nat) ≤ 1000; decide
   · show (2 : Nat) ≤ 1000; decide
   · show (1 : Nat) ≤ 1000; decide
   · show (1 : Nat) ≤ 1000; decide
   · omega
def exZa (x : EH) (m : Nat) (i : Nat) : Option Addr := some ⟨[x.2.1, x.2.2.1, x.2.2.2.1, x.2.2.2.2, m].getD i 0, 0, none⟩
theorem exZ_in {A : Option Addr} {cp m : Nat} {E : TypeId} (h : Fact.holds (.own A 5 cp 46 5 (fun i => anL exZ (exZa x m) exZ.ml i)) w) (hm : ∀ φ ∈ exMk x, φ.holds w) (h5 : Blk w m E #[.int .i64 7, .int .i64 1]) : HIn w A exZ (exZa x m) exZ.ml := by
 refine ⟨by decide, OwnR.rdr h, fun i hi => ?_, fun i hi => ?_⟩
 · have hi : i < 5 := hi
   rcases i with _ | _ | _ | _ | _ | i
   · exact OwnR.rdr (hm _ (List.mem_cons_self ..))
   · exact OwnR.rdr (hm _ (List.mem_cons_of_mem _ (List.mem_cons_self ..)))
   · exact OwnR.rdr (hm _ (List.mem_cons_of_mem _ (List.mem_cons_of_mem _ (List.mem_cons_self ..))))
   · exact OwnR.rdr (hm _ (List.mem_cons_of_mem _ (List.mem_cons_of_mem _ (List.mem_cons_of_mem _ (List.mem_cons_self ..)))))
   · exact RdR.blk (cs := [.int .i64 7, .int .i64 1]) (n := 1) (sz := 2) h5 rfl (fun _ _ => rfl)
   · omega
 · have hi : i < 5 := hi
   rcases i with _ | _ | _ | _ | _ | i
   · show (1 : Nat) ≤ 1000; decide
   · show (2 : Nat) ≤ 1000; decide
   · show (1 : Nat) ≤ 1000; decide
   · show (1 : Nat) ≤ 1000; decide
   · show (1 : Nat) ≤ 1000; decide
   · omega
theorem exN_in {n : Nat} (hn : n ≤ 1000) {A : Option Addr} (h : RdR w 1 A n (fun _ => [.int .u32 0])) : LkIn w (exN n) A := ⟨hn, h, fun _ _ => Nat.zero_le _⟩
end
end Go.Proofs.YtbenhafhklfhmaaGreat
namespace Go.Proofs.YtbenhafhklfhmaaGreat
set_option linter.all false
set_option linter.unusedVariables false
set_option linter.unusedSimpArgs false
open Go.RowKit
section
variable {w : World} {A : Option Addr} {cp : Nat} {H : Hd} {a : Nat → Option Addr} {c : Nat → Nat} {i : Nat}
set_option maxRecDepth 100000 in
theorem put_an {lo hi : Int} (j : Nat) : updR (fun j => anL H a c j) i [.int .i64 (H.id i), .int .i64 (H.mo i), .int .i64 lo, .int .i64 hi, .slice (a i) (H.ml i) (c i)] j = anL (setH H i lo hi) a c j := by
 unfold updR anL setH
 dsimp only
 by_cases e : j = i
 · subst e; rw [if_pos rfl, if_pos rfl, if_pos rfl]
 · rw [if_neg e, if_neg e, if_neg e]
end
end Go.Proofs.YtbenhafhklfhmaaGreat
namespace Go.Proofs.YtbenhafhklfhmaaGreat
set_option linter.all false
set_option linter.unusedVariables false
set_option linter.unusedSimpArgs false
open Go.RowKit
section
variable {c : Cx} {Q : Exit → Act → World → Prop} {F : Fr} {K : List Fact} {ops : Array Oper} {rest : List Oper} {d : Option Tmp} {op : Op} {ty : TypeId} {pos : String} {af : Array Edge} {g : Option (Nat × Bool)}
theorem TL.ung (hg : gdB F ops g = some true) (h : TL c ops Q (⟨d, op, ty, pos, af, none⟩ :: rest) F K) : TL c ops Q (⟨d, op, ty, pos, af, g⟩ :: rest) F K := fun a w hF hK => by
 have h1 := h a w hF hK
 unfold wpList at h1 ⊢
 rw [if_pos (by simp [Region.wanted])] at h1
 rw [if_pos (hF.wanted hg)]
 exact h1
end
theorem rdr_nil {w : World} {sz : Nat} {r : Nat → List Value} : RdR w sz none 0 r := ⟨fun h => absurd h (Nat.lt_irrefl 0), fun i hi => absurd hi (Nat.not_lt_zero i)⟩
theorem own_nil {w : World} {E : TypeId} {sz : Nat} {r : Nat → List Value} : OwnR w none 0 0 E sz r := ⟨Own.nil _ _ _ _ _, fun i hi => absurd hi (Nat.not_lt_zero i)⟩
end Go.Proofs.YtbenhafhklfhmaaGreat
namespace Go.Proofs.YtbenhafhklfhmaaGreat
set_option linter.all false
set_option linter.unusedVariables false
set_option linter.unusedSimpArgs false
open Go.RowKit
theorem same1 {w : World} {P : Option Addr} {pc b n : Nat} {L : List Int} (hn : n = L.length) (h8 : n ≤ 8) (h1 : Fact.holds (.own P n pc 3 1 (iL L)) w) (h2 : RdR w 1 (some ⟨b, 0, none⟩) n (iL L)) : Calls Tryz.prog 37 #[.slice P n pc, .slice (some ⟨b, 0, none⟩) n n] w (Ret w (.bool true)) :=
 bSameInts_any (n := n) (v := fun j => L.getD j 0) (by omega) (OwnR.rdr h1) h2
set_option maxRecDepth 100000 in
theorem exZ_row {x : EH} {m i : Nat} (hi : i < 5) : catR 4 (fun i => anL exH (exA x) exH.ml i) (fun _ => [.int .i64 5, .int .i64 (-1), .int .i64 0, .int .i64 0, .slice (some ⟨m, 0, none⟩) 1 1]) i = anL exZ (exZa x m) exZ.ml i := by
 rcases (by omega : i = 0 ∨ i = 1 ∨ i = 2 ∨ i = 3 ∨ i = 4) with rfl | rfl | rfl | rfl | rfl <;> rfl
set_option maxRecDepth 100000 in
set_option maxHeartbeats 8000000 in
theorem lawExam_any (w : World) : Calls Tryz.prog 11 #[] w (Ret w (.bool true)) := by
 have fL := fun (w' : World) => look2_any 3000 w'
 have fF := fun (w' : World) (x : EH) (b : Nat) (h : (bun (exHf x)).holds w') (hL : LkIn w' (exK 3000) (some ⟨b, 0, none⟩)) => exHF (x := x) (b := b) h hL eFit.2.2.1 eFit.2.2.2
 unfold lkL at fL fF
 refine K_enter (S := []) (K := []) Tryz.func11 rfl Tryz.ntmps11 rfl (Sat.start _) ?_
 refine TW.seq fun Y1 hY1 => TW.region ?_
 refine TL.p Pu.as ?_
 refine TL.nil (TQ.thenN (hY1 _ _ ?_))
 refine TW.seq fun Y2 hY2 => ?_
 refine TW.seq fun Y3 hY3 => TW.region ?_
 refine TL.p Pu.mv ?_
 refine TL.cr rfl (enters Tryz.func12 rfl rfl) (fun w hw => by
  exact alive_any _) ?_
 refine TL.gd Pu.no ?_
 refine TL.p Pu.kf ?_
 refine TL.nil (TQ.thenN (hY3 _ _ ?_))
 refine TW.condF rfl rfl ?_
 refine TW.skip ?_
 refine TQ.thenN (hY2 _ _ ?_)
 refine TW.seq fun Y4 hY4 => TW.region ?_
 refine TL.call (M := []) rfl (enters Tryz.func35 rfl rfl) (List.Perm.refl _) rfl (fun w hw => by
  exact herd2_any _) ?_
 rintro x3
 dsimp only [List.cons_append, List.nil_append]
 refine TL.call (M := []) rfl (enters Tryz.func36 rfl rfl) (List.Perm.refl _) rfl (fun w hw => by
  exact fL _) ?_
 rintro k3
 dsimp only [List.cons_append, List.nil_append, exLk]
 refine TL.call (M := []) rfl (enters Tryz.func21 rfl rfl) (List.Perm.refl _) rfl (fun w hw => by
  exact fF _ x3 k3 (hw.holds _ (Pick.mem pk9)) (exLk_in (hw.holds _ (Pick.mem pk9)) rfl (by decide))) ?_
 rintro ⟨P3, p3⟩
 dsimp only [List.cons_append, List.nil_append]
 refine TL.p Pu.mv ?_
 refine TL.p Pu.ex ?_
 refine TL.p Pu.ex ?_
 refine TL.p Pu.as ?_
 refine TL.p Pu.as ?_
 refine TL.nil (TQ.thenN (hY4 _ _ ?_))
 refine TW.seq fun Y5 hY5 => TW.region ?_
 refine TL.call (M := []) rfl (enters Tryz.func35 rfl rfl) (List.Perm.refl _) rfl (fun w hw => by
  exact herd2_any _) ?_
 rintro x4
 dsimp only [List.cons_append, List.nil_append]
 refine TL.call (M := []) rfl (enters Tryz.func28 rfl rfl) (List.Perm.refl _) rfl (fun w hw => by
  exact exHT (x := x4) (hw.holds _ (Pick.mem pk9)) eTel.2.2.1 eTel1) ?_
 rintro ⟨P4, p4⟩
 dsimp only [List.cons_append, List.nil_append]
 refine TL.p Pu.mv ?_
 refine TL.p Pu.ex ?_
 refine TL.p Pu.ex ?_
 refine TL.p Pu.as ?_
 refine TL.p Pu.as ?_
 refine TL.nil (TQ.thenN (hY5 _ _ ?_))
 refine TW.seq fun Y6 hY6 => TW.region ?_
 refine TL.call (M := []) rfl (enters Tryz.func35 rfl rfl) (List.Perm.refl _) rfl (fun w hw => by
  exact herd2_any _) ?_
 rintro x5
 dsimp only [List.cons_append, List.nil_append]
 refine TL.call (M := []) rfl (enters Tryz.func28 rfl rfl) (List.Perm.refl _) rfl (fun w hw => by
  exact exHT (x := x5) (hw.holds _ (Pick.mem pk9)) eTel.2.2.2.1 eTel.2.2.2.2) ?_
 rintro ⟨P5, p5⟩
 dsimp only [List.cons_append, List.nil_append]
 refine TL.p Pu.mv ?_
 refine TL.p Pu.ex ?_
 refine TL.p Pu.ex ?_
 refine TL.p Pu.as ?_
 refine TL.p Pu.as ?_
 refine TL.nil (TQ.thenN (hY6 _ _ ?_))
 refine TW.seq fun Y7 hY7 => TW.region ?_
 refine TL.call (M := []) rfl (enters Tryz.func35 rfl rfl) (List.Perm.refl _) rfl (fun w hw => by
  exact herd2_any _) ?_
 rintro x6
 dsimp only [List.cons_append, List.nil_append]
 refine TL.call (M := []) rfl (enters Tryz.func34 rfl rfl) (List.Perm.refl _) rfl (fun w hw => by
  exact exLi4 (x := x6) (hw.holds _ (Pick.mem pk9))) ?_
 rintro ⟨P6, p6⟩
 dsimp only [List.cons_append, List.nil_append]
 refine TL.p Pu.mv ?_
 refine TL.p Pu.ex ?_
 refine TL.p Pu.ex ?_
 refine TL.p Pu.as ?_
 refine TL.p Pu.as ?_
 refine TL.nil (TQ.thenN (hY7 _ _ ?_))
 refine TW.seq fun Y8 hY8 => ?_
 refine TW.seq fun Y9 hY9 => TW.region ?_
 refine TL.p Pu.mv ?_
 refine TL.p Pu.ne ?_
 refine TL.lit (t := 58) (b' := false) rfl (rfl) ?_
 refine TL.p Pu.mv ?_
 refine TL.gd Pu.mv ?_
 refine TL.gm Mk.bl ?_
 intro b1
 refine TL.cr rfl (enters Tryz.func37 rfl rfl) (fun w hw => by
  exact same1 (L := [3]) rfl (by decide) (hw.holds _ (Pick.mem pk9)) (RdR.blk (cs := [.int .i64 3]) (n := 1) (sz := 1) (hw.holds _ (List.mem_cons_self ..)) rfl (fun _ _ => rfl))) ?_
 refine TL.lit (t := 62) (b' := true) rfl (rfl) ?_
 refine TL.gd Pu.no ?_
 refine TL.p Pu.kf ?_
 refine TL.p Pu.mv ?_
 refine TL.gd Pu.mv ?_
 refine TL.gd Pu.ne ?_
 refine TL.lit (t := 67) (b' := false) rfl (rfl) ?_
 refine TL.p Pu.kf ?_
 refine TL.p Pu.mv ?_
 refine TL.gd Pu.mv ?_
 refine TL.gd Pu.ne ?_
 refine TL.lit (t := 71) (b' := false) rfl (rfl) ?_
 refine TL.p Pu.kf ?_
 refine TL.p Pu.mv ?_
 refine TL.gd Pu.mv ?_
 refine TL.gm Mk.bl ?_
 intro b2
 refine TL.cr rfl (enters Tryz.func37 rfl rfl) (fun w hw => by
  exact same1 (L := [0]) rfl (by decide) (hw.holds _ (Pick.mem pk9)) (RdR.blk (cs := [.int .i64 0]) (n := 1) (sz := 1) (hw.holds _ (List.mem_cons_self ..)) rfl (fun _ _ => rfl))) ?_
 refine TL.lit (t := 76) (b' := true) rfl (rfl) ?_
 refine TL.gd Pu.no ?_
 refine TL.p Pu.kf ?_
 refine TL.p Pu.mv ?_
 refine TL.gd Pu.mv ?_
 refine TL.gd Pu.ne ?_
 refine TL.lit (t := 81) (b' := false) rfl (rfl) ?_
 refine TL.p Pu.kf ?_
 refine TL.p Pu.mv ?_
 refine TL.gd Pu.mv ?_
 refine TL.gm Mk.bl ?_
 intro b3
 refine TL.cr rfl (enters Tryz.func37 rfl rfl) (fun w hw => by
  exact same1 (L := [2,1]) rfl (by decide) (hw.holds _ (Pick.mem pk9)) (RdR.blk (cs := [.int .i64 2, .int .i64 1]) (n := 2) (sz := 1) (hw.holds _ (List.mem_cons_self ..)) rfl (fun _ _ => rfl))) ?_
 refine TL.lit (t := 86) (b' := true) rfl (rfl) ?_
 refine TL.gd Pu.no ?_
 refine TL.p Pu.kf ?_
 refine TL.nil (TQ.thenN (hY9 _ _ ?_))
 refine TW.condF rfl rfl ?_
 refine TW.skip ?_
 refine TQ.thenN (hY8 _ _ ?_)
 refine TW.seq fun Y10 hY10 => TW.region ?_
 refine TL.call (M := []) rfl (enters Tryz.func35 rfl rfl) (List.Perm.refl _) rfl (fun w hw => by
  exact herd2_any _) ?_
 rintro x9
 dsimp only [List.cons_append, List.nil_append]
 refine TL.p Pu.as ?_
 refine TL.nil (TQ.thenN (hY10 _ _ ?_))
 refine TW.seq fun Y11 hY11 => TW.region ?_
 refine TL.unb pk9 ?_
 dsimp only [exHf, List.cons_append, List.nil_append]
 refine TL.p Pu.mv ?_
 refine TL.cr rfl (enters Tryz.func18 rfl rfl) (fun w hw => by
  exact span2_any _ _ _) ?_
 refine TL.p (Pu.el ty_et22) ?_
 refine TL.p (Pu.fe ty_fa46_2) ?_
 first | refine TL.st ty_sz36 ?_ | refine TL.se ty_sz36 ?_
 refine TL.nil (TQ.thenN (hY11 _ _ ?_))
 refine TW.seq fun Y12 hY12 => TW.region ?_
 refine TL.subK (KSub.own Pick.hd (s := fun i => anL (setH exH 1 1300 1399) (exA x9) exH.ml i) (fun i hi => put_an (H := exH) (i := 1) i) (KSub.refl _)) ?_
 refine TL.p Pu.mv ?_
 refine TL.cr rfl (enters Tryz.func18 rfl rfl) (fun w hw => by
  exact span2_any _ _ _) ?_
 refine TL.p (Pu.el ty_et22 (q := 0) (hk := rfl) (h1 := by decide) (hA := CellsN.own pk9 (show 0 < 4 by decide) SubL.nil)) ?_
 refine TL.p (Pu.fe ty_fa46_2 (hq := CellsN.own pk9 (show 0 < 4 by decide) SubL.nil)) ?_
 first | refine TL.st ty_sz36 ?_ | refine TL.se ty_sz36 ?_
 refine TL.nil (TQ.thenN (hY12 _ _ ?_))
 refine TW.seq fun Y13 hY13 => TW.region ?_
 refine TL.subK (KSub.own Pick.hd (s := fun i => anL exY (exA x9) exH.ml i) (fun i hi => put_an (H := setH exH 1 1300 1399) (i := 0) i) (KSub.refl _)) ?_
 refine TL.call (M := []) rfl (enters Tryz.func35 rfl rfl) (List.Perm.refl _) rfl (fun w hw => by
  exact herd2_any _) ?_
 rintro x12
 dsimp only [List.cons_append, List.nil_append]
 refine TL.unb pk9 ?_
 dsimp only [exHf, List.cons_append, List.nil_append]
 refine TL.p Pu.bd ?_
 refine TL.m Mk.bl ?_
 intro b4
 refine TL.p Pu.bd ?_
 refine TL.m Mk.bl ?_
 intro b5
 first | refine TL.a0 ty_et22 ?_ | refine TL.ap ty_et22 ?_
 intro A6 c6
 refine TL.p Pu.as ?_
 refine TL.nil (TQ.thenN (hY13 _ _ ?_))
 refine TW.seq fun Y14 hY14 => TW.region ?_
 refine TL.subK (KSub.own Pick.hd (s := fun i => anL exZ (exZa x12 b4) exZ.ml i) (fun i hi => exZ_row hi) (KSub.refl _)) ?_
 refine TL.p Pu.mv ?_
 refine TL.call (M := []) rfl (enters Tryz.func15 rfl rfl) (List.Perm.refl _) rfl (fun w hw => by
  exact exBiY (exY_in (x := x9) (hw.holds _ (Pick.mem pk9)) (by intro φ hφ; simp only [exMk, List.mem_cons, List.not_mem_nil, or_false] at hφ; rcases hφ with rfl | rfl | rfl | rfl <;> exact hw.holds _ (Pick.mem pk9)))) ?_
 rintro ⟨P13, p13⟩
 dsimp only [List.cons_append, List.nil_append]
 refine TL.p Pu.mv ?_
 refine TL.p Pu.ex ?_
 refine TL.p Pu.ex ?_
 refine TL.p Pu.as ?_
 refine TL.nil (TQ.thenN (hY14 _ _ ?_))
 refine TW.seq fun Y15 hY15 => ?_
 refine TW.expl (fun (_ : Unit) => ([(4, .int .i64 23), (2, .int .i64 21), (10, .slice A6 5 c6)] : Fr)) (fun (_ : Unit) => [.own A6 5 c6 46 5 (fun i => anL exZ (exZa x12 b4) exZ.ml i), .own (some ⟨x12.2.1, 0, none⟩) 1 1 87 2 (fun k => spL (exH.sp 0 k) (exH.sg 0 k)), .own (some ⟨x12.2.2.1, 0, none⟩) 2 2 87 2 (fun k => spL (exH.sp 1 k) (exH.sg 1 k)), .own (some ⟨x12.2.2.2.1, 0, none⟩) 1 1 87 2 (fun k => spL (exH.sp 2 k) (exH.sg 2 k)), .own (some ⟨x12.2.2.2.2, 0, none⟩) 1 1 87 2 (fun k => spL (exH.sp 3 k) (exH.sg 3 k)), .blk b4 87 [.int .i64 7, .int .i64 1]]) Drop.done ?_ (fun hE => ?_)
 rintro ⟨⟩
 refine TQ.thenN (hY15 _ _ ?_)
 refine TW.seq fun Y16 hY16 => ?_
 refine TW.expl (fun (_ : Unit) => ([(6, .int .i64 4), (4, .int .i64 23), (2, .int .i64 21), (10, .slice A6 5 c6)] : Fr)) (fun (_ : Unit) => [.own A6 5 c6 46 5 (fun i => anL exZ (exZa x12 b4) exZ.ml i), .own (some ⟨x12.2.1, 0, none⟩) 1 1 87 2 (fun k => spL (exH.sp 0 k) (exH.sg 0 k)), .own (some ⟨x12.2.2.1, 0, none⟩) 2 2 87 2 (fun k => spL (exH.sp 1 k) (exH.sg 1 k)), .own (some ⟨x12.2.2.2.1, 0, none⟩) 1 1 87 2 (fun k => spL (exH.sp 2 k) (exH.sg 2 k)), .own (some ⟨x12.2.2.2.2, 0, none⟩) 1 1 87 2 (fun k => spL (exH.sp 3 k) (exH.sg 3 k)), .blk b4 87 [.int .i64 7, .int .i64 1]]) Drop.done ?_ (fun hE => ?_)
 rintro ⟨⟩
 refine TQ.thenN (hY16 _ _ ?_)
 refine TW.seq fun Y17 hY17 => TW.region ?_
 refine TL.call (M := []) rfl (enters Tryz.func35 rfl rfl) (List.Perm.refl _) rfl (fun w hw => by
  exact herd2_any _) ?_
 rintro x16
 dsimp only [List.cons_append, List.nil_append]
 refine TL.p Pu.bd ?_
 refine TL.call (M := []) rfl (enters Tryz.func21 rfl rfl) (List.Perm.refl _) rfl (fun w hw => by
  exact exFiN (A := none) (cl := 0) (x := x16) (hw.holds _ (Pick.mem pk9)) (exN_in (by decide) rdr_nil)) ?_
 rintro ⟨P16, p16⟩
 dsimp only [List.cons_append, List.nil_append]
 refine TL.p Pu.mv ?_
 refine TL.p Pu.ex ?_
 refine TL.p Pu.ex ?_
 refine TL.p Pu.as ?_
 refine TL.nil (TQ.thenN (hY17 _ _ ?_))
 refine TW.seq fun Y18 hY18 => TW.region ?_
 refine TL.call (M := []) rfl (enters Tryz.func35 rfl rfl) (List.Perm.refl _) rfl (fun w hw => by
  exact herd2_any _) ?_
 rintro x17
 dsimp only [List.cons_append, List.nil_append]
 refine TL.call (M := []) rfl (enters Tryz.func34 rfl rfl) (List.Perm.refl _) rfl (fun w hw => by
  exact exLi9 (x := x17) (hw.holds _ (Pick.mem pk9))) ?_
 rintro ⟨P17, p17⟩
 dsimp only [List.cons_append, List.nil_append]
 refine TL.p Pu.mv ?_
 refine TL.p Pu.ex ?_
 refine TL.p Pu.ex ?_
 refine TL.p Pu.as ?_
 refine TL.p Pu.as ?_
 refine TL.nil (TQ.thenN (hY18 _ _ ?_))
 refine TW.seq fun Y19 hY19 => TW.region ?_
 refine TL.p Pu.mv ?_
 refine TL.cr rfl (enters Tryz.func33 rfl rfl) (fun w hw => by
  exact exKiZ (exZ_in (hw.holds _ (Pick.mem pk9)) (by intro φ hφ; simp only [exMk, List.mem_cons, List.not_mem_nil, or_false] at hφ; rcases hφ with rfl | rfl | rfl | rfl <;> exact hw.holds _ (Pick.mem pk9)) (hw.holds (.blk b4 87 [.int .i64 7, .int .i64 1]) (Pick.mem pk9)))) ?_
 refine TL.p Pu.mv ?_
 refine TL.p Pu.ex ?_
 refine TL.p Pu.ex ?_
 refine TL.p Pu.ex ?_
 refine TL.p Pu.as ?_
 refine TL.p Pu.as ?_
 refine TL.p Pu.as ?_
 refine TL.nil (TQ.thenN (hY19 _ _ ?_))
 refine TW.seq fun Y20 hY20 => TW.region ?_
 refine TL.cr rfl (enters Tryz.func18 rfl rfl) (fun w hw => by
  exact span2_any _ _ _) ?_
 refine TL.call (M := []) rfl (enters Tryz.func30 rfl rfl) (List.Perm.refl _) rfl (fun w hw => by
  exact exTlC (E := 71) (A := none) (n := 0) (f := fun _ _ => 0) own_nil (by decide) eTly2.1) ?_
 rintro ⟨P19, p19, Q19, q19⟩
 dsimp only [List.cons_append, List.nil_append]
 refine TL.p Pu.mv ?_
 refine TL.p Pu.ex ?_
 refine TL.p Pu.ex ?_
 refine TL.p Pu.ex ?_
 refine TL.p Pu.ex ?_
 refine TL.p Pu.as ?_
 refine TL.p Pu.as ?_
 refine TL.p Pu.as ?_
 refine TL.p Pu.as ?_
 refine TL.nil (TQ.thenN (hY20 _ _ ?_))
 refine TW.seq fun Y21 hY21 => TW.region ?_
 refine TL.cr rfl (enters Tryz.func18 rfl rfl) (fun w hw => by
  exact span2_any _ _ _) ?_
 refine TL.cr rfl (enters Tryz.func38 rfl rfl) (fun w hw => by
  exact row2_any _) ?_
 refine TL.cr rfl (enters Tryz.func18 rfl rfl) (fun w hw => by
  exact span2_any _ _ _) ?_
 refine TL.p Pu.bd ?_
 refine TL.m Mk.bl ?_
 intro b7
 refine TL.call (M := []) rfl (enters Tryz.func30 rfl rfl) (List.Perm.refl _) rfl (fun w hw => by
  exact exTlC (E := 71) (n := 2) (f := exR2) (OwnR.of_blk (cs := [.int .i64 1, .int .i64 2, .int .i64 0, .int .i64 0, .int .i64 0, .int .i64 0, .int .i64 0, .int .i64 4, .int .i64 0, .int .i64 0, .int .i64 0, .int .i64 0, .int .i64 11, .int .i64 11, .int .i64 0, .int .i64 0, .int .i64 0, .int .i64 0, .int .i64 0, .int .i64 0, .int .i64 0, .int .i64 0, .int .i64 0, .int .i64 0, .int .i64 0, .int .i64 0, .int .i64 1, .int .i64 0]) (hw.holds _ (List.mem_cons_self ..)) rfl (fun _ _ => rfl) rfl rfl) (by decide) eTly2.2.1) ?_
 rintro ⟨P20, p20, Q20, q20⟩
 dsimp only [List.cons_append, List.nil_append]
 refine TL.p Pu.mv ?_
 refine TL.p Pu.ex ?_
 refine TL.p Pu.ex ?_
 refine TL.p Pu.ex ?_
 refine TL.p Pu.ex ?_
 refine TL.p Pu.as ?_
 refine TL.p Pu.as ?_
 refine TL.p Pu.as ?_
 refine TL.p Pu.as ?_
 refine TL.nil (TQ.thenN (hY21 _ _ ?_))
 refine TW.seq fun Y22 hY22 => TW.region ?_
 refine TL.cr rfl (enters Tryz.func18 rfl rfl) (fun w hw => by
  exact span2_any _ _ _) ?_
 refine TL.cr rfl (enters Tryz.func38 rfl rfl) (fun w hw => by
  exact row2_any _) ?_
 refine TL.cr rfl (enters Tryz.func38 rfl rfl) (fun w hw => by
  exact row2_any _) ?_
 refine TL.m Mk.bl ?_
 intro b8
 refine TL.call (M := []) rfl (enters Tryz.func30 rfl rfl) (List.Perm.refl _) rfl (fun w hw => by
  exact exTlC (E := 71) (n := 2) (f := fun _ => exR 4) (OwnR.of_blk (cs := [.int .i64 1, .int .i64 2, .int .i64 0, .int .i64 0, .int .i64 0, .int .i64 0, .int .i64 0, .int .i64 4, .int .i64 0, .int .i64 0, .int .i64 0, .int .i64 0, .int .i64 11, .int .i64 11, .int .i64 1, .int .i64 2, .int .i64 0, .int .i64 0, .int .i64 0, .int .i64 0, .int .i64 0, .int .i64 4, .int .i64 0, .int .i64 0, .int .i64 0, .int .i64 0, .int .i64 11, .int .i64 11]) (hw.holds _ (List.mem_cons_self ..)) rfl (fun _ _ => rfl) rfl rfl) (by decide) eTly2.2.2.1) ?_
 rintro ⟨P21, p21, Q21, q21⟩
 dsimp only [List.cons_append, List.nil_append]
 refine TL.p Pu.mv ?_
 refine TL.p Pu.ex ?_
 refine TL.p Pu.ex ?_
 refine TL.p Pu.ex ?_
 refine TL.p Pu.ex ?_
 refine TL.p Pu.as ?_
 refine TL.p Pu.as ?_
 refine TL.p Pu.as ?_
 refine TL.p Pu.as ?_
 refine TL.nil (TQ.thenN (hY22 _ _ ?_))
 refine TW.seq fun Y23 hY23 => ?_
 refine TW.expl (fun (_ : Unit) => ([(31, .int .i64 4), (2, .int .i64 21), (4, .int .i64 23), (6, .int .i64 4), (8, .int .i64 22), (12, .int .i64 2), (15, .int .i64 6), (19, .int .i64 2), (23, .int .i64 24), (22, .int .i64 1), (27, .int .i64 0), (26, .int .i64 0)] : Fr)) (fun (_ : Unit) => []) Drop.done ?_ (fun hE => ?_)
 rintro ⟨⟩
 refine TQ.thenN (hY23 _ _ ?_)
 refine TW.seq fun Y24 hY24 => TW.region ?_
 refine TL.p Pu.mv ?_
 refine TL.p Pu.eq ?_
 refine TL.lit (t := 177) (b' := true) rfl (rfl) ?_
 refine TL.p Pu.mv ?_
 refine TL.gd Pu.mv ?_
 refine TL.gd Pu.eq ?_
 refine TL.lit (t := 180) (b' := true) rfl (rfl) ?_
 refine TL.p Pu.kt ?_
 refine TL.p Pu.mv ?_
 refine TL.gd Pu.mv ?_
 refine TL.gd Pu.eq ?_
 refine TL.lit (t := 184) (b' := true) rfl (rfl) ?_
 refine TL.p Pu.kt ?_
 refine TL.p Pu.mv ?_
 refine TL.gd Pu.mv ?_
 refine TL.gd Pu.eq ?_
 refine TL.lit (t := 188) (b' := true) rfl (rfl) ?_
 refine TL.p Pu.kt ?_
 refine TL.p Pu.mv ?_
 refine TL.gd Pu.mv ?_
 refine TL.gd Pu.eq ?_
 refine TL.lit (t := 192) (b' := true) rfl (rfl) ?_
 refine TL.p Pu.kt ?_
 refine TL.p Pu.mv ?_
 refine TL.gd Pu.mv ?_
 refine TL.gd Pu.eq ?_
 refine TL.lit (t := 196) (b' := true) rfl (rfl) ?_
 refine TL.p Pu.kt ?_
 refine TL.p Pu.mv ?_
 refine TL.gd Pu.mv ?_
 refine TL.gd Pu.eq ?_
 refine TL.lit (t := 200) (b' := true) rfl (rfl) ?_
 refine TL.p Pu.kt ?_
 refine TL.p Pu.mv ?_
 refine TL.gd Pu.mv ?_
 refine TL.gd Pu.eq ?_
 refine TL.lit (t := 204) (b' := true) rfl (rfl) ?_
 refine TL.p Pu.kt ?_
 refine TL.p Pu.mv ?_
 refine TL.gd Pu.mv ?_
 refine TL.gd Pu.eq ?_
 refine TL.lit (t := 208) (b' := true) rfl (rfl) ?_
 refine TL.p Pu.kt ?_
 refine TL.p Pu.mv ?_
 refine TL.gd Pu.mv ?_
 refine TL.gd Pu.eq ?_
 refine TL.lit (t := 212) (b' := true) rfl (rfl) ?_
 refine TL.p Pu.kt ?_
 refine TL.p Pu.mv ?_
 refine TL.gd Pu.mv ?_
 refine TL.gd Pu.eq ?_
 refine TL.lit (t := 216) (b' := true) rfl (rfl) ?_
 refine TL.p Pu.kt ?_
 refine TL.p Pu.mv ?_
 refine TL.gd Pu.mv ?_
 refine TL.gd Pu.eq ?_
 refine TL.lit (t := 220) (b' := true) rfl (rfl) ?_
 refine TL.p Pu.kt ?_
 refine TL.p Pu.mv ?_
 refine TL.ung rfl ?_
 refine TL.ms ty_et22 ty_zr46 ?_
 intro b99
 refine TL.cr rfl (enters Tryz.func39 rfl rfl) (fun w hw => by
  exact exChO (a := fun _ => none) (c := fun _ => 0) ⟨by decide, OwnR.rdr (hw.holds (.own (some ⟨b99, 0, none⟩) 2 2 46 5 (fun i => anL exO (fun _ => none) (fun _ => 0) i)) (Pick.mem pk9)), fun i hi => rdr_nil, fun i hi => Nat.zero_le _⟩) ?_
 refine TL.gd Pu.eq ?_
 refine TL.lit (t := 225) (b' := true) rfl (rfl) ?_
 refine TL.p Pu.kt ?_
 refine TL.p Pu.as ?_
 refine TL.nil (TQ.thenN (hY24 _ _ ?_))
 refine TW.ret ?_
 refine TQ.ret Tryz.results11 rfl ((.tmp rfl .nil)) ?_
 exact fun w hw => Ret.of hw
 refine RG.a2 0 1 rfl rfl (fun X0 hX0 => ?_) (fun X1 hX1 => ?_)
 refine TL.cr rfl (enters Tryz.func18 rfl rfl) (fun w hw => by
  exact span2_any _ _ _) ?_
 refine TL.nil ?_
 refine TQ.nxt (hX0 _ _ hl9 ?_)
 refine RG.a1 1 rfl (fun X1 hX1 => ?_)
 refine TL.ms ty_et69 ty_zr71 ?_
 intro b1
 refine TL.nil ?_
 refine TQ.nxt (hX1 _ _ hl9 ?_)
 refine RG.a1 2 rfl (fun X2 hX2 => ?_)
 refine TL.call (M := []) rfl (enters Tryz.func30 rfl rfl) (List.Perm.refl _) rfl (fun w hw => by
  exact exTlC (E := 71) (n := 41) (f := fun _ _ => 0) (hw.holds (.own (some ⟨b1, 0, none⟩) 41 41 71 14 (fun i => rowL ((fun _ _ => (0 : Int)) i))) (Pick.mem pk9)) (by decide) eTly2.2.2.2) ?_
 rintro ⟨P22, p22, Q22, q22⟩
 dsimp only [List.cons_append, List.nil_append]
 refine TL.nil ?_
 refine TQ.nxt (hX2 _ _ hl9 ?_)
 refine RG.tk 3 rfl Pu.mv ?_
 refine RG.tk 4 rfl Pu.ex ?_
 refine RG.tk 5 rfl Pu.ex ?_
 refine RG.tk 6 rfl Pu.ex ?_
 refine RG.tk 7 rfl Pu.ex ?_
 refine RG.tk 8 rfl Pu.as ?_
 refine RG.tk 9 rfl Pu.as ?_
 refine RG.tk 10 rfl Pu.as ?_
 refine RG.tk 11 rfl Pu.as ?_
 exact RG.nil (TQ.sub fs9 kt9 (hE ⟨⟩)) (by kernel_rfl)
 refine TL.ms ty_et69 ty_zr71 ?_
 intro b1
 refine TL.nil ?_
 refine TQ.nxt (hX1 _ _ hl9 ?_)
 refine RG.a1 0 rfl (fun X0 hX0 => ?_)
 refine TL.cr rfl (enters Tryz.func18 rfl rfl) (fun w hw => by
  exact span2_any _ _ _) ?_
 refine TL.nil ?_
 refine TQ.nxt (hX0 _ _ hl9 ?_)
 refine RG.a1 2 rfl (fun X2 hX2 => ?_)
 refine TL.call (M := []) rfl (enters Tryz.func30 rfl rfl) (List.Perm.refl _) rfl (fun w hw => by
  exact exTlC (E := 71) (n := 41) (f := fun _ _ => 0) (hw.holds (.own (some ⟨b1, 0, none⟩) 41 41 71 14 (fun i => rowL ((fun _ _ => (0 : Int)) i))) (Pick.mem pk9)) (by decide) eTly2.2.2.2) ?_
 rintro ⟨P22, p22, Q22, q22⟩
 dsimp only [List.cons_append, List.nil_append]
 refine TL.nil ?_
 refine TQ.nxt (hX2 _ _ hl9 ?_)
 refine RG.tk 3 rfl Pu.mv ?_
 refine RG.tk 4 rfl Pu.ex ?_
 refine RG.tk 5 rfl Pu.ex ?_
 refine RG.tk 6 rfl Pu.ex ?_
 refine RG.tk 7 rfl Pu.ex ?_
 refine RG.tk 8 rfl Pu.as ?_
 refine RG.tk 9 rfl Pu.as ?_
 refine RG.tk 10 rfl Pu.as ?_
 refine RG.tk 11 rfl Pu.as ?_
 exact RG.nil (TQ.sub fs9 kt9 (hE ⟨⟩)) (by kernel_rfl)
 refine RG.a2 0 1 rfl rfl (fun X0 hX0 => ?_) (fun X1 hX1 => ?_)
 refine TL.call (M := []) rfl (enters Tryz.func35 rfl rfl) (List.Perm.refl _) rfl (fun w hw => by
  exact herd2_any _) ?_
 rintro x15
 dsimp only [List.cons_append, List.nil_append]
 refine TL.nil ?_
 refine TQ.nxt (hX0 _ _ hl9 ?_)
 refine RG.a1 1 rfl (fun X1 hX1 => ?_)
 refine TL.ms ty_et37 ty_zr42 ?_
 intro b1
 refine TL.nil ?_
 refine TQ.nxt (hX1 _ _ hl9 ?_)
 refine RG.a1 2 rfl (fun X2 hX2 => ?_)
 refine TL.call (M := []) rfl (enters Tryz.func20 rfl rfl) (List.Perm.refl _) rfl (fun w hw => by
  exact exNmC (x := x15) (L := fun _ => exN 0) (la := fun _ => none) (lc := fun _ => 0) (dm := fun _ => 0) (yg := fun _ => 0) (hw.holds _ (Pick.mem pk9)) ⟨by decide, OwnR.rdr (hw.holds (.own (some ⟨b1, 0, none⟩) 5 5 42 4 (fun _ => [.slice none 0 0, .int .i64 0, .int .i64 0, .int .i64 0])) (Pick.mem pk9)), fun k hk => exN_in (by decide) rdr_nil⟩ ⟨by decide, rdr_nil⟩ eRest.2.2.2.2.2.2) ?_
 rintro y15
 dsimp only [List.cons_append, List.nil_append]
 refine TL.nil ?_
 refine TQ.nxt (hX2 _ _ hl9 ?_)
 refine RG.tk 3 rfl Pu.mv ?_
 refine RG.tk 4 rfl Pu.ex ?_
 refine RG.tk 5 rfl Pu.ex ?_
 refine RG.tk 6 rfl Pu.as ?_
 exact RG.nil (TQ.sub fs9 kt9 (hE ⟨⟩)) (by kernel_rfl)
 refine TL.ms ty_et37 ty_zr42 ?_
 intro b1
 refine TL.nil ?_
 refine TQ.nxt (hX1 _ _ hl9 ?_)
 refine RG.a1 0 rfl (fun X0 hX0 => ?_)
 refine TL.call (M := []) rfl (enters Tryz.func35 rfl rfl) (List.Perm.refl _) rfl (fun w hw => by
  exact herd2_any _) ?_
 rintro x15
 dsimp only [List.cons_append, List.nil_append]
 refine TL.nil ?_
 refine TQ.nxt (hX0 _ _ hl9 ?_)
 refine RG.a1 2 rfl (fun X2 hX2 => ?_)
 refine TL.call (M := []) rfl (enters Tryz.func20 rfl rfl) (List.Perm.refl _) rfl (fun w hw => by
  exact exNmC (x := x15) (L := fun _ => exN 0) (la := fun _ => none) (lc := fun _ => 0) (dm := fun _ => 0) (yg := fun _ => 0) (hw.holds _ (Pick.mem pk9)) ⟨by decide, OwnR.rdr (hw.holds (.own (some ⟨b1, 0, none⟩) 5 5 42 4 (fun _ => [.slice none 0 0, .int .i64 0, .int .i64 0, .int .i64 0])) (Pick.mem pk9)), fun k hk => exN_in (by decide) rdr_nil⟩ ⟨by decide, rdr_nil⟩ eRest.2.2.2.2.2.2) ?_
 rintro y15
 dsimp only [List.cons_append, List.nil_append]
 refine TL.nil ?_
 refine TQ.nxt (hX2 _ _ hl9 ?_)
 refine RG.tk 3 rfl Pu.mv ?_
 refine RG.tk 4 rfl Pu.ex ?_
 refine RG.tk 5 rfl Pu.ex ?_
 refine RG.tk 6 rfl Pu.as ?_
 exact RG.nil (TQ.sub fs9 kt9 (hE ⟨⟩)) (by kernel_rfl)
 refine RG.a2 0 1 rfl rfl (fun X0 hX0 => ?_) (fun X1 hX1 => ?_)
 refine TL.call (M := []) rfl (enters Tryz.func35 rfl rfl) (List.Perm.refl _) rfl (fun w hw => by
  exact herd2_any _) ?_
 rintro x14
 dsimp only [List.cons_append, List.nil_append]
 refine TL.nil ?_
 refine TQ.nxt (hX0 _ _ hl9 ?_)
 refine RG.a1 1 rfl (fun X1 hX1 => ?_)
 refine TL.ms ty_et24 ty_zr25 ?_
 intro b1
 refine TL.nil ?_
 refine TQ.nxt (hX1 _ _ hl9 ?_)
 refine RG.tk 2 rfl Pu.bd ?_
 refine RG.a1 3 rfl (fun X3 hX3 => ?_)
 refine TL.m Mk.bl ?_
 intro x3
 refine TL.nil ?_
 refine TQ.nxt (hX3 _ _ hl9 ?_)
 refine RG.a1 4 rfl (fun X4 hX4 => ?_)
 refine TL.call (M := []) rfl (enters Tryz.func20 rfl rfl) (List.Perm.refl _) rfl (fun w hw => by
  exact exNmC (x := x14) (L := fun _ => exN 8) (la := fun _ => some ⟨b1, 0, none⟩) (lc := fun _ => 8) (dm := fun _ => 0) (yg := fun _ => 0) (hw.holds _ (Pick.mem pk9)) ⟨by decide, RdR.blk (cs := [.slice (some ⟨b1, 0, none⟩) 8 8, .int .i64 0, .int .i64 0, .int .i64 0]) (n := 1) (sz := 4) (hw.holds (.blk x3 42 [.slice (some ⟨b1, 0, none⟩) 8 8, .int .i64 0, .int .i64 0, .int .i64 0]) (Pick.mem pk9)) rfl (fun _ _ => rfl), fun k hk => exN_in (by decide) (OwnR.rdr (hw.holds (.own (some ⟨b1, 0, none⟩) 8 8 25 1 (fun _ => [.int .u32 0])) (Pick.mem pk9)))⟩ ⟨by decide, rdr_nil⟩ eRest.2.2.2.2.2.1) ?_
 rintro y14
 dsimp only [List.cons_append, List.nil_append]
 refine TL.nil ?_
 refine TQ.nxt (hX4 _ _ hl9 ?_)
 refine RG.tk 5 rfl Pu.mv ?_
 refine RG.tk 6 rfl Pu.ex ?_
 refine RG.tk 7 rfl Pu.ex ?_
 refine RG.tk 8 rfl Pu.as ?_
 exact RG.nil (TQ.sub fs9 kt9 (hE ⟨⟩)) (by kernel_rfl)
 refine TL.ms ty_et24 ty_zr25 ?_
 intro b1
 refine TL.nil ?_
 refine TQ.nxt (hX1 _ _ hl9 ?_)
 refine RG.tk 2 rfl Pu.bd ?_
 refine RG.a2 0 3 rfl rfl (fun X0 hX0 => ?_) (fun X3 hX3 => ?_)
 refine TL.call (M := []) rfl (enters Tryz.func35 rfl rfl) (List.Perm.refl _) rfl (fun w hw => by
  exact herd2_any _) ?_
 rintro x14
 dsimp only [List.cons_append, List.nil_append]
 refine TL.nil ?_
 refine TQ.nxt (hX0 _ _ hl9 ?_)
 refine RG.a1 3 rfl (fun X3 hX3 => ?_)
 refine TL.m Mk.bl ?_
 intro x3
 refine TL.nil ?_
 refine TQ.nxt (hX3 _ _ hl9 ?_)
 refine RG.a1 4 rfl (fun X4 hX4 => ?_)
 refine TL.call (M := []) rfl (enters Tryz.func20 rfl rfl) (List.Perm.refl _) rfl (fun w hw => by
  exact exNmC (x := x14) (L := fun _ => exN 8) (la := fun _ => some ⟨b1, 0, none⟩) (lc := fun _ => 8) (dm := fun _ => 0) (yg := fun _ => 0) (hw.holds _ (Pick.mem pk9)) ⟨by decide, RdR.blk (cs := [.slice (some ⟨b1, 0, none⟩) 8 8, .int .i64 0, .int .i64 0, .int .i64 0]) (n := 1) (sz := 4) (hw.holds (.blk x3 42 [.slice (some ⟨b1, 0, none⟩) 8 8, .int .i64 0, .int .i64 0, .int .i64 0]) (Pick.mem pk9)) rfl (fun _ _ => rfl), fun k hk => exN_in (by decide) (OwnR.rdr (hw.holds (.own (some ⟨b1, 0, none⟩) 8 8 25 1 (fun _ => [.int .u32 0])) (Pick.mem pk9)))⟩ ⟨by decide, rdr_nil⟩ eRest.2.2.2.2.2.1) ?_
 rintro y14
 dsimp only [List.cons_append, List.nil_append]
 refine TL.nil ?_
 refine TQ.nxt (hX4 _ _ hl9 ?_)
 refine RG.tk 5 rfl Pu.mv ?_
 refine RG.tk 6 rfl Pu.ex ?_
 refine RG.tk 7 rfl Pu.ex ?_
 refine RG.tk 8 rfl Pu.as ?_
 exact RG.nil (TQ.sub fs9 kt9 (hE ⟨⟩)) (by kernel_rfl)
 refine TL.m Mk.bl ?_
 intro x3
 refine TL.nil ?_
 refine TQ.nxt (hX3 _ _ hl9 ?_)
 refine RG.a1 0 rfl (fun X0 hX0 => ?_)
 refine TL.call (M := []) rfl (enters Tryz.func35 rfl rfl) (List.Perm.refl _) rfl (fun w hw => by
  exact herd2_any _) ?_
 rintro x14
 dsimp only [List.cons_append, List.nil_append]
 refine TL.nil ?_
 refine TQ.nxt (hX0 _ _ hl9 ?_)
 refine RG.a1 4 rfl (fun X4 hX4 => ?_)
 refine TL.call (M := []) rfl (enters Tryz.func20 rfl rfl) (List.Perm.refl _) rfl (fun w hw => by
  exact exNmC (x := x14) (L := fun _ => exN 8) (la := fun _ => some ⟨b1, 0, none⟩) (lc := fun _ => 8) (dm := fun _ => 0) (yg := fun _ => 0) (hw.holds _ (Pick.mem pk9)) ⟨by decide, RdR.blk (cs := [.slice (some ⟨b1, 0, none⟩) 8 8, .int .i64 0, .int .i64 0, .int .i64 0]) (n := 1) (sz := 4) (hw.holds (.blk x3 42 [.slice (some ⟨b1, 0, none⟩) 8 8, .int .i64 0, .int .i64 0, .int .i64 0]) (Pick.mem pk9)) rfl (fun _ _ => rfl), fun k hk => exN_in (by decide) (OwnR.rdr (hw.holds (.own (some ⟨b1, 0, none⟩) 8 8 25 1 (fun _ => [.int .u32 0])) (Pick.mem pk9)))⟩ ⟨by decide, rdr_nil⟩ eRest.2.2.2.2.2.1) ?_
 rintro y14
 dsimp only [List.cons_append, List.nil_append]
 refine TL.nil ?_
 refine TQ.nxt (hX4 _ _ hl9 ?_)
 refine RG.tk 5 rfl Pu.mv ?_
 refine RG.tk 6 rfl Pu.ex ?_
 refine RG.tk 7 rfl Pu.ex ?_
 refine RG.tk 8 rfl Pu.as ?_
 exact RG.nil (TQ.sub fs9 kt9 (hE ⟨⟩)) (by kernel_rfl)
end Go.Proofs.YtbenhafhklfhmaaGreat
namespace Go.Proofs.YtbenhafhklfhmaaGreat
set_option linter.all false
set_option linter.unusedVariables false
set_option linter.unusedSimpArgs false
open Go.ChangeShapes Go.WideShapes Go.ChangeAt Go.RowKit Go.Deep
section
variable {H : Type} {enc : TypeId × Value → H} {P : Program} {w : World} {base : Nat} {spare : Nat → Bool} {held : Bool}
theorem trodAll_zero {args : Array Value} {ds : List (DataW H)} {ps : List MemPlace} (h : DataW.TrodAll enc P w base spare held [] args.toList ds ps) : args = #[] ∧ ds = [] ∧ ps = [] := trodAll_none h
end
end Go.Proofs.YtbenhafhklfhmaaGreat
namespace Go.Proofs.YtbenhafhklfhmaaGreat
set_option linter.all false
set_option linter.unusedVariables false
set_option linter.unusedSimpArgs false
open Go.ChangeShapes Go.WideShapes Go.ChangeAt Go.RowKit Go.Deep
theorem Tryz.own : ownKnob Tryz.prog.godebug = none := by kernel_rfl
theorem Tryz.laidOut : laidOutB Tryz.prog = true := by kernel_rfl
set_option maxRecDepth 100000 in
theorem brandExamples_lifted (os : Os) (started : os.Started) (H : Type) (enc : TypeId × Value → H) :
    ReturnsInHanded {} Tryz.checked os 11 .any (Rows.brandExamplesSpec.pre6 enc Tryz.prog Tryz.f11 Rows.brandExamplesRow.domain false) (Rows.brandExamplesSpec.post enc Tryz.prog Tryz.f11 false true false false) := by
  refine returnsInHanded_of_change (C := Tryz.checked) Tryz.own started (by kernel_rfl) Tryz.func11
    (ChangeSpec.witness6 (enc := enc) (C := Tryz.checked) false ⟨#[], #[], []⟩ 8 (by kernel_rfl) (by kernel_rfl) (by kernel_rfl) (by kernel_rfl)) ?_
  intro W base args ds gs before hval0 hW hcnd _
  have hval : ∀ (j : Nat) t v, Tryz.f11.params[j]? = some t → args[j]? = some v → Value.okWide Tryz.prog W .any base t v := hval0
  have hW' := hW
  obtain ⟨p, q, hA0, hV, rfl, hfz, hnd⟩ := hW
  have hA : DataW.TrodAll enc Tryz.prog W 0 (fun _ => true) true Tryz.f11.params.toList args.toList ds p := hA0
  have hA1 := hA
  rw [Tryz.params11] at hA hval
  obtain ⟨rfl, rfl, rfl⟩ := trodAll_zero hA
  obtain ⟨rfl, rfl⟩ := trodVars_none hV
  clear hA0 hval0
  simp only [List.append_nil] at hW'
  refine (lawExam_any W).mono ?_
  rintro e W' ⟨rfl, hb⟩
  exact ⟨_, rfl, law_post Tryz.laidOut rfl hW' hA1 (by kernel_rfl) (by kernel_rfl) Tryz.underlying4 rfl hb⟩
theorem brandExamples_holds : Rows.BrandExamplesSaid :=
  OpenClaim.holds_of_wide 11 Tryz.f11 rfl rfl rfl rfl rfl rfl rfl ⟨rfl, rfl, rfl, rfl, rfl⟩ rfl rfl rfl rfl rfl (by kernel_rfl) Tryz.func11 (by kernel_rfl)
    (of_decide_eq_true (by kernel_rfl)) (by unfold Func.isWrapper; first | (rw [if_pos (by decide +kernel)]; kernel_rfl) | (rw [if_neg (by decide +kernel)]; exact ⟨rfl, rfl⟩))
    (fun os started H enc _ => brandExamples_lifted os started H enc)
end Go.Proofs.YtbenhafhklfhmaaGreat
