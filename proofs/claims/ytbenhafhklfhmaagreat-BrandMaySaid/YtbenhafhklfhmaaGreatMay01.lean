/-
  Part 1 of the proof of brandMay_holds: declarations of several texts, in build order. No condition on a program.
-/
import Derived.Test.YtbenhafhklfhmaaGreatAl01
import Derived.Test.YtbenhafhklfhmaaGreatAl02
import Derived.Test.YtbenhafhklfhmaaGreatAl03
import Derived.Test.YtbenhafhklfhmaaGreatAl04
import Derived.Test.YtbenhafhklfhmaaGreatAl05
import Derived.Test.YtbenhafhklfhmaaGreatAl06
import Derived.Test.YtbenhafhklfhmaaGreatAl07
import Derived.Test.YtbenhafhklfhmaaGreatAl08
import Derived.Test.YtbenhafhklfhmaaGreatAl09
import Derived.Test.YtbenhafhklfhmaaGreatAl10
import Derived.Test.YtbenhafhklfhmaaGreatAl11
import Derived.Test.YtbenhafhklfhmaaGreatRows
import Derived.WalkKit
import Derived.WalkSpells
import Derived.WalkLawsBesides
import Derived.Deep.QuietTactic
import Derived.BigQuiet
import Derived.OrdersHeld
import Derived.Maps.AppendAt
import Derived.OwnWalk
import Derived.Lib.SliceRun
import Derived.RangeFuncNested
import Derived.RangeFuncBound
import Derived.RangeFuncCalls
import Derived.RangeFuncLeaves
import Derived.OwnWalkIn
import Derived.TacticsInMore
import Derived.LoopNIn
import Derived.LoopIn
import Derived.OrdersIn
import Derived.Deep.LoopGhost
import Derived.MapKept
import Derived.Carry
import Derived.Lib.AppendZerosOnto
import Derived.Laws.OwnMore
import Derived.Sort.Grow
import Derived.Shelf.Small.Bits
import Derived.Shelf.Strconv.Itoa0
import Derived.Ground.SlsfProg
import Derived.Shelf.SlSortCmp.Insertion
import Derived.Ground.SlgmProg
import Derived.Shelf.SortM.Plain
import Derived.Shelf.SortM.SortNone
import Derived.Shelf.SlSortCmp.SiftDown1
import Derived.Shelf.SlSortCmp.HeapSort1
import Derived.Shelf.SlSortCmp.Insertion1
import Derived.Shelf.SlSortCmp.Median1
import Derived.Shelf.SlSortCmp.Pivot1
import Derived.Shelf.SlSortCmp.ReverseRange1
import Derived.Shelf.SlSortCmp.PartialInsertion1
import Derived.Shelf.SlSortCmp.PartitionEqual1
import Derived.Shelf.SlSortCmp.Partition1
import Derived.Shelf.SlSortCmp.Pdq1
import Derived.Shelf.SlSortCmp.Whole1
import Derived.Shelf.SlSortCmp.NoneTotal
import Derived.Test.YtbenhafhklfhmaaGreatProg
import Derived.IntWalk
import Derived.Deep.RegionHeld3
import Derived.BigRegion
import Derived.Deep.DeepMust
import Derived.ProofKit
import Derived.Deep.Slices
import Derived.ChangeKeysEq
namespace Go.Proofs.YtbenhafhklfhmaaGreat
set_option linter.all false
set_option linter.unusedVariables false
set_option linter.unusedSimpArgs false
open Go.RowKit
section
variable {c : Cx} {F : Fr} {K K' : List Fact} {d : Option Tmp} {ty : TypeId} {pos : String} {af : Array Edge} {g : Option (Nat × Bool)}
section
variable {x y : Operand} {xt yt : TypeId} {i j : Int} {k : IntKind}
theorem Pu.mul (hx : ev F x = some (.int .i64 i)) (hy : ev F y = some (.int .i64 j)) (h : -9223372036854775808 ≤ i * j ∧ i * j ≤ 9223372036854775807) : Pu c F K ⟨d, .binOp .mul xt x y yt, ty, pos, af, g⟩ (.int .i64 (i * j)) :=
  Pu.arith hx hy (fun w => by rw [Op.intArith, IntWalk.i64_in _ h]; rfl) trivial
end
end
end Go.Proofs.YtbenhafhklfhmaaGreat
namespace Go.Proofs.YtbenhafhklfhmaaGreat
set_option linter.all false
set_option linter.unusedVariables false
set_option linter.unusedSimpArgs false
open Go.RowKit
section
variable {c : Cx} {Q : Exit → Act → World → Prop} {F F' : Fr} {K K' : List Fact} {ops : Array Oper} {rest : List Oper} {d : Option Tmp} {ty : TypeId} {pos : String} {af : Array Edge} {g : Option (Nat × Bool)} {nf k fuel : Nat} {pend : List (Nat × Oper)} {fl : List Fl} {listed : Array Bool} {bs : List Bool} {op : Op} {t : Nat}
section
variable {x y : Operand} {xt yt : TypeId} {i j : Int} {kk : IntKind}
theorem Pu.ml (hx : ev F x = some (.int .i64 i) := by rfl) (hy : ev F y = some (.int .i64 j) := by rfl) (h : -9223372036854775808 ≤ i * j ∧ i * j ≤ 9223372036854775807 := by omega) : Pu c F K ⟨d, .binOp .mul xt x y yt, ty, pos, af, g⟩ (.int .i64 (i * j)) := Pu.mul hx hy h
end
end
end Go.Proofs.YtbenhafhklfhmaaGreat
namespace Go.Proofs.YtbenhafhklfhmaaGreat
set_option linter.all false
set_option linter.unusedVariables false
set_option linter.unusedSimpArgs false
open Go.RowKit
section
variable {c : Cx} {Q : Exit → Act → World → Prop} {F F' : Fr} {K K' K0 : List Fact} {ops : Array Oper} {rest : List Oper} {d : Option Tmp} {ty : TypeId} {pos : String} {af : Array Edge} {g : Option (Nat × Bool)} {k fuel t : Nat} {pend : List (Nat × Oper)} {listed : Array Bool} {op : Op}
theorem Pu.qu {x y : Operand} {xt yt : TypeId} {i j : Int} (hx : ev F x = some (.int .i64 i) := by rfl) (hy : ev F y = some (.int .i64 j) := by rfl) (h0 : 0 ≤ i ∧ i ≤ 9223372036854775807 ∧ 0 < j := by omega) : Pu c F K ⟨d, .binOp .quo xt x y yt, ty, pos, af, g⟩ (.int .i64 (i / j)) := Pu.bin hx hy fun w => by
  obtain ⟨h0, h1, h2⟩ := h0
  have hj : j ≠ 0 := by omega
  have e : i.tdiv j = i / j := Int.tdiv_eq_ediv_of_nonneg h0
  have h3 : 0 ≤ i / j := Int.ediv_nonneg h0 (by omega)
  have h4 : i / j ≤ i := Int.ediv_le_self j h0
  simp only [eqGuard, binOp, Op.intDiv, hj, if_false, e, IntWalk.i64_in (i / j) (by omega)]
  rfl
end
end Go.Proofs.YtbenhafhklfhmaaGreat
namespace Go.Proofs.YtbenhafhklfhmaaGreat
set_option linter.all false
set_option linter.unusedVariables false
set_option linter.unusedSimpArgs false
open Go.RowKit Go.MapKept
section
variable {c : Cx} {Q : Exit → Act → World → Prop} {F F' : Fr} {K K' K0 : List Fact} {ops : Array Oper} {rest : List Oper} {d : Option Tmp} {ty : TypeId} {pos : String} {af : Array Edge} {g : Option (Nat × Bool)} {k fuel t nf : Nat} {pend : List (Nat × Oper)} {listed : Array Bool} {bs : List Bool} {fl : List Fl} {op : Op}
theorem Pu.lkS {x y : Operand} {T kt et : TypeId} {kk : IntKind} {b : Nat} {i : Int} {z v : Value} {l : List (Int × Value)} (hT : MapT c.P T kt et kk) (hz : ∀ w, (zeroValue et).run c.P w = .ok z w) (hl : mlook i l = some v) (hx : ev F x = some (.map (some b)) := by rfl) (hy : ev F y = some (.int kk i) := by rfl)
    (hp : Pick K (.obj b (mapO kk l)) K' := by repeat (first | exact Pick.hd | apply Pick.tl)) : Pu c F K ⟨d, .lookup T x y true, ty, pos, af, g⟩ (.tuple #[v, .bool true]) := fun a w hF hK => by
  have hb : w.heap[b]? = some (mapO kk l) := (hK.holds _ hp.mem).1
  have hr := run_lookup_o (i := i) hT hb (hz w) true
  simp [execOp, hF.evl hx, hF.evl hy, hr, hl]
theorem Pu.l1S {x y : Operand} {T kt et : TypeId} {kk : IntKind} {b : Nat} {i : Int} {z v : Value} {l : List (Int × Value)} (hT : MapT c.P T kt et kk) (hz : ∀ w, (zeroValue et).run c.P w = .ok z w) (hl : mlook i l = some v) (hx : ev F x = some (.map (some b)) := by rfl) (hy : ev F y = some (.int kk i) := by rfl)
    (hp : Pick K (.obj b (mapO kk l)) K' := by repeat (first | exact Pick.hd | apply Pick.tl)) : Pu c F K ⟨d, .lookup T x y false, ty, pos, af, g⟩ v := fun a w hF hK => by
  have hb : w.heap[b]? = some (mapO kk l) := (hK.holds _ hp.mem).1
  have hr := run_lookup_o (i := i) hT hb (hz w) false
  simp [execOp, hF.evl hx, hF.evl hy, hr, hl]
end
end Go.Proofs.YtbenhafhklfhmaaGreat
namespace Go.Proofs.YtbenhafhklfhmaaGreat
set_option linter.all false
set_option linter.unusedVariables false
set_option linter.unusedSimpArgs false
section
variable {f : Nat → Int} {n : Nat} {S C : BSt} {i : Nat}
end
section
variable {f : Nat → Int} {n : Nat} {S R : BSt}
def wid (S : BSt) : Nat → Nat
 | 0 => 0
 | n + 1 => wid S n + ((S n).2 - (S n).1 + 1).toNat
theorem wid_lt {S S' : BSt} : ∀ {n}, (∀ i, i < n → ((S' i).2 - (S' i).1 + 1).toNat ≤ ((S i).2 - (S i).1 + 1).toNat) → wid S' n ≤ wid S n ∧ ((∃ i, i < n ∧ ((S' i).2 - (S' i).1 + 1).toNat < ((S i).2 - (S i).1 + 1).toNat) → wid S' n < wid S n)
  | 0, _ => ⟨Nat.le_refl _, fun ⟨i, hi, _⟩ => absurd hi (Nat.not_lt_zero i)⟩
  | n + 1, h => by
    obtain ⟨h1, h2⟩ := wid_lt (S := S) (S' := S') (n := n) fun i hi => h i (by omega)
    have h3 := h n (by omega)
    refine ⟨by simp only [wid]; omega, fun ⟨i, hi, hlt⟩ => ?_⟩
    by_cases e : i = n
    · subst e; simp only [wid]; omega
    · have := h2 ⟨i, by omega, hlt⟩
      simp only [wid]; omega
def nrA (S : BSt) (i m : Nat) : Int × Int := comm (S i) (shf (S m) 1400 10000)
def nrB (S : BSt) (i m : Nat) : Int × Int := comm (S m) (shf (S i) (-10000) (-1400))
def nrS (S : BSt) (i m : Nat) : BSt := putS1 (putS1 S i (nrA S i m)) m (nrB S i m)
theorem nr_sub {i m : Nat} : SubS n (nrS S i m) S := fun j hj => by
 unfold nrS
 by_cases e : j = m
 · subst e; rw [putS1_at]; unfold nrB comm shf; dsimp only; omega
 · rw [putS1_ne e]
   by_cases e2 : j = i
   · subst e2; rw [putS1_at]; unfold nrA comm shf; dsimp only; omega
   · rw [putS1_ne e2]; omega
theorem nr_top {C : BSt} {i : Nat} (hf : Mo f n) (hc : Con f n C) (hi : i < n) (h0 : 0 ≤ f i) (h : SubS n C S) : SubS n C (nrS S i (f i).toNat) := fun j hj => by
 have h1 := hc i hi h0
 have h2 := h i hi
 have h3 := h (f i).toNat (by have := hf i hi; omega)
 unfold nrS
 by_cases e : j = (f i).toNat
 · rw [e, putS1_at]; unfold nrB comm shf; dsimp only; omega
 · rw [putS1_ne e]
   by_cases e2 : j = i
   · rw [e2, putS1_at]; unfold nrA comm shf; dsimp only; omega
   · rw [putS1_ne e2]; exact h j hj
theorem nr_wid {i m : Nat} (hi : i < n) (hm : m < n) (him : i ≠ m) (hA : (nrA S i m).1 ≤ (nrA S i m).2) (hB : (nrB S i m).1 ≤ (nrB S i m).2) (h : nrA S i m ≠ S i ∨ nrB S i m ≠ S m) : wid (nrS S i m) n < wid S n := by
 refine (wid_lt (S := S) (S' := nrS S i m) fun j hj => ?_).2 ?_
 · have := nr_sub (n := n) (S := S) (i := i) (m := m) j hj
   omega
 · have hai := nr_sub (n := n) (S := S) (i := i) (m := m) i hi
   have hbm := nr_sub (n := n) (S := S) (i := i) (m := m) m hm
   have ei : nrS S i m i = nrA S i m := by unfold nrS; rw [putS1_ne him, putS1_at]
   have em : nrS S i m m = nrB S i m := putS1_at
   rw [ei] at hai
   rw [em] at hbm
   rcases h with h | h
   · refine ⟨i, hi, ?_⟩
     rw [ei]
     have hne : ¬ ((nrA S i m).1 = (S i).1 ∧ (nrA S i m).2 = (S i).2) := fun e => h (Prod.ext e.1 e.2)
     omega
   · refine ⟨m, hm, ?_⟩
     rw [em]
     have hne : ¬ ((nrB S i m).1 = (S m).1 ∧ (nrB S i m).2 = (S m).2) := fun e => h (Prod.ext e.1 e.2)
     omega
theorem nr_same {i m : Nat} (h1 : nrA S i m = S i) (h2 : nrB S i m = S m) : ((S m).1 + 1400 ≤ (S i).1 ∧ (S i).2 ≤ (S m).2 + 10000 ∧ (S i).1 - 10000 ≤ (S m).1 ∧ (S m).2 ≤ (S i).2 - 1400) ∧ nrS S i m = S := by
 refine ⟨?_, ?_⟩
 · unfold nrA nrB comm shf at *
   have a1 := congrArg Prod.fst h1
   have a2 := congrArg Prod.snd h1
   have b1 := congrArg Prod.fst h2
   have b2 := congrArg Prod.snd h2
   dsimp only at *
   omega
 · funext j
   unfold nrS
   by_cases e : j = m
   · rw [e, putS1_at, h2]
   · rw [putS1_ne e]
     by_cases e2 : j = i
     · rw [e2, putS1_at, h1]
     · rw [putS1_ne e2]
end
end Go.Proofs.YtbenhafhklfhmaaGreat
namespace Go.Proofs.YtbenhafhklfhmaaGreat
set_option linter.all false
set_option linter.unusedVariables false
set_option linter.unusedSimpArgs false
open Go.RowKit
theorem mem_srt {L : List Int} {x : Int} : x ∈ srt L ↔ x ∈ L := (srt_perm L).mem_iff
end Go.Proofs.YtbenhafhklfhmaaGreat
namespace Go.Proofs.YtbenhafhklfhmaaGreat
set_option linter.all false
set_option linter.unusedVariables false
set_option linter.unusedSimpArgs false
open Go.RowKit
theorem cmpL_mem {t : Int} : ∀ L : List Int, t ∈ cmpL L ↔ t ∈ L
 | [] => by simp [cmpL]
 | a :: l => by
  have ih := cmpL_mem (t := t) l
  simp only [cmpL]
  split
  · next h =>
    rw [h] at ih
    simp only [List.not_mem_nil, false_iff] at ih
    simp [ih]
  · next b m h =>
    rw [h] at ih
    split
    · next e =>
      subst e
      rw [ih]
      simp only [List.mem_cons] at ih ⊢
      exact ⟨fun h => .inr h, fun h => h.elim (fun e => ih.1 (.inl e)) id⟩
    · rw [List.mem_cons, ih, List.mem_cons]
theorem cmpL_le : ∀ L : List Int, (cmpL L).length ≤ L.length
 | [] => by simp [cmpL]
 | [a] => by simp [cmpL]
 | a :: b :: m => by
  have ih := cmpL_le (b :: m)
  rw [cmpL_cons]
  split
  · simp only [List.length_cons] at ih ⊢; omega
  · simp only [List.length_cons] at ih ⊢; omega
section
variable {c : Cx} {F : Fr} {K K' : List Fact} {d : Option Tmp} {ty : TypeId} {pos : String} {af : Array Edge} {g : Option (Nat × Bool)}
end
end Go.Proofs.YtbenhafhklfhmaaGreat
namespace Go.Proofs.YtbenhafhklfhmaaGreat
set_option linter.all false
set_option linter.unusedVariables false
set_option linter.unusedSimpArgs false
section
variable {H : Hd} {L : Nat → Lk} {nc nl : Nat} {dm yg : Nat → Int} {f : Nat → Int} {n : Nat} {S S' : BSt}
end
theorem asc_uniq : ∀ {A B : List Int}, A.Pairwise (· < ·) → B.Pairwise (· < ·) → (∀ x, x ∈ A ↔ x ∈ B) → A = B
 | A, B, hA, hB, h => by
  refine List.Perm.eq_of_pairwise (le := (· ≤ ·)) (fun a b _ _ h1 h2 => Int.le_antisymm h1 h2) (hA.imp (by intro a b h; omega)) (hB.imp (by intro a b h; omega)) ?_
  have nA : A.Nodup := hA.imp (by intro a b h e; omega)
  have nB : B.Nodup := hB.imp (by intro a b h e; omega)
  exact (List.perm_ext_iff_of_nodup nA nB).2 h
theorem cmpL_asc : ∀ {A : List Int}, A.Pairwise (· ≤ ·) → (cmpL A).Pairwise (· < ·)
 | [], _ => List.Pairwise.nil
 | [a], _ => by simp [cmpL]
 | a :: b :: m, h => by
  have h1 := List.pairwise_cons.1 h
  have ih := cmpL_asc h1.2
  rw [cmpL_cons]
  split
  · exact ih
  · rename_i hab
    refine List.pairwise_cons.2 ⟨fun z hz => ?_, ih⟩
    have hz := (cmpL_mem (b :: m)).1 hz
    have h2 := h1.1 b (by simp)
    rcases List.mem_cons.1 hz with rfl | hz
    · omega
    · have h3 := (List.pairwise_cons.1 h1.2).1 z hz
      omega
theorem ascL_mem {A : List Int} {x : Int} : x ∈ ascL A ↔ x ∈ A := by unfold ascL; rw [cmpL_mem, mem_srt]
theorem ascL_asc {A : List Int} : (ascL A).Pairwise (· < ·) := cmpL_asc (srt_mono A)
theorem ascL_le {A : List Int} : (ascL A).length ≤ A.length := by
 have := cmpL_le (srt A)
 rw [srt_len] at this
 exact this
theorem idsL_mem {H : Hd} {A : List Nat} {x : Int} : x ∈ idsL H A ↔ ∃ i, i ∈ A ∧ H.id i = x := by unfold idsL; rw [ascL_mem, List.mem_map]
theorem idsL_asc {H : Hd} {A : List Nat} : (idsL H A).Pairwise (· < ·) := ascL_asc
theorem nmL_mem {H : Hd} {nl : Nat} {L : Nat → Lk} {nc : Nat} {dm yg : Nat → Int} {k : Nat} {x : Int} (hk : HOk H) (hc : cvB nl nc dm yg = true) : x ∈ nmL H nl L nc dm yg k ↔ ∃ a, Vld H L nl nc dm yg a ∧ H.id (a.getD k 0) = x := by
 unfold nmL nmR
 rw [idsL_mem]
 constructor
 · rintro ⟨i, hi, e⟩
   obtain ⟨a, ha, rfl⟩ := List.mem_map.1 hi
   exact ⟨a, (srch_vld hk hc).1 ha, e⟩
 · rintro ⟨a, ha, e⟩
   exact ⟨_, List.mem_map.2 ⟨a, (srch_vld hk hc).2 ha, rfl⟩, e⟩
end Go.Proofs.YtbenhafhklfhmaaGreat
namespace Go.Proofs.YtbenhafhklfhmaaGreat
set_option linter.all false
set_option linter.unusedVariables false
set_option linter.unusedSimpArgs false
section
variable {H : Hd} {L : Nat → Lk} {nc nl : Nat} {dm yg : Nat → Int}
def nm1B (H : Hd) (L : Nat → Lk) (x : List Nat) (i : Nat) : Bool := (allB i fun k => !decide (x.getD k 0 = x.getD i 0)) && maB H (L i) (x.getD i 0)
def nm2B (H : Hd) (dm yg : Nat → Int) (x : List Nat) (c : Nat) : Bool := decide (H.mo (x.getD (yg c).toNat 0) = H.id (x.getD (dm c).toNat 0))
def nmdB (H : Hd) (L : Nat → Lk) (nl nc : Nat) (dm yg : Nat → Int) (x : List Nat) : Bool := allB nl (nm1B H L x) && allB nc (nm2B H dm yg x) && bthOk (moH H) H.n (nrw L (bornH H) 0 x)
theorem mo_id (hk : HOk H) {i j : Nat} (hi : i < H.n) (hj : j < H.n) : H.mo i = H.id j ↔ moH H i = (j : Int) := by
 have hid := hk.id j hj
 constructor
 · intro h
   unfold moH
   rw [if_neg (by omega), h]
   exact hk.at_ j hj
 · intro h
   have h0 : 0 ≤ moH H i := by omega
   obtain ⟨h1, h2, h3⟩ := hk.mid hi h0
   rw [← h1, h]
   simp
theorem nmdB_iff (hk : HOk H) (hc : cvB nl nc dm yg = true) {x : List Nat} (hx : x.length = nl) (hb : ∀ k, k < nl → x.getD k 0 < H.n) : nmdB H L nl nc dm yg x = true ↔ Vld H L nl nc dm yg x := by
 have hc : ∀ c, c < nc → (0 ≤ dm c ∧ dm c < nl) ∧ (0 ≤ yg c ∧ yg c < nl) := fun c h => by
   have := allB_iff.1 hc c h
   simp only [inB5, Bool.and_eq_true, decide_eq_true_eq] at this
   omega
 unfold nmdB
 simp only [Bool.and_eq_true, allB_iff]
 constructor
 · rintro ⟨⟨h1, h2⟩, h3⟩
   have h1' : ∀ i, i < nl → (∀ k, k < i → x.getD k 0 ≠ x.getD i 0) ∧ maB H (L i) (x.getD i 0) = true := fun i hi => by
     have := h1 i hi
     unfold nm1B at this
     simp only [Bool.and_eq_true, allB_iff, Bool.not_eq_true', decide_eq_false_iff_not] at this
     exact this
   refine ⟨hx, hb, fun k h => (h1' k h).2, fun k j h h4 => (h1' j h4).1 k h, fun c h => ?_, h3⟩
   have h5 := h2 c h
   unfold nm2B at h5
   obtain ⟨h6, h7⟩ := hc c h
   exact (mo_id hk (hb _ (by omega)) (hb _ (by omega))).1 (of_decide_eq_true h5)
 · intro h
   refine ⟨⟨fun i hi => ?_, fun c hcn => ?_⟩, h.bt⟩
   · unfold nm1B
     simp only [Bool.and_eq_true, allB_iff, Bool.not_eq_true', decide_eq_false_iff_not]
     exact ⟨fun k hk => h.nd k i hk hi, h.ma i hi⟩
   · unfold nm2B
     obtain ⟨h6, h7⟩ := hc c hcn
     exact decide_eq_true ((mo_id hk (hb _ (by omega)) (hb _ (by omega))).2 (h.kn c hcn))
end
end Go.Proofs.YtbenhafhklfhmaaGreat
namespace Go.Proofs.YtbenhafhklfhmaaGreat
set_option linter.all false
set_option linter.unusedVariables false
set_option linter.unusedSimpArgs false
open Go.RowKit
theorem ne2_span (w : World) (x y : Operand) (i j m n : Int) : (do eqGuard .neq 36 x y (.agg #[.int .i64 i, .int .i64 j]) (.agg #[.int .i64 m, .int .i64 n]); binOp .neq 36 (.agg #[.int .i64 i, .int .i64 j]) (.agg #[.int .i64 m, .int .i64 n]) : Sem Value).run Tryz.prog w = .ok (.bool (!(decide (i = m) && decide (j = n)))) w := by
 by_cases h1 : i = m
 · by_cases h2 : j = n
   · subst h1 h2; go_simp
   · subst h1; go_simp
 · by_cases h2 : j = n
   · subst h2; go_simp
   · go_simp
theorem ne2_is {i j m n : Int} {b : Bool} (h : (!(decide (i = m) && decide (j = n))) = b) (w : World) (x y : Operand) : (do eqGuard .neq 36 x y (.agg #[.int .i64 i, .int .i64 j]) (.agg #[.int .i64 m, .int .i64 n]); binOp .neq 36 (.agg #[.int .i64 i, .int .i64 j]) (.agg #[.int .i64 m, .int .i64 n]) : Sem Value).run Tryz.prog w = .ok (.bool b) w := by
 subst h; exact ne2_span w x y i j m n
set_option maxRecDepth 100000 in
theorem rBorn_any {w : World} {H : Hd} {A : Option Addr} {cp : Nat} {a : Nat → Option Addr} {c : Nat → Nat} (hI : HIn w A H a c) :
  CallsK Tryz.prog 65 #[.slice A H.n cp] [] w (Option Addr × Nat) (fun y => .slice y.1 H.n y.2) (fun y => [.own y.1 H.n y.2 36 2 (fun j => spL (bornH H j).1 (bornH H j).2)]) := by
 have hn := hI.hn
 have hR := hI.hR
 refine K_enter (S := []) (K := []) Tryz.func65 rfl Tryz.ntmps65 rfl (Sat.start _) ?_
 refine TW.seq fun Y1 hY1 => TW.region ?_
 refine TL.p Pu.as ?_
 refine TL.nil (TQ.thenN (hY1 _ _ ?_))
 refine TW.seq fun Y2 hY2 => TW.region ?_
 refine TL.p Pu.as ?_
 refine TL.nil (TQ.thenN (hY2 _ _ ?_))
 refine TW.seq fun Y3 hY3 => ?_
 refine TW.seq fun Y4 hY4 => TW.region ?_
 refine TL.p Pu.as ?_
 refine TL.nil (TQ.thenN (hY4 _ _ ?_))
 refine TW.block ?_
 refine TW.loop3 (fun (i : Nat) (B : Option Addr) (cb : Nat) => [(4, .int .i64 (i : Int)), (0, .slice A H.n cp), (3, .slice B i cb)]) (fun i B cb => [.own B i cb 36 2 (fun j => spL (bornH H j).1 (bornH H j).2)]) (fun i B cb => i ≤ H.n) (fun i B cb => H.n - i) 0 none 0 fs9 ?_ ?_ ?_
 exact KSub.nilOwn KSub.nil
 exact Nat.zero_le _
 rintro i B cb hi Z0 hZ0
 refine TW.seq fun Y5 hY5 => ?_
 refine TW.seq fun Y6 hY6 => TW.region ?_
 refine TL.p Pu.mv ?_
 refine TL.p Pu.mv ?_
 refine TL.p (Pu.ln Tryz.underlying22) ?_
 refine TL.p Pu.lt ?_
 refine TL.nil (TQ.thenN (hY6 _ _ ?_))
 refine TW.cond rfl (fun hc0 => ?_) (fun hc0 => ?_)
 try simp only [zcb9] at hc0
 have hin : i < H.n := by omega
 refine TW.skip ?_
 refine TQ.thenN (hY5 _ _ ?_)
 refine TW.seq fun Y7 hY7 => ?_
 refine TW.block ?_
 refine TW.region ?_
 refine TL.p Pu.mv ?_
 refine TL.p Pu.mv ?_
 refine TL.p Pu.mv ?_
 refine TL.p (Pu.el ty_et22) ?_
 refine TL.p (by first | exact Pu.fb ty_fa46_2 | exact Pu.fe ty_fa46_2) ?_
 refine TL.p (Pu.lds ty_ag36) ?_
 refine TL.m Mk.bl ?_
 intro b1
 first | refine TL.a0 ty_et31 ?_ | refine TL.ap ty_et31 ?_
 intro A2 c2
 refine TL.p Pu.as ?_
 refine TL.nil ?_
 refine TQ.blkN ?_
 refine TQ.thenN (hY7 _ _ ?_)
 refine TW.region ?_
 refine TL.p Pu.mv ?_
 refine TL.p Pu.ad ?_
 refine TL.p Pu.as ?_
 refine TL.nil ?_
 refine TQ.thenN (hZ0 (i + 1) A2 c2 _ _ ?_ ?_ fs9 ?_)
 exact (by omega)
 exact zom9
 exact KSub.own pk9 (fun j hj => by exact cat_rows (r := fun j => spL (bornH H j).1 (bornH H j).2) rfl hj) KSub.nil
 try simp only [zcb9] at hc0
 obtain rfl : i = H.n := by omega
 refine TW.exit ?_
 refine TQ.thenX ?_
 refine TQ.thenX ?_
 refine TQ.blkX ?_
 refine TQ.thenN (hY3 _ _ ?_)
 refine TW.seq fun Y8 hY8 => TW.region ?_
 refine TL.p Pu.mv ?_
 refine TL.p Pu.as ?_
 refine TL.nil (TQ.thenN (hY8 _ _ ?_))
 refine TW.ret ?_
 refine TQ.ret Tryz.results65 rfl ((.tmp rfl .nil)) ?_
 exact fun w hw => ⟨(B, cb), rfl, hw⟩
structure NrP (f : Nat → Int) (n B : Nat) (S O : BSt) : Prop where
 top : ∀ C, Con f n C → SubS n C S → SubS n C O
 sub : SubS n O S
 bd : BdS n B O
def NrE (f : Nat → Int) (O : BSt) (j : Nat) : Prop := (O j).1 ≤ (O j).2 ∧ (0 ≤ f j → (O (f j).toNat).1 + 1400 ≤ (O j).1 ∧ (O j).2 ≤ (O (f j).toNat).2 + 10000 ∧ (O j).1 - 10000 ≤ (O (f j).toNat).1 ∧ (O (f j).toNat).2 ≤ (O j).2 - 1400)
theorem nr_empty {f : Nat → Int} {n B i : Nat} {S O : BSt} (hf : Mo f n) (ha : Acyc f n) (h : NrP f n B S O) (hi : i < n) (he : (O i).2 < (O i).1) : bthOk f n S = false := by
 rw [Bool.eq_false_iff]
 intro hb
 have hw := bth_w (S := S) hf ha
 have h1 := h.top _ hw.con hw.sub i hi
 have h2 := bthOk_iff.1 hb i hi
 omega
theorem nr_done {f : Nat → Int} {n B : Nat} {S O : BSt} (hf : Mo f n) (ha : Acyc f n) (h : NrP f n B S O) (he : ∀ j, j < n → NrE f O j) : (∀ i, i < n → O i = bth f n S i) ∧ bthOk f n S = true := by
 have hw : Wid f n S O := ⟨fun i hi h0 => (he i hi).2 h0, h.sub, h.top⟩
 have e := bth_eq hf ha hw
 exact ⟨e, bthOk_iff.2 fun i hi => by rw [← e i hi]; exact (he i hi).1⟩
theorem nr_next {f : Nat → Int} {n B i : Nat} {S O : BSt} (hf : Mo f n) (h : NrP f n B S O) (hi : i < n) (h0 : 0 ≤ f i) (him : i ≠ (f i).toNat) (hA : (nrA O i (f i).toNat).1 ≤ (nrA O i (f i).toNat).2) (hB : (nrB O i (f i).toNat).1 ≤ (nrB O i (f i).toNat).2) : NrP f n B S (nrS O i (f i).toNat) := by
 have hm : (f i).toNat < n := by have := hf i hi; omega
 refine ⟨fun C hc hs => nr_top hf hc hi h0 (h.top C hc hs), nr_sub.trans h.sub, fun j hj => ?_⟩
 have h1 := h.bd j hj
 have h2 := nr_sub (n := n) (S := O) (i := i) (m := (f i).toNat) j hj
 have h3 : (nrS O i (f i).toNat j).1 ≤ (nrS O i (f i).toNat j).2 ∨ (nrS O i (f i).toNat j) = O j := by
   unfold nrS
   by_cases e : j = (f i).toNat
   · rw [e, putS1_at]; exact .inl hB
   · rw [putS1_ne e]
     by_cases e2 : j = i
     · rw [e2, putS1_at]; exact .inl hA
     · rw [putS1_ne e2]; exact .inr rfl
 rcases h3 with h3 | h3
 · omega
 · rw [h3]; exact h1
theorem nr_empty2 {f : Nat → Int} {n B i m : Nat} {S O : BSt} (hf : Mo f n) (ha : Acyc f n) (h : NrP f n B S O) (hi : i < n) (h0 : 0 ≤ f i) (hm : m = (f i).toNat) (hmn : m < n) (him : i ≠ m) (he : (nrA O i m).2 < (nrA O i m).1 ∨ (nrB O i m).2 < (nrB O i m).1) : bthOk f n S = false := by
 rw [Bool.eq_false_iff]
 intro hb
 subst hm
 have hw := bth_w (S := S) hf ha
 have h1 := nr_top hf hw.con hi h0 (h.top _ hw.con hw.sub)
 have ei : nrS O i (f i).toNat i = nrA O i (f i).toNat := by unfold nrS; rw [putS1_ne him, putS1_at]
 have em : nrS O i (f i).toNat (f i).toNat = nrB O i (f i).toNat := putS1_at
 rcases he with he | he
 · have h2 := h1 i hi
   rw [ei] at h2
   have h3 := bthOk_iff.1 hb i hi
   omega
 · have h2 := h1 _ hmn
   rw [em] at h2
   have h3 := bthOk_iff.1 hb _ hmn
   omega
theorem nr_step {f : Nat → Int} {n B i m : Nat} {S O O2 : BSt} {ch2 ch9 : Bool} (hf : Mo f n) (h : NrP f n B S O2) (hi : i < n) (h0 : 0 ≤ f i) (hm : m = (f i).toNat) (hmn : m < n) (him : i ≠ m) (hne : (O2 i).1 ≤ (O2 i).2) (hA : (nrA O2 i m).1 ≤ (nrA O2 i m).2) (hB : (nrB O2 i m).1 ≤ (nrB O2 i m).2)
   (hD : (ch2 = false ∧ O2 = O ∧ ∀ j, j < i → NrE f O2 j) ∨ (ch2 = true ∧ wid O2 n < wid O n)) (hc : (ch9 = true ∧ (nrA O2 i m ≠ O2 i ∨ nrB O2 i m ≠ O2 m)) ∨ (ch9 = ch2 ∧ nrA O2 i m = O2 i ∧ nrB O2 i m = O2 m)) :
   NrP f n B S (nrS O2 i m) ∧ ((ch9 = false ∧ nrS O2 i m = O ∧ ∀ j, j < i + 1 → NrE f (nrS O2 i m) j) ∨ (ch9 = true ∧ wid (nrS O2 i m) n < wid O n)) := by
 subst hm
 refine ⟨nr_next hf h hi h0 him hA hB, ?_⟩
 rcases hc with ⟨e, hx⟩ | ⟨e, e1, e2⟩
 · have hw := nr_wid hi hmn him hA hB hx
   refine .inr ⟨e, ?_⟩
   rcases hD with ⟨_, e3, _⟩ | ⟨_, h3⟩
   · rw [e3] at hw ⊢; exact hw
   · omega
 · obtain ⟨h5, h6⟩ := nr_same e1 e2
   rw [h6]
   rcases hD with ⟨h1, h2, h3⟩ | ⟨h1, h2⟩
   · refine .inl ⟨e.trans h1, h2, fun j hj => ?_⟩
     by_cases ej : j = i
     · subst ej; exact ⟨hne, fun _ => h5⟩
     · exact h3 j (by omega)
   · exact .inr ⟨e.trans h1, h2⟩
set_option maxRecDepth 100000 in
set_option maxHeartbeats 4000000 in
theorem rbirths_any {w : World} {H : Hd} {A : Option Addr} {cp : Nat} {a : Nat → Option Addr} {c : Nat → Nat} {Ao : Option Addr} {co B : Nat} {S : BSt} (hk : HOk H) (hI : HIn w A H a c) (hRS : RdR w 2 Ao H.n (fun j => spL (S j).1 (S j).2)) (hS : BdS H.n B S) (hB : B ≤ 1000000) :
  CallsK Tryz.prog 68 #[.slice A H.n cp, .slice Ao H.n co] [] w (Option Addr × Nat) (fun y => .tuple #[.slice y.1 (if bthOk (moH H) H.n S then H.n else 0) y.2, .bool (bthOk (moH H) H.n S)]) (fun y => [.own y.1 (if bthOk (moH H) H.n S then H.n else 0) y.2 36 2 (fun j => spL (bth (moH H) H.n S j).1 (bth (moH H) H.n S j).2)]) := by
 have h16 := hk.n16
 have hn := hI.hn
 have hR := hI.hR
 have hMo := moH_Mo (H := H)
 refine K_enter (S := []) (K := []) Tryz.func68 rfl Tryz.ntmps68 rfl (Sat.start _) ?_
 refine TW.seq fun Y1 hY1 => TW.region ?_
 refine TL.p Pu.as ?_
 refine TL.p Pu.as ?_
 refine TL.nil (TQ.thenN (hY1 _ _ ?_))
 refine TW.seq fun Y2 hY2 => TW.region ?_
 refine TL.m Mk.bl ?_
 intro b1
 refine TL.p Pu.mv ?_
 refine TL.subK (KSub.ofBlk (n := 0) (sz := 2) (r := fun _ => []) Pick.hd rfl (fun _ h => by omega) rfl rfl KSub.nil) ?_
 first | refine TL.a0 ty_et31 ?_ | refine TL.ap ty_et31 ?_
 intro A2 c2
 refine TL.p Pu.as ?_
 refine TL.nil (TQ.thenN (hY2 _ _ ?_))
 refine TW.seq fun Y3 hY3 => ?_
 refine TW.seq fun Y4 hY4 => TW.region ?_
 refine TL.p Pu.as ?_
 refine TL.nil (TQ.thenN (hY4 _ _ ?_))
 refine TW.block ?_
 refine TW.loop2 (fun (O : BSt) (ch : Bool) => [(7, .bool ch), (6, .slice A2 H.n c2), (0, .slice A H.n cp)]) (fun O ch => [.own A2 H.n c2 36 2 (fun j => spL (O j).1 (O j).2)]) (fun O ch => NrP (moH H) H.n B S O ∧ (ch = false → ∀ j, j < H.n → NrE (moH H) O j)) (fun O ch => wid O H.n + (if ch = true then 1 else 0)) S true fs9 ?_ ?_ ?_
 exact KSub.cons pk9 KSub.nil
 exact ⟨⟨fun C _ h => h, SubS.refl, hS⟩, fun h => by cases h⟩
 rintro O ch ⟨hP, hE⟩ Z0 hZ0
 refine TW.seq fun Y5 hY5 => ?_
 refine TW.seq fun Y6 hY6 => TW.region ?_
 refine TL.p Pu.mv ?_
 refine TL.nil (TQ.thenN (hY6 _ _ ?_))
 refine TW.cond rfl (fun hc0 => ?_) (fun hc0 => ?_)
 try simp only [zcb9] at hc0
 subst hc0
 refine TW.skip ?_
 refine TQ.thenN (hY5 _ _ ?_)
 refine TW.block ?_
 refine TW.seq fun Y7 hY7 => TW.region ?_
 refine TL.p Pu.as ?_
 refine TL.nil (TQ.thenN (hY7 _ _ ?_))
 refine TW.seq fun Y8 hY8 => TW.region ?_
 refine TL.p Pu.as ?_
 refine TL.nil (TQ.thenN (hY8 _ _ ?_))
 refine TW.block ?_
 refine TW.loop3 (fun (i : Nat) (O2 : BSt) (ch2 : Bool) => [(8, .int .i64 (i : Int)), (7, .bool ch2), (6, .slice A2 H.n c2), (0, .slice A H.n cp)]) (fun i O2 ch2 => [.own A2 H.n c2 36 2 (fun j => spL (O2 j).1 (O2 j).2)]) (fun i O2 ch2 => i ≤ H.n ∧ NrP (moH H) H.n B S O2 ∧ ((ch2 = false ∧ O2 = O ∧ ∀ j, j < i → NrE (moH H) O2 j) ∨ (ch2 = true ∧ wid O2 H.n < wid O H.n))) (fun i O2 ch2 => H.n - i) 0 O false fs9 ?_ ?_ ?_
 exact ks9
 exact ⟨Nat.zero_le _, hP, .inl ⟨rfl, rfl, fun j hj => by omega⟩⟩
 rintro i O2 ch2 ⟨hi, hP2, hD⟩ Z1 hZ1
 refine TW.seq fun Y9 hY9 => ?_
 refine TW.seq fun Y10 hY10 => TW.region ?_
 refine TL.p Pu.mv ?_
 refine TL.p Pu.mv ?_
 refine TL.p (Pu.ln Tryz.underlying22) ?_
 refine TL.p Pu.lt ?_
 refine TL.nil (TQ.thenN (hY10 _ _ ?_))
 refine TW.cond rfl (fun hc1 => ?_) (fun hc1 => ?_)
 try simp only [zcb9] at hc1
 have hin : i < H.n := by omega
 have hbi := hP2.bd i hin
 refine TW.skip ?_
 refine TQ.thenN (hY9 _ _ ?_)
 refine TW.seq fun Y11 hY11 => ?_
 refine TW.block ?_
 refine TW.seq fun Y12 hY12 => ?_
 refine TW.seq fun Y13 hY13 => ?_
 refine TW.dw 11 ?_
 refine RK.tk Pu.mv ?_
 refine RK.tk Pu.mv ?_
 refine RK.tk (Pu.el ty_et31) ?_
 refine RK.tk (by first | exact Pu.fb ty_fa36_0 | exact Pu.fe ty_fa36_0) ?_
 refine RK.tk (Pu.ld ty_sc3) ?_
 refine RK.tk Pu.mv ?_
 refine RK.tk Pu.mv ?_
 refine RK.tk (Pu.el ty_et31) ?_
 refine RK.tk (by first | exact Pu.fb ty_fa36_1 | exact Pu.fe ty_fa36_1) ?_
 refine RK.tk (Pu.ld ty_sc3) ?_
 refine RK.tk Pu.gt ?_
 refine RK.ch [] ?_ trivial
 refine WK.n ?_
 refine TL.nil (TQ.thenN (hY13 _ _ ?_))
 refine TW.cond rfl (fun hc2 => ?_) (fun hc2 => ?_)
 try simp only [zcb9] at hc2
 have hno := nr_empty hMo hk.ac hP2 hin (by omega)
 refine TW.seq fun Y14 hY14 => TW.region ?_
 refine TL.p Pu.as ?_
 refine TL.p Pu.as ?_
 refine TL.nil (TQ.thenN (hY14 _ _ ?_))
 refine TW.ret ?_
 refine TQ.thenR ?_
 refine TQ.blkR ?_
 refine TQ.thenR ?_
 refine TQ.thenR ?_
 refine TQ.blkR ?_
 refine TQ.blkR ?_
 refine TQ.thenR ?_
 refine TQ.blkR ?_
 refine TQ.thenR ?_
 refine TQ.ret Tryz.results68 rfl ((.tmp rfl (.tmp rfl .nil))) ?_
 refine fun w hw => ⟨(none, 0), ?_, ?_⟩
 simp only [hno]; rfl
 simp only [hno]
 exact hw.sub (KSub.nilOwn KSub.nil)
 try simp only [zcb9] at hc2
 have hne : (O2 i).1 ≤ (O2 i).2 := by omega
 refine TW.skip ?_
 refine TQ.thenN (hY12 _ _ ?_)
 refine TW.seq fun Y15 hY15 => ?_
 refine TW.seq fun Y16 hY16 => TW.region ?_
 refine TL.p Pu.mv ?_
 refine TL.p Pu.mv ?_
 refine TL.p (Pu.el ty_et22) ?_
 refine TL.p (by first | exact Pu.fb ty_fa46_1 | exact Pu.fe ty_fa46_1) ?_
 refine TL.p (Pu.ld ty_sc3) ?_
 refine TL.p Pu.eq ?_
 refine TL.nil (TQ.thenN (hY16 _ _ ?_))
 refine TW.cond rfl (fun hc3 => ?_) (fun hc3 => ?_)
 try simp only [zcb9] at hc3
 have hm1 : H.mo i = -1 := hc3
 have hm0 : ¬ 0 ≤ moH H i := by rw [show moH H i = -1 from if_pos hm1]; omega
 have hEi : NrE (moH H) O2 i := ⟨hne, fun h => absurd h hm0⟩
 obtain ⟨O9, hO9⟩ : ∃ y : BSt, y = O2 := ⟨_, rfl⟩
 obtain ⟨ch9, hch9⟩ : ∃ y : Bool, y = ch2 := ⟨_, rfl⟩
 have hNx : NrP (moH H) H.n B S O9 ∧ ((ch9 = false ∧ O9 = O ∧ ∀ j, j < i + 1 → NrE (moH H) O9 j) ∨ (ch9 = true ∧ wid O9 H.n < wid O H.n)) := by
  rw [hO9, hch9]
  refine ⟨hP2, ?_⟩
  rcases hD with ⟨h1, h2, h3⟩ | h1
  refine .inl ⟨h1, h2, fun j hj => ?_⟩
  by_cases ej : j = i
  subst ej; exact hEi
  exact h3 j (by omega)
  exact .inr h1
 refine TW.exit ?_
 refine TQ.thenX ?_
 refine TQ.blkX ?_
 refine TQ.thenN (hY11 _ _ ?_)
 refine TW.region ?_
 refine TL.p Pu.mv ?_
 refine TL.p Pu.ad ?_
 refine TL.p Pu.as ?_
 refine TL.nil ?_
 refine TQ.thenN (hZ1 (i + 1) O9 ch9 _ _ ?_ ?_ ⟨rfl, (by rw [hch9]; rfl), rfl, rfl, trivial⟩ ?_)
 exact ⟨by omega, hNx⟩
 exact zom9
 rw [hO9]
 first
  | (refine KSub.own pk9 (fun j hj => ?_) KSub.nil; exact row_put (S := putS1 O2 i (nrA O2 i m)) (T := nrS O2 i m) (a := (nrB O2 i m).1) (b := (nrB O2 i m).2) rfl)
  | exact KSub.cons pk9 KSub.nil
 try simp only [zcb9] at hc3
 have hm1 : H.mo i ≠ -1 := hc3
 have hmo : moH H i = atH H (H.mo i) := if_neg hm1
 have hm0 : 0 ≤ atH H (H.mo i) := (hk.mo i hin).resolve_left hm1
 have hm0' : 0 ≤ moH H i := by rw [hmo]; exact hm0
 obtain ⟨m, hm⟩ : ∃ m, m = (moH H i).toNat := ⟨_, rfl⟩
 have hmi : atH H (H.mo i) = (m : Int) := by rw [hm, ← hmo]; omega
 have hmn : m < H.n := by have := hMo i hin; omega
 have him : i ≠ m := fun e => by
  have := dep_mother hk.ac hMo hin hm0'
  rw [← hm, ← e] at this
  omega
 have hbm := hP2.bd m hmn
 obtain ⟨cA, hcA⟩ : ∃ b : Bool, (!(decide ((nrA O2 i m).1 = (O2 i).1) && decide ((nrA O2 i m).2 = (O2 i).2))) = b := ⟨_, rfl⟩
 obtain ⟨cB, hcB⟩ : ∃ b : Bool, (!(decide ((nrB O2 i m).1 = (O2 m).1) && decide ((nrB O2 i m).2 = (O2 m).2))) = b := ⟨_, rfl⟩
 have hidM := hid1 (And.intro hm hmo)
 clear hm hmo
 replace hmi : atH H (H.mo i) ≤ (m : Int) ∧ (m : Int) ≤ atH H (H.mo i) := by omega
 refine TW.skip ?_
 refine TQ.thenN (hY15 _ _ ?_)
 refine TW.seq fun Y17 hY17 => TW.region ?_
 refine TL.p Pu.mv ?_
 refine TL.p Pu.mv ?_
 refine TL.p Pu.mv ?_
 refine TL.p (Pu.el ty_et22) ?_
 refine TL.p (by first | exact Pu.fb ty_fa46_1 | exact Pu.fe ty_fa46_1) ?_
 refine TL.p (Pu.ld ty_sc3) ?_
 refine TL.cr rfl (enters Tryz.func101 rfl rfl) (fun w hw => by
   exact rAt_any _ hn (hR.sat hw Apart.nil)) ?_
 refine TL.p Pu.as ?_
 refine TL.nil (TQ.thenN (hY17 _ _ ?_))
 refine TW.seq fun Y18 hY18 => ?_
 refine TW.dw 26 ?_
 refine RK.tk Pu.mv ?_
 refine RK.tk Pu.mv ?_
 refine RK.tk (Pu.el ty_et31) ?_
 refine RK.tk (by first | exact Pu.fb ty_fa36_0 | exact Pu.fe ty_fa36_0) ?_
 refine RK.tk (Pu.ld ty_sc3) ?_
 refine RK.tk Pu.mv ?_
 refine RK.tk Pu.mv ?_
 refine RK.tk (Pu.el (q := m) ty_et31 (hk := by omega)) ?_
 refine RK.tk (by first | exact Pu.fb ty_fa36_0 | exact Pu.fe ty_fa36_0) ?_
 refine RK.tk (Pu.ld ty_sc3) ?_
 refine RK.tk Pu.ad ?_
 refine RK.tk Pu.mx ?_
 refine RK.tk Pu.mv ?_
 refine RK.tk Pu.mv ?_
 refine RK.tk (Pu.el ty_et31) ?_
 refine RK.tk (by first | exact Pu.fb ty_fa36_1 | exact Pu.fe ty_fa36_1) ?_
 refine RK.tk (Pu.ld ty_sc3) ?_
 refine RK.tk Pu.mv ?_
 refine RK.tk Pu.mv ?_
 refine RK.tk (Pu.el (q := m) ty_et31 (hk := by omega)) ?_
 refine RK.tk (by first | exact Pu.fb ty_fa36_1 | exact Pu.fe ty_fa36_1) ?_
 refine RK.tk (Pu.ld ty_sc3) ?_
 refine RK.tk Pu.ad ?_
 refine RK.tk Pu.mn ?_
 refine RK.tk Pu.bd ?_
 refine RK.float [.int .i64 0, .int .i64 0] ?_
 refine RK.ch [] ?_ ⟨ty_zr36, trivial⟩
 refine WK.n ?_
 intro b3
 first | refine TL.st ty_sz36 ?_ | refine TL.se ty_sz36 ?_
 refine TL.nil (TQ.thenN (hY18 _ _ ?_))
 refine TW.seq fun Y19 hY19 => ?_
 refine TW.dw 26 ?_
 refine RK.tk Pu.mv ?_
 refine RK.tk Pu.mv ?_
 refine RK.tk (Pu.el (q := m) ty_et31 (hk := by omega)) ?_
 refine RK.tk (by first | exact Pu.fb ty_fa36_0 | exact Pu.fe ty_fa36_0) ?_
 refine RK.tk (Pu.ld ty_sc3) ?_
 refine RK.tk Pu.mv ?_
 refine RK.tk Pu.mv ?_
 refine RK.tk (Pu.el ty_et31) ?_
 refine RK.tk (by first | exact Pu.fb ty_fa36_0 | exact Pu.fe ty_fa36_0) ?_
 refine RK.tk (Pu.ld ty_sc3) ?_
 refine RK.tk Pu.sb ?_
 refine RK.tk Pu.mx ?_
 refine RK.tk Pu.mv ?_
 refine RK.tk Pu.mv ?_
 refine RK.tk (Pu.el (q := m) ty_et31 (hk := by omega)) ?_
 refine RK.tk (by first | exact Pu.fb ty_fa36_1 | exact Pu.fe ty_fa36_1) ?_
 refine RK.tk (Pu.ld ty_sc3) ?_
 refine RK.tk Pu.mv ?_
 refine RK.tk Pu.mv ?_
 refine RK.tk (Pu.el ty_et31) ?_
 refine RK.tk (by first | exact Pu.fb ty_fa36_1 | exact Pu.fe ty_fa36_1) ?_
 refine RK.tk (Pu.ld ty_sc3) ?_
 refine RK.tk Pu.sb ?_
 refine RK.tk Pu.mn ?_
 refine RK.tk Pu.bd ?_
 refine RK.float [.int .i64 0, .int .i64 0] ?_
 refine RK.ch [] ?_ ⟨ty_zr36, trivial⟩
 refine WK.n ?_
 intro b4
 first | refine TL.st ty_sz36 ?_ | refine TL.se ty_sz36 ?_
 refine TL.nil (TQ.thenN (hY19 _ _ ?_))
 refine TW.seq fun Y20 hY20 => ?_
 refine TW.seq fun Y21 hY21 => ?_
 refine TW.join [(109, .bool (cA || cB))] ?_ (fun hJ1 => ?_)
 refine TQ.thenN (hY21 _ _ ?_)
 refine TW.cond rfl (fun hc4 => ?_) (fun hc4 => ?_)
 try simp only [zcb9] at hc4
 obtain ⟨O9, hO9⟩ : ∃ y : BSt, y = nrS O2 i m := ⟨_, rfl⟩
 obtain ⟨ch9, hch9⟩ : ∃ y : Bool, y = true := ⟨_, rfl⟩
 have hcs : (ch9 = true ∧ (nrA O2 i m ≠ O2 i ∨ nrB O2 i m ≠ O2 m)) ∨ (ch9 = ch2 ∧ nrA O2 i m = O2 i ∧ nrB O2 i m = O2 m) := by
  refine .inl ⟨hch9, ?_⟩
  by_cases e1 : nrA O2 i m = O2 i
  by_cases e2 : nrB O2 i m = O2 m
  have a1 : cA = false := by rw [← hcA, e1]; simp
  have a2 : cB = false := by rw [← hcB, e2]; simp
  rw [a1, a2] at hc4
  simp at hc4
  exact .inr e2
  exact .inl e1
 refine TW.region ?_
 refine TL.p Pu.as ?_
 refine TL.nil (TQ.thenN (hY20 _ _ ?_))
 refine TW.seq fun Y22 hY22 => ?_
 refine TW.ex0k [.blk b3 36 [.int .i64 (nrA O2 i m).1, .int .i64 (nrA O2 i m).2], .blk b4 36 [.int .i64 (nrB O2 i m).1, .int .i64 (nrB O2 i m).2]] ?_
 refine RG.tk 0 rfl Pu.mv ?_
 refine RG.tk 1 rfl Pu.mv ?_
 refine RG.tk 2 rfl Pu.mv ?_
 refine RG.tk 3 rfl Pu.mv ?_
 refine RG.tk 4 rfl (Pu.lds ty_ag36) ?_
 refine RG.tk 5 rfl (Pu.lds ty_ag36) ?_
 refine RG.a1 6 rfl (fun X6 hX6 => ?_)
 refine TL.p (Pu.el ty_et31) ?_
 refine TL.nil ?_
 refine TQ.nxt (hX6 _ _ hl9 ?_)
 refine RG.a1 7 rfl (fun X7 hX7 => ?_)
 first | refine TL.st ty_sz36 ?_ | refine TL.se ty_sz36 ?_
 refine TL.nil ?_
 refine TQ.nxt (hX7 _ _ hl9 ?_)
 refine RG.a1 8 rfl (fun X8 hX8 => ?_)
 refine TL.p (Pu.el (q := m) ty_et31 (hk := by omega)) ?_
 refine TL.nil ?_
 refine TQ.nxt (hX8 _ _ hl9 ?_)
 refine RG.a1 9 rfl (fun X9 hX9 => ?_)
 refine TL.subK (KSub.own (s := fun j => spL (putS1 O2 i (nrA O2 i m) j).1 (putS1 O2 i (nrA O2 i m) j).2) pk9 (fun j hj => row_put rfl) (KSub.cons pk9 (KSub.cons pk9 KSub.nil))) ?_
 first | refine TL.st ty_sz36 ?_ | refine TL.se ty_sz36 ?_
 refine TL.nil ?_
 refine TQ.nxt (hX9 _ _ hl9 ?_)
 refine RG.nil ?_ (by kernel_rfl)
 refine TQ.thenN (hY22 _ _ ?_)
 refine TW.seq fun Y23 hY23 => ?_
 refine TW.join [(129, .bool (decide (min (O2 i).2 ((O2 m).2 + 10000) < max (O2 i).1 ((O2 m).1 + 1400)) || decide (min (O2 m).2 ((O2 i).2 - 1400) < max (O2 m).1 ((O2 i).1 - 10000))))] ?_ (fun hJ2 => ?_)
 refine TQ.thenN (hY23 _ _ ?_)
 refine TW.cond rfl (fun hc5 => ?_) (fun hc5 => ?_)
 try simp only [zcb9] at hc5
 have hno := nr_empty2 hMo hk.ac hP2 hin hm0' hidM.out.1 hmn him (show (nrA O2 i m).2 < (nrA O2 i m).1 ∨ (nrB O2 i m).2 < (nrB O2 i m).1 from hc5)
 refine TW.seq fun Y24 hY24 => TW.region ?_
 refine TL.p Pu.as ?_
 refine TL.p Pu.as ?_
 refine TL.nil (TQ.thenN (hY24 _ _ ?_))
 refine TW.ret ?_
 refine TQ.blkR ?_
 refine TQ.thenR ?_
 refine TQ.thenR ?_
 refine TQ.blkR ?_
 refine TQ.blkR ?_
 refine TQ.thenR ?_
 refine TQ.blkR ?_
 refine TQ.thenR ?_
 refine TQ.ret Tryz.results68 rfl ((.tmp rfl (.tmp rfl .nil))) ?_
 refine fun w hw => ⟨(none, 0), ?_, ?_⟩
 simp only [hno]; rfl
 simp only [hno]
 exact hw.sub (KSub.nilOwn KSub.nil)
 try simp only [zcb9] at hc5
 have hA9 : (nrA O2 i m).1 ≤ (nrA O2 i m).2 := hc5.1
 have hB9 : (nrB O2 i m).1 ≤ (nrB O2 i m).2 := hc5.2
 have hNx := nr_step hMo hP2 hin hm0' hidM.out.1 hmn him hne hA9 hB9 hD hcs
 rw [← hO9] at hNx
 refine TW.skip ?_
 refine TQ.blkN ?_
 refine TQ.thenN (hY11 _ _ ?_)
 refine TW.region ?_
 refine TL.p Pu.mv ?_
 refine TL.p Pu.ad ?_
 refine TL.p Pu.as ?_
 refine TL.nil ?_
 refine TQ.thenN (hZ1 (i + 1) O9 ch9 _ _ ?_ ?_ ⟨rfl, (by rw [hch9]; rfl), rfl, rfl, trivial⟩ ?_)
 exact ⟨by omega, hNx⟩
 exact zom9
 rw [hO9]
 first
  | (refine KSub.own pk9 (fun j hj => ?_) KSub.nil; exact row_put (S := putS1 O2 i (nrA O2 i m)) (T := nrS O2 i m) (a := (nrB O2 i m).1) (b := (nrB O2 i m).2) rfl)
  | exact KSub.cons pk9 KSub.nil
 refine TW.region ?_
 refine TL.p (by first | exact Pu.fb ty_fa36_0 | exact Pu.fe ty_fa36_0) ?_
 refine TL.p (Pu.ld ty_sc3) ?_
 refine TL.p (by first | exact Pu.fb ty_fa36_1 | exact Pu.fe ty_fa36_1) ?_
 refine TL.p (Pu.ld ty_sc3) ?_
 refine TL.p Pu.gt ?_
 refine TL.p Pu.mv ?_
 refine TL.guard (t := 123) rfl (fun hg1 => ?_) (fun hg1 => ?_)
 try simp only [zgb9] at hg1
 refine TL.gs ?_
 refine TL.gs ?_
 refine TL.gs ?_
 refine TL.gs ?_
 refine TL.gs ?_
 refine TL.p Pu.kt ?_
 refine TL.nil ?_
 exact TQ.sub (by repeat (first | exact trivial | refine ⟨rfl, ?_⟩ | refine ⟨trivial, ?_⟩ | refine ⟨(by show some (Value.bool _) = some (Value.bool _); first | (simp [hg1]; done) | (refine congrArg (fun z => some (Value.bool z)) (Bool.eq_iff_iff.2 ?_); simp [hg1]; omega)), ?_⟩)) ks9 hJ2
 try simp only [zgb9] at hg1
 refine TL.gd (by first | exact Pu.fb ty_fa36_0 | exact Pu.fe ty_fa36_0) ?_
 refine TL.gd (Pu.ld ty_sc3) ?_
 refine TL.gd (by first | exact Pu.fb ty_fa36_1 | exact Pu.fe ty_fa36_1) ?_
 refine TL.gd (Pu.ld ty_sc3) ?_
 refine TL.gd Pu.gt ?_
 refine TL.p Pu.kf ?_
 refine TL.nil ?_
 exact TQ.sub (by repeat (first | exact trivial | refine ⟨rfl, ?_⟩ | refine ⟨trivial, ?_⟩ | refine ⟨(by show some (Value.bool _) = some (Value.bool _); first | (simp [hg1]; done) | (refine congrArg (fun z => some (Value.bool z)) (Bool.eq_iff_iff.2 ?_); simp [hg1]; omega)), ?_⟩)) ks9 hJ2
 try simp only [zcb9] at hc4
 obtain ⟨O9, hO9⟩ : ∃ y : BSt, y = nrS O2 i m := ⟨_, rfl⟩
 obtain ⟨ch9, hch9⟩ : ∃ y : Bool, y = ch2 := ⟨_, rfl⟩
 have hcs : (ch9 = true ∧ (nrA O2 i m ≠ O2 i ∨ nrB O2 i m ≠ O2 m)) ∨ (ch9 = ch2 ∧ nrA O2 i m = O2 i ∧ nrB O2 i m = O2 m) := by
  rw [hc4.1] at hcA
  rw [hc4.2] at hcB
  simp at hcA hcB
  exact .inr ⟨hch9, Prod.ext hcA.1 hcA.2, Prod.ext hcB.1 hcB.2⟩
 refine TW.skip ?_
 refine TQ.thenN (hY20 _ _ ?_)
 refine TW.seq fun Y25 hY25 => ?_
 refine TW.ex0k [.blk b3 36 [.int .i64 (nrA O2 i m).1, .int .i64 (nrA O2 i m).2], .blk b4 36 [.int .i64 (nrB O2 i m).1, .int .i64 (nrB O2 i m).2]] ?_
 refine RG.tk 0 rfl Pu.mv ?_
 refine RG.tk 1 rfl Pu.mv ?_
 refine RG.tk 2 rfl Pu.mv ?_
 refine RG.tk 3 rfl Pu.mv ?_
 refine RG.tk 4 rfl (Pu.lds ty_ag36) ?_
 refine RG.tk 5 rfl (Pu.lds ty_ag36) ?_
 refine RG.a1 6 rfl (fun X6 hX6 => ?_)
 refine TL.p (Pu.el ty_et31) ?_
 refine TL.nil ?_
 refine TQ.nxt (hX6 _ _ hl9 ?_)
 refine RG.a1 7 rfl (fun X7 hX7 => ?_)
 first | refine TL.st ty_sz36 ?_ | refine TL.se ty_sz36 ?_
 refine TL.nil ?_
 refine TQ.nxt (hX7 _ _ hl9 ?_)
 refine RG.a1 8 rfl (fun X8 hX8 => ?_)
 refine TL.p (Pu.el (q := m) ty_et31 (hk := by omega)) ?_
 refine TL.nil ?_
 refine TQ.nxt (hX8 _ _ hl9 ?_)
 refine RG.a1 9 rfl (fun X9 hX9 => ?_)
 refine TL.subK (KSub.own (s := fun j => spL (putS1 O2 i (nrA O2 i m) j).1 (putS1 O2 i (nrA O2 i m) j).2) pk9 (fun j hj => row_put rfl) (KSub.cons pk9 (KSub.cons pk9 KSub.nil))) ?_
 first | refine TL.st ty_sz36 ?_ | refine TL.se ty_sz36 ?_
 refine TL.nil ?_
 refine TQ.nxt (hX9 _ _ hl9 ?_)
 refine RG.nil ?_ (by kernel_rfl)
 refine TQ.thenN (hY25 _ _ ?_)
 refine TW.seq fun Y26 hY26 => ?_
 refine TW.join [(129, .bool (decide (min (O2 i).2 ((O2 m).2 + 10000) < max (O2 i).1 ((O2 m).1 + 1400)) || decide (min (O2 m).2 ((O2 i).2 - 1400) < max (O2 m).1 ((O2 i).1 - 10000))))] ?_ (fun hJ3 => ?_)
 refine TQ.thenN (hY26 _ _ ?_)
 refine TW.cond rfl (fun hc5 => ?_) (fun hc5 => ?_)
 try simp only [zcb9] at hc5
 have hno := nr_empty2 hMo hk.ac hP2 hin hm0' hidM.out.1 hmn him (show (nrA O2 i m).2 < (nrA O2 i m).1 ∨ (nrB O2 i m).2 < (nrB O2 i m).1 from hc5)
 refine TW.seq fun Y27 hY27 => TW.region ?_
 refine TL.p Pu.as ?_
 refine TL.p Pu.as ?_
 refine TL.nil (TQ.thenN (hY27 _ _ ?_))
 refine TW.ret ?_
 refine TQ.blkR ?_
 refine TQ.thenR ?_
 refine TQ.thenR ?_
 refine TQ.blkR ?_
 refine TQ.blkR ?_
 refine TQ.thenR ?_
 refine TQ.blkR ?_
 refine TQ.thenR ?_
 refine TQ.ret Tryz.results68 rfl ((.tmp rfl (.tmp rfl .nil))) ?_
 refine fun w hw => ⟨(none, 0), ?_, ?_⟩
 simp only [hno]; rfl
 simp only [hno]
 exact hw.sub (KSub.nilOwn KSub.nil)
 try simp only [zcb9] at hc5
 have hA9 : (nrA O2 i m).1 ≤ (nrA O2 i m).2 := hc5.1
 have hB9 : (nrB O2 i m).1 ≤ (nrB O2 i m).2 := hc5.2
 have hNx := nr_step hMo hP2 hin hm0' hidM.out.1 hmn him hne hA9 hB9 hD hcs
 rw [← hO9] at hNx
 refine TW.skip ?_
 refine TQ.blkN ?_
 refine TQ.thenN (hY11 _ _ ?_)
 refine TW.region ?_
 refine TL.p Pu.mv ?_
 refine TL.p Pu.ad ?_
 refine TL.p Pu.as ?_
 refine TL.nil ?_
 refine TQ.thenN (hZ1 (i + 1) O9 ch9 _ _ ?_ ?_ ⟨rfl, (by rw [hch9]; rfl), rfl, rfl, trivial⟩ ?_)
 exact ⟨by omega, hNx⟩
 exact zom9
 rw [hO9]
 first
  | (refine KSub.own pk9 (fun j hj => ?_) KSub.nil; exact row_put (S := putS1 O2 i (nrA O2 i m)) (T := nrS O2 i m) (a := (nrB O2 i m).1) (b := (nrB O2 i m).2) rfl)
  | exact KSub.cons pk9 KSub.nil
 refine TW.region ?_
 refine TL.p (by first | exact Pu.fb ty_fa36_0 | exact Pu.fe ty_fa36_0) ?_
 refine TL.p (Pu.ld ty_sc3) ?_
 refine TL.p (by first | exact Pu.fb ty_fa36_1 | exact Pu.fe ty_fa36_1) ?_
 refine TL.p (Pu.ld ty_sc3) ?_
 refine TL.p Pu.gt ?_
 refine TL.p Pu.mv ?_
 refine TL.guard (t := 123) rfl (fun hg2 => ?_) (fun hg2 => ?_)
 try simp only [zgb9] at hg2
 refine TL.gs ?_
 refine TL.gs ?_
 refine TL.gs ?_
 refine TL.gs ?_
 refine TL.gs ?_
 refine TL.p Pu.kt ?_
 refine TL.nil ?_
 exact TQ.sub (by repeat (first | exact trivial | refine ⟨rfl, ?_⟩ | refine ⟨trivial, ?_⟩ | refine ⟨(by show some (Value.bool _) = some (Value.bool _); first | (simp [hg2]; done) | (refine congrArg (fun z => some (Value.bool z)) (Bool.eq_iff_iff.2 ?_); simp [hg2]; omega)), ?_⟩)) ks9 hJ3
 try simp only [zgb9] at hg2
 refine TL.gd (by first | exact Pu.fb ty_fa36_0 | exact Pu.fe ty_fa36_0) ?_
 refine TL.gd (Pu.ld ty_sc3) ?_
 refine TL.gd (by first | exact Pu.fb ty_fa36_1 | exact Pu.fe ty_fa36_1) ?_
 refine TL.gd (Pu.ld ty_sc3) ?_
 refine TL.gd Pu.gt ?_
 refine TL.p Pu.kf ?_
 refine TL.nil ?_
 exact TQ.sub (by repeat (first | exact trivial | refine ⟨rfl, ?_⟩ | refine ⟨trivial, ?_⟩ | refine ⟨(by show some (Value.bool _) = some (Value.bool _); first | (simp [hg2]; done) | (refine congrArg (fun z => some (Value.bool z)) (Bool.eq_iff_iff.2 ?_); simp [hg2]; omega)), ?_⟩)) ks9 hJ3
 refine TW.dw 14 ?_
 refine RK.tk (Pu.lds ty_ag36) ?_
 refine RK.tk Pu.mv ?_
 refine RK.tk Pu.mv ?_
 refine RK.tk (Pu.el ty_et31) ?_
 refine RK.tk (Pu.lds ty_ag36) ?_
 refine RK.tk (Pu.bin rfl rfl (fun w => ne2_is hcA w _ _)) ?_
 refine RK.tk Pu.mv ?_
 refine RK.guard (t := 102) rfl (fun hg3 => ?_) (fun hg3 => ?_)
 try simp only [zgb9] at hg3
 refine RK.s ?_
 refine RK.s ?_
 refine RK.s ?_
 refine RK.s ?_
 refine RK.s ?_
 refine RK.s ?_
 refine RK.tk Pu.kt ?_
 refine RK.ch [] ?_ trivial
 refine WK.n ?_
 refine TL.nil ?_
 exact TQ.sub (by repeat (first | exact trivial | refine ⟨rfl, ?_⟩ | refine ⟨trivial, ?_⟩ | refine ⟨(by show some (Value.bool _) = some (Value.bool _); first | (simp [hg3]; done) | (refine congrArg (fun z => some (Value.bool z)) (Bool.eq_iff_iff.2 ?_); simp [hg3]; omega)), ?_⟩)) ks9 hJ1
 try simp only [zgb9] at hg3
 refine RK.tk (Pu.lds ty_ag36) ?_
 refine RK.tk Pu.mv ?_
 refine RK.tk Pu.mv ?_
 refine RK.tk (Pu.el (q := m) ty_et31 (hk := by omega)) ?_
 refine RK.tk (Pu.lds ty_ag36) ?_
 refine RK.tk (Pu.bin rfl rfl (fun w => ne2_is hcB w _ _)) ?_
 refine RK.tk Pu.kf ?_
 refine RK.ch [] ?_ trivial
 refine WK.n ?_
 refine TL.nil ?_
 exact TQ.sub (by repeat (first | exact trivial | refine ⟨rfl, ?_⟩ | refine ⟨trivial, ?_⟩ | refine ⟨(by show some (Value.bool _) = some (Value.bool _); first | (simp [hg3]; done) | (refine congrArg (fun z => some (Value.bool z)) (Bool.eq_iff_iff.2 ?_); simp [hg3]; omega)), ?_⟩)) ks9 hJ1
 try simp only [zcb9] at hc1
 obtain rfl : i = H.n := by omega
 refine TW.exit ?_
 refine TQ.thenX ?_
 refine TQ.thenX ?_
 refine TQ.blkX ?_
 refine TQ.blkN ?_
 refine TQ.thenN (hZ0 O2 ch2 _ _ ?_ ?_ fs9 ?_)
 refine ⟨hP2, fun h => ?_⟩
 rcases hD with ⟨_, _, h3⟩ | ⟨h1, _⟩
 exact h3
 rw [h1] at h; cases h
 rcases hD with ⟨h1, h2, _⟩ | ⟨h1, h2⟩
 rw [h1, h2]; simp
 rw [h1]; simp; omega
 exact KSub.cons pk9 KSub.nil
 try simp only [zcb9] at hc0
 subst hc0
 obtain ⟨hRe, hok⟩ := nr_done hMo hk.ac hP (hE rfl)
 refine TW.exit ?_
 refine TQ.thenX ?_
 refine TQ.thenX ?_
 refine TQ.blkX ?_
 refine TQ.thenN (hY3 _ _ ?_)
 refine TW.seq fun Y28 hY28 => TW.region ?_
 refine TL.p Pu.mv ?_
 refine TL.p Pu.as ?_
 refine TL.p Pu.as ?_
 refine TL.nil (TQ.thenN (hY28 _ _ ?_))
 refine TW.ret ?_
 refine TQ.ret Tryz.results68 rfl ((.tmp rfl (.tmp rfl .nil))) ?_
 refine fun w hw => ⟨(A2, c2), ?_, ?_⟩
 simp only [hok]; rfl
 simp only [hok, if_true]
 exact hw.sub (KSub.own pk9 (fun j hj => by rw [hRe j hj]) KSub.nil)
end Go.Proofs.YtbenhafhklfhmaaGreat
namespace Go.Proofs.YtbenhafhklfhmaaGreat
set_option linter.all false
set_option linter.unusedVariables false
set_option linter.unusedSimpArgs false
open Go.RowKit
theorem sgK_first {H : Hd} {i s : Nat} : ∀ k, (∀ j, j < k → markB H i j = true) → sgK H i k s = if fst1 (fun q => decide (H.sp i q = (s : Int))) k < k then H.sg i (fst1 (fun q => decide (H.sp i q = (s : Int))) k) else 0
  | 0, _ => rfl
  | k + 1, h => by
    have ih := sgK_first (H := H) (i := i) (s := s) k fun j hj => h j (by omega)
    have hk := h k (by omega)
    unfold markB at hk
    simp only [Bool.and_eq_true, allB_iff, Bool.not_eq_true', decide_eq_false_iff_not, inB5, decide_eq_true_eq] at hk
    obtain ⟨⟨h7, h20⟩, hd⟩ := hk
    simp only [sgK, fst1]
    by_cases e : s = (H.sp i k).toNat
    · have e2 : H.sp i k = (s : Int) := by omega
      rw [if_pos e]
      have hl : ¬ fst1 (fun q => decide (H.sp i q = (s : Int))) k < k := fun hl => by
        have := fst1_yes hl
        simp only [decide_eq_true_eq] at this
        exact hd _ hl (by omega)
      rw [if_neg hl, if_pos (decide_eq_true e2), if_pos (by omega)]
    · have e2 : ¬ H.sp i k = (s : Int) := by omega
      rw [if_neg e, ih]
      by_cases hl : fst1 (fun q => decide (H.sp i q = (s : Int))) k < k
      · rw [if_pos hl, if_pos hl, if_pos (by omega)]
      · rw [if_neg hl, if_neg hl, if_neg (show ¬ decide (H.sp i k = (s : Int)) = true by simpa using e2), if_neg (by omega)]
theorem sgn_eq {H : Hd} (hk : HOk H) {i s : Nat} (hi : i < H.n) : sgnK H i s = sgH H i s := (sgK_first _ fun j hj => allB_iff.1 (hk.mks i hi) j hj).symm
set_option maxRecDepth 100000 in
set_option maxHeartbeats 1000000 in
theorem rMarked_any {H : Hd} {a : Nat → Option Addr} {c : Nat → Nat} {i : Nat} {l : Lk} {A : Option Addr} {cl : Nat} {w : World} (hk : HOk H) (hi : i < H.n) (hl : H.ml i ≤ 1000) (hM : RdR w 2 (a i) (H.ml i) (fun k => spL (H.sp i k) (H.sg i k))) (h : LkIn w l A) (h8 : l.ns = 8) : Calls Tryz.prog 66 #[.agg (anL H a c i).toArray, .agg (lkL l A cl).toArray] w (Ret w (.bool (maB H l i))) := by
 have hs := fun s => sg_bd hk (s := s) hi
 have fS := fun (w' : World) (s : Nat) (h1 : RdR w' 2 (a i) (H.ml i) (fun k => spL (H.sp i k) (H.sg i k))) => rSign_any (c := c) (s := s) hl h1
 have hR := h.hR
 have hb8 := h.hb
 unfold anL at fS
 unfold lkL anL
 rw [h8] at hR hb8 ⊢
 refine K_enter (S := []) (K := []) Tryz.func66 rfl Tryz.ntmps66 rfl (Sat.start _) ?_
 refine TW.seq fun Y1 hY1 => TW.region ?_
 refine TL.m Mk.bx ?_
 intro b1
 refine TL.m Mk.bx ?_
 intro b2
 refine TL.p Pu.as ?_
 refine TL.nil (TQ.thenN (hY1 _ _ ?_))
 refine TW.seq fun Y2 hY2 => ?_
 refine TW.seq fun Y3 hY3 => TW.region ?_
 refine TL.p Pu.as ?_
 refine TL.nil (TQ.thenN (hY3 _ _ ?_))
 refine TW.block ?_
 refine TW.loop1 (fun (k : Nat) => [(5, .int .i64 (k : Int)), (2, .pointer (some ⟨b1, 0, none⟩)), (3, .pointer (some ⟨b2, 0, none⟩))]) (fun k => [.blk b1 46 [.int .i64 (H.id i), .int .i64 (H.mo i), .int .i64 (H.lo i), .int .i64 (H.hi i), .slice (a i) (H.ml i) (c i)], .blk b2 42 [.slice A 8 cl, .int .i64 l.day, .int .i64 l.alo, .int .i64 l.ahi]]) (fun k => k ≤ 8 ∧ ∀ j, j < k → l.sg j / 2 ^ (sgH H i j).toNat % 2 = 1) (fun k => 8 - k) 0 fs9 ?_ ?_ ?_
 exact ks9
 exact ⟨by omega, fun j hj => by omega⟩
 rintro k ⟨hk8, hall⟩ Z0 hZ0
 refine TW.seq fun Y4 hY4 => ?_
 refine TW.seq fun Y5 hY5 => TW.region ?_
 refine TL.p Pu.mv ?_
 refine TL.p Pu.lt ?_
 refine TL.nil (TQ.thenN (hY5 _ _ ?_))
 refine TW.cond rfl (fun hc0 => ?_) (fun hc0 => ?_)
 try simp only [zcb9] at hc0
 have hkn : k < 8 := by omega
 have hsk := hs k
 have hbk := hb8 k (by omega)
 have hdv : l.sg k / 2 ^ (sgH H i k).toNat ≤ 4294967295 := Nat.le_trans (Nat.div_le_self _ _) hbk
 refine TW.skip ?_
 refine TQ.thenN (hY4 _ _ ?_)
 refine TW.seq fun Y6 hY6 => ?_
 refine TW.block ?_
 refine TW.seq fun Y7 hY7 => ?_
 refine TW.dw 11 ?_
 refine RK.tk (by first | exact Pu.fb ty_fa42_0 | exact Pu.fe ty_fa42_0) ?_
 refine RK.tk (Pu.ld ty_sc24) ?_
 refine RK.tk Pu.mv ?_
 refine RK.tk (Pu.el ty_et24) ?_
 refine RK.tk (Pu.ld ty_sc25) ?_
 refine RK.tk (Pu.lds ty_ag46) ?_
 refine RK.tk Pu.mv ?_
 refine RK.keep ?_
 refine RK.keep ?_
 refine RK.keep ?_
 refine RK.keep ?_
 refine RK.ch [false, true, true, true] ?_ trivial
 refine WK.cr rfl (enters Tryz.func16 rfl rfl) (fun w hw => by
   have h9 := fS _ k (hM.sat hw Apart.nil)
   rw [sgn_eq hk hi] at h9
   exact h9) ?_
 refine WK.p (Pu.srW (b := l.sg k) (i := (sgH H i k).toNat) (hy := congrArg (fun z => some (Value.int .i64 z)) (Int.toNat_of_nonneg hsk.1).symm)) ?_
 refine WK.p (Pu.anW (m := l.sg k / 2 ^ (sgH H i k).toNat)) ?_
 refine WK.p Pu.eq ?_
 refine WK.n ?_
 refine TL.nil (TQ.thenN (hY7 _ _ ?_))
 refine TW.cond rfl (fun hc1 => ?_) (fun hc1 => ?_)
 try simp only [zcb9] at hc1
 have hno : ¬ l.sg k / 2 ^ (sgH H i k).toNat % 2 = 1 := by omega
 refine TW.seq fun Y8 hY8 => TW.region ?_
 refine TL.p Pu.as ?_
 refine TL.nil (TQ.thenN (hY8 _ _ ?_))
 refine TW.ret ?_
 refine TQ.blkR ?_
 refine TQ.thenR ?_
 refine TQ.thenR ?_
 refine TQ.blkR ?_
 refine TQ.thenR ?_
 refine TQ.ret Tryz.results66 rfl ((.tmp rfl .nil)) ?_
 exact fun w hw => ⟨ret_bool (by
  cases hm : maB H l i with
  | false => rfl
  | true => exact absurd (of_decide_eq_true (allB_iff.1 hm k hkn)) hno), Chg.ext hw.chg⟩
 try simp only [zcb9] at hc1
 have hyes : l.sg k / 2 ^ (sgH H i k).toNat % 2 = 1 := by omega
 refine TW.skip ?_
 refine TQ.blkN ?_
 refine TQ.thenN (hY6 _ _ ?_)
 refine TW.region ?_
 refine TL.p Pu.mv ?_
 refine TL.p Pu.ad ?_
 refine TL.p Pu.as ?_
 refine TL.nil ?_
 refine TQ.thenN (hZ0 (k + 1) _ _ ?_ ?_ fs9 ?_)
 refine ⟨by omega, fun j hj => ?_⟩
 by_cases e : j = k
 subst e; exact hyes
 exact hall j (by omega)
 exact zom9
 exact ks9
 try simp only [zcb9] at hc0
 refine TW.exit ?_
 refine TQ.thenX ?_
 refine TQ.thenX ?_
 refine TQ.blkX ?_
 refine TQ.thenN (hY2 _ _ ?_)
 refine TW.seq fun Y9 hY9 => TW.region ?_
 refine TL.p Pu.as ?_
 refine TL.nil (TQ.thenN (hY9 _ _ ?_))
 refine TW.ret ?_
 refine TQ.ret Tryz.results66 rfl ((.tmp rfl .nil)) ?_
 exact fun w hw => ⟨ret_bool (allB_iff.2 fun j hj => decide_eq_true (hall j (by omega))), Chg.ext hw.chg⟩
set_option maxRecDepth 100000 in
theorem rAged_any {a b : Int} {l : Lk} {A : Option Addr} {c : Nat} {w : World} (h : lkB l = true) : Calls Tryz.prog 67 #[.agg #[.int .i64 a, .int .i64 b], .agg (lkL l A c).toArray] w (Ret w (.agg #[.int .i64 (agd (a, b) l).1, .int .i64 (agd (a, b) l).2])) := by
 unfold lkB inB5 ordB5 at h
 simp only [Bool.and_eq_true, decide_eq_true_eq] at h
 obtain ⟨⟨⟨h1, h2⟩, h3⟩, h4⟩ := h
 unfold lkL
 refine K_enter (S := []) (K := []) Tryz.func67 rfl Tryz.ntmps67 rfl (Sat.start _) ?_
 refine TW.seq fun Y1 hY1 => TW.region ?_
 refine TL.m Mk.bx ?_
 intro b1
 refine TL.m Mk.bx ?_
 intro b2
 refine TL.m (Mk.al ty_zr36) ?_
 intro b3
 refine TL.nil (TQ.thenN (hY1 _ _ ?_))
 refine TW.seq fun Y2 hY2 => TW.region ?_
 refine TL.p (by first | exact Pu.fb ty_fa36_0 | exact Pu.fe ty_fa36_0) ?_
 refine TL.p (Pu.ld ty_sc3) ?_
 refine TL.p (by first | exact Pu.fb ty_fa42_1 | exact Pu.fe ty_fa42_1) ?_
 refine TL.p (Pu.ld ty_sc3) ?_
 refine TL.p (by first | exact Pu.fb ty_fa42_2 | exact Pu.fe ty_fa42_2) ?_
 refine TL.p (by first | exact Pu.fb ty_fa36_1 | exact Pu.fe ty_fa36_1) ?_
 refine TL.p (Pu.ld ty_sc3) ?_
 refine TL.p Pu.sb ?_
 refine TL.p Pu.mx ?_
 refine TL.p (by first | exact Pu.fb ty_fa36_1 | exact Pu.fe ty_fa36_1) ?_
 refine TL.p (Pu.ld ty_sc3) ?_
 refine TL.p (by first | exact Pu.fb ty_fa42_1 | exact Pu.fe ty_fa42_1) ?_
 refine TL.p (Pu.ld ty_sc3) ?_
 refine TL.p (by first | exact Pu.fb ty_fa42_2 | exact Pu.fe ty_fa42_2) ?_
 refine TL.p (by first | exact Pu.fb ty_fa36_0 | exact Pu.fe ty_fa36_0) ?_
 refine TL.p (Pu.ld ty_sc3) ?_
 refine TL.p Pu.sb ?_
 refine TL.p Pu.mn ?_
 refine TL.p Pu.bd ?_
 first | refine TL.st ty_sz36 ?_ | refine TL.se ty_sz36 ?_
 refine TL.nil (TQ.thenN (hY2 _ _ ?_))
 refine TW.ret ?_
 refine TQ.ret Tryz.results67 rfl ((RV.cs ty_ag36 .nil)) ?_
 exact fun w hw => Ret.of hw
end Go.Proofs.YtbenhafhklfhmaaGreat
namespace Go.Proofs.YtbenhafhklfhmaaGreat
set_option linter.all false
set_option linter.unusedVariables false
set_option linter.unusedSimpArgs false
open Go.RowKit
theorem nrw_snoc {L : Nat → Lk} {x : Nat} : ∀ (t : List Nat) (S : BSt) (k : Nat), nrw L S k (t ++ [x]) = putS1 (nrw L S k t) x (agd (nrw L S k t x) (L (k + t.length)))
 | [], S, k => rfl
 | i :: t, S, k => by
  have := nrw_snoc (L := L) (x := x) t (putS1 S i (agd (S i) (L k))) (k + 1)
  show nrw L (putS1 S i (agd (S i) (L k))) (k + 1) (t ++ [x]) = _
  rw [this, show k + 1 + t.length = k + (i :: t).length by simp; omega]
  rfl
set_option maxRecDepth 100000 in
set_option maxHeartbeats 4000000 in
theorem rNamed_any {w : World} {A B C D : Option Addr} {cp cb cc cd nl nc : Nat} {H : Hd} {a : Nat → Option Addr} {c : Nat → Nat} {L : Nat → Lk} {la : Nat → Option Addr} {lc : Nat → Nat} {dm yg : Nat → Int} {X : List Nat} (hk : HOk H) (hI : HIn w A H a c) (hL : LksIn w nl L B la lc) (hC : CvsIn w nc dm yg C) (hlk : ∀ k, k < nl → lkB (L k) = true) (hcv : cvB nl nc dm yg = true) (hx : nl = X.length) (hb : ∀ k, k < nl → X.getD k 0 < H.n) (hR : RdR w 1 D nl (nL X)) :
  Calls Tryz.prog 24 #[.slice A H.n cp, .slice B nl cb, .slice C nc cc, .slice D nl cd] w (Ret w (.bool (nmdB H L nl nc dm yg X))) := by
 have hn := hL.hn
 have hm := hC.hn
 have h16 := hk.n16
 have hRL := hL.hR
 have hRC := hC.hR
 have hRA := hI.hR
 have hRD := hR
 have hcv : ∀ c, c < nc → (0 ≤ dm c ∧ dm c < nl) ∧ (0 ≤ yg c ∧ yg c < nl) := fun c h => by
  have := allB_iff.1 hcv c h
  simp only [inB5, Bool.and_eq_true, decide_eq_true_eq] at this
  omega
 have fM := fun (w' : World) (k i : Nat) (h8 : lkB (L k) = true) (hi : i < H.n) (h1 : LkIn w' (L k) (la k)) (h2 : HIn w' A H a c) => rMarked_any (c := c) (cl := lc k) hk hi (h2.hl i hi) (h2.hM i hi) h1 (lk_8 h8)
 have fA := fun (w' : World) (u v : Int) (k : Nat) (h8 : lkB (L k) = true) => rAged_any (a := u) (b := v) (A := la k) (c := lc k) (w := w') h8
 unfold anL at hRA
 unfold lkL at hRL fA
 unfold lkL anL at fM
 unfold nL at hRD
 refine K_enter (S := []) (K := []) Tryz.func24 rfl Tryz.ntmps24 rfl (Sat.start _) ?_
 refine TW.seq fun Y1 hY1 => TW.region ?_
 refine TL.p Pu.as ?_
 refine TL.nil (TQ.thenN (hY1 _ _ ?_))
 refine TW.seq fun Y2 hY2 => TW.region ?_
 refine TL.p Pu.mv ?_
 refine TL.call (M := []) rfl (enters Tryz.func65 rfl rfl) (List.Perm.refl _) rfl (fun w hw => by
   exact rBorn_any (hI.ext (Chg.ext hw.chg))) ?_
 rintro ⟨A9, c9⟩
 refine TL.p Pu.as ?_
 refine TL.nil (TQ.thenN (hY2 _ _ ?_))
 refine TW.seq fun Y3 hY3 => ?_
 refine TW.seq fun Y4 hY4 => TW.region ?_
 refine TL.p Pu.as ?_
 refine TL.nil (TQ.thenN (hY4 _ _ ?_))
 refine TW.block ?_
 refine TW.loop2 (fun (i : Nat) (S : BSt) => [(10, .int .i64 (i : Int)), (9, .slice A9 H.n c9), (0, .slice A H.n cp), (1, .slice B nl cb), (2, .slice C nc cc), (3, .slice D nl cd)]) (fun i S => [.own A9 H.n c9 36 2 (fun j => spL (S j).1 (S j).2)]) (fun i S => i ≤ nl ∧ S = nrw L (bornH H) 0 (X.take i) ∧ BdS H.n 300000 S ∧ ∀ j, j < i → nm1B H L X j = true) (fun i S => nl - i) 0 (bornH H) fs9 ?_ ?_ ?_
 exact ks9
 exact ⟨Nat.zero_le _, by rw [List.take_zero]; rfl, born_bd3 hk, fun j hj => by omega⟩
 rintro i S ⟨hin, hS, hBd, hall⟩ Z0 hZ0
 refine TW.seq fun Y5 hY5 => ?_
 refine TW.seq fun Y6 hY6 => TW.region ?_
 refine TL.p Pu.mv ?_
 refine TL.p Pu.mv ?_
 refine TL.p (Pu.ln Tryz.underlying28) ?_
 refine TL.p Pu.lt ?_
 refine TL.nil (TQ.thenN (hY6 _ _ ?_))
 refine TW.cond rfl (fun hc0 => ?_) (fun hc0 => ?_)
 try simp only [zcb9] at hc0
 have hil : i < nl := by omega
 have hxi := hb i hil
 refine TW.skip ?_
 refine TQ.thenN (hY5 _ _ ?_)
 refine TW.seq fun Y7 hY7 => ?_
 refine TW.block ?_
 refine TW.seq fun Y8 hY8 => ?_
 refine TW.seq fun Y9 hY9 => TW.region ?_
 refine TL.p Pu.as ?_
 refine TL.nil (TQ.thenN (hY9 _ _ ?_))
 refine TW.block ?_
 refine TW.loop1 (fun (k : Nat) => [(11, .int .i64 (k : Int)), (10, .int .i64 (i : Int)), (9, .slice A9 H.n c9), (0, .slice A H.n cp), (1, .slice B nl cb), (2, .slice C nc cc), (3, .slice D nl cd)]) (fun k => [.own A9 H.n c9 36 2 (fun j => spL (S j).1 (S j).2)]) (fun k => k ≤ i ∧ ∀ j, j < k → X.getD j 0 ≠ X.getD i 0) (fun k => i - k) 0 fs9 ?_ ?_ ?_
 exact ks9
 exact ⟨Nat.zero_le _, fun j hj => by omega⟩
 rintro k ⟨hki, hdif⟩ Z1 hZ1
 refine TW.seq fun Y10 hY10 => ?_
 refine TW.seq fun Y11 hY11 => TW.region ?_
 refine TL.p Pu.mv ?_
 refine TL.p Pu.mv ?_
 refine TL.p Pu.lt ?_
 refine TL.nil (TQ.thenN (hY11 _ _ ?_))
 refine TW.cond rfl (fun hc1 => ?_) (fun hc1 => ?_)
 try simp only [zcb9] at hc1
 have hkl : k < i := by omega
 refine TW.skip ?_
 refine TQ.thenN (hY10 _ _ ?_)
 refine TW.seq fun Y12 hY12 => ?_
 refine TW.block ?_
 refine TW.seq fun Y13 hY13 => ?_
 refine TW.dw 9 ?_
 refine RK.tk Pu.mv ?_
 refine RK.tk Pu.mv ?_
 refine RK.tk (Pu.el ty_et28) ?_
 refine RK.tk (Pu.ld ty_sc3) ?_
 refine RK.tk Pu.mv ?_
 refine RK.tk Pu.mv ?_
 refine RK.tk (Pu.el ty_et28) ?_
 refine RK.tk (Pu.ld ty_sc3) ?_
 refine RK.tk Pu.eq ?_
 refine RK.ch [] ?_ trivial
 refine WK.n ?_
 refine TL.nil (TQ.thenN (hY13 _ _ ?_))
 refine TW.cond rfl (fun hc2 => ?_) (fun hc2 => ?_)
 try simp only [zcb9] at hc2
 have hsame : X.getD k 0 = X.getD i 0 := by omega
 refine TW.seq fun Y14 hY14 => TW.region ?_
 refine TL.p Pu.as ?_
 refine TL.nil (TQ.thenN (hY14 _ _ ?_))
 refine TW.ret ?_
 refine TQ.blkR ?_
 refine TQ.thenR ?_
 refine TQ.thenR ?_
 refine TQ.blkR ?_
 refine TQ.thenR ?_
 refine TQ.blkR ?_
 refine TQ.thenR ?_
 refine TQ.thenR ?_
 refine TQ.blkR ?_
 refine TQ.thenR ?_
 refine TQ.ret Tryz.results24 rfl ((.tmp rfl .nil)) ?_
 exact fun w hw => ⟨ret_bool (by
  have e : nm1B H L X i = false := by
   unfold nm1B
   rw [Bool.and_eq_false_iff]
   left
   cases hq : allB i fun k => !decide (X.getD k 0 = X.getD i 0) with
   | false => rfl
   | true =>
    have := allB_iff.1 hq k hkl
    rw [decide_eq_true hsame] at this
    cases this
  cases hq : nmdB H L nl nc dm yg X with
  | false => rfl
  | true =>
   unfold nmdB at hq
   simp only [Bool.and_eq_true] at hq
   have := allB_iff.1 hq.1.1 i hil
   rw [e] at this; cases this), Chg.ext hw.chg⟩
 try simp only [zcb9] at hc2
 have hnot : X.getD k 0 ≠ X.getD i 0 := by omega
 refine TW.skip ?_
 refine TQ.blkN ?_
 refine TQ.thenN (hY12 _ _ ?_)
 refine TW.region ?_
 refine TL.p Pu.mv ?_
 refine TL.p Pu.ad ?_
 refine TL.p Pu.as ?_
 refine TL.nil ?_
 refine TQ.thenN (hZ1 (k + 1) _ _ ?_ ?_ fs9 ?_)
 refine ⟨by omega, fun j hj => ?_⟩
 by_cases e : j = k
 subst e; exact hnot
 exact hdif j (by omega)
 exact zom9
 exact ks9
 try simp only [zcb9] at hc1
 obtain rfl : k = i := by omega
 refine TW.exit ?_
 refine TQ.thenX ?_
 refine TQ.thenX ?_
 refine TQ.blkX ?_
 refine TQ.thenN (hY8 _ _ ?_)
 refine TW.seq fun Y15 hY15 => ?_
 refine TW.seq fun Y16 hY16 => ?_
 refine TW.dw 13 ?_
 refine RK.tk Pu.mv ?_
 refine RK.tk Pu.mv ?_
 refine RK.tk Pu.mv ?_
 refine RK.tk (Pu.el ty_et28) ?_
 refine RK.tk (Pu.ld ty_sc3) ?_
 refine RK.tk (Pu.el (q := X.getD k 0) ty_et22 (hk := Int.toNat_natCast _)) ?_
 refine RK.tk (Pu.lds ty_ag46) ?_
 refine RK.tk Pu.mv ?_
 refine RK.tk Pu.mv ?_
 refine RK.tk (Pu.el ty_et37) ?_
 refine RK.tk (Pu.lds ty_ag42) ?_
 refine RK.keep ?_
 refine RK.keep ?_
 refine RK.ch [false, true] ?_ trivial
 refine WK.cr rfl (enters Tryz.func66 rfl rfl) (fun w hw => by
   exact fM _ k _ (hlk k hil) hxi ((hL.hL k hil).ext (Chg.ext hw.chg)) (hI.ext (Chg.ext hw.chg))) ?_
 refine WK.p Pu.no ?_
 refine WK.n ?_
 refine TL.nil (TQ.thenN (hY16 _ _ ?_))
 refine TW.cond rfl (fun hc3 => ?_) (fun hc3 => ?_)
 try simp only [zcb9] at hc3
 have hmf : maB H (L k) (X.getD k 0) = false := by simpa using hc3
 refine TW.seq fun Y17 hY17 => TW.region ?_
 refine TL.p Pu.as ?_
 refine TL.nil (TQ.thenN (hY17 _ _ ?_))
 refine TW.ret ?_
 refine TQ.thenR ?_
 refine TQ.blkR ?_
 refine TQ.thenR ?_
 refine TQ.thenR ?_
 refine TQ.blkR ?_
 refine TQ.thenR ?_
 refine TQ.ret Tryz.results24 rfl ((.tmp rfl .nil)) ?_
 exact fun w hw => ⟨ret_bool (by
  have e : nm1B H L X k = false := by unfold nm1B; rw [hmf, Bool.and_false]
  cases hq : nmdB H L nl nc dm yg X with
  | false => rfl
  | true =>
   unfold nmdB at hq
   simp only [Bool.and_eq_true] at hq
   have := allB_iff.1 hq.1.1 k hil
   rw [e] at this; cases this), Chg.ext hw.chg⟩
 try simp only [zcb9] at hc3
 have hmt : maB H (L k) (X.getD k 0) = true := by simpa using hc3
 refine TW.skip ?_
 refine TQ.thenN (hY15 _ _ ?_)
 refine TW.dw 18 ?_
 refine RK.tk Pu.mv ?_
 refine RK.tk Pu.mv ?_
 refine RK.tk Pu.mv ?_
 refine RK.tk (Pu.el ty_et28) ?_
 refine RK.tk (Pu.ld ty_sc3) ?_
 refine RK.tk Pu.mv ?_
 refine RK.tk Pu.mv ?_
 refine RK.tk Pu.mv ?_
 refine RK.tk (Pu.el ty_et28) ?_
 refine RK.tk (Pu.ld ty_sc3) ?_
 refine RK.tk (Pu.el (q := X.getD k 0) ty_et31 (hk := Int.toNat_natCast _)) ?_
 refine RK.tk (Pu.lds ty_ag36) ?_
 refine RK.tk Pu.mv ?_
 refine RK.tk Pu.mv ?_
 refine RK.tk (Pu.el ty_et37) ?_
 refine RK.tk (Pu.lds ty_ag42) ?_
 refine RK.keep ?_
 refine RK.keep ?_
 refine RK.ch [false, true] ?_ trivial
 refine WK.cr rfl (enters Tryz.func67 rfl rfl) (fun w hw => by
   exact fA _ _ _ k (hlk k hil)) ?_
 refine WK.p (Pu.el (q := X.getD k 0) ty_et31 (hk := Int.toNat_natCast _)) ?_
 refine WK.n ?_
 first | refine TL.st ty_sz36 ?_ | refine TL.se ty_sz36 ?_
 refine TL.nil ?_
 refine TQ.blkN ?_
 refine TQ.thenN (hY7 _ _ ?_)
 refine TW.region ?_
 refine TL.p Pu.mv ?_
 refine TL.p Pu.ad ?_
 refine TL.p Pu.as ?_
 refine TL.nil ?_
 refine TQ.thenN (hZ0 (k + 1) (putS1 S (X.getD k 0) (agd (S (X.getD k 0)) (L k))) _ _ ?_ ?_ fs9 ?_)
 refine ⟨by omega, ?_, agd_bd hBd hxi (hlk k hil), fun j hj => ?_⟩
 rw [take_at (by omega), nrw_snoc, ← hS, List.length_take, show min k X.length = k by omega, Nat.zero_add]
 by_cases e : j = k
 subst e
 unfold nm1B
 rw [hmt, Bool.and_true]
 exact allB_iff.2 fun q hq => by simpa using hdif q hq
 exact hall j (by omega)
 exact zom9
 exact KSub.own Pick.hd put_row KSub.nil
 try simp only [zcb9] at hc0
 have hil : i = nl := by omega
 refine TW.exit ?_
 refine TQ.thenX ?_
 refine TQ.thenX ?_
 refine TQ.blkX ?_
 refine TQ.thenN (hY3 _ _ ?_)
 refine TW.seq fun Y18 hY18 => ?_
 refine TW.seq fun Y19 hY19 => TW.region ?_
 refine TL.p Pu.as ?_
 refine TL.nil (TQ.thenN (hY19 _ _ ?_))
 refine TW.block ?_
 refine TW.loop1 (fun (q : Nat) => [(12, .int .i64 (q : Int)), (9, .slice A9 H.n c9), (0, .slice A H.n cp), (1, .slice B nl cb), (2, .slice C nc cc), (3, .slice D nl cd)]) (fun q => [.own A9 H.n c9 36 2 (fun j => spL (S j).1 (S j).2)]) (fun q => q ≤ nc ∧ ∀ j, j < q → nm2B H dm yg X j = true) (fun q => nc - q) 0 fs9 ?_ ?_ ?_
 exact ks9
 exact ⟨Nat.zero_le _, fun j hj => by omega⟩
 rintro q ⟨hqn, hkin⟩ Z2 hZ2
 refine TW.seq fun Y20 hY20 => ?_
 refine TW.seq fun Y21 hY21 => TW.region ?_
 refine TL.p Pu.mv ?_
 refine TL.p Pu.mv ?_
 refine TL.p (Pu.ln Tryz.underlying38) ?_
 refine TL.p Pu.lt ?_
 refine TL.nil (TQ.thenN (hY21 _ _ ?_))
 refine TW.cond rfl (fun hc4 => ?_) (fun hc4 => ?_)
 try simp only [zcb9] at hc4
 have hql : q < nc := by omega
 obtain ⟨hd9, hy9⟩ := hcv q hql
 have hxd := hb (dm q).toNat (by omega)
 have hxy := hb (yg q).toNat (by omega)
 refine TW.skip ?_
 refine TQ.thenN (hY20 _ _ ?_)
 refine TW.seq fun Y22 hY22 => ?_
 refine TW.block ?_
 refine TW.seq fun Y23 hY23 => ?_
 refine TW.dw 25 ?_
 refine RK.tk Pu.mv ?_
 refine RK.tk Pu.mv ?_
 refine RK.tk Pu.mv ?_
 refine RK.tk Pu.mv ?_
 refine RK.tk (Pu.el ty_et38) ?_
 refine RK.tk (by first | exact Pu.fb ty_fa51_1 | exact Pu.fe ty_fa51_1) ?_
 refine RK.tk (Pu.ld ty_sc3) ?_
 refine RK.tk (Pu.el (q := (yg q).toNat) ty_et28 (hk := rfl)) ?_
 refine RK.tk (Pu.ld ty_sc3) ?_
 refine RK.tk (Pu.el (q := X.getD (yg q).toNat 0) ty_et22 (hk := Int.toNat_natCast _)) ?_
 refine RK.tk (by first | exact Pu.fb ty_fa46_1 | exact Pu.fe ty_fa46_1) ?_
 refine RK.tk (Pu.ld ty_sc3) ?_
 refine RK.tk Pu.mv ?_
 refine RK.tk Pu.mv ?_
 refine RK.tk Pu.mv ?_
 refine RK.tk Pu.mv ?_
 refine RK.tk (Pu.el ty_et38) ?_
 refine RK.tk (by first | exact Pu.fb ty_fa51_0 | exact Pu.fe ty_fa51_0) ?_
 refine RK.tk (Pu.ld ty_sc3) ?_
 refine RK.tk (Pu.el (q := (dm q).toNat) ty_et28 (hk := rfl)) ?_
 refine RK.tk (Pu.ld ty_sc3) ?_
 refine RK.tk (Pu.el (q := X.getD (dm q).toNat 0) ty_et22 (hk := Int.toNat_natCast _)) ?_
 refine RK.tk (by first | exact Pu.fb ty_fa46_0 | exact Pu.fe ty_fa46_0) ?_
 refine RK.tk (Pu.ld ty_sc3) ?_
 refine RK.tk Pu.ne ?_
 refine RK.ch [] ?_ trivial
 refine WK.n ?_
 refine TL.nil (TQ.thenN (hY23 _ _ ?_))
 refine TW.cond rfl (fun hc5 => ?_) (fun hc5 => ?_)
 try simp only [zcb9] at hc5
 have hnk : nm2B H dm yg X q = false := by unfold nm2B; exact decide_eq_false (by simpa using hc5)
 refine TW.seq fun Y24 hY24 => TW.region ?_
 refine TL.p Pu.as ?_
 refine TL.nil (TQ.thenN (hY24 _ _ ?_))
 refine TW.ret ?_
 refine TQ.blkR ?_
 refine TQ.thenR ?_
 refine TQ.thenR ?_
 refine TQ.blkR ?_
 refine TQ.thenR ?_
 refine TQ.ret Tryz.results24 rfl ((.tmp rfl .nil)) ?_
 exact fun w hw => ⟨ret_bool (by
  cases hq : nmdB H L nl nc dm yg X with
  | false => rfl
  | true =>
   unfold nmdB at hq
   simp only [Bool.and_eq_true] at hq
   have := allB_iff.1 hq.1.2 q hql
   rw [hnk] at this; cases this), Chg.ext hw.chg⟩
 try simp only [zcb9] at hc5
 have hyk : nm2B H dm yg X q = true := by unfold nm2B; exact decide_eq_true (by simpa using hc5)
 refine TW.skip ?_
 refine TQ.blkN ?_
 refine TQ.thenN (hY22 _ _ ?_)
 refine TW.region ?_
 refine TL.p Pu.mv ?_
 refine TL.p Pu.ad ?_
 refine TL.p Pu.as ?_
 refine TL.nil ?_
 refine TQ.thenN (hZ2 (q + 1) _ _ ?_ ?_ fs9 ?_)
 refine ⟨by omega, fun j hj => ?_⟩
 by_cases e : j = q
 subst e; exact hyk
 exact hkin j (by omega)
 exact zom9
 exact ks9
 try simp only [zcb9] at hc4
 have hql : q = nc := by omega
 refine TW.exit ?_
 refine TQ.thenX ?_
 refine TQ.thenX ?_
 refine TQ.blkX ?_
 refine TQ.thenN (hY18 _ _ ?_)
 refine TW.seq fun Y25 hY25 => TW.region ?_
 refine TL.p Pu.mv ?_
 refine TL.p Pu.mv ?_
 refine TL.call (M := []) rfl (enters Tryz.func68 rfl rfl) (List.Perm.refl _) rfl (fun w hw => by
   exact rbirths_any hk (hI.ext (Chg.ext hw.chg)) (OwnR.rdr (hw.holds (.own A9 H.n c9 36 2 (fun j => spL (S j).1 (S j).2)) (by simp))) hBd (by decide)) ?_
 rintro ⟨A7, c7⟩
 refine TL.p Pu.mv ?_
 refine TL.p Pu.ex ?_
 refine TL.p Pu.ex ?_
 refine TL.p Pu.as ?_
 refine TL.p Pu.as ?_
 refine TL.nil (TQ.thenN (hY25 _ _ ?_))
 refine TW.seq fun Y26 hY26 => TW.region ?_
 refine TL.p Pu.mv ?_
 refine TL.p Pu.as ?_
 refine TL.nil (TQ.thenN (hY26 _ _ ?_))
 refine TW.ret ?_
 refine TQ.ret Tryz.results24 rfl ((.tmp rfl .nil)) ?_
 exact fun w hw => ⟨ret_bool (by
  have e1 : allB nl (nm1B H L X) = true := allB_iff.2 fun j hj => hall j (by omega)
  have e2 : allB nc (nm2B H dm yg X) = true := allB_iff.2 fun j hj => hkin j (by omega)
  unfold nmdB
  rw [e1, e2, hS, List.take_of_length_le (by omega)]; rfl), Chg.ext hw.chg⟩
end Go.Proofs.YtbenhafhklfhmaaGreat
namespace Go.Proofs.YtbenhafhklfhmaaGreat
set_option linter.all false
set_option linter.unusedVariables false
set_option linter.unusedSimpArgs false
theorem Pu.iv {c : Cx} {F : Fr} {K : List Fact} {o : Oper} {a b : Int} {k : IntKind} (h : Pu c F K o (.int k a)) (e : a = b) : Pu c F K o (.int k b) := e ▸ h
end Go.Proofs.YtbenhafhklfhmaaGreat
namespace Go.Proofs.YtbenhafhklfhmaaGreat
set_option linter.all false
set_option linter.unusedVariables false
set_option linter.unusedSimpArgs false
section
variable {H : Hd}
end
section
variable {H : Hd} {L L' : Nat → Lk} {nl nc : Nat} {dm yg : Nat → Int}
end
section
variable {N : Nat → List Int}
def rsG (N : Nat → List Int) (t : Nat) : Nat → Nat
 | 0 => t
 | k + 1 => rsG N t k / (N k).length
def atG (N : Nat → List Int) (t : Nat) : Nat → List Int
 | 0 => []
 | k + 1 => atG N t k ++ [(N k).getD (rsG N t k % (N k).length) 0]
def toG (N : Nat → List Int) : Nat → Nat
 | 0 => 1
 | k + 1 => toG N k * (N k).length
theorem atG_all {x : List Int} : ∀ {k}, k ≤ x.length → (∀ i, i < k → x.getD i 0 ∈ N i) → ∃ t, t < toG N k ∧ ∀ q, atG N (t + q * toG N k) k = x.take k ∧ rsG N (t + q * toG N k) k = q
 | 0, _, _ => ⟨0, Nat.one_pos, fun q => ⟨by simp [atG], by simp [rsG, toG]⟩⟩
 | k + 1, hk, hm => by
  obtain ⟨t, ht, ih⟩ := atG_all (k := k) (by omega) fun i hi => hm i (by omega)
  obtain ⟨j, hj, e⟩ := List.mem_iff_getElem.1 (hm k (by omega))
  have e : (N k).getD j 0 = x.getD k 0 := by rw [List.getD_eq_getElem?_getD, List.getElem?_eq_getElem hj]; exact e
  refine ⟨t + j * toG N k, ?_, fun q => ?_⟩
  · simp only [toG]
    have : toG N k * (j + 1) ≤ toG N k * (N k).length := Nat.mul_le_mul_left _ hj
    rw [Nat.mul_add, Nat.mul_one, Nat.mul_comm] at this
    omega
  · have e1 : t + j * toG N k + q * toG N (k + 1) = t + (j + q * (N k).length) * toG N k := by
     simp only [toG]
     rw [Nat.add_mul, Nat.add_assoc, Nat.mul_assoc, Nat.mul_comm (toG N k) (N k).length]
    obtain ⟨h1, h2⟩ := ih (j + q * (N k).length)
    rw [e1]
    simp only [atG, rsG]
    rw [h1, h2, Nat.add_mul_mod_self_right, Nat.mod_eq_of_lt hj, e, Nat.add_mul_div_right _ _ (by omega), Nat.div_eq_of_lt hj, Nat.zero_add]
    exact ⟨(take_succ (by omega)).symm, rfl⟩
end
end Go.Proofs.YtbenhafhklfhmaaGreat
namespace Go.Proofs.YtbenhafhklfhmaaGreat
set_option linter.all false
set_option linter.unusedVariables false
set_option linter.unusedSimpArgs false
open Go.RowKit
section
variable {w : World} {A : Option Addr} {cp : Nat} {H : Hd} {a : Nat → Option Addr} {c : Nat → Nat}
theorem rdy_in {H : Hd} (h : rdyH H = true) : HOk H ∧ H.n ≤ 1000 ∧ ∀ i, i < H.n → H.ml i ≤ 1000 := by
 unfold rdyH at h
 rw [Bool.and_eq_true, Bool.not_eq_true'] at h
 obtain ⟨h20, h12⟩ := great_in h.1
 exact ⟨herdB_ok.1 h.2, by omega, fun i hi => by have := h12 i hi; omega⟩
end
end Go.Proofs.YtbenhafhklfhmaaGreat
namespace Go.Proofs.YtbenhafhklfhmaaGreat
set_option linter.all false
set_option linter.unusedVariables false
set_option linter.unusedSimpArgs false
section
variable {H : Hd} {l l' : Lk} {L L' : Nat → Lk} {nl nc : Nat} {dm yg : Nat → Int} {v : Int}
theorem liv9 (hk : HOk H) : livC9 H = if bthOk (moH H) H.n (bornH H) then 0 else 21 := by
 unfold livC9
 rw [herdB_ok.2 hk, if_pos rfl]
theorem nm_zero (hk : HOk H) : nmC H nl L nc dm yg = 0 ↔ livC9 H = 0 ∧ lksC nl L nc dm yg = 0 ∧ ∃ x, Vld H L nl nc dm yg x := by
 unfold nmC
 by_cases h1 : livC9 H = 0
 · rw [if_neg (fun h => h h1)]
   by_cases h2 : lksC nl L nc dm yg = 0
   · rw [if_neg (fun h => h h2)]
     have hc := (lks_zero.1 h2).2.2
     by_cases h3 : (nmR H nl L nc dm yg).length = 0
     · rw [if_pos h3]
       refine ⟨fun h => (by cases h), fun ⟨_, _, x, hx⟩ => ?_⟩
       have := (srch_vld hk hc).2 hx
       rw [show srch H L nc dm yg nl (bornH H) [] = [] from List.length_eq_zero_iff.1 h3] at this
       cases this
     · rw [if_neg h3]
       refine ⟨fun _ => ⟨h1, h2, ?_⟩, fun _ => rfl⟩
       obtain ⟨x, hx⟩ := List.exists_mem_of_length_pos (l := nmR H nl L nc dm yg) (by omega)
       exact ⟨x, (srch_vld hk hc).1 hx⟩
   · rw [if_pos h2]
     exact ⟨fun h => absurd h h2, fun h => absurd h.2.1 h2⟩
 · rw [if_pos h1]
   exact ⟨fun h => absurd h h1, fun h => absurd h.1 h1⟩
theorem nm_code (hk : HOk H) (hl : lksC nl L nc dm yg = 0) : nmC H nl L nc dm yg = 0 ∨ nmC H nl L nc dm yg = 21 ∨ nmC H nl L nc dm yg = 23 := by
  unfold nmC
  rw [liv9 hk, hl]
  by_cases h1 : bthOk (moH H) H.n (bornH H) = true
  · rw [if_pos h1, if_neg (fun h => h rfl), if_neg (fun h => h rfl)]
    split
    · exact .inr (.inr rfl)
    · exact .inl rfl
  · rw [if_neg h1, if_pos (by decide)]
    exact .inr (.inl rfl)
end
end Go.Proofs.YtbenhafhklfhmaaGreat
namespace Go.Proofs.YtbenhafhklfhmaaGreat
set_option linter.all false
set_option linter.unusedVariables false
set_option linter.unusedSimpArgs false
open Go.RowKit
section
variable {w : World} {A : Option Addr} {cp : Nat} {H : Hd} {a : Nat → Option Addr} {c : Nat → Nat}
end
theorem getD_memI {X : List Int} {k : Nat} (h : k < X.length) : X.getD k 0 ∈ X := mem_int_getD.2 ⟨k, h, rfl⟩
end Go.Proofs.YtbenhafhklfhmaaGreat
namespace Go.Proofs.YtbenhafhklfhmaaGreat
set_option linter.all false
set_option linter.unusedVariables false
set_option linter.unusedSimpArgs false
section
variable {H : Hd} {L : Nat → Lk} {nl nc : Nat} {dm yg : Nat → Int} {v : Int}
def atX (H : Hd) (N : Nat → List Int) (t : Nat) : Nat → List Nat
 | 0 => []
 | k + 1 => atX H N t k ++ [(atH H ((N k).getD (rsG N t k % (N k).length) 0)).toNat]
theorem atX_map {N : Nat → List Int} {t : Nat} : ∀ k, atX H N t k = (atG N t k).map fun v => (atH H v).toNat
 | 0 => rfl
 | k + 1 => by simp only [atX, atG, List.map_append, atX_map k, List.map_cons, List.map_nil]
theorem atX_len {N : Nat → List Int} {t : Nat} : ∀ k, (atX H N t k).length = k
 | 0 => rfl
 | k + 1 => by simp only [atX, List.length_append, List.length_singleton, atX_len k]
theorem nm_in (hk : HOk H) (hc : cvB nl nc dm yg = true) {k : Nat} (hkn : k < nl) (h : v ∈ nmL H nl L nc dm yg k) : ∃ i, i < H.n ∧ H.id i = v ∧ atH H v = (i : Int) := by
 obtain ⟨a, ha, e⟩ := (nmL_mem hk hc).1 h
 have hb := ha.bd k hkn
 exact ⟨_, hb, e, by rw [← e]; exact hk.at_ _ hb⟩
theorem nm_pos (hk : HOk H) (h : nmC H nl L nc dm yg = 0) {k : Nat} : 0 < (nmL H nl L nc dm yg k).length := by
 obtain ⟨_, h1, x, hx⟩ := (nm_zero hk).1 h
 have := (nmL_mem (k := k) hk (lks_zero.1 h1).2.2).2 ⟨x, hx, rfl⟩
 exact List.length_pos_of_mem this
theorem asc_sub {l M : List Int} (hl : l.Pairwise (· < ·)) (h : ∀ v ∈ l, v ∈ M) : l.length ≤ M.length := by
 have e : l = (ascL M).filter fun v => decide (v ∈ l) := asc_uniq hl (ascL_asc.filter _) fun v => by
  rw [List.mem_filter, ascL_mem, decide_eq_true_eq]
  exact ⟨fun hv => ⟨h v hv, hv⟩, fun hv => hv.2⟩
 rw [e]
 exact Nat.le_trans (List.length_filter_le _ _) ascL_le
theorem nm_le (hk : HOk H) (hc : cvB nl nc dm yg = true) {k : Nat} (hkn : k < nl) : (nmL H nl L nc dm yg k).length ≤ H.n := by
 have h := asc_sub (l := nmL H nl L nc dm yg k) (M := (List.range H.n).map H.id) idsL_asc fun v hv => by
  obtain ⟨i, h1, h2, _⟩ := nm_in hk hc hkn hv
  exact List.mem_map.2 ⟨i, List.mem_range.2 h1, h2⟩
 rwa [List.length_map, List.length_range] at h
theorem toG_le {N : Nat → List Int} (h : ∀ k, k < nl → (N k).length ≤ 16) : ∀ k, k ≤ nl → toG N k ≤ 16 ^ k
 | 0, _ => Nat.le_refl _
 | k + 1, hk => by
  have h1 := toG_le h k (by omega)
  simp only [toG, Nat.pow_succ]
  exact Nat.mul_le_mul h1 (h k (by omega))
theorem may_found (hk : HOk H) (h : nmC H nl L nc dm yg = 0) {k : Nat} (hkn : k < nl) (hv : v ∈ nmL H nl L nc dm yg k) :
   ∃ t, t < toG (nmL H nl L nc dm yg) nl ∧ (atX H (nmL H nl L nc dm yg) t nl).getD k 0 = (atH H v).toNat ∧ nmdB H L nl nc dm yg (atX H (nmL H nl L nc dm yg) t nl) = true := by
 obtain ⟨_, h1, _⟩ := (nm_zero hk).1 h
 have hc := (lks_zero.1 h1).2.2
 obtain ⟨a, ha, e⟩ := (nmL_mem hk hc).1 hv
 have hg : ∀ i, i < nl → (a.map H.id).getD i 0 = H.id (a.getD i 0) := fun i hi => by
   rw [List.getD_eq_getElem?_getD, List.getElem?_map, List.getD_eq_getElem?_getD, List.getElem?_eq_getElem (by rw [ha.len]; exact hi)]
   rfl
 obtain ⟨t, ht, h2⟩ := atG_all (N := nmL H nl L nc dm yg) (x := a.map H.id) (k := nl) (by rw [List.length_map, ha.len]; exact Nat.le_refl _) fun i hi => by
   rw [hg i hi]
   exact (nmL_mem hk hc).2 ⟨a, ha, rfl⟩
 have h3 := (h2 0).1
 rw [Nat.zero_mul, Nat.add_zero, List.take_of_length_le (by rw [List.length_map, ha.len]; exact Nat.le_refl _)] at h3
 have h4 : atX H (nmL H nl L nc dm yg) t nl = a := by
   rw [atX_map, h3, List.map_map]
   refine List.ext_getElem (by simp) fun i hi1 hi2 => ?_
   rw [List.getElem_map]
   have hb := ha.bd i (by rw [← ha.len]; exact hi2)
   rw [List.getD_eq_getElem?_getD, List.getElem?_eq_getElem hi2] at hb
   have hb : a[i] < H.n := hb
   show (atH H (H.id a[i])).toNat = a[i]
   rw [hk.at_ _ hb, Int.toNat_natCast]
 refine ⟨t, ht, ?_, ?_⟩
 · rw [h4, ← e, hk.at_ _ (ha.bd k hkn), Int.toNat_natCast]
 · rw [h4]; exact (nmdB_iff hk hc ha.len ha.bd).2 ha
theorem atX_in (hk : HOk H) (h : nmC H nl L nc dm yg = 0) {t : Nat} : ∀ k, k ≤ nl → ∀ i, i < k → (atX H (nmL H nl L nc dm yg) t k).getD i 0 < H.n
  | 0, _, i, hi => absurd hi (Nat.not_lt_zero i)
  | k + 1, hkn, i, hi => by
    simp only [atX]
    obtain ⟨_, h1, _⟩ := (nm_zero hk).1 h
    by_cases e : i = k
    · subst e
      have e2 := getD_apps (a := atX H (nmL H nl L nc dm yg) t i) (b := []) (i := (atH H ((nmL H nl L nc dm yg i).getD (rsG (nmL H nl L nc dm yg) t i % (nmL H nl L nc dm yg i).length) 0)).toNat)
      rw [atX_len] at e2
      rw [e2]
      have hp := nm_pos (k := i) hk h
      obtain ⟨j, h2, h3, h4⟩ := nm_in (L := L) (v := (nmL H nl L nc dm yg i).getD (rsG (nmL H nl L nc dm yg) t i % (nmL H nl L nc dm yg i).length) 0) hk (lks_zero.1 h1).2.2 (k := i) (by omega) (by
        have := Nat.mod_lt (rsG (nmL H nl L nc dm yg) t i) hp
        rw [List.getD_eq_getElem?_getD, List.getElem?_eq_getElem this]
        exact List.getElem_mem this)
      rw [h4, Int.toNat_natCast]; exact h2
    · rw [getD_appl (by rw [atX_len]; omega)]
      exact atX_in hk h k (by omega) i (by omega)
end
end Go.Proofs.YtbenhafhklfhmaaGreat
namespace Go.Proofs.YtbenhafhklfhmaaGreat
set_option linter.all false
set_option linter.unusedVariables false
set_option linter.unusedSimpArgs false
open Go.RowKit
structure MayS (H : Hd) (nl nM : Nat) (nd : List Nat → Bool) (M : Nat → List Int) (g : Int) : Prop where
 no : g ≠ 0 → (g = 21 ∨ g = 23) ∧ nM = 0
 ye : g = 0 → nM = nl
 pos : g = 0 → ∀ k, k < nl → 0 < (M k).length
 le : ∀ k, k < nl → (M k).length ≤ H.n
 in_ : ∀ k, k < nl → ∀ v, v ∈ M k → ∃ i, i < H.n ∧ atH H v = (i : Int)
 big : ∀ k, k ≤ nl → toG M k ≤ 16 ^ k
 fnd : g = 0 → ∀ k, k < nl → ∀ v, v ∈ M k → ∃ t, t < toG M nl ∧ (atX H M t nl).getD k 0 = (atH H v).toNat ∧ nd (atX H M t nl) = true
 lt : g = 0 → ∀ t i, i < nl → (atX H M t nl).getD i 0 < H.n
theorem may_say {H : Hd} {nl nc : Nat} {L : Nat → Lk} {dm yg : Nat → Int} (hk : HOk H) (hl : lksC nl L nc dm yg = 0) :
   ∃ (nM : Nat) (M : Nat → List Int) (g : Int), MayS H nl nM (nmdB H L nl nc dm yg) M g ∧ nmC H nl L nc dm yg = g ∧ nmL H nl L nc dm yg = M ∧ nmN H nl L nc dm yg = nM := by
 have h16 := hk.n16
 have hc := (lks_zero.1 hl).2.2
 refine ⟨_, _, _, ⟨fun h => ⟨?_, if_neg h⟩, fun h => if_pos h, fun h k _ => nm_pos hk h, fun k hkn => nm_le hk hc hkn, fun k hkn v hv => ?_, fun k hkn => ?_, fun h k hkn v hv => may_found hk h hkn hv, fun h t i hi => atX_in hk h nl (Nat.le_refl _) i hi⟩, rfl, rfl, rfl⟩
 · rcases nm_code (H := H) hk hl with h9 | h9 | h9
   · exact absurd h9 h
   · exact .inl h9
   · exact .inr h9
 · obtain ⟨i, h1, _, h3⟩ := nm_in hk hc hkn hv
   exact ⟨i, h1, h3⟩
 · exact toG_le (fun j hj => by have := nm_le (L := L) hk hc hj; omega) k hkn
theorem atX_next {H : Hd} {M : Nat → List Int} {t k i : Nat} (h : atH H ((M k).getD (rsG M t k % (M k).length) 0) = (i : Int)) : atX H M t (k + 1) = atX H M t k ++ [i] := by
 simp only [atX]
 rw [h, Int.toNat_natCast]
theorem pl_hit {H : Hd} {v : Int} {i : Nat} (h : atH H v = (i : Int)) : mlook v (plM H H.n) = some (.int .i64 (i : Int)) := by
 rw [pl_look, h, if_pos (by omega)]
section
variable {w : World} {A B C : Option Addr} {cp cb cc nl nc : Nat} {H : Hd} {a : Nat → Option Addr} {c : Nat → Nat} {L : Nat → Lk} {la : Nat → Option Addr} {lc : Nat → Nat} {dm yg : Nat → Int}
set_option maxRecDepth 100000 in
set_option maxHeartbeats 16000000 in
theorem lawMay_any (o t : Nat) (ho : o ≤ 255) (ht : t ≤ 255) (hR : RdR w 5 A H.n (fun i => anL H a c i)) (hM : ∀ i, i < H.n → RdR w 2 (a i) (H.ml i) (fun k => spL (H.sp i k) (H.sg i k)))
  (hLR : RdR w 4 B nl (fun k => lkL (L k) (la k) (lc k))) (hLs : ∀ k, k < nl → RdR w 1 (la k) (L k).ns (fun j => [.int .u32 ((L k).sg j : Int)])) (hLb : ∀ k, k < nl → ∀ j, j < (L k).ns → (L k).sg j ≤ 4294967295) (hCR : RdR w 2 C nc (fun k => [.int .i64 (dm k), .int .i64 (yg k)])) :
  Calls Tryz.prog 4 #[.slice A H.n cp, .slice B nl cb, .slice C nc cc, .int .u8 (o : Int), .int .u8 (t : Int)] w (Ret w (.bool true)) := by
 have fL := fun (w' : World) (h1 : RdR w' 4 B nl (fun k => lkL (L k) (la k) (lc k))) (h2 : ∀ k, k < nl → RdR w' 1 (la k) (L k).ns (fun j => [.int .u32 ((L k).sg j : Int)])) (h3 : RdR w' 2 C nc (fun k => [.int .i64 (dm k), .int .i64 (yg k)])) => rLooks2_any (cb := cb) (cc := cc) h1 h2 hLb h3
 unfold lkL at hLR
 refine K_enter (S := []) (K := []) Tryz.func4 rfl Tryz.ntmps4 rfl (Sat.start _) ?_
 refine TW.seq fun Y1 hY1 => TW.region ?_
 refine TL.p Pu.as ?_
 refine TL.nil (TQ.thenN (hY1 _ _ ?_))
 refine TW.seq fun Y2 hY2 => TW.region ?_
 refine TL.cr rfl (enters Tryz.func12 rfl rfl) (fun w hw => by
   exact alive_any _) ?_
 refine TL.p Pu.as ?_
 refine TL.nil (TQ.thenN (hY2 _ _ ?_))
 refine TW.seq fun Y3 hY3 => ?_
 refine TW.seq fun Y4 hY4 => ?_
 refine TW.join [(48, .bool (!rdyH H || !decide (lksC nl L nc dm yg = 0) || decide ((nl : Int) = 0)))] ?_ (fun hJ1 => ?_)
 refine TQ.thenN (hY4 _ _ ?_)
 refine TW.cond rfl (fun hc0 => ?_) (fun hc0 => ?_)
 try simp only [zcb9] at hc0
 refine TW.seq fun Y5 hY5 => TW.region ?_
 refine TL.p Pu.mv ?_
 refine TL.p Pu.as ?_
 refine TL.nil (TQ.thenN (hY5 _ _ ?_))
 refine TW.ret ?_
 refine TQ.thenR ?_
 refine TQ.ret Tryz.results4 rfl ((.tmp rfl .nil)) ?_
 exact fun w hw => Ret.of hw
 try simp only [zcb9] at hc0
 obtain ⟨⟨hr0, hl0⟩, hn0⟩ := hc0
 have hr1 : rdyH H = true := by simpa using hr0
 have hl1 : lksC nl L nc dm yg = 0 := by simpa using hl0
 obtain ⟨hk, hI0⟩ := rdy_in hr1
 have hI : HIn w A H a c := ⟨hI0.1, hR, hM, hI0.2⟩
 obtain ⟨hLI, hCI⟩ := lks_in hl1 hLR hLs hLb hCR
 have hnn : 0 < nl := by omega
 obtain ⟨⟨hl4, _⟩, hlk, hcv⟩ := lks_zero.1 hl1
 have h16 := hk.n16
 obtain ⟨nM, M, g, hS, k1, k2, k3⟩ := may_say (dm := dm) (yg := yg) hk hl1
 obtain ⟨nd, hnd⟩ : ∃ nd, nd = nmdB H L nl nc dm yg := ⟨_, rfl⟩
 rw [← hnd] at hS
 replace hnd := hidT hnd
 replace hl1 := hidT hl1
 replace k1 := hidT k1
 replace k2 := hidT k2
 replace k3 := hidT k3
 replace hS := hidT hS
 refine TW.skip ?_
 refine TQ.thenN (hY3 _ _ ?_)
 refine TW.seq fun Y6 hY6 => TW.region ?_
 refine TL.p Pu.mv ?_
 refine TL.p Pu.mv ?_
 refine TL.p Pu.mv ?_
 refine TL.call (M := []) rfl (enters Tryz.func20 rfl rfl) (List.Perm.refl _) rfl (fun w hw => by
   exact lw_names k1.out k2.out k3.out (hI.sat hw) (hLI.ext (Chg.ext hw.chg)) (hCI.ext (Chg.ext hw.chg))) ?_
 rintro ⟨⟨PM, pm⟩, ma, mc⟩
 refine TL.p Pu.mv ?_
 refine TL.p Pu.ex ?_
 refine TL.p Pu.ex ?_
 refine TL.p Pu.as ?_
 refine TL.p Pu.as ?_
 refine TL.nil (TQ.thenN (hY6 _ _ ?_))
 refine TW.seq fun Y7 hY7 => ?_
 refine TW.seq fun Y8 hY8 => TW.region ?_
 refine TL.p Pu.mv ?_
 refine TL.p Pu.ne ?_
 refine TL.nil (TQ.thenN (hY8 _ _ ?_))
 refine TW.cond rfl (fun hc1 => ?_) (fun hc1 => ?_)
 try simp only [zcb9] at hc1
 have hne : g ≠ 0 := by simpa using hc1
 obtain ⟨hg2, hn00⟩ := hS.out.no hne
 have hnM9 : nM ≤ 0 := by rw [hn00]; exact Nat.le_refl _
 replace hn00 := hidT hn00
 refine TW.seq fun Y9 hY9 => TW.region ?_
 refine TL.p Pu.mv ?_
 refine TL.p Pu.mv ?_
 refine TL.lit (t := 60) (b' := true) rfl (rfl) ?_
 refine TL.gd Pu.mv ?_
 refine TL.gd (Pu.ln Tryz.underlying52) ?_
 refine TL.gd Pu.eq ?_
 refine TL.lit (t := 63) (b' := true) rfl ((by rw [hn00.out]; rfl)) ?_
 refine TL.p Pu.kt ?_
 refine TL.p Pu.mv ?_
 refine TL.gd Pu.mv ?_
 refine TL.gd Pu.eq ?_
 refine TL.gd Pu.mv ?_
 refine TL.guard (t := 68) rfl (fun hg1 => ?_) (fun hg1 => ?_)
 try simp only [zgb9] at hg1
 refine TL.gs ?_
 refine TL.gs ?_
 refine TL.gd Pu.kt ?_
 refine TL.p Pu.kt ?_
 refine TL.p Pu.as ?_
 refine TL.nil (TQ.thenN (hY9 _ _ ?_))
 refine TW.ret ?_
 refine TQ.thenR ?_
 refine TQ.ret Tryz.results4 rfl ((.tmp rfl .nil)) ?_
 exact fun w hw => Ret.of hw
 try simp only [zgb9] at hg1
 refine TL.gd Pu.mv ?_
 refine TL.gd Pu.eq ?_
 refine TL.lit (t := 70) (b' := true) rfl ((decide_eq_true (by omega))) ?_
 refine TL.gd Pu.kf ?_
 refine TL.p Pu.kt ?_
 refine TL.p Pu.as ?_
 refine TL.nil (TQ.thenN (hY9 _ _ ?_))
 refine TW.ret ?_
 refine TQ.thenR ?_
 refine TQ.ret Tryz.results4 rfl ((.tmp rfl .nil)) ?_
 exact fun w hw => Ret.of hw
 try simp only [zcb9] at hc1
 have hee : g = 0 := by simpa using hc1
 have hnM := hS.out.ye hee
 have hpos := hS.out.pos hee
 have hfnd := hS.out.fnd hee
 have hlt := hS.out.lt hee
 have hnM1 : nl ≤ nM := by omega
 have hnM2 : nM ≤ nl := by omega
 replace hnM := hidT hnM
 refine TW.skip ?_
 refine TQ.thenN (hY7 _ _ ?_)
 refine TW.seq fun Y10 hY10 => ?_
 refine TW.seq fun Y11 hY11 => TW.region ?_
 refine TL.p Pu.mv ?_
 refine TL.p (Pu.ln Tryz.underlying52) ?_
 refine TL.p Pu.mv ?_
 refine TL.p (Pu.ln Tryz.underlying37) ?_
 refine TL.p Pu.ne ?_
 refine TL.nil (TQ.thenN (hY11 _ _ ?_))
 refine TW.condF rfl ((by rw [hnM.out]; simp)) ?_
 refine TW.skip ?_
 refine TQ.thenN (hY10 _ _ ?_)
 refine TW.rebase fun w1 hw1 => ?_
 have rM := OwnR.rdr (hw1.holds (.own PM nM pm 28 1 (fun k => [.slice (ma k) (M k).length (mc k)])) (Pick.mem pk9))
 have rMk : ∀ k, k < nM → RdR w1 1 (ma k) (M k).length (iL (M k)) := fun k hk9 => OwnR.rdr (bun_get hw1 (K1 := ownsE 3 1 ma (fun k => (M k).length) mc (fun k => iL (M k)) nM) (Pick.mem pk9) (ownsE_mem hk9))
 have hI' := hI.ext (Chg.ext hw1.chg)
 have hLI' := hLI.ext (Chg.ext hw1.chg)
 have hCI' := hCI.ext (Chg.ext hw1.chg)
 have hR' := hI'.hR
 clear hLR hCR hR
 refine TW.seq fun Y12 hY12 => TW.region ?_
 refine TL.p Pu.as ?_
 refine TL.nil (TQ.thenN (hY12 _ _ ?_))
 refine TW.seq fun Y13 hY13 => TW.region ?_
 refine TL.mm (kk := .i64) ?_
 intro b1
 refine TL.p Pu.as ?_
 refine TL.nil (TQ.thenN (hY13 _ _ ?_))
 refine TW.seq fun Y14 hY14 => ?_
 refine TW.seq fun Y15 hY15 => TW.region ?_
 refine TL.p Pu.mv ?_
 refine TL.p (Pu.ln Tryz.underlying22) ?_
 refine TL.p Pu.mv ?_
 refine TL.nil (TQ.thenN (hY15 _ _ ?_))
 refine TW.block ?_
 refine TW.loop1 (fun (i : Nat) => [(81, .int .i64 (i : Int)), (80, .int .i64 (H.n : Int)), (79, .slice A H.n cp), (15, .map (some b1)), (14, .int .i64 1), (12, .slice PM nM pm), (11, .bool true), (0, .slice A H.n cp), (1, .slice B nl cb), (2, .slice C nc cc), (3, .int .u8 (o : Int)), (4, .int .u8 (t : Int))]) (fun i => [.obj b1 (mapO .i64 (plM H i))]) (fun i => i ≤ H.n) (fun i => H.n - i) 0 fs9 ?_ ?_ ?_
 exact ks9
 exact Nat.zero_le _
 rintro i hi Z0 hZ0
 refine TW.seq fun Y16 hY16 => TW.region ?_
 refine TL.p Pu.lt ?_
 refine TL.nil (TQ.thenN (hY16 _ _ ?_))
 refine TW.seq fun Y17 hY17 => ?_
 refine TW.cond rfl (fun hc3 => ?_) (fun hc3 => ?_)
 try simp only [zcb9] at hc3
 have hin : i < H.n := by omega
 have hplm := hidT (pl_next (H := H) (i := i) (by rw [pl_twice hin, decide_eq_true (hk.at_ i hin)]; rfl))
 refine TW.skip ?_
 refine TQ.thenN (hY17 _ _ ?_)
 refine TW.seq fun Y18 hY18 => ?_
 refine TW.block ?_
 refine TW.seq fun Y19 hY19 => TW.region ?_
 refine TL.p Pu.mv ?_
 refine TL.p (Pu.el ty_et22) ?_
 refine TL.p (Pu.lds ty_ag46) ?_
 refine TL.m (Mk.al ty_zr46) ?_
 intro b2
 refine TL.p Pu.as ?_
 first | refine TL.st ty_sz46 ?_ | refine TL.se ty_sz46 ?_
 refine TL.nil (TQ.thenN (hY19 _ _ ?_))
 refine TW.region ?_
 refine TL.p Pu.mv ?_
 refine TL.p (by first | exact Pu.fb ty_fa46_0 | exact Pu.fe ty_fa46_0) ?_
 refine TL.p (Pu.ld ty_sc3) ?_
 refine TL.p Pu.mv ?_
 refine TL.mu ty_mp39 ?_
 refine TL.nil ?_
 refine TQ.blkN ?_
 refine TQ.thenN (hY18 _ _ ?_)
 refine TW.region ?_
 refine TL.p Pu.ad ?_
 refine TL.p Pu.mv ?_
 refine TL.nil ?_
 refine TQ.thenN (hZ0 (i + 1) _ _ ?_ ?_ fs9 ?_)
 exact (by omega)
 exact zom9
 rw [← hplm.out]
 exact ks9
 try simp only [zcb9] at hc3
 obtain rfl : i = H.n := by omega
 refine TW.exit ?_
 refine TQ.thenX ?_
 refine TQ.thenX ?_
 refine TQ.blkX ?_
 refine TQ.thenN (hY14 _ _ ?_)
 refine TW.seq fun Y20 hY20 => ?_
 refine TW.seq fun Y21 hY21 => TW.region ?_
 refine TL.p Pu.mv ?_
 refine TL.p (Pu.ln Tryz.underlying52) ?_
 refine TL.p Pu.mv ?_
 refine TL.nil (TQ.thenN (hY21 _ _ ?_))
 refine TW.block ?_
 refine TW.loop1 (fun (k : Nat) => [(93, .int .i64 (k : Int)), (92, .int .i64 (nM : Int)), (91, .slice PM nM pm), (15, .map (some b1)), (14, .int .i64 ((toG M k : Nat) : Int)), (12, .slice PM nM pm), (11, .bool true), (0, .slice A H.n cp), (1, .slice B nl cb), (2, .slice C nc cc), (3, .int .u8 (o : Int)), (4, .int .u8 (t : Int))]) (fun k => [.obj b1 (mapO .i64 (plM H H.n))]) (fun k => k ≤ nM) (fun k => nM - k) 0 fs9 ?_ ?_ ?_
 exact ks9
 exact Nat.zero_le _
 rintro k hkn Z1 hZ1
 refine TW.seq fun Y22 hY22 => TW.region ?_
 refine TL.p Pu.lt ?_
 refine TL.nil (TQ.thenN (hY22 _ _ ?_))
 refine TW.seq fun Y23 hY23 => ?_
 refine TW.cond rfl (fun hc4 => ?_) (fun hc4 => ?_)
 try simp only [zcb9] at hc4
 have hkl : k < nM := by omega
 have hp1 := hpos k (by omega)
 have hl1 := hS.out.le k (by omega)
 have hbg := hS.out.big k (by omega)
 have h4p : 16 ^ k ≤ 65536 := Nat.le_trans (Nat.pow_le_pow_right (by decide) (show k ≤ 4 by omega)) (by decide)
 have rMk1 := rMk k hkl
 have hin1 := hS.out.in_ k (by omega)
 have hml : -9223372036854775808 ≤ ((toG M k : Nat) : Int) * ((M k).length : Int) ∧ ((toG M k : Nat) : Int) * ((M k).length : Int) ≤ 9223372036854775807 := by
  have h1 : toG M k * (M k).length ≤ 65536 * 16 := Nat.mul_le_mul (by omega) (by omega)
  rw [← Int.natCast_mul]
  omega
 have hme := hidT (show ((toG M k : Nat) : Int) * ((M k).length : Int) = ((toG M (k + 1) : Nat) : Int) from (Int.natCast_mul _ _).symm)
 refine TW.skip ?_
 refine TQ.thenN (hY23 _ _ ?_)
 refine TW.seq fun Y24 hY24 => ?_
 refine TW.block ?_
 refine TW.seq fun Y25 hY25 => TW.region ?_
 refine TL.p (Pu.el ty_et52) ?_
 refine TL.p (Pu.ld ty_sc28) ?_
 refine TL.p Pu.as ?_
 refine TL.nil (TQ.thenN (hY25 _ _ ?_))
 refine TW.seq fun Y26 hY26 => ?_
 refine TW.seq fun Y27 hY27 => TW.region ?_
 refine TL.p Pu.mv ?_
 refine TL.p (Pu.ln Tryz.underlying28) ?_
 refine TL.p Pu.eq ?_
 refine TL.lit (t := 99) (b' := false) rfl ((decide_eq_false (by omega))) ?_
 refine TL.p Pu.mv ?_
 refine TL.gd Pu.mv ?_
 refine TL.gd (Pu.ln Tryz.underlying28) ?_
 refine TL.gd Pu.mv ?_
 refine TL.gd (Pu.ln Tryz.underlying22) ?_
 refine TL.gd Pu.gt ?_
 refine TL.lit (t := 105) (b' := false) rfl ((decide_eq_false (by omega))) ?_
 refine TL.p Pu.kf ?_
 refine TL.nil (TQ.thenN (hY27 _ _ ?_))
 refine TW.condF rfl rfl ?_
 refine TW.skip ?_
 refine TQ.thenN (hY26 _ _ ?_)
 refine TW.seq fun Y28 hY28 => ?_
 refine TW.seq fun Y29 hY29 => TW.region ?_
 refine TL.p Pu.mv ?_
 refine TL.p (Pu.ln Tryz.underlying28) ?_
 refine TL.p Pu.mv ?_
 refine TL.nil (TQ.thenN (hY29 _ _ ?_))
 refine TW.block ?_
 refine TW.loop1 (fun (j : Nat) => [(109, .int .i64 (j : Int)), (108, .int .i64 ((M k).length : Int)), (107, .slice (ma k) (M k).length (mc k)), (19, .slice (ma k) (M k).length (mc k)), (93, .int .i64 (k : Int)), (92, .int .i64 (nM : Int)), (91, .slice PM nM pm), (15, .map (some b1)), (14, .int .i64 ((toG M k : Nat) : Int)), (12, .slice PM nM pm), (11, .bool true), (0, .slice A H.n cp), (1, .slice B nl cb), (2, .slice C nc cc), (3, .int .u8 (o : Int)), (4, .int .u8 (t : Int))]) (fun j => [.obj b1 (mapO .i64 (plM H H.n))]) (fun j => j ≤ (M k).length) (fun j => (M k).length - j) 0 fs9 ?_ ?_ ?_
 exact ks9
 exact Nat.zero_le _
 rintro j hj Z2 hZ2
 refine TW.seq fun Y30 hY30 => TW.region ?_
 refine TL.p Pu.lt ?_
 refine TL.nil (TQ.thenN (hY30 _ _ ?_))
 refine TW.seq fun Y31 hY31 => ?_
 refine TW.cond rfl (fun hc6 => ?_) (fun hc6 => ?_)
 try simp only [zcb9] at hc6
 have hjn : j < (M k).length := by omega
 obtain ⟨i9, _, hi9⟩ := hin1 _ (getD_memI hjn)
 replace hi9 := hidT (pl_hit hi9)
 refine TW.skip ?_
 refine TQ.thenN (hY31 _ _ ?_)
 refine TW.seq fun Y32 hY32 => ?_
 refine TW.block ?_
 refine TW.seq fun Y33 hY33 => TW.region ?_
 refine TL.p (Pu.el ty_et28) ?_
 refine TL.p (Pu.ld ty_sc3) ?_
 refine TL.p Pu.as ?_
 refine TL.nil (TQ.thenN (hY33 _ _ ?_))
 refine TW.seq fun Y34 hY34 => TW.region ?_
 refine TL.p Pu.mv ?_
 refine TL.p Pu.mv ?_
 refine TL.p (Pu.lkS ty_mp39 ty_zv3 hi9.out) ?_
 refine TL.p Pu.mv ?_
 refine TL.p Pu.ex ?_
 refine TL.p Pu.ex ?_
 refine TL.lit (t := 118) (b' := true) rfl (rfl) ?_
 refine TL.p Pu.as ?_
 refine TL.p Pu.as ?_
 refine TL.nil (TQ.thenN (hY34 _ _ ?_))
 refine TW.seq fun Y35 hY35 => TW.region ?_
 refine TL.p Pu.mv ?_
 refine TL.p Pu.no ?_
 refine TL.nil (TQ.thenN (hY35 _ _ ?_))
 refine TW.condF rfl rfl ?_
 refine TW.skip ?_
 refine TQ.blkN ?_
 refine TQ.thenN (hY32 _ _ ?_)
 refine TW.region ?_
 refine TL.p Pu.ad ?_
 refine TL.p Pu.mv ?_
 refine TL.nil ?_
 refine TQ.thenN (hZ2 (j + 1) _ _ ?_ ?_ fs9 ?_)
 exact (by omega)
 exact zom9
 exact ks9
 try simp only [zcb9] at hc6
 refine TW.exit ?_
 refine TQ.thenX ?_
 refine TQ.thenX ?_
 refine TQ.blkX ?_
 refine TQ.thenN (hY28 _ _ ?_)
 refine TW.region ?_
 refine TL.p Pu.mv ?_
 refine TL.p Pu.mv ?_
 refine TL.p (Pu.ln Tryz.underlying28) ?_
 refine TL.p (Pu.iv (Pu.ml (h := hml)) hme.out) ?_
 refine TL.p Pu.as ?_
 refine TL.nil ?_
 refine TQ.blkN ?_
 refine TQ.thenN (hY24 _ _ ?_)
 refine TW.region ?_
 refine TL.p Pu.ad ?_
 refine TL.p Pu.mv ?_
 refine TL.nil ?_
 refine TQ.thenN (hZ1 (k + 1) _ _ ?_ ?_ fs9 ?_)
 exact (by omega)
 exact zom9
 exact ks9
 try simp only [zcb9] at hc4
 obtain rfl : k = nM := by omega
 obtain rfl : k = nl := by omega
 refine TW.exit ?_
 refine TQ.thenX ?_
 refine TQ.thenX ?_
 refine TQ.blkX ?_
 refine TQ.thenN (hY20 _ _ ?_)
 refine TW.seq fun Y36 hY36 => ?_
 refine TW.seq fun Y37 hY37 => TW.region ?_
 refine TL.p Pu.mv ?_
 refine TL.p Pu.gt ?_
 refine TL.nil (TQ.thenN (hY37 _ _ ?_))
 refine TW.cond rfl (fun hc8 => ?_) (fun hc8 => ?_)
 try simp only [zcb9] at hc8
 refine TW.seq fun Y38 hY38 => TW.region ?_
 refine TL.p Pu.mv ?_
 refine TL.p Pu.as ?_
 refine TL.nil (TQ.thenN (hY38 _ _ ?_))
 refine TW.ret ?_
 refine TQ.thenR ?_
 refine TQ.ret Tryz.results4 rfl ((.tmp rfl .nil)) ?_
 exact fun w hw => Ret.of (hw.from hw1.chg (fun _ hb => .inl hb))
 try simp only [zcb9] at hc8
 obtain ⟨q, ei, hq⟩ : ∃ q : Nat, HidT ((o : Int) % (k : Int) = (q : Int)) ∧ q < k := ⟨o % k, hidT (Int.natCast_emod o k).symm, Nat.mod_lt _ (by omega)⟩
 have hpq := hpos q (by omega)
 have hlq := hS.out.le q (by omega)
 have rMq := rMk q (by omega)
 obtain ⟨r, er, hr⟩ : ∃ r : Nat, HidT ((t : Int) % ((M q).length : Int) = (r : Int)) ∧ r < (M q).length := ⟨t % (M q).length, hidT (Int.natCast_emod t (M q).length).symm, Nat.mod_lt _ hpq⟩
 have hon := getD_memI (X := M q) hr
 obtain ⟨v1, hv1⟩ : ∃ v, v = (M q).getD r 0 := ⟨_, rfl⟩
 rw [← hv1] at hon
 obtain ⟨i1, hi1, hat1⟩ := hS.out.in_ q (by omega) v1 hon
 obtain ⟨t1, ht1, hx1, hnd1⟩ := hfnd q (by omega) v1 hon
 rw [hat1, Int.toNat_natCast] at hx1
 have hbg := hS.out.big k (by omega)
 have h4p : 16 ^ k ≤ 65536 := Nat.le_trans (Nat.pow_le_pow_right (by decide) (show k ≤ 4 by omega)) (by decide)
 replace hv1 := hidT hv1
 replace hat1 := hidT hat1
 refine TW.skip ?_
 refine TQ.thenN (hY36 _ _ ?_)
 refine TW.seq fun Y39 hY39 => TW.region ?_
 refine TL.p Pu.mv ?_
 refine TL.p (Pu.cv (v := .int .i64 (o : Int)) rfl (fun w => by go_simp; rw [IntWalk.i64_in (o : Int) (by omega)])) ?_
 refine TL.p Pu.mv ?_
 refine TL.p (Pu.ln Tryz.underlying52) ?_
 refine TL.p (Pu.iv Pu.rm ei.out) ?_
 refine TL.p Pu.as ?_
 refine TL.nil (TQ.thenN (hY39 _ _ ?_))
 refine TW.seq fun Y40 hY40 => ?_
 refine TW.dw 15 ?_
 refine RK.tk Pu.mv ?_
 refine RK.tk Pu.mv ?_
 refine RK.tk (Pu.el ty_et52) ?_
 refine RK.tk (Pu.ld ty_sc28) ?_
 refine RK.tk Pu.mv ?_
 refine RK.tk (Pu.cv (v := .int .i64 (t : Int)) rfl (fun w => by go_simp; rw [IntWalk.i64_in (t : Int) (by omega)])) ?_
 refine RK.tk Pu.mv ?_
 refine RK.tk Pu.mv ?_
 refine RK.tk (Pu.el ty_et52) ?_
 refine RK.tk (Pu.ld ty_sc28) ?_
 refine RK.tk (Pu.ln Tryz.underlying28) ?_
 refine RK.tk (Pu.iv Pu.rm er.out) ?_
 refine RK.tk (Pu.el ty_et28) ?_
 refine RK.tk (Pu.iv (Pu.ld ty_sc3) hv1.out.symm) ?_
 refine RK.tk Pu.as ?_
 refine RK.ch [] ?_ trivial
 refine WK.n ?_
 refine TL.nil (TQ.thenN (hY40 _ _ ?_))
 refine TW.seq fun Y41 hY41 => ?_
 refine TW.seq fun Y42 hY42 => TW.region ?_
 refine TL.p Pu.mv ?_
 refine TL.p Pu.mv ?_
 refine TL.nil (TQ.thenN (hY42 _ _ ?_))
 refine TW.block ?_
 refine TW.loop1 (fun (s : Nat) => [(150, .int .i64 (s : Int)), (149, .int .i64 ((toG M k : Nat) : Int)), (24, .int .i64 (q : Int)), (25, .int .i64 v1), (15, .map (some b1)), (12, .slice PM k pm), (11, .bool true), (0, .slice A H.n cp), (1, .slice B k cb), (2, .slice C nc cc)]) (fun s => [.obj b1 (mapO .i64 (plM H H.n))]) (fun s => s ≤ toG M k ∧ ∀ j, j < s → ¬ ((atX H M j k).getD q 0 = i1 ∧ nd (atX H M j k) = true)) (fun s => toG M k - s) 0 fs9 ?_ ?_ ?_
 exact ks9
 exact ⟨Nat.zero_le _, fun j hj => by omega⟩
 rintro s ⟨hs, hall⟩ Z3 hZ3
 refine TW.seq fun Y43 hY43 => TW.region ?_
 refine TL.p Pu.lt ?_
 refine TL.nil (TQ.thenN (hY43 _ _ ?_))
 refine TW.seq fun Y44 hY44 => ?_
 refine TW.cond rfl (fun hc9 => ?_) (fun hc9 => ?_)
 try simp only [zcb9] at hc9
 have hsn : s < toG M k := by omega
 refine TW.skip ?_
 refine TQ.thenN (hY44 _ _ ?_)
 refine TW.seq fun Y45 hY45 => ?_
 refine TW.block ?_
 refine TW.seq fun Y46 hY46 => TW.region ?_
 refine TL.p Pu.mv ?_
 refine TL.p Pu.as ?_
 refine TL.nil (TQ.thenN (hY46 _ _ ?_))
 refine TW.seq fun Y47 hY47 => TW.region ?_
 refine TL.p Pu.as ?_
 refine TL.nil (TQ.thenN (hY47 _ _ ?_))
 refine TW.seq fun Y48 hY48 => ?_
 refine TW.seq fun Y49 hY49 => TW.region ?_
 refine TL.p Pu.mv ?_
 refine TL.p (Pu.ln Tryz.underlying52) ?_
 refine TL.p Pu.mv ?_
 refine TL.nil (TQ.thenN (hY49 _ _ ?_))
 refine TW.block ?_
 refine TW.loop5 (fun (j : Nat) (Al : Option Addr) (cl : Nat) (X : List Nat) (n : Nat) => [(155, .int .i64 (j : Int)), (154, .int .i64 (k : Int)), (153, .slice PM k pm), (27, .slice Al n cl), (26, .int .i64 ((rsG M s j : Nat) : Int)), (150, .int .i64 (s : Int)), (149, .int .i64 ((toG M k : Nat) : Int)), (24, .int .i64 (q : Int)), (25, .int .i64 v1), (15, .map (some b1)), (12, .slice PM k pm), (11, .bool true), (0, .slice A H.n cp), (1, .slice B k cb), (2, .slice C nc cc)]) (fun j Al cl X n => [.own Al n cl 3 1 (nL X), .obj b1 (mapO .i64 (plM H H.n))]) (fun j Al cl X n => j ≤ k ∧ X = atX H M s j ∧ n = X.length ∧ rsG M s j ≤ s) (fun j Al cl X n => k - j) 0 none 0 [] 0 fs9 ?_ ?_ ?_
 exact KSub.nilOwn ks9
 exact ⟨Nat.zero_le _, rfl, rfl, Nat.le_refl _⟩
 rintro j Al cl X n ⟨hjk, hX, hn, hrs⟩ Z4 hZ4
 have hn9 : n ≤ k := by rw [hn, hX, atX_len]; exact hjk
 refine TW.seq fun Y50 hY50 => TW.region ?_
 refine TL.p Pu.lt ?_
 refine TL.nil (TQ.thenN (hY50 _ _ ?_))
 refine TW.seq fun Y51 hY51 => ?_
 refine TW.cond rfl (fun hc10 => ?_) (fun hc10 => ?_)
 try simp only [zcb9] at hc10
 have hjl : j < k := by omega
 have hpj := hpos j hjl
 have rMj := rMk j hjl
 have hmo := hidT (Int.natCast_emod (rsG M s j) (M j).length).symm
 have hdo := hidT (show ((rsG M s j : Nat) : Int) / ((M j).length : Int) = ((rsG M s (j + 1) : Nat) : Int) from (Int.natCast_ediv _ _).symm)
 have hml9 := Nat.mod_lt (rsG M s j) hpj
 obtain ⟨i2, hi2, hat2⟩ := hS.out.in_ j hjl _ (getD_memI hml9)
 have hst := atX_next hat2
 rw [← hX] at hst
 have hlen9 : n + 1 = (atX H M s (j + 1)).length := by rw [atX_len, hn, hX, atX_len]
 have hrs2 : rsG M s (j + 1) ≤ s := Nat.le_trans (Nat.div_le_self _ _) hrs
 have hpl2 := hidT (pl_hit hat2)
 refine TW.skip ?_
 refine TQ.thenN (hY51 _ _ ?_)
 refine TW.seq fun Y52 hY52 => ?_
 refine TW.block ?_
 refine TW.seq fun Y53 hY53 => TW.region ?_
 refine TL.p (Pu.el ty_et52) ?_
 refine TL.p (Pu.ld ty_sc28) ?_
 refine TL.p Pu.as ?_
 refine TL.nil (TQ.thenN (hY53 _ _ ?_))
 refine TW.seq fun Y54 hY54 => TW.region ?_
 refine TL.p Pu.mv ?_
 refine TL.p Pu.mv ?_
 refine TL.p Pu.mv ?_
 refine TL.p Pu.mv ?_
 refine TL.p Pu.mv ?_
 refine TL.p (Pu.ln Tryz.underlying28) ?_
 refine TL.p (Pu.iv Pu.rm hmo.out) ?_
 refine TL.p (Pu.el ty_et28) ?_
 refine TL.p (Pu.ld ty_sc3) ?_
 refine TL.p (Pu.l1S ty_mp39 ty_zv3 hpl2.out) ?_
 refine TL.m Mk.bl ?_
 intro b3
 first | refine TL.a0 ty_et28 ?_ | refine TL.ap ty_et28 ?_
 intro A4 c4
 refine TL.p Pu.as ?_
 refine TL.nil (TQ.thenN (hY54 _ _ ?_))
 refine TW.region ?_
 refine TL.p Pu.mv ?_
 refine TL.p Pu.mv ?_
 refine TL.p (Pu.ln Tryz.underlying28) ?_
 refine TL.p (Pu.iv (Pu.qu (h0 := ⟨by omega, by omega, by omega⟩)) hdo.out) ?_
 refine TL.p Pu.as ?_
 refine TL.nil ?_
 refine TQ.blkN ?_
 refine TQ.thenN (hY52 _ _ ?_)
 refine TW.region ?_
 refine TL.p Pu.ad ?_
 refine TL.p Pu.mv ?_
 refine TL.nil ?_
 refine TQ.thenN (hZ4 (j + 1) _ _ (atX H M s (j + 1)) _ _ _ ?_ ?_ fs9 ?_)
 exact ⟨by omega, rfl, hlen9, hrs2⟩
 exact zom9
 exact KSub.own Pick.hd (nL_app hn hst rfl) ks9
 try simp only [zcb9] at hc10
 obtain rfl : j = k := by omega
 refine TW.exit ?_
 refine TQ.thenX ?_
 refine TQ.thenX ?_
 refine TQ.blkX ?_
 refine TQ.thenN (hY48 _ _ ?_)
 have hXl : X.length = j := by rw [hX, atX_len]
 have hXq := hlt s q hq
 rw [← hX] at hXq
 obtain ⟨d1, hd1⟩ : ∃ d : Bool, d = decide (((X.getD q 0 : Nat) : Int) = (i1 : Int)) := ⟨_, rfl⟩
 obtain ⟨nb, hnb⟩ : ∃ d : Bool, d = nd X := ⟨_, rfl⟩
 have hbX : ∀ i, i < j → X.getD i 0 < H.n := fun i hi => by rw [hX]; exact hlt s i hi
 replace hd1 := hidT hd1
 replace hnb := hidT hnb
 have hpl1 := hidT (pl_hit hat1.out)
 refine TW.seq fun Y55 hY55 => ?_
 refine TW.join [(190, .bool (d1 && nb))] ?_ (fun hJ2 => ?_)
 refine TQ.thenN (hY55 _ _ ?_)
 refine TW.cond rfl (fun hc11 => ?_) (fun hc11 => ?_)
 try simp only [zcb9] at hc11
 refine TW.seq fun Y56 hY56 => TW.region ?_
 refine TL.p Pu.mv ?_
 refine TL.p Pu.as ?_
 refine TL.nil (TQ.thenN (hY56 _ _ ?_))
 refine TW.ret ?_
 refine TQ.blkR ?_
 refine TQ.thenR ?_
 refine TQ.thenR ?_
 refine TQ.blkR ?_
 refine TQ.thenR ?_
 refine TQ.ret Tryz.results4 rfl ((.tmp rfl .nil)) ?_
 exact fun w hw => Ret.of (hw.from hw1.chg (fun _ hb => .inl hb))
 try simp only [zcb9] at hc11
 have hnot : ¬ ((atX H M s j).getD q 0 = i1 ∧ nd (atX H M s j) = true) := by
  rintro ⟨h7, h8⟩
  rw [← hX] at h7 h8
  have e1 : d1 = true := by rw [hd1.out, h7]; exact decide_eq_true rfl
  have e2 : nb = true := by rw [hnb.out, h8]
  rw [e1, e2] at hc11
  simp at hc11
 refine TW.skip ?_
 refine TQ.blkN ?_
 refine TQ.thenN (hY45 _ _ ?_)
 refine TW.region ?_
 refine TL.p Pu.ad ?_
 refine TL.p Pu.mv ?_
 refine TL.nil ?_
 refine TQ.thenN (hZ3 (s + 1) _ _ ?_ ?_ fs9 ?_)
 refine ⟨by omega, fun i hi => ?_⟩
 by_cases e : i = s
 subst e; exact hnot
 exact hall i (by omega)
 exact zom9
 exact ks9
 refine TW.dw 15 ?_
 refine RK.tk Pu.mv ?_
 refine RK.tk Pu.mv ?_
 refine RK.tk (Pu.el ty_et28) ?_
 refine RK.tk (Pu.ld ty_sc3) ?_
 refine RK.tk Pu.mv ?_
 refine RK.tk Pu.mv ?_
 refine RK.tk (Pu.l1S ty_mp39 ty_zv3 hpl1.out) ?_
 refine RK.tk (Pu.bv Pu.eq hd1.out.symm) ?_
 refine RK.tk Pu.mv ?_
 refine RK.guard (t := 184) rfl (fun hg2 => ?_) (fun hg2 => ?_)
 try simp only [zgb9] at hg2
 refine RK.tk Pu.mv ?_
 refine RK.tk Pu.mv ?_
 refine RK.tk Pu.mv ?_
 refine RK.tk Pu.mv ?_
 refine RK.keep ?_
 refine RK.keep ?_
 refine RK.ch [false, true] ?_ trivial
 refine WK.cr rfl (enters Tryz.func24 rfl rfl) (fun w hw => by
   have h9 := rNamed_any (cp := cp) (cb := cb) (cc := cc) (cd := cl) (X := X) hk (hI'.sat hw) (hLI'.ext (Chg.ext hw.chg)) (hCI'.ext (Chg.ext hw.chg)) (fun i hi => hlk i hi) hcv (by omega) hbX (by rw [← hXl, ← hn]; exact OwnR.rdr (hw.holds (.own Al n cl 3 1 (nL X)) (Pick.mem pk9)))
   rw [← hnd.out, ← hnb.out] at h9
   rw [show n = j by omega]
   exact h9) ?_
 refine WK.p Pu.kt ?_
 refine WK.n ?_
 refine TL.nil ?_
 exact TQ.sub (by repeat (first | exact trivial | refine ⟨rfl, ?_⟩ | refine ⟨trivial, ?_⟩ | refine ⟨(by show some (Value.bool _) = some (Value.bool _); first | (simp [hg2]; done) | (refine congrArg (fun z => some (Value.bool z)) (Bool.eq_iff_iff.2 ?_); simp [hg2]; omega)), ?_⟩)) ks9 hJ2
 try simp only [zgb9] at hg2
 refine RK.s ?_
 refine RK.s ?_
 refine RK.s ?_
 refine RK.s ?_
 refine RK.keep ?_
 refine RK.keep ?_
 refine RK.ch [false, true] ?_ trivial
 refine WK.gs ?_
 refine WK.p Pu.kf ?_
 refine WK.n ?_
 refine TL.nil ?_
 exact TQ.sub (by repeat (first | exact trivial | refine ⟨rfl, ?_⟩ | refine ⟨trivial, ?_⟩ | refine ⟨(by show some (Value.bool _) = some (Value.bool _); first | (simp [hg2]; done) | (refine congrArg (fun z => some (Value.bool z)) (Bool.eq_iff_iff.2 ?_); simp [hg2]; omega)), ?_⟩)) ks9 hJ2
 try simp only [zcb9] at hc9
 exact absurd ⟨hx1, hnd1⟩ (hall t1 (by omega))
 refine TW.region ?_
 refine TL.p Pu.mv ?_
 refine TL.cr rfl (enters Tryz.func13 rfl rfl) (fun w hw => by
   exact ready2_any (hR.sat hw Apart.nil) (fun i hi => (hM i hi).sat hw Apart.nil)) ?_
 refine TL.p Pu.no ?_
 refine TL.p Pu.mv ?_
 refine TL.guard (t := 34) rfl (fun hg3 => ?_) (fun hg3 => ?_)
 try simp only [zgb9] at hg3
 refine TL.gs ?_
 refine TL.gs ?_
 refine TL.gs ?_
 refine TL.gs ?_
 refine TL.p Pu.kt ?_
 refine TL.p Pu.mv ?_
 refine TL.gs ?_
 refine TL.gs ?_
 refine TL.gs ?_
 refine TL.p Pu.kt ?_
 refine TL.p Pu.mv ?_
 refine TL.gs ?_
 refine TL.gs ?_
 refine TL.p Pu.kt ?_
 refine TL.nil ?_
 exact TQ.sub (by repeat (first | exact trivial | refine ⟨rfl, ?_⟩ | refine ⟨trivial, ?_⟩ | refine ⟨(by show some (Value.bool _) = some (Value.bool _); first | (simp [hg3]; done) | (refine congrArg (fun z => some (Value.bool z)) (Bool.eq_iff_iff.2 ?_); simp [hg3]; omega)), ?_⟩)) ks9 hJ1
 try simp only [zgb9] at hg3
 refine TL.gd Pu.mv ?_
 refine TL.gd Pu.mv ?_
 refine TL.cr rfl (enters Tryz.func23 rfl rfl) (fun w hw => by
   exact fL _ (hLR.sat hw Apart.nil) (fun k hk => (hLs k hk).sat hw Apart.nil) (hCR.sat hw Apart.nil)) ?_
 refine TL.gd Pu.ne ?_
 refine TL.p Pu.kf ?_
 refine TL.p Pu.mv ?_
 refine TL.guard (t := 40) rfl (fun hg4 => ?_) (fun hg4 => ?_)
 try simp only [zgb9] at hg4
 refine TL.gs ?_
 refine TL.gs ?_
 refine TL.gs ?_
 refine TL.p Pu.kt ?_
 refine TL.p Pu.mv ?_
 refine TL.gs ?_
 refine TL.gs ?_
 refine TL.p Pu.kt ?_
 refine TL.nil ?_
 exact TQ.sub (by repeat (first | exact trivial | refine ⟨rfl, ?_⟩ | refine ⟨trivial, ?_⟩ | refine ⟨(by show some (Value.bool _) = some (Value.bool _); first | (simp [hg3, hg4]; done) | (refine congrArg (fun z => some (Value.bool z)) (Bool.eq_iff_iff.2 ?_); simp [hg3, hg4]; omega)), ?_⟩)) ks9 hJ1
 try simp only [zgb9] at hg4
 refine TL.gd Pu.mv ?_
 refine TL.gd (Pu.ln Tryz.underlying37) ?_
 refine TL.gd Pu.eq ?_
 refine TL.p Pu.kf ?_
 refine TL.p Pu.mv ?_
 refine TL.guard (t := 45) rfl (fun hg5 => ?_) (fun hg5 => ?_)
 try simp only [zgb9] at hg5
 refine TL.gs ?_
 refine TL.gs ?_
 refine TL.p Pu.kt ?_
 refine TL.nil ?_
 exact TQ.sub (by repeat (first | exact trivial | refine ⟨rfl, ?_⟩ | refine ⟨trivial, ?_⟩ | refine ⟨(by show some (Value.bool _) = some (Value.bool _); first | (simp [hg3, hg4, hg5]; done) | (refine congrArg (fun z => some (Value.bool z)) (Bool.eq_iff_iff.2 ?_); simp [hg3, hg4, hg5]; omega)), ?_⟩)) ks9 hJ1
 try simp only [zgb9] at hg5
 refine TL.gd Pu.mv ?_
 refine TL.gd Pu.no ?_
 refine TL.lit (t := 47) (b' := false) rfl (rfl) ?_
 refine TL.p Pu.kf ?_
 refine TL.nil ?_
 exact TQ.sub (by repeat (first | exact trivial | refine ⟨rfl, ?_⟩ | refine ⟨trivial, ?_⟩ | refine ⟨(by show some (Value.bool _) = some (Value.bool _); first | (simp [hg3, hg4, hg5]; done) | (refine congrArg (fun z => some (Value.bool z)) (Bool.eq_iff_iff.2 ?_); simp [hg3, hg4, hg5]; omega)), ?_⟩)) ks9 hJ1
end
end Go.Proofs.YtbenhafhklfhmaaGreat
