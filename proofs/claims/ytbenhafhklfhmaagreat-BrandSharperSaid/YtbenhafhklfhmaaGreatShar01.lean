/-
  The statement BrandSharperSaid: for every input the law BrandSharper returns true, and its arguments read afterwards as before. No condition.
-/
import Derived.Test.YtbenhafhklfhmaaGreatAl01
import Derived.Test.YtbenhafhklfhmaaGreatAl02
import Derived.Test.YtbenhafhklfhmaaGreatAl03
import Derived.Test.YtbenhafhklfhmaaGreatAl04
import Derived.Test.YtbenhafhklfhmaaGreatAl05
import Derived.Test.YtbenhafhklfhmaaGreatAl06
import Derived.Test.YtbenhafhklfhmaaGreatAl07
import Derived.Test.YtbenhafhklfhmaaGreatAl08
import Derived.Test.YtbenhafhklfhmaaGreatAl09
import Derived.Test.YtbenhafhklfhmaaGreatAl10
import Derived.Test.YtbenhafhklfhmaaGreatAl11
import Derived.Test.YtbenhafhklfhmaaGreatRows
import Derived.WalkKit
import Derived.WalkSpells
import Derived.WalkLawsBesides
import Derived.Deep.QuietTactic
import Derived.BigQuiet
import Derived.OrdersHeld
import Derived.Maps.AppendAt
import Derived.OwnWalk
import Derived.Lib.SliceRun
import Derived.RangeFuncNested
import Derived.RangeFuncBound
import Derived.RangeFuncCalls
import Derived.RangeFuncLeaves
import Derived.OwnWalkIn
import Derived.TacticsInMore
import Derived.LoopNIn
import Derived.LoopIn
import Derived.OrdersIn
import Derived.Deep.LoopGhost
import Derived.MapKept
import Derived.Carry
import Derived.Lib.AppendZerosOnto
import Derived.Laws.OwnMore
import Derived.Sort.Grow
import Derived.IntWalk
import Derived.Shelf.Small.Bits
import Derived.Shelf.Strconv.Itoa0
import Derived.Ground.SlsfProg
import Derived.Shelf.SlSortCmp.Insertion
import Derived.Ground.SlgmProg
import Derived.Shelf.SortM.Plain
import Derived.Shelf.SortM.SortNone
import Derived.Shelf.SlSortCmp.SiftDown1
import Derived.Shelf.SlSortCmp.HeapSort1
import Derived.Shelf.SlSortCmp.Insertion1
import Derived.Shelf.SlSortCmp.Median1
import Derived.Shelf.SlSortCmp.Pivot1
import Derived.Shelf.SlSortCmp.ReverseRange1
import Derived.Shelf.SlSortCmp.PartialInsertion1
import Derived.Shelf.SlSortCmp.PartitionEqual1
import Derived.Shelf.SlSortCmp.Partition1
import Derived.Shelf.SlSortCmp.Pdq1
import Derived.Shelf.SlSortCmp.Whole1
import Derived.Shelf.SlSortCmp.NoneTotal
import Derived.Test.YtbenhafhklfhmaaGreatProg
import Derived.Deep.RegionHeld3
import Derived.BigRegion
import Derived.Deep.DeepMust
import Derived.ProofKit
import Derived.Deep.Slices
import Derived.ChangeKeysEq
import Derived.OpenShut
namespace Go.Proofs.YtbenhafhklfhmaaGreat
set_option linter.all false
set_option linter.unusedVariables false
set_option linter.unusedSimpArgs false
open Go.RowKit
section
variable {c : Cx} {Q : Exit → Act → World → Prop} {F F' : Fr} {K K' K0 : List Fact} {ops : Array Oper} {rest : List Oper} {d : Option Tmp} {ty : TypeId} {pos : String} {af : Array Edge} {g : Option (Nat × Bool)} {t : Nat}
theorem TL.ob {b : Nat} {E : TypeId} {sz : Nat} {r : Nat → List Value} (hp : Pick K (.blk b E []) K') (hz : Nat.blt 0 sz = true) (h : TL c ops Q rest F (.own (some ⟨b, 0, none⟩) 0 0 E sz r :: K')) : TL c ops Q rest F K := fun a w hF hK => by
 have hs := hK.pick hp
 have hb : Blk w b E #[] := hs.holds (.blk b E []) (by simp)
 have ho : OwnR w (some ⟨b, 0, none⟩) 0 0 E sz r := OwnR.of_blk (cs := []) hb rfl (fun _ h => by omega) hz rfl
 refine h a w hF ⟨hs.chg, hs.nd, hs.ge, fun φ hφ => ?_⟩
 rcases List.mem_cons.1 hφ with rfl | hφ
 · exact ho
 · exact hs.holds φ (by simp [hφ])
end
end Go.Proofs.YtbenhafhklfhmaaGreat
namespace Go.Proofs.YtbenhafhklfhmaaGreat
set_option linter.all false
set_option linter.unusedVariables false
set_option linter.unusedSimpArgs false
open Go.RowKit
theorem ty_sz25 : Sz Tryz.prog 25 1 := fun w => by obtain ⟨i, h1, h2, h3, h4⟩ := info_parts ty_i25; simp [sizeOf, typeInfo, h1, h3]
end Go.Proofs.YtbenhafhklfhmaaGreat
namespace Go.Proofs.YtbenhafhklfhmaaGreat
set_option linter.all false
set_option linter.unusedVariables false
set_option linter.unusedSimpArgs false
open Go.RowKit
theorem mem_srt {L : List Int} {x : Int} : x ∈ srt L ↔ x ∈ L := (srt_perm L).mem_iff
end Go.Proofs.YtbenhafhklfhmaaGreat
namespace Go.Proofs.YtbenhafhklfhmaaGreat
set_option linter.all false
set_option linter.unusedVariables false
set_option linter.unusedSimpArgs false
open Go.RowKit
theorem cmpL_mem {t : Int} : ∀ L : List Int, t ∈ cmpL L ↔ t ∈ L
 | [] => by simp [cmpL]
 | a :: l => by
  have ih := cmpL_mem (t := t) l
  simp only [cmpL]
  split
  · next h =>
    rw [h] at ih
    simp only [List.not_mem_nil, false_iff] at ih
    simp [ih]
  · next b m h =>
    rw [h] at ih
    split
    · next e =>
      subst e
      rw [ih]
      simp only [List.mem_cons] at ih ⊢
      exact ⟨fun h => .inr h, fun h => h.elim (fun e => ih.1 (.inl e)) id⟩
    · rw [List.mem_cons, ih, List.mem_cons]
theorem cmpL_le : ∀ L : List Int, (cmpL L).length ≤ L.length
 | [] => by simp [cmpL]
 | [a] => by simp [cmpL]
 | a :: b :: m => by
  have ih := cmpL_le (b :: m)
  rw [cmpL_cons]
  split
  · simp only [List.length_cons] at ih ⊢; omega
  · simp only [List.length_cons] at ih ⊢; omega
section
variable {c : Cx} {F : Fr} {K K' : List Fact} {d : Option Tmp} {ty : TypeId} {pos : String} {af : Array Edge} {g : Option (Nat × Bool)}
end
end Go.Proofs.YtbenhafhklfhmaaGreat
namespace Go.Proofs.YtbenhafhklfhmaaGreat
set_option linter.all false
set_option linter.unusedVariables false
set_option linter.unusedSimpArgs false
section
variable {H : Hd} {L : Nat → Lk} {nc nl : Nat} {dm yg : Nat → Int} {f : Nat → Int} {n : Nat} {S S' : BSt}
end
theorem asc_uniq : ∀ {A B : List Int}, A.Pairwise (· < ·) → B.Pairwise (· < ·) → (∀ x, x ∈ A ↔ x ∈ B) → A = B
 | A, B, hA, hB, h => by
  refine List.Perm.eq_of_pairwise (le := (· ≤ ·)) (fun a b _ _ h1 h2 => Int.le_antisymm h1 h2) (hA.imp (by intro a b h; omega)) (hB.imp (by intro a b h; omega)) ?_
  have nA : A.Nodup := hA.imp (by intro a b h e; omega)
  have nB : B.Nodup := hB.imp (by intro a b h e; omega)
  exact (List.perm_ext_iff_of_nodup nA nB).2 h
theorem cmpL_asc : ∀ {A : List Int}, A.Pairwise (· ≤ ·) → (cmpL A).Pairwise (· < ·)
 | [], _ => List.Pairwise.nil
 | [a], _ => by simp [cmpL]
 | a :: b :: m, h => by
  have h1 := List.pairwise_cons.1 h
  have ih := cmpL_asc h1.2
  rw [cmpL_cons]
  split
  · exact ih
  · rename_i hab
    refine List.pairwise_cons.2 ⟨fun z hz => ?_, ih⟩
    have hz := (cmpL_mem (b :: m)).1 hz
    have h2 := h1.1 b (by simp)
    rcases List.mem_cons.1 hz with rfl | hz
    · omega
    · have h3 := (List.pairwise_cons.1 h1.2).1 z hz
      omega
theorem ascL_mem {A : List Int} {x : Int} : x ∈ ascL A ↔ x ∈ A := by unfold ascL; rw [cmpL_mem, mem_srt]
theorem ascL_asc {A : List Int} : (ascL A).Pairwise (· < ·) := cmpL_asc (srt_mono A)
theorem ascL_le {A : List Int} : (ascL A).length ≤ A.length := by
 have := cmpL_le (srt A)
 rw [srt_len] at this
 exact this
theorem idsL_mem {H : Hd} {A : List Nat} {x : Int} : x ∈ idsL H A ↔ ∃ i, i ∈ A ∧ H.id i = x := by unfold idsL; rw [ascL_mem, List.mem_map]
theorem idsL_asc {H : Hd} {A : List Nat} : (idsL H A).Pairwise (· < ·) := ascL_asc
theorem idsL_le {H : Hd} {A : List Nat} : (idsL H A).length ≤ A.length := by
 have := ascL_le (A := A.map H.id)
 rwa [List.length_map] at this
theorem nmL_mem {H : Hd} {nl : Nat} {L : Nat → Lk} {nc : Nat} {dm yg : Nat → Int} {k : Nat} {x : Int} (hk : HOk H) (hc : cvB nl nc dm yg = true) : x ∈ nmL H nl L nc dm yg k ↔ ∃ a, Vld H L nl nc dm yg a ∧ H.id (a.getD k 0) = x := by
 unfold nmL nmR
 rw [idsL_mem]
 constructor
 · rintro ⟨i, hi, e⟩
   obtain ⟨a, ha, rfl⟩ := List.mem_map.1 hi
   exact ⟨a, (srch_vld hk hc).1 ha, e⟩
 · rintro ⟨a, ha, e⟩
   exact ⟨_, List.mem_map.2 ⟨a, (srch_vld hk hc).2 ha, rfl⟩, e⟩
end Go.Proofs.YtbenhafhklfhmaaGreat
namespace Go.Proofs.YtbenhafhklfhmaaGreat
set_option linter.all false
set_option linter.unusedVariables false
set_option linter.unusedSimpArgs false
section
variable {H : Hd} {d : Nat → Int} {S S' : BSt} {L : Nat → Lk} {nl nc : Nat} {dm yg : Nat → Int}
theorem fitL_mem (hc : fitC H (L 0) = 0) {v : Int} : v ∈ fitL H (L 0) ↔ ∃ i, i < H.n ∧ fitB H (L 0) i = true ∧ H.id i = v := by
 unfold fitL
 rw [if_pos hc, idsL_mem]
 constructor
 · rintro ⟨i, hi, e⟩
   exact ⟨i, (mem_fitP.1 hi).1, (mem_fitP.1 hi).2, e⟩
 · rintro ⟨i, h1, h2, e⟩
   exact ⟨i, mem_fitP.2 ⟨h1, h2⟩, e⟩
end
end Go.Proofs.YtbenhafhklfhmaaGreat
namespace Go.Proofs.YtbenhafhklfhmaaGreat
set_option linter.all false
set_option linter.unusedVariables false
set_option linter.unusedSimpArgs false
open Go.RowKit
section
variable {c : Cx} {F : Fr} {K : List Fact} {d : Option Tmp} {ty xt yt : TypeId} {pos : String} {af : Array Edge} {g : Option (Nat × Bool)} {x y : Operand}
theorem Pu.aW {a b : Nat} (hx : ev F x = some (.int .u32 (a : Int)) := by rfl) (hy : ev F y = some (.int .u32 (b : Int)) := by rfl) (ha : a ≤ 4294967295 := by omega) (hb : b ≤ 4294967295 := by omega) : Pu c F K ⟨d, .binOp .and xt x y yt, ty, pos, af, g⟩ (.int .u32 ((a &&& b : Nat) : Int)) := Pu.bin hx hy fun w => by
 have h := bitsW_and ha hb
 go_simp
end
end Go.Proofs.YtbenhafhklfhmaaGreat
namespace Go.Proofs.YtbenhafhklfhmaaGreat
set_option linter.all false
set_option linter.unusedVariables false
set_option linter.unusedSimpArgs false
theorem Pu.iv {c : Cx} {F : Fr} {K : List Fact} {o : Oper} {a b : Int} {k : IntKind} (h : Pu c F K o (.int k a)) (e : a = b) : Pu c F K o (.int k b) := e ▸ h
end Go.Proofs.YtbenhafhklfhmaaGreat
namespace Go.Proofs.YtbenhafhklfhmaaGreat
set_option linter.all false
set_option linter.unusedVariables false
set_option linter.unusedSimpArgs false
section
variable {H : Hd}
end
section
variable {H : Hd} {L L' : Nat → Lk} {nl nc : Nat} {dm yg : Nat → Int}
structure Btr (l' l : Lk) : Prop where
 sg : ∀ s, s < 8 → ∀ k, l'.sg s / 2 ^ k % 2 = 1 → l.sg s / 2 ^ k % 2 = 1
 day : l'.day = l.day
 alo : l.alo ≤ l'.alo
 ahi : l'.ahi ≤ l.ahi
theorem Btr.refl {l : Lk} : Btr l l := ⟨fun _ _ _ h => h, rfl, Int.le_refl _, Int.le_refl _⟩
theorem Btr.ma {l' l : Lk} (h : Btr l' l) {i : Nat} (hm : maB H l' i = true) : maB H l i = true := by
 unfold maB at hm ⊢
 rw [allB_iff] at hm ⊢
 exact fun s hs => decide_eq_true (h.sg s hs _ (of_decide_eq_true (hm s hs)))
theorem agd_mono {l' l : Lk} (h : Btr l' l) {a b : Int × Int} (h1 : b.1 ≤ a.1) (h2 : a.2 ≤ b.2) : (agd b l).1 ≤ (agd a l').1 ∧ (agd a l').2 ≤ (agd b l).2 := by
 have e := h.day
 have e1 := h.alo
 have e2 := h.ahi
 unfold agd comm
 dsimp only
 omega
theorem Btr.fit {l' l : Lk} (h : Btr l' l) {i : Nat} (hf : fitB H l' i = true) : fitB H l i = true := by
 unfold fitB at hf ⊢
 rw [Bool.and_eq_true, decide_eq_true_eq] at hf ⊢
 have := agd_mono h (a := bth (moH H) H.n (bornH H) i) (b := bth (moH H) H.n (bornH H) i) (Int.le_refl _) (Int.le_refl _)
 exact ⟨h.ma hf.1, by omega⟩
theorem nrw_mono (hb : ∀ k, Btr (L' k) (L k)) : ∀ (t : List Nat) (S S' : BSt) (k : Nat), SubS H.n S' S → SubS H.n (nrw L' S' k t) (nrw L S k t)
 | [], _, _, _, h => h
 | i :: t, S, S', k, h => nrw_mono hb t _ _ (k + 1) fun j hj => by
  by_cases e : j = i
  · subst e; rw [putS1_at, putS1_at]; exact agd_mono (hb k) (h j hj).1 (h j hj).2
  · rw [putS1_ne e, putS1_ne e]; exact h j hj
theorem Vld.better (hk : HOk H) (hb : ∀ k, Btr (L' k) (L k)) {x : List Nat} (h : Vld H L' nl nc dm yg x) : Vld H L nl nc dm yg x :=
 ⟨h.len, h.bd, fun k hkn => (hb k).ma (h.ma k hkn), h.nd, h.kn, bthOk_mono moH_Mo hk.ac (nrw_mono hb x _ _ 0 SubS.refl) h.bt⟩
theorem nrw_take : ∀ (t : List Nat) (S : BSt) (k m : Nat), SubS H.n (nrw L S k t) (nrw L S k (t.take m))
 | [], _, _, _ => by rw [List.take_nil]; exact SubS.refl
 | i :: t, S, k, 0 => nrw_sub (i :: t) S k
 | i :: t, S, k, m + 1 => nrw_take t (putS1 S i (agd (S i) (L k))) (k + 1) m
theorem Vld.few (hk : HOk H) {nf m : Nat} {fd fy : Nat → Int} (hm : m ≤ nl) (hf : ∀ c, c < nf → (0 ≤ fd c ∧ fd c < m) ∧ (0 ≤ fy c ∧ fy c < m) ∧ ∃ c', c' < nc ∧ fd c = dm c' ∧ fy c = yg c') {x : List Nat} (h : Vld H L nl nc dm yg x) : Vld H L m nf fd fy (x.take m) := by
 have hl := h.len
 refine ⟨by rw [List.length_take]; omega, fun k hkm => ?_, fun k hkm => ?_, fun k j h1 h2 => ?_, fun c hc => ?_, bthOk_mono moH_Mo hk.ac (nrw_take x _ 0 m) h.bt⟩
 · rw [take_getD hkm]; exact h.bd k (by omega)
 · rw [take_getD hkm]; exact h.ma k (by omega)
 · rw [take_getD (by omega), take_getD h2]; exact h.nd k j h1 (by omega)
 · obtain ⟨h1, h2, c', h3, h4, h5⟩ := hf c hc
   rw [take_getD (by omega), take_getD (by omega), h4, h5]
   exact h.kn c' h3
end
section
variable {N : Nat → List Int}
end
end Go.Proofs.YtbenhafhklfhmaaGreat
namespace Go.Proofs.YtbenhafhklfhmaaGreat
set_option linter.all false
set_option linter.unusedVariables false
set_option linter.unusedSimpArgs false
theorem chB_bd {n : Nat} {u : Nat → Int} (h : U32b n u) (i : Nat) : 0 ≤ chB n u i ∧ chB n u i ≤ 4294967295 := by
 unfold chB
 split
 · next hi => exact h i hi
 · omega
theorem inV_bd {lo hi x : Int} (h : lo ≤ hi) : lo ≤ inV lo hi x ∧ inV lo hi x ≤ hi := by
 unfold inV
 have h1 := Int.emod_nonneg x (show hi - lo + 1 ≠ 0 by omega)
 have h2 := Int.emod_lt_of_pos x (show 0 < hi - lo + 1 by omega)
 omega
section
variable {H : Hd} {t i : Nat} {d : Nat → Int} {dn : Nat → Bool}
end
end Go.Proofs.YtbenhafhklfhmaaGreat
namespace Go.Proofs.YtbenhafhklfhmaaGreat
set_option linter.all false
set_option linter.unusedVariables false
set_option linter.unusedSimpArgs false
open Go.RowKit
section
variable {w : World} {A : Option Addr} {cp : Nat} {H : Hd} {a : Nat → Option Addr} {c : Nat → Nat}
theorem rdy_in {H : Hd} (h : rdyH H = true) : HOk H ∧ H.n ≤ 1000 ∧ ∀ i, i < H.n → H.ml i ≤ 1000 := by
 unfold rdyH at h
 rw [Bool.and_eq_true, Bool.not_eq_true'] at h
 obtain ⟨h20, h12⟩ := great_in h.1
 exact ⟨herdB_ok.1 h.2, by omega, fun i hi => by have := h12 i hi; omega⟩
end
end Go.Proofs.YtbenhafhklfhmaaGreat
namespace Go.Proofs.YtbenhafhklfhmaaGreat
set_option linter.all false
set_option linter.unusedVariables false
set_option linter.unusedSimpArgs false
section
variable {H : Hd} {l l' : Lk} {L L' : Nat → Lk} {nl nc : Nat} {dm yg : Nat → Int} {v : Int}
theorem nm_zero (hk : HOk H) : nmC H nl L nc dm yg = 0 ↔ livC9 H = 0 ∧ lksC nl L nc dm yg = 0 ∧ ∃ x, Vld H L nl nc dm yg x := by
 unfold nmC
 by_cases h1 : livC9 H = 0
 · rw [if_neg (fun h => h h1)]
   by_cases h2 : lksC nl L nc dm yg = 0
   · rw [if_neg (fun h => h h2)]
     have hc := (lks_zero.1 h2).2.2
     by_cases h3 : (nmR H nl L nc dm yg).length = 0
     · rw [if_pos h3]
       refine ⟨fun h => (by cases h), fun ⟨_, _, x, hx⟩ => ?_⟩
       have := (srch_vld hk hc).2 hx
       rw [show srch H L nc dm yg nl (bornH H) [] = [] from List.length_eq_zero_iff.1 h3] at this
       cases this
     · rw [if_neg h3]
       refine ⟨fun _ => ⟨h1, h2, ?_⟩, fun _ => rfl⟩
       obtain ⟨x, hx⟩ := List.exists_mem_of_length_pos (l := nmR H nl L nc dm yg) (by omega)
       exact ⟨x, (srch_vld hk hc).1 hx⟩
   · rw [if_pos h2]
     exact ⟨fun h => absurd h h2, fun h => absurd h.2.1 h2⟩
 · rw [if_pos h1]
   exact ⟨fun h => absurd h h1, fun h => absurd h.1 h1⟩
theorem fit_code (h : lkB l = true) (h' : lkB l' = true) : fitC H l = fitC H l' := by
 unfold fitC
 rw [h, h']
theorem fit_mem (hc : fitC H l = 0) : v ∈ fitL H l ↔ ∃ i, i < H.n ∧ fitB H l i = true ∧ H.id i = v := fitL_mem (L := fun _ => l) hc
theorem fit_sub (hb : Btr l' l) (hc : fitC H l = fitC H l') (h : v ∈ fitL H l') : v ∈ fitL H l := by
 by_cases h0 : fitC H l' = 0
 · rw [h0] at hc
   obtain ⟨i, h1, h2, h3⟩ := (fit_mem h0).1 h
   exact (fit_mem hc).2 ⟨i, h1, hb.fit h2, h3⟩
 · unfold fitL at h
   rw [if_neg h0] at h; cases h
theorem nm_better (hk : HOk H) (hl : lksC nl L nc dm yg = 0) (hb : ∀ k, Btr (L' k) (L k)) (h : nmC H nl L' nc dm yg = 0) : nmC H nl L nc dm yg = 0 := by
 obtain ⟨h1, _, x, hx⟩ := (nm_zero hk).1 h
 exact (nm_zero hk).2 ⟨h1, hl, x, hx.better hk hb⟩
theorem nm_bsub (hk : HOk H) (hc : cvB nl nc dm yg = true) (hb : ∀ k, Btr (L' k) (L k)) {k : Nat} (h : v ∈ nmL H nl L' nc dm yg k) : v ∈ nmL H nl L nc dm yg k := by
 obtain ⟨a, ha, e⟩ := (nmL_mem hk hc).1 h
 exact (nmL_mem hk hc).2 ⟨a, ha.better hk hb, e⟩
def fewL (dm yg : Nat → Int) (z : Int) : Nat → List (Int × Int)
 | 0 => []
 | k + 1 => if (!decide (dm k = z) && !decide (yg k = z)) = true then fewL dm yg z k ++ [(dm k, yg k)] else fewL dm yg z k
def fewD (dm yg : Nat → Int) (z : Int) (n c : Nat) : Int := ((fewL dm yg z n).getD c (0, 0)).1
def fewY (dm yg : Nat → Int) (z : Int) (n c : Nat) : Int := ((fewL dm yg z n).getD c (0, 0)).2
theorem few_mem {dm yg : Nat → Int} {z : Int} {p : Int × Int} : ∀ {n}, p ∈ fewL dm yg z n ↔ ∃ c, c < n ∧ p = (dm c, yg c) ∧ dm c ≠ z ∧ yg c ≠ z
  | 0 => by simp [fewL]
  | n + 1 => by
    have ih := few_mem (dm := dm) (yg := yg) (z := z) (p := p) (n := n)
    simp only [fewL]
    by_cases h : dm n ≠ z ∧ yg n ≠ z
    · rw [if_pos (by simp [h]), List.mem_append, ih, List.mem_singleton]
      constructor
      · rintro (⟨c, h1, h2⟩ | rfl)
        · exact ⟨c, by omega, h2⟩
        · exact ⟨n, by omega, rfl, h⟩
      · rintro ⟨c, h1, h2⟩
        by_cases e : c = n
        · subst e; exact .inr h2.1
        · exact .inl ⟨c, by omega, h2⟩
    · rw [if_neg (by simpa using h), ih]
      constructor
      · rintro ⟨c, h1, h2⟩; exact ⟨c, by omega, h2⟩
      · rintro ⟨c, h1, h2⟩
        refine ⟨c, ?_, h2⟩
        by_cases e : c = n
        · subst e; exact absurd h2.2 h
        · omega
theorem few_len {dm yg : Nat → Int} {z : Int} : ∀ n, (fewL dm yg z n).length ≤ n
 | 0 => Nat.le_refl _
 | n + 1 => by
  have := few_len (dm := dm) (yg := yg) (z := z) n
  simp only [fewL]
  split
  · simp only [List.length_append, List.length_singleton]; omega
  · omega
theorem few_at {z : Int} {n c : Nat} (h : c < (fewL dm yg z n).length) : ∃ c', c' < n ∧ fewD dm yg z n c = dm c' ∧ fewY dm yg z n c = yg c' ∧ dm c' ≠ z ∧ yg c' ≠ z := by
 have hm : (fewL dm yg z n).getD c (0, 0) ∈ fewL dm yg z n := by
  rw [List.getD_eq_getElem?_getD, List.getElem?_eq_getElem h]
  exact List.getElem_mem h
 obtain ⟨c', h1, h2, h3, h4⟩ := few_mem.1 hm
 exact ⟨c', h1, by unfold fewD; rw [h2], by unfold fewY; rw [h2], h3, h4⟩
theorem cv_in (hc : cvB nl nc dm yg = true) {c : Nat} (h : c < nc) : (0 ≤ dm c ∧ dm c < nl) ∧ (0 ≤ yg c ∧ yg c < nl) ∧ dm c ≠ yg c := by
 have := allB_iff.1 hc c h
 simp only [inB5, Bool.and_eq_true, Bool.not_eq_true', decide_eq_true_eq, decide_eq_false_iff_not] at this
 omega
theorem few_cv {m : Nat} (hm : nl = m + 1) (hc : cvB nl nc dm yg = true) : cvB m (fewL dm yg (m : Int) nc).length (fewD dm yg (m : Int) nc) (fewY dm yg (m : Int) nc) = true := by
 unfold cvB
 rw [allB_iff]
 intro c h
 obtain ⟨c', h1, e1, e2, h3, h4⟩ := few_at h
 obtain ⟨a1, a2, a3⟩ := cv_in hc h1
 rw [e1, e2]
 simp only [inB5, Bool.and_eq_true, Bool.not_eq_true', decide_eq_true_eq, decide_eq_false_iff_not]
 omega
theorem few_lks {m : Nat} (hm : nl = m + 1) (h : lksC nl L nc dm yg = 0) : lksC m L (fewL dm yg (m : Int) nc).length (fewD dm yg (m : Int) nc) (fewY dm yg (m : Int) nc) = 0 := by
 obtain ⟨h1, h2, h3⟩ := lks_zero.1 h
 have := few_len (dm := dm) (yg := yg) (z := (m : Int)) nc
 exact lks_zero.2 ⟨by omega, fun k hk => h2 k (by omega), few_cv hm h3⟩
theorem few_vld (hk : HOk H) {m : Nat} (hm : nl = m + 1) (hc : cvB nl nc dm yg = true) {x : List Nat} (h : Vld H L nl nc dm yg x) : Vld H L m (fewL dm yg (m : Int) nc).length (fewD dm yg (m : Int) nc) (fewY dm yg (m : Int) nc) (x.take m) :=
 h.few hk (by omega) fun c hcn => by
  obtain ⟨c', h1, e1, e2, h3, h4⟩ := few_at hcn
  obtain ⟨a1, a2, a3⟩ := cv_in hc h1
  exact ⟨by omega, by omega, c', h1, e1, e2⟩
theorem few_nm (hk : HOk H) {m : Nat} (hm : nl = m + 1) (hl : lksC nl L nc dm yg = 0) (h : nmC H nl L nc dm yg = 0) : nmC H m L (fewL dm yg (m : Int) nc).length (fewD dm yg (m : Int) nc) (fewY dm yg (m : Int) nc) = 0 := by
 obtain ⟨h1, _, x, hx⟩ := (nm_zero hk).1 h
 exact (nm_zero hk).2 ⟨h1, few_lks hm hl, _, few_vld hk hm (lks_zero.1 hl).2.2 hx⟩
theorem few_sub (hk : HOk H) {m : Nat} (hm : nl = m + 1) (hc : cvB nl nc dm yg = true) {k : Nat} (hkm : k < m) (h : v ∈ nmL H nl L nc dm yg k) : v ∈ nmL H m L (fewL dm yg (m : Int) nc).length (fewD dm yg (m : Int) nc) (fewY dm yg (m : Int) nc) k := by
 obtain ⟨a, ha, e⟩ := (nmL_mem hk hc).1 h
 refine (nmL_mem hk (few_cv hm hc)).2 ⟨_, few_vld hk hm hc ha, ?_⟩
 rw [take_getD hkm]; exact e
def btL (l : Lk) (u : Nat → Int) (n : Nat) (a b : Int) : Lk := ⟨l.ns, fun k => l.sg k &&& (4294967295 - (chB n u k).toNat), l.day, inV l.alo l.ahi a, inV (inV l.alo l.ahi a) l.ahi b⟩
theorem bt_btr {u : Nat → Int} {n : Nat} {a b : Int} (h : l.alo ≤ l.ahi) : Btr (btL l u n a b) l := by
 have h1 := inV_bd (x := a) h
 have h2 := inV_bd (x := b) (lo := inV l.alo l.ahi a) (hi := l.ahi) h1.2
 refine ⟨fun s _ k hs => ?_, rfl, h1.1, h2.2⟩
 have e1 : ((l.sg s &&& (4294967295 - (chB n u s).toNat)).testBit k) = true := by
  rw [Nat.testBit_eq_decide_div_mod_eq]
  exact decide_eq_true hs
 rw [Nat.testBit_and, Bool.and_eq_true] at e1
 have e2 := e1.1
 rw [Nat.testBit_eq_decide_div_mod_eq] at e2
 exact of_decide_eq_true e2
theorem bt_lk {u : Nat → Int} {n : Nat} {a b : Int} (h : lkB l = true) : lkB (btL l u n a b) = true := by
 unfold lkB at h ⊢
 simp only [Bool.and_eq_true, decide_eq_true_eq, allB_iff, inB5, ordB5] at h ⊢
 obtain ⟨⟨⟨h1, h2⟩, h3⟩, h4⟩ := h
 have h5 := inV_bd (x := a) (lo := l.alo) (hi := l.ahi) (by omega)
 have h6 := inV_bd (x := b) (lo := inV l.alo l.ahi a) (hi := l.ahi) h5.2
 refine ⟨⟨⟨h1, fun s hs => ?_⟩, h3⟩, ?_⟩
 · exact Nat.lt_of_le_of_lt Nat.and_le_left (h2 s hs)
 · dsimp only [btL]
   omega
def putL (L : Nat → Lk) (k : Nat) (l : Lk) : Nat → Lk := fun j => if j = k then l else L j
theorem put_btr {k : Nat} (h : Btr l (L k)) : ∀ j, Btr (putL L k l j) (L j) := fun j => by
 unfold putL
 split
 · next e => subst e; exact h
 · exact Btr.refl
theorem put_lks {k : Nat} (hl : lksC nl L nc dm yg = 0) (h : lkB l = true) : lksC nl (putL L k l) nc dm yg = 0 := by
 obtain ⟨h1, h2, h3⟩ := lks_zero.1 hl
 refine lks_zero.2 ⟨h1, fun j hj => ?_, h3⟩
 unfold putL
 split
 · exact h
 · exact h2 j hj
end
end Go.Proofs.YtbenhafhklfhmaaGreat
namespace Go.Proofs.YtbenhafhklfhmaaGreat
set_option linter.all false
set_option linter.unusedVariables false
set_option linter.unusedSimpArgs false
open Go.RowKit
section
variable {c : Cx} {Q : Exit → Act → World → Prop} {F : Fr} {K K' K1 : List Fact} {ops : Array Oper} {rest : List Oper}
end
theorem RdR.few {w : World} {sz n m : Nat} {A : Option Addr} {r : Nat → List Value} (h : RdR w sz A n r) (hm : m ≤ n) : RdR w sz A m r :=
 ⟨fun hn => by
  obtain ⟨b, off, h1, h2, h3⟩ := h.rd (by omega)
  exact ⟨b, off, h1, h2, fun i j hi hj => h3 i j (by omega) hj⟩, fun i hi => h.len i (by omega)⟩
section
variable {c : Cx} {F : Fr} {K : List Fact} {d : Option Tmp} {ty xt yt : TypeId} {pos : String} {af : Array Edge} {g : Option (Nat × Bool)} {x y : Operand}
theorem bitsW_not {a : Nat} (ha : a ≤ 4294967295) : bits .xor .u32 4294967295 (a : Int) = ((4294967295 - a : Nat) : Int) := by
 have h2 : bits .xor .u32 4294967295 (a : Int) = IntKind.u32.wrap ((BitVec.ofInt 32 4294967295 ^^^ BitVec.ofInt 32 (a : Int)).toNat : Int) := rfl
 have h3 : BitVec.ofInt 32 4294967295 = BitVec.allOnes 32 := by decide
 rw [h2, h3, BitVec.allOnes_xor, BitVec.toNat_not, ofI32 ha]
 exact IntWalk.u32_in _ (by omega)
theorem Pu.xrW {m : Nat} (hx : ev F x = some (.int .u32 (m : Int)) := by rfl) (hm : m ≤ 4294967295 := by omega) : Pu c F K ⟨d, .unOp .xor xt x, ty, pos, af, g⟩ (.int .u32 ((4294967295 - m : Nat) : Int)) := fun a w hF _ => by
 have h := bitsW_not hm
 simp [execOp, hF.evl hx, Op.unary, Op.intBits]
 exact h
end
end Go.Proofs.YtbenhafhklfhmaaGreat
namespace Go.Proofs.YtbenhafhklfhmaaGreat
set_option linter.all false
set_option linter.unusedVariables false
set_option linter.unusedSimpArgs false
open Go.RowKit
section
variable {w : World} {A : Option Addr} {cp : Nat} {H : Hd} {a : Nat → Option Addr} {c : Nat → Nat}
end
theorem getD_memI {X : List Int} {k : Nat} (h : k < X.length) : X.getD k 0 ∈ X := mem_int_getD.2 ⟨k, h, rfl⟩
end Go.Proofs.YtbenhafhklfhmaaGreat
namespace Go.Proofs.YtbenhafhklfhmaaGreat
set_option linter.all false
set_option linter.unusedVariables false
set_option linter.unusedSimpArgs false
section
variable {H : Hd} {L : Nat → Lk} {nl nc : Nat} {dm yg : Nat → Int} {v : Int}
theorem nm_in (hk : HOk H) (hc : cvB nl nc dm yg = true) {k : Nat} (hkn : k < nl) (h : v ∈ nmL H nl L nc dm yg k) : ∃ i, i < H.n ∧ H.id i = v ∧ atH H v = (i : Int) := by
 obtain ⟨a, ha, e⟩ := (nmL_mem hk hc).1 h
 have hb := ha.bd k hkn
 exact ⟨_, hb, e, by rw [← e]; exact hk.at_ _ hb⟩
theorem asc_sub {l M : List Int} (hl : l.Pairwise (· < ·)) (h : ∀ v ∈ l, v ∈ M) : l.length ≤ M.length := by
 have e : l = (ascL M).filter fun v => decide (v ∈ l) := asc_uniq hl (ascL_asc.filter _) fun v => by
  rw [List.mem_filter, ascL_mem, decide_eq_true_eq]
  exact ⟨fun hv => ⟨h v hv, hv⟩, fun hv => hv.2⟩
 rw [e]
 exact Nat.le_trans (List.length_filter_le _ _) ascL_le
theorem nm_le (hk : HOk H) (hc : cvB nl nc dm yg = true) {k : Nat} (hkn : k < nl) : (nmL H nl L nc dm yg k).length ≤ H.n := by
 have h := asc_sub (l := nmL H nl L nc dm yg k) (M := (List.range H.n).map H.id) idsL_asc fun v hv => by
  obtain ⟨i, h1, h2, _⟩ := nm_in hk hc hkn hv
  exact List.mem_map.2 ⟨i, List.mem_range.2 h1, h2⟩
 rwa [List.length_map, List.length_range] at h
end
end Go.Proofs.YtbenhafhklfhmaaGreat
namespace Go.Proofs.YtbenhafhklfhmaaGreat
set_option linter.all false
set_option linter.unusedVariables false
set_option linter.unusedSimpArgs false
open Go.RowKit
structure SharpS (nl m nM nN nP : Nat) (X Y : List Int) (M N P : Nat → List Int) (g h i : Int) : Prop where
 xy : ∀ v, v ∈ Y → v ∈ X
 hg : h = 0 → g = 0
 hN : h = 0 → nN = nl
 gM : g = 0 → nM = nl
 nm : ∀ k, k < nl → ∀ v, v ∈ N k → v ∈ M k
 gi : g = 0 → i = 0
 gP : g = 0 → nP = m
 mp : ∀ k, k < m → ∀ v, v ∈ M k → v ∈ P k
 lx : X.length ≤ 1000000
 ly : Y.length ≤ 1000000
 lM : ∀ k, k < nl → (M k).length ≤ 1000000
 lN : ∀ k, k < nl → (N k).length ≤ 1000000
 lP : ∀ k, k < m → (P k).length ≤ 1000000
 nMl : nM ≤ nl
 nNl : nN ≤ nl
 nPl : nP ≤ m
theorem fit_len {H : Hd} {l : Lk} (hk : HOk H) : (fitL H l).length ≤ 1000000 := by
 have h16 := hk.n16
 unfold fitL
 split
 · have := Nat.le_trans (idsL_le (H := H) (A := fitP H l H.n)) fitP_len
   omega
 · exact Nat.zero_le _
theorem nmN_le {H : Hd} {nl nc : Nat} {L : Nat → Lk} {dm yg : Nat → Int} : nmN H nl L nc dm yg ≤ nl := by unfold nmN; split <;> omega
theorem sharp_say {H : Hd} {nl nc m q gn : Nat} {L : Nat → Lk} {dm yg u : Nat → Int} {x y : Int} (hk : HOk H) (hl : lksC nl L nc dm yg = 0) (hm : nl = m + 1) (hq : q < nl) :
   ∃ (nM nN nP : Nat) (X Y : List Int) (M N P : Nat → List Int) (e g h i : Int), SharpS nl m nM nN nP X Y M N P g h i ∧ (fitC H (L q) = e ∧ fitL H (L q) = X) ∧ (fitC H (btL (L q) u gn x y) = e ∧ fitL H (btL (L q) u gn x y) = Y) ∧
    (nmC H nl L nc dm yg = g ∧ nmL H nl L nc dm yg = M ∧ nmN H nl L nc dm yg = nM) ∧ (nmC H nl (putL L q (btL (L q) u gn x y)) nc dm yg = h ∧ nmL H nl (putL L q (btL (L q) u gn x y)) nc dm yg = N ∧ nmN H nl (putL L q (btL (L q) u gn x y)) nc dm yg = nN) ∧
    nmC H m L (fewL dm yg (m : Int) nc).length (fewD dm yg (m : Int) nc) (fewY dm yg (m : Int) nc) = i ∧ nmL H m L (fewL dm yg (m : Int) nc).length (fewD dm yg (m : Int) nc) (fewY dm yg (m : Int) nc) = P ∧ nmN H m L (fewL dm yg (m : Int) nc).length (fewD dm yg (m : Int) nc) (fewY dm yg (m : Int) nc) = nP := by
 obtain ⟨h1, h2, hc⟩ := lks_zero.1 hl
 have hlk := h2 q hq
 have hlk' := bt_lk (u := u) (n := gn) (a := x) (b := y) hlk
 have hle : (L q).alo ≤ (L q).ahi := by
   unfold lkB ordB5 at hlk
   simp only [Bool.and_eq_true, decide_eq_true_eq] at hlk
   omega
 have hb := bt_btr (l := L q) (u := u) (n := gn) (a := x) (b := y) hle
 have hbs := put_btr (L := L) (k := q) hb
 have hl' := put_lks (k := q) hl hlk'
 have hce := fit_code (H := H) hlk hlk'
 have hfl := few_lks hm hl
 have h16 := hk.n16
 refine ⟨_, _, _, _, _, _, _, _, _, _, _, _, ⟨fun v hv => fit_sub hb hce hv, fun h => nm_better hk hl hbs h, fun h => if_pos h, fun h => if_pos h, fun k _ v hv => nm_bsub hk hc hbs hv, fun h => few_nm hk hm hl h, fun h => if_pos (few_nm hk hm hl h), fun k hkm v hv => few_sub hk hm hc hkm hv, fit_len hk, fit_len hk,
   fun k hkn => ?_, fun k hkn => ?_, fun k hkm => ?_, nmN_le, nmN_le, nmN_le⟩, ⟨rfl, rfl⟩, ⟨hce.symm, rfl⟩, ⟨rfl, rfl, rfl⟩, ⟨rfl, rfl, rfl⟩, rfl, rfl, rfl⟩
 · have := nm_le (L := L) hk hc hkn; omega
 · have := nm_le (L := putL L q (btL (L q) u gn x y)) hk hc hkn; omega
 · have := nm_le (L := L) hk (few_cv hm hc) hkm; omega
def sgJ (l : Lk) (u : Nat → Int) (n j k : Nat) : Nat := if k < j then l.sg k &&& (4294967295 - (chB n u k).toNat) else l.sg k
theorem sgJ_at {l : Lk} {u : Nat → Int} {n j : Nat} : sgJ l u n j j = l.sg j := if_neg (Nat.lt_irrefl _)
theorem sgJ_next {l : Lk} {u : Nat → Int} {n j s : Nat} (k : Nat) (hs : s = l.sg j) : updR (fun k => [Value.int .u32 (sgJ l u n j k : Int)]) j [.int .u32 ((s &&& (4294967295 - (chB n u j).toNat) : Nat) : Int)] k = [.int .u32 (sgJ l u n (j + 1) k : Int)] := by
 subst hs
 unfold updR sgJ
 by_cases e : k = j
 · subst e; rw [if_pos rfl, if_pos (by omega)]
 · rw [if_neg e]
   by_cases h9 : k < j
   · simp only [if_pos h9, if_pos (show k < j + 1 by omega)]
   · simp only [if_neg h9, if_neg (show ¬ k < j + 1 by omega)]
def prL (P : List (Int × Int)) (k : Nat) : List Value := [.int .i64 (P.getD k (0, 0)).1, .int .i64 (P.getD k (0, 0)).2]
theorem prL_app {L L' : List (Int × Int)} {m : Nat} {x y : Int} {s : Nat → List Value} (hm : m = L.length) (hL : L' = L ++ [(x, y)]) (hs : s 0 = [.int .i64 x, .int .i64 y]) : ∀ i, i < m + 1 → catR m (prL L) s i = prL L' i := fun i hi => by
 subst hL
 unfold catR prL
 split
 · rename_i h
   rw [List.getD_eq_getElem?_getD, List.getD_eq_getElem?_getD, List.getElem?_append_left (by omega)]
 · rename_i h
   obtain rfl : i = m := by omega
   rw [Nat.sub_self, hs, List.getD_eq_getElem?_getD, List.getElem?_append_right (by omega), hm, Nat.sub_self]
   rfl
theorem bt_in {w : World} {l : Lk} {A5 : Option Addr} {c5 gn : Nat} {u : Nat → Int} {x y : Int} (h : Fact.holds (.own A5 l.ns c5 25 1 (fun k => [.int .u32 (sgJ l u gn l.ns k : Int)])) w) (h8 : l.ns ≤ 8) (hb : ∀ k, k < l.ns → l.sg k ≤ 4294967295) : LkIn w (btL l u gn x y) A5 :=
 ⟨by show l.ns ≤ 1000; omega, (OwnR.rdr h).cg fun k hk => by
  have e : sgJ l u gn l.ns k = (btL l u gn x y).sg k := if_pos hk
  rw [e], fun k hk => Nat.le_trans Nat.and_le_left (hb k hk)⟩
theorem put_lk {L : Nat → Lk} {la : Nat → Option Addr} {lc : Nat → Nat} {q : Nat} {l : Lk} {A5 : Option Addr} {c5 : Nat} (k : Nat) : updR (fun k => lkL (L k) (la k) (lc k)) q (lkL l A5 c5) k = lkL (putL L q l k) (updA la q A5 k) (updA lc q c5 k) := by
 unfold updR putL updA
 by_cases e : k = q
 · rw [if_pos e, if_pos e, if_pos e, if_pos e]
 · rw [if_neg e, if_neg e, if_neg e, if_neg e]
theorem put_in {w : World} {nl q : Nat} {L : Nat → Lk} {la : Nat → Option Addr} {lc : Nat → Nat} {l : Lk} {A2 A5 : Option Addr} {c5 : Nat} (hn : nl ≤ 1000) (h : RdR w 4 A2 nl (fun k => lkL (putL L q l k) (updA la q A5 k) (updA lc q c5 k))) (hl : LkIn w l A5) (hL : ∀ k, k < nl → LkIn w (L k) (la k)) : LksIn w nl (putL L q l) A2 (updA la q A5) (updA lc q c5) :=
 ⟨hn, h, fun k hk => by
  unfold putL updA
  by_cases e : k = q
  · rw [if_pos e, if_pos e]; exact hl
  · rw [if_neg e, if_neg e]; exact hL k hk⟩
section
variable {w : World} {A B C G : Option Addr} {cp cb cc gc nl nc gn : Nat} {H : Hd} {a : Nat → Option Addr} {c : Nat → Nat} {L : Nat → Lk} {la : Nat → Option Addr} {lc : Nat → Nat} {dm yg u : Nat → Int} {x y : Int}
theorem ch_nat {k : Nat} {w : World} (hu : U32b gn u) (hR : RdR w 1 G gn (fun k => [.int .u32 (u k)])) : Calls Tryz.prog 17 #[.slice G gn gc, .int .i64 (k : Int)] w (Ret w (.int .u32 (((chB gn u k).toNat : Nat) : Int))) := by
 have h9 := choose2_any (cp := gc) k hR
 rwa [← Int.toNat_of_nonneg (chB_bd hu k).1] at h9
set_option maxRecDepth 100000 in
set_option maxHeartbeats 16000000 in
theorem lawSharp_any (hcap : nl ≤ cb) (o : Nat) (ho : o ≤ 255) (hu : U32b gn u) (hx : 0 ≤ x ∧ x ≤ 4294967295) (hy : 0 ≤ y ∧ y ≤ 4294967295) (hR : RdR w 5 A H.n (fun i => anL H a c i)) (hM : ∀ i, i < H.n → RdR w 2 (a i) (H.ml i) (fun k => spL (H.sp i k) (H.sg i k)))
  (hLR : RdR w 4 B nl (fun k => lkL (L k) (la k) (lc k))) (hLs : ∀ k, k < nl → RdR w 1 (la k) (L k).ns (fun j => [.int .u32 ((L k).sg j : Int)])) (hLb : ∀ k, k < nl → ∀ j, j < (L k).ns → (L k).sg j ≤ 4294967295) (hCR : RdR w 2 C nc (fun k => [.int .i64 (dm k), .int .i64 (yg k)])) (hGR : RdR w 1 G gn (fun k => [.int .u32 (u k)])) :
  Calls Tryz.prog 5 #[.slice A H.n cp, .slice B nl cb, .slice C nc cc, .int .u8 (o : Int), .slice G gn gc, .int .u32 x, .int .u32 y] w (Ret w (.bool true)) := by
 have fL := fun (w' : World) (h1 : RdR w' 4 B nl (fun k => lkL (L k) (la k) (lc k))) (h2 : ∀ k, k < nl → RdR w' 1 (la k) (L k).ns (fun j => [.int .u32 ((L k).sg j : Int)])) (h3 : RdR w' 2 C nc (fun k => [.int .i64 (dm k), .int .i64 (yg k)])) => rLooks2_any (cb := cb) (cc := cc) h1 h2 hLb h3
 have fF := fun (w' : World) (q : Nat) (X : List Int) (e : Int) (h1 : fitC H (L q) = e) (h2 : fitL H (L q) = X) (h : HIn w' A H a c) (h3 : LkIn w' (L q) (la q)) => lw_fits (cp := cp) (cl := lc q) h1 h2 h h3
 have fG := fun (w' : World) (l : Lk) (Al : Option Addr) (cl : Nat) (X : List Int) (e : Int) (h1 : fitC H l = e) (h2 : fitL H l = X) (h : HIn w' A H a c) (h3 : LkIn w' l Al) => lw_fits (cp := cp) (cl := cl) h1 h2 h h3
 unfold lkL at hLR fF fG
 refine K_enter (S := []) (K := []) Tryz.func5 rfl Tryz.ntmps5 rfl (Sat.start _) ?_
 refine TW.seq fun Y1 hY1 => TW.region ?_
 refine TL.p Pu.as ?_
 refine TL.nil (TQ.thenN (hY1 _ _ ?_))
 refine TW.seq fun Y2 hY2 => TW.region ?_
 refine TL.cr rfl (enters Tryz.func12 rfl rfl) (fun w hw => by
   exact alive_any _) ?_
 refine TL.p Pu.as ?_
 refine TL.nil (TQ.thenN (hY2 _ _ ?_))
 refine TW.seq fun Y3 hY3 => ?_
 refine TW.seq fun Y4 hY4 => ?_
 refine TW.join [(60, .bool (!rdyH H || !decide (lksC nl L nc dm yg = 0) || decide ((nl : Int) = 0)))] ?_ (fun hJ1 => ?_)
 refine TQ.thenN (hY4 _ _ ?_)
 refine TW.cond rfl (fun hc0 => ?_) (fun hc0 => ?_)
 try simp only [zcb9] at hc0
 refine TW.seq fun Y5 hY5 => TW.region ?_
 refine TL.p Pu.mv ?_
 refine TL.p Pu.as ?_
 refine TL.nil (TQ.thenN (hY5 _ _ ?_))
 refine TW.ret ?_
 refine TQ.thenR ?_
 refine TQ.ret Tryz.results5 rfl ((.tmp rfl .nil)) ?_
 exact fun w hw => Ret.of hw
 try simp only [zcb9] at hc0
 obtain ⟨⟨hr0, hl0⟩, hn0⟩ := hc0
 have hr1 : rdyH H = true := by simpa using hr0
 have hl1 : lksC nl L nc dm yg = 0 := by simpa using hl0
 obtain ⟨hk, hI0⟩ := rdy_in hr1
 have hI : HIn w A H a c := ⟨hI0.1, hR, hM, hI0.2⟩
 obtain ⟨hLI, hCI⟩ := lks_in hl1 hLR hLs hLb hCR
 have hnn : 0 < nl := by omega
 obtain ⟨hl4, hlk, hcv⟩ := lks_zero.1 hl1
 obtain ⟨q, ei, hq⟩ : ∃ q : Nat, HidT ((o : Int) % (nl : Int) = (q : Int)) ∧ q < nl := ⟨o % nl, hidT (Int.natCast_emod o nl).symm, Nat.mod_lt _ hnn⟩
 obtain ⟨m, hm⟩ : ∃ m, nl = m + 1 := ⟨nl - 1, by omega⟩
 have hns : (L q).ns = 8 := lk_8 (hlk q hq)
 have hlq := hlk q hq
 have hab : 0 ≤ (L q).alo ∧ (L q).alo ≤ (L q).ahi ∧ (L q).ahi ≤ 200000 := by
  unfold lkB ordB5 at hlq
  simp only [Bool.and_eq_true, decide_eq_true_eq] at hlq
  omega
 have hbq := hLb q hq
 have hLq := hLs q hq
 obtain ⟨nM, nN, nP, X, Y, M, N, P, e, g, h, ic, hS, ⟨k1, k2⟩, ⟨k3, k4⟩, ⟨k5, k6, k7⟩, ⟨k8, k9, k10⟩, k11, k12, k13⟩ := sharp_say (u := u) (gn := gn) (x := x) (y := y) hk hl1 hm hq
 have hI1 := inV_bd (x := x) hab.2.1
 have hI2 := inV_bd (x := y) (lo := inV (L q).alo (L q).ahi x) hI1.2
 have hns1 : (L q).ns ≤ 8 := by omega
 have hns2 : 8 ≤ (L q).ns := by omega
 have hm1 : nl ≤ m + 1 := by omega
 have hm2 : m + 1 ≤ nl := by omega
 have hmI : (nl : Int) - 1 = (m : Int) := by omega
 replace hmI := hidT hmI
 replace hns := hidT hns
 replace hm := hidT hm
 replace hl1 := hidT hl1
 replace hlq := hidT hlq
 replace k1 := hidT k1
 replace k2 := hidT k2
 replace k3 := hidT k3
 replace k4 := hidT k4
 replace k5 := hidT k5
 replace k6 := hidT k6
 replace k7 := hidT k7
 replace k8 := hidT k8
 replace k9 := hidT k9
 replace k10 := hidT k10
 replace k11 := hidT k11
 replace k12 := hidT k12
 replace k13 := hidT k13
 have hnM9 := hS.nMl
 have hnN9 := hS.nNl
 have hnP9 := hS.nPl
 replace hS := hidT hS
 refine TW.skip ?_
 refine TQ.thenN (hY3 _ _ ?_)
 refine TW.seq fun Y6 hY6 => TW.region ?_
 refine TL.p Pu.mv ?_
 refine TL.p (Pu.cv (v := .int .i64 (o : Int)) rfl (fun w => by go_simp; rw [IntWalk.i64_in (o : Int) (by omega)])) ?_
 refine TL.p Pu.mv ?_
 refine TL.p (Pu.ln Tryz.underlying37) ?_
 refine TL.p (Pu.iv Pu.rm ei.out) ?_
 refine TL.p Pu.as ?_
 refine TL.nil (TQ.thenN (hY6 _ _ ?_))
 refine TW.seq fun Y7 hY7 => TW.region ?_
 refine TL.m Mk.bl ?_
 intro b1
 refine TL.p Pu.mv ?_
 refine TL.ob (E := 42) (sz := 4) (r := fun _ => []) pk9 rfl ?_
 first | refine TL.a0 ty_et37 ?_ | refine TL.ap ty_et37 ?_
 intro A2 c2
 refine TL.p Pu.as ?_
 refine TL.nil (TQ.thenN (hY7 _ _ ?_))
 refine TW.seq fun Y8 hY8 => TW.region ?_
 refine TL.p Pu.mv ?_
 refine TL.p Pu.mv ?_
 refine TL.p (Pu.el ty_et37) ?_
 refine TL.p (Pu.lds ty_ag42) ?_
 refine TL.m (Mk.al ty_zr42) ?_
 intro b3
 first | refine TL.st ty_sz42 ?_ | refine TL.se ty_sz42 ?_
 refine TL.nil (TQ.thenN (hY8 _ _ ?_))
 refine TW.seq fun Y9 hY9 => TW.region ?_
 refine TL.m Mk.bl ?_
 intro b4
 refine TL.p (by first | exact Pu.fb ty_fa42_0 | exact Pu.fe ty_fa42_0) ?_
 refine TL.p (Pu.ld ty_sc24) ?_
 refine TL.ob (E := 25) (sz := 1) (r := fun _ => []) pk9 rfl ?_
 first | refine TL.a0 ty_et24 ?_ | refine TL.ap ty_et24 ?_
 intro A5 c5
 refine TL.p (by first | exact Pu.fb ty_fa42_0 | exact Pu.fe ty_fa42_0) ?_
 first | refine TL.st ty_sz24 ?_ | refine TL.se ty_sz24 ?_
 refine TL.nil (TQ.thenN (hY9 _ _ ?_))
 refine TW.seq fun Y10 hY10 => ?_
 refine TW.seq fun Y11 hY11 => TW.region ?_
 refine TL.p (by first | exact Pu.fb ty_fa42_0 | exact Pu.fe ty_fa42_0) ?_
 refine TL.p (Pu.ld ty_sc24) ?_
 refine TL.p (Pu.ln Tryz.underlying24) ?_
 refine TL.p Pu.mv ?_
 refine TL.nil (TQ.thenN (hY11 _ _ ?_))
 refine TW.block ?_
 refine TW.loop1 (fun (j : Nat) => [(82, .int .i64 (j : Int)), (81, .int .i64 ((L q).ns : Int)), (18, .pointer (some ⟨b3, 0, none⟩)), (17, .slice A2 nl c2), (16, .int .i64 (q : Int)), (15, .bool true), (4, .slice G gn gc), (5, .int .u32 x), (6, .int .u32 y), (0, .slice A H.n cp), (1, .slice B nl cb), (2, .slice C nc cc)]) (fun j => [.own A5 (L q).ns c5 25 1 (fun k => [.int .u32 (sgJ (L q) u gn j k : Int)]), .blk b3 42 [.slice A5 (L q).ns c5, .int .i64 (L q).day, .int .i64 (L q).alo, .int .i64 (L q).ahi], .own A2 nl c2 42 4 (fun k => [.slice (la k) (L k).ns (lc k), .int .i64 (L k).day, .int .i64 (L k).alo, .int .i64 (L k).ahi])]) (fun j => j ≤ (L q).ns) (fun j => (L q).ns - j) 0 fs9 ?_ ?_ ?_
 exact ks9
 exact Nat.zero_le _
 rintro j hj Z0 hZ0
 refine TW.seq fun Y12 hY12 => TW.region ?_
 refine TL.p Pu.lt ?_
 refine TL.nil (TQ.thenN (hY12 _ _ ?_))
 refine TW.seq fun Y13 hY13 => ?_
 refine TW.cond rfl (fun hc1 => ?_) (fun hc1 => ?_)
 try simp only [zcb9] at hc1
 have hjn : j < (L q).ns := by omega
 have hcb := chB_bd hu j
 have hsj := sgJ_at (l := L q) (u := u) (n := gn) (j := j)
 have hsb : sgJ (L q) u gn j j ≤ 4294967295 := by rw [hsj]; exact hbq j hjn
 replace hsj := hidT hsj
 refine TW.skip ?_
 refine TQ.thenN (hY13 _ _ ?_)
 refine TW.seq fun Y14 hY14 => ?_
 refine TW.block ?_
 refine TW.seq fun Y15 hY15 => TW.region ?_
 refine TL.p Pu.mv ?_
 refine TL.p Pu.as ?_
 refine TL.nil (TQ.thenN (hY15 _ _ ?_))
 refine TW.dw 11 ?_
 refine RK.tk (by first | exact Pu.fb ty_fa42_0 | exact Pu.fe ty_fa42_0) ?_
 refine RK.tk (Pu.ld ty_sc24) ?_
 refine RK.tk Pu.mv ?_
 refine RK.tk (Pu.el ty_et24) ?_
 refine RK.tk (Pu.ld ty_sc25) ?_
 refine RK.tk Pu.mv ?_
 refine RK.tk Pu.mv ?_
 refine RK.keep ?_
 refine RK.keep ?_
 refine RK.keep ?_
 refine RK.keep ?_
 refine RK.ch [false, true, true, true] ?_ trivial
 refine WK.cr rfl (enters Tryz.func17 rfl rfl) (fun w hw => by
   exact ch_nat hu (hGR.sat hw Apart.nil)) ?_
 refine WK.p (Pu.xrW (m := (chB gn u j).toNat)) ?_
 refine WK.p (Pu.aW (a := sgJ (L q) u gn j j) (b := 4294967295 - (chB gn u j).toNat)) ?_
 refine WK.p (Pu.el ty_et24) ?_
 refine WK.n ?_
 first | refine TL.st ty_sz25 ?_ | refine TL.se ty_sz25 ?_
 refine TL.nil ?_
 refine TQ.blkN ?_
 refine TQ.thenN (hY14 _ _ ?_)
 refine TW.region ?_
 refine TL.p Pu.ad ?_
 refine TL.p Pu.mv ?_
 refine TL.nil ?_
 refine TQ.thenN (hZ0 (j + 1) _ _ ?_ ?_ fs9 ?_)
 exact (by omega)
 exact zom9
 exact KSub.own pk9 (fun k hk => sgJ_next k hsj.out) ks9
 try simp only [zcb9] at hc1
 obtain rfl : j = (L q).ns := by omega
 refine TW.exit ?_
 refine TQ.thenX ?_
 refine TQ.thenX ?_
 refine TQ.blkX ?_
 refine TQ.thenN (hY10 _ _ ?_)
 refine TW.seq fun Y16 hY16 => TW.region ?_
 refine TL.p (by first | exact Pu.fb ty_fa42_2 | exact Pu.fe ty_fa42_2) ?_
 refine TL.p (Pu.lds ty_ag36) ?_
 refine TL.p Pu.mv ?_
 refine TL.cr rfl (enters Tryz.func25 rfl rfl) (fun w hw => by
   exact inside2_any (by omega) (by omega) (by omega) (by assumption) _) ?_
 refine TL.p (by first | exact Pu.fb ty_fa42_2 | exact Pu.fe ty_fa42_2) ?_
 refine TL.p (by first | exact Pu.fb ty_fa36_0 | exact Pu.fe ty_fa36_0) ?_
 first | refine TL.st ty_sz3 ?_ | refine TL.se ty_sz3 ?_
 refine TL.nil (TQ.thenN (hY16 _ _ ?_))
 refine TW.seq fun Y17 hY17 => TW.region ?_
 refine TL.p (by first | exact Pu.fb ty_fa42_2 | exact Pu.fe ty_fa42_2) ?_
 refine TL.p (Pu.lds ty_ag36) ?_
 refine TL.p Pu.mv ?_
 refine TL.cr rfl (enters Tryz.func25 rfl rfl) (fun w hw => by
   exact inside2_any (by omega) (by omega) (by omega) (by assumption) _) ?_
 refine TL.p (by first | exact Pu.fb ty_fa42_2 | exact Pu.fe ty_fa42_2) ?_
 refine TL.p (by first | exact Pu.fb ty_fa36_1 | exact Pu.fe ty_fa36_1) ?_
 first | refine TL.st ty_sz3 ?_ | refine TL.se ty_sz3 ?_
 refine TL.nil (TQ.thenN (hY17 _ _ ?_))
 refine TW.seq fun Y18 hY18 => TW.region ?_
 refine TL.p Pu.mv ?_
 refine TL.p Pu.mv ?_
 refine TL.p (Pu.lds ty_ag42) ?_
 refine TL.p (Pu.el ty_et37) ?_
 first | refine TL.st ty_sz42 ?_ | refine TL.se ty_sz42 ?_
 refine TL.nil (TQ.thenN (hY18 _ _ ?_))
 refine TW.subK (KSub.own pk9 (s := fun k => lkL (putL L q (btL (L q) u gn x y) k) (updA la q A5 k) (updA lc q c5 k)) (fun k hk => put_lk (l := btL (L q) u gn x y) k) (KSub.refl _)) ?_
 refine TW.seq fun Y19 hY19 => TW.region ?_
 refine TL.p Pu.mv ?_
 refine TL.p Pu.mv ?_
 refine TL.p Pu.mv ?_
 refine TL.p (Pu.el ty_et37) ?_
 refine TL.p (Pu.lds ty_ag42) ?_
 refine TL.call (M := []) rfl (enters Tryz.func21 rfl rfl) (List.Perm.refl _) rfl (fun w hw => by
   exact fF _ q X e k1.out k2.out (hI.sat hw) ((hLI.ext (Chg.ext hw.chg)).hL q hq)) ?_
 rintro ⟨PX, px⟩
 refine TL.p Pu.mv ?_
 refine TL.p Pu.ex ?_
 refine TL.p Pu.ex ?_
 refine TL.p Pu.as ?_
 refine TL.p Pu.as ?_
 refine TL.nil (TQ.thenN (hY19 _ _ ?_))
 refine TW.seq fun Y20 hY20 => TW.region ?_
 refine TL.p Pu.mv ?_
 refine TL.p (Pu.lds ty_ag42) ?_
 refine TL.call (M := []) rfl (enters Tryz.func21 rfl rfl) (List.Perm.refl _) rfl (fun w hw => by
   exact fG _ (btL (L q) u gn x y) A5 c5 Y e k3.out k4.out (hI.sat hw) (bt_in (hw.holds (.own A5 (L q).ns c5 25 1 (fun k => [.int .u32 (sgJ (L q) u gn (L q).ns k : Int)])) (Pick.mem pk9)) hns1 hbq)) ?_
 rintro ⟨PY, py⟩
 refine TL.p Pu.mv ?_
 refine TL.p Pu.ex ?_
 refine TL.p Pu.ex ?_
 refine TL.p Pu.as ?_
 refine TL.p Pu.as ?_
 refine TL.nil (TQ.thenN (hY20 _ _ ?_))
 refine TW.seq fun Y21 hY21 => TW.region ?_
 refine TL.p Pu.mv ?_
 refine TL.p Pu.mv ?_
 refine TL.p Pu.mv ?_
 refine TL.call (M := []) rfl (enters Tryz.func20 rfl rfl) (List.Perm.refl _) rfl (fun w hw => by
   exact lw_names k5.out k6.out k7.out (hI.sat hw) (hLI.ext (Chg.ext hw.chg)) (hCI.ext (Chg.ext hw.chg))) ?_
 rintro ⟨⟨PM, pm⟩, ma, mc⟩
 refine TL.p Pu.mv ?_
 refine TL.p Pu.ex ?_
 refine TL.p Pu.ex ?_
 refine TL.p Pu.as ?_
 refine TL.p Pu.as ?_
 refine TL.nil (TQ.thenN (hY21 _ _ ?_))
 refine TW.seq fun Y22 hY22 => TW.region ?_
 refine TL.p Pu.mv ?_
 refine TL.p Pu.mv ?_
 refine TL.p Pu.mv ?_
 refine TL.call (M := []) rfl (enters Tryz.func20 rfl rfl) (List.Perm.refl _) rfl (fun w hw => by
   exact lw_names k8.out k9.out k10.out (hI.sat hw) (put_in (by omega) (OwnR.rdr (hw.holds (.own A2 nl c2 42 4 (fun k => lkL (putL L q (btL (L q) u gn x y) k) (updA la q A5 k) (updA lc q c5 k))) (Pick.mem pk9))) (bt_in (hw.holds (.own A5 (L q).ns c5 25 1 (fun k => [.int .u32 (sgJ (L q) u gn (L q).ns k : Int)])) (Pick.mem pk9)) hns1 hbq) (hLI.ext (Chg.ext hw.chg)).hL) (hCI.ext (Chg.ext hw.chg))) ?_
 rintro ⟨⟨PN, pn⟩, na, ncc⟩
 refine TL.p Pu.mv ?_
 refine TL.p Pu.ex ?_
 refine TL.p Pu.ex ?_
 refine TL.p Pu.as ?_
 refine TL.p Pu.as ?_
 refine TL.nil (TQ.thenN (hY22 _ _ ?_))
 refine TW.seq fun Y23 hY23 => ?_
 refine TW.seq fun Y24 hY24 => ?_
 refine TW.join [(170, .bool false)] ?_ (fun hJ2 => ?_)
 refine TQ.thenN (hY24 _ _ ?_)
 refine TW.condF rfl (rfl) ?_
 refine TW.skip ?_
 refine TQ.thenN (hY23 _ _ ?_)
 refine TW.rebase fun w1 hw1 => ?_
 have rX := OwnR.rdr (hw1.holds (.own PX X.length px 3 1 (iL X)) (Pick.mem pk9))
 have rY := OwnR.rdr (hw1.holds (.own PY Y.length py 3 1 (iL Y)) (Pick.mem pk9))
 have rM := OwnR.rdr (hw1.holds (.own PM nM pm 28 1 (fun k => [.slice (ma k) (M k).length (mc k)])) (Pick.mem pk9))
 have rN := OwnR.rdr (hw1.holds (.own PN nN pn 28 1 (fun k => [.slice (na k) (N k).length (ncc k)])) (Pick.mem pk9))
 have rMk : ∀ k, k < nM → RdR w1 1 (ma k) (M k).length (iL (M k)) := fun k hk9 => OwnR.rdr (bun_get hw1 (K1 := ownsE 3 1 ma (fun k => (M k).length) mc (fun k => iL (M k)) nM) (Pick.mem pk9) (ownsE_mem hk9))
 have rNk : ∀ k, k < nN → RdR w1 1 (na k) (N k).length (iL (N k)) := fun k hk9 => OwnR.rdr (bun_get hw1 (K1 := ownsE 3 1 na (fun k => (N k).length) ncc (fun k => iL (N k)) nN) (Pick.mem pk9) (ownsE_mem hk9))
 have hI' := hI.ext (Chg.ext hw1.chg)
 have hLI' := hLI.ext (Chg.ext hw1.chg)
 have hCI' := hCI.ext (Chg.ext hw1.chg)
 have hLR' := hLI'.hR
 have hCR' := hCI'.hR
 have hlx := hS.out.lx
 have hly := hS.out.ly
 unfold lkL at hLR'
 clear hLR hCR
 refine TW.seq fun Y25 hY25 => ?_
 refine TW.seq fun Y26 hY26 => TW.region ?_
 refine TL.p Pu.mv ?_
 refine TL.p (Pu.ln Tryz.underlying28) ?_
 refine TL.p Pu.mv ?_
 refine TL.nil (TQ.thenN (hY26 _ _ ?_))
 refine TW.block ?_
 refine TW.loop1 (fun (j : Nat) => [(173, .int .i64 (j : Int)), (172, .int .i64 (Y.length : Int)), (171, .slice PY Y.length py), (20, .slice PX X.length px), (24, .slice PM nM pm), (25, .int .i64 g), (26, .slice PN nN pn), (27, .int .i64 h), (15, .bool true), (0, .slice A H.n cp), (1, .slice B nl cb), (2, .slice C nc cc)]) (fun j => []) (fun j => j ≤ Y.length) (fun j => Y.length - j) 0 fs9 ?_ ?_ ?_
 exact ks9
 exact Nat.zero_le _
 rintro j hj Z1 hZ1
 refine TW.seq fun Y27 hY27 => TW.region ?_
 refine TL.p Pu.lt ?_
 refine TL.nil (TQ.thenN (hY27 _ _ ?_))
 refine TW.seq fun Y28 hY28 => ?_
 refine TW.cond rfl (fun hc3 => ?_) (fun hc3 => ?_)
 try simp only [zcb9] at hc3
 have hjn : j < Y.length := by omega
 refine TW.skip ?_
 refine TQ.thenN (hY28 _ _ ?_)
 refine TW.seq fun Y29 hY29 => ?_
 refine TW.block ?_
 refine TW.seq fun Y30 hY30 => TW.region ?_
 refine TL.p (Pu.el ty_et28) ?_
 refine TL.p (Pu.ld ty_sc3) ?_
 refine TL.p Pu.as ?_
 refine TL.nil (TQ.thenN (hY30 _ _ ?_))
 refine TW.seq fun Y31 hY31 => TW.region ?_
 refine TL.p Pu.mv ?_
 refine TL.p Pu.mv ?_
 refine TL.cr rfl (enters Tryz.func22 rfl rfl) (fun w hw => by
   exact lw_has _ hlx (hS.out.xy _ (getD_memI hjn)) (rX.sat hw Apart.nil)) ?_
 refine TL.p Pu.no ?_
 refine TL.nil (TQ.thenN (hY31 _ _ ?_))
 refine TW.condF rfl (rfl) ?_
 refine TW.skip ?_
 refine TQ.blkN ?_
 refine TQ.thenN (hY29 _ _ ?_)
 refine TW.region ?_
 refine TL.p Pu.ad ?_
 refine TL.p Pu.mv ?_
 refine TL.nil ?_
 refine TQ.thenN (hZ1 (j + 1) _ _ ?_ ?_ fs9 ?_)
 exact (by omega)
 exact zom9
 exact ks9
 try simp only [zcb9] at hc3
 refine TW.exit ?_
 refine TQ.thenX ?_
 refine TQ.thenX ?_
 refine TQ.blkX ?_
 refine TQ.thenN (hY25 _ _ ?_)
 refine TW.meet (fun (_ : Unit) => ([(24, .slice PM nM pm), (25, .int .i64 g), (15, .bool true), (0, .slice A H.n cp), (1, .slice B nl cb), (2, .slice C nc cc)] : Fr)) (fun (_ : Unit) => []) ?_ (fun Y32 hM32 => ?_)
 rintro _
 dsimp only
 refine TW.seq fun Y33 hY33 => TW.region ?_
 refine TL.p Pu.mv ?_
 refine TL.p (Pu.ln Tryz.underlying37) ?_
 refine TL.p (Pu.iv Pu.sb hmI.out) ?_
 refine TL.p Pu.as ?_
 refine TL.nil (TQ.thenN (hY33 _ _ ?_))
 refine TW.seq fun Y34 hY34 => TW.region ?_
 refine TL.p Pu.as ?_
 refine TL.nil (TQ.thenN (hY34 _ _ ?_))
 refine TW.seq fun Y35 hY35 => ?_
 refine TW.seq fun Y36 hY36 => TW.region ?_
 refine TL.p Pu.mv ?_
 refine TL.p (Pu.ln Tryz.underlying38) ?_
 refine TL.p Pu.mv ?_
 refine TL.nil (TQ.thenN (hY36 _ _ ?_))
 refine TW.block ?_
 refine TW.loop5 (fun (k : Nat) (Al : Option Addr) (cl : Nat) (R : List (Int × Int)) (n : Nat) => [(212, .int .i64 (k : Int)), (211, .int .i64 (nc : Int)), (210, .slice C nc cc), (34, .slice Al n cl), (33, .int .i64 (m : Int)), (24, .slice PM nM pm), (25, .int .i64 g), (15, .bool true), (0, .slice A H.n cp), (1, .slice B nl cb)]) (fun k Al cl R n => [.own Al n cl 51 2 (prL R)]) (fun k Al cl R n => k ≤ nc ∧ R = fewL dm yg (m : Int) k ∧ n = R.length) (fun k Al cl R n => nc - k) 0 none 0 [] 0 fs9 ?_ ?_ ?_
 exact KSub.nilOwn KSub.nil
 exact ⟨Nat.zero_le _, rfl, rfl⟩
 rintro k Al cl R n ⟨hkn, hRR, hn⟩ Z4 hZ4
 have hn9 : n ≤ nc := by have := few_len (dm := dm) (yg := yg) (z := (m : Int)) k; rw [hn, hRR]; omega
 have hnc9 : nc ≤ 1000 := hCI.hn
 refine TW.seq fun Y37 hY37 => TW.region ?_
 refine TL.p Pu.lt ?_
 refine TL.nil (TQ.thenN (hY37 _ _ ?_))
 refine TW.seq fun Y38 hY38 => ?_
 refine TW.cond rfl (fun hc9 => ?_) (fun hc9 => ?_)
 try simp only [zcb9] at hc9
 have hkl : k < nc := by omega
 refine TW.skip ?_
 refine TQ.thenN (hY38 _ _ ?_)
 refine TW.seq fun Y39 hY39 => ?_
 refine TW.block ?_
 refine TW.seq fun Y40 hY40 => TW.region ?_
 refine TL.p (Pu.el ty_et38) ?_
 refine TL.p (Pu.lds ty_ag51) ?_
 refine TL.m (Mk.al ty_zr51) ?_
 intro b6
 first | refine TL.st ty_sz51 ?_ | refine TL.se ty_sz51 ?_
 refine TL.nil (TQ.thenN (hY40 _ _ ?_))
 refine TW.seq fun Y41 hY41 => ?_
 refine TW.join [(225, .bool (!decide (dm k = (m : Int)) && !decide (yg k = (m : Int))))] ?_ (fun hJ3 => ?_)
 refine TQ.thenN (hY41 _ _ ?_)
 refine TW.cond rfl (fun hc10 => ?_) (fun hc10 => ?_)
 try simp only [zcb9] at hc10
 have hst : fewL dm yg (m : Int) (k + 1) = R ++ [(dm k, yg k)] := by rw [hRR]; exact if_pos (by simpa using hc10)
 have hlen9 : n + 1 = (fewL dm yg (m : Int) (k + 1)).length := by rw [hst, List.length_append, ← hn]; rfl
 refine TW.region ?_
 refine TL.p Pu.mv ?_
 refine TL.p (Pu.lds ty_ag51) ?_
 refine TL.m Mk.bl ?_
 intro b7
 first | refine TL.a0 ty_et38 ?_ | refine TL.ap ty_et38 ?_
 intro A8 c8
 refine TL.p Pu.as ?_
 refine TL.nil ?_
 refine TQ.blkN ?_
 refine TQ.thenN (hY39 _ _ ?_)
 refine TW.region ?_
 refine TL.p Pu.ad ?_
 refine TL.p Pu.mv ?_
 refine TL.nil ?_
 refine TQ.thenN (hZ4 (k + 1) _ _ (fewL dm yg (m : Int) (k + 1)) _ _ _ ?_ ?_ fs9 ?_)
 exact ⟨by omega, rfl, hlen9⟩
 exact zom9
 first
  | exact KSub.own Pick.hd (prL_app hn hst rfl) ks9
  | exact KSub.own pk9 (fun i _ => by rw [hst]) ks9
 try simp only [zcb9] at hc10
 have hst : fewL dm yg (m : Int) (k + 1) = R := by rw [hRR]; exact if_neg (fun h9 => by simp only [Bool.and_eq_true, Bool.not_eq_true', decide_eq_false_iff_not] at h9; omega)
 have hlen9 : n = (fewL dm yg (m : Int) (k + 1)).length := by rw [hst, ← hn]
 refine TW.skip ?_
 refine TQ.blkN ?_
 refine TQ.thenN (hY39 _ _ ?_)
 refine TW.region ?_
 refine TL.p Pu.ad ?_
 refine TL.p Pu.mv ?_
 refine TL.nil ?_
 refine TQ.thenN (hZ4 (k + 1) _ _ (fewL dm yg (m : Int) (k + 1)) _ _ _ ?_ ?_ fs9 ?_)
 exact ⟨by omega, rfl, hlen9⟩
 exact zom9
 first
  | exact KSub.own Pick.hd (prL_app hn hst rfl) ks9
  | exact KSub.own pk9 (fun i _ => by rw [hst]) ks9
 refine TW.region ?_
 refine TL.p (by first | exact Pu.fb ty_fa51_0 | exact Pu.fe ty_fa51_0) ?_
 refine TL.p (Pu.ld ty_sc3) ?_
 refine TL.p Pu.mv ?_
 refine TL.p Pu.ne ?_
 refine TL.p Pu.mv ?_
 refine TL.guard (t := 220) rfl (fun hg1 => ?_) (fun hg1 => ?_)
 try simp only [zgb9] at hg1
 refine TL.gd (by first | exact Pu.fb ty_fa51_1 | exact Pu.fe ty_fa51_1) ?_
 refine TL.gd (Pu.ld ty_sc3) ?_
 refine TL.gd Pu.mv ?_
 refine TL.gd Pu.ne ?_
 refine TL.p Pu.kt ?_
 refine TL.nil ?_
 exact TQ.sub (by repeat (first | exact trivial | refine ⟨rfl, ?_⟩ | refine ⟨trivial, ?_⟩ | refine ⟨(by show some (Value.bool _) = some (Value.bool _); first | (simp [hg1]; done) | (refine congrArg (fun z => some (Value.bool z)) (Bool.eq_iff_iff.2 ?_); simp [hg1]; omega)), ?_⟩)) ks9 hJ3
 try simp only [zgb9] at hg1
 refine TL.gs ?_
 refine TL.gs ?_
 refine TL.gs ?_
 refine TL.gs ?_
 refine TL.p Pu.kf ?_
 refine TL.nil ?_
 exact TQ.sub (by repeat (first | exact trivial | refine ⟨rfl, ?_⟩ | refine ⟨trivial, ?_⟩ | refine ⟨(by show some (Value.bool _) = some (Value.bool _); first | (simp [hg1]; done) | (refine congrArg (fun z => some (Value.bool z)) (Bool.eq_iff_iff.2 ?_); simp [hg1]; omega)), ?_⟩)) ks9 hJ3
 try simp only [zcb9] at hc9
 obtain rfl : k = nc := by omega
 obtain rfl : n = R.length := hn
 refine TW.exit ?_
 refine TQ.thenX ?_
 refine TQ.thenX ?_
 refine TQ.blkX ?_
 refine TQ.thenN (hY35 _ _ ?_)
 refine TW.seq fun Y42 hY42 => TW.region ?_
 refine TL.p Pu.mv ?_
 refine TL.p Pu.mv ?_
 refine TL.p Pu.mv ?_
 refine TL.p (Pu.sh ty_et37) ?_
 refine TL.p Pu.mv ?_
 refine TL.call (M := []) rfl (enters Tryz.func20 rfl rfl) (List.Perm.refl _) rfl (fun w hw => by
   have h9 := OwnR.rdr (hw.holds (.own Al R.length cl 51 2 (prL R)) (Pick.mem pk9))
   rw [hRR] at h9 ⊢
   exact lw_names k11.out k12.out k13.out (hI'.sat hw) ⟨by omega, ((hLI'.ext (Chg.ext hw.chg)).hR).few (by omega), fun k hk9 => (hLI'.ext (Chg.ext hw.chg)).hL k (by omega)⟩ ⟨by rw [← hRR]; omega, h9⟩) ?_
 rintro ⟨⟨PP, pp⟩, pa, pc⟩
 refine TL.p Pu.mv ?_
 refine TL.p Pu.ex ?_
 refine TL.p Pu.ex ?_
 refine TL.p Pu.as ?_
 refine TL.p Pu.as ?_
 refine TL.nil (TQ.thenN (hY42 _ _ ?_))
 refine TW.seq fun Y43 hY43 => ?_
 refine TW.seq fun Y44 hY44 => TW.region ?_
 refine TL.p Pu.mv ?_
 refine TL.p Pu.ne ?_
 refine TL.nil (TQ.thenN (hY44 _ _ ?_))
 refine TW.cond rfl (fun hc11 => ?_) (fun hc11 => ?_)
 try simp only [zcb9] at hc11
 refine TW.seq fun Y45 hY45 => TW.region ?_
 refine TL.p Pu.mv ?_
 refine TL.p Pu.as ?_
 refine TL.nil (TQ.thenN (hY45 _ _ ?_))
 refine TW.ret ?_
 refine TQ.thenR ?_
 refine TQ.ret Tryz.results5 rfl ((.tmp rfl .nil)) ?_
 exact fun w hw => Ret.of (hw.from hw1.chg (fun _ hb => .inl hb))
 try simp only [zcb9] at hc11
 have hg0 : g = 0 := by simpa using hc11
 have hi0 := hidT (hS.out.gi hg0)
 have hnM := hS.out.gM hg0
 have hnP := hS.out.gP hg0
 have hnM1 : nl ≤ nM := by omega
 have hnP1 : m ≤ nP := by omega
 replace hnM := hidT hnM
 replace hnP := hidT hnP
 clear hg0
 refine TW.skip ?_
 refine TQ.thenN (hY43 _ _ ?_)
 refine TW.seq fun Y46 hY46 => ?_
 refine TW.seq fun Y47 hY47 => TW.region ?_
 refine TL.p Pu.mv ?_
 refine TL.p Pu.ne ?_
 refine TL.lit (t := 244) (b' := false) rfl ((by rw [hi0.out]; rfl)) ?_
 refine TL.p Pu.mv ?_
 refine TL.gd Pu.mv ?_
 refine TL.gd (Pu.ln Tryz.underlying52) ?_
 refine TL.gd Pu.mv ?_
 refine TL.gd Pu.ne ?_
 refine TL.lit (t := 249) (b' := false) rfl ((by rw [hnP.out]; simp)) ?_
 refine TL.p Pu.kf ?_
 refine TL.p Pu.mv ?_
 refine TL.gd Pu.mv ?_
 refine TL.gd (Pu.ln Tryz.underlying52) ?_
 refine TL.gd Pu.mv ?_
 refine TL.gd (Pu.ln Tryz.underlying37) ?_
 refine TL.gd Pu.ne ?_
 refine TL.lit (t := 256) (b' := false) rfl ((by rw [hnM.out]; simp)) ?_
 refine TL.p Pu.kf ?_
 refine TL.nil (TQ.thenN (hY47 _ _ ?_))
 refine TW.condF rfl rfl ?_
 refine TW.skip ?_
 refine TQ.thenN (hY46 _ _ ?_)
 refine TW.rebase fun w2 hw2 => ?_
 have rP := OwnR.rdr (hw2.holds (.own PP nP pp 28 1 (fun k => [.slice (pa k) (P k).length (pc k)])) (Pick.mem pk9))
 have rPk : ∀ k, k < nP → RdR w2 1 (pa k) (P k).length (iL (P k)) := fun k hk9 => OwnR.rdr (bun_get hw2 (K1 := ownsE 3 1 pa (fun k => (P k).length) pc (fun k => iL (P k)) nP) (Pick.mem pk9) (ownsE_mem hk9))
 have rM2 := rM.sat hw2 Apart.nil
 have rMk2 := fun k (hk9 : k < nM) => (rMk k hk9).sat hw2 Apart.nil
 clear rM rN rX rY
 refine TW.seq fun Y48 hY48 => ?_
 refine TW.seq fun Y49 hY49 => TW.region ?_
 refine TL.p Pu.mv ?_
 refine TL.p (Pu.ln Tryz.underlying52) ?_
 refine TL.p Pu.mv ?_
 refine TL.nil (TQ.thenN (hY49 _ _ ?_))
 refine TW.block ?_
 refine TW.loop1 (fun (k : Nat) => [(260, .int .i64 (k : Int)), (259, .int .i64 (nP : Int)), (258, .slice PP nP pp), (37, .slice PP nP pp), (24, .slice PM nM pm), (15, .bool true)]) (fun k => []) (fun k => k ≤ nP) (fun k => nP - k) 0 fs9 ?_ ?_ ?_
 exact ks9
 exact Nat.zero_le _
 rintro k hkn Z5 hZ5
 refine TW.seq fun Y50 hY50 => TW.region ?_
 refine TL.p Pu.lt ?_
 refine TL.nil (TQ.thenN (hY50 _ _ ?_))
 refine TW.seq fun Y51 hY51 => ?_
 refine TW.cond rfl (fun hc13 => ?_) (fun hc13 => ?_)
 try simp only [zcb9] at hc13
 have hkl : k < nP := by omega
 have hlP1 := hS.out.lP k (by omega)
 have hlM1 := hS.out.lM k (by omega)
 have rMk3 := rMk2 k (by omega)
 refine TW.skip ?_
 refine TQ.thenN (hY51 _ _ ?_)
 refine TW.seq fun Y52 hY52 => ?_
 refine TW.block ?_
 refine TW.seq fun Y53 hY53 => TW.region ?_
 refine TL.p Pu.mv ?_
 refine TL.p Pu.as ?_
 refine TL.nil (TQ.thenN (hY53 _ _ ?_))
 refine TW.seq fun Y54 hY54 => TW.region ?_
 refine TL.p Pu.mv ?_
 refine TL.p Pu.mv ?_
 refine TL.p (Pu.el ty_et52) ?_
 refine TL.p (Pu.ld ty_sc28) ?_
 refine TL.p (Pu.ln Tryz.underlying28) ?_
 refine TL.p Pu.mv ?_
 refine TL.nil (TQ.thenN (hY54 _ _ ?_))
 refine TW.block ?_
 refine TW.loop1 (fun (j : Nat) => [(268, .int .i64 (j : Int)), (267, .int .i64 ((M k).length : Int)), (266, .slice (ma k) (M k).length (mc k)), (39, .int .i64 (k : Int)), (260, .int .i64 (k : Int)), (259, .int .i64 (nP : Int)), (258, .slice PP nP pp), (37, .slice PP nP pp), (24, .slice PM nM pm), (15, .bool true)]) (fun j => []) (fun j => j ≤ (M k).length) (fun j => (M k).length - j) 0 fs9 ?_ ?_ ?_
 exact ks9
 exact Nat.zero_le _
 rintro j hj Z6 hZ6
 refine TW.seq fun Y55 hY55 => TW.region ?_
 refine TL.p Pu.lt ?_
 refine TL.nil (TQ.thenN (hY55 _ _ ?_))
 refine TW.seq fun Y56 hY56 => ?_
 refine TW.cond rfl (fun hc14 => ?_) (fun hc14 => ?_)
 try simp only [zcb9] at hc14
 have hjn : j < (M k).length := by omega
 refine TW.skip ?_
 refine TQ.thenN (hY56 _ _ ?_)
 refine TW.seq fun Y57 hY57 => ?_
 refine TW.block ?_
 refine TW.seq fun Y58 hY58 => TW.region ?_
 refine TL.p (Pu.el ty_et28) ?_
 refine TL.p (Pu.ld ty_sc3) ?_
 refine TL.p Pu.as ?_
 refine TL.nil (TQ.thenN (hY58 _ _ ?_))
 refine TW.seq fun Y59 hY59 => TW.region ?_
 refine TL.p Pu.mv ?_
 refine TL.p Pu.mv ?_
 refine TL.p (Pu.el ty_et52) ?_
 refine TL.p (Pu.ld ty_sc28) ?_
 refine TL.p Pu.mv ?_
 refine TL.cr rfl (enters Tryz.func22 rfl rfl) (fun w hw => by
   exact lw_has _ hlP1 (hS.out.mp k (by omega) _ (getD_memI hjn)) ((rPk k hkl).sat hw Apart.nil)) ?_
 refine TL.p Pu.no ?_
 refine TL.nil (TQ.thenN (hY59 _ _ ?_))
 refine TW.condF rfl (rfl) ?_
 refine TW.skip ?_
 refine TQ.blkN ?_
 refine TQ.thenN (hY57 _ _ ?_)
 refine TW.region ?_
 refine TL.p Pu.ad ?_
 refine TL.p Pu.mv ?_
 refine TL.nil ?_
 refine TQ.thenN (hZ6 (j + 1) _ _ ?_ ?_ fs9 ?_)
 exact (by omega)
 exact zom9
 exact ks9
 try simp only [zcb9] at hc14
 refine TW.exit ?_
 refine TQ.thenX ?_
 refine TQ.thenX ?_
 refine TQ.blkX ?_
 refine TQ.blkN ?_
 refine TQ.thenN (hY52 _ _ ?_)
 refine TW.region ?_
 refine TL.p Pu.ad ?_
 refine TL.p Pu.mv ?_
 refine TL.nil ?_
 refine TQ.thenN (hZ5 (k + 1) _ _ ?_ ?_ fs9 ?_)
 exact (by omega)
 exact zom9
 exact ks9
 try simp only [zcb9] at hc13
 refine TW.exit ?_
 refine TQ.thenX ?_
 refine TQ.thenX ?_
 refine TQ.blkX ?_
 refine TQ.thenN (hY48 _ _ ?_)
 refine TW.seq fun Y60 hY60 => TW.region ?_
 refine TL.p Pu.mv ?_
 refine TL.p Pu.as ?_
 refine TL.nil (TQ.thenN (hY60 _ _ ?_))
 refine TW.ret ?_
 refine TQ.ret Tryz.results5 rfl ((.tmp rfl .nil)) ?_
 exact fun w hw => Ret.of ((hw.from hw2.chg (fun _ hb => .inl hb)).from hw1.chg (fun _ hb => .inl hb))
 refine TW.seq fun Y61 hY61 => TW.region ?_
 refine TL.p Pu.mv ?_
 refine TL.p Pu.eq ?_
 refine TL.nil (TQ.thenN (hY61 _ _ ?_))
 refine TW.cond rfl (fun hc5 => ?_) (fun hc5 => ?_)
 try simp only [zcb9] at hc5
 have hh0 : h = 0 := by simpa using hc5
 have hg0 := hS.out.hg hh0
 have hnN := hS.out.hN hh0
 have hnM := hS.out.gM hg0
 have hnN1 : nl ≤ nN := by omega
 have hnM1 : nl ≤ nM := by omega
 clear hh0 hg0 hnN hnM
 refine TW.seq fun Y62 hY62 => TW.region ?_
 refine TL.p Pu.mv ?_
 refine TL.p (Pu.ln Tryz.underlying52) ?_
 refine TL.p Pu.mv ?_
 refine TL.nil (TQ.thenN (hY62 _ _ ?_))
 refine TW.block ?_
 refine TW.loop1 (fun (k : Nat) => [(186, .int .i64 (k : Int)), (185, .int .i64 (nN : Int)), (184, .slice PN nN pn), (24, .slice PM nM pm), (25, .int .i64 g), (26, .slice PN nN pn), (15, .bool true), (0, .slice A H.n cp), (1, .slice B nl cb), (2, .slice C nc cc)]) (fun k => []) (fun k => k ≤ nN) (fun k => nN - k) 0 fs9 ?_ ?_ ?_
 exact ks9
 exact Nat.zero_le _
 rintro k hkn Z2 hZ2
 refine TW.seq fun Y63 hY63 => TW.region ?_
 refine TL.p Pu.lt ?_
 refine TL.nil (TQ.thenN (hY63 _ _ ?_))
 refine TW.seq fun Y64 hY64 => ?_
 refine TW.cond rfl (fun hc6 => ?_) (fun hc6 => ?_)
 try simp only [zcb9] at hc6
 have hkl : k < nN := by omega
 have rNk1 := rNk k hkl
 have hlN1 := hS.out.lN k (by omega)
 have hlM1 := hS.out.lM k (by omega)
 refine TW.skip ?_
 refine TQ.thenN (hY64 _ _ ?_)
 refine TW.seq fun Y65 hY65 => ?_
 refine TW.block ?_
 refine TW.seq fun Y66 hY66 => TW.region ?_
 refine TL.p Pu.mv ?_
 refine TL.p Pu.as ?_
 refine TL.nil (TQ.thenN (hY66 _ _ ?_))
 refine TW.seq fun Y67 hY67 => TW.region ?_
 refine TL.p Pu.mv ?_
 refine TL.p Pu.mv ?_
 refine TL.p (Pu.el ty_et52) ?_
 refine TL.p (Pu.ld ty_sc28) ?_
 refine TL.p (Pu.ln Tryz.underlying28) ?_
 refine TL.p Pu.mv ?_
 refine TL.nil (TQ.thenN (hY67 _ _ ?_))
 refine TW.block ?_
 refine TW.loop1 (fun (j : Nat) => [(194, .int .i64 (j : Int)), (193, .int .i64 ((N k).length : Int)), (192, .slice (na k) (N k).length (ncc k)), (30, .int .i64 (k : Int)), (186, .int .i64 (k : Int)), (185, .int .i64 (nN : Int)), (184, .slice PN nN pn), (24, .slice PM nM pm), (25, .int .i64 g), (26, .slice PN nN pn), (15, .bool true), (0, .slice A H.n cp), (1, .slice B nl cb), (2, .slice C nc cc)]) (fun j => []) (fun j => j ≤ (N k).length) (fun j => (N k).length - j) 0 fs9 ?_ ?_ ?_
 exact ks9
 exact Nat.zero_le _
 rintro j hj Z3 hZ3
 refine TW.seq fun Y68 hY68 => TW.region ?_
 refine TL.p Pu.lt ?_
 refine TL.nil (TQ.thenN (hY68 _ _ ?_))
 refine TW.seq fun Y69 hY69 => ?_
 refine TW.cond rfl (fun hc7 => ?_) (fun hc7 => ?_)
 try simp only [zcb9] at hc7
 have hjn : j < (N k).length := by omega
 refine TW.skip ?_
 refine TQ.thenN (hY69 _ _ ?_)
 refine TW.seq fun Y70 hY70 => ?_
 refine TW.block ?_
 refine TW.seq fun Y71 hY71 => TW.region ?_
 refine TL.p (Pu.el ty_et28) ?_
 refine TL.p (Pu.ld ty_sc3) ?_
 refine TL.p Pu.as ?_
 refine TL.nil (TQ.thenN (hY71 _ _ ?_))
 refine TW.seq fun Y72 hY72 => TW.region ?_
 refine TL.p Pu.mv ?_
 refine TL.p Pu.mv ?_
 refine TL.p (Pu.el ty_et52) ?_
 refine TL.p (Pu.ld ty_sc28) ?_
 refine TL.p Pu.mv ?_
 refine TL.cr rfl (enters Tryz.func22 rfl rfl) (fun w hw => by
   exact lw_has _ hlM1 (hS.out.nm k (by omega) _ (getD_memI hjn)) ((rMk k (by omega)).sat hw Apart.nil)) ?_
 refine TL.p Pu.no ?_
 refine TL.nil (TQ.thenN (hY72 _ _ ?_))
 refine TW.condF rfl (rfl) ?_
 refine TW.skip ?_
 refine TQ.blkN ?_
 refine TQ.thenN (hY70 _ _ ?_)
 refine TW.region ?_
 refine TL.p Pu.ad ?_
 refine TL.p Pu.mv ?_
 refine TL.nil ?_
 refine TQ.thenN (hZ3 (j + 1) _ _ ?_ ?_ fs9 ?_)
 exact (by omega)
 exact zom9
 exact ks9
 try simp only [zcb9] at hc7
 refine TW.exit ?_
 refine TQ.thenX ?_
 refine TQ.thenX ?_
 refine TQ.blkX ?_
 refine TQ.blkN ?_
 refine TQ.thenN (hY65 _ _ ?_)
 refine TW.region ?_
 refine TL.p Pu.ad ?_
 refine TL.p Pu.mv ?_
 refine TL.nil ?_
 refine TQ.thenN (hZ2 (k + 1) _ _ ?_ ?_ fs9 ?_)
 exact (by omega)
 exact zom9
 exact ks9
 try simp only [zcb9] at hc6
 refine TW.exit ?_
 refine TQ.thenX ?_
 refine TQ.thenX ?_
 refine TQ.blkX ?_
 exact TQ.thenN (hM32 () _ _ fs9 kt9)
 try simp only [zcb9] at hc5
 refine TW.skip ?_
 exact TQ.thenN (hM32 () _ _ fs9 kt9)
 refine TW.region ?_
 refine TL.p Pu.mv ?_
 refine TL.p Pu.mv ?_
 refine TL.p Pu.ne ?_
 refine TL.lit (t := 144) (b' := false) rfl ((by simp)) ?_
 refine TL.p Pu.mv ?_
 refine TL.gd Pu.mv ?_
 refine TL.gd Pu.eq ?_
 refine TL.gd Pu.mv ?_
 refine TL.guard (t := 148) rfl (fun hg2 => ?_) (fun hg2 => ?_)
 try simp only [zgb9] at hg2
 refine TL.gd Pu.mv ?_
 refine TL.gd Pu.ne ?_
 refine TL.lit (t := 150) (b' := false) rfl ((by have h9 := hS.out.hg (by assumption); rw [h9]; rfl)) ?_
 refine TL.gd Pu.kt ?_
 refine TL.p Pu.kf ?_
 refine TL.p Pu.mv ?_
 refine TL.gd Pu.mv ?_
 refine TL.gd Pu.eq ?_
 refine TL.gd Pu.mv ?_
 refine TL.guard (t := 156) rfl (fun hg3 => ?_) (fun hg3 => ?_)
 try simp only [zgb9] at hg3
 refine TL.gd Pu.mv ?_
 refine TL.gd (Pu.ln Tryz.underlying52) ?_
 refine TL.gd Pu.mv ?_
 refine TL.gd (Pu.ln Tryz.underlying37) ?_
 refine TL.gd Pu.ne ?_
 refine TL.lit (t := 161) (b' := false) rfl ((by have h9 := hS.out.gM (hS.out.hg (by assumption)); rw [h9]; simp)) ?_
 refine TL.gd Pu.mv ?_
 refine TL.gd Pu.mv ?_
 refine TL.gd (Pu.ln Tryz.underlying52) ?_
 refine TL.gd Pu.mv ?_
 refine TL.gd (Pu.ln Tryz.underlying37) ?_
 refine TL.gd Pu.ne ?_
 refine TL.lit (t := 167) (b' := false) rfl ((by have h9 := hS.out.hN (by assumption); rw [h9]; simp)) ?_
 refine TL.gd Pu.kf ?_
 refine TL.gd Pu.kt ?_
 refine TL.p Pu.kf ?_
 refine TL.nil ?_
 exact TQ.sub (by repeat (first | exact trivial | refine ⟨rfl, ?_⟩ | refine ⟨trivial, ?_⟩ | refine ⟨(by show some (Value.bool _) = some (Value.bool _); first | (simp [hg2, hg3]; done) | (refine congrArg (fun z => some (Value.bool z)) (Bool.eq_iff_iff.2 ?_); simp [hg2, hg3]; omega)), ?_⟩)) ks9 hJ2
 try simp only [zgb9] at hg3
 refine TL.gs ?_
 refine TL.gs ?_
 refine TL.gs ?_
 refine TL.gs ?_
 refine TL.gs ?_
 refine TL.gs ?_
 refine TL.gs ?_
 refine TL.gs ?_
 refine TL.gs ?_
 refine TL.gs ?_
 refine TL.gs ?_
 refine TL.gs ?_
 refine TL.gd Pu.kf ?_
 refine TL.p Pu.kf ?_
 refine TL.nil ?_
 exact TQ.sub (by repeat (first | exact trivial | refine ⟨rfl, ?_⟩ | refine ⟨trivial, ?_⟩ | refine ⟨(by show some (Value.bool _) = some (Value.bool _); first | (simp [hg2, hg3]; done) | (refine congrArg (fun z => some (Value.bool z)) (Bool.eq_iff_iff.2 ?_); simp [hg2, hg3]; omega)), ?_⟩)) ks9 hJ2
 try simp only [zgb9] at hg2
 refine TL.gs ?_
 refine TL.gs ?_
 refine TL.gd Pu.kf ?_
 refine TL.p Pu.kf ?_
 refine TL.p Pu.mv ?_
 refine TL.gd Pu.mv ?_
 refine TL.gd Pu.eq ?_
 refine TL.gd Pu.mv ?_
 refine TL.guard (t := 156) rfl (fun hg4 => ?_) (fun hg4 => ?_)
 try simp only [zgb9] at hg4
 refine TL.gd Pu.mv ?_
 refine TL.gd (Pu.ln Tryz.underlying52) ?_
 refine TL.gd Pu.mv ?_
 refine TL.gd (Pu.ln Tryz.underlying37) ?_
 refine TL.gd Pu.ne ?_
 refine TL.lit (t := 161) (b' := false) rfl ((by have h9 := hS.out.gM (hS.out.hg (by assumption)); rw [h9]; simp)) ?_
 refine TL.gd Pu.mv ?_
 refine TL.gd Pu.mv ?_
 refine TL.gd (Pu.ln Tryz.underlying52) ?_
 refine TL.gd Pu.mv ?_
 refine TL.gd (Pu.ln Tryz.underlying37) ?_
 refine TL.gd Pu.ne ?_
 refine TL.lit (t := 167) (b' := false) rfl ((by have h9 := hS.out.hN (by assumption); rw [h9]; simp)) ?_
 refine TL.gd Pu.kf ?_
 refine TL.gd Pu.kt ?_
 refine TL.p Pu.kf ?_
 refine TL.nil ?_
 exact TQ.sub (by repeat (first | exact trivial | refine ⟨rfl, ?_⟩ | refine ⟨trivial, ?_⟩ | refine ⟨(by show some (Value.bool _) = some (Value.bool _); first | (simp [hg2, hg4]; done) | (refine congrArg (fun z => some (Value.bool z)) (Bool.eq_iff_iff.2 ?_); simp [hg2, hg4]; omega)), ?_⟩)) ks9 hJ2
 try simp only [zgb9] at hg4
 refine TL.gs ?_
 refine TL.gs ?_
 refine TL.gs ?_
 refine TL.gs ?_
 refine TL.gs ?_
 refine TL.gs ?_
 refine TL.gs ?_
 refine TL.gs ?_
 refine TL.gs ?_
 refine TL.gs ?_
 refine TL.gs ?_
 refine TL.gs ?_
 refine TL.gd Pu.kf ?_
 refine TL.p Pu.kf ?_
 refine TL.nil ?_
 exact TQ.sub (by repeat (first | exact trivial | refine ⟨rfl, ?_⟩ | refine ⟨trivial, ?_⟩ | refine ⟨(by show some (Value.bool _) = some (Value.bool _); first | (simp [hg2, hg4]; done) | (refine congrArg (fun z => some (Value.bool z)) (Bool.eq_iff_iff.2 ?_); simp [hg2, hg4]; omega)), ?_⟩)) ks9 hJ2
 refine TW.region ?_
 refine TL.p Pu.mv ?_
 refine TL.cr rfl (enters Tryz.func13 rfl rfl) (fun w hw => by
   exact ready2_any (hR.sat hw Apart.nil) (fun i hi => (hM i hi).sat hw Apart.nil)) ?_
 refine TL.p Pu.no ?_
 refine TL.p Pu.mv ?_
 refine TL.guard (t := 46) rfl (fun hg5 => ?_) (fun hg5 => ?_)
 try simp only [zgb9] at hg5
 refine TL.gs ?_
 refine TL.gs ?_
 refine TL.gs ?_
 refine TL.gs ?_
 refine TL.p Pu.kt ?_
 refine TL.p Pu.mv ?_
 refine TL.gs ?_
 refine TL.gs ?_
 refine TL.gs ?_
 refine TL.p Pu.kt ?_
 refine TL.p Pu.mv ?_
 refine TL.gs ?_
 refine TL.gs ?_
 refine TL.p Pu.kt ?_
 refine TL.nil ?_
 exact TQ.sub (by repeat (first | exact trivial | refine ⟨rfl, ?_⟩ | refine ⟨trivial, ?_⟩ | refine ⟨(by show some (Value.bool _) = some (Value.bool _); first | (simp [hg5]; done) | (refine congrArg (fun z => some (Value.bool z)) (Bool.eq_iff_iff.2 ?_); simp [hg5]; omega)), ?_⟩)) ks9 hJ1
 try simp only [zgb9] at hg5
 refine TL.gd Pu.mv ?_
 refine TL.gd Pu.mv ?_
 refine TL.cr rfl (enters Tryz.func23 rfl rfl) (fun w hw => by
   exact fL _ (hLR.sat hw Apart.nil) (fun k hk => (hLs k hk).sat hw Apart.nil) (hCR.sat hw Apart.nil)) ?_
 refine TL.gd Pu.ne ?_
 refine TL.p Pu.kf ?_
 refine TL.p Pu.mv ?_
 refine TL.guard (t := 52) rfl (fun hg6 => ?_) (fun hg6 => ?_)
 try simp only [zgb9] at hg6
 refine TL.gs ?_
 refine TL.gs ?_
 refine TL.gs ?_
 refine TL.p Pu.kt ?_
 refine TL.p Pu.mv ?_
 refine TL.gs ?_
 refine TL.gs ?_
 refine TL.p Pu.kt ?_
 refine TL.nil ?_
 exact TQ.sub (by repeat (first | exact trivial | refine ⟨rfl, ?_⟩ | refine ⟨trivial, ?_⟩ | refine ⟨(by show some (Value.bool _) = some (Value.bool _); first | (simp [hg5, hg6]; done) | (refine congrArg (fun z => some (Value.bool z)) (Bool.eq_iff_iff.2 ?_); simp [hg5, hg6]; omega)), ?_⟩)) ks9 hJ1
 try simp only [zgb9] at hg6
 refine TL.gd Pu.mv ?_
 refine TL.gd (Pu.ln Tryz.underlying37) ?_
 refine TL.gd Pu.eq ?_
 refine TL.p Pu.kf ?_
 refine TL.p Pu.mv ?_
 refine TL.guard (t := 57) rfl (fun hg7 => ?_) (fun hg7 => ?_)
 try simp only [zgb9] at hg7
 refine TL.gs ?_
 refine TL.gs ?_
 refine TL.p Pu.kt ?_
 refine TL.nil ?_
 exact TQ.sub (by repeat (first | exact trivial | refine ⟨rfl, ?_⟩ | refine ⟨trivial, ?_⟩ | refine ⟨(by show some (Value.bool _) = some (Value.bool _); first | (simp [hg5, hg6, hg7]; done) | (refine congrArg (fun z => some (Value.bool z)) (Bool.eq_iff_iff.2 ?_); simp [hg5, hg6, hg7]; omega)), ?_⟩)) ks9 hJ1
 try simp only [zgb9] at hg7
 refine TL.gd Pu.mv ?_
 refine TL.gd Pu.no ?_
 refine TL.lit (t := 59) (b' := false) rfl (rfl) ?_
 refine TL.p Pu.kf ?_
 refine TL.nil ?_
 exact TQ.sub (by repeat (first | exact trivial | refine ⟨rfl, ?_⟩ | refine ⟨trivial, ?_⟩ | refine ⟨(by show some (Value.bool _) = some (Value.bool _); first | (simp [hg5, hg6, hg7]; done) | (refine congrArg (fun z => some (Value.bool z)) (Bool.eq_iff_iff.2 ?_); simp [hg5, hg6, hg7]; omega)), ?_⟩)) ks9 hJ1
end
end Go.Proofs.YtbenhafhklfhmaaGreat
namespace Go.Proofs.YtbenhafhklfhmaaGreat
set_option linter.all false
set_option linter.unusedVariables false
set_option linter.unusedSimpArgs false
open Go.ChangeShapes Go.WideShapes Go.RowKit Go.Deep
section
variable {H : Type} {enc : TypeId × Value → H} {P : Program} {w : World} {base : Nat} {spare : Nat → Bool} {held : Bool}
theorem trodAll_seven {t0 t1 t2 t3 t4 t5 t6 : TypeId} {args : Array Value} {ds : List (DataW H)} {ps : List MemPlace} (h : DataW.TrodAll enc P w base spare held [t0, t1, t2, t3, t4, t5, t6] args.toList ds ps) :
  ∃ v0 v1 v2 v3 v4 v5 v6 d0 d1 d2 d3 d4 d5 d6 p0 p1 p2 p3 p4 p5 p6, args = #[v0, v1, v2, v3, v4, v5, v6] ∧ ds = [d0, d1, d2, d3, d4, d5, d6] ∧ ps = p0 ++ (p1 ++ (p2 ++ (p3 ++ (p4 ++ (p5 ++ p6))))) ∧ DataW.Trod enc P w base spare held t0 v0 d0 p0 ∧ DataW.Trod enc P w base spare held t1 v1 d1 p1 ∧ DataW.Trod enc P w base spare held t2 v2 d2 p2 ∧ DataW.Trod enc P w base spare held t3 v3 d3 p3 ∧ DataW.Trod enc P w base spare held t4 v4 d4 p4 ∧ DataW.Trod enc P w base spare held t5 v5 d5 p5 ∧ DataW.Trod enc P w base spare held t6 v6 d6 p6 := by
 obtain ⟨v0, vs0, d0, ds0, p0, q0, hargs, rfl, rfl, h0, hr0⟩ := trodAll_cons h
 obtain ⟨v1, vs1, d1, ds1, p1, q1, rfl, rfl, rfl, h1, hr1⟩ := trodAll_cons hr0
 obtain ⟨v2, vs2, d2, ds2, p2, q2, rfl, rfl, rfl, h2, hr2⟩ := trodAll_cons hr1
 obtain ⟨v3, vs3, d3, ds3, p3, q3, rfl, rfl, rfl, h3, hr3⟩ := trodAll_cons hr2
 obtain ⟨v4, vs4, d4, ds4, p4, q4, rfl, rfl, rfl, h4, hr4⟩ := trodAll_cons hr3
 obtain ⟨v5, vs5, d5, ds5, p5, q5, rfl, rfl, rfl, h5, hr5⟩ := trodAll_cons hr4
 obtain ⟨v6, vs6, d6, ds6, p6, q6, rfl, rfl, rfl, h6, hr6⟩ := trodAll_cons hr5
 obtain ⟨rfl, rfl, rfl⟩ := trodAll_nil hr6
 exact ⟨v0, v1, v2, v3, v4, v5, v6, d0, d1, d2, d3, d4, d5, d6, p0, p1, p2, p3, p4, p5, p6, by cases args; simp_all, rfl, by simp, h0, h1, h2, h3, h4, h5, h6⟩
end
end Go.Proofs.YtbenhafhklfhmaaGreat
namespace Go.Proofs.YtbenhafhklfhmaaGreat
set_option linter.all false
set_option linter.unusedVariables false
set_option linter.unusedSimpArgs false
open Go.ChangeShapes Go.WideShapes Go.ChangeAt Go.RowKit Go.Deep
theorem Tryz.own : ownKnob Tryz.prog.godebug = none := by kernel_rfl
theorem Tryz.laidOut : laidOutB Tryz.prog = true := by kernel_rfl
set_option maxRecDepth 100000 in
theorem brandSharper_lifted (os : Os) (started : os.Started) (H : Type) (enc : TypeId × Value → H) :
    ReturnsInHanded {} Tryz.checked os 5 .any (Rows.brandSharperSpec.pre6 enc Tryz.prog Tryz.f5 Rows.brandSharperRow.domain false) (Rows.brandSharperSpec.post enc Tryz.prog Tryz.f5 false true false false) := by
  refine returnsInHanded_of_change (C := Tryz.checked) Tryz.own started (by kernel_rfl) Tryz.func5
    (ChangeSpec.witness6 (enc := enc) (C := Tryz.checked) false ⟨#[], #[.slice none 0 0, .slice none 0 0, .slice none 0 0, .int .u8 0, .slice none 0 0, .int .u32 0, .int .u32 0], []⟩ 8 (by kernel_rfl) (by kernel_rfl) (by kernel_rfl) (by kernel_rfl)) ?_
  intro W base args ds gs before hval0 hW hcnd _
  have hval : ∀ (j : Nat) t v, Tryz.f5.params[j]? = some t → args[j]? = some v → Value.okWide Tryz.prog W .any base t v := hval0
  have hW' := hW
  obtain ⟨p, q, hA0, hV, rfl, hfz, hnd⟩ := hW
  have hA : DataW.TrodAll enc Tryz.prog W 0 (fun _ => true) true Tryz.f5.params.toList args.toList ds p := hA0
  have hA1 := hA
  rw [Tryz.params5] at hA hval
  obtain ⟨v0, v1, v2, v3, v4, v5, v6, d0, d1, d2, d3, d4, d5, d6, p0, p1, p2, p3, p4, p5, p6, rfl, rfl, rfl, h0, h1, h2, h3, h4, h5, h6⟩ := trodAll_seven hA
  obtain ⟨rfl, rfl⟩ := trodVars_none hV
  obtain ⟨A, cp, Hh, a, c, rfl, hR, hM⟩ := open_herd (hval 0 22 v0 rfl rfl) h0
  obtain ⟨B, nl, cb, x, rfl, hLR, hLq, hcb⟩ := open_looksB (hval 1 37 v1 rfl rfl) h1
  obtain ⟨C, nc, cc, dm, yg, rfl, hCR⟩ := open_calves (hval 2 38 v2 rfl rfl) h2
  obtain ⟨o, rfl, ho⟩ := open_u8b Tryz.underlying5 (hval 3 5 v3 rfl rfl) h3
  obtain ⟨G, gn, gc, u, rfl, hGR, hu⟩ := open_u32sB (hval 4 24 v4 rfl rfl) h4
  obtain ⟨x5, rfl, hx5⟩ := open_u32b Tryz.underlying25 (hval 5 25 v5 rfl rfl) h5
  obtain ⟨x6, rfl, hx6⟩ := open_u32b Tryz.underlying25 (hval 6 25 v6 rfl rfl) h6
  clear hA0 hval0
  simp only [List.append_nil] at hW'
  refine (lawSharp_any (L := fun k => (x k).l) (la := fun k => (x k).A) (lc := fun k => (x k).c) hcb o ho hu hx5 hx6 hR hM hLR (fun k hk => (hLq k hk).1) (fun k hk => (hLq k hk).2) hCR hGR).mono ?_
  rintro e W' ⟨rfl, hb⟩
  exact ⟨_, rfl, law_post Tryz.laidOut rfl hW' hA1 (by kernel_rfl) (by kernel_rfl) Tryz.underlying4 rfl hb⟩
theorem brandSharper_holds : Rows.BrandSharperSaid :=
  OpenClaim.holds_of_wide 5 Tryz.f5 rfl rfl rfl rfl rfl rfl rfl ⟨rfl, rfl, rfl, rfl, rfl⟩ rfl rfl rfl rfl rfl (by kernel_rfl) Tryz.func5 (by kernel_rfl)
    (of_decide_eq_true (by kernel_rfl)) (by unfold Func.isWrapper; first | (rw [if_pos (by decide +kernel)]; kernel_rfl) | (rw [if_neg (by decide +kernel)]; exact ⟨rfl, rfl⟩))
    (fun os started H enc _ => brandSharper_lifted os started H enc)
end Go.Proofs.YtbenhafhklfhmaaGreat
