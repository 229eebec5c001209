/-
  The statement BrandToldSaid: for every input the law BrandTold returns true, and its arguments read afterwards as before. No condition.
-/
import Derived.Test.YtbenhafhklfhmaaGreatAl01
import Derived.Test.YtbenhafhklfhmaaGreatAl02
import Derived.Test.YtbenhafhklfhmaaGreatAl03
import Derived.Test.YtbenhafhklfhmaaGreatAl04
import Derived.Test.YtbenhafhklfhmaaGreatAl05
import Derived.Test.YtbenhafhklfhmaaGreatAl06
import Derived.Test.YtbenhafhklfhmaaGreatAl07
import Derived.Test.YtbenhafhklfhmaaGreatAl08
import Derived.Test.YtbenhafhklfhmaaGreatAl09
import Derived.Test.YtbenhafhklfhmaaGreatAl10
import Derived.Test.YtbenhafhklfhmaaGreatAl11
import Derived.Test.YtbenhafhklfhmaaGreatRows
import Derived.WalkKit
import Derived.WalkSpells
import Derived.WalkLawsBesides
import Derived.Deep.QuietTactic
import Derived.BigQuiet
import Derived.OrdersHeld
import Derived.Maps.AppendAt
import Derived.OwnWalk
import Derived.Lib.SliceRun
import Derived.RangeFuncNested
import Derived.RangeFuncBound
import Derived.RangeFuncCalls
import Derived.RangeFuncLeaves
import Derived.OwnWalkIn
import Derived.TacticsInMore
import Derived.LoopNIn
import Derived.LoopIn
import Derived.OrdersIn
import Derived.Deep.LoopGhost
import Derived.MapKept
import Derived.Carry
import Derived.Lib.AppendZerosOnto
import Derived.Laws.OwnMore
import Derived.Sort.Grow
import Derived.Shelf.Small.Bits
import Derived.Shelf.Strconv.Itoa0
import Derived.Ground.SlsfProg
import Derived.Shelf.SlSortCmp.Insertion
import Derived.Ground.SlgmProg
import Derived.Shelf.SortM.Plain
import Derived.Shelf.SortM.SortNone
import Derived.Shelf.SlSortCmp.SiftDown1
import Derived.Shelf.SlSortCmp.HeapSort1
import Derived.Shelf.SlSortCmp.Insertion1
import Derived.Shelf.SlSortCmp.Median1
import Derived.Shelf.SlSortCmp.Pivot1
import Derived.Shelf.SlSortCmp.ReverseRange1
import Derived.Shelf.SlSortCmp.PartialInsertion1
import Derived.Shelf.SlSortCmp.PartitionEqual1
import Derived.Shelf.SlSortCmp.Partition1
import Derived.Shelf.SlSortCmp.Pdq1
import Derived.Shelf.SlSortCmp.Whole1
import Derived.Shelf.SlSortCmp.NoneTotal
import Derived.Test.YtbenhafhklfhmaaGreatProg
import Derived.IntWalk
import Derived.Deep.RegionHeld3
import Derived.BigRegion
import Derived.Deep.DeepMust
import Derived.ProofKit
import Derived.Deep.Slices
import Derived.ChangeKeysEq
import Derived.OpenShut
namespace Go.Proofs.YtbenhafhklfhmaaGreat
set_option linter.all false
set_option linter.unusedVariables false
set_option linter.unusedSimpArgs false
open Go.RowKit
def ltL : List Int → List Int → Bool
 | a :: l, b :: m => if a = b then ltL l m else decide (a < b)
 | _, _ => false
theorem cmp_lt : ∀ {l m : List Int}, l.length = m.length → (0 ≤ cmpI l m ↔ ltL l m = false)
  | [], [], _ => by simp [cmpI, ltL]
  | [], _ :: _, h => by simp at h
  | _ :: _, [], h => by simp at h
  | a :: l, b :: m, h => by
    simp only [cmpI, ltL]
    by_cases e : a = b
    · subst e
      rw [if_pos rfl, if_pos (show cmpV a a = 0 by unfold cmpV; simp)]
      exact cmp_lt (by simpa using h)
    · rw [if_neg e, decide_eq_false_iff_not]
      by_cases e1 : a < b
      · have : cmpV a b = -1 := if_pos e1
        rw [this, if_neg (by decide)]
        omega
      · have : cmpV a b = 1 := by unfold cmpV; rw [if_neg e1, if_pos (by omega)]
        rw [this, if_neg (by decide)]
        omega
end Go.Proofs.YtbenhafhklfhmaaGreat
namespace Go.Proofs.YtbenhafhklfhmaaGreat
set_option linter.all false
set_option linter.unusedVariables false
set_option linter.unusedSimpArgs false
theorem ltL_self : ∀ {l : List Int}, ltL l l = false
 | [] => rfl
 | a :: l => by simp only [ltL, if_pos]; exact ltL_self
end Go.Proofs.YtbenhafhklfhmaaGreat
namespace Go.Proofs.YtbenhafhklfhmaaGreat
set_option linter.all false
set_option linter.unusedVariables false
set_option linter.unusedSimpArgs false
open Go.RowKit
theorem sgK_first {H : Hd} {i s : Nat} : ∀ k, (∀ j, j < k → markB H i j = true) → sgK H i k s = if fst1 (fun q => decide (H.sp i q = (s : Int))) k < k then H.sg i (fst1 (fun q => decide (H.sp i q = (s : Int))) k) else 0
  | 0, _ => rfl
  | k + 1, h => by
    have ih := sgK_first (H := H) (i := i) (s := s) k fun j hj => h j (by omega)
    have hk := h k (by omega)
    unfold markB at hk
    simp only [Bool.and_eq_true, allB_iff, Bool.not_eq_true', decide_eq_false_iff_not, inB5, decide_eq_true_eq] at hk
    obtain ⟨⟨h7, h20⟩, hd⟩ := hk
    simp only [sgK, fst1]
    by_cases e : s = (H.sp i k).toNat
    · have e2 : H.sp i k = (s : Int) := by omega
      rw [if_pos e]
      have hl : ¬ fst1 (fun q => decide (H.sp i q = (s : Int))) k < k := fun hl => by
        have := fst1_yes hl
        simp only [decide_eq_true_eq] at this
        exact hd _ hl (by omega)
      rw [if_neg hl, if_pos (decide_eq_true e2), if_pos (by omega)]
    · have e2 : ¬ H.sp i k = (s : Int) := by omega
      rw [if_neg e, ih]
      by_cases hl : fst1 (fun q => decide (H.sp i q = (s : Int))) k < k
      · rw [if_pos hl, if_pos hl, if_pos (by omega)]
      · rw [if_neg hl, if_neg hl, if_neg (show ¬ decide (H.sp i k = (s : Int)) = true by simpa using e2), if_neg (by omega)]
theorem sgn_eq {H : Hd} (hk : HOk H) {i s : Nat} (hi : i < H.n) : sgnK H i s = sgH H i s := (sgK_first _ fun j hj => allB_iff.1 (hk.mks i hi) j hj).symm
end Go.Proofs.YtbenhafhklfhmaaGreat
namespace Go.Proofs.YtbenhafhklfhmaaGreat
set_option linter.all false
set_option linter.unusedVariables false
set_option linter.unusedSimpArgs false
theorem Pu.iv {c : Cx} {F : Fr} {K : List Fact} {o : Oper} {a b : Int} {k : IntKind} (h : Pu c F K o (.int k a)) (e : a = b) : Pu c F K o (.int k b) := e ▸ h
end Go.Proofs.YtbenhafhklfhmaaGreat
namespace Go.Proofs.YtbenhafhklfhmaaGreat
set_option linter.all false
set_option linter.unusedVariables false
set_option linter.unusedSimpArgs false
section
variable {H : Hd}
end
section
variable {H : Hd} {L L' : Nat → Lk} {nl nc : Nat} {dm yg : Nat → Int}
end
section
variable {N : Nat → List Int}
end
section
theorem ltL_trans : ∀ {a b c : List Int}, a.length = b.length → b.length = c.length → ltL a b = true → ltL b c = true → ltL a c = true
 | [], _, _, _, _, h, _ => by cases h
 | _ :: _, [], _, h1, _, _, _ => by simp at h1
 | _ :: _, _ :: _, [], _, h2, _, _ => by simp at h2
 | x :: a, y :: b, z :: c, h1, h2, h3, h4 => by
  simp only [ltL] at h3 h4 ⊢
  by_cases e1 : x = y
  · subst e1
    rw [if_pos rfl] at h3
    by_cases e2 : x = z
    · subst e2
      rw [if_pos rfl] at h4 ⊢
      exact ltL_trans (by simpa using h1) (by simpa using h2) h3 h4
    · rw [if_neg e2] at h4 ⊢; exact h4
  · rw [if_neg e1, decide_eq_true_eq] at h3
    by_cases e2 : y = z
    · subst e2
      rw [if_neg e1]; exact decide_eq_true h3
    · rw [if_neg e2, decide_eq_true_eq] at h4
      rw [if_neg (by omega)]; exact decide_eq_true (by omega)
theorem tel_best {H : Hd} {at_ : Nat} : ∀ k, ((telK H at_ k).2 = 9 ∧ ∀ s, s < k → toldB H at_ s = false) ∨ ((telK H at_ k).2 = (telK H at_ k).1.length ∧ (∃ s, s < k ∧ toldB H at_ s = true ∧ (telK H at_ k).1 = spK s 8) ∧ ∀ s, s < k → toldB H at_ s = true → (telK H at_ k).1.length < (spK s 8).length ∨ (telK H at_ k).1.length = (spK s 8).length ∧ ltL (spK s 8) (telK H at_ k).1 = false)
  | 0 => .inl ⟨rfl, fun s h => absurd h (Nat.not_lt_zero s)⟩
  | k + 1 => by
    have h8 := spK_len (s := k) 8
    simp only [telK]
    cases ht : toldB H at_ k with
    | false =>
      rw [Bool.and_false, if_neg (by decide)]
      rcases tel_best (H := H) (at_ := at_) k with ⟨h1, h2⟩ | ⟨h1, ⟨s, h2, h3, h4⟩, h5⟩
      · refine .inl ⟨h1, fun s hs => ?_⟩
        by_cases e : s = k
        · subst e; exact ht
        · exact h2 s (by omega)
      · refine .inr ⟨h1, ⟨s, by omega, h3, h4⟩, fun q hq hq2 => ?_⟩
        by_cases e : q = k
        · subst e; rw [ht] at hq2; cases hq2
        · exact h5 q (by omega) hq2
    | true =>
      rw [Bool.and_true]
      rcases tel_best (H := H) (at_ := at_) k with ⟨h1, h2⟩ | ⟨h1, ⟨s, h2, h3, h4⟩, h5⟩
      · rw [h1, decide_eq_true (show (spK k 8).length ≤ 9 by omega), decide_eq_true (show (spK k 8).length < 9 by omega), Bool.true_or, Bool.true_and, if_pos rfl]
        refine .inr ⟨rfl, ⟨k, by omega, ht, rfl⟩, fun q hq hq2 => ?_⟩
        by_cases e : q = k
        · subst e; exact .inr ⟨rfl, ltL_self⟩
        · have := h2 q (by omega); rw [this] at hq2; cases hq2
      · rw [h1]
        by_cases c : (decide ((spK k 8).length ≤ (telK H at_ k).1.length) && (decide ((spK k 8).length < (telK H at_ k).1.length) || decide (cmpI (spK k 8) (telK H at_ k).1 < 0))) = true
        · rw [if_pos c]
          simp only [Bool.and_eq_true, Bool.or_eq_true, decide_eq_true_eq] at c
          refine .inr ⟨rfl, ⟨k, by omega, ht, rfl⟩, fun q hq hq2 => ?_⟩
          dsimp only
          by_cases e : q = k
          · subst e; exact .inr ⟨rfl, ltL_self⟩
          · rcases h5 q (by omega) hq2 with h6 | ⟨h6, h7⟩
            · exact .inl (by omega)
            · rcases Nat.lt_or_ge (spK k 8).length (telK H at_ k).1.length with c2 | c2
              · exact .inl (by omega)
              · have el : (spK k 8).length = (telK H at_ k).1.length := by omega
                have c3 : cmpI (spK k 8) (telK H at_ k).1 < 0 := by
                  rcases c.2 with c3 | c3
                  · omega
                  · exact c3
                have hlt : ltL (spK k 8) (telK H at_ k).1 = true := by
                  cases hq9 : ltL (spK k 8) (telK H at_ k).1 with
                  | true => rfl
                  | false => have := (cmp_lt el).2 hq9; omega
                refine .inr ⟨by omega, ?_⟩
                cases hq9 : ltL (spK q 8) (spK k 8) with
                | false => rfl
                | true =>
                  have := ltL_trans (by omega) el hq9 hlt
                  rw [h7] at this; cases this
        · rw [if_neg c]
          simp only [Bool.and_eq_true, Bool.or_eq_true, decide_eq_true_eq] at c
          refine .inr ⟨h1, ⟨s, by omega, h3, h4⟩, fun q hq hq2 => ?_⟩
          by_cases e : q = k
          · subst e
            rcases Nat.lt_or_ge (telK H at_ q).1.length (spK q 8).length with c2 | c2
            · exact .inl c2
            · have el : (spK q 8).length = (telK H at_ q).1.length := by
                by_cases c4 : (spK q 8).length < (telK H at_ q).1.length
                · exact absurd ⟨by omega, .inl c4⟩ c
                · omega
              refine .inr ⟨el.symm, ?_⟩
              refine (cmp_lt el).1 ?_
              by_cases c4 : cmpI (spK q 8) (telK H at_ q).1 < 0
              · exact absurd ⟨by omega, .inr c4⟩ c
              · omega
          · exact h5 q (by omega) hq2
end
end Go.Proofs.YtbenhafhklfhmaaGreat
namespace Go.Proofs.YtbenhafhklfhmaaGreat
set_option linter.all false
set_option linter.unusedVariables false
set_option linter.unusedSimpArgs false
open Go.RowKit
section
variable {w : World} {A : Option Addr} {cp : Nat} {H : Hd} {a : Nat → Option Addr} {c : Nat → Nat}
theorem rdy_in {H : Hd} (h : rdyH H = true) : HOk H ∧ H.n ≤ 1000 ∧ ∀ i, i < H.n → H.ml i ≤ 1000 := by
 unfold rdyH at h
 rw [Bool.and_eq_true, Bool.not_eq_true'] at h
 obtain ⟨h20, h12⟩ := great_in h.1
 exact ⟨herdB_ok.1 h.2, by omega, fun i hi => by have := h12 i hi; omega⟩
end
end Go.Proofs.YtbenhafhklfhmaaGreat
namespace Go.Proofs.YtbenhafhklfhmaaGreat
set_option linter.all false
set_option linter.unusedVariables false
set_option linter.unusedSimpArgs false
section
variable {H : Hd} {at_ i s k : Nat} {v : Int} {L : List Int}
theorem mem_spK : ∀ {k}, v ∈ spK s k ↔ ∃ j, j < k ∧ s / 2 ^ j % 2 = 1 ∧ v = (j : Int)
 | 0 => by simp [spK]
 | k + 1 => by
  have ih := mem_spK (k := k)
  simp only [spK]
  split
  · rename_i h1
    rw [List.mem_append, ih, List.mem_singleton]
    constructor
    · rintro (⟨j, h2, h3, h4⟩ | rfl)
      · exact ⟨j, by omega, h3, h4⟩
      · exact ⟨k, by omega, h1, rfl⟩
    · rintro ⟨j, h2, h3, h4⟩
      by_cases e : j = k
      · subst e; exact .inr h4
      · exact .inl ⟨j, by omega, h3, h4⟩
  · rename_i h1
    rw [ih]
    constructor
    · rintro ⟨j, h2, h3, h4⟩; exact ⟨j, by omega, h3, h4⟩
    · rintro ⟨j, h2, h3, h4⟩
      refine ⟨j, ?_, h3, h4⟩
      by_cases e : j = k
      · subst e; exact absurd h3 h1
      · omega
theorem spK_asc : ∀ k, (spK s k).Pairwise (· < ·)
 | 0 => List.Pairwise.nil
 | k + 1 => by
  simp only [spK]
  split
  · refine List.pairwise_append.2 ⟨spK_asc k, List.pairwise_singleton .., fun a ha b hb => ?_⟩
    obtain ⟨j, h1, _, rfl⟩ := mem_spK.1 ha
    rw [List.mem_singleton] at hb
    subst hb; omega
  · exact spK_asc k
def eqT (H : Hd) (at_ i : Nat) (L : List Int) : Nat → Bool
 | 0 => true
 | q + 1 => eqT H at_ i L q && decide (sgH H i (L.getD q 0).toNat = sgH H at_ (L.getD q 0).toNat)
theorem eqT_all : ∀ q, eqT H at_ i L q = true ↔ ∀ j, j < q → sgH H i (L.getD j 0).toNat = sgH H at_ (L.getD j 0).toNat
 | 0 => by simp [eqT]
 | q + 1 => by
  simp only [eqT, Bool.and_eq_true, decide_eq_true_eq, eqT_all q]
  constructor
  · rintro ⟨h1, h2⟩ j hj
    by_cases e : j = q
    · subst e; exact h2
    · exact h1 j (by omega)
  · intro h
    exact ⟨fun j hj => h j (by omega), h q (by omega)⟩
theorem eqT_mem : eqT H at_ i L L.length = true ↔ ∀ v ∈ L, sgH H i v.toNat = sgH H at_ v.toNat := by
 rw [eqT_all]
 constructor
 · intro h v hv
   obtain ⟨k, hk, rfl⟩ := mem_int_getD.1 hv
   exact h k hk
 · intro h j hj
   exact h _ (mem_int_getD.2 ⟨j, hj, rfl⟩)
theorem eqT_sm : eqT H at_ i (spK s 8) (spK s 8).length = smB H at_ i s := by
 rw [Bool.eq_iff_iff, eqT_mem]
 unfold smB
 rw [allB_iff]
 simp only [Bool.or_eq_true, Bool.not_eq_true', decide_eq_false_iff_not, decide_eq_true_eq]
 constructor
 · intro h k hk
   by_cases e : s / 2 ^ k % 2 = 1
   · have := h k (mem_spK.2 ⟨k, hk, e, rfl⟩)
     rw [Int.toNat_natCast] at this
     exact .inr this
   · exact .inl e
 · intro h v hv
   obtain ⟨j, h1, h2, rfl⟩ := mem_spK.1 hv
   rw [Int.toNat_natCast]
   exact (h j h1).resolve_left (fun h9 => h9 h2)
def tapB (H : Hd) (at_ : Nat) (L : List Int) : Bool := allB H.n fun k => decide (k = at_) || !eqT H at_ k L L.length
theorem tapB_told : tapB H at_ (spK s 8) = toldB H at_ s := by
 unfold tapB toldB
 simp only [eqT_sm]
theorem asc_at : ∀ {L : List Int} {k : Nat}, L.Pairwise (· < ·) → 0 < k → k < L.length → L.getD (k - 1) 0 < L.getD k 0
 | [], _, _, _, hk => absurd hk (Nat.not_lt_zero _)
 | [_], k, _, h0, hk => by simp at hk; omega
 | x :: y :: L, k + 1, h, _, hk => by
  obtain ⟨h1, h2⟩ := List.pairwise_cons.1 h
  cases k with
  | zero => simpa using h1 y (by simp)
  | succ k =>
   have := asc_at h2 (k := k + 1) (by omega) (by simpa using hk)
   simpa using this
theorem ltL_first : ∀ {a b : List Int} {k : Nat}, a.length = b.length → k < a.length → (∀ j, j < k → a.getD j 0 = b.getD j 0) → a.getD k 0 ≠ b.getD k 0 → ltL b a = false → a.getD k 0 < b.getD k 0
 | [], _, _, _, hk, _, _, _ => absurd hk (Nat.not_lt_zero _)
 | _ :: _, [], _, hl, _, _, _, _ => by simp at hl
 | x :: a, y :: b, 0, hl, hk, hj, hn, h => by
  simp only [List.getD_cons_zero] at hn ⊢
  simp only [ltL] at h
  rw [if_neg (fun e => hn e.symm), decide_eq_false_iff_not] at h
  omega
 | x :: a, y :: b, k + 1, hl, hk, hj, hn, h => by
  have h0 := hj 0 (by omega)
  simp only [List.getD_cons_zero] at h0
  subst h0
  simp only [List.getD_cons_succ] at hn ⊢
  have h : ltL b a = false := by simpa [ltL] using h
  exact ltL_first (by simpa using hl) (by simpa using hk) (fun j hj2 => by simpa using hj (j + 1) (by omega)) hn h
theorem tel_law {id : Int} (h : telC H id = 0) : ∃ q, q < 256 ∧ telL H id = spK q 8 ∧ toldB H (atH H id).toNat q = true ∧ ∀ s, s < 256 → toldB H (atH H id).toNat s = true → (telL H id).length < (spK s 8).length ∨ (telL H id).length = (spK s 8).length ∧ ltL (spK s 8) (telL H id) = false := by
  have ht : toldB H (atH H id).toNat 255 = true := by
    unfold telC at h
    split at h
    · split at h
      · split at h
        · assumption
        · cases h
      · cases h
    · cases h
  unfold telL
  rw [if_pos h]
  rcases tel_best (H := H) (at_ := (atH H id).toNat) 256 with ⟨_, h2⟩ | ⟨_, ⟨s, h2, h3, h4⟩, h5⟩
  · have := h2 255 (by omega)
    rw [ht] at this; cases this
  · exact ⟨s, h2, h4, h3, h5⟩
theorem tel_none {id : Int} (hk : HOk H) (hi : 0 ≤ atH H id) (h : telC H id ≠ 0) : telC H id = 6 ∧ toldB H (atH H id).toNat 255 = false := by
 unfold telC at h ⊢
 rw [herdB_ok.2 hk, if_pos rfl, if_pos hi] at h ⊢
 cases ht : toldB H (atH H id).toNat 255 with
 | true => rw [ht] at h; exact absurd rfl h
 | false => exact ⟨rfl, rfl⟩
theorem telLen {id : Int} : (telL H id).length ≤ 8 := by
 unfold telL
 split
 · exact (telK_len 256).1
 · exact Nat.zero_le _
theorem spK_255 : spK 255 8 = [0, 1, 2, 3, 4, 5, 6, 7] := by decide +kernel
end
end Go.Proofs.YtbenhafhklfhmaaGreat
namespace Go.Proofs.YtbenhafhklfhmaaGreat
set_option linter.all false
set_option linter.unusedVariables false
set_option linter.unusedSimpArgs false
open Go.RowKit
section
variable {c : Cx} {F : Fr} {K : List Fact} {d : Option Tmp} {ty xt yt : TypeId} {pos : String} {af : Array Edge} {g : Option (Nat × Bool)} {x y : Operand}
theorem Pu.srU {b i : Nat} (hx : ev F x = some (.int .u8 (b : Int)) := by rfl) (hy : ev F y = some (.int .i64 (i : Int)) := by rfl) (hj : i ≤ 8 := by omega) : Pu c F K ⟨d, .binOp .shr xt x y yt, ty, pos, af, g⟩ (.int .u8 ((b / 2 ^ i : Nat) : Int)) := Pu.bin hx hy fun w => by
 have h9 : Min.min i 8 = i := Nat.min_eq_left hj
 go_simp
theorem bits_and8 {m : Nat} (hm : m ≤ 255) : bits .and .u8 (m : Int) 1 = ((m % 2 : Nat) : Int) := by
 have h1 : (BitVec.ofInt 8 (m : Int) &&& BitVec.ofInt 8 1).toNat = m % 2 := by
  rw [BitVec.toNat_and, BitVec.toNat_ofInt, BitVec.toNat_ofInt]
  have e1 : ((m : Int) % (2 ^ 8 : Nat)).toNat = m := by omega
  have e2 : ((1 : Int) % (2 ^ 8 : Nat)).toNat = 1 := by decide
  rw [e1, e2, Nat.and_one_is_mod]
 have h2 : bits .and .u8 (m : Int) 1 = IntKind.u8.wrap ((BitVec.ofInt 8 (m : Int) &&& BitVec.ofInt 8 1).toNat : Int) := rfl
 rw [h2, h1]
 have h3 : m % 2 = 0 ∨ m % 2 = 1 := by omega
 rcases h3 with e | e <;> rw [e] <;> rfl
theorem Pu.anU {m : Nat} (hx : ev F x = some (.int .u8 (m : Int)) := by rfl) (hy : ev F y = some (.int .u8 1) := by rfl) (hm : m ≤ 255 := by omega) : Pu c F K ⟨d, .binOp .and xt x y yt, ty, pos, af, g⟩ (.int .u8 ((m % 2 : Nat) : Int)) := Pu.bin hx hy fun w => by
 have h := bits_and8 hm
 go_simp
end
end Go.Proofs.YtbenhafhklfhmaaGreat
namespace Go.Proofs.YtbenhafhklfhmaaGreat
set_option linter.all false
set_option linter.unusedVariables false
set_option linter.unusedSimpArgs false
open Go.RowKit
structure TellS (H : Hd) (i : Nat) (T : List Int) (e : Int) : Prop where
 len : T.length ≤ 8
 ye : e = 0 → ∃ s, T = spK s 8 ∧ tapB H i T = true ∧ ∀ s, s < 256 → tapB H i (spK s 8) = true → T.length < (spK s 8).length ∨ T.length = (spK s 8).length ∧ ltL (spK s 8) T = false
 no : e ≠ 0 → e = 6 ∧ tapB H i [0, 1, 2, 3, 4, 5, 6, 7] = false
section
variable {w : World} {A : Option Addr} {cp : Nat} {H : Hd} {a : Nat → Option Addr} {c : Nat → Nat} {i : Nat}
theorem tell_say (hk : HOk H) (hi : i < H.n) : ∃ (T : List Int) (e : Int), TellS H i T e ∧ telC H (H.id i) = e ∧ telL H (H.id i) = T := by
  have h0 := hk.at_ i hi
  refine ⟨_, _, ⟨telLen, fun he => ?_, fun he => ?_⟩, rfl, rfl⟩
  · obtain ⟨q, h1, h2, h3, h4⟩ := tel_law he
    rw [h0, Int.toNat_natCast] at h3 h4
    refine ⟨q, h2, by rw [h2, tapB_told]; exact h3, fun s hs ht => h4 s hs (by rwa [tapB_told] at ht)⟩
  · obtain ⟨h1, h2⟩ := tel_none hk (by omega) he
    rw [h0, Int.toNat_natCast] at h2
    exact ⟨h1, by rw [← spK_255, tapB_told]; exact h2⟩
theorem lw_tell {T : List Int} {e : Int} (i : Nat) (h1 : telC H (H.id i) = e) (h2 : telL H (H.id i) = T) (h : HIn w A H a c) : CallsK Tryz.prog 28 #[.slice A H.n cp, .int .i64 (H.id i)] [] w (Option Addr × Nat) (fun y => .tuple #[.slice y.1 T.length y.2, .int .i64 e]) (fun y => [.own y.1 T.length y.2 3 1 (iL T)]) := by
 have h9 := bTell_any (cp := cp) (id := H.id i) h
 rw [h1, h2] at h9
 exact h9
theorem lw_sign {k : Nat} {v : Int} (hk : HOk H) (hkn : k < H.n) (h : HIn w A H a c) (hv : 0 ≤ v) : Calls Tryz.prog 16 #[.agg (anL H a c k).toArray, .int .i64 v] w (Ret w (.int .i64 (sgH H k v.toNat))) := by
 have h9 := rSign_any (a := a) (c := c) (s := v.toNat) (h.hl k hkn) (h.hM k hkn)
 rw [sgn_eq hk hkn, Int.toNat_of_nonneg hv] at h9
 exact h9
set_option maxRecDepth 100000 in
set_option maxHeartbeats 4000000 in
theorem apart_any {B : Option Addr} {cb bh bi : Nat} {L : List Int} (hk : HOk H) (hI : HIn w A H a c) (hi : i < H.n) (ob : OldB w bh [.slice A H.n cp]) (oi : OldB w bi [.int .i64 (i : Int)]) (hl : L.length ≤ 1000) (hL : ∀ v, v ∈ L → 0 ≤ v) (hB : RdR w 1 B L.length (iL L)) :
  Calls Tryz.prog 27 #[.slice B L.length cb, .pointer (some ⟨bh, 0, none⟩), .pointer (some ⟨bi, 0, none⟩)] w (Ret w (.bool (tapB H i L))) := by
 have hR := hI.hR
 have hn1 := hI.hn
 have fS := fun (k : Nat) (v : Int) (hkn : k < H.n) (hv : 0 ≤ v) (w' : World) (h : HIn w' A H a c) => lw_sign (k := k) (v := v) hk hkn h hv
 unfold anL at fS hR
 refine K_enter (S := []) (K := []) Tryz.func27 rfl Tryz.ntmps27 rfl (Sat.start _) ?_
 refine TW.seq fun Y1 hY1 => TW.region ?_
 refine TL.p Pu.as ?_
 refine TL.nil (TQ.thenN (hY1 _ _ ?_))
 refine TW.seq fun Y2 hY2 => ?_
 refine TW.seq fun Y3 hY3 => TW.region ?_
 refine TL.p (by first | exact (Pu.ld ty_sc22) | exact (Pu.ldo ty_sc22)) ?_
 refine TL.p (Pu.ln Tryz.underlying22) ?_
 refine TL.p Pu.mv ?_
 refine TL.nil (TQ.thenN (hY3 _ _ ?_))
 refine TW.block ?_
 refine TW.loop1 (fun (k : Nat) => [(11, .int .i64 (k : Int)), (10, .int .i64 (H.n : Int)), (0, .slice B L.length cb), (1, .pointer (some ⟨bh, 0, none⟩)), (2, .pointer (some ⟨bi, 0, none⟩))]) (fun k => []) (fun k => k ≤ H.n ∧ ∀ j, j < k → (decide (j = i) || !eqT H i j L L.length) = true) (fun k => H.n - k) 0 fs9 ?_ ?_ ?_
 exact ks9
 exact ⟨Nat.zero_le _, fun j hj => by omega⟩
 rintro k ⟨hkn, hall⟩ Z0 hZ0
 refine TW.seq fun Y4 hY4 => TW.region ?_
 refine TL.p Pu.lt ?_
 refine TL.nil (TQ.thenN (hY4 _ _ ?_))
 refine TW.seq fun Y5 hY5 => ?_
 refine TW.cond rfl (fun hc0 => ?_) (fun hc0 => ?_)
 try simp only [zcb9] at hc0
 have hkl : k < H.n := by omega
 refine TW.skip ?_
 refine TQ.thenN (hY5 _ _ ?_)
 refine TW.seq fun Y6 hY6 => ?_
 refine TW.block ?_
 refine TW.seq fun Y7 hY7 => TW.region ?_
 refine TL.p Pu.mv ?_
 refine TL.p Pu.as ?_
 refine TL.nil (TQ.thenN (hY7 _ _ ?_))
 refine TW.seq fun Y8 hY8 => TW.region ?_
 refine TL.p Pu.mv ?_
 refine TL.p (by first | exact (Pu.ld ty_sc3) | exact (Pu.ldo ty_sc3)) ?_
 refine TL.p Pu.ne ?_
 refine TL.p Pu.as ?_
 refine TL.nil (TQ.thenN (hY8 _ _ ?_))
 refine TW.seq fun Y9 hY9 => ?_
 refine TW.seq fun Y10 hY10 => TW.region ?_
 refine TL.p Pu.mv ?_
 refine TL.p (Pu.ln Tryz.underlying28) ?_
 refine TL.p Pu.mv ?_
 refine TL.nil (TQ.thenN (hY10 _ _ ?_))
 refine TW.block ?_
 refine TW.loop2 (fun (q : Nat) (bb : Bool) => [(19, .int .i64 (q : Int)), (18, .int .i64 (L.length : Int)), (17, .slice B L.length cb), (6, .bool bb), (5, .int .i64 (k : Int)), (11, .int .i64 (k : Int)), (10, .int .i64 (H.n : Int)), (0, .slice B L.length cb), (1, .pointer (some ⟨bh, 0, none⟩)), (2, .pointer (some ⟨bi, 0, none⟩))]) (fun q bb => []) (fun q bb => q ≤ L.length ∧ bb = (!decide ((k : Int) = (i : Int)) && eqT H i k L q)) (fun q bb => L.length - q) 0 _ fs9 ?_ ?_ ?_
 exact ks9
 exact ⟨Nat.zero_le _, by simp [eqT]⟩
 rintro q bb ⟨hq, hbb⟩ Z1 hZ1
 refine TW.seq fun Y11 hY11 => TW.region ?_
 refine TL.p Pu.lt ?_
 refine TL.nil (TQ.thenN (hY11 _ _ ?_))
 refine TW.seq fun Y12 hY12 => ?_
 refine TW.cond rfl (fun hc1 => ?_) (fun hc1 => ?_)
 try simp only [zcb9] at hc1
 have hql : q < L.length := by omega
 have hv0 : 0 ≤ L.getD q 0 := hL _ (mem_int_getD.2 ⟨q, hql, rfl⟩)
 refine TW.skip ?_
 refine TQ.thenN (hY12 _ _ ?_)
 refine TW.seq fun Y13 hY13 => ?_
 refine TW.block ?_
 refine TW.seq fun Y14 hY14 => TW.region ?_
 refine TL.p (Pu.el ty_et28) ?_
 refine TL.p (by first | exact (Pu.ld ty_sc3) | exact (Pu.ldo ty_sc3)) ?_
 refine TL.p Pu.as ?_
 refine TL.nil (TQ.thenN (hY14 _ _ ?_))
 refine TW.dw 17 ?_
 refine RK.tk Pu.mv ?_
 refine RK.tk Pu.mv ?_
 refine RK.guard (t := 24) rfl (fun hg1 => ?_) (fun hg1 => ?_)
 refine RK.tk (by first | exact (Pu.ld ty_sc22) | exact (Pu.ldo ty_sc22)) ?_
 refine RK.tk Pu.mv ?_
 refine RK.tk (Pu.el ty_et22) ?_
 refine RK.tk (by first | exact (Pu.lds ty_ag46) | exact (Pu.ldso ty_ag46)) ?_
 refine RK.tk Pu.mv ?_
 refine RK.keep ?_
 refine RK.tk (by first | exact (Pu.ld ty_sc22) | exact (Pu.ldo ty_sc22)) ?_
 refine RK.tk (by first | exact (Pu.ld ty_sc3) | exact (Pu.ldo ty_sc3)) ?_
 refine RK.tk (Pu.el ty_et22) ?_
 refine RK.tk (by first | exact (Pu.lds ty_ag46) | exact (Pu.ldso ty_ag46)) ?_
 refine RK.tk Pu.mv ?_
 refine RK.keep ?_
 refine RK.keep ?_
 refine RK.keep ?_
 refine RK.keep ?_
 refine RK.ch [false, false, true, true, true] ?_ trivial
 refine WK.cr rfl (enters Tryz.func16 rfl rfl) (fun w hw => by
   exact fS k _ hkl hv0 _ (hI.sat hw)) ?_
 refine WK.cr rfl (enters Tryz.func16 rfl rfl) (fun w hw => by
   exact fS i _ hi hv0 _ (hI.sat hw)) ?_
 refine WK.p Pu.eq ?_
 refine WK.p Pu.kt ?_
 refine WK.p Pu.as ?_
 refine WK.n ?_
 refine TL.nil ?_
 refine TQ.blkN ?_
 refine TQ.thenN (hY13 _ _ ?_)
 refine TW.region ?_
 refine TL.p Pu.ad ?_
 refine TL.p Pu.mv ?_
 refine TL.nil ?_
 refine TQ.thenN (hZ1 (q + 1) _ _ _ ?_ ?_ fs9 ?_)
 exact ⟨by omega, by rw [eqT, ← Bool.and_assoc, ← hbb, hg1]; rfl⟩
 exact zom9
 exact ks9
 refine RK.s ?_
 refine RK.s ?_
 refine RK.s ?_
 refine RK.s ?_
 refine RK.s ?_
 refine RK.keep ?_
 refine RK.s ?_
 refine RK.s ?_
 refine RK.s ?_
 refine RK.s ?_
 refine RK.s ?_
 refine RK.keep ?_
 refine RK.keep ?_
 refine RK.keep ?_
 refine RK.keep ?_
 refine RK.ch [false, false, true, true, true] ?_ trivial
 refine WK.gs ?_
 refine WK.gs ?_
 refine WK.ps ?_
 refine WK.p Pu.kf ?_
 refine WK.p Pu.as ?_
 refine WK.n ?_
 refine TL.nil ?_
 refine TQ.blkN ?_
 refine TQ.thenN (hY13 _ _ ?_)
 refine TW.region ?_
 refine TL.p Pu.ad ?_
 refine TL.p Pu.mv ?_
 refine TL.nil ?_
 refine TQ.thenN (hZ1 (q + 1) _ _ _ ?_ ?_ fs9 ?_)
 exact ⟨by omega, by rw [eqT, ← Bool.and_assoc, ← hbb, hg1]; rfl⟩
 exact zom9
 exact ks9
 try simp only [zcb9] at hc1
 obtain rfl : q = L.length := by omega
 refine TW.exit ?_
 refine TQ.thenX ?_
 refine TQ.thenX ?_
 refine TQ.blkX ?_
 refine TQ.thenN (hY9 _ _ ?_)
 refine TW.seq fun Y15 hY15 => TW.region ?_
 refine TL.p Pu.mv ?_
 refine TL.nil (TQ.thenN (hY15 _ _ ?_))
 refine TW.cond rfl (fun hc2 => ?_) (fun hc2 => ?_)
 try simp only [zcb9] at hc2
 have hno : tapB H i L = false := by
  have h9 : k ≠ i ∧ eqT H i k L L.length = true := by rw [hbb] at hc2; simpa [Int.ofNat_inj] using hc2
  cases h8 : tapB H i L with
  | false => rfl
  | true =>
   have h7 := allB_iff.1 h8 k hkl
   rw [decide_eq_false h9.1, h9.2] at h7; cases h7
 refine TW.seq fun Y16 hY16 => TW.region ?_
 refine TL.p Pu.as ?_
 refine TL.nil (TQ.thenN (hY16 _ _ ?_))
 refine TW.ret ?_
 refine TQ.blkR ?_
 refine TQ.thenR ?_
 refine TQ.thenR ?_
 refine TQ.blkR ?_
 refine TQ.thenR ?_
 refine TQ.ret Tryz.results27 rfl ((.tmp rfl .nil)) ?_
 exact fun w hw => ⟨by rw [hno]; rfl, Chg.ext hw.chg⟩
 try simp only [zcb9] at hc2
 have hyes : (decide (k = i) || !eqT H i k L L.length) = true := by
  by_cases e : k = i
  rw [decide_eq_true e]; rfl
  have : eqT H i k L L.length = false := by rw [hbb] at hc2; simpa [e, Int.ofNat_inj] using hc2
  rw [this]; simp
 refine TW.skip ?_
 refine TQ.blkN ?_
 refine TQ.thenN (hY6 _ _ ?_)
 refine TW.region ?_
 refine TL.p Pu.ad ?_
 refine TL.p Pu.mv ?_
 refine TL.nil ?_
 refine TQ.thenN (hZ0 (k + 1) _ _ ?_ ?_ fs9 ?_)
 refine ⟨by omega, fun j hj => ?_⟩
 by_cases e : j = k
 rw [e]; exact hyes
 exact hall j (by omega)
 exact zom9
 exact ks9
 try simp only [zcb9] at hc0
 obtain rfl : k = H.n := by omega
 refine TW.exit ?_
 refine TQ.thenX ?_
 refine TQ.thenX ?_
 refine TQ.blkX ?_
 refine TQ.thenN (hY2 _ _ ?_)
 refine TW.seq fun Y17 hY17 => TW.region ?_
 refine TL.p Pu.as ?_
 refine TL.nil (TQ.thenN (hY17 _ _ ?_))
 refine TW.ret ?_
 refine TQ.ret Tryz.results27 rfl ((.tmp rfl .nil)) ?_
 exact fun w hw => ⟨by rw [show tapB H i L = true from allB_iff.2 hall]; rfl, Chg.ext hw.chg⟩
end
end Go.Proofs.YtbenhafhklfhmaaGreat
namespace Go.Proofs.YtbenhafhklfhmaaGreat
set_option linter.all false
set_option linter.unusedVariables false
set_option linter.unusedSimpArgs false
open Go.RowKit
section
variable {w : World} {A : Option Addr} {cp : Nat} {H : Hd} {a : Nat → Option Addr} {c : Nat → Nat} {i : Nat}
set_option maxRecDepth 100000 in
set_option maxHeartbeats 8000000 in
theorem lawTold_any (hR : RdR w 5 A H.n (fun i => anL H a c i)) (hM : ∀ i, i < H.n → RdR w 2 (a i) (H.ml i) (fun k => spL (H.sp i k) (H.sg i k))) (o s : Nat) (ho : o ≤ 255) (hs9 : s ≤ 255) :
  Calls Tryz.prog 7 #[.slice A H.n cp, .int .u8 (o : Int), .int .u8 (s : Int)] w (Ret w (.bool true)) := by
 refine K_enter (S := []) (K := []) Tryz.func7 rfl Tryz.ntmps7 rfl (Sat.start _) ?_
 refine TW.seq fun Y1 hY1 => TW.region ?_
 refine TL.m Mk.bx ?_
 intro b1
 refine TL.p Pu.as ?_
 refine TL.nil (TQ.thenN (hY1 _ _ ?_))
 refine TW.seq fun Y2 hY2 => TW.region ?_
 refine TL.cr rfl (enters Tryz.func12 rfl rfl) (fun w hw => by
   exact alive_any _) ?_
 refine TL.p Pu.as ?_
 refine TL.nil (TQ.thenN (hY2 _ _ ?_))
 refine TW.seq fun Y3 hY3 => ?_
 refine TW.seq fun Y4 hY4 => ?_
 refine TW.join [(29, .bool (!rdyH H || decide ((H.n : Int) = 0)))] ?_ (fun hJ1 => ?_)
 refine TQ.thenN (hY4 _ _ ?_)
 refine TW.cond rfl (fun hc0 => ?_) (fun hc0 => ?_)
 try simp only [zcb9] at hc0
 refine TW.seq fun Y5 hY5 => TW.region ?_
 refine TL.p Pu.mv ?_
 refine TL.p Pu.as ?_
 refine TL.nil (TQ.thenN (hY5 _ _ ?_))
 refine TW.ret ?_
 refine TQ.thenR ?_
 refine TQ.ret Tryz.results7 rfl ((.tmp rfl .nil)) ?_
 exact fun w hw => Ret.of hw
 try simp only [zcb9] at hc0
 obtain ⟨hr0, hn0⟩ := hc0
 have hr1 : rdyH H = true := by simpa using hr0
 obtain ⟨hk, hI0⟩ := rdy_in hr1
 have hI : HIn w A H a c := ⟨hI0.1, hR, hM, hI0.2⟩
 have hnn : 0 < H.n := by omega
 have h16 := hk.n16
 obtain ⟨i, ei, hi⟩ : ∃ i : Nat, HidT ((o : Int) % (H.n : Int) = (i : Int)) ∧ i < H.n := ⟨o % H.n, hidT (Int.natCast_emod o H.n).symm, Nat.mod_lt _ hnn⟩
 obtain ⟨T, e, hS, k1, k2⟩ := tell_say hk hi
 replace k1 := hidT k1
 replace k2 := hidT k2
 have hT8 := hS.len
 have hye := hidT hS.ye
 have hno := hidT hS.no
 clear hS
 refine TW.skip ?_
 refine TQ.thenN (hY3 _ _ ?_)
 refine TW.seq fun Y6 hY6 => TW.region ?_
 refine TL.p Pu.mv ?_
 refine TL.p (Pu.cv (v := .int .i64 (o : Int)) rfl (fun w => by go_simp; rw [IntWalk.i64_in (o : Int) (by omega)])) ?_
 refine TL.p (Pu.ld ty_sc22) ?_
 refine TL.p (Pu.ln Tryz.underlying22) ?_
 refine TL.p (Pu.iv Pu.rm ei.out) ?_
 refine TL.m (Mk.al ty_zr3) ?_
 intro b2
 first | refine TL.st ty_sz3 ?_ | refine TL.se ty_sz3 ?_
 refine TL.nil (TQ.thenN (hY6 _ _ ?_))
 refine TW.seq fun Y7 hY7 => TW.region ?_
 refine TL.p Pu.fn ?_
 refine TL.p Pu.as ?_
 refine TL.nil (TQ.thenN (hY7 _ _ ?_))
 refine TW.seq fun Y8 hY8 => ?_
 refine TW.dw 12 ?_
 refine RK.tk (Pu.ld ty_sc22) ?_
 refine RK.tk (Pu.ld ty_sc22) ?_
 refine RK.tk (Pu.ld ty_sc3) ?_
 refine RK.tk (Pu.el ty_et22) ?_
 refine RK.tk (by first | exact Pu.fb ty_fa46_0 | exact Pu.fe ty_fa46_0) ?_
 refine RK.tk (Pu.ld ty_sc3) ?_
 refine RK.keep ?_
 refine RK.keep ?_
 refine RK.keep ?_
 refine RK.keep ?_
 refine RK.keep ?_
 refine RK.keep ?_
 refine RK.ch [false, true, true, true, true, true] ?_ trivial
 refine WK.call rfl (enters Tryz.func28 rfl rfl) rfl (fun w hw => by
   exact lw_tell i k1.out k2.out (hI.sat hw)) ?_
 rintro ⟨P, pc⟩
 refine WK.p Pu.mv ?_
 refine WK.p Pu.ex ?_
 refine WK.p Pu.ex ?_
 refine WK.p Pu.as ?_
 refine WK.p Pu.as ?_
 refine WK.n ?_
 refine TL.nil (TQ.thenN (hY8 _ _ ?_))
 refine TW.seq fun Y9 hY9 => ?_
 refine TW.seq fun Y10 hY10 => TW.region ?_
 refine TL.p Pu.mv ?_
 refine TL.p Pu.ne ?_
 refine TL.nil (TQ.thenN (hY10 _ _ ?_))
 refine TW.cond rfl (fun hc1 => ?_) (fun hc1 => ?_)
 try simp only [zcb9] at hc1
 have hne : e ≠ 0 := by simpa using hc1
 obtain ⟨he6, hnap⟩ := hno.out hne
 replace hnap := hidT hnap
 refine TW.seq fun Y11 hY11 => TW.region ?_
 refine TL.p Pu.mv ?_
 refine TL.p Pu.mv ?_
 refine TL.lit (t := 50) (b' := true) rfl (rfl) ?_
 refine TL.gd Pu.mv ?_
 refine TL.gd Pu.eq ?_
 refine TL.lit (t := 52) (b' := true) rfl ((decide_eq_true he6)) ?_
 refine TL.p Pu.kt ?_
 refine TL.p Pu.mv ?_
 refine TL.gd Pu.mv ?_
 refine TL.gm Mk.bl ?_
 intro b3
 refine TL.cv rfl rfl (enters Tryz.func27 rfl rfl) (fun w hw => by
   have q1 := OldB.of_blk (hw.holds (.blk b1 22 [.slice A H.n cp]) (Pick.mem pk9))
   have q2 := OldB.of_blk (hw.holds (.blk b2 3 [.int .i64 (i : Int)]) (Pick.mem pk9))
   exact apart_any (L := [0, 1, 2, 3, 4, 5, 6, 7]) hk (hI.sat hw) hi q1 q2 (by decide) (by decide) (RdR.blk (cs := [.int .i64 0, .int .i64 1, .int .i64 2, .int .i64 3, .int .i64 4, .int .i64 5, .int .i64 6, .int .i64 7]) (n := 8) (sz := 1) (hw.holds _ (List.mem_cons_self ..)) rfl (fun _ _ => rfl))) ?_
 refine TL.lit (t := 57) (b' := false) rfl (hnap.out) ?_
 refine TL.gd Pu.no ?_
 refine TL.p Pu.kt ?_
 refine TL.p Pu.as ?_
 refine TL.nil (TQ.thenN (hY11 _ _ ?_))
 refine TW.ret ?_
 refine TQ.thenR ?_
 refine TQ.ret Tryz.results7 rfl ((.tmp rfl .nil)) ?_
 exact fun w hw => Ret.of hw
 try simp only [zcb9] at hc1
 have hee : e = 0 := by simpa using hc1
 obtain ⟨s1, hT, hap, hbest⟩ := hye.out hee
 have hasc : T.Pairwise (· < ·) := by rw [hT]; exact spK_asc 8
 have hin : ∀ k, k < T.length → 0 ≤ T.getD k 0 ∧ T.getD k 0 < 8 := fun k hkl => by
  have h9 : T.getD k 0 ∈ spK s1 8 := by rw [← hT]; exact mem_int_getD.2 ⟨k, hkl, rfl⟩
  obtain ⟨j, h7, _, h8⟩ := mem_spK.1 h9
  omega
 have hin2 : ∀ v, v ∈ T → 0 ≤ v := fun v hv => by
  obtain ⟨k, hkl, rfl⟩ := mem_int_getD.1 hv
  exact (hin k hkl).1
 replace hT := hidT hT
 replace hap := hidT hap
 refine TW.skip ?_
 refine TQ.thenN (hY9 _ _ ?_)
 refine TW.seq fun Y12 hY12 => ?_
 refine TW.seq fun Y13 hY13 => TW.region ?_
 refine TL.p Pu.mv ?_
 refine TL.p (Pu.ln Tryz.underlying28) ?_
 refine TL.p Pu.mv ?_
 refine TL.nil (TQ.thenN (hY13 _ _ ?_))
 refine TW.block ?_
 refine TW.loop1 (fun (k : Nat) => [(62, .int .i64 (k : Int)), (61, .int .i64 (T.length : Int)), (60, .slice P T.length pc), (10, .slice P T.length pc), (9, .func (.func 27) #[] #[.pointer (some ⟨b1, 0, none⟩), .pointer (some ⟨b2, 0, none⟩)]), (7, .bool true), (2, .int .u8 (s : Int))]) (fun k => [.own P T.length pc 3 1 (iL T), .blk b1 22 [.slice A H.n cp], .blk b2 3 [.int .i64 (i : Int)]]) (fun k => k ≤ T.length) (fun k => T.length - k) 0 fs9 ?_ ?_ ?_
 exact ks9
 exact Nat.zero_le _
 rintro k hk9 Z0 hZ0
 refine TW.seq fun Y14 hY14 => TW.region ?_
 refine TL.p Pu.lt ?_
 refine TL.nil (TQ.thenN (hY14 _ _ ?_))
 refine TW.seq fun Y15 hY15 => ?_
 refine TW.cond rfl (fun hc2 => ?_) (fun hc2 => ?_)
 try simp only [zcb9] at hc2
 have hkl : k < T.length := by omega
 obtain ⟨hv0, hv8⟩ := hin k hkl
 refine TW.skip ?_
 refine TQ.thenN (hY15 _ _ ?_)
 refine TW.seq fun Y16 hY16 => ?_
 refine TW.block ?_
 refine TW.seq fun Y17 hY17 => TW.region ?_
 refine TL.p Pu.mv ?_
 refine TL.p (Pu.el ty_et28) ?_
 refine TL.p (Pu.ld ty_sc3) ?_
 refine TL.p Pu.as ?_
 refine TL.p Pu.as ?_
 refine TL.nil (TQ.thenN (hY17 _ _ ?_))
 refine TW.seq fun Y18 hY18 => ?_
 refine TW.join [(85, .bool false)] ?_ (fun hJ2 => ?_)
 refine TQ.thenN (hY18 _ _ ?_)
 refine TW.condF rfl (rfl) ?_
 refine TW.skip ?_
 refine TQ.blkN ?_
 refine TQ.thenN (hY16 _ _ ?_)
 refine TW.region ?_
 refine TL.p Pu.ad ?_
 refine TL.p Pu.mv ?_
 refine TL.nil ?_
 refine TQ.thenN (hZ0 (k + 1) _ _ ?_ ?_ fs9 ?_)
 exact (by omega)
 exact zom9
 exact ks9
 refine TW.region ?_
 refine TL.p Pu.mv ?_
 refine TL.p Pu.lt ?_
 refine TL.lit (t := 68) (b' := false) rfl ((decide_eq_false (by omega))) ?_
 refine TL.p Pu.mv ?_
 refine TL.gd Pu.mv ?_
 refine TL.gd Pu.ge ?_
 refine TL.lit (t := 71) (b' := false) rfl ((decide_eq_false (by omega))) ?_
 refine TL.p Pu.kf ?_
 refine TL.p Pu.mv ?_
 refine TL.gd Pu.mv ?_
 refine TL.gd Pu.gt ?_
 refine TL.gd Pu.mv ?_
 refine TL.guard (t := 76) rfl (fun hg1 => ?_) (fun hg1 => ?_)
 try simp only [zgb9] at hg1
 refine TL.gd Pu.mv ?_
 refine TL.gd Pu.mv ?_
 refine TL.gd Pu.mv ?_
 refine TL.gd Pu.sb ?_
 refine TL.gd (Pu.el ty_et28 (q := k - 1) (hk := by omega)) ?_
 refine TL.gd (Pu.ld ty_sc3) ?_
 refine TL.gd Pu.le ?_
 refine TL.lit (t := 83) (b' := false) rfl ((decide_eq_false (by have h9 := asc_at hasc (k := k) (by omega) hkl; omega))) ?_
 refine TL.gd Pu.kt ?_
 refine TL.p Pu.kf ?_
 refine TL.nil ?_
 exact TQ.sub (by repeat (first | exact trivial | refine ⟨rfl, ?_⟩ | refine ⟨trivial, ?_⟩ | refine ⟨(by show some (Value.bool _) = some (Value.bool _); first | (simp [hg1]; done) | (refine congrArg (fun z => some (Value.bool z)) (Bool.eq_iff_iff.2 ?_); simp [hg1]; omega)), ?_⟩)) ks9 hJ2
 try simp only [zgb9] at hg1
 refine TL.gs ?_
 refine TL.gs ?_
 refine TL.gs ?_
 refine TL.gs ?_
 refine TL.gs ?_
 refine TL.gs ?_
 refine TL.gs ?_
 refine TL.gd Pu.kf ?_
 refine TL.p Pu.kf ?_
 refine TL.nil ?_
 exact TQ.sub (by repeat (first | exact trivial | refine ⟨rfl, ?_⟩ | refine ⟨trivial, ?_⟩ | refine ⟨(by show some (Value.bool _) = some (Value.bool _); first | (simp [hg1]; done) | (refine congrArg (fun z => some (Value.bool z)) (Bool.eq_iff_iff.2 ?_); simp [hg1]; omega)), ?_⟩)) ks9 hJ2
 try simp only [zcb9] at hc2
 obtain rfl : k = T.length := by omega
 refine TW.exit ?_
 refine TQ.thenX ?_
 refine TQ.thenX ?_
 refine TQ.blkX ?_
 refine TQ.thenN (hY12 _ _ ?_)
 refine TW.seq fun Y19 hY19 => ?_
 refine TW.seq fun Y20 hY20 => TW.region ?_
 refine TL.p Pu.mv ?_
 refine TL.p Pu.mv ?_
 refine TL.cv rfl rfl (enters Tryz.func27 rfl rfl) (fun w hw => by
   have q1 := OldB.of_blk (hw.holds (.blk b1 22 [.slice A H.n cp]) (Pick.mem pk9))
   have q2 := OldB.of_blk (hw.holds (.blk b2 3 [.int .i64 (i : Int)]) (Pick.mem pk9))
   exact apart_any (L := T) hk (hI.sat hw) hi q1 q2 (by omega) hin2 (OwnR.rdr (hw.holds (.own P T.length pc 3 1 (iL T)) (Pick.mem pk9)))) ?_
 refine TL.lit (t := 89) (b' := true) rfl (hap.out) ?_
 refine TL.p Pu.no ?_
 refine TL.nil (TQ.thenN (hY20 _ _ ?_))
 refine TW.condF rfl rfl ?_
 refine TW.skip ?_
 refine TQ.thenN (hY19 _ _ ?_)
 refine TW.seq fun Y21 hY21 => TW.region ?_
 refine TL.p Pu.as ?_
 refine TL.nil (TQ.thenN (hY21 _ _ ?_))
 refine TW.seq fun Y22 hY22 => ?_
 refine TW.seq fun Y23 hY23 => TW.region ?_
 refine TL.p Pu.mv ?_
 refine TL.nil (TQ.thenN (hY23 _ _ ?_))
 refine TW.block ?_
 refine TW.loop5 (fun (q : Nat) (Al : Option Addr) (cl : Nat) (M : List Int) (n : Nat) => [(91, .int .i64 (q : Int)), (14, .slice Al n cl), (10, .slice P T.length pc), (9, .func (.func 27) #[] #[.pointer (some ⟨b1, 0, none⟩), .pointer (some ⟨b2, 0, none⟩)]), (7, .bool true), (2, .int .u8 (s : Int))]) (fun q Al cl M n => [.own Al n cl 3 1 (iL M), .own P T.length pc 3 1 (iL T), .blk b1 22 [.slice A H.n cp], .blk b2 3 [.int .i64 (i : Int)]]) (fun q Al cl M n => q ≤ 8 ∧ M = spK s q ∧ n = M.length) (fun q Al cl M n => 8 - q) 0 none 0 [] 0 fs9 ?_ ?_ ?_
 exact KSub.nilOwn ks9
 exact ⟨Nat.zero_le _, rfl, rfl⟩
 rintro q Al cl M n ⟨hq8, hM9, hn⟩ Z1 hZ1
 have hn9 : n ≤ 8 := by have := spK_len (s := s) q; rw [hn, hM9]; omega
 have hdv : s / 2 ^ q ≤ 255 := Nat.le_trans (Nat.div_le_self _ _) hs9
 refine TW.seq fun Y24 hY24 => TW.region ?_
 refine TL.p Pu.lt ?_
 refine TL.nil (TQ.thenN (hY24 _ _ ?_))
 refine TW.seq fun Y25 hY25 => ?_
 refine TW.cond rfl (fun hc5 => ?_) (fun hc5 => ?_)
 try simp only [zcb9] at hc5
 have hqn : q < 8 := by omega
 refine TW.skip ?_
 refine TQ.thenN (hY25 _ _ ?_)
 refine TW.seq fun Y26 hY26 => ?_
 refine TW.block ?_
 refine TW.seq fun Y27 hY27 => TW.region ?_
 refine TL.p Pu.mv ?_
 refine TL.p Pu.as ?_
 refine TL.nil (TQ.thenN (hY27 _ _ ?_))
 refine TW.seq fun Y28 hY28 => TW.region ?_
 refine TL.p Pu.mv ?_
 refine TL.p Pu.mv ?_
 refine TL.p (Pu.srU (b := s) (i := q)) ?_
 refine TL.p (Pu.anU (m := s / 2 ^ q)) ?_
 refine TL.p Pu.eq ?_
 refine TL.nil (TQ.thenN (hY28 _ _ ?_))
 refine TW.cond rfl (fun hc6 => ?_) (fun hc6 => ?_)
 try simp only [zcb9] at hc6
 have hb : s / 2 ^ q % 2 = 1 := by omega
 have hst : spK s (q + 1) = M ++ [(q : Int)] := by rw [hM9]; exact if_pos hb
 have hlen9 : n + 1 = (spK s (q + 1)).length := by rw [hst, List.length_append, ← hn]; rfl
 refine TW.region ?_
 refine TL.p Pu.mv ?_
 refine TL.p Pu.mv ?_
 refine TL.m Mk.bl ?_
 intro b4
 first | refine TL.a0 ty_et28 ?_ | refine TL.ap ty_et28 ?_
 intro A5 c5
 refine TL.p Pu.as ?_
 refine TL.nil ?_
 refine TQ.blkN ?_
 refine TQ.thenN (hY26 _ _ ?_)
 refine TW.region ?_
 refine TL.p Pu.ad ?_
 refine TL.p Pu.mv ?_
 refine TL.nil ?_
 refine TQ.thenN (hZ1 (q + 1) _ _ (spK s (q + 1)) _ _ _ ?_ ?_ fs9 ?_)
 exact ⟨by omega, rfl, hlen9⟩
 exact zom9
 first
  | exact KSub.own Pick.hd (iL_app hn hst rfl) ks9
  | exact KSub.own pk9 (fun i _ => by rw [hst]) ks9
 try simp only [zcb9] at hc6
 have hb : ¬ s / 2 ^ q % 2 = 1 := by omega
 have hst : spK s (q + 1) = M := by rw [hM9]; exact if_neg hb
 have hlen9 : n = (spK s (q + 1)).length := by rw [hst, ← hn]
 refine TW.skip ?_
 refine TQ.blkN ?_
 refine TQ.thenN (hY26 _ _ ?_)
 refine TW.region ?_
 refine TL.p Pu.ad ?_
 refine TL.p Pu.mv ?_
 refine TL.nil ?_
 refine TQ.thenN (hZ1 (q + 1) _ _ (spK s (q + 1)) _ _ _ ?_ ?_ fs9 ?_)
 exact ⟨by omega, rfl, hlen9⟩
 exact zom9
 first
  | exact KSub.own Pick.hd (iL_app hn hst rfl) ks9
  | exact KSub.own pk9 (fun i _ => by rw [hst]) ks9
 try simp only [zcb9] at hc5
 obtain rfl : q = 8 := by omega
 obtain rfl : n = M.length := hn
 have hMin : ∀ v, v ∈ M → 0 ≤ v := fun v hv => by
  rw [hM9] at hv
  obtain ⟨j, _, _, h8⟩ := mem_spK.1 hv
  omega
 have hb9 := hbest s (by omega)
 rw [← hM9] at hb9
 clear hM9
 refine TW.exit ?_
 refine TQ.thenX ?_
 refine TQ.thenX ?_
 refine TQ.blkX ?_
 refine TQ.thenN (hY22 _ _ ?_)
 refine TW.seq fun Y29 hY29 => ?_
 refine TW.seq fun Y30 hY30 => ?_
 refine TW.join [(114, .bool (decide ((T.length : Int) < (M.length : Int)) || !tapB H i M))] ?_ (fun hJ3 => ?_)
 refine TQ.thenN (hY30 _ _ ?_)
 refine TW.cond rfl (fun hc7 => ?_) (fun hc7 => ?_)
 try simp only [zcb9] at hc7
 refine TW.seq fun Y31 hY31 => TW.region ?_
 refine TL.p Pu.mv ?_
 refine TL.p Pu.as ?_
 refine TL.nil (TQ.thenN (hY31 _ _ ?_))
 refine TW.ret ?_
 refine TQ.thenR ?_
 refine TQ.ret Tryz.results7 rfl ((.tmp rfl .nil)) ?_
 exact fun w hw => Ret.of hw
 try simp only [zcb9] at hc7
 obtain ⟨hlt, hma⟩ := hc7
 have hma : tapB H i M = true := by simpa using hma
 obtain ⟨hlen, hltl⟩ : T.length = M.length ∧ ltL M T = false := by
  rcases hb9 hma with h9 | h9
  omega
  exact h9
 refine TW.skip ?_
 refine TQ.thenN (hY29 _ _ ?_)
 refine TW.seq fun Y32 hY32 => ?_
 refine TW.seq fun Y33 hY33 => TW.region ?_
 refine TL.p Pu.mv ?_
 refine TL.p (Pu.ln Tryz.underlying28) ?_
 refine TL.p Pu.mv ?_
 refine TL.p (Pu.ln Tryz.underlying28) ?_
 refine TL.p Pu.lt ?_
 refine TL.nil (TQ.thenN (hY33 _ _ ?_))
 refine TW.condF rfl ((decide_eq_false (by omega))) ?_
 refine TW.skip ?_
 refine TQ.thenN (hY32 _ _ ?_)
 refine TW.seq fun Y34 hY34 => ?_
 refine TW.seq fun Y35 hY35 => TW.region ?_
 refine TL.p Pu.mv ?_
 refine TL.p (Pu.ln Tryz.underlying28) ?_
 refine TL.p Pu.mv ?_
 refine TL.nil (TQ.thenN (hY35 _ _ ?_))
 refine TW.block ?_
 refine TW.loop1 (fun (k : Nat) => [(123, .int .i64 (k : Int)), (122, .int .i64 (T.length : Int)), (10, .slice P T.length pc), (14, .slice Al M.length cl), (7, .bool true)]) (fun k => [.own Al M.length cl 3 1 (iL M), .own P T.length pc 3 1 (iL T)]) (fun k => k ≤ T.length ∧ ∀ j, j < k → T.getD j 0 = M.getD j 0) (fun k => T.length - k) 0 fs9 ?_ ?_ ?_
 exact ks9
 exact ⟨Nat.zero_le _, fun j hj => by omega⟩
 rintro k ⟨hk9, hsame⟩ Z2 hZ2
 refine TW.seq fun Y36 hY36 => TW.region ?_
 refine TL.p Pu.lt ?_
 refine TL.nil (TQ.thenN (hY36 _ _ ?_))
 refine TW.seq fun Y37 hY37 => ?_
 refine TW.cond rfl (fun hc9 => ?_) (fun hc9 => ?_)
 try simp only [zcb9] at hc9
 have hkl : k < T.length := by omega
 refine TW.skip ?_
 refine TQ.thenN (hY37 _ _ ?_)
 refine TW.seq fun Y38 hY38 => ?_
 refine TW.block ?_
 refine TW.seq fun Y39 hY39 => TW.region ?_
 refine TL.p Pu.mv ?_
 refine TL.p Pu.as ?_
 refine TL.nil (TQ.thenN (hY39 _ _ ?_))
 refine TW.seq fun Y40 hY40 => ?_
 refine TW.dw 9 ?_
 refine RK.tk Pu.mv ?_
 refine RK.tk Pu.mv ?_
 refine RK.tk (Pu.el ty_et28) ?_
 refine RK.tk (Pu.ld ty_sc3) ?_
 refine RK.tk Pu.mv ?_
 refine RK.tk Pu.mv ?_
 refine RK.tk (Pu.el ty_et28) ?_
 refine RK.tk (Pu.ld ty_sc3) ?_
 refine RK.tk Pu.ne ?_
 refine RK.ch [] ?_ trivial
 refine WK.n ?_
 refine TL.nil (TQ.thenN (hY40 _ _ ?_))
 refine TW.cond rfl (fun hc10 => ?_) (fun hc10 => ?_)
 try simp only [zcb9] at hc10
 have hne9 : T.getD k 0 ≠ M.getD k 0 := by simpa using hc10
 have hlt9 := hidT (ltL_first hlen hkl hsame hne9 hltl)
 refine TW.seq fun Y41 hY41 => ?_
 refine TW.dw 13 ?_
 refine RK.tk Pu.mv ?_
 refine RK.tk Pu.mv ?_
 refine RK.tk Pu.mv ?_
 refine RK.tk Pu.mv ?_
 refine RK.tk (Pu.el ty_et28) ?_
 refine RK.tk (Pu.ld ty_sc3) ?_
 refine RK.tk Pu.mv ?_
 refine RK.tk Pu.mv ?_
 refine RK.tk (Pu.el ty_et28) ?_
 refine RK.tk (Pu.ld ty_sc3) ?_
 refine RK.tk (Pu.bv Pu.lt (decide_eq_true hlt9.out)) ?_
 refine RK.tk Pu.kt ?_
 refine RK.tk Pu.as ?_
 refine RK.ch [] ?_ trivial
 refine WK.n ?_
 refine TL.nil (TQ.thenN (hY41 _ _ ?_))
 refine TW.ret ?_
 refine TQ.blkR ?_
 refine TQ.thenR ?_
 refine TQ.thenR ?_
 refine TQ.blkR ?_
 refine TQ.thenR ?_
 refine TQ.ret Tryz.results7 rfl ((.tmp rfl .nil)) ?_
 exact fun w hw => Ret.of hw
 try simp only [zcb9] at hc10
 have heq9 : T.getD k 0 = M.getD k 0 := by simpa using hc10
 refine TW.skip ?_
 refine TQ.blkN ?_
 refine TQ.thenN (hY38 _ _ ?_)
 refine TW.region ?_
 refine TL.p Pu.ad ?_
 refine TL.p Pu.mv ?_
 refine TL.nil ?_
 refine TQ.thenN (hZ2 (k + 1) _ _ ?_ ?_ fs9 ?_)
 refine ⟨by omega, fun j hj => ?_⟩
 by_cases e9 : j = k
 rw [e9]; exact heq9
 exact hsame j (by omega)
 exact zom9
 exact ks9
 try simp only [zcb9] at hc9
 obtain rfl : k = T.length := by omega
 refine TW.exit ?_
 refine TQ.thenX ?_
 refine TQ.thenX ?_
 refine TQ.blkX ?_
 refine TQ.thenN (hY34 _ _ ?_)
 refine TW.seq fun Y42 hY42 => TW.region ?_
 refine TL.p Pu.mv ?_
 refine TL.p Pu.as ?_
 refine TL.nil (TQ.thenN (hY42 _ _ ?_))
 refine TW.ret ?_
 refine TQ.ret Tryz.results7 rfl ((.tmp rfl .nil)) ?_
 exact fun w hw => Ret.of hw
 refine TW.region ?_
 refine TL.p Pu.mv ?_
 refine TL.p (Pu.ln Tryz.underlying28) ?_
 refine TL.p Pu.mv ?_
 refine TL.p (Pu.ln Tryz.underlying28) ?_
 refine TL.p Pu.gt ?_
 refine TL.p Pu.mv ?_
 refine TL.guard (t := 109) rfl (fun hg2 => ?_) (fun hg2 => ?_)
 try simp only [zgb9] at hg2
 refine TL.gs ?_
 refine TL.gs ?_
 refine TL.gs ?_
 refine TL.gs ?_
 refine TL.p Pu.kt ?_
 refine TL.nil ?_
 exact TQ.sub (by repeat (first | exact trivial | refine ⟨rfl, ?_⟩ | refine ⟨trivial, ?_⟩ | refine ⟨(by show some (Value.bool _) = some (Value.bool _); first | (simp [hg2]; done) | (refine congrArg (fun z => some (Value.bool z)) (Bool.eq_iff_iff.2 ?_); simp [hg2]; omega)), ?_⟩)) ks9 hJ3
 try simp only [zgb9] at hg2
 refine TL.gd Pu.mv ?_
 refine TL.gd Pu.mv ?_
 refine TL.cv rfl rfl (enters Tryz.func27 rfl rfl) (fun w hw => by
   have q1 := OldB.of_blk (hw.holds (.blk b1 22 [.slice A H.n cp]) (Pick.mem pk9))
   have q2 := OldB.of_blk (hw.holds (.blk b2 3 [.int .i64 (i : Int)]) (Pick.mem pk9))
   exact apart_any (L := M) hk (hI.sat hw) hi q1 q2 (by omega) hMin (OwnR.rdr (hw.holds (.own Al M.length cl 3 1 (iL M)) (Pick.mem pk9)))) ?_
 refine TL.gd Pu.no ?_
 refine TL.p Pu.kf ?_
 refine TL.nil ?_
 exact TQ.sub (by repeat (first | exact trivial | refine ⟨rfl, ?_⟩ | refine ⟨trivial, ?_⟩ | refine ⟨(by show some (Value.bool _) = some (Value.bool _); first | (simp [hg2]; done) | (refine congrArg (fun z => some (Value.bool z)) (Bool.eq_iff_iff.2 ?_); simp [hg2]; omega)), ?_⟩)) ks9 hJ3
 refine TW.region ?_
 refine TL.p (Pu.ld ty_sc22) ?_
 refine TL.cr rfl (enters Tryz.func13 rfl rfl) (fun w hw => by
   exact ready2_any (hR.sat hw Apart.nil) (fun i hi => (hM i hi).sat hw Apart.nil)) ?_
 refine TL.p Pu.no ?_
 refine TL.p Pu.mv ?_
 refine TL.guard (t := 21) rfl (fun hg3 => ?_) (fun hg3 => ?_)
 try simp only [zgb9] at hg3
 refine TL.gs ?_
 refine TL.gs ?_
 refine TL.gs ?_
 refine TL.p Pu.kt ?_
 refine TL.p Pu.mv ?_
 refine TL.gs ?_
 refine TL.gs ?_
 refine TL.p Pu.kt ?_
 refine TL.nil ?_
 exact TQ.sub (by repeat (first | exact trivial | refine ⟨rfl, ?_⟩ | refine ⟨trivial, ?_⟩ | refine ⟨(by show some (Value.bool _) = some (Value.bool _); first | (simp [hg3]; done) | (refine congrArg (fun z => some (Value.bool z)) (Bool.eq_iff_iff.2 ?_); simp [hg3]; omega)), ?_⟩)) ks9 hJ1
 try simp only [zgb9] at hg3
 refine TL.gd (Pu.ld ty_sc22) ?_
 refine TL.gd (Pu.ln Tryz.underlying22) ?_
 refine TL.gd Pu.eq ?_
 refine TL.p Pu.kf ?_
 refine TL.p Pu.mv ?_
 refine TL.guard (t := 26) rfl (fun hg4 => ?_) (fun hg4 => ?_)
 try simp only [zgb9] at hg4
 refine TL.gs ?_
 refine TL.gs ?_
 refine TL.p Pu.kt ?_
 refine TL.nil ?_
 exact TQ.sub (by repeat (first | exact trivial | refine ⟨rfl, ?_⟩ | refine ⟨trivial, ?_⟩ | refine ⟨(by show some (Value.bool _) = some (Value.bool _); first | (simp [hg3, hg4]; done) | (refine congrArg (fun z => some (Value.bool z)) (Bool.eq_iff_iff.2 ?_); simp [hg3, hg4]; omega)), ?_⟩)) ks9 hJ1
 try simp only [zgb9] at hg4
 refine TL.gd Pu.mv ?_
 refine TL.gd Pu.no ?_
 refine TL.lit (t := 28) (b' := false) rfl (rfl) ?_
 refine TL.p Pu.kf ?_
 refine TL.nil ?_
 exact TQ.sub (by repeat (first | exact trivial | refine ⟨rfl, ?_⟩ | refine ⟨trivial, ?_⟩ | refine ⟨(by show some (Value.bool _) = some (Value.bool _); first | (simp [hg3, hg4]; done) | (refine congrArg (fun z => some (Value.bool z)) (Bool.eq_iff_iff.2 ?_); simp [hg3, hg4]; omega)), ?_⟩)) ks9 hJ1
end
end Go.Proofs.YtbenhafhklfhmaaGreat
namespace Go.Proofs.YtbenhafhklfhmaaGreat
set_option linter.all false
set_option linter.unusedVariables false
set_option linter.unusedSimpArgs false
open Go.ChangeShapes Go.WideShapes Go.ChangeAt Go.RowKit Go.Deep
theorem Tryz.own : ownKnob Tryz.prog.godebug = none := by kernel_rfl
theorem Tryz.laidOut : laidOutB Tryz.prog = true := by kernel_rfl
set_option maxRecDepth 100000 in
theorem brandTold_lifted (os : Os) (started : os.Started) (H : Type) (enc : TypeId × Value → H) :
    ReturnsInHanded {} Tryz.checked os 7 .any (Rows.brandToldSpec.pre6 enc Tryz.prog Tryz.f7 Rows.brandToldRow.domain false) (Rows.brandToldSpec.post enc Tryz.prog Tryz.f7 false true false false) := by
  refine returnsInHanded_of_change (C := Tryz.checked) Tryz.own started (by kernel_rfl) Tryz.func7
    (ChangeSpec.witness6 (enc := enc) (C := Tryz.checked) false ⟨#[], #[.slice none 0 0, .int .u8 0, .int .u8 0], []⟩ 8 (by kernel_rfl) (by kernel_rfl) (by kernel_rfl) (by kernel_rfl)) ?_
  intro W base args ds gs before hval0 hW hcnd _
  have hval : ∀ (j : Nat) t v, Tryz.f7.params[j]? = some t → args[j]? = some v → Value.okWide Tryz.prog W .any base t v := hval0
  have hW' := hW
  obtain ⟨p, q, hA0, hV, rfl, hfz, hnd⟩ := hW
  have hA : DataW.TrodAll enc Tryz.prog W 0 (fun _ => true) true Tryz.f7.params.toList args.toList ds p := hA0
  have hA1 := hA
  rw [Tryz.params7] at hA hval
  obtain ⟨v0, v1, v2, d0, d1, d2, p0, p1, p2, rfl, rfl, rfl, h0, h1, h2⟩ := trodAll_three hA
  obtain ⟨rfl, rfl⟩ := trodVars_none hV
  obtain ⟨A, cp, Hh, a, c, rfl, hR, hM⟩ := open_herd (hval 0 22 v0 rfl rfl) h0
  obtain ⟨o, rfl, ho⟩ := open_u8b Tryz.underlying5 (hval 1 5 v1 rfl rfl) h1
  obtain ⟨s, rfl, hs⟩ := open_u8b Tryz.underlying5 (hval 2 5 v2 rfl rfl) h2
  clear hA0 hval0
  simp only [List.append_nil] at hW'
  refine (lawTold_any hR hM o s ho hs).mono ?_
  rintro e W' ⟨rfl, hb⟩
  exact ⟨_, rfl, law_post Tryz.laidOut rfl hW' hA1 (by kernel_rfl) (by kernel_rfl) Tryz.underlying4 rfl hb⟩
theorem brandTold_holds : Rows.BrandToldSaid :=
  OpenClaim.holds_of_wide 7 Tryz.f7 rfl rfl rfl rfl rfl rfl rfl ⟨rfl, rfl, rfl, rfl, rfl⟩ rfl rfl rfl rfl rfl (by kernel_rfl) Tryz.func7 (by kernel_rfl)
    (of_decide_eq_true (by kernel_rfl)) (by unfold Func.isWrapper; first | (rw [if_pos (by decide +kernel)]; kernel_rfl) | (rw [if_neg (by decide +kernel)]; exact ⟨rfl, rfl⟩))
    (fun os started H enc _ => brandTold_lifted os started H enc)
end Go.Proofs.YtbenhafhklfhmaaGreat
