/-
  Part 5 of the proof of brandLines_holds: declarations of several texts, in build order. No condition on a program.
-/
import Derived.Test.YtlphecckplndnaaBrln04
import Derived.Shelf.Small.Bits
import Derived.Shelf.Strconv.Itoa0
import Derived.Ground.Names2Prog
import Derived.Shelf.Slices.SearchI
import Derived.Ground.SlsfProg
import Derived.Shelf.SlSortCmp.Insertion
import Derived.Shelf.SlSortCmp.SiftDown1
import Derived.Shelf.SlSortCmp.HeapSort1
import Derived.Shelf.SlSortCmp.Insertion1
import Derived.Shelf.SlSortCmp.Median1
import Derived.Shelf.SlSortCmp.Pivot1
import Derived.Shelf.SlSortCmp.ReverseRange1
import Derived.Shelf.SlSortCmp.PartialInsertion1
import Derived.Shelf.SlSortCmp.PartitionEqual1
import Derived.Shelf.SlSortCmp.Partition1
import Derived.Shelf.SlSortCmp.Pdq1
import Derived.Shelf.SlSortCmp.Whole1
import Derived.Shelf.SlSortCmp.NoneTotal
import Derived.Test.YtlphecckplndnaaProg
import Derived.Test.YtlphecckplndnaaBrln03
import Derived.Sort.Grow
namespace Go.Proofs.Ytlphecckplndnaa
set_option linter.all false
set_option linter.unusedVariables false
set_option linter.unusedSimpArgs false
open Go.RowKit
section
variable {x : Int} {u v : Value} {k : Int} {l : List (Int × Value)}
theorem mlook_app : ∀ {l : List (Int × Value)}, mlook x (l ++ [(k, u)]) = (mlook x l).or (if x = k then some u else none)
  | [] => by simp [mlook]
  | (k', u') :: l => by
    have ih := mlook_app (l := l)
    by_cases h : x = k'
    · simp [mlook, h]
    · simp [mlook, h, ih]
theorem mput_new : ∀ {l : List (Int × Value)}, mlook x l = none → mput x v l = l ++ [(x, v)]
  | [], _ => rfl
  | (k', u') :: l, h => by
    by_cases e : x = k'
    · simp [mlook, e] at h
    · have h' : mlook x l = none := by simpa [mlook, e] using h
      simp [mput, e, mput_new h']
end
def plM (H : Hd) (i : Nat) : List (Int × Value) := (List.range i).map fun j => (H.id j, .int .i64 (j : Int))
section
variable {H : Hd} {i : Nat} {x : Int}
theorem plM_succ : plM H (i + 1) = plM H i ++ [(H.id i, .int .i64 (i : Int))] := by simp [plM, List.range_succ]
theorem mlook_pl : ∀ {i}, mlook x (plM H i) = if fst1 (fun j => decide (H.id j = x)) i < i then some (.int .i64 ((fst1 (fun j => decide (H.id j = x)) i : Nat) : Int)) else none
  | 0 => rfl
  | i + 1 => by
    have hl := fst1_le (p := fun j => decide (H.id j = x)) (n := i)
    rw [plM_succ, mlook_app, mlook_pl (i := i)]
    by_cases h : fst1 (fun j => decide (H.id j = x)) i < i
    · have e : fst1 (fun j => decide (H.id j = x)) (i + 1) = fst1 (fun j => decide (H.id j = x)) i := by simp only [fst1]; rw [if_pos h]
      rw [e, if_pos h, if_pos (show fst1 (fun j => decide (H.id j = x)) i < i + 1 by omega)]; rfl
    · rw [if_neg h]
      by_cases e : H.id i = x
      · have e2 : fst1 (fun j => decide (H.id j = x)) (i + 1) = i := by simp only [fst1]; rw [if_neg h, if_pos (decide_eq_true e)]
        rw [e2, if_pos e.symm, if_pos (show i < i + 1 by omega)]; rfl
      · have e2 : fst1 (fun j => decide (H.id j = x)) (i + 1) = i + 1 := by simp only [fst1]; rw [if_neg h, if_neg (by simpa using e)]
        rw [e2, if_neg (fun e3 => e e3.symm), if_neg (show ¬ i + 1 < i + 1 by omega)]; rfl
theorem pl_look : mlook x (plM H H.n) = if 0 ≤ atH H x then some (.int .i64 (atH H x)) else none := by
  rw [mlook_pl]
  unfold atH atI
  split
  · rw [if_pos (by omega)]
  · rw [if_neg (by omega)]
theorem pl_twice (hi : i < H.n) : (mlook (H.id i) (plM H i)).isSome = !decide (atH H (H.id i) = (i : Int)) := by
  rw [mlook_pl]
  have h1 := at_first (H := H) hi
  have h2 := fst1_lt (p := fun j => decide (H.id j = H.id i)) (n := i)
  by_cases h : atH H (H.id i) = (i : Int)
  · rw [if_neg]
    · simp [h]
    · intro h3
      obtain ⟨j, hj, e⟩ := h2.1 h3
      exact h1.1 h j hj (by simpa using e)
  · rw [if_pos]
    · simp [h]
    · refine h2.2 ?_
      have h3 : ¬ ∀ j, j < i → H.id j ≠ H.id i := fun h3 => h (h1.2 h3)
      simp only [Classical.not_forall] at h3
      obtain ⟨j, hj, e⟩ := h3
      exact ⟨j, hj, by simpa using e⟩
theorem pl_next (h : (mlook (H.id i) (plM H i)).isSome = false) : mput (H.id i) (.int .i64 (i : Int)) (plM H i) = plM H (i + 1) := by
  rw [plM_succ]
  exact mput_new (by simpa using h)
theorem herd_no1 (hi : i < H.n) (h : an1B H i = false) : herdB H = false := by
  cases h2 : herdB H with
  | false => rfl
  | true =>
    unfold herdB at h2
    simp only [Bool.and_eq_true] at h2
    rw [allB_iff.1 h2.1.1.2 i hi] at h; cases h
theorem herd_no2 (hi : i < H.n) (h : an2B H i = false) : herdB H = false := by
  cases h2 : herdB H with
  | false => rfl
  | true =>
    unfold herdB at h2
    simp only [Bool.and_eq_true] at h2
    rw [allB_iff.1 h2.1.2 i hi] at h; cases h
theorem herd_no3 (hi : i < H.n) (h : endB H i = false) : herdB H = false := by
  cases h2 : herdB H with
  | false => rfl
  | true =>
    unfold herdB at h2
    simp only [Bool.and_eq_true] at h2
    rw [allB_iff.1 h2.2 i hi] at h; cases h
theorem herd_no0 (h : (16 : Int) < (H.n : Int)) : herdB H = false := by
  unfold herdB
  rw [decide_eq_false (by omega)]
  rfl
theorem herd_yes (h0 : (H.n : Int) ≤ 16) (h1 : ∀ i, i < H.n → an1B H i = true) (h2 : ∀ i, i < H.n → an2B H i = true) (h3 : ∀ i, i < H.n → endB H i = true) : herdB H = true := by
  unfold herdB
  simp only [Bool.and_eq_true, decide_eq_true_eq, allB_iff]
  exact ⟨⟨⟨h0, h1⟩, h2⟩, h3⟩
end
structure HIn (w : World) (A : Option Addr) (H : Hd) (a : Nat → Option Addr) (c : Nat → Nat) : Prop where
  hn : H.n ≤ 1000
  hR : RdR w 5 A H.n (fun i => anL H a c i)
  hM : ∀ i, i < H.n → RdR w 2 (a i) (H.ml i) (fun k => spL (H.sp i k) (H.sg i k))
  hl : ∀ i, i < H.n → H.ml i ≤ 1000
theorem HIn.sat {w w' : World} {A : Option Addr} {H : Hd} {a : Nat → Option Addr} {c : Nat → Nat} {K : List Fact} (h : HIn w A H a c) (hs : Sat [] w K w') : HIn w' A H a c :=
  ⟨h.hn, h.hR.sat hs Apart.nil, fun i hi => (h.hM i hi).sat hs Apart.nil, h.hl⟩
abbrev OpX := (Nat × Nat) × (Option Addr × Nat) × (Option Addr × Nat)
def opK (H : Hd) (A : Option Addr) (cp : Nat) (x : OpX) : List Fact := [.blk x.1.1 63 [.slice A H.n cp, .map (some x.1.2), .slice x.2.1.1 H.n x.2.1.2, .slice x.2.2.1 H.n x.2.2.2], .obj x.1.2 (mapO .i64 (plM H H.n)), .own x.2.1.1 H.n x.2.1.2 3 1 (fun j => [.int .i64 (moH H j)]), .own x.2.2.1 H.n x.2.2.2 78 8 (fun j => octL (sgH H j))]
theorem octL_congr {g h : Nat → Int} (e : ∀ s, s < 8 → g s = h s) : octL g = octL h := by
  unfold octL
  rw [e 0 (by omega), e 1 (by omega), e 2 (by omega), e 3 (by omega), e 4 (by omega), e 5 (by omega), e 6 (by omega), e 7 (by omega)]
def badF : Fact := .obj 0 (.cells #[] 0 (0, 0))
theorem no_bad {S : List Nat} {w0 w : World} {K : List Fact} (h : Sat S w0 K w) (hm : badF ∈ K) : False := by
  have := (h.holds _ hm).2
  cases this
theorem cat_rows {i j : Nat} {r : Nat → List Value} {v : List Value} (h : v = r i) (hj : j < i + 1) : catR i r (fun _ => v) j = r j := by
  unfold catR
  split
  · rfl
  · rw [h, show j = i by omega]
set_option maxRecDepth 100000 in
set_option maxHeartbeats 4000000 in
theorem open_any {w : World} {A : Option Addr} {cp : Nat} {H : Hd} {a : Nat → Option Addr} {c : Nat → Nat} (hI : HIn w A H a c) :
    CallsK Try.prog 21 #[.slice A H.n cp] [] w OpX (fun x => if herdB H then .tuple #[.pointer (some ⟨x.1.1, 0, none⟩), .int .i64 0] else .tuple #[.pointer none, .int .i64 20]) (fun x => if herdB H then opK H A cp x else []) := by
  have hn := hI.hn
  have hR := hI.hR
  refine K_enterM (S := []) (K := []) Try.func21 rfl Try.ntmps21 rfl (Sat.start _) ?_
  refine TW.seqD fun Y1 hY1 => ?_
  refine TW.region ?_
  refine TL.m Mk.bx ?_
  intro b1
  refine TL.m (Mk.al ty_zr51) ?_
  intro b2
  refine TL.m (Mk.al ty_zr26) ?_
  intro b3
  refine TL.nil ?_
  refine TQ.thenN (hY1 _ _ _ ?_)
  refine TW.seqD fun Y2 hY2 => ?_
  refine TW.region ?_
  refine TL.p (Pu.ld ty_sc22) ?_
  refine TL.mm (kk := .i64) ?_
  intro b4
  refine TL.p Pu.bd ?_
  refine TL.m Mk.bx ?_
  intro b5
  refine TL.p Pu.as ?_
  refine TL.nil ?_
  refine TQ.thenN (hY2 _ _ _ ?_)
  refine TW.seqD fun Y3 hY3 => ?_
  refine TW.seqD fun Y4 hY4 => ?_
  refine TW.region ?_
  refine TL.p (Pu.ld ty_sc22) ?_
  refine TL.p (Pu.ln Try.underlying22) ?_
  refine TL.p Pu.gt ?_
  refine TL.nil ?_
  refine TQ.thenN (hY4 _ _ _ ?_)
  refine TW.cond rfl (fun hc0 => ?_) (fun hc0 => ?_)
  · try simp only [decide_eq_true_eq, decide_eq_false_iff_not, Bool.not_eq_true', Bool.not_eq_false', Bool.and_eq_true, Bool.or_eq_true, Bool.and_eq_false_iff, Bool.or_eq_false_iff, Int.not_lt, Int.not_le] at hc0
    refine TW.seqD fun Y5 hY5 => ?_
    refine TW.region ?_
    first | refine TL.st ty_sz51 ?_ | refine TL.se ty_sz51 ?_
    first | refine TL.st ty_sz26 ?_ | refine TL.se ty_sz26 ?_
    refine TL.nil ?_
    refine TQ.thenN (hY5 _ _ _ ?_)
    refine TW.ret ?_
    refine TQ.thenR ?_
    refine TQ.retM0 Try.results21 ((RV.c1 ty_sc51 (RV.c1 ty_sc26 .nil))) ?_
    have hno := herd_no0 (H := H) hc0
    exact fun w hw => ⟨((0, 0), (none, 0), (none, 0)), by show Ending.returned _ = Ending.returned (if herdB H = true then _ else _); rw [hno]; rfl, by show Sat _ _ (if herdB H = true then _ else _) _; rw [hno]; exact hw.sub KSub.nil⟩
  · try simp only [decide_eq_true_eq, decide_eq_false_iff_not, Bool.not_eq_true', Bool.not_eq_false', Bool.and_eq_true, Bool.or_eq_true, Bool.and_eq_false_iff, Bool.or_eq_false_iff, Int.not_lt, Int.not_le] at hc0
    have h16 : ¬ (16 : Int) < (H.n : Int) := by omega
    refine TW.skip ?_
    refine TQ.thenN (hY3 _ _ _ ?_)
    refine TW.seqD fun Y6 hY6 => ?_
    refine TW.seqD fun Y7 hY7 => ?_
    refine TW.region ?_
    refine TL.p (Pu.ld ty_sc22) ?_
    refine TL.p (Pu.ln Try.underlying22) ?_
    refine TL.p Pu.mv ?_
    refine TL.nil ?_
    refine TQ.thenN (hY7 _ _ _ ?_)
    refine TW.block ?_
    refine TW.loop3 (fun (i : Nat) (Ak : Option Addr) (ck : Nat) => [(26, .int .i64 (i : Int)), (25, .int .i64 (H.n : Int)), (24, .slice A H.n cp), (4, .pointer (some ⟨b5, 0, none⟩)), (1, .pointer (some ⟨b1, 0, none⟩)), (2, .pointer (some ⟨b2, 0, none⟩)), (3, .pointer (some ⟨b3, 0, none⟩))]) (fun i Ak ck => .blk b5 63 [.slice A H.n cp, .map (some b4), .slice none 0 0, .slice Ak i ck] :: .obj b4 (mapO .i64 (plM H i)) :: .own Ak i ck 78 8 (fun j => octL (sgH H j)) :: .blk b1 22 [.slice A H.n cp] :: .blk b2 51 [.pointer none] :: .blk b3 26 [.int .i64 0] :: []) (fun i Ak ck => i ≤ H.n ∧ ∀ j, j < i → an1B H j = true) (fun i Ak ck => H.n - i) 0 none 0 (by repeat (first | exact trivial | refine ⟨rfl, ?_⟩ | refine ⟨trivial, ?_⟩)) ?_ ?_ ?_
    · exact KSub.cons (by repeat (first | exact Pick.hd | apply Pick.tl)) (KSub.cons (by repeat (first | exact Pick.hd | apply Pick.tl)) (KSub.nilOwn (KSub.cons (by repeat (first | exact Pick.hd | apply Pick.tl)) (KSub.cons (by repeat (first | exact Pick.hd | apply Pick.tl)) (KSub.cons (by repeat (first | exact Pick.hd | apply Pick.tl)) KSub.nil)))))
    · exact ⟨Nat.zero_le _, fun j hj => by omega⟩
    rintro i Ak ck ⟨hi, h1⟩ Z0 hZ0
    refine TW.seqD fun Y8 hY8 => ?_
    refine TW.region ?_
    refine TL.p Pu.lt ?_
    refine TL.nil ?_
    refine TQ.thenN (hY8 _ _ _ ?_)
    refine TW.seqD fun Y9 hY9 => ?_
    refine TW.cond rfl (fun hc1 => ?_) (fun hc1 => ?_)
    · try simp only [decide_eq_true_eq, decide_eq_false_iff_not, Bool.not_eq_true', Bool.not_eq_false', Bool.and_eq_true, Bool.or_eq_true, Bool.and_eq_false_iff, Bool.or_eq_false_iff, Int.not_lt, Int.not_le] at hc1
      have hin : i < H.n := by omega
      refine TW.skip ?_
      refine TQ.thenN (hY9 _ _ _ ?_)
      refine TW.seqD fun Y10 hY10 => ?_
      refine TW.block ?_
      refine TW.seqD fun Y11 hY11 => ?_
      refine TW.region ?_
      refine TL.p Pu.mv ?_
      refine TL.p (Pu.el ty_et22) ?_
      refine TL.p (Pu.lds ty_ag50) ?_
      refine TL.m (Mk.al ty_zr50) ?_
      intro b6
      refine TL.p Pu.as ?_
      first | refine TL.st ty_sz50 ?_ | refine TL.se ty_sz50 ?_
      refine TL.nil ?_
      refine TQ.thenN (hY11 _ _ _ ?_)
      refine TW.seqD fun Y12 hY12 => ?_
      refine TW.region ?_
      refine TL.p (Pu.lds ty_ag50) ?_
      refine TL.call (M := []) rfl (enters Try.func31 rfl rfl) (List.Perm.refl _) rfl (fun w hw => by
          exact signed_any (H := H) (i := i) (hI.hl i hin) ((hI.hM i hin).sat hw Apart.nil)) ?_
      rintro ⟨gs, hgs⟩
      refine TL.p Pu.mv ?_
      refine TL.p Pu.ex ?_
      refine TL.p Pu.ex ?_
      refine TL.m (Mk.al ty_zr78) ?_
      intro b7
      first | refine TL.st ty_sz78 ?_ | refine TL.se ty_sz78 ?_
      refine TL.p Pu.as ?_
      refine TL.nil ?_
      refine TQ.thenN (hY12 _ _ _ ?_)
      refine TW.seqD fun Y13 hY13 => ?_
      refine TW.seqD fun Y14 hY14 => ?_
      refine TW.np ?_
      refine TW.dw 12 ?_
      refine RK.tk Pu.mv ?_
      refine RK.tk (by first | exact Pu.nn | exact Pu.nc) ?_
      refine RK.tk (by first | exact Pu.fb ty_fa63_1 | exact Pu.fe ty_fa63_1) ?_
      refine RK.tk (Pu.ld ty_sc60) ?_
      refine RK.tk (by first | exact Pu.fb ty_fa50_0 | exact Pu.fe ty_fa50_0) ?_
      refine RK.tk (Pu.ld ty_sc3) ?_
      refine RK.tk (Pu.lkV (mlook (H.id i) (plM H i) |>.getD (.int .i64 0)) (!decide (atH H (H.id i) = (i : Int))) ty_mp60 ty_zv3 rfl (pl_twice hin)) ?_
      refine RK.tk Pu.mv ?_
      refine RK.tk Pu.ex ?_
      refine RK.tk Pu.ex ?_
      refine RK.tk Pu.as ?_
      refine RK.tk Pu.as ?_
      refine RK.ch [] ?_ trivial
      refine WK.n ?_
      refine TL.nil ?_
      refine TQ.npN ?_
      refine TQ.thenN (hY14 _ _ _ ?_)
      refine TW.seqD fun Y15 hY15 => ?_
      refine TW.join [(64, .bool (!an1B H i))] ?_ (fun hJ1 => ?_)
      · refine TQ.thenN (hY15 _ _ _ ?_)
        refine TW.cond rfl (fun hc2 => ?_) (fun hc2 => ?_)
        · try simp only [decide_eq_true_eq, decide_eq_false_iff_not, Bool.not_eq_true', Bool.not_eq_false', Bool.and_eq_true, Bool.or_eq_true, Bool.and_eq_false_iff, Bool.or_eq_false_iff, Int.not_lt, Int.not_le] at hc2
          have hno := herd_no1 hin hc2
          refine TW.seqD fun Y16 hY16 => ?_
          refine TW.region ?_
          first | refine TL.st ty_sz51 ?_ | refine TL.se ty_sz51 ?_
          first | refine TL.st ty_sz26 ?_ | refine TL.se ty_sz26 ?_
          refine TL.nil ?_
          refine TQ.thenN (hY16 _ _ _ ?_)
          refine TW.ret ?_
          refine TQ.thenR ?_
          refine TQ.blkR ?_
          refine TQ.thenR ?_
          refine TQ.thenR ?_
          refine TQ.blkR ?_
          refine TQ.thenR ?_
          refine TQ.retM0 Try.results21 ((RV.c1 ty_sc51 (RV.c1 ty_sc26 .nil))) ?_
          exact fun w hw => ⟨((0, 0), (none, 0), (none, 0)), by show Ending.returned _ = Ending.returned (if herdB H = true then _ else _); rw [hno]; rfl, by show Sat _ _ (if herdB H = true then _ else _) _; rw [hno]; exact hw.sub KSub.nil⟩
        · try simp only [decide_eq_true_eq, decide_eq_false_iff_not, Bool.not_eq_true', Bool.not_eq_false', Bool.and_eq_true, Bool.or_eq_true, Bool.and_eq_false_iff, Bool.or_eq_false_iff, Int.not_lt, Int.not_le] at hc2
          have hgood : an1B H i = true := hc2
          have hparts := hgood
          unfold an1B at hparts
          simp only [Bool.and_eq_true, decide_eq_true_eq] at hparts
          have htw : (mlook (H.id i) (plM H i)).isSome = false := by rw [pl_twice hin, hparts.1.1.2]; simp
          have hge : octL gs = octL (sgH H i) := octL_congr (hgs hparts.2)
          refine TW.skip ?_
          refine TQ.thenN (hY13 _ _ _ ?_)
          refine TW.seqD fun Y17 hY17 => ?_
          refine TW.np ?_
          refine TW.dw 7 ?_
          refine RK.tk Pu.mv ?_
          refine RK.tk (by first | exact Pu.nn | exact Pu.nc) ?_
          refine RK.tk (by first | exact Pu.fb ty_fa63_1 | exact Pu.fe ty_fa63_1) ?_
          refine RK.tk (Pu.ld ty_sc60) ?_
          refine RK.tk (by first | exact Pu.fb ty_fa50_0 | exact Pu.fe ty_fa50_0) ?_
          refine RK.tk (Pu.ld ty_sc3) ?_
          refine RK.tk Pu.mv ?_
          refine RK.ch [] ?_ trivial
          refine WK.n ?_
          refine TL.mu ty_mp60 ?_
          refine TL.nil ?_
          refine TQ.npN ?_
          refine TQ.thenN (hY17 _ _ _ ?_)
          refine TW.np ?_
          refine TW.ex0k [.blk b7 78 (octL gs)] ?_
          refine RG.tk 0 rfl Pu.mv ?_
          refine RG.tk 1 rfl Pu.mv ?_
          refine RG.tk 5 rfl (Pu.lds ty_ag78) ?_
          refine RG.a2 2 6 rfl rfl (fun X2 hX2 => ?_) (fun X6 hX6 => ?_)
          · refine TL.p (by first | exact Pu.nn | exact Pu.nc) ?_
            refine TL.nil ?_
            refine TQ.nxt (hX2 _ _ (by repeat (first | exact HasL.nil | refine HasL.cons (by repeat (first | exact Pick.hd | apply Pick.tl)) ?_)) ?_)
            refine RG.tk 3 rfl (by first | exact Pu.fb ty_fa63_3 | exact Pu.fe ty_fa63_3) ?_
            refine RG.a2 4 6 rfl rfl (fun X4 hX4 => ?_) (fun X6 hX6 => ?_)
            · refine TL.p (Pu.ld ty_sc61) ?_
              refine TL.nil ?_
              refine TQ.nxt (hX4 _ _ (by repeat (first | exact HasL.nil | refine HasL.cons (by repeat (first | exact Pick.hd | apply Pick.tl)) ?_)) ?_)
              refine RG.a1 6 rfl (fun X6 hX6 => ?_)
              refine TL.m Mk.bl ?_
              intro b8
              refine TL.nil ?_
              refine TQ.nxt (hX6 _ _ (by repeat (first | exact HasL.nil | refine HasL.cons (by repeat (first | exact Pick.hd | apply Pick.tl)) ?_)) ?_)
              refine RG.a1 7 rfl (fun X7 hX7 => ?_)
              first | refine TL.a0 ty_et61 ?_ | refine TL.ap ty_et61 ?_
              intro A9 c9
              refine TL.nil ?_
              refine TQ.nxt (hX7 _ _ (by repeat (first | exact HasL.nil | refine HasL.cons (by repeat (first | exact Pick.hd | apply Pick.tl)) ?_)) ?_)
              refine RG.a1 8 rfl (fun X8 hX8 => ?_)
              refine TL.p (by first | exact Pu.nn | exact Pu.nc) ?_
              refine TL.nil ?_
              refine TQ.nxt (hX8 _ _ (by repeat (first | exact HasL.nil | refine HasL.cons (by repeat (first | exact Pick.hd | apply Pick.tl)) ?_)) ?_)
              refine RG.tk 9 rfl (by first | exact Pu.fb ty_fa63_3 | exact Pu.fe ty_fa63_3) ?_
              refine RG.a1 10 rfl (fun X10 hX10 => ?_)
              first | refine TL.st ty_sz61 ?_ | refine TL.se ty_sz61 ?_
              refine TL.nil ?_
              refine TQ.nxt (hX10 _ _ (by repeat (first | exact HasL.nil | refine HasL.cons (by repeat (first | exact Pick.hd | apply Pick.tl)) ?_)) ?_)
              refine RG.nil ?_ (by kernel_rfl)
              refine TQ.npN ?_
              refine TQ.blkN ?_
              refine TQ.thenN (hY10 _ _ _ ?_)
              refine TW.region ?_
              first
                | (generalize A9 = AN; generalize c9 = cN)
                | (generalize A11 = AN; generalize c11 = cN)
                | (generalize A13 = AN; generalize c13 = cN)
              refine TL.p Pu.ad ?_
              refine TL.p Pu.mv ?_
              refine TL.nil ?_
              refine TQ.thenN (hZ0 (i + 1) AN cN _ _ ?_ ?_ (by repeat (first | exact trivial | refine ⟨rfl, ?_⟩ | refine ⟨trivial, ?_⟩)) ?_)
              · refine ⟨by omega, fun j hj => ?_⟩
                by_cases e : j = i
                · subst e; exact hgood
                · exact h1 j (by omega)
              · exact (by first | omega | (simp only []; omega) | (simp; omega))
              · rw [pl_next htw]
                exact KSub.cons (by repeat (first | exact Pick.hd | apply Pick.tl)) (KSub.cons (by repeat (first | exact Pick.hd | apply Pick.tl)) (KSub.own (by repeat (first | exact Pick.hd | apply Pick.tl)) (fun j hj => by first | exact cat_rows (r := fun j => octL (sgH H j)) hge hj | exact cat_rows (r := fun j => octL (sgH H j)) rfl hj) (KSub.cons (by repeat (first | exact Pick.hd | apply Pick.tl)) (KSub.cons (by repeat (first | exact Pick.hd | apply Pick.tl)) (KSub.cons (by repeat (first | exact Pick.hd | apply Pick.tl)) KSub.nil)))))
            · refine TL.m Mk.bl ?_
              intro b10
              refine TL.nil ?_
              refine TQ.nxt (hX6 _ _ (by repeat (first | exact HasL.nil | refine HasL.cons (by repeat (first | exact Pick.hd | apply Pick.tl)) ?_)) ?_)
              refine RG.a1 4 rfl (fun X4 hX4 => ?_)
              refine TL.p (Pu.ld ty_sc61) ?_
              refine TL.nil ?_
              refine TQ.nxt (hX4 _ _ (by repeat (first | exact HasL.nil | refine HasL.cons (by repeat (first | exact Pick.hd | apply Pick.tl)) ?_)) ?_)
              refine RG.a1 7 rfl (fun X7 hX7 => ?_)
              first | refine TL.a0 ty_et61 ?_ | refine TL.ap ty_et61 ?_
              intro A11 c11
              refine TL.nil ?_
              refine TQ.nxt (hX7 _ _ (by repeat (first | exact HasL.nil | refine HasL.cons (by repeat (first | exact Pick.hd | apply Pick.tl)) ?_)) ?_)
              refine RG.a1 8 rfl (fun X8 hX8 => ?_)
              refine TL.p (by first | exact Pu.nn | exact Pu.nc) ?_
              refine TL.nil ?_
              refine TQ.nxt (hX8 _ _ (by repeat (first | exact HasL.nil | refine HasL.cons (by repeat (first | exact Pick.hd | apply Pick.tl)) ?_)) ?_)
              refine RG.tk 9 rfl (by first | exact Pu.fb ty_fa63_3 | exact Pu.fe ty_fa63_3) ?_
              refine RG.a1 10 rfl (fun X10 hX10 => ?_)
              first | refine TL.st ty_sz61 ?_ | refine TL.se ty_sz61 ?_
              refine TL.nil ?_
              refine TQ.nxt (hX10 _ _ (by repeat (first | exact HasL.nil | refine HasL.cons (by repeat (first | exact Pick.hd | apply Pick.tl)) ?_)) ?_)
              refine RG.nil ?_ (by kernel_rfl)
              refine TQ.npN ?_
              refine TQ.blkN ?_
              refine TQ.thenN (hY10 _ _ _ ?_)
              refine TW.region ?_
              first
                | (generalize A9 = AN; generalize c9 = cN)
                | (generalize A11 = AN; generalize c11 = cN)
                | (generalize A13 = AN; generalize c13 = cN)
              refine TL.p Pu.ad ?_
              refine TL.p Pu.mv ?_
              refine TL.nil ?_
              refine TQ.thenN (hZ0 (i + 1) AN cN _ _ ?_ ?_ (by repeat (first | exact trivial | refine ⟨rfl, ?_⟩ | refine ⟨trivial, ?_⟩)) ?_)
              · refine ⟨by omega, fun j hj => ?_⟩
                by_cases e : j = i
                · subst e; exact hgood
                · exact h1 j (by omega)
              · exact (by first | omega | (simp only []; omega) | (simp; omega))
              · rw [pl_next htw]
                exact KSub.cons (by repeat (first | exact Pick.hd | apply Pick.tl)) (KSub.cons (by repeat (first | exact Pick.hd | apply Pick.tl)) (KSub.own (by repeat (first | exact Pick.hd | apply Pick.tl)) (fun j hj => by first | exact cat_rows (r := fun j => octL (sgH H j)) hge hj | exact cat_rows (r := fun j => octL (sgH H j)) rfl hj) (KSub.cons (by repeat (first | exact Pick.hd | apply Pick.tl)) (KSub.cons (by repeat (first | exact Pick.hd | apply Pick.tl)) (KSub.cons (by repeat (first | exact Pick.hd | apply Pick.tl)) KSub.nil)))))
          · refine TL.m Mk.bl ?_
            intro b12
            refine TL.nil ?_
            refine TQ.nxt (hX6 _ _ (by repeat (first | exact HasL.nil | refine HasL.cons (by repeat (first | exact Pick.hd | apply Pick.tl)) ?_)) ?_)
            refine RG.a1 2 rfl (fun X2 hX2 => ?_)
            refine TL.p (by first | exact Pu.nn | exact Pu.nc) ?_
            refine TL.nil ?_
            refine TQ.nxt (hX2 _ _ (by repeat (first | exact HasL.nil | refine HasL.cons (by repeat (first | exact Pick.hd | apply Pick.tl)) ?_)) ?_)
            refine RG.tk 3 rfl (by first | exact Pu.fb ty_fa63_3 | exact Pu.fe ty_fa63_3) ?_
            refine RG.a1 4 rfl (fun X4 hX4 => ?_)
            refine TL.p (Pu.ld ty_sc61) ?_
            refine TL.nil ?_
            refine TQ.nxt (hX4 _ _ (by repeat (first | exact HasL.nil | refine HasL.cons (by repeat (first | exact Pick.hd | apply Pick.tl)) ?_)) ?_)
            refine RG.a1 7 rfl (fun X7 hX7 => ?_)
            first | refine TL.a0 ty_et61 ?_ | refine TL.ap ty_et61 ?_
            intro A13 c13
            refine TL.nil ?_
            refine TQ.nxt (hX7 _ _ (by repeat (first | exact HasL.nil | refine HasL.cons (by repeat (first | exact Pick.hd | apply Pick.tl)) ?_)) ?_)
            refine RG.a1 8 rfl (fun X8 hX8 => ?_)
            refine TL.p (by first | exact Pu.nn | exact Pu.nc) ?_
            refine TL.nil ?_
            refine TQ.nxt (hX8 _ _ (by repeat (first | exact HasL.nil | refine HasL.cons (by repeat (first | exact Pick.hd | apply Pick.tl)) ?_)) ?_)
            refine RG.tk 9 rfl (by first | exact Pu.fb ty_fa63_3 | exact Pu.fe ty_fa63_3) ?_
            refine RG.a1 10 rfl (fun X10 hX10 => ?_)
            first | refine TL.st ty_sz61 ?_ | refine TL.se ty_sz61 ?_
            refine TL.nil ?_
            refine TQ.nxt (hX10 _ _ (by repeat (first | exact HasL.nil | refine HasL.cons (by repeat (first | exact Pick.hd | apply Pick.tl)) ?_)) ?_)
            refine RG.nil ?_ (by kernel_rfl)
            refine TQ.npN ?_
            refine TQ.blkN ?_
            refine TQ.thenN (hY10 _ _ _ ?_)
            refine TW.region ?_
            first
              | (generalize A9 = AN; generalize c9 = cN)
              | (generalize A11 = AN; generalize c11 = cN)
              | (generalize A13 = AN; generalize c13 = cN)
            refine TL.p Pu.ad ?_
            refine TL.p Pu.mv ?_
            refine TL.nil ?_
            refine TQ.thenN (hZ0 (i + 1) AN cN _ _ ?_ ?_ (by repeat (first | exact trivial | refine ⟨rfl, ?_⟩ | refine ⟨trivial, ?_⟩)) ?_)
            · refine ⟨by omega, fun j hj => ?_⟩
              by_cases e : j = i
              · subst e; exact hgood
              · exact h1 j (by omega)
            · exact (by first | omega | (simp only []; omega) | (simp; omega))
            · rw [pl_next htw]
              exact KSub.cons (by repeat (first | exact Pick.hd | apply Pick.tl)) (KSub.cons (by repeat (first | exact Pick.hd | apply Pick.tl)) (KSub.own (by repeat (first | exact Pick.hd | apply Pick.tl)) (fun j hj => by first | exact cat_rows (r := fun j => octL (sgH H j)) hge hj | exact cat_rows (r := fun j => octL (sgH H j)) rfl hj) (KSub.cons (by repeat (first | exact Pick.hd | apply Pick.tl)) (KSub.cons (by repeat (first | exact Pick.hd | apply Pick.tl)) (KSub.cons (by repeat (first | exact Pick.hd | apply Pick.tl)) KSub.nil)))))
      refine TW.region ?_
      refine TL.p Pu.mv ?_
      refine TL.p Pu.mv ?_
      refine TL.guard (t := 47) rfl (fun hg1 => ?_) (fun hg1 => ?_)
      · try simp only [decide_eq_true_eq, decide_eq_false_iff_not, Bool.not_eq_true', Bool.not_eq_false', Int.natCast_pos] at hg1
        refine TL.gs ?_
        refine TL.gs ?_
        refine TL.p Pu.kt ?_
        refine TL.p Pu.mv ?_
        refine TL.gs ?_
        refine TL.gs ?_
        refine TL.gs ?_
        refine TL.gs ?_
        refine TL.gs ?_
        refine TL.p Pu.kt ?_
        refine TL.p Pu.mv ?_
        refine TL.gs ?_
        refine TL.gs ?_
        refine TL.gs ?_
        refine TL.gs ?_
        refine TL.gs ?_
        refine TL.p Pu.kt ?_
        refine TL.nil ?_
        exact TQ.sub (by repeat (first | exact trivial | refine ⟨rfl, ?_⟩ | refine ⟨trivial, ?_⟩ | refine ⟨(by show some (Value.bool _) = some (Value.bool _); simp [hg1, an1B]), ?_⟩)) (by repeat (first | exact KSub.nil | refine KSub.cons (by repeat (first | exact Pick.hd | apply Pick.tl)) ?_ | exact KSub.refl _ | refine KSub.drop ?_)) hJ1
      · try simp only [decide_eq_true_eq, decide_eq_false_iff_not, Bool.not_eq_true', Bool.not_eq_false', Int.natCast_pos] at hg1
        refine TL.gd Pu.mv ?_
        refine TL.gd Pu.no ?_
        refine TL.p Pu.kf ?_
        refine TL.p Pu.mv ?_
        refine TL.guard (t := 51) rfl (fun hg2 => ?_) (fun hg2 => ?_)
        · try simp only [decide_eq_true_eq, decide_eq_false_iff_not, Bool.not_eq_true', Bool.not_eq_false', Int.natCast_pos] at hg2
          refine TL.gs ?_
          refine TL.gs ?_
          refine TL.gs ?_
          refine TL.gs ?_
          refine TL.gs ?_
          refine TL.p Pu.kt ?_
          refine TL.p Pu.mv ?_
          refine TL.gs ?_
          refine TL.gs ?_
          refine TL.gs ?_
          refine TL.gs ?_
          refine TL.gs ?_
          refine TL.p Pu.kt ?_
          refine TL.nil ?_
          exact TQ.sub (by repeat (first | exact trivial | refine ⟨rfl, ?_⟩ | refine ⟨trivial, ?_⟩ | refine ⟨(by show some (Value.bool _) = some (Value.bool _); simp [hg1, hg2, an1B]), ?_⟩)) (by repeat (first | exact KSub.nil | refine KSub.cons (by repeat (first | exact Pick.hd | apply Pick.tl)) ?_ | exact KSub.refl _ | refine KSub.drop ?_)) hJ1
        · try simp only [decide_eq_true_eq, decide_eq_false_iff_not, Bool.not_eq_true', Bool.not_eq_false', Int.natCast_pos] at hg2
          refine TL.gd (by first | exact Pu.fb ty_fa50_0 | exact Pu.fe ty_fa50_0) ?_
          refine TL.gd (Pu.ld ty_sc3) ?_
          refine TL.gm Mk.bl ?_
          intro b14
          refine TL.cr rfl (enters Try.func32 rfl rfl) (fun w hw => by
              exact bInOne_any _ _ _ (hw.holds _ (List.mem_cons_self ..))) ?_
          refine TL.gd Pu.no ?_
          refine TL.p Pu.kf ?_
          refine TL.p Pu.mv ?_
          refine TL.guard (t := 58) rfl (fun hg3 => ?_) (fun hg3 => ?_)
          · try simp only [decide_eq_true_eq, decide_eq_false_iff_not, Bool.not_eq_true', Bool.not_eq_false', Int.natCast_pos] at hg3
            refine TL.gs ?_
            refine TL.gs ?_
            refine TL.gs ?_
            refine TL.gs ?_
            refine TL.gs ?_
            refine TL.p Pu.kt ?_
            refine TL.nil ?_
            exact TQ.sub (by repeat (first | exact trivial | refine ⟨rfl, ?_⟩ | refine ⟨trivial, ?_⟩ | refine ⟨(by show some (Value.bool _) = some (Value.bool _); simp [hg1, hg2, hg3, an1B]), ?_⟩)) (by repeat (first | exact KSub.nil | refine KSub.cons (by repeat (first | exact Pick.hd | apply Pick.tl)) ?_ | exact KSub.refl _ | refine KSub.drop ?_)) hJ1
          · try simp only [decide_eq_true_eq, decide_eq_false_iff_not, Bool.not_eq_true', Bool.not_eq_false', Int.natCast_pos] at hg3
            refine TL.gd (by first | exact Pu.fb ty_fa50_2 | exact Pu.fe ty_fa50_2) ?_
            refine TL.gd (Pu.lds ty_ag47) ?_
            refine TL.gm Mk.bl ?_
            intro b15
            refine TL.cr rfl (enters Try.func33 rfl rfl) (fun w hw => by
                exact bProperOne_any _ _ _ _ (hw.holds _ (List.mem_cons_self ..))) ?_
            refine TL.gd Pu.no ?_
            refine TL.p Pu.kf ?_
            refine TL.nil ?_
            exact TQ.sub (by repeat (first | exact trivial | refine ⟨rfl, ?_⟩ | refine ⟨trivial, ?_⟩ | refine ⟨(by show some (Value.bool _) = some (Value.bool _); simp [hg1, hg2, hg3, an1B]), ?_⟩)) (by repeat (first | exact KSub.nil | refine KSub.cons (by repeat (first | exact Pick.hd | apply Pick.tl)) ?_ | exact KSub.refl _ | refine KSub.drop ?_)) hJ1
    · try simp only [decide_eq_true_eq, decide_eq_false_iff_not, Bool.not_eq_true', Bool.not_eq_false', Bool.and_eq_true, Bool.or_eq_true, Bool.and_eq_false_iff, Bool.or_eq_false_iff, Int.not_lt, Int.not_le] at hc1
      obtain rfl : i = H.n := by omega
      refine TW.exit ?_
      refine TQ.thenX ?_
      refine TQ.thenX ?_
      refine TQ.blkX ?_
      refine TQ.thenN (hY6 _ _ _ ?_)
      refine TW.seqD fun Y18 hY18 => ?_
      refine TW.seqD fun Y19 hY19 => ?_
      refine TW.region ?_
      refine TL.p (Pu.ld ty_sc22) ?_
      refine TL.p (Pu.ln Try.underlying22) ?_
      refine TL.p Pu.mv ?_
      refine TL.nil ?_
      refine TQ.thenN (hY19 _ _ _ ?_)
      refine TW.block ?_
      refine TW.loop3 (fun (i : Nat) (Am : Option Addr) (cm : Nat) => [(85, .int .i64 (i : Int)), (84, .int .i64 (H.n : Int)), (83, .slice A H.n cp), (4, .pointer (some ⟨b5, 0, none⟩)), (1, .pointer (some ⟨b1, 0, none⟩)), (2, .pointer (some ⟨b2, 0, none⟩)), (3, .pointer (some ⟨b3, 0, none⟩))]) (fun i Am cm => .blk b5 63 [.slice A H.n cp, .map (some b4), .slice Am i cm, .slice Ak H.n ck] :: .obj b4 (mapO .i64 (plM H H.n)) :: .own Am i cm 3 1 (fun j => [.int .i64 (moH H j)]) :: .own Ak H.n ck 78 8 (fun j => octL (sgH H j)) :: .blk b1 22 [.slice A H.n cp] :: .blk b2 51 [.pointer none] :: .blk b3 26 [.int .i64 0] :: []) (fun i Am cm => i ≤ H.n ∧ ∀ j, j < i → an2B H j = true) (fun i Am cm => H.n - i) 0 none 0 (by repeat (first | exact trivial | refine ⟨rfl, ?_⟩ | refine ⟨trivial, ?_⟩)) ?_ ?_ ?_
      · exact KSub.cons (by repeat (first | exact Pick.hd | apply Pick.tl)) (KSub.cons (by repeat (first | exact Pick.hd | apply Pick.tl)) (KSub.nilOwn (KSub.cons (by repeat (first | exact Pick.hd | apply Pick.tl)) (KSub.cons (by repeat (first | exact Pick.hd | apply Pick.tl)) (KSub.cons (by repeat (first | exact Pick.hd | apply Pick.tl)) (KSub.cons (by repeat (first | exact Pick.hd | apply Pick.tl)) KSub.nil))))))
      · exact ⟨Nat.zero_le _, fun j hj => by omega⟩
      rintro i Am cm ⟨hi, h2⟩ Z1 hZ1
      refine TW.seqD fun Y20 hY20 => ?_
      refine TW.region ?_
      refine TL.p Pu.lt ?_
      refine TL.nil ?_
      refine TQ.thenN (hY20 _ _ _ ?_)
      refine TW.seqD fun Y21 hY21 => ?_
      refine TW.cond rfl (fun hc3 => ?_) (fun hc3 => ?_)
      · try simp only [decide_eq_true_eq, decide_eq_false_iff_not, Bool.not_eq_true', Bool.not_eq_false', Bool.and_eq_true, Bool.or_eq_true, Bool.and_eq_false_iff, Bool.or_eq_false_iff, Int.not_lt, Int.not_le] at hc3
        have hin : i < H.n := by omega
        have hlk := pl_look (H := H) (x := H.mo i)
        have hv : (mlook (H.mo i) (plM H H.n)).getD (.int .i64 0) = .int .i64 (if 0 ≤ atH H (H.mo i) then atH H (H.mo i) else 0) := by
          rw [hlk]
          by_cases h : 0 ≤ atH H (H.mo i)
          · rw [if_pos h, if_pos h]; rfl
          · rw [if_neg h, if_neg h]; rfl
        have hs : (mlook (H.mo i) (plM H H.n)).isSome = decide (0 ≤ atH H (H.mo i)) := by
          rw [hlk]
          by_cases h : 0 ≤ atH H (H.mo i)
          · rw [if_pos h, decide_eq_true h]; rfl
          · rw [if_neg h, decide_eq_false h]; rfl
        refine TW.skip ?_
        refine TQ.thenN (hY21 _ _ _ ?_)
        refine TW.seqD fun Y22 hY22 => ?_
        refine TW.block ?_
        refine TW.seqD fun Y23 hY23 => ?_
        refine TW.region ?_
        refine TL.p (Pu.el ty_et22) ?_
        refine TL.p (Pu.lds ty_ag50) ?_
        refine TL.m (Mk.al ty_zr50) ?_
        intro b16
        first | refine TL.st ty_sz50 ?_ | refine TL.se ty_sz50 ?_
        refine TL.nil ?_
        refine TQ.thenN (hY23 _ _ _ ?_)
        refine TW.seqD fun Y24 hY24 => ?_
        refine TW.np ?_
        refine TW.dw 12 ?_
        refine RK.tk Pu.mv ?_
        refine RK.tk (by first | exact Pu.nn | exact Pu.nc) ?_
        refine RK.tk (by first | exact Pu.fb ty_fa63_1 | exact Pu.fe ty_fa63_1) ?_
        refine RK.tk (Pu.ld ty_sc60) ?_
        refine RK.tk (by first | exact Pu.fb ty_fa50_1 | exact Pu.fe ty_fa50_1) ?_
        refine RK.tk (Pu.ld ty_sc3) ?_
        refine RK.tk (Pu.lkV (.int .i64 (if 0 ≤ atH H (H.mo i) then atH H (H.mo i) else 0)) (decide (0 ≤ atH H (H.mo i))) ty_mp60 ty_zv3 hv hs) ?_
        refine RK.tk Pu.mv ?_
        refine RK.tk Pu.ex ?_
        refine RK.tk Pu.ex ?_
        refine RK.tk Pu.as ?_
        refine RK.tk Pu.as ?_
        refine RK.ch [] ?_ trivial
        refine WK.n ?_
        refine TL.nil ?_
        refine TQ.npN ?_
        refine TQ.thenN (hY24 _ _ _ ?_)
        refine TW.seqD fun Y25 hY25 => ?_
        refine TW.seqD fun Y26 hY26 => ?_
        refine TW.region ?_
        refine TL.p (by first | exact Pu.fb ty_fa50_1 | exact Pu.fe ty_fa50_1) ?_
        refine TL.p (Pu.ld ty_sc3) ?_
        refine TL.p Pu.eq ?_
        refine TL.nil ?_
        refine TQ.thenN (hY26 _ _ _ ?_)
        refine TW.cond rfl (fun hc4 => ?_) (fun hc4 => ?_)
        · try simp only [decide_eq_true_eq, decide_eq_false_iff_not, Bool.not_eq_true', Bool.not_eq_false', Bool.and_eq_true, Bool.or_eq_true, Bool.and_eq_false_iff, Bool.or_eq_false_iff, Int.not_lt, Int.not_le] at hc4
          have hm1 : H.mo i = -1 := hc4
          have hmo : moH H i = -1 := if_pos hm1
          have hg2 : an2B H i = true := by unfold an2B; rw [decide_eq_true hm1]; rfl
          refine TW.region ?_
          refine TL.p Pu.as ?_
          refine TL.p Pu.as ?_
          refine TL.nil ?_
          refine TQ.thenN (hY25 _ _ _ ?_)
          refine TW.seqD fun Y27 hY27 => ?_
          refine TW.seqD fun Y28 hY28 => ?_
          refine TW.region ?_
          refine TL.p Pu.mv ?_
          refine TL.p Pu.no ?_
          refine TL.nil ?_
          refine TQ.thenN (hY28 _ _ _ ?_)
          refine TW.condF rfl rfl ?_
          refine TW.skip ?_
          refine TQ.thenN (hY27 _ _ _ ?_)
          refine TW.region ?_
          refine TL.p Pu.mv ?_
          refine TL.p Pu.mv ?_
          refine TL.p (by first | exact Pu.nn | exact Pu.nc) ?_
          refine TL.p (by first | exact Pu.fb ty_fa63_2 | exact Pu.fe ty_fa63_2) ?_
          refine TL.p (Pu.ld ty_sc31) ?_
          refine TL.p Pu.mv ?_
          refine TL.m Mk.bl ?_
          intro b17
          first | refine TL.a0 ty_et31 ?_ | refine TL.ap ty_et31 ?_
          intro A18 c18
          refine TL.p (by first | exact Pu.nn | exact Pu.nc) ?_
          refine TL.p (by first | exact Pu.fb ty_fa63_2 | exact Pu.fe ty_fa63_2) ?_
          first | refine TL.st ty_sz31 ?_ | refine TL.se ty_sz31 ?_
          refine TL.nil ?_
          refine TQ.blkN ?_
          refine TQ.thenN (hY22 _ _ _ ?_)
          refine TW.region ?_
          first
            | (generalize A18 = AN; generalize c18 = cN)
            | (generalize A20 = AN; generalize c20 = cN)
          refine TL.p Pu.ad ?_
          refine TL.p Pu.mv ?_
          refine TL.nil ?_
          refine TQ.thenN (hZ1 (i + 1) AN cN _ _ ?_ ?_ (by repeat (first | exact trivial | refine ⟨rfl, ?_⟩ | refine ⟨trivial, ?_⟩)) ?_)
          · refine ⟨by omega, fun j hj => ?_⟩
            by_cases e : j = i
            · subst e; exact hg2
            · exact h2 j (by omega)
          · exact (by first | omega | (simp only []; omega) | (simp; omega))
          · exact KSub.cons (by repeat (first | exact Pick.hd | apply Pick.tl)) (KSub.cons (by repeat (first | exact Pick.hd | apply Pick.tl)) (KSub.own (by repeat (first | exact Pick.hd | apply Pick.tl)) (fun j hj => cat_rows (r := fun j => [Value.int .i64 (moH H j)]) (by first | (rw [hmo]; done) | (rw [hmo]; rfl) | rw [hmo, if_pos hc5]) hj) (KSub.cons (by repeat (first | exact Pick.hd | apply Pick.tl)) (KSub.cons (by repeat (first | exact Pick.hd | apply Pick.tl)) (KSub.cons (by repeat (first | exact Pick.hd | apply Pick.tl)) (KSub.cons (by repeat (first | exact Pick.hd | apply Pick.tl)) KSub.nil))))))
        · try simp only [decide_eq_true_eq, decide_eq_false_iff_not, Bool.not_eq_true', Bool.not_eq_false', Bool.and_eq_true, Bool.or_eq_true, Bool.and_eq_false_iff, Bool.or_eq_false_iff, Int.not_lt, Int.not_le] at hc4
          have hm1 : H.mo i ≠ -1 := hc4
          refine TW.skip ?_
          refine TQ.thenN (hY25 _ _ _ ?_)
          refine TW.seqD fun Y29 hY29 => ?_
          refine TW.seqD fun Y30 hY30 => ?_
          refine TW.region ?_
          refine TL.p Pu.mv ?_
          refine TL.p Pu.no ?_
          refine TL.nil ?_
          refine TQ.thenN (hY30 _ _ _ ?_)
          refine TW.cond rfl (fun hc5 => ?_) (fun hc5 => ?_)
          · try simp only [decide_eq_true_eq, decide_eq_false_iff_not, Bool.not_eq_true', Bool.not_eq_false', Bool.and_eq_true, Bool.or_eq_true, Bool.and_eq_false_iff, Bool.or_eq_false_iff, Int.not_lt, Int.not_le] at hc5
            have hno : herdB H = false := herd_no2 hin (by unfold an2B; rw [decide_eq_false hm1, decide_eq_false (show ¬ 0 ≤ atH H (H.mo i) by omega)]; rfl)
            refine TW.seqD fun Y31 hY31 => ?_
            refine TW.region ?_
            first | refine TL.st ty_sz51 ?_ | refine TL.se ty_sz51 ?_
            first | refine TL.st ty_sz26 ?_ | refine TL.se ty_sz26 ?_
            refine TL.nil ?_
            refine TQ.thenN (hY31 _ _ _ ?_)
            refine TW.ret ?_
            refine TQ.thenR ?_
            refine TQ.blkR ?_
            refine TQ.thenR ?_
            refine TQ.thenR ?_
            refine TQ.blkR ?_
            refine TQ.thenR ?_
            refine TQ.retM0 Try.results21 ((RV.c1 ty_sc51 (RV.c1 ty_sc26 .nil))) ?_
            exact fun w hw => ⟨((0, 0), (none, 0), (none, 0)), by show Ending.returned _ = Ending.returned (if herdB H = true then _ else _); rw [hno]; rfl, by show Sat _ _ (if herdB H = true then _ else _) _; rw [hno]; exact hw.sub KSub.nil⟩
          · try simp only [decide_eq_true_eq, decide_eq_false_iff_not, Bool.not_eq_true', Bool.not_eq_false', Bool.and_eq_true, Bool.or_eq_true, Bool.and_eq_false_iff, Bool.or_eq_false_iff, Int.not_lt, Int.not_le] at hc5
            have hmo : moH H i = (if 0 ≤ atH H (H.mo i) then atH H (H.mo i) else 0) := by unfold moH; rw [if_neg hm1, if_pos hc5]
            have hg2 : an2B H i = true := by unfold an2B; rw [decide_eq_true hc5, Bool.or_true]
            refine TW.skip ?_
            refine TQ.thenN (hY29 _ _ _ ?_)
            refine TW.region ?_
            refine TL.p Pu.mv ?_
            refine TL.p Pu.mv ?_
            refine TL.p (by first | exact Pu.nn | exact Pu.nc) ?_
            refine TL.p (by first | exact Pu.fb ty_fa63_2 | exact Pu.fe ty_fa63_2) ?_
            refine TL.p (Pu.ld ty_sc31) ?_
            refine TL.p Pu.mv ?_
            refine TL.m Mk.bl ?_
            intro b19
            first | refine TL.a0 ty_et31 ?_ | refine TL.ap ty_et31 ?_
            intro A20 c20
            refine TL.p (by first | exact Pu.nn | exact Pu.nc) ?_
            refine TL.p (by first | exact Pu.fb ty_fa63_2 | exact Pu.fe ty_fa63_2) ?_
            first | refine TL.st ty_sz31 ?_ | refine TL.se ty_sz31 ?_
            refine TL.nil ?_
            refine TQ.blkN ?_
            refine TQ.thenN (hY22 _ _ _ ?_)
            refine TW.region ?_
            first
              | (generalize A18 = AN; generalize c18 = cN)
              | (generalize A20 = AN; generalize c20 = cN)
            refine TL.p Pu.ad ?_
            refine TL.p Pu.mv ?_
            refine TL.nil ?_
            refine TQ.thenN (hZ1 (i + 1) AN cN _ _ ?_ ?_ (by repeat (first | exact trivial | refine ⟨rfl, ?_⟩ | refine ⟨trivial, ?_⟩)) ?_)
            · refine ⟨by omega, fun j hj => ?_⟩
              by_cases e : j = i
              · subst e; exact hg2
              · exact h2 j (by omega)
            · exact (by first | omega | (simp only []; omega) | (simp; omega))
            · exact KSub.cons (by repeat (first | exact Pick.hd | apply Pick.tl)) (KSub.cons (by repeat (first | exact Pick.hd | apply Pick.tl)) (KSub.own (by repeat (first | exact Pick.hd | apply Pick.tl)) (fun j hj => cat_rows (r := fun j => [Value.int .i64 (moH H j)]) (by first | (rw [hmo]; done) | (rw [hmo]; rfl) | rw [hmo, if_pos hc5]) hj) (KSub.cons (by repeat (first | exact Pick.hd | apply Pick.tl)) (KSub.cons (by repeat (first | exact Pick.hd | apply Pick.tl)) (KSub.cons (by repeat (first | exact Pick.hd | apply Pick.tl)) (KSub.cons (by repeat (first | exact Pick.hd | apply Pick.tl)) KSub.nil))))))
      · try simp only [decide_eq_true_eq, decide_eq_false_iff_not, Bool.not_eq_true', Bool.not_eq_false', Bool.and_eq_true, Bool.or_eq_true, Bool.and_eq_false_iff, Bool.or_eq_false_iff, Int.not_lt, Int.not_le] at hc3
        obtain rfl : i = H.n := by omega
        refine TW.exit ?_
        refine TQ.thenX ?_
        refine TQ.thenX ?_
        refine TQ.blkX ?_
        refine TQ.thenN (hY18 _ _ _ ?_)
        refine TW.seqD fun Y32 hY32 => ?_
        refine TW.rebaseK [.blk b1 22 [.slice A H.n cp], .blk b2 51 [.pointer none], .blk b3 26 [.int .i64 0]] (opK H A cp ((b5, b4), (Am, cm), (Ak, ck))) (by unfold opK; (repeat (first | exact KSub.nil | refine KSub.cons (by repeat (first | exact Pick.hd | apply Pick.tl)) ?_))) fun w1 hw1 => ?_
        have hoB : OldB w1 b5 [.slice A H.n cp, .map (some b4), .slice Am H.n cm, .slice Ak H.n ck] := OldB.of_blk (hw1.holds (.blk b5 63 [.slice A H.n cp, .map (some b4), .slice Am H.n cm, .slice Ak H.n ck]) (by simp [opK]))
        have hSb := hw1.apartB (b := b5) (t := 63) (cs := [.slice A H.n cp, .map (some b4), .slice Am H.n cm, .slice Ak H.n ck]) (by simp [opK])
        have hoM : RdR w1 1 Am H.n (fun j => [.int .i64 (moH H j)]) := OwnR.rdr (hw1.holds (.own Am H.n cm 3 1 (fun j => [.int .i64 (moH H j)])) (by simp [opK]))
        have hSm := hw1.apartO (A := Am) (n := H.n) (c := cm) (E := 3) (sz := 1) (r := fun j => [.int .i64 (moH H j)]) (by simp [opK])
        refine TW.seqD fun Y33 hY33 => ?_
        refine TW.region ?_
        refine TL.p (Pu.ld ty_sc22) ?_
        refine TL.p (Pu.ln Try.underlying22) ?_
        refine TL.p Pu.mv ?_
        refine TL.nil ?_
        refine TQ.thenN (hY33 _ _ _ ?_)
        refine TW.block ?_
        refine TW.loopM1 (fun (i : Nat) => [(117, .int .i64 (i : Int)), (116, .int .i64 (H.n : Int)), (4, .pointer (some ⟨b5, 0, none⟩)), (1, .pointer (some ⟨b1, 0, none⟩)), (2, .pointer (some ⟨b2, 0, none⟩)), (3, .pointer (some ⟨b3, 0, none⟩))]) (fun i Ds => .blk b1 22 [.slice A H.n cp] :: .blk b2 51 [.pointer none] :: .blk b3 26 [.int .i64 0] :: defK Ds) (fun i => i ≤ H.n ∧ ∀ j, j < i → endB H j = true) (fun i => H.n - i) 0 ([]) (by repeat (first | exact trivial | refine ⟨rfl, ?_⟩ | refine ⟨trivial, ?_⟩)) ?_ ?_ ?_
        · exact KSub.refl _
        · exact ⟨Nat.zero_le _, fun j hj => by omega⟩
        rintro i ⟨hi, h3⟩ Ds Z2 hZ2
        refine TW.seqD fun Y34 hY34 => ?_
        refine TW.region ?_
        refine TL.p Pu.lt ?_
        refine TL.nil ?_
        refine TQ.thenN (hY34 _ _ _ ?_)
        refine TW.seqD fun Y35 hY35 => ?_
        refine TW.cond rfl (fun hc6 => ?_) (fun hc6 => ?_)
        · try simp only [decide_eq_true_eq, decide_eq_false_iff_not, Bool.not_eq_true', Bool.not_eq_false', Bool.and_eq_true, Bool.or_eq_true, Bool.and_eq_false_iff, Bool.or_eq_false_iff, Int.not_lt, Int.not_le] at hc6
          have hin : i < H.n := by omega
          obtain ⟨N, hN⟩ : ∃ N, N = if endB H i = true then depH (moH H) H.n i else H.n + 1 := ⟨_, rfl⟩
          have hNl : N ≤ H.n + 1 := by
            rw [hN]
            split
            · exact Nat.le_succ_of_le dep_le
            · exact Nat.le_refl _
          refine TW.skip ?_
          refine TQ.thenN (hY35 _ _ _ ?_)
          refine TW.seqD fun Y36 hY36 => ?_
          refine TW.block ?_
          refine TW.seqD fun Y37 hY37 => ?_
          refine TW.region ?_
          refine TL.p Pu.mv ?_
          refine TL.p Pu.as ?_
          refine TL.nil ?_
          refine TQ.thenN (hY37 _ _ _ ?_)
          refine TW.seqD fun Y38 hY38 => ?_
          refine TW.region ?_
          refine TL.m (Mk.al ty_zr3) ?_
          intro b21
          first | refine TL.st ty_sz3 ?_ | refine TL.se ty_sz3 ?_
          refine TL.nil ?_
          refine TQ.thenN (hY38 _ _ _ ?_)
          refine TW.seqD fun Y39 hY39 => ?_
          refine TW.region ?_
          refine TL.p Pu.mv ?_
          refine TL.p Pu.mv ?_
          refine TL.call (M := []) rfl (enters Try.func22 rfl rfl) (List.Perm.refl _) rfl (fun w hw => by
              exact line_any) ?_
          rintro ⟨bi, bp⟩
          refine TL.nil ?_
          refine TQ.thenN (hY39 _ _ _ ?_)
          refine TW.block ?_
          have hNN : (N = depH (moH H) H.n i ∧ upH (moH H) i H.n < 0) ∨ (0 ≤ upH (moH H) i H.n ∧ ∀ (G : List Fact) (S : List Nat) (W : World) (X : List Fact) (x y : Fact) (w : World), ¬ Sat S W (X ++ (x :: y :: (if N ≤ H.n then G else [badF]))) w) := by
            by_cases hE : endB H i = true
            · rw [if_pos hE] at hN
              unfold endB at hE
              exact .inl ⟨hN, of_decide_eq_true hE⟩
            · rw [if_neg hE] at hN
              unfold endB at hE
              refine .inr ⟨by simpa using hE, fun G S W X x y w hs => no_bad hs ?_⟩
              rw [hN, if_neg (by omega)]
              simp
          refine TW.rangeR (fun (q : Nat) (_ : Unit) => if q ≤ H.n then .blk b21 3 [.int .i64 (q : Int)] :: .blk b1 22 [.slice A H.n cp] :: .blk b2 51 [.pointer none] :: .blk b3 26 [.int .i64 0] :: defK Ds else [badF]) (fun _ : { _u : Unit // endB H i = false } => Code.ret) (fun _ => .blk b2 51 [.pointer none] :: .blk b3 26 [.int .i64 20] :: defK Ds) (()) (fun x y => line1_iter (N := N) (bi := bi) (bp := bp) (i := i) hoB hSb hoM hSm moH_Mo hin (hNN.imp_right fun h => ⟨h.1, fun X r w => h.2 _ _ _ _ _ _ _⟩)) ?_ ?_ ?_ ?_ (eg := enters Try.func34 rfl rfl)
          · show KSub _ (linM bi bp b5 i ++ (if (0 : Nat) ≤ H.n then _ else _))
            rw [if_pos (Nat.zero_le _)]
            exact KSub.cons (by repeat (first | exact Pick.hd | apply Pick.tl)) (KSub.cons (by repeat (first | exact Pick.hd | apply Pick.tl)) (KSub.cons (by repeat (first | exact Pick.hd | apply Pick.tl)) (KSub.cons (by repeat (first | exact Pick.hd | apply Pick.tl)) (KSub.cons (by repeat (first | exact Pick.hd | apply Pick.tl)) (KSub.cons (by repeat (first | exact Pick.hd | apply Pick.tl)) (KSub.refl _))))))
          · rintro lR DR oR oR1 oR2 q g r hq ZR0 hZR0
            have hqn : q ≤ H.n := by omega
            simp only [if_pos hqn, linM, List.cons_append, List.nil_append]
            refine TWi.skip ?_
            refine TQ.thenN (hZR0 _ _ _ Pick.hd ?_)
            refine TWi.block ?_
            refine TWi.seq fun Y40 hY40 => ?_
            refine TWi.region ?_
            refine TL.p (Pu.ld ty_sc3) ?_
            refine TL.p Pu.ad ?_
            first | refine TL.st ty_sz3 ?_ | refine TL.se ty_sz3 ?_
            refine TL.nil ?_
            refine TQ.thenN (hY40 _ _ ?_)
            refine TWi.seq fun Y41 hY41 => ?_
            refine TWi.region ?_
            refine TL.p (Pu.ld ty_sc3) ?_
            refine TL.p (Pu.ld ty_sc22) ?_
            refine TL.p (Pu.ln Try.underlying22) ?_
            refine TL.p Pu.gt ?_
            refine TL.nil ?_
            refine TQ.thenN (hY41 _ _ ?_)
            refine TWi.cond rfl (fun hc7 => ?_) (fun hc7 => ?_)
            · try simp only [decide_eq_true_eq, decide_eq_false_iff_not, Bool.not_eq_true', Bool.not_eq_false', Bool.and_eq_true, Bool.or_eq_true, Bool.and_eq_false_iff, Bool.or_eq_false_iff, Int.not_lt, Int.not_le] at hc7
              have hE : endB H i = false := by
                cases h : endB H i with
                | false => rfl
                | true =>
                  rw [if_pos h] at hN
                  have := dep_le (f := moH H) (n := H.n) (i := i)
                  omega
              refine TWi.seq fun Y42 hY42 => ?_
              refine TWi.region ?_
              first | refine TL.st ty_sz51 ?_ | refine TL.se ty_sz51 ?_
              first | refine TL.st ty_sz26 ?_ | refine TL.se ty_sz26 ?_
              refine TL.nil ?_
              refine TQ.thenN (hY42 _ _ ?_)
              refine TWi.ret ?_
              refine TQ.blkR ?_
              refine TQ.rbR (⟨(), hE⟩) rfl ?_
              simp only [linM, List.cons_append, List.nil_append]
              exact KSub.cons (by repeat (first | exact Pick.hd | apply Pick.tl)) (KSub.cons (by repeat (first | exact Pick.hd | apply Pick.tl)) (KSub.cons (by repeat (first | exact Pick.hd | apply Pick.tl)) (KSub.cons (by repeat (first | exact Pick.hd | apply Pick.tl)) (KSub.cons (by repeat (first | exact Pick.hd | apply Pick.tl)) (KSub.cons (by repeat (first | exact Pick.hd | apply Pick.tl)) (KSub.drop (KSub.drop (KSub.refl _))))))))
            · try simp only [decide_eq_true_eq, decide_eq_false_iff_not, Bool.not_eq_true', Bool.not_eq_false', Bool.and_eq_true, Bool.or_eq_true, Bool.and_eq_false_iff, Bool.or_eq_false_iff, Int.not_lt, Int.not_le] at hc7
              have hqn1 : q + 1 ≤ H.n := by omega
              refine TWi.skip ?_
              refine TQ.blkN ?_
              refine TQ.rbN (()) ?_
              simp only [if_pos hqn1, linM, List.cons_append, List.nil_append]
              exact KSub.cons (by repeat (first | exact Pick.hd | apply Pick.tl)) (KSub.cons (by repeat (first | exact Pick.hd | apply Pick.tl)) (KSub.cons (by repeat (first | exact Pick.hd | apply Pick.tl)) (KSub.cons (by repeat (first | exact Pick.hd | apply Pick.tl)) (KSub.valI (by repeat (first | exact Pick.hd | apply Pick.tl)) (by omega) (KSub.cons (by repeat (first | exact Pick.hd | apply Pick.tl)) (KSub.cons (by repeat (first | exact Pick.hd | apply Pick.tl)) (KSub.cons (by repeat (first | exact Pick.hd | apply Pick.tl)) (KSub.refl _))))))))
          · rintro DR r
            by_cases hE : endB H i = true
            case neg => exact fun a w hF hK => (no_bad hK (by rw [hN, if_neg hE, if_neg (by omega)]; simp)).elim
            have hNd : N ≤ H.n := by rw [hN, if_pos hE]; exact dep_le
            simp only [if_pos hNd, List.nil_append]
            refine TQ.blkN ?_
            refine TQ.blkN ?_
            refine TQ.thenN (hY36 _ _ _ ?_)
            refine TW.region ?_
            refine TL.p Pu.ad ?_
            refine TL.p Pu.mv ?_
            refine TL.nil ?_
            refine TQ.thenN (hZ2 (i + 1) (DR :: Ds) _ _ ?_ ?_ (by repeat (first | exact trivial | refine ⟨rfl, ?_⟩ | refine ⟨trivial, ?_⟩)) ?_)
            · refine ⟨by omega, fun j hj => ?_⟩
              by_cases e : j = i
              · subst e; exact hE
              · exact h3 j (by omega)
            · exact (by first | omega | (simp only []; omega) | (simp; omega))
            · exact KSub.cons (by repeat (first | exact Pick.hd | apply Pick.tl)) (KSub.cons (by repeat (first | exact Pick.hd | apply Pick.tl)) (KSub.cons (by repeat (first | exact Pick.hd | apply Pick.tl)) (KSub.cons (by repeat (first | exact Pick.hd | apply Pick.tl)) (KSub.drop (KSub.refl _)))))
          · rintro DR ⟨_, hE⟩
            have hno := herd_no3 hin hE
            refine TW.ret ?_
            refine TQ.blkR ?_
            refine TQ.blkR ?_
            refine TQ.thenR ?_
            refine TQ.thenR ?_
            refine TQ.blkR ?_
            refine TQ.thenR ?_
            refine TQ.retMs (DR :: Ds) ([.blk b2 51 [.pointer none], .blk b3 26 [.int .i64 20]]) Try.results21 ?_ ((RV.c1 ty_sc51 (RV.c1 ty_sc26 .nil))) ?_
            · simp only [defK, List.map_nil, List.map_cons, List.nil_append, List.cons_append]
              exact (by repeat (first | exact KSub.nil | refine KSub.cons (by repeat (first | exact Pick.hd | apply Pick.tl)) ?_ | exact KSub.refl _ | refine KSub.drop ?_))
            exact fun w hw => ⟨((0, 0), (none, 0), (none, 0)), by show Ending.returned _ = Ending.returned (if herdB H = true then _ else _); rw [hno]; rfl, by show Sat _ _ (if herdB H = true then _ else _) _; rw [hno]; exact Sat.nil (hw1.step hw).chg⟩
        · try simp only [decide_eq_true_eq, decide_eq_false_iff_not, Bool.not_eq_true', Bool.not_eq_false', Bool.and_eq_true, Bool.or_eq_true, Bool.and_eq_false_iff, Bool.or_eq_false_iff, Int.not_lt, Int.not_le] at hc6
          obtain rfl : i = H.n := by omega
          refine TW.exit ?_
          refine TQ.thenX ?_
          refine TQ.thenX ?_
          refine TQ.blkX ?_
          refine TQ.thenN (hY32 _ _ _ ?_)
          refine TW.seqD fun Y43 hY43 => ?_
          refine TW.region ?_
          refine TL.p Pu.mv ?_
          first | refine TL.st ty_sz51 ?_ | refine TL.se ty_sz51 ?_
          first | refine TL.st ty_sz26 ?_ | refine TL.se ty_sz26 ?_
          refine TL.nil ?_
          refine TQ.thenN (hY43 _ _ _ ?_)
          refine TW.ret ?_
          refine TQ.retMs (Ds) ([.blk b2 51 [.pointer (some ⟨b5, 0, none⟩)], .blk b3 26 [.int .i64 0]]) Try.results21 ?_ ((RV.c1 ty_sc51 (RV.c1 ty_sc26 .nil))) ?_
          · simp only [defK, List.map_nil, List.map_cons, List.nil_append, List.cons_append]
            exact (by repeat (first | exact KSub.nil | refine KSub.cons (by repeat (first | exact Pick.hd | apply Pick.tl)) ?_ | exact KSub.refl _ | refine KSub.drop ?_))
          have hyes := herd_yes (by omega) h1 h2 h3
          exact fun w hw => ⟨((b5, b4), (Am, cm), (Ak, ck)), by show Ending.returned _ = Ending.returned (if herdB H = true then _ else _); rw [hyes]; rfl, by show Sat _ _ (if herdB H = true then _ else _) _; rw [hyes]; exact (hw1.step hw).sub (KSub.drop (KSub.drop (KSub.refl _)))⟩
end Go.Proofs.Ytlphecckplndnaa
namespace Go.Proofs
open Go.Shelf
def Try.laysSlF6_f37_ren : Go.Shelf.Ren := ⟨fun | 6 => 37 | 15 => 49 | 14 => 48 | 28 => 62 | 29 => 63 | 20 => 54 | 21 => 55 | 22 => 56 | 23 => 57 | 24 => 58 | 25 => 59 | 26 => 60 | 27 => 61 | 46 => 64 | 47 => 65 | 48 => 66 | 49 => 67 | 50 => 68 | 57 => 69 | n => n, fun | 22 => 31 | 24 => 3 | 25 => 87 | 3 => 3 | 39 => 98 | 0 => 0 | 53 => 110 | 55 => 112 | 4 => 4 | 46 => 104 | 45 => 103 | 50 => 59 | 5 => 5 | 9 => 9 | 66 => 113 | 70 => 117 | 76 => 119 | 77 => 120 | n => n, fun | n => n⟩
theorem Try.laysSlF6_f37 : Go.Proofs.SlLaysF.n6 Try.prog Try.laysSlF6_f37_ren := {
  mixed := by kernel_rfl
  f6 := ⟨Try.f37.name, by decide, Try.func37.trans (congrArg some (by kernel_rfl))⟩
  f14 := ⟨Try.f48.name, by decide, Try.func48.trans (congrArg some (by kernel_rfl))⟩
  f15 := Try.func49.trans (congrArg some (by kernel_rfl))
  f20 := ⟨Try.f54.name, by decide, Try.func54.trans (congrArg some (by kernel_rfl))⟩
  f21 := ⟨Try.f55.name, by decide, Try.func55.trans (congrArg some (by kernel_rfl))⟩
  f22 := ⟨Try.f56.name, by decide, Try.func56.trans (congrArg some (by kernel_rfl))⟩
  f23 := ⟨Try.f57.name, by decide, Try.func57.trans (congrArg some (by kernel_rfl))⟩
  f24 := ⟨Try.f58.name, by decide, Try.func58.trans (congrArg some (by kernel_rfl))⟩
  f25 := ⟨Try.f59.name, by decide, Try.func59.trans (congrArg some (by kernel_rfl))⟩
  f26 := ⟨Try.f60.name, by decide, Try.func60.trans (congrArg some (by kernel_rfl))⟩
  f27 := ⟨Try.f61.name, by decide, Try.func61.trans (congrArg some (by kernel_rfl))⟩
  f28 := Try.func62.trans (congrArg some (by kernel_rfl))
  f29 := Try.func63.trans (congrArg some (by kernel_rfl))
  f46 := ⟨Try.f64.name, by decide, Try.func64.trans (congrArg some (by kernel_rfl))⟩
  f47 := Try.func65.trans (congrArg some (by kernel_rfl))
  f48 := Try.func66.trans (congrArg some (by kernel_rfl))
  f49 := ⟨Try.f67.name, by decide, Try.func67.trans (congrArg some (by kernel_rfl))⟩
  f50 := ⟨Try.f68.name, by decide, Try.func68.trans (congrArg some (by kernel_rfl))⟩
  f57 := ⟨Try.f69.name, by decide, Try.func69.trans (congrArg some (by kernel_rfl))⟩
  t0 := Try.underlying0
  a0 := Try.isAgg0
  z0 := Try.sizeOf0
  v0 := Try.zeroValue0
  t3 := Try.underlying3
  a3 := Try.isAgg3
  z3 := Try.sizeOf3
  v3 := Try.zeroValue3
  t4 := Try.underlying4
  a4 := Try.isAgg4
  z4 := Try.sizeOf4
  v4 := Try.zeroValue4
  t5 := Try.underlying5
  a5 := Try.isAgg5
  z5 := Try.sizeOf5
  v5 := Try.zeroValue5
  t9 := Try.underlying9
  a9 := Try.isAgg9
  z9 := Try.sizeOf9
  v9 := Try.zeroValue9
  t22 := Try.underlying31
  a22 := Try.isAgg31
  z22 := Try.sizeOf31
  v22 := Try.zeroValue31
  a24 := Try.isAgg3
  z24 := Try.sizeOf3
  t25 := Try.underlying87
  a25 := Try.isAgg87
  z25 := Try.sizeOf87
  v25 := Try.zeroValue87
  t39 := Try.underlying98
  a39 := Try.isAgg98
  z39 := Try.sizeOf98
  v39 := Try.zeroValue98
  t45 := Try.underlying103
  a45 := Try.isAgg103
  z45 := Try.sizeOf103
  v45 := Try.zeroValue103
  t46 := Try.underlying104
  a46 := Try.isAgg104
  z46 := Try.sizeOf104
  v46 := Try.zeroValue104
  t50 := Try.underlying59
  a50 := Try.isAgg59
  z50 := Try.sizeOf59
  v50 := Try.zeroValue59
  t53 := Try.underlying110
  a53 := Try.isAgg110
  z53 := Try.sizeOf110
  v53 := Try.zeroValue110
  t55 := Try.underlying112
  a55 := Try.isAgg112
  z55 := Try.sizeOf112
  v55 := Try.zeroValue112
  t66 := Try.underlying113
  a66 := Try.isAgg113
  z66 := Try.sizeOf113
  v66 := Try.zeroValue113
  t70 := Try.underlying117
  a70 := Try.isAgg117
  z70 := Try.sizeOf117
  v70 := Try.zeroValue117
  t76 := Try.underlying119
  a76 := Try.isAgg119
  z76 := Try.sizeOf119
  v76 := Try.zeroValue119
  t77 := Try.underlying120
  a77 := Try.isAgg120
  z77 := Try.sizeOf120
  v77 := Try.zeroValue120 }
open Go.RowKit Go.Lib Go.Sort in
theorem Try.slices_SortFunc {α : Type} [Inhabited α] (enc : α → Value) (h1 : OneCell enc) (cf : α → α → Int) (hO : SWO (ltOf cf)) (g : Nat) (cb : Array Value) (blk off cap : Nat) (d : Array α) (w : World) (eg : ∀ args w, (callFunc g args).run Try.prog w = .ok (.enter g args) w) (hcmp : CmpLays1 Try.prog g cb enc cf blk off d.size w) (hH : Holds enc w blk off d) (hblk : blk < w.heap.size) (hsz : d.size < 4611686018427387904) :
    Calls Try.prog 37 #[.slice (some ⟨blk, off, none⟩) d.size cap, .func (.func g) #[] cb] w fun e w' =>
      e = .returned (.tuple #[]) ∧ ∃ d' n os, PermIn 0 d.size d d' ∧ SortedIn (ltOf cf) 0 d.size d' ∧ w' = sortWorld enc w blk off n d' os := Any.slices_SortFunc Try.laysSlF6_f37 enc h1 cf hO g cb blk off cap d w eg hcmp hH hblk hsz
def Try.laysSlF06_f37_ren : Go.Shelf.Ren := ⟨fun | 6 => 37 | 15 => 49 | 14 => 48 | 28 => 62 | 29 => 63 | 20 => 54 | 21 => 55 | 22 => 56 | 23 => 57 | 24 => 58 | 25 => 59 | 26 => 60 | 27 => 61 | 46 => 64 | 47 => 65 | 48 => 66 | 49 => 67 | 50 => 68 | 57 => 69 | n => n, fun | 22 => 31 | 24 => 3 | 25 => 87 | 3 => 3 | 39 => 98 | 0 => 0 | 53 => 110 | 55 => 112 | 4 => 4 | 46 => 104 | 45 => 103 | 50 => 59 | 5 => 5 | 9 => 9 | 66 => 113 | 70 => 117 | 76 => 119 | 77 => 120 | n => n, fun | n => n⟩
theorem Try.laysSlF06_f37 : Go.Proofs.SlLaysF0.n6 Try.prog Try.laysSlF06_f37_ren := {
  mixed := by kernel_rfl
  f6 := ⟨Try.f37.name, by decide, Try.func37.trans (congrArg some (by kernel_rfl))⟩
  f14 := ⟨Try.f48.name, by decide, Try.func48.trans (congrArg some (by kernel_rfl))⟩
  f15 := Try.func49.trans (congrArg some (by kernel_rfl))
  f20 := ⟨Try.f54.name, by decide, Try.func54.trans (congrArg some (by kernel_rfl))⟩
  f21 := ⟨Try.f55.name, by decide, Try.func55.trans (congrArg some (by kernel_rfl))⟩
  f22 := ⟨Try.f56.name, by decide, Try.func56.trans (congrArg some (by kernel_rfl))⟩
  f23 := ⟨Try.f57.name, by decide, Try.func57.trans (congrArg some (by kernel_rfl))⟩
  f24 := ⟨Try.f58.name, by decide, Try.func58.trans (congrArg some (by kernel_rfl))⟩
  f25 := ⟨Try.f59.name, by decide, Try.func59.trans (congrArg some (by kernel_rfl))⟩
  f26 := ⟨Try.f60.name, by decide, Try.func60.trans (congrArg some (by kernel_rfl))⟩
  f27 := ⟨Try.f61.name, by decide, Try.func61.trans (congrArg some (by kernel_rfl))⟩
  f28 := Try.func62.trans (congrArg some (by kernel_rfl))
  f29 := Try.func63.trans (congrArg some (by kernel_rfl))
  f46 := ⟨Try.f64.name, by decide, Try.func64.trans (congrArg some (by kernel_rfl))⟩
  f47 := Try.func65.trans (congrArg some (by kernel_rfl))
  f48 := Try.func66.trans (congrArg some (by kernel_rfl))
  f49 := ⟨Try.f67.name, by decide, Try.func67.trans (congrArg some (by kernel_rfl))⟩
  f50 := ⟨Try.f68.name, by decide, Try.func68.trans (congrArg some (by kernel_rfl))⟩
  f57 := ⟨Try.f69.name, by decide, Try.func69.trans (congrArg some (by kernel_rfl))⟩
  t0 := Try.underlying0
  a0 := Try.isAgg0
  z0 := Try.sizeOf0
  v0 := Try.zeroValue0
  t3 := Try.underlying3
  a3 := Try.isAgg3
  z3 := Try.sizeOf3
  v3 := Try.zeroValue3
  t4 := Try.underlying4
  a4 := Try.isAgg4
  z4 := Try.sizeOf4
  v4 := Try.zeroValue4
  t5 := Try.underlying5
  a5 := Try.isAgg5
  z5 := Try.sizeOf5
  v5 := Try.zeroValue5
  t9 := Try.underlying9
  a9 := Try.isAgg9
  z9 := Try.sizeOf9
  v9 := Try.zeroValue9
  t22 := Try.underlying31
  a22 := Try.isAgg31
  z22 := Try.sizeOf31
  v22 := Try.zeroValue31
  t25 := Try.underlying87
  a25 := Try.isAgg87
  z25 := Try.sizeOf87
  v25 := Try.zeroValue87
  t39 := Try.underlying98
  a39 := Try.isAgg98
  z39 := Try.sizeOf98
  v39 := Try.zeroValue98
  t45 := Try.underlying103
  a45 := Try.isAgg103
  z45 := Try.sizeOf103
  v45 := Try.zeroValue103
  t46 := Try.underlying104
  a46 := Try.isAgg104
  z46 := Try.sizeOf104
  v46 := Try.zeroValue104
  t50 := Try.underlying59
  a50 := Try.isAgg59
  z50 := Try.sizeOf59
  v50 := Try.zeroValue59
  t53 := Try.underlying110
  a53 := Try.isAgg110
  z53 := Try.sizeOf110
  v53 := Try.zeroValue110
  t55 := Try.underlying112
  a55 := Try.isAgg112
  z55 := Try.sizeOf112
  v55 := Try.zeroValue112
  t66 := Try.underlying113
  a66 := Try.isAgg113
  z66 := Try.sizeOf113
  v66 := Try.zeroValue113
  t70 := Try.underlying117
  a70 := Try.isAgg117
  z70 := Try.sizeOf117
  v70 := Try.zeroValue117
  t76 := Try.underlying119
  a76 := Try.isAgg119
  z76 := Try.sizeOf119
  v76 := Try.zeroValue119
  t77 := Try.underlying120
  a77 := Try.isAgg120
  z77 := Try.sizeOf120
  v77 := Try.zeroValue120 }
open Go.RowKit Go.Lib Go.Sort in
theorem Try.slices_SortFunc_none {α : Type} [Inhabited α] (p : Option Addr) (cap : Nat) (fv : Value) (w : World) :
    Calls Try.prog 37 #[.slice p 0 cap, fv] w fun e w' => e = .returned (.tuple #[]) ∧ w' = w := AnyF.slices_SortFunc_none Try.laysSlF06_f37 p cap fv w
end Go.Proofs
namespace Go.Proofs.Ytlphecckplndnaa
set_option linter.all false
set_option linter.unusedVariables false
set_option linter.unusedSimpArgs false
open Go.RowKit
def iL (L : List Int) : Nat → List Value := fun k => [.int .i64 (L.getD k 0)]
theorem iL_lt {L : List Int} {k : Nat} (h : k < L.length) : L[k]? = some (L.getD k 0) := by
  rw [List.getD_eq_getElem?_getD, List.getElem?_eq_getElem h]
  rfl
def toI (v : Nat → Int) (n : Nat) : List Int := (List.range n).map v
theorem toI_len {v : Nat → Int} {n : Nat} : (toI v n).length = n := by simp [toI]
theorem toI_get {v : Nat → Int} {n k : Nat} (h : k < n) : (toI v n).getD k 0 = v k := by
  simp [toI, List.getD_eq_getElem?_getD, h]
theorem take_succ {L : List Int} {k : Nat} (h : k < L.length) : L.take (k + 1) = L.take k ++ [L.getD k 0] := by
  rw [List.take_succ, iL_lt h]
  rfl
theorem Sat.own1 {w : World} {A : Option Addr} {n cp : Nat} {E : TypeId} {sz : Nat} {r : Nat → List Value} (h : OwnR w A n cp E sz r) : Sat (feet [.own A n cp E sz r]) w [.own A n cp E sz r] w :=
  ⟨Chg.refl _ _, by cases A <;> simp [feet, Fact.foot], fun b hb => .inl hb, by intro φ hφ; obtain rfl := List.mem_singleton.1 hφ; exact h⟩
theorem own_putRow {w : World} {G cp : Nat} {E : TypeId} {L M : List Int} (os : Array Obj) (n : Nat) (hl : M.length = L.length) (h : OwnR w (some ⟨G, 0, none⟩) L.length cp E 1 (iL L)) :
    Sat [G] w [.own (some ⟨G, 0, none⟩) L.length cp E 1 (iL M)] (Sort.grow (Sort.putRow (Value.int .i64) (Sort.ahead w n) G 0 M.toArray) os) := by
  rcases h.own.2 with ⟨e, _⟩ | ⟨g, cap, cur, e, hg, hh, hnc, hcm, hcs, ht⟩
  · cases e
  · simp only [Value.slice.injEq, Option.some.injEq, Addr.mk.injEq, and_true, true_and] at e
    obtain ⟨rfl, rfl⟩ := e
    have hlt := lt_of_get hh
    have hsz : L.length * 1 ≤ cur.size := by rw [hcs]; exact Nat.mul_le_mul_right _ hnc
    have hheap : (Sort.putRow (Value.int .i64) (Sort.ahead w n) G 0 M.toArray).heap = w.heap.modify G (Sort.onCells (Sort.putCells (Value.int .i64) 0 M.toArray)) := rfl
    have hget : (Sort.grow (Sort.putRow (Value.int .i64) (Sort.ahead w n) G 0 M.toArray) os).heap[G]? = some (.cells (Sort.putCells (Value.int .i64) 0 M.toArray cur) E (0, 0)) := by
      show ((Sort.putRow (Value.int .i64) (Sort.ahead w n) G 0 M.toArray).heap ++ os)[G]? = _
      rw [hheap, Array.getElem?_append_left (by simpa using hlt), Array.getElem?_modify, if_pos rfl, hh]
      rfl
    have hps : (Sort.putCells (Value.int .i64) 0 M.toArray cur).size = cur.size := by simp [Sort.putCells]
    refine Sat.one ⟨rfl, rfl, rfl, ?_, fun k hk hS => ?_⟩ (by simp [Fact.foot]) (fun q hq => .inl hq) ⟨⟨by rw [flat_length], .inr ⟨G, cp, _, rfl, hg, hget, hnc, hcm, by rw [hps, hcs], ?_⟩⟩, fun i hi => rfl⟩
    · show w.heap.size ≤ ((Sort.putRow (Value.int .i64) (Sort.ahead w n) G 0 M.toArray).heap ++ os).size
      rw [hheap]
      simp
    · show ((Sort.putRow (Value.int .i64) (Sort.ahead w n) G 0 M.toArray).heap ++ os)[k]? = _
      rw [hheap, Array.getElem?_append_left (by simpa using hk), Array.getElem?_modify, if_neg (fun e => hS (by simp [e]))]
    · apply List.ext_getElem?
      intro k
      by_cases hk : k < L.length * 1
      · have h1 := flat_get (f := rowF (iL M)) (n := L.length) (sz := 1) (i := k) (j := 0) (by omega) (by omega)
        rw [Nat.mul_one, Nat.add_zero] at h1
        rw [h1, List.getElem?_take, if_pos hk]
        simp only [Sort.putCells, Array.getElem?_toList, Array.getElem?_mapIdx, Array.getElem?_eq_getElem (show k < cur.size by omega), Option.map_some]
        have hk2 : k < M.length := by omega
        rw [if_pos ⟨Nat.zero_le _, by simpa using hk2⟩]
        simp [rowF, iL, List.getD_eq_getElem?_getD, hk2]
      · rw [List.getElem?_eq_none (by rw [List.length_take]; omega), List.getElem?_eq_none (by rw [flat_length]; omega)]
end Go.Proofs.Ytlphecckplndnaa
namespace Go.Proofs.Ytlphecckplndnaa
set_option linter.all false
set_option linter.unusedVariables false
set_option linter.unusedSimpArgs false
open Go.RowKit Go.Lib Go.Sort
def cmpN (x y : Int) : Int := if x < y then -1 else if y < x then 1 else 0
set_option maxHeartbeats 1000000 in
theorem nan_exact (x : Int) (w : World) : Calls Try.prog 50 #[.int .i64 x] w fun e w' => e = .returned (.bool false) ∧ w' = w := by
  go_enter Try.func50, Try.ntmps50
  go_wp2
  go_ret
  exact ⟨rfl, rfl⟩
set_option maxHeartbeats 1000000 in
theorem cmp_exact (x y : Int) (w : World) : Calls Try.prog 39 #[.int .i64 x, .int .i64 y] w fun e w' => e = .returned (.int .i64 (cmpN x y)) ∧ w' = w := by
  go_enter Try.func39, Try.ntmps39
  go_wp2_with (go_at_call 50; refine (nan_exact _ _).mono ?_; rintro e w' ⟨rfl, rfl⟩)
  all_goals (go_ret; refine ⟨congrArg (fun z => Ending.returned (Value.int .i64 z)) ?_, rfl⟩; unfold cmpN; (repeat' split) <;> omega)
set_option maxHeartbeats 1000000 in
theorem dep_exact {W : World} {bd g o n cd x y : Nat} {dx dy : Int} (hn : n ≤ 1000000) (hx : x < n) (hy : y < n) (h0 : W.cell? ⟨bd, 0, none⟩ = some (.slice (some ⟨g, o, none⟩) n cd)) (h1 : W.cell? ⟨g, o + x, none⟩ = some (.int .i64 dx)) (h2 : W.cell? ⟨g, o + y, none⟩ = some (.int .i64 dy)) :
    Calls Try.prog 38 #[.int .i64 (x : Int), .int .i64 (y : Int), .pointer (some ⟨bd, 0, none⟩)] W fun e w' => e = .returned (.int .i64 (cmpN dy dx)) ∧ ∃ q, w' = W.drewN q := by
  go_enter Try.func38, Try.ntmps38
  go_wp2
  go_quiet (first | (go_at_call 39; refine Calls.quiet_of_same (cmp_exact _ _ _)))
  go_wp2
  go_ret
  exact ⟨rfl, nq, rfl⟩
def depF {k : Nat} (dep : Nat → Nat) (x y : Fin (k + 1)) : Int := cmpN (dep y.1) (dep x.1)
theorem depF_lt {k : Nat} {dep : Nat → Nat} {x y : Fin (k + 1)} : ltOf (depF dep) x y = decide (dep y.1 < dep x.1) := by
  unfold ltOf depF cmpN
  by_cases h : (dep y.1 : Int) < (dep x.1 : Int)
  · rw [if_pos h]
    simp only [decide_eq_decide]
    omega
  · rw [if_neg h]
    split
    · simp only [decide_eq_decide]; omega
    · simp only [decide_eq_decide]; omega
theorem depF_swo {k : Nat} {dep : Nat → Nat} : Sort.SWO (ltOf (depF (k := k) dep)) := by
  refine ⟨fun x => ?_, fun x y z h1 h2 => ?_, fun x y z h1 h2 => ?_⟩
  · rw [depF_lt]; simp
  · rw [depF_lt] at *
    simp only [decide_eq_true_eq] at *
    omega
  · rw [depF_lt] at *
    simp only [decide_eq_false_iff_not] at *
    omega
theorem putCells_fin {k : Nat} {d : Array (Fin (k + 1))} {M : List Int} (hM : M = d.toList.map fun x => (x.1 : Int)) (c : Array Value) : Sort.putCells (fun x : Fin (k + 1) => Value.int .i64 (x.1 : Int)) 0 d c = Sort.putCells (Value.int .i64) 0 M.toArray c := by
  unfold Sort.putCells
  congr 1
  funext q x
  have hs : M.toArray.size = d.size := by rw [hM]; simp
  rw [hs]
  by_cases h : 0 ≤ q ∧ q < 0 + d.size
  · rw [if_pos h, if_pos h]
    have hq : q - 0 < d.size := by omega
    have hq2 : q - 0 < M.toArray.size := by omega
    rw [getElem!_pos d _ hq, getElem!_pos M.toArray _ hq2]
    simp [hM]
  · rw [if_neg h, if_neg h]
abbrev DpX (dep : Nat → Nat) (n : Nat) := { L : List Nat // L.Perm (List.range n) ∧ L.Pairwise fun a b => dep b ≤ dep a }
set_option maxHeartbeats 1000000 in
theorem sortDep_any {w : World} {A Ad : Option Addr} {n cp bd cd : Nat} {dep : Nat → Nat} (hn : n ≤ 1000) (h : OwnR w A n cp 3 1 (fun j => [.int .i64 (j : Int)])) (hB : OldB w bd [.slice Ad n cd]) (hR : RdR w 1 Ad n (fun j => [.int .i64 (dep j : Int)])) (hA1 : Apart (feet [.own A n cp 3 1 (fun j => [.int .i64 (j : Int)])]) (some ⟨bd, 0, none⟩)) (hA2 : 0 < n → Apart (feet [.own A n cp 3 1 (fun j => [.int .i64 (j : Int)])]) Ad) :
    CallsK Try.prog 37 #[.slice A n cp, .func (.func 38) #[] #[.pointer (some ⟨bd, 0, none⟩)]] [.own A n cp 3 1 (fun j => [.int .i64 (j : Int)])] w (DpX dep n) (fun _ => .tuple #[]) (fun L => [.own A n cp 3 1 (fun j => [.int .i64 ((L.1.getD j 0 : Nat) : Int)])]) := by
  cases n with
  | zero =>
    refine (Try.slices_SortFunc_none (α := Int) A cp _ w).mono ?_
    rintro e' w' ⟨rfl, rfl⟩
    refine ⟨⟨[], List.Perm.refl _, List.Pairwise.nil⟩, rfl, ?_⟩
    exact Sat.sub (Sat.own1 h) (KSub.own Pick.hd (fun i hi => by omega) KSub.nil)
  | succ k =>
    rcases h.own.2 with ⟨e, h0⟩ | ⟨g, cap, cur, e, hg, hh, hnc, hcm, hcs, ht⟩
    · omega
    · simp only [Value.slice.injEq] at e
      obtain ⟨rfl, _, rfl⟩ := e
      have hlt := lt_of_get hh
      obtain ⟨d, hd⟩ : ∃ d : Array (Fin (k + 1)), d = Array.ofFn id := ⟨_, rfl⟩
      have hds : d.size = k + 1 := by rw [hd]; simp
      have hdj : ∀ j, j < k + 1 → (d[j]!).1 = j := fun j hj => by
        rw [getElem!_pos d j (by omega)]
        simp [hd]
      have hH : Sort.Holds (fun x : Fin (k + 1) => Value.int .i64 (x.1 : Int)) w g 0 d := fun j hj => by
        obtain ⟨g', c', e, _, _, _, hcell, hfr⟩ := h.own.form1 (by omega)
        cases e
        refine ⟨?_, hfr _⟩
        have := hcell j 0 (by omega) (by omega)
        rw [Nat.mul_one, Nat.add_zero] at this
        rw [Nat.zero_add, this]
        simp [rowF, hdj j (by omega)]
      obtain ⟨gd, od, rfl, hgd, hcd⟩ := hR.rd (by omega)
      have hbd : bd ≠ g := fun e => hA1 bd rfl (by simp [feet, Fact.foot, e])
      have hgd2 : gd ≠ g := fun e => hA2 (by omega) gd rfl (by simp [feet, Fact.foot, e])
      have hcmp : CmpLays1 Try.prog 38 #[.pointer (some ⟨bd, 0, none⟩)] (fun x : Fin (k + 1) => Value.int .i64 (x.1 : Int)) (depF dep) g 0 d.size w := by
        refine CmpReads.lays fun m os dk hs x y => ?_
        have hc : ∀ b o v, b < w.heap.size → b ≠ g → w.cell? ⟨b, o, none⟩ = some v → (sortWorld (fun x : Fin (k + 1) => Value.int .i64 (x.1 : Int)) w g 0 m dk os).cell? ⟨b, o, none⟩ = some v := fun b o v h1 h2 h3 => by
          rw [← h3]
          refine World.cell?_of_block ?_
          show (w.heap.modify g _ ++ os)[b]? = w.heap[b]?
          rw [Array.getElem?_append_left (by simpa using h1), Array.getElem?_modify, if_neg (fun e => h2 e.symm)]
        exact dep_exact (W := sortWorld (fun x : Fin (k + 1) => Value.int .i64 (x.1 : Int)) w g 0 m dk os) (o := od) (by omega) x.2 y.2 (hc _ _ _ hB.1 hbd (hB.2 0 _ rfl)) (hc _ _ _ hgd hgd2 (by have := hcd x.1 0 x.2 (by omega); simpa [rowF] using this)) (hc _ _ _ hgd hgd2 (by have := hcd y.1 0 y.2 (by omega); simpa [rowF] using this))
      have hs := Try.slices_SortFunc (fun x : Fin (k + 1) => Value.int .i64 (x.1 : Int)) (fun _ => rfl) (depF dep) depF_swo 38 #[.pointer (some ⟨bd, 0, none⟩)] g 0 cp d w (enters Try.func38 rfl rfl) hcmp hH hlt (by omega)
      rw [hds] at hs
      refine hs.mono ?_
      rintro e' w' ⟨rfl, d', n, os, hp, hso, rfl⟩
      have hs' : d'.size = k + 1 := by rw [hp.1, hds]
      refine ⟨⟨d'.toList.map (·.1), ?_, ?_⟩, rfl, ?_⟩
      · have h1 := hp.2.2
        have e1 : d'.extract 0 (k + 1) = d' := (congrArg (fun z => d'.extract 0 z) hs'.symm).trans (by simp)
        have e2 : d.extract 0 (k + 1) = d := (congrArg (fun z => d.extract 0 z) hds.symm).trans (by simp)
        rw [e1, e2] at h1
        refine (h1.map (·.1)).trans (List.Perm.of_eq ?_)
        apply List.ext_getElem
        · rw [List.length_map, Array.length_toList, hds, List.length_range]
        · intro i h2 h3
          have hi : i < d.size := by rw [List.length_map, Array.length_toList] at h2; exact h2
          have h4 := hdj i (by omega)
          rw [getElem!_pos d i hi] at h4
          rw [List.getElem_map, Array.getElem_toList, List.getElem_range]
          exact h4
      · rw [List.pairwise_map, List.pairwise_iff_getElem]
        intro i j hi hj hij
        have h1 := hso i j (Nat.zero_le _) hij (by rw [Array.length_toList] at hj; omega)
        rw [depF_lt] at h1
        simp only [decide_eq_false_iff_not] at h1
        rw [Array.length_toList] at hi hj
        rw [getElem!_pos d' j hj, getElem!_pos d' i hi] at h1
        simp only [Array.getElem_toList]
        omega
      · obtain ⟨M, hM⟩ : ∃ M : List Int, M = d'.toList.map fun x => (x.1 : Int) := ⟨_, rfl⟩
        have hlen : (toI (fun j => (j : Int)) (k + 1)).length = k + 1 := toI_len
        have hMl : M.length = (toI (fun j => (j : Int)) (k + 1)).length := by rw [hM, hlen, List.length_map, Array.length_toList, hs']
        have h' : OwnR w (some ⟨g, 0, none⟩) (toI (fun j => (j : Int)) (k + 1)).length cp 3 1 (iL (toI (fun j => (j : Int)) (k + 1))) := by
          rw [hlen]
          have he : ∀ i, i < k + 1 → [Value.int .i64 (i : Int)] = iL (toI (fun j => (j : Int)) (k + 1)) i := fun i hi => by unfold iL; rw [toI_get hi]
          exact ⟨Own.congr h.own fun i j hi hj => by simp only [rowF, he i hi], fun i hi => rfl⟩
        have hw := own_putRow os n hMl h'
        have e : sortWorld (fun x : Fin (k + 1) => Value.int .i64 (x.1 : Int)) w g 0 n d' os = Sort.grow (Sort.putRow (Value.int .i64) (Sort.ahead w n) g 0 M.toArray) os := by
          unfold sortWorld Sort.putRow
          rw [show Sort.putCells (fun x : Fin (k + 1) => Value.int .i64 (x.1 : Int)) 0 d' = Sort.putCells (Value.int .i64) 0 M.toArray from funext (putCells_fin hM)]
        rw [e]
        rw [hlen] at hw
        refine Sat.sub hw (KSub.own Pick.hd (fun i hi => ?_) KSub.nil)
        unfold iL
        have hi2 : i < d'.toList.length := by rw [Array.length_toList, hs']; exact hi
        have hi3 : i < d'.size := by omega
        simp [hM, List.getD_eq_getElem?_getD, hi3]
end Go.Proofs.Ytlphecckplndnaa
