/-
  What is left of a pack, as the reference reckons it.
-/
import Derived.Test.YtagcnokaajinlaaDoorLoadA
namespace Go.Proofs.YtagcnokaajinlaaDoor
set_option linter.all false
set_option linter.unusedVariables false
set_option linter.unusedSimpArgs false
open Go.RowKit
theorem mulB {a b A B : Int} (ha : 0 ≤ a) (hA : a ≤ A) (hb : 0 ≤ b) (hB : b ≤ B) : 0 ≤ a * b ∧ a * b ≤ A * B :=
  ⟨Int.mul_nonneg ha hb, Int.mul_le_mul hA hB hb (Int.le_trans ha hA)⟩
/-- What is left, lost, and known of whether it breaks: left, lost, broken. -/
def restV (f : Nat → Int) : List Int :=
  if f 0 = 3 then [max 0 (f 1 - f 8 * f 10), max 0 (f 2 - f 7 * f 10), min (f 1) (f 7 * f 10), min (f 2) (f 8 * f 10), 0]
  else if f 0 = 2 ∨ f 9 < f 3 then [f 1, f 2, 0, 0, 0]
  else if f 9 < f 4 then [f 1 * (1000 - f 6) / 1000, f 2, 0, (f 2 * f 6 + 999) / 1000, 1]
  else [f 1 * (1000 - f 6) / 1000, (f 2 * (1000 - f 5) + 999) / 1000, f 1 * f 5 / 1000, (f 2 * f 6 + 999) / 1000, 2]
def restC (l : List Int) : List Value := [.agg #[.int .i64 (l.getD 0 0), .int .i64 (l.getD 1 0)], .agg #[.int .i64 (l.getD 2 0), .int .i64 (l.getD 3 0)], .int .u8 (l.getD 4 0)]
def okF (f : Nat → Int) : Prop := 0 ≤ f 1 ∧ f 1 ≤ f 2 ∧ f 2 ≤ 1000000 ∧ 0 ≤ f 9 ∧ f 9 ≤ 6000000 ∧ 0 ≤ f 10 ∧ f 10 ≤ 100000
theorem packOk_iff (f : Nat → Int) : packOk f = true ↔ okF f ∧
    ((f 0 = 1 ∧ 1 ≤ f 3 ∧ f 3 ≤ f 4 ∧ f 4 ≤ 100000 ∧ 0 ≤ f 5 ∧ f 5 ≤ f 6 ∧ f 6 ≤ 1000 ∧ f 7 = 0 ∧ f 8 = 0) ∨
     (f 0 = 2 ∧ f 3 = 0 ∧ f 4 = 0 ∧ f 5 = 0 ∧ f 6 = 0 ∧ f 7 = 0 ∧ f 8 = 0) ∨
     (f 0 = 3 ∧ f 3 = 0 ∧ f 4 = 0 ∧ f 5 = 0 ∧ f 6 = 0 ∧ 0 ≤ f 7 ∧ f 7 ≤ f 8 ∧ f 8 ≤ 1000000)) := by
  unfold packOk okF ordB5 inB5 nilB
  split
  · simp only [Bool.and_eq_true, decide_eq_true_eq]; omega
  · split
    · simp only [Bool.and_eq_true, decide_eq_true_eq]; omega
    · simp only [Bool.and_eq_true, decide_eq_true_eq]; omega
set_option maxRecDepth 100000 in
theorem refrest_any (f : Nat → Int) (w : World) (hk : packOk f = true) :
    Calls Tryd.prog 28 #[.agg (packL f).toArray] w (Ret w (.tuple (restC (restV f)).toArray)) := by
  obtain ⟨⟨h1, h2, h3, h4, h5, h6, h7⟩, hkind⟩ := (packOk_iff f).1 hk
  have m1 : 0 ≤ f 7 * f 10 ∧ f 7 * f 10 ≤ 1000000 * 100000 := mulB (by omega) (by omega) (by omega) (by omega)
  have m2 : 0 ≤ f 8 * f 10 ∧ f 8 * f 10 ≤ 1000000 * 100000 := mulB (by omega) (by omega) (by omega) (by omega)
  refine K_enter (S := []) (K := []) Tryd.func28 rfl Tryd.ntmps28 rfl (Sat.start _) ?_
  refine TW.seq fun Y1 hY1 => ?_
  refine TW.region ?_
  refine TL.m Mk.bx ?_
  intro b1
  refine TL.m (Mk.al ty_zr23) ?_
  intro b2
  refine TL.m (Mk.al ty_zr23) ?_
  intro b3
  refine TL.p Pu.as ?_
  refine TL.nil ?_
  refine TQ.thenN (hY1 _ _ ?_)
  refine TW.seq fun Y2 hY2 => ?_
  refine TW.region ?_
  refine TL.p (by first | exact Pu.fb ty_fa25_1 | exact Pu.fe ty_fa25_1) ?_
  refine TL.p (Pu.lds ty_ag23) ?_
  refine TL.m (Mk.al ty_zr23) ?_
  intro b4
  first | refine TL.st ty_sz23 ?_ | refine TL.se ty_sz23 ?_
  refine TL.nil ?_
  refine TQ.thenN (hY2 _ _ ?_)
  refine TW.seq fun Y3 hY3 => ?_
  refine TW.seq fun Y4 hY4 => ?_
  refine TW.region ?_
  refine TL.p (by first | exact Pu.fb ty_fa25_0 | exact Pu.fe ty_fa25_0) ?_
  refine TL.p (Pu.ld ty_sc5) ?_
  refine TL.p Pu.eq ?_
  refine TL.nil ?_
  refine TQ.thenN (hY4 _ _ ?_)
  refine TW.cond rfl (fun hc0 => ?_) (fun hc0 => ?_)
  · try simp only [decide_eq_true_eq, decide_eq_false_iff_not, Bool.not_eq_true', Bool.not_eq_false', Bool.and_eq_true, Bool.or_eq_true, Bool.and_eq_false_iff, Bool.or_eq_false_iff, Int.not_lt, Int.not_le] at hc0
    refine TW.seq fun Y5 hY5 => ?_
    refine TW.dw 14 ?_
    refine RK.tk (by first | exact Pu.fb ty_fa25_4 | exact Pu.fe ty_fa25_4) ?_
    refine RK.tk (by first | exact Pu.fb ty_fa23_0 | exact Pu.fe ty_fa23_0) ?_
    refine RK.tk (Pu.ld ty_sc3) ?_
    refine RK.tk (by first | exact Pu.fb ty_fa25_6 | exact Pu.fe ty_fa25_6) ?_
    refine RK.tk (Pu.ld ty_sc3) ?_
    refine RK.tk Pu.ml ?_
    refine RK.tk (by first | exact Pu.fb ty_fa25_4 | exact Pu.fe ty_fa25_4) ?_
    refine RK.tk (by first | exact Pu.fb ty_fa23_1 | exact Pu.fe ty_fa23_1) ?_
    refine RK.tk (Pu.ld ty_sc3) ?_
    refine RK.tk (by first | exact Pu.fb ty_fa25_6 | exact Pu.fe ty_fa25_6) ?_
    refine RK.tk (Pu.ld ty_sc3) ?_
    refine RK.tk Pu.ml ?_
    refine RK.tk Pu.as ?_
    refine RK.tk Pu.as ?_
    refine RK.ch [] ?_ trivial
    refine WK.n ?_
    refine TL.nil ?_
    refine TQ.thenN (hY5 _ _ ?_)
    refine TW.seq fun Y6 hY6 => ?_
    refine TW.rf (Drop.blk 2 rfl (by repeat (first | exact Pick.hd | apply Pick.tl)) (Drop.blk 3 rfl (by repeat (first | exact Pick.hd | apply Pick.tl)) Drop.done)) ?_
    refine RF.tk (by first | exact Pu.fb ty_fa23_0 | exact Pu.fe ty_fa23_0) ?_
    refine RF.tk (Pu.ld ty_sc3) ?_
    refine RF.tk Pu.mv ?_
    refine RF.tk Pu.sb ?_
    refine RF.tk Pu.mx ?_
    refine RF.tk (by first | exact Pu.fb ty_fa23_1 | exact Pu.fe ty_fa23_1) ?_
    refine RF.tk (Pu.ld ty_sc3) ?_
    refine RF.tk Pu.mv ?_
    refine RF.tk Pu.sb ?_
    refine RF.tk Pu.mx ?_
    refine RF.tk Pu.bd ?_
    refine RF.tk (by first | exact Pu.fb ty_fa23_0 | exact Pu.fe ty_fa23_0) ?_
    refine RF.tk (Pu.ld ty_sc3) ?_
    refine RF.tk Pu.mv ?_
    refine RF.tk Pu.mn ?_
    refine RF.tk (by first | exact Pu.fb ty_fa23_1 | exact Pu.fe ty_fa23_1) ?_
    refine RF.tk (Pu.ld ty_sc3) ?_
    refine RF.tk Pu.mv ?_
    refine RF.tk Pu.mn ?_
    refine RF.tk Pu.bd ?_
    refine RF.ks ?_
    refine RF.ks ?_
    refine RF.ks ?_
    refine RF.go ?_
    refine RG.step fun X1 hX1 => ?_
    first | refine TL.st ty_sz23 ?_ | refine TL.se ty_sz23 ?_
    refine TL.nil ?_
    refine TQ.nxt (hX1 _ _ (by repeat (first | exact HasL.nil | refine HasL.cons (by repeat (first | exact Pick.hd | apply Pick.tl)) ?_)) ?_)
    refine RG.step fun X2 hX2 => ?_
    first | refine TL.st ty_sz23 ?_ | refine TL.se ty_sz23 ?_
    refine TL.nil ?_
    refine TQ.nxt (hX2 _ _ (by repeat (first | exact HasL.nil | refine HasL.cons (by repeat (first | exact Pick.hd | apply Pick.tl)) ?_)) ?_)
    refine RG.step fun X3 hX3 => ?_
    refine TL.p Pu.as ?_
    refine TL.nil ?_
    refine TQ.nxt (hX3 _ _ (by repeat (first | exact HasL.nil | refine HasL.cons (by repeat (first | exact Pick.hd | apply Pick.tl)) ?_)) ?_)
    refine RG.nil ?_
    refine TQ.thenN (hY6 _ _ ?_)
    refine TW.ret ?_
    refine TQ.thenR ?_
    refine TQ.ret Tryd.results28 rfl ((RV.cs ty_ag23 (RV.cs ty_ag23 (.tmp rfl .nil)))) ?_
    exact fun w hw => ⟨by unfold restV; rw [if_pos hc0]; rfl, Chg.ext hw.chg⟩
  · try simp only [decide_eq_true_eq, decide_eq_false_iff_not, Bool.not_eq_true', Bool.not_eq_false', Bool.and_eq_true, Bool.or_eq_true, Bool.and_eq_false_iff, Bool.or_eq_false_iff, Int.not_lt, Int.not_le] at hc0
    have m3 : 0 ≤ f 1 * (1000 - f 6) ∧ f 1 * (1000 - f 6) ≤ 1000000 * 1000 := mulB (by omega) (by omega) (by omega) (by omega)
    have m4 : 0 ≤ f 2 * f 6 ∧ f 2 * f 6 ≤ 1000000 * 1000 := mulB (by omega) (by omega) (by omega) (by omega)
    have m5 : 0 ≤ f 2 * (1000 - f 5) ∧ f 2 * (1000 - f 5) ≤ 1000000 * 1000 := mulB (by omega) (by omega) (by omega) (by omega)
    have m6 : 0 ≤ f 1 * f 5 ∧ f 1 * f 5 ≤ 1000000 * 1000 := mulB (by omega) (by omega) (by omega) (by omega)
    refine TW.skip ?_
    refine TQ.thenN (hY3 _ _ ?_)
    refine TW.seq fun Y7 hY7 => ?_
    refine TW.seq fun Y8 hY8 => ?_
    refine TW.join [(57, .bool (decide (f 0 = 2) || decide (f 9 < f 3)))] ?_ (fun hJ1 => ?_)
    · refine TQ.thenN (hY8 _ _ ?_)
      refine TW.cond rfl (fun hc1 => ?_) (fun hc1 => ?_)
      · try simp only [decide_eq_true_eq, decide_eq_false_iff_not, Bool.not_eq_true', Bool.not_eq_false', Bool.and_eq_true, Bool.or_eq_true, Bool.and_eq_false_iff, Bool.or_eq_false_iff, Int.not_lt, Int.not_le] at hc1
        refine TW.seq fun Y9 hY9 => ?_
        refine TW.region ?_
        refine TL.p (Pu.lds ty_ag23) ?_
        refine TL.p Pu.bd ?_
        first | refine TL.st ty_sz23 ?_ | refine TL.se ty_sz23 ?_
        first | refine TL.st ty_sz23 ?_ | refine TL.se ty_sz23 ?_
        refine TL.p Pu.as ?_
        refine TL.nil ?_
        refine TQ.thenN (hY9 _ _ ?_)
        refine TW.ret ?_
        refine TQ.thenR ?_
        refine TQ.ret Tryd.results28 rfl ((RV.cs ty_ag23 (RV.cs ty_ag23 (.tmp rfl .nil)))) ?_
        exact fun w hw => ⟨by unfold restV; rw [if_neg hc0, if_pos hc1]; rfl, Chg.ext hw.chg⟩
      · try simp only [decide_eq_true_eq, decide_eq_false_iff_not, Bool.not_eq_true', Bool.not_eq_false', Bool.and_eq_true, Bool.or_eq_true, Bool.and_eq_false_iff, Bool.or_eq_false_iff, Int.not_lt, Int.not_le] at hc1
        refine TW.skip ?_
        refine TQ.thenN (hY7 _ _ ?_)
        refine TW.seq fun Y10 hY10 => ?_
        refine TW.region ?_
        refine TL.p (by first | exact Pu.fb ty_fa23_0 | exact Pu.fe ty_fa23_0) ?_
        refine TL.p (Pu.ld ty_sc3) ?_
        refine TL.p (by first | exact Pu.fb ty_fa25_3 | exact Pu.fe ty_fa25_3) ?_
        refine TL.p (by first | exact Pu.fb ty_fa23_1 | exact Pu.fe ty_fa23_1) ?_
        refine TL.p (Pu.ld ty_sc3) ?_
        refine TL.p Pu.sb ?_
        refine TL.p Pu.ml ?_
        refine TL.p Pu.qu ?_
        refine TL.p (by first | exact Pu.fb ty_fa23_1 | exact Pu.fe ty_fa23_1) ?_
        refine TL.p (Pu.ld ty_sc3) ?_
        refine TL.p Pu.bd ?_
        refine TL.m (Mk.al ty_zr23) ?_
        intro b5
        first | refine TL.st ty_sz23 ?_ | refine TL.se ty_sz23 ?_
        refine TL.nil ?_
        refine TQ.thenN (hY10 _ _ ?_)
        refine TW.seq fun Y11 hY11 => ?_
        refine TW.region ?_
        refine TL.p (by first | exact Pu.fb ty_fa23_1 | exact Pu.fe ty_fa23_1) ?_
        refine TL.p (Pu.ld ty_sc3) ?_
        refine TL.p (by first | exact Pu.fb ty_fa25_3 | exact Pu.fe ty_fa25_3) ?_
        refine TL.p (by first | exact Pu.fb ty_fa23_1 | exact Pu.fe ty_fa23_1) ?_
        refine TL.p (Pu.ld ty_sc3) ?_
        refine TL.p Pu.ml ?_
        refine TL.cr rfl (enters Tryd.func69 rfl rfl) (fun w hw => by
            exact refUp_any _ _ (by omega) (by omega)) ?_
        refine TL.p Pu.bd ?_
        refine TL.m (Mk.al ty_zr23) ?_
        intro b6
        first | refine TL.st ty_sz23 ?_ | refine TL.se ty_sz23 ?_
        refine TL.nil ?_
        refine TQ.thenN (hY11 _ _ ?_)
        refine TW.seq fun Y12 hY12 => ?_
        refine TW.seq fun Y13 hY13 => ?_
        refine TW.region ?_
        refine TL.p (by first | exact Pu.fb ty_fa25_5 | exact Pu.fe ty_fa25_5) ?_
        refine TL.p (Pu.ld ty_sc3) ?_
        refine TL.p (by first | exact Pu.fb ty_fa25_2 | exact Pu.fe ty_fa25_2) ?_
        refine TL.p (by first | exact Pu.fb ty_fa23_1 | exact Pu.fe ty_fa23_1) ?_
        refine TL.p (Pu.ld ty_sc3) ?_
        refine TL.p Pu.lt ?_
        refine TL.nil ?_
        refine TQ.thenN (hY13 _ _ ?_)
        refine TW.cond rfl (fun hc2 => ?_) (fun hc2 => ?_)
        · try simp only [decide_eq_true_eq, decide_eq_false_iff_not, Bool.not_eq_true', Bool.not_eq_false', Bool.and_eq_true, Bool.or_eq_true, Bool.and_eq_false_iff, Bool.or_eq_false_iff, Int.not_lt, Int.not_le] at hc2
          refine TW.seq fun Y14 hY14 => ?_
          refine TW.rf (Drop.blk 2 rfl (by repeat (first | exact Pick.hd | apply Pick.tl)) (Drop.blk 3 rfl (by repeat (first | exact Pick.hd | apply Pick.tl)) Drop.done)) ?_
          refine RF.tk (Pu.lds ty_ag23) ?_
          refine RF.tk (Pu.lds ty_ag23) ?_
          refine RF.ks ?_
          refine RF.ks ?_
          refine RF.ks ?_
          refine RF.go ?_
          refine RG.step fun X4 hX4 => ?_
          first | refine TL.st ty_sz23 ?_ | refine TL.se ty_sz23 ?_
          refine TL.nil ?_
          refine TQ.nxt (hX4 _ _ (by repeat (first | exact HasL.nil | refine HasL.cons (by repeat (first | exact Pick.hd | apply Pick.tl)) ?_)) ?_)
          refine RG.step fun X5 hX5 => ?_
          first | refine TL.st ty_sz23 ?_ | refine TL.se ty_sz23 ?_
          refine TL.nil ?_
          refine TQ.nxt (hX5 _ _ (by repeat (first | exact HasL.nil | refine HasL.cons (by repeat (first | exact Pick.hd | apply Pick.tl)) ?_)) ?_)
          refine RG.step fun X6 hX6 => ?_
          refine TL.p Pu.as ?_
          refine TL.nil ?_
          refine TQ.nxt (hX6 _ _ (by repeat (first | exact HasL.nil | refine HasL.cons (by repeat (first | exact Pick.hd | apply Pick.tl)) ?_)) ?_)
          refine RG.nil ?_
          refine TQ.thenN (hY14 _ _ ?_)
          refine TW.ret ?_
          refine TQ.thenR ?_
          refine TQ.ret Tryd.results28 rfl ((RV.cs ty_ag23 (RV.cs ty_ag23 (.tmp rfl .nil)))) ?_
          exact fun w hw => ⟨by unfold restV; rw [if_neg hc0, if_neg (by omega), if_pos hc2]; rfl, Chg.ext hw.chg⟩
        · try simp only [decide_eq_true_eq, decide_eq_false_iff_not, Bool.not_eq_true', Bool.not_eq_false', Bool.and_eq_true, Bool.or_eq_true, Bool.and_eq_false_iff, Bool.or_eq_false_iff, Int.not_lt, Int.not_le] at hc2
          refine TW.skip ?_
          refine TQ.thenN (hY12 _ _ ?_)
          refine TW.seq fun Y15 hY15 => ?_
          refine TW.region ?_
          refine TL.p (by first | exact Pu.fb ty_fa23_1 | exact Pu.fe ty_fa23_1) ?_
          refine TL.p (Pu.ld ty_sc3) ?_
          refine TL.p (by first | exact Pu.fb ty_fa25_3 | exact Pu.fe ty_fa25_3) ?_
          refine TL.p (by first | exact Pu.fb ty_fa23_0 | exact Pu.fe ty_fa23_0) ?_
          refine TL.p (Pu.ld ty_sc3) ?_
          refine TL.p Pu.sb ?_
          refine TL.p Pu.ml ?_
          refine TL.cr rfl (enters Tryd.func69 rfl rfl) (fun w hw => by
              exact refUp_any _ _ (by omega) (by omega)) ?_
          refine TL.p (by first | exact Pu.fb ty_fa23_1 | exact Pu.fe ty_fa23_1) ?_
          first | refine TL.st ty_sz3 ?_ | refine TL.se ty_sz3 ?_
          refine TL.nil ?_
          refine TQ.thenN (hY15 _ _ ?_)
          refine TW.seq fun Y16 hY16 => ?_
          refine TW.region ?_
          refine TL.p (by first | exact Pu.fb ty_fa23_0 | exact Pu.fe ty_fa23_0) ?_
          refine TL.p (Pu.ld ty_sc3) ?_
          refine TL.p (by first | exact Pu.fb ty_fa25_3 | exact Pu.fe ty_fa25_3) ?_
          refine TL.p (by first | exact Pu.fb ty_fa23_0 | exact Pu.fe ty_fa23_0) ?_
          refine TL.p (Pu.ld ty_sc3) ?_
          refine TL.p Pu.ml ?_
          refine TL.p Pu.qu ?_
          refine TL.p (by first | exact Pu.fb ty_fa23_0 | exact Pu.fe ty_fa23_0) ?_
          first | refine TL.st ty_sz3 ?_ | refine TL.se ty_sz3 ?_
          refine TL.nil ?_
          refine TQ.thenN (hY16 _ _ ?_)
          refine TW.seq fun Y17 hY17 => ?_
          refine TW.rf (Drop.blk 2 rfl (by repeat (first | exact Pick.hd | apply Pick.tl)) (Drop.blk 3 rfl (by repeat (first | exact Pick.hd | apply Pick.tl)) Drop.done)) ?_
          refine RF.tk (Pu.lds ty_ag23) ?_
          refine RF.tk (Pu.lds ty_ag23) ?_
          refine RF.ks ?_
          refine RF.ks ?_
          refine RF.ks ?_
          refine RF.go ?_
          refine RG.step fun X7 hX7 => ?_
          first | refine TL.st ty_sz23 ?_ | refine TL.se ty_sz23 ?_
          refine TL.nil ?_
          refine TQ.nxt (hX7 _ _ (by repeat (first | exact HasL.nil | refine HasL.cons (by repeat (first | exact Pick.hd | apply Pick.tl)) ?_)) ?_)
          refine RG.step fun X8 hX8 => ?_
          first | refine TL.st ty_sz23 ?_ | refine TL.se ty_sz23 ?_
          refine TL.nil ?_
          refine TQ.nxt (hX8 _ _ (by repeat (first | exact HasL.nil | refine HasL.cons (by repeat (first | exact Pick.hd | apply Pick.tl)) ?_)) ?_)
          refine RG.step fun X9 hX9 => ?_
          refine TL.p Pu.as ?_
          refine TL.nil ?_
          refine TQ.nxt (hX9 _ _ (by repeat (first | exact HasL.nil | refine HasL.cons (by repeat (first | exact Pick.hd | apply Pick.tl)) ?_)) ?_)
          refine RG.nil ?_
          refine TQ.thenN (hY17 _ _ ?_)
          refine TW.ret ?_
          refine TQ.ret Tryd.results28 rfl ((RV.cs ty_ag23 (RV.cs ty_ag23 (.tmp rfl .nil)))) ?_
          exact fun w hw => ⟨by unfold restV; rw [if_neg hc0, if_neg (by omega), if_neg (by omega)]; rfl, Chg.ext hw.chg⟩
    refine TW.region ?_
    refine TL.p (by first | exact Pu.fb ty_fa25_0 | exact Pu.fe ty_fa25_0) ?_
    refine TL.p (Pu.ld ty_sc5) ?_
    refine TL.p Pu.eq ?_
    refine TL.p Pu.mv ?_
    refine TL.guard (t := 50) rfl (fun hg1 => ?_) (fun hg1 => ?_)
    · refine TL.gs ?_
      refine TL.gs ?_
      refine TL.gs ?_
      refine TL.gs ?_
      refine TL.gs ?_
      refine TL.gs ?_
      refine TL.p Pu.kt ?_
      refine TL.nil ?_
      exact TQ.sub (by repeat (first | exact trivial | refine ⟨rfl, ?_⟩ | refine ⟨trivial, ?_⟩ | refine ⟨(by show some (Value.bool _) = some (Value.bool _); simp [hg1]), ?_⟩)) (by repeat (first | exact KSub.nil | refine KSub.cons (by repeat (first | exact Pick.hd | apply Pick.tl)) ?_)) hJ1
    · refine TL.gd (by first | exact Pu.fb ty_fa25_5 | exact Pu.fe ty_fa25_5) ?_
      refine TL.gd (Pu.ld ty_sc3) ?_
      refine TL.gd (by first | exact Pu.fb ty_fa25_2 | exact Pu.fe ty_fa25_2) ?_
      refine TL.gd (by first | exact Pu.fb ty_fa23_0 | exact Pu.fe ty_fa23_0) ?_
      refine TL.gd (Pu.ld ty_sc3) ?_
      refine TL.gd Pu.lt ?_
      refine TL.p Pu.kf ?_
      refine TL.nil ?_
      exact TQ.sub (by repeat (first | exact trivial | refine ⟨rfl, ?_⟩ | refine ⟨trivial, ?_⟩ | refine ⟨(by show some (Value.bool _) = some (Value.bool _); simp [hg1]), ?_⟩)) (by repeat (first | exact KSub.nil | refine KSub.cons (by repeat (first | exact Pick.hd | apply Pick.tl)) ?_)) hJ1
/-- The reference's Rest, for all packs. -/
def restK (f : Nat → Int) : List Value := if packOk f then restC (restV f) ++ [.int .i64 0] else restC [0, 0, 0, 0, 0] ++ [.int .i64 50]
set_option maxRecDepth 100000 in
theorem refRest_any (f : Nat → Int) (w : World) :
    Calls Tryd.prog 9 #[.agg (packL f).toArray] w (Ret w (.tuple (restK f).toArray)) := by
  refine K_enter (S := []) (K := []) Tryd.func9 rfl Tryd.ntmps9 rfl (Sat.start _) ?_
  refine TW.seq fun Y1 hY1 => ?_
  refine TW.region ?_
  refine TL.m Mk.bx ?_
  intro b1
  refine TL.m (Mk.al ty_zr23) ?_
  intro b2
  refine TL.m (Mk.al ty_zr23) ?_
  intro b3
  refine TL.p Pu.as ?_
  refine TL.p Pu.as ?_
  refine TL.nil ?_
  refine TQ.thenN (hY1 _ _ ?_)
  refine TW.seq fun Y2 hY2 => ?_
  refine TW.seq fun Y3 hY3 => ?_
  refine TW.region ?_
  refine TL.p (Pu.lds ty_ag25) ?_
  refine TL.cr rfl (enters Tryd.func27 rfl rfl) (fun w hw => by
      exact refPack_any f _) ?_
  refine TL.p Pu.no ?_
  refine TL.nil ?_
  refine TQ.thenN (hY3 _ _ ?_)
  refine TW.cond rfl (fun hc0 => ?_) (fun hc0 => ?_)
  · try simp only [decide_eq_true_eq, decide_eq_false_iff_not, Bool.not_eq_true', Bool.not_eq_false', Bool.and_eq_true, Bool.or_eq_true, Bool.and_eq_false_iff, Bool.or_eq_false_iff, Int.not_lt, Int.not_le] at hc0
    refine TW.seq fun Y4 hY4 => ?_
    refine TW.region ?_
    refine TL.p Pu.bd ?_
    refine TL.p Pu.bd ?_
    first | refine TL.st ty_sz23 ?_ | refine TL.se ty_sz23 ?_
    first | refine TL.st ty_sz23 ?_ | refine TL.se ty_sz23 ?_
    refine TL.p Pu.as ?_
    refine TL.p Pu.as ?_
    refine TL.nil ?_
    refine TQ.thenN (hY4 _ _ ?_)
    refine TW.ret ?_
    refine TQ.thenR ?_
    refine TQ.ret Tryd.results9 rfl ((RV.cs ty_ag23 (RV.cs ty_ag23 (.tmp rfl (.tmp rfl .nil))))) ?_
    exact fun w hw => ⟨by unfold restK; rw [hc0]; rfl, Chg.ext hw.chg⟩
  · try simp only [decide_eq_true_eq, decide_eq_false_iff_not, Bool.not_eq_true', Bool.not_eq_false', Bool.and_eq_true, Bool.or_eq_true, Bool.and_eq_false_iff, Bool.or_eq_false_iff, Int.not_lt, Int.not_le] at hc0
    refine TW.skip ?_
    refine TQ.thenN (hY2 _ _ ?_)
    refine TW.seq fun Y5 hY5 => ?_
    refine TW.region ?_
    refine TL.p (Pu.lds ty_ag25) ?_
    refine TL.cr rfl (enters Tryd.func28 rfl rfl) (fun w hw => by
        exact refrest_any f _ (by simpa using hc0)) ?_
    refine TL.p Pu.mv ?_
    refine TL.p Pu.ex ?_
    refine TL.p Pu.ex ?_
    refine TL.p Pu.ex ?_
    refine TL.m (Mk.al ty_zr23) ?_
    intro b4
    refine TL.m (Mk.al ty_zr23) ?_
    intro b5
    first | refine TL.st ty_sz23 ?_ | refine TL.se ty_sz23 ?_
    first | refine TL.st ty_sz23 ?_ | refine TL.se ty_sz23 ?_
    refine TL.p Pu.as ?_
    refine TL.nil ?_
    refine TQ.thenN (hY5 _ _ ?_)
    refine TW.seq fun Y6 hY6 => ?_
    refine TW.rf (Drop.blk 2 rfl (by repeat (first | exact Pick.hd | apply Pick.tl)) (Drop.blk 3 rfl (by repeat (first | exact Pick.hd | apply Pick.tl)) Drop.done)) ?_
    refine RF.tk (Pu.lds ty_ag23) ?_
    refine RF.tk (Pu.lds ty_ag23) ?_
    refine RF.tk Pu.mv ?_
    refine RF.ks ?_
    refine RF.ks ?_
    refine RF.ks ?_
    refine RF.ks ?_
    refine RF.go ?_
    refine RG.step fun X1 hX1 => ?_
    first | refine TL.st ty_sz23 ?_ | refine TL.se ty_sz23 ?_
    refine TL.nil ?_
    refine TQ.nxt (hX1 _ _ (by repeat (first | exact HasL.nil | refine HasL.cons (by repeat (first | exact Pick.hd | apply Pick.tl)) ?_)) ?_)
    refine RG.step fun X2 hX2 => ?_
    first | refine TL.st ty_sz23 ?_ | refine TL.se ty_sz23 ?_
    refine TL.nil ?_
    refine TQ.nxt (hX2 _ _ (by repeat (first | exact HasL.nil | refine HasL.cons (by repeat (first | exact Pick.hd | apply Pick.tl)) ?_)) ?_)
    refine RG.step fun X3 hX3 => ?_
    refine TL.p Pu.as ?_
    refine TL.nil ?_
    refine TQ.nxt (hX3 _ _ (by repeat (first | exact HasL.nil | refine HasL.cons (by repeat (first | exact Pick.hd | apply Pick.tl)) ?_)) ?_)
    refine RG.step fun X4 hX4 => ?_
    refine TL.p Pu.as ?_
    refine TL.nil ?_
    refine TQ.nxt (hX4 _ _ (by repeat (first | exact HasL.nil | refine HasL.cons (by repeat (first | exact Pick.hd | apply Pick.tl)) ?_)) ?_)
    refine RG.nil ?_
    refine TQ.thenN (hY6 _ _ ?_)
    refine TW.ret ?_
    refine TQ.ret Tryd.results9 rfl ((RV.cs ty_ag23 (RV.cs ty_ag23 (.tmp rfl (.tmp rfl .nil))))) ?_
    exact fun w hw => ⟨by unfold restK; rw [hc0]; rfl, Chg.ext hw.chg⟩
end Go.Proofs.YtagcnokaajinlaaDoor
