/-
  The small functions of the reference of layer 5: packs, and what is left of them. Numbers are bounded where they are reckoned with.
-/
import Derived.Test.YtagcnokaajinlaaDoorT
namespace Go.Proofs.YtagcnokaajinlaaDoor
set_option linter.all false
set_option linter.unusedVariables false
set_option linter.unusedSimpArgs false
open Go.RowKit
def spL (a b : Int) : List Value := [.int .i64 a, .int .i64 b]
/-- The cells of a pack: kind, mass, hard, crumbs, leak, hurt, days. -/
def packL (f : Nat → Int) : List Value := [.int .u8 (f 0), .int .i64 (f 1), .int .i64 (f 2), .int .i64 (f 3), .int .i64 (f 4), .int .i64 (f 5), .int .i64 (f 6), .int .i64 (f 7), .int .i64 (f 8), .int .i64 (f 9), .int .i64 (f 10)]
def ordB5 (lo hi a b : Int) : Bool := decide (lo ≤ a) && decide (a ≤ b) && decide (b ≤ hi)
def inB5 (lo hi a : Int) : Bool := decide (lo ≤ a) && decide (a ≤ hi)
def nilB (a b : Int) : Bool := decide (a = 0) && decide (b = 0)
def packOk (f : Nat → Int) : Bool := ordB5 0 1000000 (f 1) (f 2) && inB5 0 6000000 (f 9) && inB5 0 100000 (f 10) &&
  (if f 0 = 1 then ordB5 1 100000 (f 3) (f 4) && ordB5 0 1000 (f 5) (f 6) && nilB (f 7) (f 8)
  else if f 0 = 2 then nilB (f 3) (f 4) && nilB (f 5) (f 6) && nilB (f 7) (f 8)
  else decide (f 0 = 3) && nilB (f 3) (f 4) && nilB (f 5) (f 6) && ordB5 0 1000000 (f 7) (f 8))
theorem refOrdered_any (a b lo hi : Int) (w : World) :
    Calls Tryd.prog 68 #[.agg #[.int .i64 a, .int .i64 b], .int .i64 lo, .int .i64 hi] w (Ret w (.bool (ordB5 lo hi a b))) := by
  refine K_enter (S := []) (K := []) Tryd.func68 rfl Tryd.ntmps68 rfl (Sat.start _) ?_
  refine TW.seq fun Y1 hY1 => ?_
  refine TW.region ?_
  refine TL.m Mk.bx ?_
  intro b1
  refine TL.p Pu.as ?_
  refine TL.nil ?_
  refine TQ.thenN (hY1 _ _ ?_)
  refine TW.seq fun Y2 hY2 => ?_
  refine TW.join [(6, .bool (ordB5 lo hi a b))] ?_ (fun hJ1 => ?_)
  · refine TQ.thenN (hY2 _ _ ?_)
    refine TW.ret ?_
    refine TQ.ret Tryd.results68 rfl ((.tmp rfl .nil)) ?_
    exact fun w hw => Ret.of hw
  refine TW.region ?_
  refine TL.p (by first | exact Pu.fb ty_fa23_0 | exact Pu.fe ty_fa23_0) ?_
  refine TL.p (Pu.ld ty_sc3) ?_
  refine TL.p Pu.mv ?_
  refine TL.p Pu.ge ?_
  refine TL.p Pu.mv ?_
  refine TL.guard (t := 11) rfl (fun hg1 => ?_) (fun hg1 => ?_)
  · refine TL.gd (by first | exact Pu.fb ty_fa23_0 | exact Pu.fe ty_fa23_0) ?_
    refine TL.gd (Pu.ld ty_sc3) ?_
    refine TL.gd (by first | exact Pu.fb ty_fa23_1 | exact Pu.fe ty_fa23_1) ?_
    refine TL.gd (Pu.ld ty_sc3) ?_
    refine TL.gd Pu.le ?_
    refine TL.p Pu.kt ?_
    refine TL.p Pu.mv ?_
    refine TL.guard (t := 18) rfl (fun hg2 => ?_) (fun hg2 => ?_)
    · refine TL.gd (by first | exact Pu.fb ty_fa23_1 | exact Pu.fe ty_fa23_1) ?_
      refine TL.gd (Pu.ld ty_sc3) ?_
      refine TL.gd Pu.mv ?_
      refine TL.gd Pu.le ?_
      refine TL.p Pu.kt ?_
      refine TL.p Pu.as ?_
      refine TL.nil ?_
      exact TQ.sub (by repeat (first | exact trivial | refine ⟨rfl, ?_⟩ | refine ⟨trivial, ?_⟩ | refine ⟨(by show some (Value.bool _) = some (Value.bool _); simp [hg1, hg2, ordB5]), ?_⟩)) (by repeat (first | exact KSub.nil | refine KSub.cons (by repeat (first | exact Pick.hd | apply Pick.tl)) ?_)) hJ1
    · refine TL.gs ?_
      refine TL.gs ?_
      refine TL.gs ?_
      refine TL.gs ?_
      refine TL.p Pu.kf ?_
      refine TL.p Pu.as ?_
      refine TL.nil ?_
      exact TQ.sub (by repeat (first | exact trivial | refine ⟨rfl, ?_⟩ | refine ⟨trivial, ?_⟩ | refine ⟨(by show some (Value.bool _) = some (Value.bool _); simp [hg1, hg2, ordB5]), ?_⟩)) (by repeat (first | exact KSub.nil | refine KSub.cons (by repeat (first | exact Pick.hd | apply Pick.tl)) ?_)) hJ1
  · refine TL.gs ?_
    refine TL.gs ?_
    refine TL.gs ?_
    refine TL.gs ?_
    refine TL.gs ?_
    refine TL.p Pu.kf ?_
    refine TL.p Pu.mv ?_
    refine TL.gs ?_
    refine TL.gs ?_
    refine TL.gs ?_
    refine TL.gs ?_
    refine TL.p Pu.kf ?_
    refine TL.p Pu.as ?_
    refine TL.nil ?_
    exact TQ.sub (by repeat (first | exact trivial | refine ⟨rfl, ?_⟩ | refine ⟨trivial, ?_⟩ | refine ⟨(by show some (Value.bool _) = some (Value.bool _); simp [hg1, ordB5]), ?_⟩)) (by repeat (first | exact KSub.nil | refine KSub.cons (by repeat (first | exact Pick.hd | apply Pick.tl)) ?_)) hJ1
theorem refWithin_any (a lo hi : Int) (w : World) :
    Calls Tryd.prog 39 #[.int .i64 a, .int .i64 lo, .int .i64 hi] w (Ret w (.bool (inB5 lo hi a))) := by
  refine K_enter (S := []) (K := []) Tryd.func39 rfl Tryd.ntmps39 rfl (Sat.start _) ?_
  refine TW.seq fun Y1 hY1 => ?_
  refine TW.region ?_
  refine TL.p Pu.as ?_
  refine TL.nil ?_
  refine TQ.thenN (hY1 _ _ ?_)
  refine TW.seq fun Y2 hY2 => ?_
  refine TW.join [(6, .bool (inB5 lo hi a))] ?_ (fun hJ1 => ?_)
  · refine TQ.thenN (hY2 _ _ ?_)
    refine TW.ret ?_
    refine TQ.ret Tryd.results39 rfl ((.tmp rfl .nil)) ?_
    exact fun w hw => Ret.of hw
  refine TW.region ?_
  refine TL.p Pu.mv ?_
  refine TL.p Pu.mv ?_
  refine TL.p Pu.ge ?_
  refine TL.p Pu.mv ?_
  refine TL.guard (t := 10) rfl (fun hg1 => ?_) (fun hg1 => ?_)
  · refine TL.gd Pu.mv ?_
    refine TL.gd Pu.mv ?_
    refine TL.gd Pu.le ?_
    refine TL.p Pu.kt ?_
    refine TL.p Pu.as ?_
    refine TL.nil ?_
    exact TQ.sub (by repeat (first | exact trivial | refine ⟨rfl, ?_⟩ | refine ⟨trivial, ?_⟩ | refine ⟨(by show some (Value.bool _) = some (Value.bool _); simp [hg1, inB5]), ?_⟩)) (by repeat (first | exact KSub.nil | refine KSub.cons (by repeat (first | exact Pick.hd | apply Pick.tl)) ?_)) hJ1
  · refine TL.gs ?_
    refine TL.gs ?_
    refine TL.gs ?_
    refine TL.p Pu.kf ?_
    refine TL.p Pu.as ?_
    refine TL.nil ?_
    exact TQ.sub (by repeat (first | exact trivial | refine ⟨rfl, ?_⟩ | refine ⟨trivial, ?_⟩ | refine ⟨(by show some (Value.bool _) = some (Value.bool _); simp [hg1, inB5]), ?_⟩)) (by repeat (first | exact KSub.nil | refine KSub.cons (by repeat (first | exact Pick.hd | apply Pick.tl)) ?_)) hJ1
theorem refUp_any (a : Int) (w : World) (h0 : 0 ≤ a) (h1 : a ≤ 1000000000000) :
    Calls Tryd.prog 69 #[.int .i64 a] w (Ret w (.int .i64 ((a + 999) / 1000))) := by
  refine K_enter (S := []) (K := []) Tryd.func69 rfl Tryd.ntmps69 rfl (Sat.start _) ?_
  refine TW.seq fun Y1 hY1 => ?_
  refine TW.region ?_
  refine TL.p Pu.as ?_
  refine TL.nil ?_
  refine TQ.thenN (hY1 _ _ ?_)
  refine TW.seq fun Y2 hY2 => ?_
  refine TW.region ?_
  refine TL.p Pu.mv ?_
  refine TL.p Pu.ad ?_
  refine TL.p Pu.qu ?_
  refine TL.p Pu.as ?_
  refine TL.nil ?_
  refine TQ.thenN (hY2 _ _ ?_)
  refine TW.ret ?_
  refine TQ.ret Tryd.results69 rfl ((.tmp rfl .nil)) ?_
  exact fun w hw => Ret.of hw
set_option maxRecDepth 100000 in
theorem refPack_any (f : Nat → Int) (w : World) :
    Calls Tryd.prog 27 #[.agg (packL f).toArray] w (Ret w (.bool (packOk f))) := by
  refine K_enter (S := []) (K := []) Tryd.func27 rfl Tryd.ntmps27 rfl (Sat.start _) ?_
  refine TW.seq fun Y1 hY1 => ?_
  refine TW.region ?_
  refine TL.m Mk.bx ?_
  intro b1
  refine TL.p Pu.as ?_
  refine TL.nil ?_
  refine TQ.thenN (hY1 _ _ ?_)
  refine TW.seq fun Y2 hY2 => ?_
  refine TW.seq fun Y3 hY3 => ?_
  refine TW.join [(19, .bool (!(ordB5 0 1000000 (f 1) (f 2) && inB5 0 6000000 (f 9) && inB5 0 100000 (f 10))))] ?_ (fun hJ1 => ?_)
  · refine TQ.thenN (hY3 _ _ ?_)
    refine TW.cond rfl (fun hc0 => ?_) (fun hc0 => ?_)
    · try simp only [decide_eq_true_eq, decide_eq_false_iff_not, Bool.not_eq_true', Bool.not_eq_false', Bool.and_eq_true, Bool.or_eq_true, Bool.and_eq_false_iff, Bool.or_eq_false_iff, Int.not_lt, Int.not_le] at hc0
      have hno : (ordB5 0 1000000 (f 1) (f 2) && inB5 0 6000000 (f 9) && inB5 0 100000 (f 10)) = false := by simp only [Bool.and_eq_false_iff]; exact hc0
      refine TW.seq fun Y4 hY4 => ?_
      refine TW.region ?_
      refine TL.p Pu.as ?_
      refine TL.nil ?_
      refine TQ.thenN (hY4 _ _ ?_)
      refine TW.ret ?_
      refine TQ.thenR ?_
      refine TQ.ret Tryd.results27 rfl ((.tmp rfl .nil)) ?_
      exact fun w hw => ⟨ret_bool (by unfold packOk; rw [hno]; rfl), Chg.ext hw.chg⟩
    · try simp only [decide_eq_true_eq, decide_eq_false_iff_not, Bool.not_eq_true', Bool.not_eq_false', Bool.and_eq_true, Bool.or_eq_true, Bool.and_eq_false_iff, Bool.or_eq_false_iff, Int.not_lt, Int.not_le] at hc0
      have hyes : (ordB5 0 1000000 (f 1) (f 2) && inB5 0 6000000 (f 9) && inB5 0 100000 (f 10)) = true := by simpa using hc0
      refine TW.skip ?_
      refine TQ.thenN (hY2 _ _ ?_)
      refine TW.seq fun Y5 hY5 => ?_
      refine TW.region ?_
      refine TL.p Pu.bd ?_
      refine TL.m (Mk.al ty_zr23) ?_
      intro b2
      first | refine TL.st ty_sz23 ?_ | refine TL.se ty_sz23 ?_
      refine TL.nil ?_
      refine TQ.thenN (hY5 _ _ ?_)
      refine TW.seq fun Y6 hY6 => ?_
      refine TW.seq fun Y7 hY7 => ?_
      refine TW.region ?_
      refine TL.p (by first | exact Pu.fb ty_fa25_0 | exact Pu.fe ty_fa25_0) ?_
      refine TL.p (Pu.ld ty_sc5) ?_
      refine TL.p Pu.eq ?_
      refine TL.nil ?_
      refine TQ.thenN (hY7 _ _ ?_)
      refine TW.cond rfl (fun hc1 => ?_) (fun hc1 => ?_)
      · try simp only [decide_eq_true_eq, decide_eq_false_iff_not, Bool.not_eq_true', Bool.not_eq_false', Bool.and_eq_true, Bool.or_eq_true, Bool.and_eq_false_iff, Bool.or_eq_false_iff, Int.not_lt, Int.not_le] at hc1
        refine TW.seq fun Y8 hY8 => ?_
        refine TW.join [(2, .bool (ordB5 1 100000 (f 3) (f 4) && ordB5 0 1000 (f 5) (f 6) && nilB (f 7) (f 8)))] ?_ (fun hJ2 => ?_)
        · refine TQ.thenN (hY8 _ _ ?_)
          refine TW.ret ?_
          refine TQ.thenR ?_
          refine TQ.ret Tryd.results27 rfl ((.tmp rfl .nil)) ?_
          exact fun w hw => ⟨ret_bool (by unfold packOk; rw [hyes, hc1]; simp), Chg.ext hw.chg⟩
        refine TW.region ?_
        refine TL.p (by first | exact Pu.fb ty_fa25_2 | exact Pu.fe ty_fa25_2) ?_
        refine TL.p (Pu.lds ty_ag23) ?_
        refine TL.cr rfl (enters Tryd.func68 rfl rfl) (fun w hw => by
            exact refOrdered_any _ _ _ _ _) ?_
        refine TL.p Pu.mv ?_
        refine TL.guard (t := 27) rfl (fun hg1 => ?_) (fun hg1 => ?_)
        · refine TL.gd (by first | exact Pu.fb ty_fa25_3 | exact Pu.fe ty_fa25_3) ?_
          refine TL.gd (Pu.lds ty_ag23) ?_
          refine TL.cr rfl (enters Tryd.func68 rfl rfl) (fun w hw => by
              exact refOrdered_any _ _ _ _ _) ?_
          refine TL.p Pu.kt ?_
          refine TL.p Pu.mv ?_
          refine TL.guard (t := 32) rfl (fun hg2 => ?_) (fun hg2 => ?_)
          · refine TL.gd (by first | exact Pu.fb ty_fa25_4 | exact Pu.fe ty_fa25_4) ?_
            refine TL.gd (Pu.lds ty_ag23) ?_
            refine TL.gd (Pu.lds ty_ag23) ?_
            refine TL.gd (Pu.q2 ty_q2_23) ?_
            refine TL.p Pu.kt ?_
            refine TL.p Pu.as ?_
            refine TL.nil ?_
            exact TQ.sub (by repeat (first | exact trivial | refine ⟨rfl, ?_⟩ | refine ⟨trivial, ?_⟩ | refine ⟨(by show some (Value.bool _) = some (Value.bool _); simp [hg1, hg2, nilB]), ?_⟩)) (by repeat (first | exact KSub.nil | refine KSub.cons (by repeat (first | exact Pick.hd | apply Pick.tl)) ?_)) hJ2
          · refine TL.gs ?_
            refine TL.gs ?_
            refine TL.gs ?_
            refine TL.gs ?_
            refine TL.p Pu.kf ?_
            refine TL.p Pu.as ?_
            refine TL.nil ?_
            exact TQ.sub (by repeat (first | exact trivial | refine ⟨rfl, ?_⟩ | refine ⟨trivial, ?_⟩ | refine ⟨(by show some (Value.bool _) = some (Value.bool _); simp [hg1, hg2, nilB]), ?_⟩)) (by repeat (first | exact KSub.nil | refine KSub.cons (by repeat (first | exact Pick.hd | apply Pick.tl)) ?_)) hJ2
        · refine TL.gs ?_
          refine TL.gs ?_
          refine TL.gs ?_
          refine TL.p Pu.kf ?_
          refine TL.p Pu.mv ?_
          refine TL.gs ?_
          refine TL.gs ?_
          refine TL.gs ?_
          refine TL.gs ?_
          refine TL.p Pu.kf ?_
          refine TL.p Pu.as ?_
          refine TL.nil ?_
          exact TQ.sub (by repeat (first | exact trivial | refine ⟨rfl, ?_⟩ | refine ⟨trivial, ?_⟩ | refine ⟨(by show some (Value.bool _) = some (Value.bool _); simp [hg1, nilB]), ?_⟩)) (by repeat (first | exact KSub.nil | refine KSub.cons (by repeat (first | exact Pick.hd | apply Pick.tl)) ?_)) hJ2
      · try simp only [decide_eq_true_eq, decide_eq_false_iff_not, Bool.not_eq_true', Bool.not_eq_false', Bool.and_eq_true, Bool.or_eq_true, Bool.and_eq_false_iff, Bool.or_eq_false_iff, Int.not_lt, Int.not_le] at hc1
        refine TW.skip ?_
        refine TQ.thenN (hY6 _ _ ?_)
        refine TW.seq fun Y9 hY9 => ?_
        refine TW.seq fun Y10 hY10 => ?_
        refine TW.region ?_
        refine TL.p (by first | exact Pu.fb ty_fa25_0 | exact Pu.fe ty_fa25_0) ?_
        refine TL.p (Pu.ld ty_sc5) ?_
        refine TL.p Pu.eq ?_
        refine TL.nil ?_
        refine TQ.thenN (hY10 _ _ ?_)
        refine TW.cond rfl (fun hc2 => ?_) (fun hc2 => ?_)
        · try simp only [decide_eq_true_eq, decide_eq_false_iff_not, Bool.not_eq_true', Bool.not_eq_false', Bool.and_eq_true, Bool.or_eq_true, Bool.and_eq_false_iff, Bool.or_eq_false_iff, Int.not_lt, Int.not_le] at hc2
          refine TW.seq fun Y11 hY11 => ?_
          refine TW.join [(2, .bool (nilB (f 3) (f 4) && nilB (f 5) (f 6) && nilB (f 7) (f 8)))] ?_ (fun hJ3 => ?_)
          · refine TQ.thenN (hY11 _ _ ?_)
            refine TW.ret ?_
            refine TQ.thenR ?_
            refine TQ.ret Tryd.results27 rfl ((.tmp rfl .nil)) ?_
            exact fun w hw => ⟨ret_bool (by unfold packOk; rw [hyes, hc2]; simp), Chg.ext hw.chg⟩
          refine TW.region ?_
          refine TL.p (by first | exact Pu.fb ty_fa25_2 | exact Pu.fe ty_fa25_2) ?_
          refine TL.p (Pu.lds ty_ag23) ?_
          refine TL.p (Pu.lds ty_ag23) ?_
          refine TL.p (Pu.q2 ty_q2_23) ?_
          refine TL.p Pu.mv ?_
          refine TL.guard (t := 45) rfl (fun hg3 => ?_) (fun hg3 => ?_)
          · refine TL.gd (by first | exact Pu.fb ty_fa25_3 | exact Pu.fe ty_fa25_3) ?_
            refine TL.gd (Pu.lds ty_ag23) ?_
            refine TL.gd (Pu.lds ty_ag23) ?_
            refine TL.gd (Pu.q2 ty_q2_23) ?_
            refine TL.p Pu.kt ?_
            refine TL.p Pu.mv ?_
            refine TL.guard (t := 51) rfl (fun hg4 => ?_) (fun hg4 => ?_)
            · refine TL.gd (by first | exact Pu.fb ty_fa25_4 | exact Pu.fe ty_fa25_4) ?_
              refine TL.gd (Pu.lds ty_ag23) ?_
              refine TL.gd (Pu.lds ty_ag23) ?_
              refine TL.gd (Pu.q2 ty_q2_23) ?_
              refine TL.p Pu.kt ?_
              refine TL.p Pu.as ?_
              refine TL.nil ?_
              exact TQ.sub (by repeat (first | exact trivial | refine ⟨rfl, ?_⟩ | refine ⟨trivial, ?_⟩ | refine ⟨(by show some (Value.bool _) = some (Value.bool _); simp [hg3, hg4, nilB]), ?_⟩)) (by repeat (first | exact KSub.nil | refine KSub.cons (by repeat (first | exact Pick.hd | apply Pick.tl)) ?_)) hJ3
            · refine TL.gs ?_
              refine TL.gs ?_
              refine TL.gs ?_
              refine TL.gs ?_
              refine TL.p Pu.kf ?_
              refine TL.p Pu.as ?_
              refine TL.nil ?_
              exact TQ.sub (by repeat (first | exact trivial | refine ⟨rfl, ?_⟩ | refine ⟨trivial, ?_⟩ | refine ⟨(by show some (Value.bool _) = some (Value.bool _); simp [hg3, hg4, nilB]), ?_⟩)) (by repeat (first | exact KSub.nil | refine KSub.cons (by repeat (first | exact Pick.hd | apply Pick.tl)) ?_)) hJ3
          · refine TL.gs ?_
            refine TL.gs ?_
            refine TL.gs ?_
            refine TL.gs ?_
            refine TL.p Pu.kf ?_
            refine TL.p Pu.mv ?_
            refine TL.gs ?_
            refine TL.gs ?_
            refine TL.gs ?_
            refine TL.gs ?_
            refine TL.p Pu.kf ?_
            refine TL.p Pu.as ?_
            refine TL.nil ?_
            exact TQ.sub (by repeat (first | exact trivial | refine ⟨rfl, ?_⟩ | refine ⟨trivial, ?_⟩ | refine ⟨(by show some (Value.bool _) = some (Value.bool _); simp [hg3, nilB]), ?_⟩)) (by repeat (first | exact KSub.nil | refine KSub.cons (by repeat (first | exact Pick.hd | apply Pick.tl)) ?_)) hJ3
        · try simp only [decide_eq_true_eq, decide_eq_false_iff_not, Bool.not_eq_true', Bool.not_eq_false', Bool.and_eq_true, Bool.or_eq_true, Bool.and_eq_false_iff, Bool.or_eq_false_iff, Int.not_lt, Int.not_le] at hc2
          refine TW.skip ?_
          refine TQ.thenN (hY9 _ _ ?_)
          refine TW.seq fun Y12 hY12 => ?_
          refine TW.join [(2, .bool (decide (f 0 = 3) && nilB (f 3) (f 4) && nilB (f 5) (f 6) && ordB5 0 1000000 (f 7) (f 8)))] ?_ (fun hJ4 => ?_)
          · refine TQ.thenN (hY12 _ _ ?_)
            refine TW.ret ?_
            refine TQ.ret Tryd.results27 rfl ((.tmp rfl .nil)) ?_
            exact fun w hw => ⟨ret_bool (by unfold packOk; rw [hyes]; simp [hc1, hc2]), Chg.ext hw.chg⟩
          refine TW.region ?_
          refine TL.p (by first | exact Pu.fb ty_fa25_0 | exact Pu.fe ty_fa25_0) ?_
          refine TL.p (Pu.ld ty_sc5) ?_
          refine TL.p Pu.eq ?_
          refine TL.p Pu.mv ?_
          refine TL.guard (t := 60) rfl (fun hg5 => ?_) (fun hg5 => ?_)
          · refine TL.gd (by first | exact Pu.fb ty_fa25_2 | exact Pu.fe ty_fa25_2) ?_
            refine TL.gd (Pu.lds ty_ag23) ?_
            refine TL.gd (Pu.lds ty_ag23) ?_
            refine TL.gd (Pu.q2 ty_q2_23) ?_
            refine TL.p Pu.kt ?_
            refine TL.p Pu.mv ?_
            refine TL.guard (t := 66) rfl (fun hg6 => ?_) (fun hg6 => ?_)
            · refine TL.gd (by first | exact Pu.fb ty_fa25_3 | exact Pu.fe ty_fa25_3) ?_
              refine TL.gd (Pu.lds ty_ag23) ?_
              refine TL.gd (Pu.lds ty_ag23) ?_
              refine TL.gd (Pu.q2 ty_q2_23) ?_
              refine TL.p Pu.kt ?_
              refine TL.p Pu.mv ?_
              refine TL.guard (t := 72) rfl (fun hg7 => ?_) (fun hg7 => ?_)
              · refine TL.gd (by first | exact Pu.fb ty_fa25_4 | exact Pu.fe ty_fa25_4) ?_
                refine TL.gd (Pu.lds ty_ag23) ?_
                refine TL.cr rfl (enters Tryd.func68 rfl rfl) (fun w hw => by
                    exact refOrdered_any _ _ _ _ _) ?_
                refine TL.p Pu.kt ?_
                refine TL.p Pu.as ?_
                refine TL.nil ?_
                exact TQ.sub (by repeat (first | exact trivial | refine ⟨rfl, ?_⟩ | refine ⟨trivial, ?_⟩ | refine ⟨(by show some (Value.bool _) = some (Value.bool _); simp [hg5, hg6, hg7, nilB]), ?_⟩)) (by repeat (first | exact KSub.nil | refine KSub.cons (by repeat (first | exact Pick.hd | apply Pick.tl)) ?_)) hJ4
              · refine TL.gs ?_
                refine TL.gs ?_
                refine TL.gs ?_
                refine TL.p Pu.kf ?_
                refine TL.p Pu.as ?_
                refine TL.nil ?_
                exact TQ.sub (by repeat (first | exact trivial | refine ⟨rfl, ?_⟩ | refine ⟨trivial, ?_⟩ | refine ⟨(by show some (Value.bool _) = some (Value.bool _); simp [hg5, hg6, hg7, nilB]), ?_⟩)) (by repeat (first | exact KSub.nil | refine KSub.cons (by repeat (first | exact Pick.hd | apply Pick.tl)) ?_)) hJ4
            · refine TL.gs ?_
              refine TL.gs ?_
              refine TL.gs ?_
              refine TL.gs ?_
              refine TL.p Pu.kf ?_
              refine TL.p Pu.mv ?_
              refine TL.gs ?_
              refine TL.gs ?_
              refine TL.gs ?_
              refine TL.p Pu.kf ?_
              refine TL.p Pu.as ?_
              refine TL.nil ?_
              exact TQ.sub (by repeat (first | exact trivial | refine ⟨rfl, ?_⟩ | refine ⟨trivial, ?_⟩ | refine ⟨(by show some (Value.bool _) = some (Value.bool _); simp [hg5, hg6, nilB]), ?_⟩)) (by repeat (first | exact KSub.nil | refine KSub.cons (by repeat (first | exact Pick.hd | apply Pick.tl)) ?_)) hJ4
          · refine TL.gs ?_
            refine TL.gs ?_
            refine TL.gs ?_
            refine TL.gs ?_
            refine TL.p Pu.kf ?_
            refine TL.p Pu.mv ?_
            refine TL.gs ?_
            refine TL.gs ?_
            refine TL.gs ?_
            refine TL.gs ?_
            refine TL.p Pu.kf ?_
            refine TL.p Pu.mv ?_
            refine TL.gs ?_
            refine TL.gs ?_
            refine TL.gs ?_
            refine TL.p Pu.kf ?_
            refine TL.p Pu.as ?_
            refine TL.nil ?_
            exact TQ.sub (by repeat (first | exact trivial | refine ⟨rfl, ?_⟩ | refine ⟨trivial, ?_⟩ | refine ⟨(by show some (Value.bool _) = some (Value.bool _); simp [hg5, nilB]), ?_⟩)) (by repeat (first | exact KSub.nil | refine KSub.cons (by repeat (first | exact Pick.hd | apply Pick.tl)) ?_)) hJ4
  refine TW.region ?_
  refine TL.p (by first | exact Pu.fb ty_fa25_1 | exact Pu.fe ty_fa25_1) ?_
  refine TL.p (Pu.lds ty_ag23) ?_
  refine TL.cr rfl (enters Tryd.func68 rfl rfl) (fun w hw => by
      exact refOrdered_any _ _ _ _ _) ?_
  refine TL.p Pu.no ?_
  refine TL.p Pu.mv ?_
  refine TL.guard (t := 8) rfl (fun hg8 => ?_) (fun hg8 => ?_)
  · refine TL.gs ?_
    refine TL.gs ?_
    refine TL.gs ?_
    refine TL.gs ?_
    refine TL.p Pu.kt ?_
    refine TL.p Pu.mv ?_
    refine TL.gs ?_
    refine TL.gs ?_
    refine TL.gs ?_
    refine TL.gs ?_
    refine TL.p Pu.kt ?_
    refine TL.nil ?_
    exact TQ.sub (by repeat (first | exact trivial | refine ⟨rfl, ?_⟩ | refine ⟨trivial, ?_⟩ | refine ⟨(by show some (Value.bool _) = some (Value.bool _); simp [hg8]), ?_⟩)) (by repeat (first | exact KSub.nil | refine KSub.cons (by repeat (first | exact Pick.hd | apply Pick.tl)) ?_)) hJ1
  · refine TL.gd (by first | exact Pu.fb ty_fa25_5 | exact Pu.fe ty_fa25_5) ?_
    refine TL.gd (Pu.ld ty_sc3) ?_
    refine TL.cr rfl (enters Tryd.func39 rfl rfl) (fun w hw => by
        exact refWithin_any _ _ _ _) ?_
    refine TL.gd Pu.no ?_
    refine TL.p Pu.kf ?_
    refine TL.p Pu.mv ?_
    refine TL.guard (t := 14) rfl (fun hg9 => ?_) (fun hg9 => ?_)
    · refine TL.gs ?_
      refine TL.gs ?_
      refine TL.gs ?_
      refine TL.gs ?_
      refine TL.p Pu.kt ?_
      refine TL.nil ?_
      exact TQ.sub (by repeat (first | exact trivial | refine ⟨rfl, ?_⟩ | refine ⟨trivial, ?_⟩ | refine ⟨(by show some (Value.bool _) = some (Value.bool _); simp [hg8, hg9]), ?_⟩)) (by repeat (first | exact KSub.nil | refine KSub.cons (by repeat (first | exact Pick.hd | apply Pick.tl)) ?_)) hJ1
    · refine TL.gd (by first | exact Pu.fb ty_fa25_6 | exact Pu.fe ty_fa25_6) ?_
      refine TL.gd (Pu.ld ty_sc3) ?_
      refine TL.cr rfl (enters Tryd.func39 rfl rfl) (fun w hw => by
          exact refWithin_any _ _ _ _) ?_
      refine TL.gd Pu.no ?_
      refine TL.p Pu.kf ?_
      refine TL.nil ?_
      exact TQ.sub (by repeat (first | exact trivial | refine ⟨rfl, ?_⟩ | refine ⟨trivial, ?_⟩ | refine ⟨(by show some (Value.bool _) = some (Value.bool _); simp [hg8, hg9]), ?_⟩)) (by repeat (first | exact KSub.nil | refine KSub.cons (by repeat (first | exact Pick.hd | apply Pick.tl)) ?_)) hJ1
end Go.Proofs.YtagcnokaajinlaaDoor
