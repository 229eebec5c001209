/-
  Part 4 of the proof of loadMost_holds: declarations of several texts, in build order. No condition on a program.
-/
import Derived.Test.YtljhdcclajikiaaGreatDoorMost03
import Derived.Recover
namespace Go.Proofs.YtljhdcclajikiaaGreatDoor
set_option linter.all false
set_option linter.unusedVariables false
set_option linter.unusedSimpArgs false
open Go.RowKit
def spL (a b : Int) : List Value := [.int .i64 a, .int .i64 b]
def packL (f : Nat → Int) : List Value := [.int .u8 (f 0), .int .i64 (f 1), .int .i64 (f 2), .int .i64 (f 3), .int .i64 (f 4), .int .i64 (f 5), .int .i64 (f 6), .int .i64 (f 7), .int .i64 (f 8), .int .i64 (f 9), .int .i64 (f 10)]
def ordB5 (lo hi a b : Int) : Bool := decide (lo ≤ a) && decide (a ≤ b) && decide (b ≤ hi)
def inB5 (lo hi a : Int) : Bool := decide (lo ≤ a) && decide (a ≤ hi)
def nilB (a b : Int) : Bool := decide (a = 0) && decide (b = 0)
def packOk (f : Nat → Int) : Bool := ordB5 0 1000000 (f 1) (f 2) && inB5 0 6000000 (f 9) && inB5 0 100000 (f 10) &&
  (if f 0 = 1 then ordB5 1 100000 (f 3) (f 4) && ordB5 0 1000 (f 5) (f 6) && nilB (f 7) (f 8)
  else if f 0 = 2 then nilB (f 3) (f 4) && nilB (f 5) (f 6) && nilB (f 7) (f 8)
  else decide (f 0 = 3) && nilB (f 3) (f 4) && nilB (f 5) (f 6) && ordB5 0 1000000 (f 7) (f 8))
theorem refOrdered_any (a b lo hi : Int) (w : World) :
    Calls Tryz.prog 82 #[.agg #[.int .i64 a, .int .i64 b], .int .i64 lo, .int .i64 hi] w (Ret w (.bool (ordB5 lo hi a b))) := by
  refine K_enter (S := []) (K := []) Tryz.func82 rfl Tryz.ntmps82 rfl (Sat.start _) ?_
  refine TW.seq fun Y1 hY1 => ?_
  refine TW.region ?_
  refine TL.m Mk.bx ?_
  intro b1
  refine TL.p Pu.as ?_
  refine TL.nil ?_
  refine TQ.thenN (hY1 _ _ ?_)
  refine TW.seq fun Y2 hY2 => ?_
  refine TW.join [(6, .bool (ordB5 lo hi a b))] ?_ (fun hJ1 => ?_)
  · refine TQ.thenN (hY2 _ _ ?_)
    refine TW.ret ?_
    refine TQ.ret Tryz.results82 rfl ((.tmp rfl .nil)) ?_
    exact fun w hw => Ret.of hw
  refine TW.region ?_
  refine TL.p (by first | exact Pu.fb ty_fa47_0 | exact Pu.fe ty_fa47_0) ?_
  refine TL.p (Pu.ld ty_sc3) ?_
  refine TL.p Pu.mv ?_
  refine TL.p Pu.ge ?_
  refine TL.p Pu.mv ?_
  refine TL.guard (t := 11) rfl (fun hg1 => ?_) (fun hg1 => ?_)
  · refine TL.gd (by first | exact Pu.fb ty_fa47_0 | exact Pu.fe ty_fa47_0) ?_
    refine TL.gd (Pu.ld ty_sc3) ?_
    refine TL.gd (by first | exact Pu.fb ty_fa47_1 | exact Pu.fe ty_fa47_1) ?_
    refine TL.gd (Pu.ld ty_sc3) ?_
    refine TL.gd Pu.le ?_
    refine TL.p Pu.kt ?_
    refine TL.p Pu.mv ?_
    refine TL.guard (t := 18) rfl (fun hg2 => ?_) (fun hg2 => ?_)
    · refine TL.gd (by first | exact Pu.fb ty_fa47_1 | exact Pu.fe ty_fa47_1) ?_
      refine TL.gd (Pu.ld ty_sc3) ?_
      refine TL.gd Pu.mv ?_
      refine TL.gd Pu.le ?_
      refine TL.p Pu.kt ?_
      refine TL.p Pu.as ?_
      refine TL.nil ?_
      exact TQ.sub (by repeat (first | exact trivial | refine ⟨rfl, ?_⟩ | refine ⟨trivial, ?_⟩ | refine ⟨(by show some (Value.bool _) = some (Value.bool _); simp [hg1, hg2, ordB5]), ?_⟩)) (by repeat (first | exact KSub.nil | refine KSub.cons (by repeat (first | exact Pick.hd | apply Pick.tl)) ?_)) hJ1
    · refine TL.gs ?_
      refine TL.gs ?_
      refine TL.gs ?_
      refine TL.gs ?_
      refine TL.p Pu.kf ?_
      refine TL.p Pu.as ?_
      refine TL.nil ?_
      exact TQ.sub (by repeat (first | exact trivial | refine ⟨rfl, ?_⟩ | refine ⟨trivial, ?_⟩ | refine ⟨(by show some (Value.bool _) = some (Value.bool _); simp [hg1, hg2, ordB5]), ?_⟩)) (by repeat (first | exact KSub.nil | refine KSub.cons (by repeat (first | exact Pick.hd | apply Pick.tl)) ?_)) hJ1
  · refine TL.gs ?_
    refine TL.gs ?_
    refine TL.gs ?_
    refine TL.gs ?_
    refine TL.gs ?_
    refine TL.p Pu.kf ?_
    refine TL.p Pu.mv ?_
    refine TL.gs ?_
    refine TL.gs ?_
    refine TL.gs ?_
    refine TL.gs ?_
    refine TL.p Pu.kf ?_
    refine TL.p Pu.as ?_
    refine TL.nil ?_
    exact TQ.sub (by repeat (first | exact trivial | refine ⟨rfl, ?_⟩ | refine ⟨trivial, ?_⟩ | refine ⟨(by show some (Value.bool _) = some (Value.bool _); simp [hg1, ordB5]), ?_⟩)) (by repeat (first | exact KSub.nil | refine KSub.cons (by repeat (first | exact Pick.hd | apply Pick.tl)) ?_)) hJ1
theorem refWithin_any (a lo hi : Int) (w : World) :
    Calls Tryz.prog 83 #[.int .i64 a, .int .i64 lo, .int .i64 hi] w (Ret w (.bool (inB5 lo hi a))) := by
  refine K_enter (S := []) (K := []) Tryz.func83 rfl Tryz.ntmps83 rfl (Sat.start _) ?_
  refine TW.seq fun Y1 hY1 => ?_
  refine TW.region ?_
  refine TL.p Pu.as ?_
  refine TL.nil ?_
  refine TQ.thenN (hY1 _ _ ?_)
  refine TW.seq fun Y2 hY2 => ?_
  refine TW.join [(6, .bool (inB5 lo hi a))] ?_ (fun hJ1 => ?_)
  · refine TQ.thenN (hY2 _ _ ?_)
    refine TW.ret ?_
    refine TQ.ret Tryz.results83 rfl ((.tmp rfl .nil)) ?_
    exact fun w hw => Ret.of hw
  refine TW.region ?_
  refine TL.p Pu.mv ?_
  refine TL.p Pu.mv ?_
  refine TL.p Pu.ge ?_
  refine TL.p Pu.mv ?_
  refine TL.guard (t := 10) rfl (fun hg1 => ?_) (fun hg1 => ?_)
  · refine TL.gd Pu.mv ?_
    refine TL.gd Pu.mv ?_
    refine TL.gd Pu.le ?_
    refine TL.p Pu.kt ?_
    refine TL.p Pu.as ?_
    refine TL.nil ?_
    exact TQ.sub (by repeat (first | exact trivial | refine ⟨rfl, ?_⟩ | refine ⟨trivial, ?_⟩ | refine ⟨(by show some (Value.bool _) = some (Value.bool _); simp [hg1, inB5]), ?_⟩)) (by repeat (first | exact KSub.nil | refine KSub.cons (by repeat (first | exact Pick.hd | apply Pick.tl)) ?_)) hJ1
  · refine TL.gs ?_
    refine TL.gs ?_
    refine TL.gs ?_
    refine TL.p Pu.kf ?_
    refine TL.p Pu.as ?_
    refine TL.nil ?_
    exact TQ.sub (by repeat (first | exact trivial | refine ⟨rfl, ?_⟩ | refine ⟨trivial, ?_⟩ | refine ⟨(by show some (Value.bool _) = some (Value.bool _); simp [hg1, inB5]), ?_⟩)) (by repeat (first | exact KSub.nil | refine KSub.cons (by repeat (first | exact Pick.hd | apply Pick.tl)) ?_)) hJ1
set_option maxRecDepth 100000 in
theorem refPack_any (f : Nat → Int) (w : World) :
    Calls Tryz.prog 52 #[.agg (packL f).toArray] w (Ret w (.bool (packOk f))) := by
  refine K_enter (S := []) (K := []) Tryz.func52 rfl Tryz.ntmps52 rfl (Sat.start _) ?_
  refine TW.seq fun Y1 hY1 => ?_
  refine TW.region ?_
  refine TL.m Mk.bx ?_
  intro b1
  refine TL.p Pu.as ?_
  refine TL.nil ?_
  refine TQ.thenN (hY1 _ _ ?_)
  refine TW.seq fun Y2 hY2 => ?_
  refine TW.seq fun Y3 hY3 => ?_
  refine TW.join [(19, .bool (!(ordB5 0 1000000 (f 1) (f 2) && inB5 0 6000000 (f 9) && inB5 0 100000 (f 10))))] ?_ (fun hJ1 => ?_)
  · refine TQ.thenN (hY3 _ _ ?_)
    refine TW.cond rfl (fun hc0 => ?_) (fun hc0 => ?_)
    · try simp only [decide_eq_true_eq, decide_eq_false_iff_not, Bool.not_eq_true', Bool.not_eq_false', Bool.and_eq_true, Bool.or_eq_true, Bool.and_eq_false_iff, Bool.or_eq_false_iff, Int.not_lt, Int.not_le] at hc0
      have hno : (ordB5 0 1000000 (f 1) (f 2) && inB5 0 6000000 (f 9) && inB5 0 100000 (f 10)) = false := by simp only [Bool.and_eq_false_iff]; exact hc0
      refine TW.seq fun Y4 hY4 => ?_
      refine TW.region ?_
      refine TL.p Pu.as ?_
      refine TL.nil ?_
      refine TQ.thenN (hY4 _ _ ?_)
      refine TW.ret ?_
      refine TQ.thenR ?_
      refine TQ.ret Tryz.results52 rfl ((.tmp rfl .nil)) ?_
      exact fun w hw => ⟨ret_bool (by unfold packOk; rw [hno]; rfl), Chg.ext hw.chg⟩
    · try simp only [decide_eq_true_eq, decide_eq_false_iff_not, Bool.not_eq_true', Bool.not_eq_false', Bool.and_eq_true, Bool.or_eq_true, Bool.and_eq_false_iff, Bool.or_eq_false_iff, Int.not_lt, Int.not_le] at hc0
      have hyes : (ordB5 0 1000000 (f 1) (f 2) && inB5 0 6000000 (f 9) && inB5 0 100000 (f 10)) = true := by simpa using hc0
      refine TW.skip ?_
      refine TQ.thenN (hY2 _ _ ?_)
      refine TW.seq fun Y5 hY5 => ?_
      refine TW.region ?_
      refine TL.p Pu.bd ?_
      refine TL.m (Mk.al ty_zr47) ?_
      intro b2
      first | refine TL.st ty_sz47 ?_ | refine TL.se ty_sz47 ?_
      refine TL.nil ?_
      refine TQ.thenN (hY5 _ _ ?_)
      refine TW.seq fun Y6 hY6 => ?_
      refine TW.seq fun Y7 hY7 => ?_
      refine TW.region ?_
      refine TL.p (by first | exact Pu.fb ty_fa58_0 | exact Pu.fe ty_fa58_0) ?_
      refine TL.p (Pu.ld ty_sc5) ?_
      refine TL.p Pu.eq ?_
      refine TL.nil ?_
      refine TQ.thenN (hY7 _ _ ?_)
      refine TW.cond rfl (fun hc1 => ?_) (fun hc1 => ?_)
      · try simp only [decide_eq_true_eq, decide_eq_false_iff_not, Bool.not_eq_true', Bool.not_eq_false', Bool.and_eq_true, Bool.or_eq_true, Bool.and_eq_false_iff, Bool.or_eq_false_iff, Int.not_lt, Int.not_le] at hc1
        refine TW.seq fun Y8 hY8 => ?_
        refine TW.join [(2, .bool (ordB5 1 100000 (f 3) (f 4) && ordB5 0 1000 (f 5) (f 6) && nilB (f 7) (f 8)))] ?_ (fun hJ2 => ?_)
        · refine TQ.thenN (hY8 _ _ ?_)
          refine TW.ret ?_
          refine TQ.thenR ?_
          refine TQ.ret Tryz.results52 rfl ((.tmp rfl .nil)) ?_
          exact fun w hw => ⟨ret_bool (by unfold packOk; rw [hyes, hc1]; simp), Chg.ext hw.chg⟩
        refine TW.region ?_
        refine TL.p (by first | exact Pu.fb ty_fa58_2 | exact Pu.fe ty_fa58_2) ?_
        refine TL.p (Pu.lds ty_ag47) ?_
        refine TL.cr rfl (enters Tryz.func82 rfl rfl) (fun w hw => by
            exact refOrdered_any _ _ _ _ _) ?_
        refine TL.p Pu.mv ?_
        refine TL.guard (t := 27) rfl (fun hg1 => ?_) (fun hg1 => ?_)
        · refine TL.gd (by first | exact Pu.fb ty_fa58_3 | exact Pu.fe ty_fa58_3) ?_
          refine TL.gd (Pu.lds ty_ag47) ?_
          refine TL.cr rfl (enters Tryz.func82 rfl rfl) (fun w hw => by
              exact refOrdered_any _ _ _ _ _) ?_
          refine TL.p Pu.kt ?_
          refine TL.p Pu.mv ?_
          refine TL.guard (t := 32) rfl (fun hg2 => ?_) (fun hg2 => ?_)
          · refine TL.gd (by first | exact Pu.fb ty_fa58_4 | exact Pu.fe ty_fa58_4) ?_
            refine TL.gd (Pu.lds ty_ag47) ?_
            refine TL.gd (Pu.lds ty_ag47) ?_
            refine TL.gd (Pu.q2 ty_q2_47) ?_
            refine TL.p Pu.kt ?_
            refine TL.p Pu.as ?_
            refine TL.nil ?_
            exact TQ.sub (by repeat (first | exact trivial | refine ⟨rfl, ?_⟩ | refine ⟨trivial, ?_⟩ | refine ⟨(by show some (Value.bool _) = some (Value.bool _); simp [hg1, hg2, nilB]), ?_⟩)) (by repeat (first | exact KSub.nil | refine KSub.cons (by repeat (first | exact Pick.hd | apply Pick.tl)) ?_)) hJ2
          · refine TL.gs ?_
            refine TL.gs ?_
            refine TL.gs ?_
            refine TL.gs ?_
            refine TL.p Pu.kf ?_
            refine TL.p Pu.as ?_
            refine TL.nil ?_
            exact TQ.sub (by repeat (first | exact trivial | refine ⟨rfl, ?_⟩ | refine ⟨trivial, ?_⟩ | refine ⟨(by show some (Value.bool _) = some (Value.bool _); simp [hg1, hg2, nilB]), ?_⟩)) (by repeat (first | exact KSub.nil | refine KSub.cons (by repeat (first | exact Pick.hd | apply Pick.tl)) ?_)) hJ2
        · refine TL.gs ?_
          refine TL.gs ?_
          refine TL.gs ?_
          refine TL.p Pu.kf ?_
          refine TL.p Pu.mv ?_
          refine TL.gs ?_
          refine TL.gs ?_
          refine TL.gs ?_
          refine TL.gs ?_
          refine TL.p Pu.kf ?_
          refine TL.p Pu.as ?_
          refine TL.nil ?_
          exact TQ.sub (by repeat (first | exact trivial | refine ⟨rfl, ?_⟩ | refine ⟨trivial, ?_⟩ | refine ⟨(by show some (Value.bool _) = some (Value.bool _); simp [hg1, nilB]), ?_⟩)) (by repeat (first | exact KSub.nil | refine KSub.cons (by repeat (first | exact Pick.hd | apply Pick.tl)) ?_)) hJ2
      · try simp only [decide_eq_true_eq, decide_eq_false_iff_not, Bool.not_eq_true', Bool.not_eq_false', Bool.and_eq_true, Bool.or_eq_true, Bool.and_eq_false_iff, Bool.or_eq_false_iff, Int.not_lt, Int.not_le] at hc1
        refine TW.skip ?_
        refine TQ.thenN (hY6 _ _ ?_)
        refine TW.seq fun Y9 hY9 => ?_
        refine TW.seq fun Y10 hY10 => ?_
        refine TW.region ?_
        refine TL.p (by first | exact Pu.fb ty_fa58_0 | exact Pu.fe ty_fa58_0) ?_
        refine TL.p (Pu.ld ty_sc5) ?_
        refine TL.p Pu.eq ?_
        refine TL.nil ?_
        refine TQ.thenN (hY10 _ _ ?_)
        refine TW.cond rfl (fun hc2 => ?_) (fun hc2 => ?_)
        · try simp only [decide_eq_true_eq, decide_eq_false_iff_not, Bool.not_eq_true', Bool.not_eq_false', Bool.and_eq_true, Bool.or_eq_true, Bool.and_eq_false_iff, Bool.or_eq_false_iff, Int.not_lt, Int.not_le] at hc2
          refine TW.seq fun Y11 hY11 => ?_
          refine TW.join [(2, .bool (nilB (f 3) (f 4) && nilB (f 5) (f 6) && nilB (f 7) (f 8)))] ?_ (fun hJ3 => ?_)
          · refine TQ.thenN (hY11 _ _ ?_)
            refine TW.ret ?_
            refine TQ.thenR ?_
            refine TQ.ret Tryz.results52 rfl ((.tmp rfl .nil)) ?_
            exact fun w hw => ⟨ret_bool (by unfold packOk; rw [hyes, hc2]; simp), Chg.ext hw.chg⟩
          refine TW.region ?_
          refine TL.p (by first | exact Pu.fb ty_fa58_2 | exact Pu.fe ty_fa58_2) ?_
          refine TL.p (Pu.lds ty_ag47) ?_
          refine TL.p (Pu.lds ty_ag47) ?_
          refine TL.p (Pu.q2 ty_q2_47) ?_
          refine TL.p Pu.mv ?_
          refine TL.guard (t := 45) rfl (fun hg3 => ?_) (fun hg3 => ?_)
          · refine TL.gd (by first | exact Pu.fb ty_fa58_3 | exact Pu.fe ty_fa58_3) ?_
            refine TL.gd (Pu.lds ty_ag47) ?_
            refine TL.gd (Pu.lds ty_ag47) ?_
            refine TL.gd (Pu.q2 ty_q2_47) ?_
            refine TL.p Pu.kt ?_
            refine TL.p Pu.mv ?_
            refine TL.guard (t := 51) rfl (fun hg4 => ?_) (fun hg4 => ?_)
            · refine TL.gd (by first | exact Pu.fb ty_fa58_4 | exact Pu.fe ty_fa58_4) ?_
              refine TL.gd (Pu.lds ty_ag47) ?_
              refine TL.gd (Pu.lds ty_ag47) ?_
              refine TL.gd (Pu.q2 ty_q2_47) ?_
              refine TL.p Pu.kt ?_
              refine TL.p Pu.as ?_
              refine TL.nil ?_
              exact TQ.sub (by repeat (first | exact trivial | refine ⟨rfl, ?_⟩ | refine ⟨trivial, ?_⟩ | refine ⟨(by show some (Value.bool _) = some (Value.bool _); simp [hg3, hg4, nilB]), ?_⟩)) (by repeat (first | exact KSub.nil | refine KSub.cons (by repeat (first | exact Pick.hd | apply Pick.tl)) ?_)) hJ3
            · refine TL.gs ?_
              refine TL.gs ?_
              refine TL.gs ?_
              refine TL.gs ?_
              refine TL.p Pu.kf ?_
              refine TL.p Pu.as ?_
              refine TL.nil ?_
              exact TQ.sub (by repeat (first | exact trivial | refine ⟨rfl, ?_⟩ | refine ⟨trivial, ?_⟩ | refine ⟨(by show some (Value.bool _) = some (Value.bool _); simp [hg3, hg4, nilB]), ?_⟩)) (by repeat (first | exact KSub.nil | refine KSub.cons (by repeat (first | exact Pick.hd | apply Pick.tl)) ?_)) hJ3
          · refine TL.gs ?_
            refine TL.gs ?_
            refine TL.gs ?_
            refine TL.gs ?_
            refine TL.p Pu.kf ?_
            refine TL.p Pu.mv ?_
            refine TL.gs ?_
            refine TL.gs ?_
            refine TL.gs ?_
            refine TL.gs ?_
            refine TL.p Pu.kf ?_
            refine TL.p Pu.as ?_
            refine TL.nil ?_
            exact TQ.sub (by repeat (first | exact trivial | refine ⟨rfl, ?_⟩ | refine ⟨trivial, ?_⟩ | refine ⟨(by show some (Value.bool _) = some (Value.bool _); simp [hg3, nilB]), ?_⟩)) (by repeat (first | exact KSub.nil | refine KSub.cons (by repeat (first | exact Pick.hd | apply Pick.tl)) ?_)) hJ3
        · try simp only [decide_eq_true_eq, decide_eq_false_iff_not, Bool.not_eq_true', Bool.not_eq_false', Bool.and_eq_true, Bool.or_eq_true, Bool.and_eq_false_iff, Bool.or_eq_false_iff, Int.not_lt, Int.not_le] at hc2
          refine TW.skip ?_
          refine TQ.thenN (hY9 _ _ ?_)
          refine TW.seq fun Y12 hY12 => ?_
          refine TW.join [(2, .bool (decide (f 0 = 3) && nilB (f 3) (f 4) && nilB (f 5) (f 6) && ordB5 0 1000000 (f 7) (f 8)))] ?_ (fun hJ4 => ?_)
          · refine TQ.thenN (hY12 _ _ ?_)
            refine TW.ret ?_
            refine TQ.ret Tryz.results52 rfl ((.tmp rfl .nil)) ?_
            exact fun w hw => ⟨ret_bool (by unfold packOk; rw [hyes]; simp [hc1, hc2]), Chg.ext hw.chg⟩
          refine TW.region ?_
          refine TL.p (by first | exact Pu.fb ty_fa58_0 | exact Pu.fe ty_fa58_0) ?_
          refine TL.p (Pu.ld ty_sc5) ?_
          refine TL.p Pu.eq ?_
          refine TL.p Pu.mv ?_
          refine TL.guard (t := 60) rfl (fun hg5 => ?_) (fun hg5 => ?_)
          · refine TL.gd (by first | exact Pu.fb ty_fa58_2 | exact Pu.fe ty_fa58_2) ?_
            refine TL.gd (Pu.lds ty_ag47) ?_
            refine TL.gd (Pu.lds ty_ag47) ?_
            refine TL.gd (Pu.q2 ty_q2_47) ?_
            refine TL.p Pu.kt ?_
            refine TL.p Pu.mv ?_
            refine TL.guard (t := 66) rfl (fun hg6 => ?_) (fun hg6 => ?_)
            · refine TL.gd (by first | exact Pu.fb ty_fa58_3 | exact Pu.fe ty_fa58_3) ?_
              refine TL.gd (Pu.lds ty_ag47) ?_
              refine TL.gd (Pu.lds ty_ag47) ?_
              refine TL.gd (Pu.q2 ty_q2_47) ?_
              refine TL.p Pu.kt ?_
              refine TL.p Pu.mv ?_
              refine TL.guard (t := 72) rfl (fun hg7 => ?_) (fun hg7 => ?_)
              · refine TL.gd (by first | exact Pu.fb ty_fa58_4 | exact Pu.fe ty_fa58_4) ?_
                refine TL.gd (Pu.lds ty_ag47) ?_
                refine TL.cr rfl (enters Tryz.func82 rfl rfl) (fun w hw => by
                    exact refOrdered_any _ _ _ _ _) ?_
                refine TL.p Pu.kt ?_
                refine TL.p Pu.as ?_
                refine TL.nil ?_
                exact TQ.sub (by repeat (first | exact trivial | refine ⟨rfl, ?_⟩ | refine ⟨trivial, ?_⟩ | refine ⟨(by show some (Value.bool _) = some (Value.bool _); simp [hg5, hg6, hg7, nilB]), ?_⟩)) (by repeat (first | exact KSub.nil | refine KSub.cons (by repeat (first | exact Pick.hd | apply Pick.tl)) ?_)) hJ4
              · refine TL.gs ?_
                refine TL.gs ?_
                refine TL.gs ?_
                refine TL.p Pu.kf ?_
                refine TL.p Pu.as ?_
                refine TL.nil ?_
                exact TQ.sub (by repeat (first | exact trivial | refine ⟨rfl, ?_⟩ | refine ⟨trivial, ?_⟩ | refine ⟨(by show some (Value.bool _) = some (Value.bool _); simp [hg5, hg6, hg7, nilB]), ?_⟩)) (by repeat (first | exact KSub.nil | refine KSub.cons (by repeat (first | exact Pick.hd | apply Pick.tl)) ?_)) hJ4
            · refine TL.gs ?_
              refine TL.gs ?_
              refine TL.gs ?_
              refine TL.gs ?_
              refine TL.p Pu.kf ?_
              refine TL.p Pu.mv ?_
              refine TL.gs ?_
              refine TL.gs ?_
              refine TL.gs ?_
              refine TL.p Pu.kf ?_
              refine TL.p Pu.as ?_
              refine TL.nil ?_
              exact TQ.sub (by repeat (first | exact trivial | refine ⟨rfl, ?_⟩ | refine ⟨trivial, ?_⟩ | refine ⟨(by show some (Value.bool _) = some (Value.bool _); simp [hg5, hg6, nilB]), ?_⟩)) (by repeat (first | exact KSub.nil | refine KSub.cons (by repeat (first | exact Pick.hd | apply Pick.tl)) ?_)) hJ4
          · refine TL.gs ?_
            refine TL.gs ?_
            refine TL.gs ?_
            refine TL.gs ?_
            refine TL.p Pu.kf ?_
            refine TL.p Pu.mv ?_
            refine TL.gs ?_
            refine TL.gs ?_
            refine TL.gs ?_
            refine TL.gs ?_
            refine TL.p Pu.kf ?_
            refine TL.p Pu.mv ?_
            refine TL.gs ?_
            refine TL.gs ?_
            refine TL.gs ?_
            refine TL.p Pu.kf ?_
            refine TL.p Pu.as ?_
            refine TL.nil ?_
            exact TQ.sub (by repeat (first | exact trivial | refine ⟨rfl, ?_⟩ | refine ⟨trivial, ?_⟩ | refine ⟨(by show some (Value.bool _) = some (Value.bool _); simp [hg5, nilB]), ?_⟩)) (by repeat (first | exact KSub.nil | refine KSub.cons (by repeat (first | exact Pick.hd | apply Pick.tl)) ?_)) hJ4
  refine TW.region ?_
  refine TL.p (by first | exact Pu.fb ty_fa58_1 | exact Pu.fe ty_fa58_1) ?_
  refine TL.p (Pu.lds ty_ag47) ?_
  refine TL.cr rfl (enters Tryz.func82 rfl rfl) (fun w hw => by
      exact refOrdered_any _ _ _ _ _) ?_
  refine TL.p Pu.no ?_
  refine TL.p Pu.mv ?_
  refine TL.guard (t := 8) rfl (fun hg8 => ?_) (fun hg8 => ?_)
  · refine TL.gs ?_
    refine TL.gs ?_
    refine TL.gs ?_
    refine TL.gs ?_
    refine TL.p Pu.kt ?_
    refine TL.p Pu.mv ?_
    refine TL.gs ?_
    refine TL.gs ?_
    refine TL.gs ?_
    refine TL.gs ?_
    refine TL.p Pu.kt ?_
    refine TL.nil ?_
    exact TQ.sub (by repeat (first | exact trivial | refine ⟨rfl, ?_⟩ | refine ⟨trivial, ?_⟩ | refine ⟨(by show some (Value.bool _) = some (Value.bool _); simp [hg8]), ?_⟩)) (by repeat (first | exact KSub.nil | refine KSub.cons (by repeat (first | exact Pick.hd | apply Pick.tl)) ?_)) hJ1
  · refine TL.gd (by first | exact Pu.fb ty_fa58_5 | exact Pu.fe ty_fa58_5) ?_
    refine TL.gd (Pu.ld ty_sc3) ?_
    refine TL.cr rfl (enters Tryz.func83 rfl rfl) (fun w hw => by
        exact refWithin_any _ _ _ _) ?_
    refine TL.gd Pu.no ?_
    refine TL.p Pu.kf ?_
    refine TL.p Pu.mv ?_
    refine TL.guard (t := 14) rfl (fun hg9 => ?_) (fun hg9 => ?_)
    · refine TL.gs ?_
      refine TL.gs ?_
      refine TL.gs ?_
      refine TL.gs ?_
      refine TL.p Pu.kt ?_
      refine TL.nil ?_
      exact TQ.sub (by repeat (first | exact trivial | refine ⟨rfl, ?_⟩ | refine ⟨trivial, ?_⟩ | refine ⟨(by show some (Value.bool _) = some (Value.bool _); simp [hg8, hg9]), ?_⟩)) (by repeat (first | exact KSub.nil | refine KSub.cons (by repeat (first | exact Pick.hd | apply Pick.tl)) ?_)) hJ1
    · refine TL.gd (by first | exact Pu.fb ty_fa58_6 | exact Pu.fe ty_fa58_6) ?_
      refine TL.gd (Pu.ld ty_sc3) ?_
      refine TL.cr rfl (enters Tryz.func83 rfl rfl) (fun w hw => by
          exact refWithin_any _ _ _ _) ?_
      refine TL.gd Pu.no ?_
      refine TL.p Pu.kf ?_
      refine TL.nil ?_
      exact TQ.sub (by repeat (first | exact trivial | refine ⟨rfl, ?_⟩ | refine ⟨trivial, ?_⟩ | refine ⟨(by show some (Value.bool _) = some (Value.bool _); simp [hg8, hg9]), ?_⟩)) (by repeat (first | exact KSub.nil | refine KSub.cons (by repeat (first | exact Pick.hd | apply Pick.tl)) ?_)) hJ1
end Go.Proofs.YtljhdcclajikiaaGreatDoor
namespace Go.Proofs.YtljhdcclajikiaaGreatDoor
set_option linter.all false
set_option linter.unusedVariables false
set_option linter.unusedSimpArgs false
open Go.RowKit
theorem mulB {a b A B : Int} (ha : 0 ≤ a) (hA : a ≤ A) (hb : 0 ≤ b) (hB : b ≤ B) : 0 ≤ a * b ∧ a * b ≤ A * B :=
  ⟨Int.mul_nonneg ha hb, Int.mul_le_mul hA hB hb (Int.le_trans ha hA)⟩
def restV (f : Nat → Int) : List Int :=
  if f 0 = 3 then [max 0 (f 1 - f 8 * f 10), max 0 (f 2 - f 7 * f 10), min (f 1) (f 7 * f 10), min (f 2) (f 8 * f 10), 0]
  else if f 0 = 2 ∨ f 9 < f 3 then [f 1, f 2, 0, 0, 0]
  else if f 9 < f 4 then [f 1 * (1000 - f 6) / 1000, f 2, 0, (f 2 * f 6 + 999) / 1000, 1]
  else [f 1 * (1000 - f 6) / 1000, (f 2 * (1000 - f 5) + 999) / 1000, f 1 * f 5 / 1000, (f 2 * f 6 + 999) / 1000, 2]
def restC (l : List Int) : List Value := [.agg #[.int .i64 (l.getD 0 0), .int .i64 (l.getD 1 0)], .agg #[.int .i64 (l.getD 2 0), .int .i64 (l.getD 3 0)], .int .u8 (l.getD 4 0)]
def okF (f : Nat → Int) : Prop := 0 ≤ f 1 ∧ f 1 ≤ f 2 ∧ f 2 ≤ 1000000 ∧ 0 ≤ f 9 ∧ f 9 ≤ 6000000 ∧ 0 ≤ f 10 ∧ f 10 ≤ 100000
theorem packOk_iff (f : Nat → Int) : packOk f = true ↔ okF f ∧
    ((f 0 = 1 ∧ 1 ≤ f 3 ∧ f 3 ≤ f 4 ∧ f 4 ≤ 100000 ∧ 0 ≤ f 5 ∧ f 5 ≤ f 6 ∧ f 6 ≤ 1000 ∧ f 7 = 0 ∧ f 8 = 0) ∨
     (f 0 = 2 ∧ f 3 = 0 ∧ f 4 = 0 ∧ f 5 = 0 ∧ f 6 = 0 ∧ f 7 = 0 ∧ f 8 = 0) ∨
     (f 0 = 3 ∧ f 3 = 0 ∧ f 4 = 0 ∧ f 5 = 0 ∧ f 6 = 0 ∧ 0 ≤ f 7 ∧ f 7 ≤ f 8 ∧ f 8 ≤ 1000000)) := by
  unfold packOk okF ordB5 inB5 nilB
  split
  · simp only [Bool.and_eq_true, decide_eq_true_eq]; omega
  · split
    · simp only [Bool.and_eq_true, decide_eq_true_eq]; omega
    · simp only [Bool.and_eq_true, decide_eq_true_eq]; omega
def restK (f : Nat → Int) : List Value := if packOk f then restC (restV f) ++ [.int .i64 0] else restC [0, 0, 0, 0, 0] ++ [.int .i64 50]
end Go.Proofs.YtljhdcclajikiaaGreatDoor
namespace Go.Proofs.YtljhdcclajikiaaGreatDoor
set_option linter.all false
set_option linter.unusedVariables false
set_option linter.unusedSimpArgs false
open Go.RowKit
def Fst (p : Nat → Bool) (n : Nat) : Type := { k : Nat // k ≤ n ∧ (∀ j, j < k → p j = false) ∧ (k < n → p k = true) }
def aft (n k : Nat) : Nat := if k < n then k + 1 else n
theorem Fst.any {p : Nat → Bool} {n : Nat} (x : Fst p n) : decide (x.1 < n) = (List.range n).any p := by
  obtain ⟨k, h1, h2, h3⟩ := x
  by_cases h : k < n
  · have : (List.range n).any p = true := List.any_eq_true.2 ⟨k, List.mem_range.2 h, h3 h⟩
    rw [this]; simpa using h
  · have : (List.range n).any p = false := by
      rw [List.any_eq_false]
      intro j hj
      have := h2 j (by have := List.mem_range.1 hj; omega)
      simp [this]
    rw [this]; simpa using h
theorem indexInt_any {g : FuncId} {fs cs : List Value} {A : Option Addr} {n cp : Nat} {v : Nat → Int} {p : Nat → Bool} {M : Nat → List Fact} {w : World} (hen : Enters Tryz.prog g) (hn : n ≤ 9223372036854775807)
    (hR : RdR w 1 A n (fun k => [.int .i64 (v k)])) (hA : 0 < n → Apart (feet (M 0)) A) (hM : Sat (feet (M 0)) w (M 0) w) (hfe : ∀ k, feet (M k) = feet (M 0))
    (hg : ∀ k, k < n → (∀ j, j < k → p j = false) → ∀ w', Sat (feet (M 0)) w (M k) w' → CallsK Tryz.prog g (fs ++ [Value.int .i64 (v k)] ++ cs).toArray (M k) w' Unit (fun _ => .bool (p k)) (fun _ => M (k + 1))) :
    CallsK Tryz.prog 88 #[.slice A n cp, .func (.func g) fs.toArray cs.toArray] (M 0) w (Fst p n) (fun x => .int .i64 (if x.1 < n then (x.1 : Int) else -1)) (fun x => M (aft n x.1)) := by
  refine K_enter (S := feet (M 0)) (K := M 0) Tryz.func88 rfl Tryz.ntmps88 rfl hM ?_
  refine TW.seq fun Y1 hY1 => ?_
  refine TW.region ?_
  refine TL.p Pu.as ?_
  refine TL.nil ?_
  refine TQ.thenN (hY1 _ _ ?_)
  refine TW.seq fun Y2 hY2 => ?_
  refine TW.seq fun Y3 hY3 => ?_
  refine TW.region ?_
  refine TL.p Pu.mv ?_
  refine TL.p (Pu.ln Tryz.underlying24) ?_
  refine TL.p Pu.mv ?_
  refine TL.nil ?_
  refine TQ.thenN (hY3 _ _ ?_)
  refine TW.block ?_
  refine TW.loop1 (fun (k : Nat) => [(8, .int .i64 (k : Int)), (7, .int .i64 (n : Int)), (0, .slice A n cp), (1, .func (.func g) fs.toArray cs.toArray)]) (fun k => M k) (fun k => k ≤ n ∧ ∀ j, j < k → p j = false) (fun k => n - k) 0 (by repeat (first | exact trivial | refine ⟨rfl, ?_⟩ | refine ⟨trivial, ?_⟩)) ?_ ?_ ?_
  · exact KSub.refl _
  · exact ⟨by omega, fun j hj => by omega⟩
  rintro k ⟨hk, hall⟩ Z0 hZ0
  refine TW.seq fun Y4 hY4 => ?_
  refine TW.region ?_
  refine TL.p Pu.lt ?_
  refine TL.nil ?_
  refine TQ.thenN (hY4 _ _ ?_)
  refine TW.seq fun Y5 hY5 => ?_
  refine TW.cond rfl (fun hc0 => ?_) (fun hc0 => ?_)
  · try simp only [decide_eq_true_eq, decide_eq_false_iff_not, Bool.not_eq_true', Bool.not_eq_false', Bool.and_eq_true, Bool.or_eq_true, Bool.and_eq_false_iff, Bool.or_eq_false_iff, Int.not_lt, Int.not_le] at hc0
    have hkn : k < n := by omega
    have hA := hA (by omega)
    refine TW.skip ?_
    refine TQ.thenN (hY5 _ _ ?_)
    refine TW.seq fun Y6 hY6 => ?_
    refine TW.block ?_
    refine TW.seq fun Y7 hY7 => ?_
    refine TW.region ?_
    refine TL.p Pu.mv ?_
    refine TL.p Pu.as ?_
    refine TL.nil ?_
    refine TQ.thenN (hY7 _ _ ?_)
    refine TW.seq fun Y8 hY8 => ?_
    refine TW.region ?_
    refine TL.p Pu.mv ?_
    refine TL.p Pu.mv ?_
    refine TL.p Pu.mv ?_
    refine TL.p (Pu.el ty_et24) ?_
    refine TL.p (Pu.ld ty_sc3) ?_
    refine TL.cvk rfl rfl hen (by rw [List.append_nil]) (fun w hw => by
        exact hg k (by omega) hall w hw) ?_
    intro _
    refine TL.nil ?_
    refine TQ.thenN (hY8 _ _ ?_)
    refine TW.cond rfl (fun hc1 => ?_) (fun hc1 => ?_)
    · try simp only [decide_eq_true_eq, decide_eq_false_iff_not, Bool.not_eq_true', Bool.not_eq_false', Bool.and_eq_true, Bool.or_eq_true, Bool.and_eq_false_iff, Bool.or_eq_false_iff, Int.not_lt, Int.not_le] at hc1
      refine TW.seq fun Y9 hY9 => ?_
      refine TW.region ?_
      refine TL.p Pu.mv ?_
      refine TL.p Pu.as ?_
      refine TL.nil ?_
      refine TQ.thenN (hY9 _ _ ?_)
      refine TW.ret ?_
      refine TQ.blkR ?_
      refine TQ.thenR ?_
      refine TQ.thenR ?_
      refine TQ.blkR ?_
      refine TQ.thenR ?_
      refine TQ.ret Tryz.results88 rfl ((.tmp rfl .nil)) ?_
      exact fun w hw => ⟨⟨k, by omega, hall, fun _ => hc1⟩, by simp [hkn]; rfl, by simpa [aft, hkn] using hw⟩
    · try simp only [decide_eq_true_eq, decide_eq_false_iff_not, Bool.not_eq_true', Bool.not_eq_false', Bool.and_eq_true, Bool.or_eq_true, Bool.and_eq_false_iff, Bool.or_eq_false_iff, Int.not_lt, Int.not_le] at hc1
      refine TW.skip ?_
      refine TQ.blkN ?_
      refine TQ.thenN (hY6 _ _ ?_)
      refine TW.region ?_
      refine TL.p Pu.ad ?_
      refine TL.p Pu.mv ?_
      refine TL.nil ?_
      refine TQ.thenN (hZ0 (k + 1) _ _ ?_ ?_ (by repeat (first | exact trivial | refine ⟨rfl, ?_⟩ | refine ⟨trivial, ?_⟩)) ?_)
      · refine ⟨by omega, fun j hj => ?_⟩
        by_cases h : j = k
        · subst h; exact hc1
        · exact hall j (by omega)
      · exact (by first | omega | (simp only []; omega) | (simp; omega))
      · rw [List.append_nil]; exact KSub.refl _
  · try simp only [decide_eq_true_eq, decide_eq_false_iff_not, Bool.not_eq_true', Bool.not_eq_false', Bool.and_eq_true, Bool.or_eq_true, Bool.and_eq_false_iff, Bool.or_eq_false_iff, Int.not_lt, Int.not_le] at hc0
    have hkn : k = n := by omega
    refine TW.exit ?_
    refine TQ.thenX ?_
    refine TQ.thenX ?_
    refine TQ.blkX ?_
    refine TQ.thenN (hY2 _ _ ?_)
    refine TW.seq fun Y10 hY10 => ?_
    refine TW.region ?_
    refine TL.p Pu.as ?_
    refine TL.nil ?_
    refine TQ.thenN (hY10 _ _ ?_)
    refine TW.ret ?_
    refine TQ.ret Tryz.results88 rfl ((.tmp rfl .nil)) ?_
    exact fun w hw => ⟨⟨k, by omega, hall, fun h => by omega⟩, by simp [hkn]; rfl, by simpa [aft, hkn] using hw⟩
theorem hasInt_st {g : FuncId} {fs cs : List Value} {A : Option Addr} {n cp : Nat} {v : Nat → Int} {p : Nat → Bool} {M : Nat → List Fact} {w : World} (hen : Enters Tryz.prog g) (hn : n ≤ 9223372036854775807)
    (hR : RdR w 1 A n (fun k => [.int .i64 (v k)])) (hA : 0 < n → Apart (feet (M 0)) A) (hM : Sat (feet (M 0)) w (M 0) w) (hfe : ∀ k, feet (M k) = feet (M 0))
    (hg : ∀ k, k < n → (∀ j, j < k → p j = false) → ∀ w', Sat (feet (M 0)) w (M k) w' → CallsK Tryz.prog g (fs ++ [Value.int .i64 (v k)] ++ cs).toArray (M k) w' Unit (fun _ => .bool (p k)) (fun _ => M (k + 1))) :
    CallsK Tryz.prog 70 #[.slice A n cp, .func (.func g) fs.toArray cs.toArray] (M 0) w (Fst p n) (fun x => .bool (decide (x.1 < n))) (fun x => M (aft n x.1)) := by
  refine K_enter (S := feet (M 0)) (K := M 0) Tryz.func70 rfl Tryz.ntmps70 rfl hM ?_
  refine TW.seq fun Y1 hY1 => ?_
  refine TW.region ?_
  refine TL.p Pu.as ?_
  refine TL.nil ?_
  refine TQ.thenN (hY1 _ _ ?_)
  refine TW.seq fun Y2 hY2 => ?_
  refine TW.region ?_
  refine TL.p Pu.mv ?_
  refine TL.p Pu.mv ?_
  refine TL.call rfl (enters Tryz.func88 rfl rfl) (by rw [List.append_nil]) rfl (fun w hw => by
      exact indexInt_any hen hn (hR.sat0 hw hA) hA hw.self hfe (fun k hk hp w' hw' => hg k hk hp w' (hw'.from hw.chg fun _ hb => .inl hb))) ?_
  intro x
  refine TL.p Pu.ge ?_
  refine TL.p Pu.as ?_
  refine TL.nil ?_
  refine TQ.thenN (hY2 _ _ ?_)
  refine TW.ret ?_
  refine TQ.ret Tryz.results70 rfl ((.tmp rfl .nil)) ?_
  exact fun w hw => ⟨x, by by_cases h : x.1 < n <;> simp [retV, h], by simpa using hw⟩
end Go.Proofs.YtljhdcclajikiaaGreatDoor
namespace Go.Proofs.YtljhdcclajikiaaGreatDoor
set_option linter.all false
set_option linter.unusedVariables false
set_option linter.unusedSimpArgs false
open Go.RowKit
theorem hasInt_any {g : FuncId} {fs cs : List Value} {A : Option Addr} {n cp : Nat} {v : Nat → Int} {p : Nat → Bool} {w : World} (hen : Enters Tryz.prog g) (hn : n ≤ 9223372036854775807)
    (hR : RdR w 1 A n (fun k => [.int .i64 (v k)])) (hg : ∀ k, k < n → ∀ w', Below w.heap.size w w' → Calls Tryz.prog g (fs ++ [Value.int .i64 (v k)] ++ cs).toArray w' (Ret w' (.bool (p k)))) :
    Calls Tryz.prog 70 #[.slice A n cp, .func (.func g) fs.toArray cs.toArray] w (Ret w (.bool (anyB n p))) :=
  CallsK.retOf (hasInt_st (M := fun _ => []) hen hn hR (fun _ => Apart.nil) (Sat.start w) (fun _ => rfl) fun k hk _ w' hw' => CallsK.ret (hg k hk w' (Chg.ext hw'.chg))) fun x => by rw [x.any]; rfl
theorem in1_any (x lo hi : Int) (b1 b2 : Nat) (w : World) (h1 : OldB w b1 [.int .i64 lo]) (h2 : OldB w b2 [.int .i64 hi]) :
    Calls Tryz.prog 71 #[.int .i64 x, .pointer (some ⟨b1, 0, none⟩), .pointer (some ⟨b2, 0, none⟩)] w (Ret w (.bool (!inB5 lo hi x))) := by
  refine K_enter (S := []) (K := []) Tryz.func71 rfl Tryz.ntmps71 rfl (Sat.start _) ?_
  refine TW.seq fun Y1 hY1 => ?_
  refine TW.region ?_
  refine TL.p Pu.as ?_
  refine TL.nil ?_
  refine TQ.thenN (hY1 _ _ ?_)
  refine TW.seq fun Y2 hY2 => ?_
  refine TW.join [(4, .bool (decide (x < lo) || decide (hi < x)))] ?_ (fun hJ1 => ?_)
  · refine TQ.thenN (hY2 _ _ ?_)
    refine TW.ret ?_
    refine TQ.ret Tryz.results71 rfl ((.tmp rfl .nil)) ?_
    exact fun w hw => ⟨ret_bool (by unfold inB5; rw [Bool.eq_iff_iff]; simp only [Bool.not_eq_true', Bool.and_eq_false_iff, Bool.or_eq_true, decide_eq_true_eq, decide_eq_false_iff_not]; omega), Chg.ext hw.chg⟩
  refine TW.region ?_
  refine TL.p Pu.mv ?_
  refine TL.p (by first | exact (Pu.ld ty_sc3) | exact (Pu.ldo ty_sc3)) ?_
  refine TL.p Pu.lt ?_
  refine TL.p Pu.mv ?_
  refine TL.guard (t := 8) rfl (fun hg1 => ?_) (fun hg1 => ?_)
  · refine TL.gs ?_
    refine TL.gs ?_
    refine TL.gs ?_
    refine TL.p Pu.kt ?_
    refine TL.p Pu.as ?_
    refine TL.nil ?_
    exact TQ.sub (by repeat (first | exact trivial | refine ⟨rfl, ?_⟩ | refine ⟨trivial, ?_⟩ | refine ⟨(by show some (Value.bool _) = some (Value.bool _); simp [hg1]), ?_⟩)) (by repeat (first | exact KSub.nil | refine KSub.cons (by repeat (first | exact Pick.hd | apply Pick.tl)) ?_)) hJ1
  · refine TL.gd Pu.mv ?_
    refine TL.gd (by first | exact (Pu.ld ty_sc3) | exact (Pu.ldo ty_sc3)) ?_
    refine TL.gd Pu.gt ?_
    refine TL.p Pu.kf ?_
    refine TL.p Pu.as ?_
    refine TL.nil ?_
    exact TQ.sub (by repeat (first | exact trivial | refine ⟨rfl, ?_⟩ | refine ⟨trivial, ?_⟩ | refine ⟨(by show some (Value.bool _) = some (Value.bool _); simp [hg1]), ?_⟩)) (by repeat (first | exact KSub.nil | refine KSub.cons (by repeat (first | exact Pick.hd | apply Pick.tl)) ?_)) hJ1
theorem in_any (lo hi : Int) {A : Option Addr} {n cp : Nat} {v : Nat → Int} {w : World} (hn : n ≤ 9223372036854775807) (hR : RdR w 1 A n (fun k => [.int .i64 (v k)])) :
    Calls Tryz.prog 41 #[.int .i64 lo, .int .i64 hi, .slice A n cp] w (Ret w (.bool (allB n fun k => inB5 lo hi (v k)))) := by
  refine K_enter (S := []) (K := []) Tryz.func41 rfl Tryz.ntmps41 rfl (Sat.start _) ?_
  refine TW.seq fun Y1 hY1 => ?_
  refine TW.region ?_
  refine TL.m Mk.bx ?_
  intro b1
  refine TL.m Mk.bx ?_
  intro b2
  refine TL.p Pu.as ?_
  refine TL.nil ?_
  refine TQ.thenN (hY1 _ _ ?_)
  refine TW.seq fun Y2 hY2 => ?_
  refine TW.region ?_
  refine TL.p Pu.mv ?_
  refine TL.p Pu.fn ?_
  refine TL.cr rfl (enters Tryz.func70 rfl rfl) (fun w hw => by
      have h1 := OldB.of_blk (hw.holds (.blk b1 3 [.int .i64 lo]) (by simp))
      have h2 := OldB.of_blk (hw.holds (.blk b2 3 [.int .i64 hi]) (by simp))
      exact hasInt_any (fs := []) (p := fun k => !inB5 lo hi (v k)) (enters Tryz.func71 rfl rfl) hn (hR.sat hw Apart.nil) fun k hk w' hb => in1_any _ _ _ b1 b2 w' (h1.ext hb) (h2.ext hb)) ?_
  refine TL.p Pu.no ?_
  refine TL.p Pu.as ?_
  refine TL.nil ?_
  refine TQ.thenN (hY2 _ _ ?_)
  refine TW.ret ?_
  refine TQ.ret Tryz.results41 rfl ((.tmp rfl .nil)) ?_
  exact fun w hw => ⟨ret_bool (by rw [not_anyB]; simp), Chg.ext hw.chg⟩
theorem RdR.blk {w : World} {b : Nat} {E : TypeId} {cs : List Value} {n sz : Nat} {r : Nat → List Value} (h : Blk w b E cs.toArray) (hr : flatR n r = cs) (hl : ∀ i, i < n → (r i).length = sz) (hz : Nat.blt 0 sz = true := by rfl) (hn : Nat.ble n 1000000 = true := by rfl) : RdR w sz (some ⟨b, 0, none⟩) n r :=
  (OwnR.of_blk h hr hl hz hn).rdr
theorem inOne_any (lo hi x : Int) {b E : Nat} {w : World} (h : Blk w b E #[.int .i64 x]) :
    Calls Tryz.prog 41 #[.int .i64 lo, .int .i64 hi, .slice (some ⟨b, 0, none⟩) 1 1] w (Ret w (.bool (inB5 lo hi x))) := by
  have := in_any lo hi (n := 1) (cp := 1) (v := fun _ => x) (by decide) (RdR.blk (cs := [.int .i64 x]) h rfl (fun _ _ => rfl))
  simpa [allB] using this
theorem inTwo_any (lo hi x y : Int) {b E : Nat} {w : World} (h : Blk w b E #[.int .i64 x, .int .i64 y]) :
    Calls Tryz.prog 41 #[.int .i64 lo, .int .i64 hi, .slice (some ⟨b, 0, none⟩) 2 2] w (Ret w (.bool (inB5 lo hi x && inB5 lo hi y))) := by
  have := in_any lo hi (n := 2) (cp := 2) (v := fun k => if k = 0 then x else y) (by decide) (RdR.blk (cs := [.int .i64 x, .int .i64 y]) h rfl (fun _ _ => rfl))
  simpa [allB, List.range_succ] using this
theorem proper_any (a b lo hi : Int) (w : World) :
    Calls Tryz.prog 73 #[.agg #[.int .i64 a, .int .i64 b], .int .i64 lo, .int .i64 hi] w (Ret w (.bool (ordB5 lo hi a b))) := by
  refine K_enter (S := []) (K := []) Tryz.func73 rfl Tryz.ntmps73 rfl (Sat.start _) ?_
  refine TW.seq fun Y1 hY1 => ?_
  refine TW.region ?_
  refine TL.m Mk.bx ?_
  intro b1
  refine TL.p Pu.as ?_
  refine TL.nil ?_
  refine TQ.thenN (hY1 _ _ ?_)
  refine TW.seq fun Y2 hY2 => ?_
  refine TW.join [(6, .bool (decide (a ≤ b) && (inB5 lo hi a && inB5 lo hi b)))] ?_ (fun hJ1 => ?_)
  · refine TQ.thenN (hY2 _ _ ?_)
    refine TW.ret ?_
    refine TQ.ret Tryz.results73 rfl ((.tmp rfl .nil)) ?_
    exact fun w hw => ⟨ret_bool (by unfold ordB5 inB5; rw [Bool.eq_iff_iff]; simp only [Bool.and_eq_true, decide_eq_true_eq]; omega), Chg.ext hw.chg⟩
  refine TW.region ?_
  refine TL.p (by first | exact Pu.fb ty_fa47_0 | exact Pu.fe ty_fa47_0) ?_
  refine TL.p (Pu.ld ty_sc3) ?_
  refine TL.p (by first | exact Pu.fb ty_fa47_1 | exact Pu.fe ty_fa47_1) ?_
  refine TL.p (Pu.ld ty_sc3) ?_
  refine TL.p Pu.le ?_
  refine TL.p Pu.mv ?_
  refine TL.guard (t := 12) rfl (fun hg1 => ?_) (fun hg1 => ?_)
  · refine TL.gd Pu.mv ?_
    refine TL.gd Pu.mv ?_
    refine TL.gd (by first | exact Pu.fb ty_fa47_0 | exact Pu.fe ty_fa47_0) ?_
    refine TL.gd (Pu.ld ty_sc3) ?_
    refine TL.gd (by first | exact Pu.fb ty_fa47_1 | exact Pu.fe ty_fa47_1) ?_
    refine TL.gd (Pu.ld ty_sc3) ?_
    refine TL.gm Mk.bl ?_
    intro b2
    refine TL.cr rfl (enters Tryz.func41 rfl rfl) (fun w hw => by
        exact inTwo_any _ _ _ _ (hw.holds _ (List.mem_cons_self ..))) ?_
    refine TL.p Pu.kt ?_
    refine TL.p Pu.as ?_
    refine TL.nil ?_
    exact TQ.sub (by repeat (first | exact trivial | refine ⟨rfl, ?_⟩ | refine ⟨trivial, ?_⟩ | refine ⟨(by show some (Value.bool _) = some (Value.bool _); simp [hg1]), ?_⟩)) (by repeat (first | exact KSub.nil | refine KSub.cons (by repeat (first | exact Pick.hd | apply Pick.tl)) ?_)) hJ1
  · refine TL.gs ?_
    refine TL.gs ?_
    refine TL.gs ?_
    refine TL.gs ?_
    refine TL.gs ?_
    refine TL.gs ?_
    refine TL.gs ?_
    refine TL.gs ?_
    refine TL.p Pu.kf ?_
    refine TL.p Pu.as ?_
    refine TL.nil ?_
    exact TQ.sub (by repeat (first | exact trivial | refine ⟨rfl, ?_⟩ | refine ⟨trivial, ?_⟩ | refine ⟨(by show some (Value.bool _) = some (Value.bool _); simp [hg1]), ?_⟩)) (by repeat (first | exact KSub.nil | refine KSub.cons (by repeat (first | exact Pick.hd | apply Pick.tl)) ?_)) hJ1
end Go.Proofs.YtljhdcclajikiaaGreatDoor
namespace Go.Proofs.YtljhdcclajikiaaGreatDoor
set_option linter.all false
set_option linter.unusedVariables false
set_option linter.unusedSimpArgs false
open Go.RowKit
theorem part_any (m t : Int) (w : World) (h0 : 0 ≤ m * t) (h1 : m * t ≤ 1000000000000) :
    Calls Tryz.prog 106 #[.int .i64 m, .int .i64 t] w (Ret w (.tuple #[.int .i64 (m * t / 1000), .int .i64 ((m * t + 999) / 1000)])) := by
  refine K_enter (S := []) (K := []) Tryz.func106 rfl Tryz.ntmps106 rfl (Sat.start _) ?_
  refine TW.seq fun Y1 hY1 => ?_
  refine TW.region ?_
  refine TL.p Pu.as ?_
  refine TL.p Pu.as ?_
  refine TL.nil ?_
  refine TQ.thenN (hY1 _ _ ?_)
  refine TW.seq fun Y2 hY2 => ?_
  refine TW.region ?_
  refine TL.p Pu.mv ?_
  refine TL.p Pu.mv ?_
  refine TL.p Pu.ml ?_
  refine TL.p Pu.as ?_
  refine TL.nil ?_
  refine TQ.thenN (hY2 _ _ ?_)
  refine TW.seq fun Y3 hY3 => ?_
  refine TW.region ?_
  refine TL.p Pu.mv ?_
  refine TL.p Pu.qu ?_
  refine TL.p Pu.mv ?_
  refine TL.p Pu.ad ?_
  refine TL.p Pu.sb ?_
  refine TL.p Pu.qu ?_
  refine TL.p Pu.as ?_
  refine TL.p Pu.as ?_
  refine TL.nil ?_
  refine TQ.thenN (hY3 _ _ ?_)
  refine TW.ret ?_
  refine TQ.ret Tryz.results106 rfl ((.tmp rfl (.tmp rfl .nil))) ?_
  exact fun w hw => ⟨by show Ending.returned (.tuple #[.int .i64 (m * t / 1000), .int .i64 ((m * t + 1000 - 1) / 1000)]) = _; rw [show m * t + 1000 - 1 = m * t + 999 by omega], Chg.ext hw.chg⟩
abbrev None0 (w : World) : Prop := OldB w 0 [.int .i64 0, .int .i64 0]
set_option maxRecDepth 100000 in
theorem slab_any (f : Nat → Int) (w : World) (hG : None0 w) (hk : packOk f = true) (h0 : f 0 = 1) :
    Calls Tryz.prog 75 #[.agg (packL f).toArray] w (Ret w (.tuple (restC (restV f)).toArray)) := by
  obtain ⟨⟨h1, h2, h3, h4, h5, h6, h7⟩, hkind⟩ := (packOk_iff f).1 hk
  have m3 : 0 ≤ f 1 * (1000 - f 6) ∧ f 1 * (1000 - f 6) ≤ 1000000 * 1000 := mulB (by omega) (by omega) (by omega) (by omega)
  have m4 : 0 ≤ f 2 * f 6 ∧ f 2 * f 6 ≤ 1000000 * 1000 := mulB (by omega) (by omega) (by omega) (by omega)
  have m5 : 0 ≤ f 2 * (1000 - f 5) ∧ f 2 * (1000 - f 5) ≤ 1000000 * 1000 := mulB (by omega) (by omega) (by omega) (by omega)
  have m6 : 0 ≤ f 1 * f 5 ∧ f 1 * f 5 ≤ 1000000 * 1000 := mulB (by omega) (by omega) (by omega) (by omega)
  refine K_enter (S := []) (K := []) Tryz.func75 rfl Tryz.ntmps75 rfl (Sat.start _) ?_
  refine TW.seq fun Y1 hY1 => ?_
  refine TW.region ?_
  refine TL.m Mk.bx ?_
  intro b1
  refine TL.m (Mk.al ty_zr47) ?_
  intro b2
  refine TL.m (Mk.al ty_zr47) ?_
  intro b3
  refine TL.p Pu.as ?_
  refine TL.nil ?_
  refine TQ.thenN (hY1 _ _ ?_)
  refine TW.seq fun Y2 hY2 => ?_
  refine TW.region ?_
  refine TL.p (by first | exact Pu.fb ty_fa58_1 | exact Pu.fe ty_fa58_1) ?_
  refine TL.p (Pu.lds ty_ag47) ?_
  first | refine TL.st ty_sz47 ?_ | refine TL.se ty_sz47 ?_
  refine TL.nil ?_
  refine TQ.thenN (hY2 _ _ ?_)
  refine TW.seq fun Y3 hY3 => ?_
  refine TW.seq fun Y4 hY4 => ?_
  refine TW.region ?_
  refine TL.p (by first | exact Pu.fb ty_fa58_5 | exact Pu.fe ty_fa58_5) ?_
  refine TL.p (Pu.ld ty_sc3) ?_
  refine TL.p (by first | exact Pu.fb ty_fa58_2 | exact Pu.fe ty_fa58_2) ?_
  refine TL.p (by first | exact Pu.fb ty_fa47_0 | exact Pu.fe ty_fa47_0) ?_
  refine TL.p (Pu.ld ty_sc3) ?_
  refine TL.p Pu.lt ?_
  refine TL.nil ?_
  refine TQ.thenN (hY4 _ _ ?_)
  refine TW.cond rfl (fun hc0 => ?_) (fun hc0 => ?_)
  · try simp only [decide_eq_true_eq, decide_eq_false_iff_not, Bool.not_eq_true', Bool.not_eq_false', Bool.and_eq_true, Bool.or_eq_true, Bool.and_eq_false_iff, Bool.or_eq_false_iff, Int.not_lt, Int.not_le] at hc0
    refine TW.seq fun Y5 hY5 => ?_
    refine TW.rf (Drop.blk 3 rfl (by repeat (first | exact Pick.hd | apply Pick.tl)) Drop.done) ?_
    refine RF.tk (Pu.lds ty_ag47) ?_
    refine RF.tk (Pu.ldso ty_ag47) ?_
    refine RF.ks ?_
    refine RF.ks ?_
    refine RF.ks ?_
    refine RF.go ?_
    refine RG.step fun X1 hX1 => ?_
    first | refine TL.st ty_sz47 ?_ | refine TL.se ty_sz47 ?_
    refine TL.nil ?_
    refine TQ.nxt (hX1 _ _ (by repeat (first | exact HasL.nil | refine HasL.cons (by repeat (first | exact Pick.hd | apply Pick.tl)) ?_)) ?_)
    refine RG.step fun X2 hX2 => ?_
    first | refine TL.st ty_sz47 ?_ | refine TL.se ty_sz47 ?_
    refine TL.nil ?_
    refine TQ.nxt (hX2 _ _ (by repeat (first | exact HasL.nil | refine HasL.cons (by repeat (first | exact Pick.hd | apply Pick.tl)) ?_)) ?_)
    refine RG.step fun X3 hX3 => ?_
    refine TL.p Pu.as ?_
    refine TL.nil ?_
    refine TQ.nxt (hX3 _ _ (by repeat (first | exact HasL.nil | refine HasL.cons (by repeat (first | exact Pick.hd | apply Pick.tl)) ?_)) ?_)
    refine RG.nil ?_
    refine TQ.thenN (hY5 _ _ ?_)
    refine TW.ret ?_
    refine TQ.thenR ?_
    refine TQ.ret Tryz.results75 rfl ((RV.cs ty_ag47 (RV.cs ty_ag47 (.tmp rfl .nil)))) ?_
    exact fun w hw => ⟨by unfold restV; rw [if_neg (by omega), if_pos (by omega)]; rfl, Chg.ext hw.chg⟩
  · try simp only [decide_eq_true_eq, decide_eq_false_iff_not, Bool.not_eq_true', Bool.not_eq_false', Bool.and_eq_true, Bool.or_eq_true, Bool.and_eq_false_iff, Bool.or_eq_false_iff, Int.not_lt, Int.not_le] at hc0
    refine TW.skip ?_
    refine TQ.thenN (hY3 _ _ ?_)
    refine TW.seq fun Y6 hY6 => ?_
    refine TW.region ?_
    refine TL.p (by first | exact Pu.fb ty_fa58_1 | exact Pu.fe ty_fa58_1) ?_
    refine TL.p (by first | exact Pu.fb ty_fa47_0 | exact Pu.fe ty_fa47_0) ?_
    refine TL.p (Pu.ld ty_sc3) ?_
    refine TL.p (by first | exact Pu.fb ty_fa58_3 | exact Pu.fe ty_fa58_3) ?_
    refine TL.p (by first | exact Pu.fb ty_fa47_1 | exact Pu.fe ty_fa47_1) ?_
    refine TL.p (Pu.ld ty_sc3) ?_
    refine TL.p Pu.sb ?_
    refine TL.cr rfl (enters Tryz.func106 rfl rfl) (fun w hw => by
        exact part_any _ _ _ (by omega) (by omega)) ?_
    refine TL.p Pu.mv ?_
    refine TL.p Pu.ex ?_
    refine TL.p Pu.ex ?_
    refine TL.p (by first | exact Pu.fb ty_fa47_0 | exact Pu.fe ty_fa47_0) ?_
    first | refine TL.st ty_sz3 ?_ | refine TL.se ty_sz3 ?_
    refine TL.nil ?_
    refine TQ.thenN (hY6 _ _ ?_)
    refine TW.seq fun Y7 hY7 => ?_
    refine TW.region ?_
    refine TL.p (by first | exact Pu.fb ty_fa58_1 | exact Pu.fe ty_fa58_1) ?_
    refine TL.p (by first | exact Pu.fb ty_fa47_1 | exact Pu.fe ty_fa47_1) ?_
    refine TL.p (Pu.ld ty_sc3) ?_
    refine TL.p (by first | exact Pu.fb ty_fa58_3 | exact Pu.fe ty_fa58_3) ?_
    refine TL.p (by first | exact Pu.fb ty_fa47_1 | exact Pu.fe ty_fa47_1) ?_
    refine TL.p (Pu.ld ty_sc3) ?_
    refine TL.cr rfl (enters Tryz.func106 rfl rfl) (fun w hw => by
        exact part_any _ _ _ (by omega) (by omega)) ?_
    refine TL.p Pu.mv ?_
    refine TL.p Pu.ex ?_
    refine TL.p Pu.ex ?_
    refine TL.p (by first | exact Pu.fb ty_fa47_1 | exact Pu.fe ty_fa47_1) ?_
    first | refine TL.st ty_sz3 ?_ | refine TL.se ty_sz3 ?_
    refine TL.nil ?_
    refine TQ.thenN (hY7 _ _ ?_)
    refine TW.seq fun Y8 hY8 => ?_
    refine TW.seq fun Y9 hY9 => ?_
    refine TW.region ?_
    refine TL.p (by first | exact Pu.fb ty_fa58_5 | exact Pu.fe ty_fa58_5) ?_
    refine TL.p (Pu.ld ty_sc3) ?_
    refine TL.p (by first | exact Pu.fb ty_fa58_2 | exact Pu.fe ty_fa58_2) ?_
    refine TL.p (by first | exact Pu.fb ty_fa47_1 | exact Pu.fe ty_fa47_1) ?_
    refine TL.p (Pu.ld ty_sc3) ?_
    refine TL.p Pu.lt ?_
    refine TL.nil ?_
    refine TQ.thenN (hY9 _ _ ?_)
    refine TW.cond rfl (fun hc1 => ?_) (fun hc1 => ?_)
    · try simp only [decide_eq_true_eq, decide_eq_false_iff_not, Bool.not_eq_true', Bool.not_eq_false', Bool.and_eq_true, Bool.or_eq_true, Bool.and_eq_false_iff, Bool.or_eq_false_iff, Int.not_lt, Int.not_le] at hc1
      refine TW.seq fun Y10 hY10 => ?_
      refine TW.rf Drop.done ?_
      refine RF.tk (Pu.lds ty_ag47) ?_
      refine RF.tk (Pu.lds ty_ag47) ?_
      refine RF.ks ?_
      refine RF.ks ?_
      refine RF.ks ?_
      refine RF.go ?_
      refine RG.step fun X4 hX4 => ?_
      first | refine TL.st ty_sz47 ?_ | refine TL.se ty_sz47 ?_
      refine TL.nil ?_
      refine TQ.nxt (hX4 _ _ (by repeat (first | exact HasL.nil | refine HasL.cons (by repeat (first | exact Pick.hd | apply Pick.tl)) ?_)) ?_)
      refine RG.step fun X5 hX5 => ?_
      first | refine TL.st ty_sz47 ?_ | refine TL.se ty_sz47 ?_
      refine TL.nil ?_
      refine TQ.nxt (hX5 _ _ (by repeat (first | exact HasL.nil | refine HasL.cons (by repeat (first | exact Pick.hd | apply Pick.tl)) ?_)) ?_)
      refine RG.step fun X6 hX6 => ?_
      refine TL.p Pu.as ?_
      refine TL.nil ?_
      refine TQ.nxt (hX6 _ _ (by repeat (first | exact HasL.nil | refine HasL.cons (by repeat (first | exact Pick.hd | apply Pick.tl)) ?_)) ?_)
      refine RG.nil ?_
      refine TQ.thenN (hY10 _ _ ?_)
      refine TW.ret ?_
      refine TQ.thenR ?_
      refine TQ.ret Tryz.results75 rfl ((RV.cs ty_ag47 (RV.cs ty_ag47 (.tmp rfl .nil)))) ?_
      exact fun w hw => ⟨by unfold restV; rw [if_neg (by omega), if_neg (by omega), if_pos (by omega)]; rfl, Chg.ext hw.chg⟩
    · try simp only [decide_eq_true_eq, decide_eq_false_iff_not, Bool.not_eq_true', Bool.not_eq_false', Bool.and_eq_true, Bool.or_eq_true, Bool.and_eq_false_iff, Bool.or_eq_false_iff, Int.not_lt, Int.not_le] at hc1
      refine TW.skip ?_
      refine TQ.thenN (hY8 _ _ ?_)
      refine TW.seq fun Y11 hY11 => ?_
      refine TW.region ?_
      refine TL.p (by first | exact Pu.fb ty_fa58_1 | exact Pu.fe ty_fa58_1) ?_
      refine TL.p (by first | exact Pu.fb ty_fa47_1 | exact Pu.fe ty_fa47_1) ?_
      refine TL.p (Pu.ld ty_sc3) ?_
      refine TL.p (by first | exact Pu.fb ty_fa58_3 | exact Pu.fe ty_fa58_3) ?_
      refine TL.p (by first | exact Pu.fb ty_fa47_0 | exact Pu.fe ty_fa47_0) ?_
      refine TL.p (Pu.ld ty_sc3) ?_
      refine TL.p Pu.sb ?_
      refine TL.cr rfl (enters Tryz.func106 rfl rfl) (fun w hw => by
          exact part_any _ _ _ (by omega) (by omega)) ?_
      refine TL.p Pu.mv ?_
      refine TL.p Pu.ex ?_
      refine TL.p Pu.ex ?_
      refine TL.p (by first | exact Pu.fb ty_fa47_1 | exact Pu.fe ty_fa47_1) ?_
      first | refine TL.st ty_sz3 ?_ | refine TL.se ty_sz3 ?_
      refine TL.nil ?_
      refine TQ.thenN (hY11 _ _ ?_)
      refine TW.seq fun Y12 hY12 => ?_
      refine TW.region ?_
      refine TL.p (by first | exact Pu.fb ty_fa58_1 | exact Pu.fe ty_fa58_1) ?_
      refine TL.p (by first | exact Pu.fb ty_fa47_0 | exact Pu.fe ty_fa47_0) ?_
      refine TL.p (Pu.ld ty_sc3) ?_
      refine TL.p (by first | exact Pu.fb ty_fa58_3 | exact Pu.fe ty_fa58_3) ?_
      refine TL.p (by first | exact Pu.fb ty_fa47_0 | exact Pu.fe ty_fa47_0) ?_
      refine TL.p (Pu.ld ty_sc3) ?_
      refine TL.cr rfl (enters Tryz.func106 rfl rfl) (fun w hw => by
          exact part_any _ _ _ (by omega) (by omega)) ?_
      refine TL.p Pu.mv ?_
      refine TL.p Pu.ex ?_
      refine TL.p Pu.ex ?_
      refine TL.p (by first | exact Pu.fb ty_fa47_0 | exact Pu.fe ty_fa47_0) ?_
      first | refine TL.st ty_sz3 ?_ | refine TL.se ty_sz3 ?_
      refine TL.nil ?_
      refine TQ.thenN (hY12 _ _ ?_)
      refine TW.seq fun Y13 hY13 => ?_
      refine TW.rf Drop.done ?_
      refine RF.tk (Pu.lds ty_ag47) ?_
      refine RF.tk (Pu.lds ty_ag47) ?_
      refine RF.ks ?_
      refine RF.ks ?_
      refine RF.ks ?_
      refine RF.go ?_
      refine RG.step fun X7 hX7 => ?_
      first | refine TL.st ty_sz47 ?_ | refine TL.se ty_sz47 ?_
      refine TL.nil ?_
      refine TQ.nxt (hX7 _ _ (by repeat (first | exact HasL.nil | refine HasL.cons (by repeat (first | exact Pick.hd | apply Pick.tl)) ?_)) ?_)
      refine RG.step fun X8 hX8 => ?_
      first | refine TL.st ty_sz47 ?_ | refine TL.se ty_sz47 ?_
      refine TL.nil ?_
      refine TQ.nxt (hX8 _ _ (by repeat (first | exact HasL.nil | refine HasL.cons (by repeat (first | exact Pick.hd | apply Pick.tl)) ?_)) ?_)
      refine RG.step fun X9 hX9 => ?_
      refine TL.p Pu.as ?_
      refine TL.nil ?_
      refine TQ.nxt (hX9 _ _ (by repeat (first | exact HasL.nil | refine HasL.cons (by repeat (first | exact Pick.hd | apply Pick.tl)) ?_)) ?_)
      refine RG.nil ?_
      refine TQ.thenN (hY13 _ _ ?_)
      refine TW.ret ?_
      refine TQ.ret Tryz.results75 rfl ((RV.cs ty_ag47 (RV.cs ty_ag47 (.tmp rfl .nil)))) ?_
      exact fun w hw => ⟨by unfold restV; rw [if_neg (by omega), if_neg (by omega), if_neg (by omega)]; rfl, Chg.ext hw.chg⟩
theorem bale_any (f : Nat → Int) (w : World) (hG : None0 w) (h0 : f 0 = 2) :
    Calls Tryz.prog 77 #[.agg (packL f).toArray] w (Ret w (.tuple (restC (restV f)).toArray)) := by
  refine K_enter (S := []) (K := []) Tryz.func77 rfl Tryz.ntmps77 rfl (Sat.start _) ?_
  refine TW.seq fun Y1 hY1 => ?_
  refine TW.region ?_
  refine TL.m Mk.bx ?_
  intro b1
  refine TL.m (Mk.al ty_zr47) ?_
  intro b2
  refine TL.m (Mk.al ty_zr47) ?_
  intro b3
  refine TL.p Pu.as ?_
  refine TL.nil ?_
  refine TQ.thenN (hY1 _ _ ?_)
  refine TW.seq fun Y2 hY2 => ?_
  refine TW.rf (Drop.blk 2 rfl (by repeat (first | exact Pick.hd | apply Pick.tl)) (Drop.blk 3 rfl (by repeat (first | exact Pick.hd | apply Pick.tl)) Drop.done)) ?_
  refine RF.tk (by first | exact Pu.fb ty_fa58_1 | exact Pu.fe ty_fa58_1) ?_
  refine RF.tk (Pu.lds ty_ag47) ?_
  refine RF.tk (Pu.ldso ty_ag47) ?_
  refine RF.ks ?_
  refine RF.ks ?_
  refine RF.ks ?_
  refine RF.go ?_
  refine RG.step fun X1 hX1 => ?_
  first | refine TL.st ty_sz47 ?_ | refine TL.se ty_sz47 ?_
  refine TL.nil ?_
  refine TQ.nxt (hX1 _ _ (by repeat (first | exact HasL.nil | refine HasL.cons (by repeat (first | exact Pick.hd | apply Pick.tl)) ?_)) ?_)
  refine RG.step fun X2 hX2 => ?_
  first | refine TL.st ty_sz47 ?_ | refine TL.se ty_sz47 ?_
  refine TL.nil ?_
  refine TQ.nxt (hX2 _ _ (by repeat (first | exact HasL.nil | refine HasL.cons (by repeat (first | exact Pick.hd | apply Pick.tl)) ?_)) ?_)
  refine RG.step fun X3 hX3 => ?_
  refine TL.p Pu.as ?_
  refine TL.nil ?_
  refine TQ.nxt (hX3 _ _ (by repeat (first | exact HasL.nil | refine HasL.cons (by repeat (first | exact Pick.hd | apply Pick.tl)) ?_)) ?_)
  refine RG.nil ?_
  refine TQ.thenN (hY2 _ _ ?_)
  refine TW.ret ?_
  refine TQ.ret Tryz.results77 rfl ((RV.cs ty_ag47 (RV.cs ty_ag47 (.tmp rfl .nil)))) ?_
  exact fun w hw => ⟨by unfold restV; rw [if_neg (by omega), if_pos (by omega)]; rfl, Chg.ext hw.chg⟩
set_option maxRecDepth 100000 in
theorem skin_any (f : Nat → Int) (w : World) (hk : packOk f = true) (h0 : f 0 = 3) :
    Calls Tryz.prog 79 #[.agg (packL f).toArray] w (Ret w (.tuple (restC (restV f)).toArray)) := by
  obtain ⟨⟨h1, h2, h3, h4, h5, h6, h7⟩, hkind⟩ := (packOk_iff f).1 hk
  have m1 : 0 ≤ f 7 * f 10 ∧ f 7 * f 10 ≤ 1000000 * 100000 := mulB (by omega) (by omega) (by omega) (by omega)
  have m2 : 0 ≤ f 8 * f 10 ∧ f 8 * f 10 ≤ 1000000 * 100000 := mulB (by omega) (by omega) (by omega) (by omega)
  refine K_enter (S := []) (K := []) Tryz.func79 rfl Tryz.ntmps79 rfl (Sat.start _) ?_
  refine TW.seq fun Y1 hY1 => ?_
  refine TW.region ?_
  refine TL.m Mk.bx ?_
  intro b1
  refine TL.m (Mk.al ty_zr47) ?_
  intro b2
  refine TL.m (Mk.al ty_zr47) ?_
  intro b3
  refine TL.p Pu.as ?_
  refine TL.nil ?_
  refine TQ.thenN (hY1 _ _ ?_)
  refine TW.seq fun Y2 hY2 => ?_
  refine TW.region ?_
  refine TL.p (by first | exact Pu.fb ty_fa58_4 | exact Pu.fe ty_fa58_4) ?_
  refine TL.p (by first | exact Pu.fb ty_fa47_0 | exact Pu.fe ty_fa47_0) ?_
  refine TL.p (Pu.ld ty_sc3) ?_
  refine TL.p (by first | exact Pu.fb ty_fa58_6 | exact Pu.fe ty_fa58_6) ?_
  refine TL.p (Pu.ld ty_sc3) ?_
  refine TL.p Pu.ml ?_
  refine TL.p (by first | exact Pu.fb ty_fa58_4 | exact Pu.fe ty_fa58_4) ?_
  refine TL.p (by first | exact Pu.fb ty_fa47_1 | exact Pu.fe ty_fa47_1) ?_
  refine TL.p (Pu.ld ty_sc3) ?_
  refine TL.p (by first | exact Pu.fb ty_fa58_6 | exact Pu.fe ty_fa58_6) ?_
  refine TL.p (Pu.ld ty_sc3) ?_
  refine TL.p Pu.ml ?_
  refine TL.p Pu.bd ?_
  refine TL.m (Mk.al ty_zr47) ?_
  intro b4
  first | refine TL.st ty_sz47 ?_ | refine TL.se ty_sz47 ?_
  refine TL.nil ?_
  refine TQ.thenN (hY2 _ _ ?_)
  refine TW.seq fun Y3 hY3 => ?_
  refine TW.region ?_
  refine TL.p (by first | exact Pu.fb ty_fa58_1 | exact Pu.fe ty_fa58_1) ?_
  refine TL.p (by first | exact Pu.fb ty_fa47_0 | exact Pu.fe ty_fa47_0) ?_
  refine TL.p (Pu.ld ty_sc3) ?_
  refine TL.p (by first | exact Pu.fb ty_fa47_1 | exact Pu.fe ty_fa47_1) ?_
  refine TL.p (Pu.ld ty_sc3) ?_
  refine TL.p Pu.sb ?_
  refine TL.p Pu.mx ?_
  refine TL.p (by first | exact Pu.fb ty_fa58_1 | exact Pu.fe ty_fa58_1) ?_
  refine TL.p (by first | exact Pu.fb ty_fa47_1 | exact Pu.fe ty_fa47_1) ?_
  refine TL.p (Pu.ld ty_sc3) ?_
  refine TL.p (by first | exact Pu.fb ty_fa47_0 | exact Pu.fe ty_fa47_0) ?_
  refine TL.p (Pu.ld ty_sc3) ?_
  refine TL.p Pu.sb ?_
  refine TL.p Pu.mx ?_
  refine TL.p Pu.bd ?_
  first | refine TL.st ty_sz47 ?_ | refine TL.se ty_sz47 ?_
  refine TL.nil ?_
  refine TQ.thenN (hY3 _ _ ?_)
  refine TW.seq fun Y4 hY4 => ?_
  refine TW.region ?_
  refine TL.p (by first | exact Pu.fb ty_fa58_1 | exact Pu.fe ty_fa58_1) ?_
  refine TL.p (by first | exact Pu.fb ty_fa47_0 | exact Pu.fe ty_fa47_0) ?_
  refine TL.p (Pu.ld ty_sc3) ?_
  refine TL.p (by first | exact Pu.fb ty_fa47_0 | exact Pu.fe ty_fa47_0) ?_
  refine TL.p (Pu.ld ty_sc3) ?_
  refine TL.p Pu.mn ?_
  refine TL.p (by first | exact Pu.fb ty_fa58_1 | exact Pu.fe ty_fa58_1) ?_
  refine TL.p (by first | exact Pu.fb ty_fa47_1 | exact Pu.fe ty_fa47_1) ?_
  refine TL.p (Pu.ld ty_sc3) ?_
  refine TL.p (by first | exact Pu.fb ty_fa47_1 | exact Pu.fe ty_fa47_1) ?_
  refine TL.p (Pu.ld ty_sc3) ?_
  refine TL.p Pu.mn ?_
  refine TL.p Pu.bd ?_
  first | refine TL.st ty_sz47 ?_ | refine TL.se ty_sz47 ?_
  refine TL.nil ?_
  refine TQ.thenN (hY4 _ _ ?_)
  refine TW.seq fun Y5 hY5 => ?_
  refine TW.rf Drop.done ?_
  refine RF.tk (Pu.lds ty_ag47) ?_
  refine RF.tk (Pu.lds ty_ag47) ?_
  refine RF.ks ?_
  refine RF.ks ?_
  refine RF.ks ?_
  refine RF.go ?_
  refine RG.step fun X1 hX1 => ?_
  first | refine TL.st ty_sz47 ?_ | refine TL.se ty_sz47 ?_
  refine TL.nil ?_
  refine TQ.nxt (hX1 _ _ (by repeat (first | exact HasL.nil | refine HasL.cons (by repeat (first | exact Pick.hd | apply Pick.tl)) ?_)) ?_)
  refine RG.step fun X2 hX2 => ?_
  first | refine TL.st ty_sz47 ?_ | refine TL.se ty_sz47 ?_
  refine TL.nil ?_
  refine TQ.nxt (hX2 _ _ (by repeat (first | exact HasL.nil | refine HasL.cons (by repeat (first | exact Pick.hd | apply Pick.tl)) ?_)) ?_)
  refine RG.step fun X3 hX3 => ?_
  refine TL.p Pu.as ?_
  refine TL.nil ?_
  refine TQ.nxt (hX3 _ _ (by repeat (first | exact HasL.nil | refine HasL.cons (by repeat (first | exact Pick.hd | apply Pick.tl)) ?_)) ?_)
  refine RG.nil ?_
  refine TQ.thenN (hY5 _ _ ?_)
  refine TW.ret ?_
  refine TQ.ret Tryz.results79 rfl ((RV.cs ty_ag47 (RV.cs ty_ag47 (.tmp rfl .nil)))) ?_
  exact fun w hw => ⟨by unfold restV; rw [if_pos h0, Int.max_comm 0, Int.max_comm 0]; rfl, Chg.ext hw.chg⟩
def kind1 (f : Nat → Int) : Bool := ordB5 1 100000 (f 3) (f 4) && ordB5 0 1000 (f 5) (f 6) && nilB (f 7) (f 8)
def kind2 (f : Nat → Int) : Bool := nilB (f 3) (f 4) && nilB (f 5) (f 6) && nilB (f 7) (f 8)
def kind3 (f : Nat → Int) : Bool := nilB (f 3) (f 4) && nilB (f 5) (f 6) && ordB5 0 1000000 (f 7) (f 8)
theorem sorts1_any (f : Nat → Int) (w : World) (hG : None0 w) : Calls Tryz.prog 74 #[.agg (packL f).toArray] w (Ret w (.bool (kind1 f))) := by
  refine K_enter (S := []) (K := []) Tryz.func74 rfl Tryz.ntmps74 rfl (Sat.start _) ?_
  refine TW.seq fun Y1 hY1 => ?_
  refine TW.region ?_
  refine TL.m Mk.bx ?_
  intro b1
  refine TL.p Pu.as ?_
  refine TL.nil ?_
  refine TQ.thenN (hY1 _ _ ?_)
  refine TW.seq fun Y2 hY2 => ?_
  refine TW.join [(2, .bool (kind1 f))] ?_ (fun hJ1 => ?_)
  · refine TQ.thenN (hY2 _ _ ?_)
    refine TW.ret ?_
    refine TQ.ret Tryz.results74 rfl ((.tmp rfl .nil)) ?_
    exact fun w hw => Ret.of hw
  refine TW.region ?_
  refine TL.p (by first | exact Pu.fb ty_fa58_2 | exact Pu.fe ty_fa58_2) ?_
  refine TL.p (Pu.lds ty_ag47) ?_
  refine TL.cr rfl (enters Tryz.func73 rfl rfl) (fun w hw => by
      exact proper_any _ _ _ _ _) ?_
  refine TL.p Pu.mv ?_
  refine TL.guard (t := 6) rfl (fun hg1 => ?_) (fun hg1 => ?_)
  · refine TL.gd (by first | exact Pu.fb ty_fa58_3 | exact Pu.fe ty_fa58_3) ?_
    refine TL.gd (Pu.lds ty_ag47) ?_
    refine TL.cr rfl (enters Tryz.func73 rfl rfl) (fun w hw => by
        exact proper_any _ _ _ _ _) ?_
    refine TL.p Pu.kt ?_
    refine TL.p Pu.mv ?_
    refine TL.guard (t := 11) rfl (fun hg2 => ?_) (fun hg2 => ?_)
    · refine TL.gd (by first | exact Pu.fb ty_fa58_4 | exact Pu.fe ty_fa58_4) ?_
      refine TL.gd (Pu.lds ty_ag47) ?_
      refine TL.gd (Pu.ldso ty_ag47) ?_
      refine TL.gd (Pu.q2 ty_q2_47) ?_
      refine TL.p Pu.kt ?_
      refine TL.p Pu.as ?_
      refine TL.nil ?_
      exact TQ.sub (by repeat (first | exact trivial | refine ⟨rfl, ?_⟩ | refine ⟨trivial, ?_⟩ | refine ⟨(by show some (Value.bool _) = some (Value.bool _); simp [hg1, hg2, kind1, nilB]), ?_⟩)) (by repeat (first | exact KSub.nil | refine KSub.cons (by repeat (first | exact Pick.hd | apply Pick.tl)) ?_)) hJ1
    · refine TL.gs ?_
      refine TL.gs ?_
      refine TL.gs ?_
      refine TL.gs ?_
      refine TL.p Pu.kf ?_
      refine TL.p Pu.as ?_
      refine TL.nil ?_
      exact TQ.sub (by repeat (first | exact trivial | refine ⟨rfl, ?_⟩ | refine ⟨trivial, ?_⟩ | refine ⟨(by show some (Value.bool _) = some (Value.bool _); simp [hg1, hg2, kind1, nilB]), ?_⟩)) (by repeat (first | exact KSub.nil | refine KSub.cons (by repeat (first | exact Pick.hd | apply Pick.tl)) ?_)) hJ1
  · refine TL.gs ?_
    refine TL.gs ?_
    refine TL.gs ?_
    refine TL.p Pu.kf ?_
    refine TL.p Pu.mv ?_
    refine TL.gs ?_
    refine TL.gs ?_
    refine TL.gs ?_
    refine TL.gs ?_
    refine TL.p Pu.kf ?_
    refine TL.p Pu.as ?_
    refine TL.nil ?_
    exact TQ.sub (by repeat (first | exact trivial | refine ⟨rfl, ?_⟩ | refine ⟨trivial, ?_⟩ | refine ⟨(by show some (Value.bool _) = some (Value.bool _); simp [hg1, kind1, nilB]), ?_⟩)) (by repeat (first | exact KSub.nil | refine KSub.cons (by repeat (first | exact Pick.hd | apply Pick.tl)) ?_)) hJ1
theorem sorts2_any (f : Nat → Int) (w : World) (hG : None0 w) : Calls Tryz.prog 76 #[.agg (packL f).toArray] w (Ret w (.bool (kind2 f))) := by
  refine K_enter (S := []) (K := []) Tryz.func76 rfl Tryz.ntmps76 rfl (Sat.start _) ?_
  refine TW.seq fun Y1 hY1 => ?_
  refine TW.region ?_
  refine TL.m Mk.bx ?_
  intro b1
  refine TL.p Pu.as ?_
  refine TL.nil ?_
  refine TQ.thenN (hY1 _ _ ?_)
  refine TW.seq fun Y2 hY2 => ?_
  refine TW.join [(2, .bool (kind2 f))] ?_ (fun hJ1 => ?_)
  · refine TQ.thenN (hY2 _ _ ?_)
    refine TW.ret ?_
    refine TQ.ret Tryz.results76 rfl ((.tmp rfl .nil)) ?_
    exact fun w hw => Ret.of hw
  refine TW.region ?_
  refine TL.p (by first | exact Pu.fb ty_fa58_2 | exact Pu.fe ty_fa58_2) ?_
  refine TL.p (Pu.lds ty_ag47) ?_
  refine TL.p (Pu.ldso ty_ag47) ?_
  refine TL.p (Pu.q2 ty_q2_47) ?_
  refine TL.p Pu.mv ?_
  refine TL.guard (t := 7) rfl (fun hg1 => ?_) (fun hg1 => ?_)
  · refine TL.gd (by first | exact Pu.fb ty_fa58_3 | exact Pu.fe ty_fa58_3) ?_
    refine TL.gd (Pu.lds ty_ag47) ?_
    refine TL.gd (Pu.ldso ty_ag47) ?_
    refine TL.gd (Pu.q2 ty_q2_47) ?_
    refine TL.p Pu.kt ?_
    refine TL.p Pu.mv ?_
    refine TL.guard (t := 13) rfl (fun hg2 => ?_) (fun hg2 => ?_)
    · refine TL.gd (by first | exact Pu.fb ty_fa58_4 | exact Pu.fe ty_fa58_4) ?_
      refine TL.gd (Pu.lds ty_ag47) ?_
      refine TL.gd (Pu.ldso ty_ag47) ?_
      refine TL.gd (Pu.q2 ty_q2_47) ?_
      refine TL.p Pu.kt ?_
      refine TL.p Pu.as ?_
      refine TL.nil ?_
      exact TQ.sub (by repeat (first | exact trivial | refine ⟨rfl, ?_⟩ | refine ⟨trivial, ?_⟩ | refine ⟨(by show some (Value.bool _) = some (Value.bool _); simp [hg1, hg2, kind2, nilB]), ?_⟩)) (by repeat (first | exact KSub.nil | refine KSub.cons (by repeat (first | exact Pick.hd | apply Pick.tl)) ?_)) hJ1
    · refine TL.gs ?_
      refine TL.gs ?_
      refine TL.gs ?_
      refine TL.gs ?_
      refine TL.p Pu.kf ?_
      refine TL.p Pu.as ?_
      refine TL.nil ?_
      exact TQ.sub (by repeat (first | exact trivial | refine ⟨rfl, ?_⟩ | refine ⟨trivial, ?_⟩ | refine ⟨(by show some (Value.bool _) = some (Value.bool _); simp [hg1, hg2, kind2, nilB]), ?_⟩)) (by repeat (first | exact KSub.nil | refine KSub.cons (by repeat (first | exact Pick.hd | apply Pick.tl)) ?_)) hJ1
  · refine TL.gs ?_
    refine TL.gs ?_
    refine TL.gs ?_
    refine TL.gs ?_
    refine TL.p Pu.kf ?_
    refine TL.p Pu.mv ?_
    refine TL.gs ?_
    refine TL.gs ?_
    refine TL.gs ?_
    refine TL.gs ?_
    refine TL.p Pu.kf ?_
    refine TL.p Pu.as ?_
    refine TL.nil ?_
    exact TQ.sub (by repeat (first | exact trivial | refine ⟨rfl, ?_⟩ | refine ⟨trivial, ?_⟩ | refine ⟨(by show some (Value.bool _) = some (Value.bool _); simp [hg1, kind2, nilB]), ?_⟩)) (by repeat (first | exact KSub.nil | refine KSub.cons (by repeat (first | exact Pick.hd | apply Pick.tl)) ?_)) hJ1
theorem sorts3_any (f : Nat → Int) (w : World) (hG : None0 w) : Calls Tryz.prog 78 #[.agg (packL f).toArray] w (Ret w (.bool (kind3 f))) := by
  refine K_enter (S := []) (K := []) Tryz.func78 rfl Tryz.ntmps78 rfl (Sat.start _) ?_
  refine TW.seq fun Y1 hY1 => ?_
  refine TW.region ?_
  refine TL.m Mk.bx ?_
  intro b1
  refine TL.p Pu.as ?_
  refine TL.nil ?_
  refine TQ.thenN (hY1 _ _ ?_)
  refine TW.seq fun Y2 hY2 => ?_
  refine TW.join [(2, .bool (kind3 f))] ?_ (fun hJ1 => ?_)
  · refine TQ.thenN (hY2 _ _ ?_)
    refine TW.ret ?_
    refine TQ.ret Tryz.results78 rfl ((.tmp rfl .nil)) ?_
    exact fun w hw => Ret.of hw
  refine TW.region ?_
  refine TL.p (by first | exact Pu.fb ty_fa58_2 | exact Pu.fe ty_fa58_2) ?_
  refine TL.p (Pu.lds ty_ag47) ?_
  refine TL.p (Pu.ldso ty_ag47) ?_
  refine TL.p (Pu.q2 ty_q2_47) ?_
  refine TL.p Pu.mv ?_
  refine TL.guard (t := 7) rfl (fun hg1 => ?_) (fun hg1 => ?_)
  · refine TL.gd (by first | exact Pu.fb ty_fa58_3 | exact Pu.fe ty_fa58_3) ?_
    refine TL.gd (Pu.lds ty_ag47) ?_
    refine TL.gd (Pu.ldso ty_ag47) ?_
    refine TL.gd (Pu.q2 ty_q2_47) ?_
    refine TL.p Pu.kt ?_
    refine TL.p Pu.mv ?_
    refine TL.guard (t := 13) rfl (fun hg2 => ?_) (fun hg2 => ?_)
    · refine TL.gd (by first | exact Pu.fb ty_fa58_4 | exact Pu.fe ty_fa58_4) ?_
      refine TL.gd (Pu.lds ty_ag47) ?_
      refine TL.cr rfl (enters Tryz.func73 rfl rfl) (fun w hw => by
          exact proper_any _ _ _ _ _) ?_
      refine TL.p Pu.kt ?_
      refine TL.p Pu.as ?_
      refine TL.nil ?_
      exact TQ.sub (by repeat (first | exact trivial | refine ⟨rfl, ?_⟩ | refine ⟨trivial, ?_⟩ | refine ⟨(by show some (Value.bool _) = some (Value.bool _); simp [hg1, hg2, kind3, nilB]), ?_⟩)) (by repeat (first | exact KSub.nil | refine KSub.cons (by repeat (first | exact Pick.hd | apply Pick.tl)) ?_)) hJ1
    · refine TL.gs ?_
      refine TL.gs ?_
      refine TL.gs ?_
      refine TL.p Pu.kf ?_
      refine TL.p Pu.as ?_
      refine TL.nil ?_
      exact TQ.sub (by repeat (first | exact trivial | refine ⟨rfl, ?_⟩ | refine ⟨trivial, ?_⟩ | refine ⟨(by show some (Value.bool _) = some (Value.bool _); simp [hg1, hg2, kind3, nilB]), ?_⟩)) (by repeat (first | exact KSub.nil | refine KSub.cons (by repeat (first | exact Pick.hd | apply Pick.tl)) ?_)) hJ1
  · refine TL.gs ?_
    refine TL.gs ?_
    refine TL.gs ?_
    refine TL.gs ?_
    refine TL.p Pu.kf ?_
    refine TL.p Pu.mv ?_
    refine TL.gs ?_
    refine TL.gs ?_
    refine TL.gs ?_
    refine TL.p Pu.kf ?_
    refine TL.p Pu.as ?_
    refine TL.nil ?_
    exact TQ.sub (by repeat (first | exact trivial | refine ⟨rfl, ?_⟩ | refine ⟨trivial, ?_⟩ | refine ⟨(by show some (Value.bool _) = some (Value.bool _); simp [hg1, kind3, nilB]), ?_⟩)) (by repeat (first | exact KSub.nil | refine KSub.cons (by repeat (first | exact Pick.hd | apply Pick.tl)) ?_)) hJ1
def fnV (g : Nat) : Value := .func (.func g) #[] #[]
def sortV (g h : Nat) : Value := .agg #[.func (.func g) #[] #[], .func (.func h) #[] #[]]
def sortsL : List (Int × Value) := [(1, sortV 74 75), (2, sortV 76 77), (3, sortV 78 79)]
theorem sorts_any (w : World) : CallsK Tryz.prog 48 #[] [] w Nat (fun b => .map (some b)) (fun b => [.obj b (mapO .u8 sortsL)]) := by
  refine K_enter (S := []) (K := []) Tryz.func48 rfl Tryz.ntmps48 rfl (Sat.start _) ?_
  refine TW.seq fun Y1 hY1 => ?_
  refine TW.region ?_
  refine TL.p Pu.as ?_
  refine TL.nil ?_
  refine TQ.thenN (hY1 _ _ ?_)
  refine TW.seq fun Y2 hY2 => ?_
  refine TW.region ?_
  refine TL.mm (kk := .u8) ?_
  intro b1
  refine TL.p Pu.bd ?_
  refine TL.mi ty_mp100 ?_
  refine TL.p Pu.bd ?_
  refine TL.mi ty_mp100 ?_
  refine TL.p Pu.bd ?_
  refine TL.mi ty_mp100 ?_
  refine TL.p Pu.mv ?_
  refine TL.p Pu.as ?_
  refine TL.nil ?_
  refine TQ.thenN (hY2 _ _ ?_)
  refine TW.ret ?_
  refine TQ.ret Tryz.results48 rfl ((.tmp rfl .nil)) ?_
  exact fun w hw => ⟨b1, rfl, hw⟩
end Go.Proofs.YtljhdcclajikiaaGreatDoor
namespace Go.Proofs.YtljhdcclajikiaaGreatDoor
set_option linter.all false
set_option linter.unusedVariables false
set_option linter.unusedSimpArgs false
open Go.RowKit
theorem valid_kind (f : Nat → Int) (g h : Nat) (vk : Bool) (w : World) (hG : None0 w) (hl : mlook (f 0) sortsL = some (sortV g h)) (hen : Enters Tryz.prog g) (hg : ∀ w', None0 w' → Calls Tryz.prog g #[.agg (packL f).toArray] w' (Ret w' (.bool vk))) :
    Calls Tryz.prog 47 #[.agg (packL f).toArray] w (Ret w (.bool (vk && ordB5 0 1000000 (f 1) (f 2) && inB5 0 6000000 (f 9) && inB5 0 100000 (f 10)))) := by
  refine K_enter (S := []) (K := []) Tryz.func47 rfl Tryz.ntmps47 rfl (Sat.start _) ?_
  refine TW.seq fun Y1 hY1 => ?_
  refine TW.region ?_
  refine TL.m Mk.bx ?_
  intro b1
  refine TL.p Pu.as ?_
  refine TL.nil ?_
  refine TQ.thenN (hY1 _ _ ?_)
  refine TW.seq fun Y2 hY2 => ?_
  refine TW.expl (fun (⟨bm, x7⟩ : Nat × Nat) => ([(3, .pointer (some ⟨x7, 0, none⟩)), (4, .bool true), (1, .pointer (some ⟨b1, 0, none⟩)), (2, .bool false)] : Fr)) (fun (⟨bm, x7⟩ : Nat × Nat) => [.blk x7 99 [fnV g, fnV h], .blk b1 58 (packL f)]) Drop.done ?_ (fun hE => ?_)
  · rintro ⟨bm, x7⟩
    refine TQ.thenN (hY2 _ _ ?_)
    refine TW.seq fun Y3 hY3 => ?_
    refine TW.join [(2, .bool (vk && ordB5 0 1000000 (f 1) (f 2) && inB5 0 6000000 (f 9) && inB5 0 100000 (f 10)))] ?_ (fun hJ1 => ?_)
    · refine TQ.thenN (hY3 _ _ ?_)
      refine TW.ret ?_
      refine TQ.ret Tryz.results47 rfl ((.tmp rfl .nil)) ?_
      exact fun w hw => Ret.of hw
    refine TW.region ?_
    refine TL.p Pu.mv ?_
    refine TL.p Pu.mv ?_
    refine TL.lit (t := 13) (b' := true) rfl (rfl) ?_
    refine TL.gd (by first | exact Pu.fb ty_fa99_0 | exact Pu.fe ty_fa99_0) ?_
    refine TL.gd (Pu.ld ty_sc95) ?_
    refine TL.gd (Pu.lds ty_ag58) ?_
    refine TL.cv rfl rfl hen (fun w hw => by
        exact hg w (hG.sat hw (by simp))) ?_
    refine TL.p Pu.kt ?_
    refine TL.p Pu.mv ?_
    refine TL.guard (t := 19) rfl (fun hg1 => ?_) (fun hg1 => ?_)
    · refine TL.gd (by first | exact Pu.fb ty_fa58_1 | exact Pu.fe ty_fa58_1) ?_
      refine TL.gd (Pu.lds ty_ag47) ?_
      refine TL.cr rfl (enters Tryz.func73 rfl rfl) (fun w hw => by
          exact proper_any _ _ _ _ _) ?_
      refine TL.p Pu.kt ?_
      refine TL.p Pu.mv ?_
      refine TL.guard (t := 24) rfl (fun hg2 => ?_) (fun hg2 => ?_)
      · refine TL.gd (by first | exact Pu.fb ty_fa58_5 | exact Pu.fe ty_fa58_5) ?_
        refine TL.gd (Pu.ld ty_sc3) ?_
        refine TL.gm Mk.bl ?_
        intro b2
        refine TL.cr rfl (enters Tryz.func41 rfl rfl) (fun w hw => by
            exact inOne_any _ _ _ (hw.holds _ (List.mem_cons_self ..))) ?_
        refine TL.p Pu.kt ?_
        refine TL.p Pu.mv ?_
        refine TL.guard (t := 30) rfl (fun hg3 => ?_) (fun hg3 => ?_)
        · refine TL.gd (by first | exact Pu.fb ty_fa58_6 | exact Pu.fe ty_fa58_6) ?_
          refine TL.gd (Pu.ld ty_sc3) ?_
          refine TL.gm Mk.bl ?_
          intro b3
          refine TL.cr rfl (enters Tryz.func41 rfl rfl) (fun w hw => by
              exact inOne_any _ _ _ (hw.holds _ (List.mem_cons_self ..))) ?_
          refine TL.p Pu.kt ?_
          refine TL.p Pu.as ?_
          refine TL.nil ?_
          exact TQ.sub (by repeat (first | exact trivial | refine ⟨rfl, ?_⟩ | refine ⟨trivial, ?_⟩ | refine ⟨(by show some (Value.bool _) = some (Value.bool _); simp [hg1, hg2, hg3]), ?_⟩)) (by repeat (first | exact KSub.nil | refine KSub.cons (by repeat (first | exact Pick.hd | apply Pick.tl)) ?_)) hJ1
        · refine TL.gs ?_
          refine TL.gs ?_
          refine TL.gs ?_
          refine TL.gs ?_
          refine TL.p Pu.kf ?_
          refine TL.p Pu.as ?_
          refine TL.nil ?_
          exact TQ.sub (by repeat (first | exact trivial | refine ⟨rfl, ?_⟩ | refine ⟨trivial, ?_⟩ | refine ⟨(by show some (Value.bool _) = some (Value.bool _); simp [hg1, hg2, hg3]), ?_⟩)) (by repeat (first | exact KSub.nil | refine KSub.cons (by repeat (first | exact Pick.hd | apply Pick.tl)) ?_)) hJ1
      · refine TL.gs ?_
        refine TL.gs ?_
        refine TL.gs ?_
        refine TL.gs ?_
        refine TL.p Pu.kf ?_
        refine TL.p Pu.mv ?_
        refine TL.gs ?_
        refine TL.gs ?_
        refine TL.gs ?_
        refine TL.gs ?_
        refine TL.p Pu.kf ?_
        refine TL.p Pu.as ?_
        refine TL.nil ?_
        exact TQ.sub (by repeat (first | exact trivial | refine ⟨rfl, ?_⟩ | refine ⟨trivial, ?_⟩ | refine ⟨(by show some (Value.bool _) = some (Value.bool _); simp [hg1, hg2]), ?_⟩)) (by repeat (first | exact KSub.nil | refine KSub.cons (by repeat (first | exact Pick.hd | apply Pick.tl)) ?_)) hJ1
    · refine TL.gs ?_
      refine TL.gs ?_
      refine TL.gs ?_
      refine TL.p Pu.kf ?_
      refine TL.p Pu.mv ?_
      refine TL.gs ?_
      refine TL.gs ?_
      refine TL.gs ?_
      refine TL.gs ?_
      refine TL.p Pu.kf ?_
      refine TL.p Pu.mv ?_
      refine TL.gs ?_
      refine TL.gs ?_
      refine TL.gs ?_
      refine TL.gs ?_
      refine TL.p Pu.kf ?_
      refine TL.p Pu.as ?_
      refine TL.nil ?_
      exact TQ.sub (by repeat (first | exact trivial | refine ⟨rfl, ?_⟩ | refine ⟨trivial, ?_⟩ | refine ⟨(by show some (Value.bool _) = some (Value.bool _); simp [hg1]), ?_⟩)) (by repeat (first | exact KSub.nil | refine KSub.cons (by repeat (first | exact Pick.hd | apply Pick.tl)) ?_)) hJ1
  refine RG.tk 1 rfl (by first | exact Pu.fb ty_fa58_0 | exact Pu.fe ty_fa58_0) ?_
  refine RG.tk 2 rfl (Pu.ld ty_sc5) ?_
  refine RG.a2 0 7 rfl rfl (fun X0 hX0 => ?_) (fun X7 hX7 => ?_)
  · refine TL.call (M := []) rfl (enters Tryz.func48 rfl rfl) (List.Perm.refl _) rfl (fun w hw => by
        exact sorts_any w) ?_
    intro bm
    refine TL.nil ?_
    refine TQ.nxt (hX0 _ _ (by repeat (first | exact HasL.nil | refine HasL.cons (by repeat (first | exact Pick.hd | apply Pick.tl)) ?_)) ?_)
    refine RG.a2 3 7 rfl rfl (fun X3 hX3 => ?_) (fun X7 hX7 => ?_)
    · refine TL.p (Pu.lkS ty_mp100 ty_zv99 hl) ?_
      refine TL.nil ?_
      refine TQ.nxt (hX3 _ _ (by repeat (first | exact HasL.nil | refine HasL.cons (by repeat (first | exact Pick.hd | apply Pick.tl)) ?_)) ?_)
      refine RG.tk 4 rfl Pu.mv ?_
      refine RG.tk 5 rfl Pu.ex ?_
      refine RG.tk 6 rfl Pu.ex ?_
      refine RG.a1 7 rfl (fun X7 hX7 => ?_)
      refine TL.m (Mk.al ty_zr99) ?_
      intro x7
      refine TL.nil ?_
      refine TQ.nxt (hX7 _ _ (by repeat (first | exact HasL.nil | refine HasL.cons (by repeat (first | exact Pick.hd | apply Pick.tl)) ?_)) ?_)
      refine RG.a1 8 rfl (fun X8 hX8 => ?_)
      first | refine TL.st ty_sz99 ?_ | refine TL.se ty_sz99 ?_
      refine TL.nil ?_
      refine TQ.nxt (hX8 _ _ (by repeat (first | exact HasL.nil | refine HasL.cons (by repeat (first | exact Pick.hd | apply Pick.tl)) ?_)) ?_)
      refine RG.tk 9 rfl Pu.as ?_
      exact RG.nil (TQ.sub (by repeat (first | exact trivial | refine ⟨rfl, ?_⟩ | refine ⟨trivial, ?_⟩)) (by repeat (first | exact KSub.nil | refine KSub.cons (by repeat (first | exact Pick.hd | apply Pick.tl)) ?_ | exact KSub.refl _ | refine KSub.drop ?_)) (hE ⟨bm, x7⟩)) (by kernel_rfl)
    · refine TL.m (Mk.al ty_zr99) ?_
      intro x7
      refine TL.nil ?_
      refine TQ.nxt (hX7 _ _ (by repeat (first | exact HasL.nil | refine HasL.cons (by repeat (first | exact Pick.hd | apply Pick.tl)) ?_)) ?_)
      refine RG.a1 3 rfl (fun X3 hX3 => ?_)
      refine TL.p (Pu.lkS ty_mp100 ty_zv99 hl) ?_
      refine TL.nil ?_
      refine TQ.nxt (hX3 _ _ (by repeat (first | exact HasL.nil | refine HasL.cons (by repeat (first | exact Pick.hd | apply Pick.tl)) ?_)) ?_)
      refine RG.tk 4 rfl Pu.mv ?_
      refine RG.tk 5 rfl Pu.ex ?_
      refine RG.tk 6 rfl Pu.ex ?_
      refine RG.a1 8 rfl (fun X8 hX8 => ?_)
      first | refine TL.st ty_sz99 ?_ | refine TL.se ty_sz99 ?_
      refine TL.nil ?_
      refine TQ.nxt (hX8 _ _ (by repeat (first | exact HasL.nil | refine HasL.cons (by repeat (first | exact Pick.hd | apply Pick.tl)) ?_)) ?_)
      refine RG.tk 9 rfl Pu.as ?_
      exact RG.nil (TQ.sub (by repeat (first | exact trivial | refine ⟨rfl, ?_⟩ | refine ⟨trivial, ?_⟩)) (by repeat (first | exact KSub.nil | refine KSub.cons (by repeat (first | exact Pick.hd | apply Pick.tl)) ?_ | exact KSub.refl _ | refine KSub.drop ?_)) (hE ⟨bm, x7⟩)) (by kernel_rfl)
  · refine TL.m (Mk.al ty_zr99) ?_
    intro x7
    refine TL.nil ?_
    refine TQ.nxt (hX7 _ _ (by repeat (first | exact HasL.nil | refine HasL.cons (by repeat (first | exact Pick.hd | apply Pick.tl)) ?_)) ?_)
    refine RG.a1 0 rfl (fun X0 hX0 => ?_)
    refine TL.call (M := []) rfl (enters Tryz.func48 rfl rfl) (List.Perm.refl _) rfl (fun w hw => by
        exact sorts_any w) ?_
    intro bm
    refine TL.nil ?_
    refine TQ.nxt (hX0 _ _ (by repeat (first | exact HasL.nil | refine HasL.cons (by repeat (first | exact Pick.hd | apply Pick.tl)) ?_)) ?_)
    refine RG.a1 3 rfl (fun X3 hX3 => ?_)
    refine TL.p (Pu.lkS ty_mp100 ty_zv99 hl) ?_
    refine TL.nil ?_
    refine TQ.nxt (hX3 _ _ (by repeat (first | exact HasL.nil | refine HasL.cons (by repeat (first | exact Pick.hd | apply Pick.tl)) ?_)) ?_)
    refine RG.tk 4 rfl Pu.mv ?_
    refine RG.tk 5 rfl Pu.ex ?_
    refine RG.tk 6 rfl Pu.ex ?_
    refine RG.a1 8 rfl (fun X8 hX8 => ?_)
    first | refine TL.st ty_sz99 ?_ | refine TL.se ty_sz99 ?_
    refine TL.nil ?_
    refine TQ.nxt (hX8 _ _ (by repeat (first | exact HasL.nil | refine HasL.cons (by repeat (first | exact Pick.hd | apply Pick.tl)) ?_)) ?_)
    refine RG.tk 9 rfl Pu.as ?_
    exact RG.nil (TQ.sub (by repeat (first | exact trivial | refine ⟨rfl, ?_⟩ | refine ⟨trivial, ?_⟩)) (by repeat (first | exact KSub.nil | refine KSub.cons (by repeat (first | exact Pick.hd | apply Pick.tl)) ?_ | exact KSub.refl _ | refine KSub.drop ?_)) (hE ⟨bm, x7⟩)) (by kernel_rfl)
theorem valid_none (f : Nat → Int) (w : World) (hl : mlook (f 0) sortsL = none) :
    Calls Tryz.prog 47 #[.agg (packL f).toArray] w (Ret w (.bool false)) := by
  refine K_enter (S := []) (K := []) Tryz.func47 rfl Tryz.ntmps47 rfl (Sat.start _) ?_
  refine TW.seq fun Y1 hY1 => ?_
  refine TW.region ?_
  refine TL.m Mk.bx ?_
  intro b1
  refine TL.p Pu.as ?_
  refine TL.nil ?_
  refine TQ.thenN (hY1 _ _ ?_)
  refine TW.seq fun Y2 hY2 => ?_
  refine TW.expl (fun (⟨bm, x7⟩ : Nat × Nat) => ([(3, .pointer (some ⟨x7, 0, none⟩)), (4, .bool false), (1, .pointer (some ⟨b1, 0, none⟩)), (2, .bool false)] : Fr)) (fun (⟨bm, x7⟩ : Nat × Nat) => [.blk x7 99 [.nilFunc, .nilFunc], .blk b1 58 (packL f)]) Drop.done ?_ (fun hE => ?_)
  · rintro ⟨bm, x7⟩
    refine TQ.thenN (hY2 _ _ ?_)
    refine TW.seq fun Y3 hY3 => ?_
    refine TW.region ?_
    refine TL.p Pu.mv ?_
    refine TL.p Pu.mv ?_
    refine TL.lit (t := 13) (b' := false) rfl (rfl) ?_
    refine TL.gs ?_
    refine TL.gs ?_
    refine TL.gs ?_
    refine TL.gs ?_
    refine TL.p Pu.kf ?_
    refine TL.p Pu.mv ?_
    refine TL.gs ?_
    refine TL.gs ?_
    refine TL.gs ?_
    refine TL.p Pu.kf ?_
    refine TL.p Pu.mv ?_
    refine TL.gs ?_
    refine TL.gs ?_
    refine TL.gs ?_
    refine TL.gs ?_
    refine TL.p Pu.kf ?_
    refine TL.p Pu.mv ?_
    refine TL.gs ?_
    refine TL.gs ?_
    refine TL.gs ?_
    refine TL.gs ?_
    refine TL.p Pu.kf ?_
    refine TL.p Pu.as ?_
    refine TL.nil ?_
    refine TQ.thenN (hY3 _ _ ?_)
    refine TW.ret ?_
    refine TQ.ret Tryz.results47 rfl ((.tmp rfl .nil)) ?_
    exact fun w hw => Ret.of hw
  refine RG.tk 1 rfl (by first | exact Pu.fb ty_fa58_0 | exact Pu.fe ty_fa58_0) ?_
  refine RG.tk 2 rfl (Pu.ld ty_sc5) ?_
  refine RG.a2 0 7 rfl rfl (fun X0 hX0 => ?_) (fun X7 hX7 => ?_)
  · refine TL.call (M := []) rfl (enters Tryz.func48 rfl rfl) (List.Perm.refl _) rfl (fun w hw => by
        exact sorts_any w) ?_
    intro bm
    refine TL.nil ?_
    refine TQ.nxt (hX0 _ _ (by repeat (first | exact HasL.nil | refine HasL.cons (by repeat (first | exact Pick.hd | apply Pick.tl)) ?_)) ?_)
    refine RG.a2 3 7 rfl rfl (fun X3 hX3 => ?_) (fun X7 hX7 => ?_)
    · refine TL.p (Pu.lkN ty_mp100 ty_zv99 hl) ?_
      refine TL.nil ?_
      refine TQ.nxt (hX3 _ _ (by repeat (first | exact HasL.nil | refine HasL.cons (by repeat (first | exact Pick.hd | apply Pick.tl)) ?_)) ?_)
      refine RG.tk 4 rfl Pu.mv ?_
      refine RG.tk 5 rfl Pu.ex ?_
      refine RG.tk 6 rfl Pu.ex ?_
      refine RG.a1 7 rfl (fun X7 hX7 => ?_)
      refine TL.m (Mk.al ty_zr99) ?_
      intro x7
      refine TL.nil ?_
      refine TQ.nxt (hX7 _ _ (by repeat (first | exact HasL.nil | refine HasL.cons (by repeat (first | exact Pick.hd | apply Pick.tl)) ?_)) ?_)
      refine RG.a1 8 rfl (fun X8 hX8 => ?_)
      first | refine TL.st ty_sz99 ?_ | refine TL.se ty_sz99 ?_
      refine TL.nil ?_
      refine TQ.nxt (hX8 _ _ (by repeat (first | exact HasL.nil | refine HasL.cons (by repeat (first | exact Pick.hd | apply Pick.tl)) ?_)) ?_)
      refine RG.tk 9 rfl Pu.as ?_
      exact RG.nil (TQ.sub (by repeat (first | exact trivial | refine ⟨rfl, ?_⟩ | refine ⟨trivial, ?_⟩)) (by repeat (first | exact KSub.nil | refine KSub.cons (by repeat (first | exact Pick.hd | apply Pick.tl)) ?_ | exact KSub.refl _ | refine KSub.drop ?_)) (hE ⟨bm, x7⟩)) (by kernel_rfl)
    · refine TL.m (Mk.al ty_zr99) ?_
      intro x7
      refine TL.nil ?_
      refine TQ.nxt (hX7 _ _ (by repeat (first | exact HasL.nil | refine HasL.cons (by repeat (first | exact Pick.hd | apply Pick.tl)) ?_)) ?_)
      refine RG.a1 3 rfl (fun X3 hX3 => ?_)
      refine TL.p (Pu.lkN ty_mp100 ty_zv99 hl) ?_
      refine TL.nil ?_
      refine TQ.nxt (hX3 _ _ (by repeat (first | exact HasL.nil | refine HasL.cons (by repeat (first | exact Pick.hd | apply Pick.tl)) ?_)) ?_)
      refine RG.tk 4 rfl Pu.mv ?_
      refine RG.tk 5 rfl Pu.ex ?_
      refine RG.tk 6 rfl Pu.ex ?_
      refine RG.a1 8 rfl (fun X8 hX8 => ?_)
      first | refine TL.st ty_sz99 ?_ | refine TL.se ty_sz99 ?_
      refine TL.nil ?_
      refine TQ.nxt (hX8 _ _ (by repeat (first | exact HasL.nil | refine HasL.cons (by repeat (first | exact Pick.hd | apply Pick.tl)) ?_)) ?_)
      refine RG.tk 9 rfl Pu.as ?_
      exact RG.nil (TQ.sub (by repeat (first | exact trivial | refine ⟨rfl, ?_⟩ | refine ⟨trivial, ?_⟩)) (by repeat (first | exact KSub.nil | refine KSub.cons (by repeat (first | exact Pick.hd | apply Pick.tl)) ?_ | exact KSub.refl _ | refine KSub.drop ?_)) (hE ⟨bm, x7⟩)) (by kernel_rfl)
  · refine TL.m (Mk.al ty_zr99) ?_
    intro x7
    refine TL.nil ?_
    refine TQ.nxt (hX7 _ _ (by repeat (first | exact HasL.nil | refine HasL.cons (by repeat (first | exact Pick.hd | apply Pick.tl)) ?_)) ?_)
    refine RG.a1 0 rfl (fun X0 hX0 => ?_)
    refine TL.call (M := []) rfl (enters Tryz.func48 rfl rfl) (List.Perm.refl _) rfl (fun w hw => by
        exact sorts_any w) ?_
    intro bm
    refine TL.nil ?_
    refine TQ.nxt (hX0 _ _ (by repeat (first | exact HasL.nil | refine HasL.cons (by repeat (first | exact Pick.hd | apply Pick.tl)) ?_)) ?_)
    refine RG.a1 3 rfl (fun X3 hX3 => ?_)
    refine TL.p (Pu.lkN ty_mp100 ty_zv99 hl) ?_
    refine TL.nil ?_
    refine TQ.nxt (hX3 _ _ (by repeat (first | exact HasL.nil | refine HasL.cons (by repeat (first | exact Pick.hd | apply Pick.tl)) ?_)) ?_)
    refine RG.tk 4 rfl Pu.mv ?_
    refine RG.tk 5 rfl Pu.ex ?_
    refine RG.tk 6 rfl Pu.ex ?_
    refine RG.a1 8 rfl (fun X8 hX8 => ?_)
    first | refine TL.st ty_sz99 ?_ | refine TL.se ty_sz99 ?_
    refine TL.nil ?_
    refine TQ.nxt (hX8 _ _ (by repeat (first | exact HasL.nil | refine HasL.cons (by repeat (first | exact Pick.hd | apply Pick.tl)) ?_)) ?_)
    refine RG.tk 9 rfl Pu.as ?_
    exact RG.nil (TQ.sub (by repeat (first | exact trivial | refine ⟨rfl, ?_⟩ | refine ⟨trivial, ?_⟩)) (by repeat (first | exact KSub.nil | refine KSub.cons (by repeat (first | exact Pick.hd | apply Pick.tl)) ?_ | exact KSub.refl _ | refine KSub.drop ?_)) (hE ⟨bm, x7⟩)) (by kernel_rfl)
theorem valid_any (f : Nat → Int) (w : World) (hG : None0 w) :
    Calls Tryz.prog 47 #[.agg (packL f).toArray] w (Ret w (.bool (packOk f))) := by
  have e1 : f 0 = 1 → packOk f = (kind1 f && ordB5 0 1000000 (f 1) (f 2) && inB5 0 6000000 (f 9) && inB5 0 100000 (f 10)) := fun h => by
    unfold packOk kind1; rw [if_pos h, Bool.eq_iff_iff]; simp only [Bool.and_eq_true]; constructor <;> (intro h; simp only [h, and_self])
  have e2 : f 0 = 2 → packOk f = (kind2 f && ordB5 0 1000000 (f 1) (f 2) && inB5 0 6000000 (f 9) && inB5 0 100000 (f 10)) := fun h => by
    unfold packOk kind2; rw [if_neg (by omega), if_pos h, Bool.eq_iff_iff]; simp only [Bool.and_eq_true]; constructor <;> (intro h; simp only [h, and_self])
  have e3 : f 0 = 3 → packOk f = (kind3 f && ordB5 0 1000000 (f 1) (f 2) && inB5 0 6000000 (f 9) && inB5 0 100000 (f 10)) := fun h => by
    unfold packOk kind3; rw [if_neg (by omega), if_neg (by omega), Bool.eq_iff_iff]; simp only [h, decide_true, Bool.true_and, Bool.and_eq_true]; constructor <;> (intro h; simp only [h, and_self])
  have e4 : f 0 ≠ 1 → f 0 ≠ 2 → f 0 ≠ 3 → packOk f = false := fun h1 h2 h3 => by
    unfold packOk; rw [if_neg h1, if_neg h2]; simp [h3]
  by_cases h1 : f 0 = 1
  · rw [e1 h1]
    exact valid_kind f 74 75 _ w hG (by rw [h1]; rfl) (enters Tryz.func74 rfl rfl) fun w' h' => sorts1_any f w' h'
  · by_cases h2 : f 0 = 2
    · rw [e2 h2]
      exact valid_kind f 76 77 _ w hG (by rw [h2]; rfl) (enters Tryz.func76 rfl rfl) fun w' h' => sorts2_any f w' h'
    · by_cases h3 : f 0 = 3
      · rw [e3 h3]
        exact valid_kind f 78 79 _ w hG (by rw [h3]; rfl) (enters Tryz.func78 rfl rfl) fun w' h' => sorts3_any f w' h'
      · rw [e4 h1 h2 h3]
        exact valid_none f w (by simp [sortsL, mlook, h1, h2, h3])
set_option maxRecDepth 100000 in
theorem rest_kind (f : Nat → Int) (g h : Nat) (w : World) (hG : None0 w) (hk : packOk f = true) (hl : mlook (f 0) sortsL = some (sortV h g)) (hen : Enters Tryz.prog g) (hg : ∀ w', None0 w' → Calls Tryz.prog g #[.agg (packL f).toArray] w' (Ret w' (.tuple (restC (restV f)).toArray))) :
    Calls Tryz.prog 14 #[.agg (packL f).toArray] w (Ret w (.tuple (restK f).toArray)) := by
  refine K_enter (S := []) (K := []) Tryz.func14 rfl Tryz.ntmps14 rfl (Sat.start _) ?_
  refine TW.seq fun Y1 hY1 => ?_
  refine TW.region ?_
  refine TL.m Mk.bx ?_
  intro b1
  refine TL.m (Mk.al ty_zr47) ?_
  intro b2
  refine TL.m (Mk.al ty_zr47) ?_
  intro b3
  refine TL.p Pu.as ?_
  refine TL.p Pu.as ?_
  refine TL.nil ?_
  refine TQ.thenN (hY1 _ _ ?_)
  refine TW.seq fun Y2 hY2 => ?_
  refine TW.seq fun Y3 hY3 => ?_
  refine TW.region ?_
  refine TL.p (Pu.lds ty_ag58) ?_
  refine TL.cr rfl (enters Tryz.func47 rfl rfl) (fun w hw => by
      exact valid_any f w (hG.sat hw (by simp))) ?_
  refine TL.p Pu.no ?_
  refine TL.nil ?_
  refine TQ.thenN (hY3 _ _ ?_)
  refine TW.cond rfl (fun hc0 => ?_) (fun hc0 => ?_)
  · try simp only [decide_eq_true_eq, decide_eq_false_iff_not, Bool.not_eq_true', Bool.not_eq_false', Bool.and_eq_true, Bool.or_eq_true, Bool.and_eq_false_iff, Bool.or_eq_false_iff, Int.not_lt, Int.not_le] at hc0
    have hf0 : packOk f = false := hc0
    exact absurd (hk.symm.trans hf0) (by decide)
  · try simp only [decide_eq_true_eq, decide_eq_false_iff_not, Bool.not_eq_true', Bool.not_eq_false', Bool.and_eq_true, Bool.or_eq_true, Bool.and_eq_false_iff, Bool.or_eq_false_iff, Int.not_lt, Int.not_le] at hc0
    refine TW.skip ?_
    refine TQ.thenN (hY2 _ _ ?_)
    refine TW.seq fun Y4 hY4 => ?_
    refine TW.ex0 (Drop.blk 2 rfl (by repeat (first | exact Pick.hd | apply Pick.tl)) (Drop.blk 3 rfl (by repeat (first | exact Pick.hd | apply Pick.tl)) Drop.done)) ?_
    refine RG.tk 1 rfl (by first | exact Pu.fb ty_fa58_0 | exact Pu.fe ty_fa58_0) ?_
    refine RG.tk 2 rfl (Pu.ld ty_sc5) ?_
    refine RG.tk 5 rfl (Pu.lds ty_ag58) ?_
    refine RG.a1 0 rfl (fun X0 hX0 => ?_)
    refine TL.call (M := []) rfl (enters Tryz.func48 rfl rfl) (List.Perm.refl _) rfl (fun w hw => by
        exact sorts_any w) ?_
    intro bm
    refine TL.nil ?_
    refine TQ.nxt (hX0 _ _ (by repeat (first | exact HasL.nil | refine HasL.cons (by repeat (first | exact Pick.hd | apply Pick.tl)) ?_)) ?_)
    refine RG.a1 3 rfl (fun X3 hX3 => ?_)
    refine TL.p (Pu.l1S ty_mp100 ty_zv99 hl) ?_
    refine TL.nil ?_
    refine TQ.nxt (hX3 _ _ (by repeat (first | exact HasL.nil | refine HasL.cons (by repeat (first | exact Pick.hd | apply Pick.tl)) ?_)) ?_)
    refine RG.tk 4 rfl Pu.fd ?_
    refine RG.a1 6 rfl (fun X6 hX6 => ?_)
    refine TL.cv rfl rfl hen (fun w hw => by
        exact hg w (hG.sat hw (by simp))) ?_
    refine TL.nil ?_
    refine TQ.nxt (hX6 _ _ (by repeat (first | exact HasL.nil | refine HasL.cons (by repeat (first | exact Pick.hd | apply Pick.tl)) ?_)) ?_)
    refine RG.tk 7 rfl Pu.mv ?_
    refine RG.tk 8 rfl Pu.ex ?_
    refine RG.tk 9 rfl Pu.ex ?_
    refine RG.tk 10 rfl Pu.ex ?_
    refine RG.a1 11 rfl (fun X11 hX11 => ?_)
    first | refine TL.st ty_sz47 ?_ | refine TL.se ty_sz47 ?_
    refine TL.nil ?_
    refine TQ.nxt (hX11 _ _ (by repeat (first | exact HasL.nil | refine HasL.cons (by repeat (first | exact Pick.hd | apply Pick.tl)) ?_)) ?_)
    refine RG.a1 12 rfl (fun X12 hX12 => ?_)
    first | refine TL.st ty_sz47 ?_ | refine TL.se ty_sz47 ?_
    refine TL.nil ?_
    refine TQ.nxt (hX12 _ _ (by repeat (first | exact HasL.nil | refine HasL.cons (by repeat (first | exact Pick.hd | apply Pick.tl)) ?_)) ?_)
    refine RG.tk 13 rfl Pu.as ?_
    refine RG.nil ?_ (by kernel_rfl)
    refine TQ.thenN (hY4 _ _ ?_)
    refine TW.seq fun Y5 hY5 => ?_
    refine TW.rf Drop.done ?_
    refine RF.tk (Pu.lds ty_ag47) ?_
    refine RF.tk (Pu.lds ty_ag47) ?_
    refine RF.tk Pu.mv ?_
    refine RF.ks ?_
    refine RF.ks ?_
    refine RF.ks ?_
    refine RF.ks ?_
    refine RF.go ?_
    refine RG.step fun X1 hX1 => ?_
    first | refine TL.st ty_sz47 ?_ | refine TL.se ty_sz47 ?_
    refine TL.nil ?_
    refine TQ.nxt (hX1 _ _ (by repeat (first | exact HasL.nil | refine HasL.cons (by repeat (first | exact Pick.hd | apply Pick.tl)) ?_)) ?_)
    refine RG.step fun X2 hX2 => ?_
    first | refine TL.st ty_sz47 ?_ | refine TL.se ty_sz47 ?_
    refine TL.nil ?_
    refine TQ.nxt (hX2 _ _ (by repeat (first | exact HasL.nil | refine HasL.cons (by repeat (first | exact Pick.hd | apply Pick.tl)) ?_)) ?_)
    refine RG.step fun X3 hX3 => ?_
    refine TL.p Pu.as ?_
    refine TL.nil ?_
    refine TQ.nxt (hX3 _ _ (by repeat (first | exact HasL.nil | refine HasL.cons (by repeat (first | exact Pick.hd | apply Pick.tl)) ?_)) ?_)
    refine RG.step fun X4 hX4 => ?_
    refine TL.p Pu.as ?_
    refine TL.nil ?_
    refine TQ.nxt (hX4 _ _ (by repeat (first | exact HasL.nil | refine HasL.cons (by repeat (first | exact Pick.hd | apply Pick.tl)) ?_)) ?_)
    refine RG.nil ?_
    refine TQ.thenN (hY5 _ _ ?_)
    refine TW.ret ?_
    refine TQ.ret Tryz.results14 rfl ((RV.cs ty_ag47 (RV.cs ty_ag47 (.tmp rfl (.tmp rfl .nil))))) ?_
    exact fun w hw => ⟨by unfold restK; rw [hk]; rfl, Chg.ext hw.chg⟩
set_option maxRecDepth 100000 in
theorem rest_no (f : Nat → Int) (w : World) (hG : None0 w) (hk : packOk f = false) :
    Calls Tryz.prog 14 #[.agg (packL f).toArray] w (Ret w (.tuple (restK f).toArray)) := by
  refine K_enter (S := []) (K := []) Tryz.func14 rfl Tryz.ntmps14 rfl (Sat.start _) ?_
  refine TW.seq fun Y1 hY1 => ?_
  refine TW.region ?_
  refine TL.m Mk.bx ?_
  intro b1
  refine TL.m (Mk.al ty_zr47) ?_
  intro b2
  refine TL.m (Mk.al ty_zr47) ?_
  intro b3
  refine TL.p Pu.as ?_
  refine TL.p Pu.as ?_
  refine TL.nil ?_
  refine TQ.thenN (hY1 _ _ ?_)
  refine TW.seq fun Y2 hY2 => ?_
  refine TW.seq fun Y3 hY3 => ?_
  refine TW.region ?_
  refine TL.p (Pu.lds ty_ag58) ?_
  refine TL.cr rfl (enters Tryz.func47 rfl rfl) (fun w hw => by
      exact valid_any f w (hG.sat hw (by simp))) ?_
  refine TL.p Pu.no ?_
  refine TL.nil ?_
  refine TQ.thenN (hY3 _ _ ?_)
  refine TW.condT rfl ((by rw [hk]; rfl)) ?_
  refine TW.seq fun Y4 hY4 => ?_
  refine TW.rf (Drop.blk 2 rfl (by repeat (first | exact Pick.hd | apply Pick.tl)) (Drop.blk 3 rfl (by repeat (first | exact Pick.hd | apply Pick.tl)) Drop.done)) ?_
  refine RF.tk (Pu.ldso ty_ag47) ?_
  refine RF.tk (Pu.ldso ty_ag47) ?_
  refine RF.ks ?_
  refine RF.ks ?_
  refine RF.ks ?_
  refine RF.ks ?_
  refine RF.go ?_
  refine RG.step fun X1 hX1 => ?_
  first | refine TL.st ty_sz47 ?_ | refine TL.se ty_sz47 ?_
  refine TL.nil ?_
  refine TQ.nxt (hX1 _ _ (by repeat (first | exact HasL.nil | refine HasL.cons (by repeat (first | exact Pick.hd | apply Pick.tl)) ?_)) ?_)
  refine RG.step fun X2 hX2 => ?_
  first | refine TL.st ty_sz47 ?_ | refine TL.se ty_sz47 ?_
  refine TL.nil ?_
  refine TQ.nxt (hX2 _ _ (by repeat (first | exact HasL.nil | refine HasL.cons (by repeat (first | exact Pick.hd | apply Pick.tl)) ?_)) ?_)
  refine RG.step fun X3 hX3 => ?_
  refine TL.p Pu.as ?_
  refine TL.nil ?_
  refine TQ.nxt (hX3 _ _ (by repeat (first | exact HasL.nil | refine HasL.cons (by repeat (first | exact Pick.hd | apply Pick.tl)) ?_)) ?_)
  refine RG.step fun X4 hX4 => ?_
  refine TL.p Pu.as ?_
  refine TL.nil ?_
  refine TQ.nxt (hX4 _ _ (by repeat (first | exact HasL.nil | refine HasL.cons (by repeat (first | exact Pick.hd | apply Pick.tl)) ?_)) ?_)
  refine RG.nil ?_
  refine TQ.thenN (hY4 _ _ ?_)
  refine TW.ret ?_
  refine TQ.thenR ?_
  refine TQ.ret Tryz.results14 rfl ((RV.cs ty_ag47 (RV.cs ty_ag47 (.tmp rfl (.tmp rfl .nil))))) ?_
  exact fun w hw => ⟨by unfold restK; rw [hk]; rfl, Chg.ext hw.chg⟩
theorem rest_any (f : Nat → Int) (w : World) (hG : None0 w) :
    Calls Tryz.prog 14 #[.agg (packL f).toArray] w (Ret w (.tuple (restK f).toArray)) := by
  cases hk : packOk f with
  | false => exact rest_no f w hG hk
  | true =>
    rcases ((packOk_iff f).1 hk).2 with h | h | h
    · exact rest_kind f 75 74 w hG hk (by rw [h.1]; rfl) (enters Tryz.func75 rfl rfl) fun w' h' => slab_any f w' h' hk h.1
    · exact rest_kind f 77 76 w hG hk (by rw [h.1]; rfl) (enters Tryz.func77 rfl rfl) fun w' h' => bale_any f w' h' h.1
    · exact rest_kind f 79 78 w hG hk (by rw [h.1]; rfl) (enters Tryz.func79 rfl rfl) fun w' _ => skin_any f w' hk h.1
end Go.Proofs.YtljhdcclajikiaaGreatDoor
namespace Go.Proofs.YtljhdcclajikiaaGreatDoor
set_option linter.all false
set_option linter.unusedVariables false
set_option linter.unusedSimpArgs false
open Go.RowKit
def errV (code : Int) : Value := .iface 29 (.int .i64 code)
def errs (code : Int) : List PanicEntry := [{ v := errV code, recovered := false }]
set_option maxRecDepth 100000 in
theorem catch_idle (b : Nat) (w : World) :
    CallsD Tryz.prog 54 #[.pointer (some ⟨b, 0, none⟩)] .returning w fun e u' w' => e = .returned (.tuple #[]) ∧ u' = .returning ∧ w' = w := by
  refine callsD_of_wpS Tryz.func54 rfl fun c₀ cs hu => ?_
  apply wpS_seq
  apply wpS_region
  simp [wpOpsS, go_sem, recoverD, hu, Tryz.ntmps54, Exit.thenS]
  apply wpS_seq
  apply wpS_region
  simp [wpOpsS, go_sem, Exit.thenS]
  refine wpS_cond (t := false) (by simp [Act.eval, Array.replicate]) ?_
  simp only [Bool.false_eq_true, if_false]
  refine wpS_of_wp (wp_skip ?_)
  cases c₀
  simp_all [bodyPostS, results, Tryz.results54, Exit.thenS]
theorem Pu.ty {c : Cx} {F : Fr} {K : List Fact} {d : Option Tmp} {t ty : TypeId} {pos : String} {af : Array Edge} {g : Option (Nat × Bool)} {x : Operand} {xt : TypeId} {ok : Bool} {u v : Value} (h : ∀ w, (Instr.typeAssert u xt t ok).run c.P w = .ok v w) (hx : ev F x = some u := by rfl) : Pu c F K ⟨d, .typeAssert x xt t ok, ty, pos, af, g⟩ v := fun a w hF _ => by
  simp [execOp, hF.evl hx, h w]
set_option maxRecDepth 100000 in
theorem catch_yes (b : Nat) (code old : Int) (w : World) (hB : Blk w b 29 #[.int .i64 old]) :
    CallsD Tryz.prog 54 #[.pointer (some ⟨b, 0, none⟩)] (.panicking (errs code)) w fun e u' w' => e = .returned (.tuple #[]) ∧ u' = .panicking [{ v := errV code, recovered := true }] ∧ Blk w' b 29 #[.int .i64 code] ∧ Chg [b] w w' := by
  have hA : ∀ w, (Instr.typeAssert (errV code) 20 29 true).run Tryz.prog w = .ok (.tuple #[.int .i64 code, .bool true]) w := fun w => by
    unfold Instr.typeAssert errV
    simp only [Sem.run_bind, run_underlying Tryz.underlying29, Result.andThen_ok, if_true, Sem.run_pure]
  refine callsD_of_wpS Tryz.func54 rfl fun c₀ cs hu => ?_
  have hF := FS.start (n := 16) (args := [.pointer (some ⟨b, 0, none⟩)]) (by simp)
  rw [Tryz.ntmps54]
  generalize ({ tmps := _, defers := [] } : Act) = a0 at *
  have hF1 := hF.put (d := 4) rfl (errV code)
  have hF2 := hF1.put (d := 1) rfl (errV code)
  have h1 : (a0.put (some 4) (errV code)).eval (.tmp 4) = errV code := hF1.evl rfl
  apply wpS_seq
  apply wpS_region
  have h4 : 4 < a0.tmps.size := by rw [hF.size]; decide
  simp [wpOpsS, go_sem, recoverD, hu, errs, h1, h4, Exit.thenS]
  refine wpS_of_wp ?_
  have hS : Sat [b] w [.blk b 29 [.int .i64 old]] w := Sat.one (Chg.refl _ _) (by simp [Fact.foot]) (fun q hq => .inl hq) hB
  refine (show TW ⟨Tryz.prog, 16, [], [b], w⟩ _ _ _ _ from ?_) ((a0.put (some 4) (errV code)).put (some 1) (errV code)) w hF2 hS
  refine TW.seq fun Y1 hY1 => ?_
  refine TW.region ?_
  refine TL.p Pu.mv ?_
  refine TL.p Pu.bn ?_
  refine TL.nil ?_
  refine TQ.thenN (hY1 _ _ ?_)
  refine TW.condT rfl (rfl) ?_
  refine TW.seq fun Y2 hY2 => ?_
  refine TW.region ?_
  refine TL.p Pu.mv ?_
  refine TL.p (Pu.ty hA) ?_
  refine TL.p Pu.mv ?_
  refine TL.p Pu.ex ?_
  refine TL.p Pu.ex ?_
  refine TL.p Pu.as ?_
  refine TL.p Pu.as ?_
  refine TL.nil ?_
  refine TQ.thenN (hY2 _ _ ?_)
  refine TW.seq fun Y3 hY3 => ?_
  refine TW.seq fun Y4 hY4 => ?_
  refine TW.region ?_
  refine TL.p Pu.mv ?_
  refine TL.p Pu.no ?_
  refine TL.nil ?_
  refine TQ.thenN (hY4 _ _ ?_)
  refine TW.condF rfl (rfl) ?_
  refine TW.skip ?_
  refine TQ.thenN (hY3 _ _ ?_)
  refine TW.region ?_
  refine TL.p Pu.mv ?_
  first | refine TL.st ty_sz29 ?_ | refine TL.se ty_sz29 ?_
  refine TL.nil ?_
  exact fun a w hF hK => ⟨hF.dfs, .panicking [{ v := errV code, recovered := true }], rfl, .tuple #[], by simp [results, Tryz.results54], rfl, rfl, hK.holds (.blk b 29 [.int .i64 code]) (by simp), hK.chg⟩
theorem invoke_cl {P : Program} {g : FuncId} {args : List Value} (hen : Enters P g) (cs : List Value) (w : World) : (invoke (.fn (.func g) cs.toArray) args.toArray).run P w = .ok (.enter g (args ++ cs).toArray) w := by
  have h9 := hen (args ++ cs).toArray w
  simp only [invoke, List.append_toArray]
  exact h9
theorem Pick.mid : ∀ (L : List Fact) {φ : Fact} {R : List Fact}, Pick (L ++ φ :: R) φ (L ++ R)
  | [], _, _ => .hd
  | _ :: L, _, _ => .tl (Pick.mid L)
def Doing (P : Program) (g : FuncId) (args : Array Value) (M : List Fact) (X : Type) (L : X → List Fact) (code : Int) (w : World) : Prop := Calls P g args w fun e w' => ∃ x : X, Sat (feet M) w (L x) w' ∧ e = if code = 0 then .returned (.tuple #[]) else .panicked (errs code)
section
variable {c : Cx} {Q : Exit → Act → World → Prop} {F F' : Fr} {K K' K0 : List Fact} {ops : Array Oper} {rest : List Oper} {d : Option Tmp} {ty : TypeId} {pos : String} {af : Array Edge} {g : Option (Nat × Bool)}
theorem TL.dg {f : FuncId} {x : Operand} {xs : List Operand} {ts : Array TypeId} {us fs cs : List Value} {M : List Fact} {X : Type} {L : X → List Fact} {code : Int} (hf : ev F x = some (.func (.func f) fs.toArray cs.toArray)) (hx : evs F xs = some us) (hen : Enters c.P f) (hM : K.Perm (M ++ K'))
    (hc : ∀ w, Sat c.S c.w0 K w → Doing c.P f (fs ++ us ++ cs).toArray M X L code w) (h0 : ∀ x, code = 0 → TL c ops Q rest (fput F d (.tuple #[])) (L x ++ K')) (h1 : ∀ x, code ≠ 0 → TQ c Q (.panic (errs code)) F (L x ++ K')) (hg : gdB F ops g = some true := by rfl) (hd : dok d c.n = true := by rfl) :
    TL c ops Q (⟨d, .call { callee := .value x, args := xs.toArray, argTypes := ts }, ty, pos, af, g⟩ :: rest) F K := fun a w hF hK => by
  unfold wpList
  rw [if_pos (hF.wanted hg)]
  refine .inl ?_
  unfold Oper.wp
  rw [run_callv (hF.evl hf) (hF.evsl hx) hen rfl]
  refine Calls.mono (hc w hK) ?_
  rintro e w' ⟨x, hs, rfl⟩
  by_cases h : code = 0
  · simp only [h, if_true]
    exact h0 x h _ _ (hF.fput hd _) ((hK.perm hM).step hs)
  · simp only [h, if_false]
    exact h1 x h _ _ hF ((hK.perm hM).step hs)
end
set_option maxRecDepth 100000 in
theorem trying_any {g : FuncId} {fs cs : List Value} {M : List Fact} {X : Type} {L : X → List Fact} {code : Int} {w : World} (hen : Enters Tryz.prog g) (hM : Sat (feet M) w M w) (hg : ∀ w', Sat (feet M) w M w' → Doing Tryz.prog g (fs ++ cs).toArray M X L code w') :
    CallsK Tryz.prog 27 #[.func (.func g) fs.toArray cs.toArray] M w X (fun _ => .int .i64 code) L := by
  refine calls_of_wp_defers Tryz.func27 rfl ?_
  rw [Tryz.ntmps27]
  have hF := FS.start (n := 6) (args := [.func (.func g) fs.toArray cs.toArray]) (by simp)
  refine (show TW ⟨Tryz.prog, 6, [], feet M, w⟩ _ _ _ _ from ?_) _ w hF hM
  refine TW.seq fun Y1 hY1 => ?_
  refine TW.region ?_
  refine TL.m (Mk.al ty_zr29) ?_
  intro b1
  refine TL.nil ?_
  refine TQ.thenN (hY1 _ _ ?_)
  intro a2 w2 hF2 hK2
  refine wp_seq ?_
  refine (show TW ⟨Tryz.prog, 6, [], feet M, w⟩ _ _ _ _ from ?_) a2 w2 hF2 hK2
  refine TW.region ?_
  refine TL.p Pu.fn ?_
  intro a3 w3 hF3 hK3
  have hr : (execOp a3.eval { dst := none, op := Go.Op.defer { callee := Go.Callee.value (Go.Operand.tmp 3), args := #[], argTypes := #[] }, type := 0, pos := "load.go:33", after := #[{ on := 0, ground := Go.Ground.data }], guard := none }).run Tryz.prog w3 = .ok (.defer { target := .fn (.func 54) #[.pointer (some ⟨b1, 0, none⟩)], args := #[] }) w3 := by
    simp [execOp, resolve, hF3.evl (show ev _ (.tmp 3) = some (.func (.func 54) #[] #[.pointer (some ⟨b1, 0, none⟩)]) from rfl), Deferred.ofValue]
  refine wpList_plain rfl fun Z hZ => ?_
  unfold Oper.wp
  rw [hr]
  refine hZ _ _ ?_
  have hF4 : FS 6 [{ target := .fn (.func 54) #[.pointer (some ⟨b1, 0, none⟩)], args := #[] }] _ ({ a3 with defers := { target := .fn (.func 54) #[.pointer (some ⟨b1, 0, none⟩)], args := #[] } :: a3.defers } : Act) := ⟨hF3.size, by rw [hF3.dfs], hF3.get⟩
  refine (show TW ⟨Tryz.prog, 6, [{ target := .fn (.func 54) #[.pointer (some ⟨b1, 0, none⟩)], args := #[] }], feet M, w⟩ _ _ _ _ from ?_) _ w3 hF4 hK3
  refine TW.seq fun Y3 hY3 => ?_
  refine TW.region ?_
  refine TL.p Pu.mv ?_
  refine TL.dg (M := M) (X := X) (L := L) (code := code) (K' := [.blk b1 29 [.int .i64 0]]) rfl rfl hen (List.perm_append_comm (l₁ := [_])) (fun w hw => by
      simpa using hg w ((Has.sat ⟨[_], List.perm_append_comm (l₁ := [_])⟩ hw))) (fun x h0 => ?_) (fun x h1 => ?_)
  · refine TL.nil ?_
    refine TQ.thenN (hY3 _ _ ?_)
    refine TW.seq fun Y4 hY4 => ?_
    refine TW.region ?_
    refine TL.st (K' := L x) ty_sz29 ?_ rfl rfl rfl rfl rfl (hp := by
      have : Pick (L x ++ [.blk b1 29 [.int .i64 0]]) (.blk b1 29 [.int .i64 0]) (L x ++ []) := Pick.mid (L x)
      simpa using this)
    refine TL.nil ?_
    refine TQ.thenN (hY4 _ _ ?_)
    refine TW.ret ?_
    intro a5 w5 hF5 hK5
    show Leaves Tryz.prog _ a5.tmps _ a5.defers .returning w5
    rw [hF5.dfs]
    refine leaves_cons (f := 54) (args := #[.pointer (some ⟨b1, 0, none⟩)]) (by simp) (invoke_cl (args := []) (enters Tryz.func54 rfl rfl) [.pointer (some ⟨b1, 0, none⟩)] w5) ?_
    refine (catch_idle b1 w5).mono ?_
    rintro e u' w' ⟨rfl, rfl, rfl⟩
    refine ⟨_, RV.results (c := ⟨Tryz.prog, 6, [_], feet M, w⟩) (vs := [.int .i64 0]) Tryz.results27 (RV.c1 ty_sc29 .nil) hF5 hK5, x, by rw [h0]; rfl, Has.sat ⟨[_], List.perm_append_comm (l₁ := [_])⟩ hK5⟩
  · intro a5 w5 hF5 hK5
    have hK6 := hK5.perm (List.perm_append_comm (l₂ := [_]))
    have hB : Blk w5 b1 29 #[.int .i64 0] := hK6.holds (.blk b1 29 [.int .i64 0]) (by simp)
    show Leaves Tryz.prog _ a5.tmps _ a5.defers (.panicking (errs code)) w5
    rw [hF5.dfs]
    refine leaves_cons (f := 54) (args := #[.pointer (some ⟨b1, 0, none⟩)]) (by simp) (invoke_cl (args := []) (enters Tryz.func54 rfl rfl) [.pointer (some ⟨b1, 0, none⟩)] w5) ?_
    refine (catch_yes b1 code 0 w5 hB).mono ?_
    rintro e u' w' ⟨rfl, rfl, hB', hc⟩
    have hK7 : Sat (feet M) w (.blk b1 29 [.int .i64 code] :: L x) w' := Sat.turn (φ' := .blk b1 29 [.int .i64 code]) hK6 hc (by simp [Fact.foot]) (fun q hq => .inl hq) hB'
    refine ⟨_, RV.results (c := ⟨Tryz.prog, 6, [_], feet M, w⟩) (vs := [.int .i64 code]) Tryz.results27 (RV.c1 ty_sc29 .nil) hF5 hK7, x, rfl, Has.sat ⟨[_], List.perm_append_comm (l₁ := [_])⟩ hK7⟩
end Go.Proofs.YtljhdcclajikiaaGreatDoor
