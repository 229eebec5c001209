/-
  Part 4 of the proof of loadTraded_holds: declarations of several texts, in build order. No condition on a program.
-/
import Derived.Test.YtljhdcclajikiaaGreatDoorTrac03
import Derived.Recover
namespace Go.Proofs.YtljhdcclajikiaaGreatDoor
set_option linter.all false
set_option linter.unusedVariables false
set_option linter.unusedSimpArgs false
open Go.RowKit
theorem part_any (m t : Int) (w : World) (h0 : 0 ≤ m * t) (h1 : m * t ≤ 1000000000000) :
    Calls Tryz.prog 106 #[.int .i64 m, .int .i64 t] w (Ret w (.tuple #[.int .i64 (m * t / 1000), .int .i64 ((m * t + 999) / 1000)])) := by
  refine K_enter (S := []) (K := []) Tryz.func106 rfl Tryz.ntmps106 rfl (Sat.start _) ?_
  refine TW.seq fun Y1 hY1 => ?_
  refine TW.region ?_
  refine TL.p Pu.as ?_
  refine TL.p Pu.as ?_
  refine TL.nil ?_
  refine TQ.thenN (hY1 _ _ ?_)
  refine TW.seq fun Y2 hY2 => ?_
  refine TW.region ?_
  refine TL.p Pu.mv ?_
  refine TL.p Pu.mv ?_
  refine TL.p Pu.ml ?_
  refine TL.p Pu.as ?_
  refine TL.nil ?_
  refine TQ.thenN (hY2 _ _ ?_)
  refine TW.seq fun Y3 hY3 => ?_
  refine TW.region ?_
  refine TL.p Pu.mv ?_
  refine TL.p Pu.qu ?_
  refine TL.p Pu.mv ?_
  refine TL.p Pu.ad ?_
  refine TL.p Pu.sb ?_
  refine TL.p Pu.qu ?_
  refine TL.p Pu.as ?_
  refine TL.p Pu.as ?_
  refine TL.nil ?_
  refine TQ.thenN (hY3 _ _ ?_)
  refine TW.ret ?_
  refine TQ.ret Tryz.results106 rfl ((.tmp rfl (.tmp rfl .nil))) ?_
  exact fun w hw => ⟨by show Ending.returned (.tuple #[.int .i64 (m * t / 1000), .int .i64 ((m * t + 1000 - 1) / 1000)]) = _; rw [show m * t + 1000 - 1 = m * t + 999 by omega], Chg.ext hw.chg⟩
abbrev None0 (w : World) : Prop := OldB w 0 [.int .i64 0, .int .i64 0]
set_option maxRecDepth 100000 in
theorem slab_any (f : Nat → Int) (w : World) (hG : None0 w) (hk : packOk f = true) (h0 : f 0 = 1) :
    Calls Tryz.prog 75 #[.agg (packL f).toArray] w (Ret w (.tuple (restC (restV f)).toArray)) := by
  obtain ⟨⟨h1, h2, h3, h4, h5, h6, h7⟩, hkind⟩ := (packOk_iff f).1 hk
  have m3 : 0 ≤ f 1 * (1000 - f 6) ∧ f 1 * (1000 - f 6) ≤ 1000000 * 1000 := mulB (by omega) (by omega) (by omega) (by omega)
  have m4 : 0 ≤ f 2 * f 6 ∧ f 2 * f 6 ≤ 1000000 * 1000 := mulB (by omega) (by omega) (by omega) (by omega)
  have m5 : 0 ≤ f 2 * (1000 - f 5) ∧ f 2 * (1000 - f 5) ≤ 1000000 * 1000 := mulB (by omega) (by omega) (by omega) (by omega)
  have m6 : 0 ≤ f 1 * f 5 ∧ f 1 * f 5 ≤ 1000000 * 1000 := mulB (by omega) (by omega) (by omega) (by omega)
  refine K_enter (S := []) (K := []) Tryz.func75 rfl Tryz.ntmps75 rfl (Sat.start _) ?_
  refine TW.seq fun Y1 hY1 => ?_
  refine TW.region ?_
  refine TL.m Mk.bx ?_
  intro b1
  refine TL.m (Mk.al ty_zr47) ?_
  intro b2
  refine TL.m (Mk.al ty_zr47) ?_
  intro b3
  refine TL.p Pu.as ?_
  refine TL.nil ?_
  refine TQ.thenN (hY1 _ _ ?_)
  refine TW.seq fun Y2 hY2 => ?_
  refine TW.region ?_
  refine TL.p (by first | exact Pu.fb ty_fa58_1 | exact Pu.fe ty_fa58_1) ?_
  refine TL.p (Pu.lds ty_ag47) ?_
  first | refine TL.st ty_sz47 ?_ | refine TL.se ty_sz47 ?_
  refine TL.nil ?_
  refine TQ.thenN (hY2 _ _ ?_)
  refine TW.seq fun Y3 hY3 => ?_
  refine TW.seq fun Y4 hY4 => ?_
  refine TW.region ?_
  refine TL.p (by first | exact Pu.fb ty_fa58_5 | exact Pu.fe ty_fa58_5) ?_
  refine TL.p (Pu.ld ty_sc3) ?_
  refine TL.p (by first | exact Pu.fb ty_fa58_2 | exact Pu.fe ty_fa58_2) ?_
  refine TL.p (by first | exact Pu.fb ty_fa47_0 | exact Pu.fe ty_fa47_0) ?_
  refine TL.p (Pu.ld ty_sc3) ?_
  refine TL.p Pu.lt ?_
  refine TL.nil ?_
  refine TQ.thenN (hY4 _ _ ?_)
  refine TW.cond rfl (fun hc0 => ?_) (fun hc0 => ?_)
  · try simp only [decide_eq_true_eq, decide_eq_false_iff_not, Bool.not_eq_true', Bool.not_eq_false', Bool.and_eq_true, Bool.or_eq_true, Bool.and_eq_false_iff, Bool.or_eq_false_iff, Int.not_lt, Int.not_le] at hc0
    refine TW.seq fun Y5 hY5 => ?_
    refine TW.rf (Drop.blk 3 rfl (by repeat (first | exact Pick.hd | apply Pick.tl)) Drop.done) ?_
    refine RF.tk (Pu.lds ty_ag47) ?_
    refine RF.tk (Pu.ldso ty_ag47) ?_
    refine RF.ks ?_
    refine RF.ks ?_
    refine RF.ks ?_
    refine RF.go ?_
    refine RG.step fun X1 hX1 => ?_
    first | refine TL.st ty_sz47 ?_ | refine TL.se ty_sz47 ?_
    refine TL.nil ?_
    refine TQ.nxt (hX1 _ _ (by repeat (first | exact HasL.nil | refine HasL.cons (by repeat (first | exact Pick.hd | apply Pick.tl)) ?_)) ?_)
    refine RG.step fun X2 hX2 => ?_
    first | refine TL.st ty_sz47 ?_ | refine TL.se ty_sz47 ?_
    refine TL.nil ?_
    refine TQ.nxt (hX2 _ _ (by repeat (first | exact HasL.nil | refine HasL.cons (by repeat (first | exact Pick.hd | apply Pick.tl)) ?_)) ?_)
    refine RG.step fun X3 hX3 => ?_
    refine TL.p Pu.as ?_
    refine TL.nil ?_
    refine TQ.nxt (hX3 _ _ (by repeat (first | exact HasL.nil | refine HasL.cons (by repeat (first | exact Pick.hd | apply Pick.tl)) ?_)) ?_)
    refine RG.nil ?_
    refine TQ.thenN (hY5 _ _ ?_)
    refine TW.ret ?_
    refine TQ.thenR ?_
    refine TQ.ret Tryz.results75 rfl ((RV.cs ty_ag47 (RV.cs ty_ag47 (.tmp rfl .nil)))) ?_
    exact fun w hw => ⟨by unfold restV; rw [if_neg (by omega), if_pos (by omega)]; rfl, Chg.ext hw.chg⟩
  · try simp only [decide_eq_true_eq, decide_eq_false_iff_not, Bool.not_eq_true', Bool.not_eq_false', Bool.and_eq_true, Bool.or_eq_true, Bool.and_eq_false_iff, Bool.or_eq_false_iff, Int.not_lt, Int.not_le] at hc0
    refine TW.skip ?_
    refine TQ.thenN (hY3 _ _ ?_)
    refine TW.seq fun Y6 hY6 => ?_
    refine TW.region ?_
    refine TL.p (by first | exact Pu.fb ty_fa58_1 | exact Pu.fe ty_fa58_1) ?_
    refine TL.p (by first | exact Pu.fb ty_fa47_0 | exact Pu.fe ty_fa47_0) ?_
    refine TL.p (Pu.ld ty_sc3) ?_
    refine TL.p (by first | exact Pu.fb ty_fa58_3 | exact Pu.fe ty_fa58_3) ?_
    refine TL.p (by first | exact Pu.fb ty_fa47_1 | exact Pu.fe ty_fa47_1) ?_
    refine TL.p (Pu.ld ty_sc3) ?_
    refine TL.p Pu.sb ?_
    refine TL.cr rfl (enters Tryz.func106 rfl rfl) (fun w hw => by
        exact part_any _ _ _ (by omega) (by omega)) ?_
    refine TL.p Pu.mv ?_
    refine TL.p Pu.ex ?_
    refine TL.p Pu.ex ?_
    refine TL.p (by first | exact Pu.fb ty_fa47_0 | exact Pu.fe ty_fa47_0) ?_
    first | refine TL.st ty_sz3 ?_ | refine TL.se ty_sz3 ?_
    refine TL.nil ?_
    refine TQ.thenN (hY6 _ _ ?_)
    refine TW.seq fun Y7 hY7 => ?_
    refine TW.region ?_
    refine TL.p (by first | exact Pu.fb ty_fa58_1 | exact Pu.fe ty_fa58_1) ?_
    refine TL.p (by first | exact Pu.fb ty_fa47_1 | exact Pu.fe ty_fa47_1) ?_
    refine TL.p (Pu.ld ty_sc3) ?_
    refine TL.p (by first | exact Pu.fb ty_fa58_3 | exact Pu.fe ty_fa58_3) ?_
    refine TL.p (by first | exact Pu.fb ty_fa47_1 | exact Pu.fe ty_fa47_1) ?_
    refine TL.p (Pu.ld ty_sc3) ?_
    refine TL.cr rfl (enters Tryz.func106 rfl rfl) (fun w hw => by
        exact part_any _ _ _ (by omega) (by omega)) ?_
    refine TL.p Pu.mv ?_
    refine TL.p Pu.ex ?_
    refine TL.p Pu.ex ?_
    refine TL.p (by first | exact Pu.fb ty_fa47_1 | exact Pu.fe ty_fa47_1) ?_
    first | refine TL.st ty_sz3 ?_ | refine TL.se ty_sz3 ?_
    refine TL.nil ?_
    refine TQ.thenN (hY7 _ _ ?_)
    refine TW.seq fun Y8 hY8 => ?_
    refine TW.seq fun Y9 hY9 => ?_
    refine TW.region ?_
    refine TL.p (by first | exact Pu.fb ty_fa58_5 | exact Pu.fe ty_fa58_5) ?_
    refine TL.p (Pu.ld ty_sc3) ?_
    refine TL.p (by first | exact Pu.fb ty_fa58_2 | exact Pu.fe ty_fa58_2) ?_
    refine TL.p (by first | exact Pu.fb ty_fa47_1 | exact Pu.fe ty_fa47_1) ?_
    refine TL.p (Pu.ld ty_sc3) ?_
    refine TL.p Pu.lt ?_
    refine TL.nil ?_
    refine TQ.thenN (hY9 _ _ ?_)
    refine TW.cond rfl (fun hc1 => ?_) (fun hc1 => ?_)
    · try simp only [decide_eq_true_eq, decide_eq_false_iff_not, Bool.not_eq_true', Bool.not_eq_false', Bool.and_eq_true, Bool.or_eq_true, Bool.and_eq_false_iff, Bool.or_eq_false_iff, Int.not_lt, Int.not_le] at hc1
      refine TW.seq fun Y10 hY10 => ?_
      refine TW.rf Drop.done ?_
      refine RF.tk (Pu.lds ty_ag47) ?_
      refine RF.tk (Pu.lds ty_ag47) ?_
      refine RF.ks ?_
      refine RF.ks ?_
      refine RF.ks ?_
      refine RF.go ?_
      refine RG.step fun X4 hX4 => ?_
      first | refine TL.st ty_sz47 ?_ | refine TL.se ty_sz47 ?_
      refine TL.nil ?_
      refine TQ.nxt (hX4 _ _ (by repeat (first | exact HasL.nil | refine HasL.cons (by repeat (first | exact Pick.hd | apply Pick.tl)) ?_)) ?_)
      refine RG.step fun X5 hX5 => ?_
      first | refine TL.st ty_sz47 ?_ | refine TL.se ty_sz47 ?_
      refine TL.nil ?_
      refine TQ.nxt (hX5 _ _ (by repeat (first | exact HasL.nil | refine HasL.cons (by repeat (first | exact Pick.hd | apply Pick.tl)) ?_)) ?_)
      refine RG.step fun X6 hX6 => ?_
      refine TL.p Pu.as ?_
      refine TL.nil ?_
      refine TQ.nxt (hX6 _ _ (by repeat (first | exact HasL.nil | refine HasL.cons (by repeat (first | exact Pick.hd | apply Pick.tl)) ?_)) ?_)
      refine RG.nil ?_
      refine TQ.thenN (hY10 _ _ ?_)
      refine TW.ret ?_
      refine TQ.thenR ?_
      refine TQ.ret Tryz.results75 rfl ((RV.cs ty_ag47 (RV.cs ty_ag47 (.tmp rfl .nil)))) ?_
      exact fun w hw => ⟨by unfold restV; rw [if_neg (by omega), if_neg (by omega), if_pos (by omega)]; rfl, Chg.ext hw.chg⟩
    · try simp only [decide_eq_true_eq, decide_eq_false_iff_not, Bool.not_eq_true', Bool.not_eq_false', Bool.and_eq_true, Bool.or_eq_true, Bool.and_eq_false_iff, Bool.or_eq_false_iff, Int.not_lt, Int.not_le] at hc1
      refine TW.skip ?_
      refine TQ.thenN (hY8 _ _ ?_)
      refine TW.seq fun Y11 hY11 => ?_
      refine TW.region ?_
      refine TL.p (by first | exact Pu.fb ty_fa58_1 | exact Pu.fe ty_fa58_1) ?_
      refine TL.p (by first | exact Pu.fb ty_fa47_1 | exact Pu.fe ty_fa47_1) ?_
      refine TL.p (Pu.ld ty_sc3) ?_
      refine TL.p (by first | exact Pu.fb ty_fa58_3 | exact Pu.fe ty_fa58_3) ?_
      refine TL.p (by first | exact Pu.fb ty_fa47_0 | exact Pu.fe ty_fa47_0) ?_
      refine TL.p (Pu.ld ty_sc3) ?_
      refine TL.p Pu.sb ?_
      refine TL.cr rfl (enters Tryz.func106 rfl rfl) (fun w hw => by
          exact part_any _ _ _ (by omega) (by omega)) ?_
      refine TL.p Pu.mv ?_
      refine TL.p Pu.ex ?_
      refine TL.p Pu.ex ?_
      refine TL.p (by first | exact Pu.fb ty_fa47_1 | exact Pu.fe ty_fa47_1) ?_
      first | refine TL.st ty_sz3 ?_ | refine TL.se ty_sz3 ?_
      refine TL.nil ?_
      refine TQ.thenN (hY11 _ _ ?_)
      refine TW.seq fun Y12 hY12 => ?_
      refine TW.region ?_
      refine TL.p (by first | exact Pu.fb ty_fa58_1 | exact Pu.fe ty_fa58_1) ?_
      refine TL.p (by first | exact Pu.fb ty_fa47_0 | exact Pu.fe ty_fa47_0) ?_
      refine TL.p (Pu.ld ty_sc3) ?_
      refine TL.p (by first | exact Pu.fb ty_fa58_3 | exact Pu.fe ty_fa58_3) ?_
      refine TL.p (by first | exact Pu.fb ty_fa47_0 | exact Pu.fe ty_fa47_0) ?_
      refine TL.p (Pu.ld ty_sc3) ?_
      refine TL.cr rfl (enters Tryz.func106 rfl rfl) (fun w hw => by
          exact part_any _ _ _ (by omega) (by omega)) ?_
      refine TL.p Pu.mv ?_
      refine TL.p Pu.ex ?_
      refine TL.p Pu.ex ?_
      refine TL.p (by first | exact Pu.fb ty_fa47_0 | exact Pu.fe ty_fa47_0) ?_
      first | refine TL.st ty_sz3 ?_ | refine TL.se ty_sz3 ?_
      refine TL.nil ?_
      refine TQ.thenN (hY12 _ _ ?_)
      refine TW.seq fun Y13 hY13 => ?_
      refine TW.rf Drop.done ?_
      refine RF.tk (Pu.lds ty_ag47) ?_
      refine RF.tk (Pu.lds ty_ag47) ?_
      refine RF.ks ?_
      refine RF.ks ?_
      refine RF.ks ?_
      refine RF.go ?_
      refine RG.step fun X7 hX7 => ?_
      first | refine TL.st ty_sz47 ?_ | refine TL.se ty_sz47 ?_
      refine TL.nil ?_
      refine TQ.nxt (hX7 _ _ (by repeat (first | exact HasL.nil | refine HasL.cons (by repeat (first | exact Pick.hd | apply Pick.tl)) ?_)) ?_)
      refine RG.step fun X8 hX8 => ?_
      first | refine TL.st ty_sz47 ?_ | refine TL.se ty_sz47 ?_
      refine TL.nil ?_
      refine TQ.nxt (hX8 _ _ (by repeat (first | exact HasL.nil | refine HasL.cons (by repeat (first | exact Pick.hd | apply Pick.tl)) ?_)) ?_)
      refine RG.step fun X9 hX9 => ?_
      refine TL.p Pu.as ?_
      refine TL.nil ?_
      refine TQ.nxt (hX9 _ _ (by repeat (first | exact HasL.nil | refine HasL.cons (by repeat (first | exact Pick.hd | apply Pick.tl)) ?_)) ?_)
      refine RG.nil ?_
      refine TQ.thenN (hY13 _ _ ?_)
      refine TW.ret ?_
      refine TQ.ret Tryz.results75 rfl ((RV.cs ty_ag47 (RV.cs ty_ag47 (.tmp rfl .nil)))) ?_
      exact fun w hw => ⟨by unfold restV; rw [if_neg (by omega), if_neg (by omega), if_neg (by omega)]; rfl, Chg.ext hw.chg⟩
theorem bale_any (f : Nat → Int) (w : World) (hG : None0 w) (h0 : f 0 = 2) :
    Calls Tryz.prog 77 #[.agg (packL f).toArray] w (Ret w (.tuple (restC (restV f)).toArray)) := by
  refine K_enter (S := []) (K := []) Tryz.func77 rfl Tryz.ntmps77 rfl (Sat.start _) ?_
  refine TW.seq fun Y1 hY1 => ?_
  refine TW.region ?_
  refine TL.m Mk.bx ?_
  intro b1
  refine TL.m (Mk.al ty_zr47) ?_
  intro b2
  refine TL.m (Mk.al ty_zr47) ?_
  intro b3
  refine TL.p Pu.as ?_
  refine TL.nil ?_
  refine TQ.thenN (hY1 _ _ ?_)
  refine TW.seq fun Y2 hY2 => ?_
  refine TW.rf (Drop.blk 2 rfl (by repeat (first | exact Pick.hd | apply Pick.tl)) (Drop.blk 3 rfl (by repeat (first | exact Pick.hd | apply Pick.tl)) Drop.done)) ?_
  refine RF.tk (by first | exact Pu.fb ty_fa58_1 | exact Pu.fe ty_fa58_1) ?_
  refine RF.tk (Pu.lds ty_ag47) ?_
  refine RF.tk (Pu.ldso ty_ag47) ?_
  refine RF.ks ?_
  refine RF.ks ?_
  refine RF.ks ?_
  refine RF.go ?_
  refine RG.step fun X1 hX1 => ?_
  first | refine TL.st ty_sz47 ?_ | refine TL.se ty_sz47 ?_
  refine TL.nil ?_
  refine TQ.nxt (hX1 _ _ (by repeat (first | exact HasL.nil | refine HasL.cons (by repeat (first | exact Pick.hd | apply Pick.tl)) ?_)) ?_)
  refine RG.step fun X2 hX2 => ?_
  first | refine TL.st ty_sz47 ?_ | refine TL.se ty_sz47 ?_
  refine TL.nil ?_
  refine TQ.nxt (hX2 _ _ (by repeat (first | exact HasL.nil | refine HasL.cons (by repeat (first | exact Pick.hd | apply Pick.tl)) ?_)) ?_)
  refine RG.step fun X3 hX3 => ?_
  refine TL.p Pu.as ?_
  refine TL.nil ?_
  refine TQ.nxt (hX3 _ _ (by repeat (first | exact HasL.nil | refine HasL.cons (by repeat (first | exact Pick.hd | apply Pick.tl)) ?_)) ?_)
  refine RG.nil ?_
  refine TQ.thenN (hY2 _ _ ?_)
  refine TW.ret ?_
  refine TQ.ret Tryz.results77 rfl ((RV.cs ty_ag47 (RV.cs ty_ag47 (.tmp rfl .nil)))) ?_
  exact fun w hw => ⟨by unfold restV; rw [if_neg (by omega), if_pos (by omega)]; rfl, Chg.ext hw.chg⟩
set_option maxRecDepth 100000 in
theorem skin_any (f : Nat → Int) (w : World) (hk : packOk f = true) (h0 : f 0 = 3) :
    Calls Tryz.prog 79 #[.agg (packL f).toArray] w (Ret w (.tuple (restC (restV f)).toArray)) := by
  obtain ⟨⟨h1, h2, h3, h4, h5, h6, h7⟩, hkind⟩ := (packOk_iff f).1 hk
  have m1 : 0 ≤ f 7 * f 10 ∧ f 7 * f 10 ≤ 1000000 * 100000 := mulB (by omega) (by omega) (by omega) (by omega)
  have m2 : 0 ≤ f 8 * f 10 ∧ f 8 * f 10 ≤ 1000000 * 100000 := mulB (by omega) (by omega) (by omega) (by omega)
  refine K_enter (S := []) (K := []) Tryz.func79 rfl Tryz.ntmps79 rfl (Sat.start _) ?_
  refine TW.seq fun Y1 hY1 => ?_
  refine TW.region ?_
  refine TL.m Mk.bx ?_
  intro b1
  refine TL.m (Mk.al ty_zr47) ?_
  intro b2
  refine TL.m (Mk.al ty_zr47) ?_
  intro b3
  refine TL.p Pu.as ?_
  refine TL.nil ?_
  refine TQ.thenN (hY1 _ _ ?_)
  refine TW.seq fun Y2 hY2 => ?_
  refine TW.region ?_
  refine TL.p (by first | exact Pu.fb ty_fa58_4 | exact Pu.fe ty_fa58_4) ?_
  refine TL.p (by first | exact Pu.fb ty_fa47_0 | exact Pu.fe ty_fa47_0) ?_
  refine TL.p (Pu.ld ty_sc3) ?_
  refine TL.p (by first | exact Pu.fb ty_fa58_6 | exact Pu.fe ty_fa58_6) ?_
  refine TL.p (Pu.ld ty_sc3) ?_
  refine TL.p Pu.ml ?_
  refine TL.p (by first | exact Pu.fb ty_fa58_4 | exact Pu.fe ty_fa58_4) ?_
  refine TL.p (by first | exact Pu.fb ty_fa47_1 | exact Pu.fe ty_fa47_1) ?_
  refine TL.p (Pu.ld ty_sc3) ?_
  refine TL.p (by first | exact Pu.fb ty_fa58_6 | exact Pu.fe ty_fa58_6) ?_
  refine TL.p (Pu.ld ty_sc3) ?_
  refine TL.p Pu.ml ?_
  refine TL.p Pu.bd ?_
  refine TL.m (Mk.al ty_zr47) ?_
  intro b4
  first | refine TL.st ty_sz47 ?_ | refine TL.se ty_sz47 ?_
  refine TL.nil ?_
  refine TQ.thenN (hY2 _ _ ?_)
  refine TW.seq fun Y3 hY3 => ?_
  refine TW.region ?_
  refine TL.p (by first | exact Pu.fb ty_fa58_1 | exact Pu.fe ty_fa58_1) ?_
  refine TL.p (by first | exact Pu.fb ty_fa47_0 | exact Pu.fe ty_fa47_0) ?_
  refine TL.p (Pu.ld ty_sc3) ?_
  refine TL.p (by first | exact Pu.fb ty_fa47_1 | exact Pu.fe ty_fa47_1) ?_
  refine TL.p (Pu.ld ty_sc3) ?_
  refine TL.p Pu.sb ?_
  refine TL.p Pu.mx ?_
  refine TL.p (by first | exact Pu.fb ty_fa58_1 | exact Pu.fe ty_fa58_1) ?_
  refine TL.p (by first | exact Pu.fb ty_fa47_1 | exact Pu.fe ty_fa47_1) ?_
  refine TL.p (Pu.ld ty_sc3) ?_
  refine TL.p (by first | exact Pu.fb ty_fa47_0 | exact Pu.fe ty_fa47_0) ?_
  refine TL.p (Pu.ld ty_sc3) ?_
  refine TL.p Pu.sb ?_
  refine TL.p Pu.mx ?_
  refine TL.p Pu.bd ?_
  first | refine TL.st ty_sz47 ?_ | refine TL.se ty_sz47 ?_
  refine TL.nil ?_
  refine TQ.thenN (hY3 _ _ ?_)
  refine TW.seq fun Y4 hY4 => ?_
  refine TW.region ?_
  refine TL.p (by first | exact Pu.fb ty_fa58_1 | exact Pu.fe ty_fa58_1) ?_
  refine TL.p (by first | exact Pu.fb ty_fa47_0 | exact Pu.fe ty_fa47_0) ?_
  refine TL.p (Pu.ld ty_sc3) ?_
  refine TL.p (by first | exact Pu.fb ty_fa47_0 | exact Pu.fe ty_fa47_0) ?_
  refine TL.p (Pu.ld ty_sc3) ?_
  refine TL.p Pu.mn ?_
  refine TL.p (by first | exact Pu.fb ty_fa58_1 | exact Pu.fe ty_fa58_1) ?_
  refine TL.p (by first | exact Pu.fb ty_fa47_1 | exact Pu.fe ty_fa47_1) ?_
  refine TL.p (Pu.ld ty_sc3) ?_
  refine TL.p (by first | exact Pu.fb ty_fa47_1 | exact Pu.fe ty_fa47_1) ?_
  refine TL.p (Pu.ld ty_sc3) ?_
  refine TL.p Pu.mn ?_
  refine TL.p Pu.bd ?_
  first | refine TL.st ty_sz47 ?_ | refine TL.se ty_sz47 ?_
  refine TL.nil ?_
  refine TQ.thenN (hY4 _ _ ?_)
  refine TW.seq fun Y5 hY5 => ?_
  refine TW.rf Drop.done ?_
  refine RF.tk (Pu.lds ty_ag47) ?_
  refine RF.tk (Pu.lds ty_ag47) ?_
  refine RF.ks ?_
  refine RF.ks ?_
  refine RF.ks ?_
  refine RF.go ?_
  refine RG.step fun X1 hX1 => ?_
  first | refine TL.st ty_sz47 ?_ | refine TL.se ty_sz47 ?_
  refine TL.nil ?_
  refine TQ.nxt (hX1 _ _ (by repeat (first | exact HasL.nil | refine HasL.cons (by repeat (first | exact Pick.hd | apply Pick.tl)) ?_)) ?_)
  refine RG.step fun X2 hX2 => ?_
  first | refine TL.st ty_sz47 ?_ | refine TL.se ty_sz47 ?_
  refine TL.nil ?_
  refine TQ.nxt (hX2 _ _ (by repeat (first | exact HasL.nil | refine HasL.cons (by repeat (first | exact Pick.hd | apply Pick.tl)) ?_)) ?_)
  refine RG.step fun X3 hX3 => ?_
  refine TL.p Pu.as ?_
  refine TL.nil ?_
  refine TQ.nxt (hX3 _ _ (by repeat (first | exact HasL.nil | refine HasL.cons (by repeat (first | exact Pick.hd | apply Pick.tl)) ?_)) ?_)
  refine RG.nil ?_
  refine TQ.thenN (hY5 _ _ ?_)
  refine TW.ret ?_
  refine TQ.ret Tryz.results79 rfl ((RV.cs ty_ag47 (RV.cs ty_ag47 (.tmp rfl .nil)))) ?_
  exact fun w hw => ⟨by unfold restV; rw [if_pos h0, Int.max_comm 0, Int.max_comm 0]; rfl, Chg.ext hw.chg⟩
def kind1 (f : Nat → Int) : Bool := ordB5 1 100000 (f 3) (f 4) && ordB5 0 1000 (f 5) (f 6) && nilB (f 7) (f 8)
def kind2 (f : Nat → Int) : Bool := nilB (f 3) (f 4) && nilB (f 5) (f 6) && nilB (f 7) (f 8)
def kind3 (f : Nat → Int) : Bool := nilB (f 3) (f 4) && nilB (f 5) (f 6) && ordB5 0 1000000 (f 7) (f 8)
theorem sorts1_any (f : Nat → Int) (w : World) (hG : None0 w) : Calls Tryz.prog 74 #[.agg (packL f).toArray] w (Ret w (.bool (kind1 f))) := by
  refine K_enter (S := []) (K := []) Tryz.func74 rfl Tryz.ntmps74 rfl (Sat.start _) ?_
  refine TW.seq fun Y1 hY1 => ?_
  refine TW.region ?_
  refine TL.m Mk.bx ?_
  intro b1
  refine TL.p Pu.as ?_
  refine TL.nil ?_
  refine TQ.thenN (hY1 _ _ ?_)
  refine TW.seq fun Y2 hY2 => ?_
  refine TW.join [(2, .bool (kind1 f))] ?_ (fun hJ1 => ?_)
  · refine TQ.thenN (hY2 _ _ ?_)
    refine TW.ret ?_
    refine TQ.ret Tryz.results74 rfl ((.tmp rfl .nil)) ?_
    exact fun w hw => Ret.of hw
  refine TW.region ?_
  refine TL.p (by first | exact Pu.fb ty_fa58_2 | exact Pu.fe ty_fa58_2) ?_
  refine TL.p (Pu.lds ty_ag47) ?_
  refine TL.cr rfl (enters Tryz.func73 rfl rfl) (fun w hw => by
      exact proper_any _ _ _ _ _) ?_
  refine TL.p Pu.mv ?_
  refine TL.guard (t := 6) rfl (fun hg1 => ?_) (fun hg1 => ?_)
  · refine TL.gd (by first | exact Pu.fb ty_fa58_3 | exact Pu.fe ty_fa58_3) ?_
    refine TL.gd (Pu.lds ty_ag47) ?_
    refine TL.cr rfl (enters Tryz.func73 rfl rfl) (fun w hw => by
        exact proper_any _ _ _ _ _) ?_
    refine TL.p Pu.kt ?_
    refine TL.p Pu.mv ?_
    refine TL.guard (t := 11) rfl (fun hg2 => ?_) (fun hg2 => ?_)
    · refine TL.gd (by first | exact Pu.fb ty_fa58_4 | exact Pu.fe ty_fa58_4) ?_
      refine TL.gd (Pu.lds ty_ag47) ?_
      refine TL.gd (Pu.ldso ty_ag47) ?_
      refine TL.gd (Pu.q2 ty_q2_47) ?_
      refine TL.p Pu.kt ?_
      refine TL.p Pu.as ?_
      refine TL.nil ?_
      exact TQ.sub (by repeat (first | exact trivial | refine ⟨rfl, ?_⟩ | refine ⟨trivial, ?_⟩ | refine ⟨(by show some (Value.bool _) = some (Value.bool _); simp [hg1, hg2, kind1, nilB]), ?_⟩)) (by repeat (first | exact KSub.nil | refine KSub.cons (by repeat (first | exact Pick.hd | apply Pick.tl)) ?_)) hJ1
    · refine TL.gs ?_
      refine TL.gs ?_
      refine TL.gs ?_
      refine TL.gs ?_
      refine TL.p Pu.kf ?_
      refine TL.p Pu.as ?_
      refine TL.nil ?_
      exact TQ.sub (by repeat (first | exact trivial | refine ⟨rfl, ?_⟩ | refine ⟨trivial, ?_⟩ | refine ⟨(by show some (Value.bool _) = some (Value.bool _); simp [hg1, hg2, kind1, nilB]), ?_⟩)) (by repeat (first | exact KSub.nil | refine KSub.cons (by repeat (first | exact Pick.hd | apply Pick.tl)) ?_)) hJ1
  · refine TL.gs ?_
    refine TL.gs ?_
    refine TL.gs ?_
    refine TL.p Pu.kf ?_
    refine TL.p Pu.mv ?_
    refine TL.gs ?_
    refine TL.gs ?_
    refine TL.gs ?_
    refine TL.gs ?_
    refine TL.p Pu.kf ?_
    refine TL.p Pu.as ?_
    refine TL.nil ?_
    exact TQ.sub (by repeat (first | exact trivial | refine ⟨rfl, ?_⟩ | refine ⟨trivial, ?_⟩ | refine ⟨(by show some (Value.bool _) = some (Value.bool _); simp [hg1, kind1, nilB]), ?_⟩)) (by repeat (first | exact KSub.nil | refine KSub.cons (by repeat (first | exact Pick.hd | apply Pick.tl)) ?_)) hJ1
theorem sorts2_any (f : Nat → Int) (w : World) (hG : None0 w) : Calls Tryz.prog 76 #[.agg (packL f).toArray] w (Ret w (.bool (kind2 f))) := by
  refine K_enter (S := []) (K := []) Tryz.func76 rfl Tryz.ntmps76 rfl (Sat.start _) ?_
  refine TW.seq fun Y1 hY1 => ?_
  refine TW.region ?_
  refine TL.m Mk.bx ?_
  intro b1
  refine TL.p Pu.as ?_
  refine TL.nil ?_
  refine TQ.thenN (hY1 _ _ ?_)
  refine TW.seq fun Y2 hY2 => ?_
  refine TW.join [(2, .bool (kind2 f))] ?_ (fun hJ1 => ?_)
  · refine TQ.thenN (hY2 _ _ ?_)
    refine TW.ret ?_
    refine TQ.ret Tryz.results76 rfl ((.tmp rfl .nil)) ?_
    exact fun w hw => Ret.of hw
  refine TW.region ?_
  refine TL.p (by first | exact Pu.fb ty_fa58_2 | exact Pu.fe ty_fa58_2) ?_
  refine TL.p (Pu.lds ty_ag47) ?_
  refine TL.p (Pu.ldso ty_ag47) ?_
  refine TL.p (Pu.q2 ty_q2_47) ?_
  refine TL.p Pu.mv ?_
  refine TL.guard (t := 7) rfl (fun hg1 => ?_) (fun hg1 => ?_)
  · refine TL.gd (by first | exact Pu.fb ty_fa58_3 | exact Pu.fe ty_fa58_3) ?_
    refine TL.gd (Pu.lds ty_ag47) ?_
    refine TL.gd (Pu.ldso ty_ag47) ?_
    refine TL.gd (Pu.q2 ty_q2_47) ?_
    refine TL.p Pu.kt ?_
    refine TL.p Pu.mv ?_
    refine TL.guard (t := 13) rfl (fun hg2 => ?_) (fun hg2 => ?_)
    · refine TL.gd (by first | exact Pu.fb ty_fa58_4 | exact Pu.fe ty_fa58_4) ?_
      refine TL.gd (Pu.lds ty_ag47) ?_
      refine TL.gd (Pu.ldso ty_ag47) ?_
      refine TL.gd (Pu.q2 ty_q2_47) ?_
      refine TL.p Pu.kt ?_
      refine TL.p Pu.as ?_
      refine TL.nil ?_
      exact TQ.sub (by repeat (first | exact trivial | refine ⟨rfl, ?_⟩ | refine ⟨trivial, ?_⟩ | refine ⟨(by show some (Value.bool _) = some (Value.bool _); simp [hg1, hg2, kind2, nilB]), ?_⟩)) (by repeat (first | exact KSub.nil | refine KSub.cons (by repeat (first | exact Pick.hd | apply Pick.tl)) ?_)) hJ1
    · refine TL.gs ?_
      refine TL.gs ?_
      refine TL.gs ?_
      refine TL.gs ?_
      refine TL.p Pu.kf ?_
      refine TL.p Pu.as ?_
      refine TL.nil ?_
      exact TQ.sub (by repeat (first | exact trivial | refine ⟨rfl, ?_⟩ | refine ⟨trivial, ?_⟩ | refine ⟨(by show some (Value.bool _) = some (Value.bool _); simp [hg1, hg2, kind2, nilB]), ?_⟩)) (by repeat (first | exact KSub.nil | refine KSub.cons (by repeat (first | exact Pick.hd | apply Pick.tl)) ?_)) hJ1
  · refine TL.gs ?_
    refine TL.gs ?_
    refine TL.gs ?_
    refine TL.gs ?_
    refine TL.p Pu.kf ?_
    refine TL.p Pu.mv ?_
    refine TL.gs ?_
    refine TL.gs ?_
    refine TL.gs ?_
    refine TL.gs ?_
    refine TL.p Pu.kf ?_
    refine TL.p Pu.as ?_
    refine TL.nil ?_
    exact TQ.sub (by repeat (first | exact trivial | refine ⟨rfl, ?_⟩ | refine ⟨trivial, ?_⟩ | refine ⟨(by show some (Value.bool _) = some (Value.bool _); simp [hg1, kind2, nilB]), ?_⟩)) (by repeat (first | exact KSub.nil | refine KSub.cons (by repeat (first | exact Pick.hd | apply Pick.tl)) ?_)) hJ1
theorem sorts3_any (f : Nat → Int) (w : World) (hG : None0 w) : Calls Tryz.prog 78 #[.agg (packL f).toArray] w (Ret w (.bool (kind3 f))) := by
  refine K_enter (S := []) (K := []) Tryz.func78 rfl Tryz.ntmps78 rfl (Sat.start _) ?_
  refine TW.seq fun Y1 hY1 => ?_
  refine TW.region ?_
  refine TL.m Mk.bx ?_
  intro b1
  refine TL.p Pu.as ?_
  refine TL.nil ?_
  refine TQ.thenN (hY1 _ _ ?_)
  refine TW.seq fun Y2 hY2 => ?_
  refine TW.join [(2, .bool (kind3 f))] ?_ (fun hJ1 => ?_)
  · refine TQ.thenN (hY2 _ _ ?_)
    refine TW.ret ?_
    refine TQ.ret Tryz.results78 rfl ((.tmp rfl .nil)) ?_
    exact fun w hw => Ret.of hw
  refine TW.region ?_
  refine TL.p (by first | exact Pu.fb ty_fa58_2 | exact Pu.fe ty_fa58_2) ?_
  refine TL.p (Pu.lds ty_ag47) ?_
  refine TL.p (Pu.ldso ty_ag47) ?_
  refine TL.p (Pu.q2 ty_q2_47) ?_
  refine TL.p Pu.mv ?_
  refine TL.guard (t := 7) rfl (fun hg1 => ?_) (fun hg1 => ?_)
  · refine TL.gd (by first | exact Pu.fb ty_fa58_3 | exact Pu.fe ty_fa58_3) ?_
    refine TL.gd (Pu.lds ty_ag47) ?_
    refine TL.gd (Pu.ldso ty_ag47) ?_
    refine TL.gd (Pu.q2 ty_q2_47) ?_
    refine TL.p Pu.kt ?_
    refine TL.p Pu.mv ?_
    refine TL.guard (t := 13) rfl (fun hg2 => ?_) (fun hg2 => ?_)
    · refine TL.gd (by first | exact Pu.fb ty_fa58_4 | exact Pu.fe ty_fa58_4) ?_
      refine TL.gd (Pu.lds ty_ag47) ?_
      refine TL.cr rfl (enters Tryz.func73 rfl rfl) (fun w hw => by
          exact proper_any _ _ _ _ _) ?_
      refine TL.p Pu.kt ?_
      refine TL.p Pu.as ?_
      refine TL.nil ?_
      exact TQ.sub (by repeat (first | exact trivial | refine ⟨rfl, ?_⟩ | refine ⟨trivial, ?_⟩ | refine ⟨(by show some (Value.bool _) = some (Value.bool _); simp [hg1, hg2, kind3, nilB]), ?_⟩)) (by repeat (first | exact KSub.nil | refine KSub.cons (by repeat (first | exact Pick.hd | apply Pick.tl)) ?_)) hJ1
    · refine TL.gs ?_
      refine TL.gs ?_
      refine TL.gs ?_
      refine TL.p Pu.kf ?_
      refine TL.p Pu.as ?_
      refine TL.nil ?_
      exact TQ.sub (by repeat (first | exact trivial | refine ⟨rfl, ?_⟩ | refine ⟨trivial, ?_⟩ | refine ⟨(by show some (Value.bool _) = some (Value.bool _); simp [hg1, hg2, kind3, nilB]), ?_⟩)) (by repeat (first | exact KSub.nil | refine KSub.cons (by repeat (first | exact Pick.hd | apply Pick.tl)) ?_)) hJ1
  · refine TL.gs ?_
    refine TL.gs ?_
    refine TL.gs ?_
    refine TL.gs ?_
    refine TL.p Pu.kf ?_
    refine TL.p Pu.mv ?_
    refine TL.gs ?_
    refine TL.gs ?_
    refine TL.gs ?_
    refine TL.p Pu.kf ?_
    refine TL.p Pu.as ?_
    refine TL.nil ?_
    exact TQ.sub (by repeat (first | exact trivial | refine ⟨rfl, ?_⟩ | refine ⟨trivial, ?_⟩ | refine ⟨(by show some (Value.bool _) = some (Value.bool _); simp [hg1, kind3, nilB]), ?_⟩)) (by repeat (first | exact KSub.nil | refine KSub.cons (by repeat (first | exact Pick.hd | apply Pick.tl)) ?_)) hJ1
def fnV (g : Nat) : Value := .func (.func g) #[] #[]
def sortV (g h : Nat) : Value := .agg #[.func (.func g) #[] #[], .func (.func h) #[] #[]]
def sortsL : List (Int × Value) := [(1, sortV 74 75), (2, sortV 76 77), (3, sortV 78 79)]
theorem sorts_any (w : World) : CallsK Tryz.prog 48 #[] [] w Nat (fun b => .map (some b)) (fun b => [.obj b (mapO .u8 sortsL)]) := by
  refine K_enter (S := []) (K := []) Tryz.func48 rfl Tryz.ntmps48 rfl (Sat.start _) ?_
  refine TW.seq fun Y1 hY1 => ?_
  refine TW.region ?_
  refine TL.p Pu.as ?_
  refine TL.nil ?_
  refine TQ.thenN (hY1 _ _ ?_)
  refine TW.seq fun Y2 hY2 => ?_
  refine TW.region ?_
  refine TL.mm (kk := .u8) ?_
  intro b1
  refine TL.p Pu.bd ?_
  refine TL.mi ty_mp100 ?_
  refine TL.p Pu.bd ?_
  refine TL.mi ty_mp100 ?_
  refine TL.p Pu.bd ?_
  refine TL.mi ty_mp100 ?_
  refine TL.p Pu.mv ?_
  refine TL.p Pu.as ?_
  refine TL.nil ?_
  refine TQ.thenN (hY2 _ _ ?_)
  refine TW.ret ?_
  refine TQ.ret Tryz.results48 rfl ((.tmp rfl .nil)) ?_
  exact fun w hw => ⟨b1, rfl, hw⟩
end Go.Proofs.YtljhdcclajikiaaGreatDoor
namespace Go.Proofs.YtljhdcclajikiaaGreatDoor
set_option linter.all false
set_option linter.unusedVariables false
set_option linter.unusedSimpArgs false
open Go.RowKit
theorem valid_kind (f : Nat → Int) (g h : Nat) (vk : Bool) (w : World) (hG : None0 w) (hl : mlook (f 0) sortsL = some (sortV g h)) (hen : Enters Tryz.prog g) (hg : ∀ w', None0 w' → Calls Tryz.prog g #[.agg (packL f).toArray] w' (Ret w' (.bool vk))) :
    Calls Tryz.prog 47 #[.agg (packL f).toArray] w (Ret w (.bool (vk && ordB5 0 1000000 (f 1) (f 2) && inB5 0 6000000 (f 9) && inB5 0 100000 (f 10)))) := by
  refine K_enter (S := []) (K := []) Tryz.func47 rfl Tryz.ntmps47 rfl (Sat.start _) ?_
  refine TW.seq fun Y1 hY1 => ?_
  refine TW.region ?_
  refine TL.m Mk.bx ?_
  intro b1
  refine TL.p Pu.as ?_
  refine TL.nil ?_
  refine TQ.thenN (hY1 _ _ ?_)
  refine TW.seq fun Y2 hY2 => ?_
  refine TW.expl (fun (⟨bm, x7⟩ : Nat × Nat) => ([(3, .pointer (some ⟨x7, 0, none⟩)), (4, .bool true), (1, .pointer (some ⟨b1, 0, none⟩)), (2, .bool false)] : Fr)) (fun (⟨bm, x7⟩ : Nat × Nat) => [.blk x7 99 [fnV g, fnV h], .blk b1 58 (packL f)]) Drop.done ?_ (fun hE => ?_)
  · rintro ⟨bm, x7⟩
    refine TQ.thenN (hY2 _ _ ?_)
    refine TW.seq fun Y3 hY3 => ?_
    refine TW.join [(2, .bool (vk && ordB5 0 1000000 (f 1) (f 2) && inB5 0 6000000 (f 9) && inB5 0 100000 (f 10)))] ?_ (fun hJ1 => ?_)
    · refine TQ.thenN (hY3 _ _ ?_)
      refine TW.ret ?_
      refine TQ.ret Tryz.results47 rfl ((.tmp rfl .nil)) ?_
      exact fun w hw => Ret.of hw
    refine TW.region ?_
    refine TL.p Pu.mv ?_
    refine TL.p Pu.mv ?_
    refine TL.lit (t := 13) (b' := true) rfl (rfl) ?_
    refine TL.gd (by first | exact Pu.fb ty_fa99_0 | exact Pu.fe ty_fa99_0) ?_
    refine TL.gd (Pu.ld ty_sc95) ?_
    refine TL.gd (Pu.lds ty_ag58) ?_
    refine TL.cv rfl rfl hen (fun w hw => by
        exact hg w (hG.sat hw (by simp))) ?_
    refine TL.p Pu.kt ?_
    refine TL.p Pu.mv ?_
    refine TL.guard (t := 19) rfl (fun hg1 => ?_) (fun hg1 => ?_)
    · refine TL.gd (by first | exact Pu.fb ty_fa58_1 | exact Pu.fe ty_fa58_1) ?_
      refine TL.gd (Pu.lds ty_ag47) ?_
      refine TL.cr rfl (enters Tryz.func73 rfl rfl) (fun w hw => by
          exact proper_any _ _ _ _ _) ?_
      refine TL.p Pu.kt ?_
      refine TL.p Pu.mv ?_
      refine TL.guard (t := 24) rfl (fun hg2 => ?_) (fun hg2 => ?_)
      · refine TL.gd (by first | exact Pu.fb ty_fa58_5 | exact Pu.fe ty_fa58_5) ?_
        refine TL.gd (Pu.ld ty_sc3) ?_
        refine TL.gm Mk.bl ?_
        intro b2
        refine TL.cr rfl (enters Tryz.func41 rfl rfl) (fun w hw => by
            exact inOne_any _ _ _ (hw.holds _ (List.mem_cons_self ..))) ?_
        refine TL.p Pu.kt ?_
        refine TL.p Pu.mv ?_
        refine TL.guard (t := 30) rfl (fun hg3 => ?_) (fun hg3 => ?_)
        · refine TL.gd (by first | exact Pu.fb ty_fa58_6 | exact Pu.fe ty_fa58_6) ?_
          refine TL.gd (Pu.ld ty_sc3) ?_
          refine TL.gm Mk.bl ?_
          intro b3
          refine TL.cr rfl (enters Tryz.func41 rfl rfl) (fun w hw => by
              exact inOne_any _ _ _ (hw.holds _ (List.mem_cons_self ..))) ?_
          refine TL.p Pu.kt ?_
          refine TL.p Pu.as ?_
          refine TL.nil ?_
          exact TQ.sub (by repeat (first | exact trivial | refine ⟨rfl, ?_⟩ | refine ⟨trivial, ?_⟩ | refine ⟨(by show some (Value.bool _) = some (Value.bool _); simp [hg1, hg2, hg3]), ?_⟩)) (by repeat (first | exact KSub.nil | refine KSub.cons (by repeat (first | exact Pick.hd | apply Pick.tl)) ?_)) hJ1
        · refine TL.gs ?_
          refine TL.gs ?_
          refine TL.gs ?_
          refine TL.gs ?_
          refine TL.p Pu.kf ?_
          refine TL.p Pu.as ?_
          refine TL.nil ?_
          exact TQ.sub (by repeat (first | exact trivial | refine ⟨rfl, ?_⟩ | refine ⟨trivial, ?_⟩ | refine ⟨(by show some (Value.bool _) = some (Value.bool _); simp [hg1, hg2, hg3]), ?_⟩)) (by repeat (first | exact KSub.nil | refine KSub.cons (by repeat (first | exact Pick.hd | apply Pick.tl)) ?_)) hJ1
      · refine TL.gs ?_
        refine TL.gs ?_
        refine TL.gs ?_
        refine TL.gs ?_
        refine TL.p Pu.kf ?_
        refine TL.p Pu.mv ?_
        refine TL.gs ?_
        refine TL.gs ?_
        refine TL.gs ?_
        refine TL.gs ?_
        refine TL.p Pu.kf ?_
        refine TL.p Pu.as ?_
        refine TL.nil ?_
        exact TQ.sub (by repeat (first | exact trivial | refine ⟨rfl, ?_⟩ | refine ⟨trivial, ?_⟩ | refine ⟨(by show some (Value.bool _) = some (Value.bool _); simp [hg1, hg2]), ?_⟩)) (by repeat (first | exact KSub.nil | refine KSub.cons (by repeat (first | exact Pick.hd | apply Pick.tl)) ?_)) hJ1
    · refine TL.gs ?_
      refine TL.gs ?_
      refine TL.gs ?_
      refine TL.p Pu.kf ?_
      refine TL.p Pu.mv ?_
      refine TL.gs ?_
      refine TL.gs ?_
      refine TL.gs ?_
      refine TL.gs ?_
      refine TL.p Pu.kf ?_
      refine TL.p Pu.mv ?_
      refine TL.gs ?_
      refine TL.gs ?_
      refine TL.gs ?_
      refine TL.gs ?_
      refine TL.p Pu.kf ?_
      refine TL.p Pu.as ?_
      refine TL.nil ?_
      exact TQ.sub (by repeat (first | exact trivial | refine ⟨rfl, ?_⟩ | refine ⟨trivial, ?_⟩ | refine ⟨(by show some (Value.bool _) = some (Value.bool _); simp [hg1]), ?_⟩)) (by repeat (first | exact KSub.nil | refine KSub.cons (by repeat (first | exact Pick.hd | apply Pick.tl)) ?_)) hJ1
  refine RG.tk 1 rfl (by first | exact Pu.fb ty_fa58_0 | exact Pu.fe ty_fa58_0) ?_
  refine RG.tk 2 rfl (Pu.ld ty_sc5) ?_
  refine RG.a2 0 7 rfl rfl (fun X0 hX0 => ?_) (fun X7 hX7 => ?_)
  · refine TL.call (M := []) rfl (enters Tryz.func48 rfl rfl) (List.Perm.refl _) rfl (fun w hw => by
        exact sorts_any w) ?_
    intro bm
    refine TL.nil ?_
    refine TQ.nxt (hX0 _ _ (by repeat (first | exact HasL.nil | refine HasL.cons (by repeat (first | exact Pick.hd | apply Pick.tl)) ?_)) ?_)
    refine RG.a2 3 7 rfl rfl (fun X3 hX3 => ?_) (fun X7 hX7 => ?_)
    · refine TL.p (Pu.lkS ty_mp100 ty_zv99 hl) ?_
      refine TL.nil ?_
      refine TQ.nxt (hX3 _ _ (by repeat (first | exact HasL.nil | refine HasL.cons (by repeat (first | exact Pick.hd | apply Pick.tl)) ?_)) ?_)
      refine RG.tk 4 rfl Pu.mv ?_
      refine RG.tk 5 rfl Pu.ex ?_
      refine RG.tk 6 rfl Pu.ex ?_
      refine RG.a1 7 rfl (fun X7 hX7 => ?_)
      refine TL.m (Mk.al ty_zr99) ?_
      intro x7
      refine TL.nil ?_
      refine TQ.nxt (hX7 _ _ (by repeat (first | exact HasL.nil | refine HasL.cons (by repeat (first | exact Pick.hd | apply Pick.tl)) ?_)) ?_)
      refine RG.a1 8 rfl (fun X8 hX8 => ?_)
      first | refine TL.st ty_sz99 ?_ | refine TL.se ty_sz99 ?_
      refine TL.nil ?_
      refine TQ.nxt (hX8 _ _ (by repeat (first | exact HasL.nil | refine HasL.cons (by repeat (first | exact Pick.hd | apply Pick.tl)) ?_)) ?_)
      refine RG.tk 9 rfl Pu.as ?_
      exact RG.nil (TQ.sub (by repeat (first | exact trivial | refine ⟨rfl, ?_⟩ | refine ⟨trivial, ?_⟩)) (by repeat (first | exact KSub.nil | refine KSub.cons (by repeat (first | exact Pick.hd | apply Pick.tl)) ?_ | exact KSub.refl _ | refine KSub.drop ?_)) (hE ⟨bm, x7⟩)) (by kernel_rfl)
    · refine TL.m (Mk.al ty_zr99) ?_
      intro x7
      refine TL.nil ?_
      refine TQ.nxt (hX7 _ _ (by repeat (first | exact HasL.nil | refine HasL.cons (by repeat (first | exact Pick.hd | apply Pick.tl)) ?_)) ?_)
      refine RG.a1 3 rfl (fun X3 hX3 => ?_)
      refine TL.p (Pu.lkS ty_mp100 ty_zv99 hl) ?_
      refine TL.nil ?_
      refine TQ.nxt (hX3 _ _ (by repeat (first | exact HasL.nil | refine HasL.cons (by repeat (first | exact Pick.hd | apply Pick.tl)) ?_)) ?_)
      refine RG.tk 4 rfl Pu.mv ?_
      refine RG.tk 5 rfl Pu.ex ?_
      refine RG.tk 6 rfl Pu.ex ?_
      refine RG.a1 8 rfl (fun X8 hX8 => ?_)
      first | refine TL.st ty_sz99 ?_ | refine TL.se ty_sz99 ?_
      refine TL.nil ?_
      refine TQ.nxt (hX8 _ _ (by repeat (first | exact HasL.nil | refine HasL.cons (by repeat (first | exact Pick.hd | apply Pick.tl)) ?_)) ?_)
      refine RG.tk 9 rfl Pu.as ?_
      exact RG.nil (TQ.sub (by repeat (first | exact trivial | refine ⟨rfl, ?_⟩ | refine ⟨trivial, ?_⟩)) (by repeat (first | exact KSub.nil | refine KSub.cons (by repeat (first | exact Pick.hd | apply Pick.tl)) ?_ | exact KSub.refl _ | refine KSub.drop ?_)) (hE ⟨bm, x7⟩)) (by kernel_rfl)
  · refine TL.m (Mk.al ty_zr99) ?_
    intro x7
    refine TL.nil ?_
    refine TQ.nxt (hX7 _ _ (by repeat (first | exact HasL.nil | refine HasL.cons (by repeat (first | exact Pick.hd | apply Pick.tl)) ?_)) ?_)
    refine RG.a1 0 rfl (fun X0 hX0 => ?_)
    refine TL.call (M := []) rfl (enters Tryz.func48 rfl rfl) (List.Perm.refl _) rfl (fun w hw => by
        exact sorts_any w) ?_
    intro bm
    refine TL.nil ?_
    refine TQ.nxt (hX0 _ _ (by repeat (first | exact HasL.nil | refine HasL.cons (by repeat (first | exact Pick.hd | apply Pick.tl)) ?_)) ?_)
    refine RG.a1 3 rfl (fun X3 hX3 => ?_)
    refine TL.p (Pu.lkS ty_mp100 ty_zv99 hl) ?_
    refine TL.nil ?_
    refine TQ.nxt (hX3 _ _ (by repeat (first | exact HasL.nil | refine HasL.cons (by repeat (first | exact Pick.hd | apply Pick.tl)) ?_)) ?_)
    refine RG.tk 4 rfl Pu.mv ?_
    refine RG.tk 5 rfl Pu.ex ?_
    refine RG.tk 6 rfl Pu.ex ?_
    refine RG.a1 8 rfl (fun X8 hX8 => ?_)
    first | refine TL.st ty_sz99 ?_ | refine TL.se ty_sz99 ?_
    refine TL.nil ?_
    refine TQ.nxt (hX8 _ _ (by repeat (first | exact HasL.nil | refine HasL.cons (by repeat (first | exact Pick.hd | apply Pick.tl)) ?_)) ?_)
    refine RG.tk 9 rfl Pu.as ?_
    exact RG.nil (TQ.sub (by repeat (first | exact trivial | refine ⟨rfl, ?_⟩ | refine ⟨trivial, ?_⟩)) (by repeat (first | exact KSub.nil | refine KSub.cons (by repeat (first | exact Pick.hd | apply Pick.tl)) ?_ | exact KSub.refl _ | refine KSub.drop ?_)) (hE ⟨bm, x7⟩)) (by kernel_rfl)
theorem valid_none (f : Nat → Int) (w : World) (hl : mlook (f 0) sortsL = none) :
    Calls Tryz.prog 47 #[.agg (packL f).toArray] w (Ret w (.bool false)) := by
  refine K_enter (S := []) (K := []) Tryz.func47 rfl Tryz.ntmps47 rfl (Sat.start _) ?_
  refine TW.seq fun Y1 hY1 => ?_
  refine TW.region ?_
  refine TL.m Mk.bx ?_
  intro b1
  refine TL.p Pu.as ?_
  refine TL.nil ?_
  refine TQ.thenN (hY1 _ _ ?_)
  refine TW.seq fun Y2 hY2 => ?_
  refine TW.expl (fun (⟨bm, x7⟩ : Nat × Nat) => ([(3, .pointer (some ⟨x7, 0, none⟩)), (4, .bool false), (1, .pointer (some ⟨b1, 0, none⟩)), (2, .bool false)] : Fr)) (fun (⟨bm, x7⟩ : Nat × Nat) => [.blk x7 99 [.nilFunc, .nilFunc], .blk b1 58 (packL f)]) Drop.done ?_ (fun hE => ?_)
  · rintro ⟨bm, x7⟩
    refine TQ.thenN (hY2 _ _ ?_)
    refine TW.seq fun Y3 hY3 => ?_
    refine TW.region ?_
    refine TL.p Pu.mv ?_
    refine TL.p Pu.mv ?_
    refine TL.lit (t := 13) (b' := false) rfl (rfl) ?_
    refine TL.gs ?_
    refine TL.gs ?_
    refine TL.gs ?_
    refine TL.gs ?_
    refine TL.p Pu.kf ?_
    refine TL.p Pu.mv ?_
    refine TL.gs ?_
    refine TL.gs ?_
    refine TL.gs ?_
    refine TL.p Pu.kf ?_
    refine TL.p Pu.mv ?_
    refine TL.gs ?_
    refine TL.gs ?_
    refine TL.gs ?_
    refine TL.gs ?_
    refine TL.p Pu.kf ?_
    refine TL.p Pu.mv ?_
    refine TL.gs ?_
    refine TL.gs ?_
    refine TL.gs ?_
    refine TL.gs ?_
    refine TL.p Pu.kf ?_
    refine TL.p Pu.as ?_
    refine TL.nil ?_
    refine TQ.thenN (hY3 _ _ ?_)
    refine TW.ret ?_
    refine TQ.ret Tryz.results47 rfl ((.tmp rfl .nil)) ?_
    exact fun w hw => Ret.of hw
  refine RG.tk 1 rfl (by first | exact Pu.fb ty_fa58_0 | exact Pu.fe ty_fa58_0) ?_
  refine RG.tk 2 rfl (Pu.ld ty_sc5) ?_
  refine RG.a2 0 7 rfl rfl (fun X0 hX0 => ?_) (fun X7 hX7 => ?_)
  · refine TL.call (M := []) rfl (enters Tryz.func48 rfl rfl) (List.Perm.refl _) rfl (fun w hw => by
        exact sorts_any w) ?_
    intro bm
    refine TL.nil ?_
    refine TQ.nxt (hX0 _ _ (by repeat (first | exact HasL.nil | refine HasL.cons (by repeat (first | exact Pick.hd | apply Pick.tl)) ?_)) ?_)
    refine RG.a2 3 7 rfl rfl (fun X3 hX3 => ?_) (fun X7 hX7 => ?_)
    · refine TL.p (Pu.lkN ty_mp100 ty_zv99 hl) ?_
      refine TL.nil ?_
      refine TQ.nxt (hX3 _ _ (by repeat (first | exact HasL.nil | refine HasL.cons (by repeat (first | exact Pick.hd | apply Pick.tl)) ?_)) ?_)
      refine RG.tk 4 rfl Pu.mv ?_
      refine RG.tk 5 rfl Pu.ex ?_
      refine RG.tk 6 rfl Pu.ex ?_
      refine RG.a1 7 rfl (fun X7 hX7 => ?_)
      refine TL.m (Mk.al ty_zr99) ?_
      intro x7
      refine TL.nil ?_
      refine TQ.nxt (hX7 _ _ (by repeat (first | exact HasL.nil | refine HasL.cons (by repeat (first | exact Pick.hd | apply Pick.tl)) ?_)) ?_)
      refine RG.a1 8 rfl (fun X8 hX8 => ?_)
      first | refine TL.st ty_sz99 ?_ | refine TL.se ty_sz99 ?_
      refine TL.nil ?_
      refine TQ.nxt (hX8 _ _ (by repeat (first | exact HasL.nil | refine HasL.cons (by repeat (first | exact Pick.hd | apply Pick.tl)) ?_)) ?_)
      refine RG.tk 9 rfl Pu.as ?_
      exact RG.nil (TQ.sub (by repeat (first | exact trivial | refine ⟨rfl, ?_⟩ | refine ⟨trivial, ?_⟩)) (by repeat (first | exact KSub.nil | refine KSub.cons (by repeat (first | exact Pick.hd | apply Pick.tl)) ?_ | exact KSub.refl _ | refine KSub.drop ?_)) (hE ⟨bm, x7⟩)) (by kernel_rfl)
    · refine TL.m (Mk.al ty_zr99) ?_
      intro x7
      refine TL.nil ?_
      refine TQ.nxt (hX7 _ _ (by repeat (first | exact HasL.nil | refine HasL.cons (by repeat (first | exact Pick.hd | apply Pick.tl)) ?_)) ?_)
      refine RG.a1 3 rfl (fun X3 hX3 => ?_)
      refine TL.p (Pu.lkN ty_mp100 ty_zv99 hl) ?_
      refine TL.nil ?_
      refine TQ.nxt (hX3 _ _ (by repeat (first | exact HasL.nil | refine HasL.cons (by repeat (first | exact Pick.hd | apply Pick.tl)) ?_)) ?_)
      refine RG.tk 4 rfl Pu.mv ?_
      refine RG.tk 5 rfl Pu.ex ?_
      refine RG.tk 6 rfl Pu.ex ?_
      refine RG.a1 8 rfl (fun X8 hX8 => ?_)
      first | refine TL.st ty_sz99 ?_ | refine TL.se ty_sz99 ?_
      refine TL.nil ?_
      refine TQ.nxt (hX8 _ _ (by repeat (first | exact HasL.nil | refine HasL.cons (by repeat (first | exact Pick.hd | apply Pick.tl)) ?_)) ?_)
      refine RG.tk 9 rfl Pu.as ?_
      exact RG.nil (TQ.sub (by repeat (first | exact trivial | refine ⟨rfl, ?_⟩ | refine ⟨trivial, ?_⟩)) (by repeat (first | exact KSub.nil | refine KSub.cons (by repeat (first | exact Pick.hd | apply Pick.tl)) ?_ | exact KSub.refl _ | refine KSub.drop ?_)) (hE ⟨bm, x7⟩)) (by kernel_rfl)
  · refine TL.m (Mk.al ty_zr99) ?_
    intro x7
    refine TL.nil ?_
    refine TQ.nxt (hX7 _ _ (by repeat (first | exact HasL.nil | refine HasL.cons (by repeat (first | exact Pick.hd | apply Pick.tl)) ?_)) ?_)
    refine RG.a1 0 rfl (fun X0 hX0 => ?_)
    refine TL.call (M := []) rfl (enters Tryz.func48 rfl rfl) (List.Perm.refl _) rfl (fun w hw => by
        exact sorts_any w) ?_
    intro bm
    refine TL.nil ?_
    refine TQ.nxt (hX0 _ _ (by repeat (first | exact HasL.nil | refine HasL.cons (by repeat (first | exact Pick.hd | apply Pick.tl)) ?_)) ?_)
    refine RG.a1 3 rfl (fun X3 hX3 => ?_)
    refine TL.p (Pu.lkN ty_mp100 ty_zv99 hl) ?_
    refine TL.nil ?_
    refine TQ.nxt (hX3 _ _ (by repeat (first | exact HasL.nil | refine HasL.cons (by repeat (first | exact Pick.hd | apply Pick.tl)) ?_)) ?_)
    refine RG.tk 4 rfl Pu.mv ?_
    refine RG.tk 5 rfl Pu.ex ?_
    refine RG.tk 6 rfl Pu.ex ?_
    refine RG.a1 8 rfl (fun X8 hX8 => ?_)
    first | refine TL.st ty_sz99 ?_ | refine TL.se ty_sz99 ?_
    refine TL.nil ?_
    refine TQ.nxt (hX8 _ _ (by repeat (first | exact HasL.nil | refine HasL.cons (by repeat (first | exact Pick.hd | apply Pick.tl)) ?_)) ?_)
    refine RG.tk 9 rfl Pu.as ?_
    exact RG.nil (TQ.sub (by repeat (first | exact trivial | refine ⟨rfl, ?_⟩ | refine ⟨trivial, ?_⟩)) (by repeat (first | exact KSub.nil | refine KSub.cons (by repeat (first | exact Pick.hd | apply Pick.tl)) ?_ | exact KSub.refl _ | refine KSub.drop ?_)) (hE ⟨bm, x7⟩)) (by kernel_rfl)
theorem valid_any (f : Nat → Int) (w : World) (hG : None0 w) :
    Calls Tryz.prog 47 #[.agg (packL f).toArray] w (Ret w (.bool (packOk f))) := by
  have e1 : f 0 = 1 → packOk f = (kind1 f && ordB5 0 1000000 (f 1) (f 2) && inB5 0 6000000 (f 9) && inB5 0 100000 (f 10)) := fun h => by
    unfold packOk kind1; rw [if_pos h, Bool.eq_iff_iff]; simp only [Bool.and_eq_true]; constructor <;> (intro h; simp only [h, and_self])
  have e2 : f 0 = 2 → packOk f = (kind2 f && ordB5 0 1000000 (f 1) (f 2) && inB5 0 6000000 (f 9) && inB5 0 100000 (f 10)) := fun h => by
    unfold packOk kind2; rw [if_neg (by omega), if_pos h, Bool.eq_iff_iff]; simp only [Bool.and_eq_true]; constructor <;> (intro h; simp only [h, and_self])
  have e3 : f 0 = 3 → packOk f = (kind3 f && ordB5 0 1000000 (f 1) (f 2) && inB5 0 6000000 (f 9) && inB5 0 100000 (f 10)) := fun h => by
    unfold packOk kind3; rw [if_neg (by omega), if_neg (by omega), Bool.eq_iff_iff]; simp only [h, decide_true, Bool.true_and, Bool.and_eq_true]; constructor <;> (intro h; simp only [h, and_self])
  have e4 : f 0 ≠ 1 → f 0 ≠ 2 → f 0 ≠ 3 → packOk f = false := fun h1 h2 h3 => by
    unfold packOk; rw [if_neg h1, if_neg h2]; simp [h3]
  by_cases h1 : f 0 = 1
  · rw [e1 h1]
    exact valid_kind f 74 75 _ w hG (by rw [h1]; rfl) (enters Tryz.func74 rfl rfl) fun w' h' => sorts1_any f w' h'
  · by_cases h2 : f 0 = 2
    · rw [e2 h2]
      exact valid_kind f 76 77 _ w hG (by rw [h2]; rfl) (enters Tryz.func76 rfl rfl) fun w' h' => sorts2_any f w' h'
    · by_cases h3 : f 0 = 3
      · rw [e3 h3]
        exact valid_kind f 78 79 _ w hG (by rw [h3]; rfl) (enters Tryz.func78 rfl rfl) fun w' h' => sorts3_any f w' h'
      · rw [e4 h1 h2 h3]
        exact valid_none f w (by simp [sortsL, mlook, h1, h2, h3])
set_option maxRecDepth 100000 in
theorem rest_kind (f : Nat → Int) (g h : Nat) (w : World) (hG : None0 w) (hk : packOk f = true) (hl : mlook (f 0) sortsL = some (sortV h g)) (hen : Enters Tryz.prog g) (hg : ∀ w', None0 w' → Calls Tryz.prog g #[.agg (packL f).toArray] w' (Ret w' (.tuple (restC (restV f)).toArray))) :
    Calls Tryz.prog 14 #[.agg (packL f).toArray] w (Ret w (.tuple (restK f).toArray)) := by
  refine K_enter (S := []) (K := []) Tryz.func14 rfl Tryz.ntmps14 rfl (Sat.start _) ?_
  refine TW.seq fun Y1 hY1 => ?_
  refine TW.region ?_
  refine TL.m Mk.bx ?_
  intro b1
  refine TL.m (Mk.al ty_zr47) ?_
  intro b2
  refine TL.m (Mk.al ty_zr47) ?_
  intro b3
  refine TL.p Pu.as ?_
  refine TL.p Pu.as ?_
  refine TL.nil ?_
  refine TQ.thenN (hY1 _ _ ?_)
  refine TW.seq fun Y2 hY2 => ?_
  refine TW.seq fun Y3 hY3 => ?_
  refine TW.region ?_
  refine TL.p (Pu.lds ty_ag58) ?_
  refine TL.cr rfl (enters Tryz.func47 rfl rfl) (fun w hw => by
      exact valid_any f w (hG.sat hw (by simp))) ?_
  refine TL.p Pu.no ?_
  refine TL.nil ?_
  refine TQ.thenN (hY3 _ _ ?_)
  refine TW.cond rfl (fun hc0 => ?_) (fun hc0 => ?_)
  · try simp only [decide_eq_true_eq, decide_eq_false_iff_not, Bool.not_eq_true', Bool.not_eq_false', Bool.and_eq_true, Bool.or_eq_true, Bool.and_eq_false_iff, Bool.or_eq_false_iff, Int.not_lt, Int.not_le] at hc0
    have hf0 : packOk f = false := hc0
    exact absurd (hk.symm.trans hf0) (by decide)
  · try simp only [decide_eq_true_eq, decide_eq_false_iff_not, Bool.not_eq_true', Bool.not_eq_false', Bool.and_eq_true, Bool.or_eq_true, Bool.and_eq_false_iff, Bool.or_eq_false_iff, Int.not_lt, Int.not_le] at hc0
    refine TW.skip ?_
    refine TQ.thenN (hY2 _ _ ?_)
    refine TW.seq fun Y4 hY4 => ?_
    refine TW.ex0 (Drop.blk 2 rfl (by repeat (first | exact Pick.hd | apply Pick.tl)) (Drop.blk 3 rfl (by repeat (first | exact Pick.hd | apply Pick.tl)) Drop.done)) ?_
    refine RG.tk 1 rfl (by first | exact Pu.fb ty_fa58_0 | exact Pu.fe ty_fa58_0) ?_
    refine RG.tk 2 rfl (Pu.ld ty_sc5) ?_
    refine RG.tk 5 rfl (Pu.lds ty_ag58) ?_
    refine RG.a1 0 rfl (fun X0 hX0 => ?_)
    refine TL.call (M := []) rfl (enters Tryz.func48 rfl rfl) (List.Perm.refl _) rfl (fun w hw => by
        exact sorts_any w) ?_
    intro bm
    refine TL.nil ?_
    refine TQ.nxt (hX0 _ _ (by repeat (first | exact HasL.nil | refine HasL.cons (by repeat (first | exact Pick.hd | apply Pick.tl)) ?_)) ?_)
    refine RG.a1 3 rfl (fun X3 hX3 => ?_)
    refine TL.p (Pu.l1S ty_mp100 ty_zv99 hl) ?_
    refine TL.nil ?_
    refine TQ.nxt (hX3 _ _ (by repeat (first | exact HasL.nil | refine HasL.cons (by repeat (first | exact Pick.hd | apply Pick.tl)) ?_)) ?_)
    refine RG.tk 4 rfl Pu.fd ?_
    refine RG.a1 6 rfl (fun X6 hX6 => ?_)
    refine TL.cv rfl rfl hen (fun w hw => by
        exact hg w (hG.sat hw (by simp))) ?_
    refine TL.nil ?_
    refine TQ.nxt (hX6 _ _ (by repeat (first | exact HasL.nil | refine HasL.cons (by repeat (first | exact Pick.hd | apply Pick.tl)) ?_)) ?_)
    refine RG.tk 7 rfl Pu.mv ?_
    refine RG.tk 8 rfl Pu.ex ?_
    refine RG.tk 9 rfl Pu.ex ?_
    refine RG.tk 10 rfl Pu.ex ?_
    refine RG.a1 11 rfl (fun X11 hX11 => ?_)
    first | refine TL.st ty_sz47 ?_ | refine TL.se ty_sz47 ?_
    refine TL.nil ?_
    refine TQ.nxt (hX11 _ _ (by repeat (first | exact HasL.nil | refine HasL.cons (by repeat (first | exact Pick.hd | apply Pick.tl)) ?_)) ?_)
    refine RG.a1 12 rfl (fun X12 hX12 => ?_)
    first | refine TL.st ty_sz47 ?_ | refine TL.se ty_sz47 ?_
    refine TL.nil ?_
    refine TQ.nxt (hX12 _ _ (by repeat (first | exact HasL.nil | refine HasL.cons (by repeat (first | exact Pick.hd | apply Pick.tl)) ?_)) ?_)
    refine RG.tk 13 rfl Pu.as ?_
    refine RG.nil ?_ (by kernel_rfl)
    refine TQ.thenN (hY4 _ _ ?_)
    refine TW.seq fun Y5 hY5 => ?_
    refine TW.rf Drop.done ?_
    refine RF.tk (Pu.lds ty_ag47) ?_
    refine RF.tk (Pu.lds ty_ag47) ?_
    refine RF.tk Pu.mv ?_
    refine RF.ks ?_
    refine RF.ks ?_
    refine RF.ks ?_
    refine RF.ks ?_
    refine RF.go ?_
    refine RG.step fun X1 hX1 => ?_
    first | refine TL.st ty_sz47 ?_ | refine TL.se ty_sz47 ?_
    refine TL.nil ?_
    refine TQ.nxt (hX1 _ _ (by repeat (first | exact HasL.nil | refine HasL.cons (by repeat (first | exact Pick.hd | apply Pick.tl)) ?_)) ?_)
    refine RG.step fun X2 hX2 => ?_
    first | refine TL.st ty_sz47 ?_ | refine TL.se ty_sz47 ?_
    refine TL.nil ?_
    refine TQ.nxt (hX2 _ _ (by repeat (first | exact HasL.nil | refine HasL.cons (by repeat (first | exact Pick.hd | apply Pick.tl)) ?_)) ?_)
    refine RG.step fun X3 hX3 => ?_
    refine TL.p Pu.as ?_
    refine TL.nil ?_
    refine TQ.nxt (hX3 _ _ (by repeat (first | exact HasL.nil | refine HasL.cons (by repeat (first | exact Pick.hd | apply Pick.tl)) ?_)) ?_)
    refine RG.step fun X4 hX4 => ?_
    refine TL.p Pu.as ?_
    refine TL.nil ?_
    refine TQ.nxt (hX4 _ _ (by repeat (first | exact HasL.nil | refine HasL.cons (by repeat (first | exact Pick.hd | apply Pick.tl)) ?_)) ?_)
    refine RG.nil ?_
    refine TQ.thenN (hY5 _ _ ?_)
    refine TW.ret ?_
    refine TQ.ret Tryz.results14 rfl ((RV.cs ty_ag47 (RV.cs ty_ag47 (.tmp rfl (.tmp rfl .nil))))) ?_
    exact fun w hw => ⟨by unfold restK; rw [hk]; rfl, Chg.ext hw.chg⟩
set_option maxRecDepth 100000 in
theorem rest_no (f : Nat → Int) (w : World) (hG : None0 w) (hk : packOk f = false) :
    Calls Tryz.prog 14 #[.agg (packL f).toArray] w (Ret w (.tuple (restK f).toArray)) := by
  refine K_enter (S := []) (K := []) Tryz.func14 rfl Tryz.ntmps14 rfl (Sat.start _) ?_
  refine TW.seq fun Y1 hY1 => ?_
  refine TW.region ?_
  refine TL.m Mk.bx ?_
  intro b1
  refine TL.m (Mk.al ty_zr47) ?_
  intro b2
  refine TL.m (Mk.al ty_zr47) ?_
  intro b3
  refine TL.p Pu.as ?_
  refine TL.p Pu.as ?_
  refine TL.nil ?_
  refine TQ.thenN (hY1 _ _ ?_)
  refine TW.seq fun Y2 hY2 => ?_
  refine TW.seq fun Y3 hY3 => ?_
  refine TW.region ?_
  refine TL.p (Pu.lds ty_ag58) ?_
  refine TL.cr rfl (enters Tryz.func47 rfl rfl) (fun w hw => by
      exact valid_any f w (hG.sat hw (by simp))) ?_
  refine TL.p Pu.no ?_
  refine TL.nil ?_
  refine TQ.thenN (hY3 _ _ ?_)
  refine TW.condT rfl ((by rw [hk]; rfl)) ?_
  refine TW.seq fun Y4 hY4 => ?_
  refine TW.rf (Drop.blk 2 rfl (by repeat (first | exact Pick.hd | apply Pick.tl)) (Drop.blk 3 rfl (by repeat (first | exact Pick.hd | apply Pick.tl)) Drop.done)) ?_
  refine RF.tk (Pu.ldso ty_ag47) ?_
  refine RF.tk (Pu.ldso ty_ag47) ?_
  refine RF.ks ?_
  refine RF.ks ?_
  refine RF.ks ?_
  refine RF.ks ?_
  refine RF.go ?_
  refine RG.step fun X1 hX1 => ?_
  first | refine TL.st ty_sz47 ?_ | refine TL.se ty_sz47 ?_
  refine TL.nil ?_
  refine TQ.nxt (hX1 _ _ (by repeat (first | exact HasL.nil | refine HasL.cons (by repeat (first | exact Pick.hd | apply Pick.tl)) ?_)) ?_)
  refine RG.step fun X2 hX2 => ?_
  first | refine TL.st ty_sz47 ?_ | refine TL.se ty_sz47 ?_
  refine TL.nil ?_
  refine TQ.nxt (hX2 _ _ (by repeat (first | exact HasL.nil | refine HasL.cons (by repeat (first | exact Pick.hd | apply Pick.tl)) ?_)) ?_)
  refine RG.step fun X3 hX3 => ?_
  refine TL.p Pu.as ?_
  refine TL.nil ?_
  refine TQ.nxt (hX3 _ _ (by repeat (first | exact HasL.nil | refine HasL.cons (by repeat (first | exact Pick.hd | apply Pick.tl)) ?_)) ?_)
  refine RG.step fun X4 hX4 => ?_
  refine TL.p Pu.as ?_
  refine TL.nil ?_
  refine TQ.nxt (hX4 _ _ (by repeat (first | exact HasL.nil | refine HasL.cons (by repeat (first | exact Pick.hd | apply Pick.tl)) ?_)) ?_)
  refine RG.nil ?_
  refine TQ.thenN (hY4 _ _ ?_)
  refine TW.ret ?_
  refine TQ.thenR ?_
  refine TQ.ret Tryz.results14 rfl ((RV.cs ty_ag47 (RV.cs ty_ag47 (.tmp rfl (.tmp rfl .nil))))) ?_
  exact fun w hw => ⟨by unfold restK; rw [hk]; rfl, Chg.ext hw.chg⟩
theorem rest_any (f : Nat → Int) (w : World) (hG : None0 w) :
    Calls Tryz.prog 14 #[.agg (packL f).toArray] w (Ret w (.tuple (restK f).toArray)) := by
  cases hk : packOk f with
  | false => exact rest_no f w hG hk
  | true =>
    rcases ((packOk_iff f).1 hk).2 with h | h | h
    · exact rest_kind f 75 74 w hG hk (by rw [h.1]; rfl) (enters Tryz.func75 rfl rfl) fun w' h' => slab_any f w' h' hk h.1
    · exact rest_kind f 77 76 w hG hk (by rw [h.1]; rfl) (enters Tryz.func77 rfl rfl) fun w' h' => bale_any f w' h' h.1
    · exact rest_kind f 79 78 w hG hk (by rw [h.1]; rfl) (enters Tryz.func79 rfl rfl) fun w' _ => skin_any f w' hk h.1
end Go.Proofs.YtljhdcclajikiaaGreatDoor
namespace Go.Proofs.YtljhdcclajikiaaGreatDoor
set_option linter.all false
set_option linter.unusedVariables false
set_option linter.unusedSimpArgs false
open Go.RowKit
def errV (code : Int) : Value := .iface 29 (.int .i64 code)
def errs (code : Int) : List PanicEntry := [{ v := errV code, recovered := false }]
set_option maxRecDepth 100000 in
theorem catch_idle (b : Nat) (w : World) :
    CallsD Tryz.prog 54 #[.pointer (some ⟨b, 0, none⟩)] .returning w fun e u' w' => e = .returned (.tuple #[]) ∧ u' = .returning ∧ w' = w := by
  refine callsD_of_wpS Tryz.func54 rfl fun c₀ cs hu => ?_
  apply wpS_seq
  apply wpS_region
  simp [wpOpsS, go_sem, recoverD, hu, Tryz.ntmps54, Exit.thenS]
  apply wpS_seq
  apply wpS_region
  simp [wpOpsS, go_sem, Exit.thenS]
  refine wpS_cond (t := false) (by simp [Act.eval, Array.replicate]) ?_
  simp only [Bool.false_eq_true, if_false]
  refine wpS_of_wp (wp_skip ?_)
  cases c₀
  simp_all [bodyPostS, results, Tryz.results54, Exit.thenS]
theorem Pu.ty {c : Cx} {F : Fr} {K : List Fact} {d : Option Tmp} {t ty : TypeId} {pos : String} {af : Array Edge} {g : Option (Nat × Bool)} {x : Operand} {xt : TypeId} {ok : Bool} {u v : Value} (h : ∀ w, (Instr.typeAssert u xt t ok).run c.P w = .ok v w) (hx : ev F x = some u := by rfl) : Pu c F K ⟨d, .typeAssert x xt t ok, ty, pos, af, g⟩ v := fun a w hF _ => by
  simp [execOp, hF.evl hx, h w]
set_option maxRecDepth 100000 in
theorem catch_yes (b : Nat) (code old : Int) (w : World) (hB : Blk w b 29 #[.int .i64 old]) :
    CallsD Tryz.prog 54 #[.pointer (some ⟨b, 0, none⟩)] (.panicking (errs code)) w fun e u' w' => e = .returned (.tuple #[]) ∧ u' = .panicking [{ v := errV code, recovered := true }] ∧ Blk w' b 29 #[.int .i64 code] ∧ Chg [b] w w' := by
  have hA : ∀ w, (Instr.typeAssert (errV code) 20 29 true).run Tryz.prog w = .ok (.tuple #[.int .i64 code, .bool true]) w := fun w => by
    unfold Instr.typeAssert errV
    simp only [Sem.run_bind, run_underlying Tryz.underlying29, Result.andThen_ok, if_true, Sem.run_pure]
  refine callsD_of_wpS Tryz.func54 rfl fun c₀ cs hu => ?_
  have hF := FS.start (n := 16) (args := [.pointer (some ⟨b, 0, none⟩)]) (by simp)
  rw [Tryz.ntmps54]
  generalize ({ tmps := _, defers := [] } : Act) = a0 at *
  have hF1 := hF.put (d := 4) rfl (errV code)
  have hF2 := hF1.put (d := 1) rfl (errV code)
  have h1 : (a0.put (some 4) (errV code)).eval (.tmp 4) = errV code := hF1.evl rfl
  apply wpS_seq
  apply wpS_region
  have h4 : 4 < a0.tmps.size := by rw [hF.size]; decide
  simp [wpOpsS, go_sem, recoverD, hu, errs, h1, h4, Exit.thenS]
  refine wpS_of_wp ?_
  have hS : Sat [b] w [.blk b 29 [.int .i64 old]] w := Sat.one (Chg.refl _ _) (by simp [Fact.foot]) (fun q hq => .inl hq) hB
  refine (show TW ⟨Tryz.prog, 16, [], [b], w⟩ _ _ _ _ from ?_) ((a0.put (some 4) (errV code)).put (some 1) (errV code)) w hF2 hS
  refine TW.seq fun Y1 hY1 => ?_
  refine TW.region ?_
  refine TL.p Pu.mv ?_
  refine TL.p Pu.bn ?_
  refine TL.nil ?_
  refine TQ.thenN (hY1 _ _ ?_)
  refine TW.condT rfl (rfl) ?_
  refine TW.seq fun Y2 hY2 => ?_
  refine TW.region ?_
  refine TL.p Pu.mv ?_
  refine TL.p (Pu.ty hA) ?_
  refine TL.p Pu.mv ?_
  refine TL.p Pu.ex ?_
  refine TL.p Pu.ex ?_
  refine TL.p Pu.as ?_
  refine TL.p Pu.as ?_
  refine TL.nil ?_
  refine TQ.thenN (hY2 _ _ ?_)
  refine TW.seq fun Y3 hY3 => ?_
  refine TW.seq fun Y4 hY4 => ?_
  refine TW.region ?_
  refine TL.p Pu.mv ?_
  refine TL.p Pu.no ?_
  refine TL.nil ?_
  refine TQ.thenN (hY4 _ _ ?_)
  refine TW.condF rfl (rfl) ?_
  refine TW.skip ?_
  refine TQ.thenN (hY3 _ _ ?_)
  refine TW.region ?_
  refine TL.p Pu.mv ?_
  first | refine TL.st ty_sz29 ?_ | refine TL.se ty_sz29 ?_
  refine TL.nil ?_
  exact fun a w hF hK => ⟨hF.dfs, .panicking [{ v := errV code, recovered := true }], rfl, .tuple #[], by simp [results, Tryz.results54], rfl, rfl, hK.holds (.blk b 29 [.int .i64 code]) (by simp), hK.chg⟩
theorem invoke_cl {P : Program} {g : FuncId} {args : List Value} (hen : Enters P g) (cs : List Value) (w : World) : (invoke (.fn (.func g) cs.toArray) args.toArray).run P w = .ok (.enter g (args ++ cs).toArray) w := by
  have h9 := hen (args ++ cs).toArray w
  simp only [invoke, List.append_toArray]
  exact h9
theorem Pick.mid : ∀ (L : List Fact) {φ : Fact} {R : List Fact}, Pick (L ++ φ :: R) φ (L ++ R)
  | [], _, _ => .hd
  | _ :: L, _, _ => .tl (Pick.mid L)
def Doing (P : Program) (g : FuncId) (args : Array Value) (M : List Fact) (X : Type) (L : X → List Fact) (code : Int) (w : World) : Prop := Calls P g args w fun e w' => ∃ x : X, Sat (feet M) w (L x) w' ∧ e = if code = 0 then .returned (.tuple #[]) else .panicked (errs code)
section
variable {c : Cx} {Q : Exit → Act → World → Prop} {F F' : Fr} {K K' K0 : List Fact} {ops : Array Oper} {rest : List Oper} {d : Option Tmp} {ty : TypeId} {pos : String} {af : Array Edge} {g : Option (Nat × Bool)}
theorem TL.dg {f : FuncId} {x : Operand} {xs : List Operand} {ts : Array TypeId} {us fs cs : List Value} {M : List Fact} {X : Type} {L : X → List Fact} {code : Int} (hf : ev F x = some (.func (.func f) fs.toArray cs.toArray)) (hx : evs F xs = some us) (hen : Enters c.P f) (hM : K.Perm (M ++ K'))
    (hc : ∀ w, Sat c.S c.w0 K w → Doing c.P f (fs ++ us ++ cs).toArray M X L code w) (h0 : ∀ x, code = 0 → TL c ops Q rest (fput F d (.tuple #[])) (L x ++ K')) (h1 : ∀ x, code ≠ 0 → TQ c Q (.panic (errs code)) F (L x ++ K')) (hg : gdB F ops g = some true := by rfl) (hd : dok d c.n = true := by rfl) :
    TL c ops Q (⟨d, .call { callee := .value x, args := xs.toArray, argTypes := ts }, ty, pos, af, g⟩ :: rest) F K := fun a w hF hK => by
  unfold wpList
  rw [if_pos (hF.wanted hg)]
  refine .inl ?_
  unfold Oper.wp
  rw [run_callv (hF.evl hf) (hF.evsl hx) hen rfl]
  refine Calls.mono (hc w hK) ?_
  rintro e w' ⟨x, hs, rfl⟩
  by_cases h : code = 0
  · simp only [h, if_true]
    exact h0 x h _ _ (hF.fput hd _) ((hK.perm hM).step hs)
  · simp only [h, if_false]
    exact h1 x h _ _ hF ((hK.perm hM).step hs)
end
set_option maxRecDepth 100000 in
theorem trying_any {g : FuncId} {fs cs : List Value} {M : List Fact} {X : Type} {L : X → List Fact} {code : Int} {w : World} (hen : Enters Tryz.prog g) (hM : Sat (feet M) w M w) (hg : ∀ w', Sat (feet M) w M w' → Doing Tryz.prog g (fs ++ cs).toArray M X L code w') :
    CallsK Tryz.prog 27 #[.func (.func g) fs.toArray cs.toArray] M w X (fun _ => .int .i64 code) L := by
  refine calls_of_wp_defers Tryz.func27 rfl ?_
  rw [Tryz.ntmps27]
  have hF := FS.start (n := 6) (args := [.func (.func g) fs.toArray cs.toArray]) (by simp)
  refine (show TW ⟨Tryz.prog, 6, [], feet M, w⟩ _ _ _ _ from ?_) _ w hF hM
  refine TW.seq fun Y1 hY1 => ?_
  refine TW.region ?_
  refine TL.m (Mk.al ty_zr29) ?_
  intro b1
  refine TL.nil ?_
  refine TQ.thenN (hY1 _ _ ?_)
  intro a2 w2 hF2 hK2
  refine wp_seq ?_
  refine (show TW ⟨Tryz.prog, 6, [], feet M, w⟩ _ _ _ _ from ?_) a2 w2 hF2 hK2
  refine TW.region ?_
  refine TL.p Pu.fn ?_
  intro a3 w3 hF3 hK3
  have hr : (execOp a3.eval { dst := none, op := Go.Op.defer { callee := Go.Callee.value (Go.Operand.tmp 3), args := #[], argTypes := #[] }, type := 0, pos := "load.go:33", after := #[{ on := 0, ground := Go.Ground.data }], guard := none }).run Tryz.prog w3 = .ok (.defer { target := .fn (.func 54) #[.pointer (some ⟨b1, 0, none⟩)], args := #[] }) w3 := by
    simp [execOp, resolve, hF3.evl (show ev _ (.tmp 3) = some (.func (.func 54) #[] #[.pointer (some ⟨b1, 0, none⟩)]) from rfl), Deferred.ofValue]
  refine wpList_plain rfl fun Z hZ => ?_
  unfold Oper.wp
  rw [hr]
  refine hZ _ _ ?_
  have hF4 : FS 6 [{ target := .fn (.func 54) #[.pointer (some ⟨b1, 0, none⟩)], args := #[] }] _ ({ a3 with defers := { target := .fn (.func 54) #[.pointer (some ⟨b1, 0, none⟩)], args := #[] } :: a3.defers } : Act) := ⟨hF3.size, by rw [hF3.dfs], hF3.get⟩
  refine (show TW ⟨Tryz.prog, 6, [{ target := .fn (.func 54) #[.pointer (some ⟨b1, 0, none⟩)], args := #[] }], feet M, w⟩ _ _ _ _ from ?_) _ w3 hF4 hK3
  refine TW.seq fun Y3 hY3 => ?_
  refine TW.region ?_
  refine TL.p Pu.mv ?_
  refine TL.dg (M := M) (X := X) (L := L) (code := code) (K' := [.blk b1 29 [.int .i64 0]]) rfl rfl hen (List.perm_append_comm (l₁ := [_])) (fun w hw => by
      simpa using hg w ((Has.sat ⟨[_], List.perm_append_comm (l₁ := [_])⟩ hw))) (fun x h0 => ?_) (fun x h1 => ?_)
  · refine TL.nil ?_
    refine TQ.thenN (hY3 _ _ ?_)
    refine TW.seq fun Y4 hY4 => ?_
    refine TW.region ?_
    refine TL.st (K' := L x) ty_sz29 ?_ rfl rfl rfl rfl rfl (hp := by
      have : Pick (L x ++ [.blk b1 29 [.int .i64 0]]) (.blk b1 29 [.int .i64 0]) (L x ++ []) := Pick.mid (L x)
      simpa using this)
    refine TL.nil ?_
    refine TQ.thenN (hY4 _ _ ?_)
    refine TW.ret ?_
    intro a5 w5 hF5 hK5
    show Leaves Tryz.prog _ a5.tmps _ a5.defers .returning w5
    rw [hF5.dfs]
    refine leaves_cons (f := 54) (args := #[.pointer (some ⟨b1, 0, none⟩)]) (by simp) (invoke_cl (args := []) (enters Tryz.func54 rfl rfl) [.pointer (some ⟨b1, 0, none⟩)] w5) ?_
    refine (catch_idle b1 w5).mono ?_
    rintro e u' w' ⟨rfl, rfl, rfl⟩
    refine ⟨_, RV.results (c := ⟨Tryz.prog, 6, [_], feet M, w⟩) (vs := [.int .i64 0]) Tryz.results27 (RV.c1 ty_sc29 .nil) hF5 hK5, x, by rw [h0]; rfl, Has.sat ⟨[_], List.perm_append_comm (l₁ := [_])⟩ hK5⟩
  · intro a5 w5 hF5 hK5
    have hK6 := hK5.perm (List.perm_append_comm (l₂ := [_]))
    have hB : Blk w5 b1 29 #[.int .i64 0] := hK6.holds (.blk b1 29 [.int .i64 0]) (by simp)
    show Leaves Tryz.prog _ a5.tmps _ a5.defers (.panicking (errs code)) w5
    rw [hF5.dfs]
    refine leaves_cons (f := 54) (args := #[.pointer (some ⟨b1, 0, none⟩)]) (by simp) (invoke_cl (args := []) (enters Tryz.func54 rfl rfl) [.pointer (some ⟨b1, 0, none⟩)] w5) ?_
    refine (catch_yes b1 code 0 w5 hB).mono ?_
    rintro e u' w' ⟨rfl, rfl, hB', hc⟩
    have hK7 : Sat (feet M) w (.blk b1 29 [.int .i64 code] :: L x) w' := Sat.turn (φ' := .blk b1 29 [.int .i64 code]) hK6 hc (by simp [Fact.foot]) (fun q hq => .inl hq) hB'
    refine ⟨_, RV.results (c := ⟨Tryz.prog, 6, [_], feet M, w⟩) (vs := [.int .i64 code]) Tryz.results27 (RV.c1 ty_sc29 .nil) hF5 hK7, x, rfl, Has.sat ⟨[_], List.perm_append_comm (l₁ := [_])⟩ hK7⟩
end Go.Proofs.YtljhdcclajikiaaGreatDoor
namespace Go.Proofs.YtljhdcclajikiaaGreatDoor
set_option linter.all false
set_option linter.unusedVariables false
set_option linter.unusedSimpArgs false
open Go.RowKit
theorem Chg.trans' {S : List Nat} {a b c : World} (k : Chg S b c) (h : Chg S a b) : Chg S a c := h.trans k
theorem everyInt1_any {g : FuncId} {fs cs : List Value} {b : Nat} {u : Value} {p : Bool} {M L : List Fact} {w : World} (hen : Enters Tryz.prog g) (hb : OldB w b [.func (.func g) fs.toArray cs.toArray]) (hbM : b ∉ feet M) (hM : Sat (feet M) w M w)
    (hg : ∀ w', Sat (feet M) w M w' → CallsK Tryz.prog g (fs ++ [u] ++ cs).toArray M w' Unit (fun _ => .bool p) (fun _ => L)) :
    CallsK Tryz.prog 112 #[u, .pointer (some ⟨b, 0, none⟩)] M w Unit (fun _ => .bool (!p)) (fun _ => L) := by
  have hAp : Apart (feet M) (some ⟨b, 0, none⟩) := fun q hq => by cases hq; exact hbM
  refine K_enter (args := [u, .pointer (some ⟨b, 0, none⟩)]) (S := feet M) (K := M) Tryz.func112 rfl Tryz.ntmps112 rfl hM ?_
  refine TW.seq fun Y1 hY1 => ?_
  refine TW.region ?_
  refine TL.p Pu.as ?_
  refine TL.nil ?_
  refine TQ.thenN (hY1 _ _ ?_)
  refine TW.seq fun Y2 hY2 => ?_
  refine TW.region ?_
  refine TL.p (by first | exact (Pu.ld ty_sc111) | exact (Pu.ldo ty_sc111)) ?_
  refine TL.p Pu.mv ?_
  refine TL.cvk rfl rfl hen (by rw [List.append_nil]) (fun w hw => by
      exact hg w hw) ?_
  intro _
  refine TL.p Pu.no ?_
  refine TL.p Pu.as ?_
  refine TL.nil ?_
  refine TQ.thenN (hY2 _ _ ?_)
  refine TW.ret ?_
  refine TQ.ret Tryz.results112 rfl ((.tmp rfl .nil)) ?_
  exact fun w hw => ⟨(), rfl, by simpa using hw⟩
theorem everyInt_st {g : FuncId} {fs cs : List Value} {A : Option Addr} {n cp : Nat} {v : Nat → Int} {p : Nat → Bool} {M : Nat → List Fact} {w : World} (hen : Enters Tryz.prog g) (hn : n ≤ 9223372036854775807)
    (hR : RdR w 1 A n (fun k => [.int .i64 (v k)])) (hA : 0 < n → Apart (feet (M 0)) A) (hM : Sat (feet (M 0)) w (M 0) w) (hfe : ∀ k, feet (M k) = feet (M 0))
    (hg : ∀ k, k < n → (∀ j, j < k → p j = true) → ∀ w', Sat (feet (M 0)) w (M k) w' → CallsK Tryz.prog g (fs ++ [Value.int .i64 (v k)] ++ cs).toArray (M k) w' Unit (fun _ => .bool (p k)) (fun _ => M (k + 1))) :
    CallsK Tryz.prog 86 #[.slice A n cp, .func (.func g) fs.toArray cs.toArray] (M 0) w (Fst (fun k => !p k) n) (fun x => .bool (!decide (x.1 < n))) (fun x => M (aft n x.1)) := by
  refine K_enter (S := feet (M 0)) (K := M 0) Tryz.func86 rfl Tryz.ntmps86 rfl hM ?_
  refine TW.seq fun Y1 hY1 => ?_
  refine TW.region ?_
  refine TL.m Mk.bx ?_
  intro b1
  refine TL.p Pu.as ?_
  refine TL.nil ?_
  refine TQ.thenN (hY1 _ _ ?_)
  refine TW.seq fun Y2 hY2 => ?_
  refine TW.region ?_
  refine TL.p Pu.mv ?_
  refine TL.p Pu.fn ?_
  refine TL.call rfl (enters Tryz.func70 rfl rfl) (List.perm_append_comm (l₁ := [_])) rfl (fun w hw => by
      have hB : Blk w b1 _ #[.func (.func g) fs.toArray cs.toArray] := hw.holds _ (List.mem_cons_self ..)
      have hbM : b1 ∉ feet (M 0) := fun hm => (List.nodup_cons.1 (show (b1 :: feet (M 0)).Nodup from hw.nd)).1 hm
      have hw2 : Sat (feet (M 0)) _ (M 0) w := Has.sat ⟨[_], List.perm_append_comm (l₁ := [_])⟩ hw
      refine hasInt_st (p := fun k => !p k) (fs := []) (cs := [.pointer (some ⟨b1, 0, none⟩)]) (enters Tryz.func112 rfl rfl) hn (hR.sat0 hw hA) hA hw2.self hfe (fun k hk hp w' hw' => ?_)
      have h1 : OldB w' b1 [.func (.func g) fs.toArray cs.toArray] := (OldB.of_blk (cs := [_]) hB).sat hw' hbM
      have h2 : Sat (feet (M k)) w' (M k) w' := hw'.self
      refine everyInt1_any (p := p k)  hen h1 (by rw [hfe]; exact hbM) h2 fun w3 hw3 => hg k hk (fun j hj => by simpa using hp j hj) w3 ?_
      exact hw3.from (hw'.chg.trans' hw.chg) (fun q hq => .inl (by rw [← hfe k]; exact hq))) ?_
  intro x
  refine TL.p Pu.no ?_
  refine TL.p Pu.as ?_
  refine TL.nil ?_
  refine TQ.thenN (hY2 _ _ ?_)
  refine TW.ret ?_
  refine TQ.ret Tryz.results86 rfl ((.tmp rfl .nil)) ?_
  exact fun w hw => ⟨x, rfl, Has.sat ⟨[_], List.Perm.refl _⟩ hw⟩
theorem indexPack_any {g : FuncId} {fs cs : List Value} {A : Option Addr} {n cp : Nat} {v : Nat → Nat → Int} {p : Nat → Bool} {M : Nat → List Fact} {w : World} (hen : Enters Tryz.prog g) (hn : n ≤ 9223372036854775807)
    (hR : RdR w 11 A n (fun k => packL (v k))) (hA : 0 < n → Apart (feet (M 0)) A) (hM : Sat (feet (M 0)) w (M 0) w) (hfe : ∀ k, feet (M k) = feet (M 0))
    (hg : ∀ k, k < n → (∀ j, j < k → p j = false) → ∀ w', Sat (feet (M 0)) w (M k) w' → CallsK Tryz.prog g (fs ++ [Value.agg (packL (v k)).toArray] ++ cs).toArray (M k) w' Unit (fun _ => .bool (p k)) (fun _ => M (k + 1))) :
    CallsK Tryz.prog 111 #[.slice A n cp, .func (.func g) fs.toArray cs.toArray] (M 0) w (Fst p n) (fun x => .int .i64 (if x.1 < n then (x.1 : Int) else -1)) (fun x => M (aft n x.1)) := by
  refine K_enter (S := feet (M 0)) (K := M 0) Tryz.func111 rfl Tryz.ntmps111 rfl hM ?_
  refine TW.seq fun Y1 hY1 => ?_
  refine TW.region ?_
  refine TL.p Pu.as ?_
  refine TL.nil ?_
  refine TQ.thenN (hY1 _ _ ?_)
  refine TW.seq fun Y2 hY2 => ?_
  refine TW.seq fun Y3 hY3 => ?_
  refine TW.region ?_
  refine TL.p Pu.mv ?_
  refine TL.p (Pu.ln Tryz.underlying22) ?_
  refine TL.p Pu.mv ?_
  refine TL.nil ?_
  refine TQ.thenN (hY3 _ _ ?_)
  refine TW.block ?_
  refine TW.loop1 (fun (k : Nat) => [(8, .int .i64 (k : Int)), (7, .int .i64 (n : Int)), (0, .slice A n cp), (1, .func (.func g) fs.toArray cs.toArray)]) (fun k => M k) (fun k => k ≤ n ∧ ∀ j, j < k → p j = false) (fun k => n - k) 0 (by repeat (first | exact trivial | refine ⟨rfl, ?_⟩ | refine ⟨trivial, ?_⟩)) ?_ ?_ ?_
  · exact KSub.refl _
  · exact ⟨by omega, fun j hj => by omega⟩
  rintro k ⟨hk, hall⟩ Z0 hZ0
  refine TW.seq fun Y4 hY4 => ?_
  refine TW.region ?_
  refine TL.p Pu.lt ?_
  refine TL.nil ?_
  refine TQ.thenN (hY4 _ _ ?_)
  refine TW.seq fun Y5 hY5 => ?_
  refine TW.cond rfl (fun hc0 => ?_) (fun hc0 => ?_)
  · try simp only [decide_eq_true_eq, decide_eq_false_iff_not, Bool.not_eq_true', Bool.not_eq_false', Bool.and_eq_true, Bool.or_eq_true, Bool.and_eq_false_iff, Bool.or_eq_false_iff, Int.not_lt, Int.not_le] at hc0
    have hkn : k < n := by omega
    have hA := hA (by omega)
    refine TW.skip ?_
    refine TQ.thenN (hY5 _ _ ?_)
    refine TW.seq fun Y6 hY6 => ?_
    refine TW.block ?_
    refine TW.seq fun Y7 hY7 => ?_
    refine TW.region ?_
    refine TL.p Pu.mv ?_
    refine TL.p Pu.as ?_
    refine TL.nil ?_
    refine TQ.thenN (hY7 _ _ ?_)
    refine TW.seq fun Y8 hY8 => ?_
    refine TW.region ?_
    refine TL.p Pu.mv ?_
    refine TL.p Pu.mv ?_
    refine TL.p Pu.mv ?_
    refine TL.p (Pu.el ty_et22) ?_
    refine TL.p (Pu.lds ty_ag58) ?_
    refine TL.cvk rfl rfl hen (by rw [List.append_nil]) (fun w hw => by
        exact hg k (by omega) hall w hw) ?_
    intro _
    refine TL.nil ?_
    refine TQ.thenN (hY8 _ _ ?_)
    refine TW.cond rfl (fun hc1 => ?_) (fun hc1 => ?_)
    · try simp only [decide_eq_true_eq, decide_eq_false_iff_not, Bool.not_eq_true', Bool.not_eq_false', Bool.and_eq_true, Bool.or_eq_true, Bool.and_eq_false_iff, Bool.or_eq_false_iff, Int.not_lt, Int.not_le] at hc1
      refine TW.seq fun Y9 hY9 => ?_
      refine TW.region ?_
      refine TL.p Pu.mv ?_
      refine TL.p Pu.as ?_
      refine TL.nil ?_
      refine TQ.thenN (hY9 _ _ ?_)
      refine TW.ret ?_
      refine TQ.blkR ?_
      refine TQ.thenR ?_
      refine TQ.thenR ?_
      refine TQ.blkR ?_
      refine TQ.thenR ?_
      refine TQ.ret Tryz.results111 rfl ((.tmp rfl .nil)) ?_
      exact fun w hw => ⟨⟨k, by omega, hall, fun _ => hc1⟩, by simp [hkn]; rfl, by simpa [aft, hkn] using hw⟩
    · try simp only [decide_eq_true_eq, decide_eq_false_iff_not, Bool.not_eq_true', Bool.not_eq_false', Bool.and_eq_true, Bool.or_eq_true, Bool.and_eq_false_iff, Bool.or_eq_false_iff, Int.not_lt, Int.not_le] at hc1
      refine TW.skip ?_
      refine TQ.blkN ?_
      refine TQ.thenN (hY6 _ _ ?_)
      refine TW.region ?_
      refine TL.p Pu.ad ?_
      refine TL.p Pu.mv ?_
      refine TL.nil ?_
      refine TQ.thenN (hZ0 (k + 1) _ _ ?_ ?_ (by repeat (first | exact trivial | refine ⟨rfl, ?_⟩ | refine ⟨trivial, ?_⟩)) ?_)
      · refine ⟨by omega, fun j hj => ?_⟩
        by_cases h : j = k
        · subst h; exact hc1
        · exact hall j (by omega)
      · exact (by first | omega | (simp only []; omega) | (simp; omega))
      · rw [List.append_nil]; exact KSub.refl _
  · try simp only [decide_eq_true_eq, decide_eq_false_iff_not, Bool.not_eq_true', Bool.not_eq_false', Bool.and_eq_true, Bool.or_eq_true, Bool.and_eq_false_iff, Bool.or_eq_false_iff, Int.not_lt, Int.not_le] at hc0
    have hkn : k = n := by omega
    refine TW.exit ?_
    refine TQ.thenX ?_
    refine TQ.thenX ?_
    refine TQ.blkX ?_
    refine TQ.thenN (hY2 _ _ ?_)
    refine TW.seq fun Y10 hY10 => ?_
    refine TW.region ?_
    refine TL.p Pu.as ?_
    refine TL.nil ?_
    refine TQ.thenN (hY10 _ _ ?_)
    refine TW.ret ?_
    refine TQ.ret Tryz.results111 rfl ((.tmp rfl .nil)) ?_
    exact fun w hw => ⟨⟨k, by omega, hall, fun h => by omega⟩, by simp [hkn]; rfl, by simpa [aft, hkn] using hw⟩
theorem hasPack_st {g : FuncId} {fs cs : List Value} {A : Option Addr} {n cp : Nat} {v : Nat → Nat → Int} {p : Nat → Bool} {M : Nat → List Fact} {w : World} (hen : Enters Tryz.prog g) (hn : n ≤ 9223372036854775807)
    (hR : RdR w 11 A n (fun k => packL (v k))) (hA : 0 < n → Apart (feet (M 0)) A) (hM : Sat (feet (M 0)) w (M 0) w) (hfe : ∀ k, feet (M k) = feet (M 0))
    (hg : ∀ k, k < n → (∀ j, j < k → p j = false) → ∀ w', Sat (feet (M 0)) w (M k) w' → CallsK Tryz.prog g (fs ++ [Value.agg (packL (v k)).toArray] ++ cs).toArray (M k) w' Unit (fun _ => .bool (p k)) (fun _ => M (k + 1))) :
    CallsK Tryz.prog 84 #[.slice A n cp, .func (.func g) fs.toArray cs.toArray] (M 0) w (Fst p n) (fun x => .bool (decide (x.1 < n))) (fun x => M (aft n x.1)) := by
  refine K_enter (S := feet (M 0)) (K := M 0) Tryz.func84 rfl Tryz.ntmps84 rfl hM ?_
  refine TW.seq fun Y1 hY1 => ?_
  refine TW.region ?_
  refine TL.p Pu.as ?_
  refine TL.nil ?_
  refine TQ.thenN (hY1 _ _ ?_)
  refine TW.seq fun Y2 hY2 => ?_
  refine TW.region ?_
  refine TL.p Pu.mv ?_
  refine TL.p Pu.mv ?_
  refine TL.call rfl (enters Tryz.func111 rfl rfl) (by rw [List.append_nil]) rfl (fun w hw => by
      exact indexPack_any hen hn (hR.sat0 hw hA) hA hw.self hfe (fun k hk hp w' hw' => hg k hk hp w' (hw'.from hw.chg fun _ hb => .inl hb))) ?_
  intro x
  refine TL.p Pu.ge ?_
  refine TL.p Pu.as ?_
  refine TL.nil ?_
  refine TQ.thenN (hY2 _ _ ?_)
  refine TW.ret ?_
  refine TQ.ret Tryz.results84 rfl ((.tmp rfl .nil)) ?_
  exact fun w hw => ⟨x, by by_cases h : x.1 < n <;> simp [retV, h], by simpa using hw⟩
theorem everyPack1_any {g : FuncId} {fs cs : List Value} {b : Nat} {u : Nat → Int} {p : Bool} {M L : List Fact} {w : World} (hen : Enters Tryz.prog g) (hb : OldB w b [.func (.func g) fs.toArray cs.toArray]) (hbM : b ∉ feet M) (hM : Sat (feet M) w M w)
    (hg : ∀ w', Sat (feet M) w M w' → CallsK Tryz.prog g (fs ++ [Value.agg (packL u).toArray] ++ cs).toArray M w' Unit (fun _ => .bool p) (fun _ => L)) :
    CallsK Tryz.prog 85 #[Value.agg (packL u).toArray, .pointer (some ⟨b, 0, none⟩)] M w Unit (fun _ => .bool (!p)) (fun _ => L) := by
  have hAp : Apart (feet M) (some ⟨b, 0, none⟩) := fun q hq => by cases hq; exact hbM
  refine K_enter (args := [Value.agg (packL u).toArray, .pointer (some ⟨b, 0, none⟩)]) (S := feet M) (K := M) Tryz.func85 rfl Tryz.ntmps85 rfl hM ?_
  refine TW.seq fun Y1 hY1 => ?_
  refine TW.region ?_
  refine TL.m Mk.bx ?_
  intro b1
  refine TL.p Pu.as ?_
  refine TL.nil ?_
  refine TQ.thenN (hY1 _ _ ?_)
  refine TW.seq fun Y2 hY2 => ?_
  refine TW.region ?_
  refine TL.p (by first | exact (Pu.ld ty_sc95) | exact (Pu.ldo ty_sc95)) ?_
  refine TL.p (by first | exact (Pu.lds ty_ag58) | exact (Pu.ldso ty_ag58)) ?_
  refine TL.cvk rfl rfl hen (List.perm_append_comm (l₁ := [_])) (fun w hw => by
      exact hg w (Has.sat ⟨[_], List.perm_append_comm (l₁ := [_])⟩ hw)) ?_
  intro _
  refine TL.p Pu.no ?_
  refine TL.p Pu.as ?_
  refine TL.nil ?_
  refine TQ.thenN (hY2 _ _ ?_)
  refine TW.ret ?_
  refine TQ.ret Tryz.results85 rfl ((.tmp rfl .nil)) ?_
  exact fun w hw => ⟨(), rfl, Has.sat ⟨[_], List.Perm.refl _⟩ hw⟩
theorem everyPack_st {g : FuncId} {fs cs : List Value} {A : Option Addr} {n cp : Nat} {v : Nat → Nat → Int} {p : Nat → Bool} {M : Nat → List Fact} {w : World} (hen : Enters Tryz.prog g) (hn : n ≤ 9223372036854775807)
    (hR : RdR w 11 A n (fun k => packL (v k))) (hA : 0 < n → Apart (feet (M 0)) A) (hM : Sat (feet (M 0)) w (M 0) w) (hfe : ∀ k, feet (M k) = feet (M 0))
    (hg : ∀ k, k < n → (∀ j, j < k → p j = true) → ∀ w', Sat (feet (M 0)) w (M k) w' → CallsK Tryz.prog g (fs ++ [Value.agg (packL (v k)).toArray] ++ cs).toArray (M k) w' Unit (fun _ => .bool (p k)) (fun _ => M (k + 1))) :
    CallsK Tryz.prog 55 #[.slice A n cp, .func (.func g) fs.toArray cs.toArray] (M 0) w (Fst (fun k => !p k) n) (fun x => .bool (!decide (x.1 < n))) (fun x => M (aft n x.1)) := by
  refine K_enter (S := feet (M 0)) (K := M 0) Tryz.func55 rfl Tryz.ntmps55 rfl hM ?_
  refine TW.seq fun Y1 hY1 => ?_
  refine TW.region ?_
  refine TL.m Mk.bx ?_
  intro b1
  refine TL.p Pu.as ?_
  refine TL.nil ?_
  refine TQ.thenN (hY1 _ _ ?_)
  refine TW.seq fun Y2 hY2 => ?_
  refine TW.region ?_
  refine TL.p Pu.mv ?_
  refine TL.p Pu.fn ?_
  refine TL.call rfl (enters Tryz.func84 rfl rfl) (List.perm_append_comm (l₁ := [_])) rfl (fun w hw => by
      have hB : Blk w b1 _ #[.func (.func g) fs.toArray cs.toArray] := hw.holds _ (List.mem_cons_self ..)
      have hbM : b1 ∉ feet (M 0) := fun hm => (List.nodup_cons.1 (show (b1 :: feet (M 0)).Nodup from hw.nd)).1 hm
      have hw2 : Sat (feet (M 0)) _ (M 0) w := Has.sat ⟨[_], List.perm_append_comm (l₁ := [_])⟩ hw
      refine hasPack_st (p := fun k => !p k) (fs := []) (cs := [.pointer (some ⟨b1, 0, none⟩)]) (enters Tryz.func85 rfl rfl) hn (hR.sat0 hw hA) hA hw2.self hfe (fun k hk hp w' hw' => ?_)
      have h1 : OldB w' b1 [.func (.func g) fs.toArray cs.toArray] := (OldB.of_blk (cs := [_]) hB).sat hw' hbM
      have h2 : Sat (feet (M k)) w' (M k) w' := hw'.self
      refine everyPack1_any (p := p k) (u := v k) hen h1 (by rw [hfe]; exact hbM) h2 fun w3 hw3 => hg k hk (fun j hj => by simpa using hp j hj) w3 ?_
      exact hw3.from (hw'.chg.trans' hw.chg) (fun q hq => .inl (by rw [← hfe k]; exact hq))) ?_
  intro x
  refine TL.p Pu.no ?_
  refine TL.p Pu.as ?_
  refine TL.nil ?_
  refine TQ.thenN (hY2 _ _ ?_)
  refine TW.ret ?_
  refine TQ.ret Tryz.results55 rfl ((.tmp rfl .nil)) ?_
  exact fun w hw => ⟨x, rfl, Has.sat ⟨[_], List.Perm.refl _⟩ hw⟩
end Go.Proofs.YtljhdcclajikiaaGreatDoor
namespace Go.Proofs.YtljhdcclajikiaaGreatDoor
set_option linter.all false
set_option linter.unusedVariables false
set_option linter.unusedSimpArgs false
open Go.RowKit
theorem grow_any (k : Nat) (w : World) (hk : k ≤ 1000000000) (r : Nat → List Value) :
    CallsK Tryz.prog 92 #[.slice none 0 0, .int .i64 k] [] w (Option Addr × Nat) (fun x => .slice x.1 0 x.2) (fun x => [.own x.1 0 x.2 3 1 r]) := by
  refine K_enter (S := []) (K := []) Tryz.func92 rfl Tryz.ntmps92 rfl (Sat.start _) ?_
  refine TW.seq fun Y1 hY1 => ?_
  refine TW.region ?_
  refine TL.p Pu.as ?_
  refine TL.nil ?_
  refine TQ.thenN (hY1 _ _ ?_)
  refine TW.seq fun Y2 hY2 => ?_
  refine TW.seq fun Y3 hY3 => ?_
  refine TW.region ?_
  refine TL.p Pu.mv ?_
  refine TL.p Pu.lt ?_
  refine TL.nil ?_
  refine TQ.thenN (hY3 _ _ ?_)
  refine TW.condF rfl ((by first | (simp; done) | (simp; omega))) ?_
  refine TW.skip ?_
  refine TQ.thenN (hY2 _ _ ?_)
  refine TW.seq fun Y4 hY4 => ?_
  refine TW.seq fun Y5 hY5 => ?_
  refine TW.region ?_
  refine TL.p Pu.mv ?_
  refine TL.p Pu.mv ?_
  refine TL.p (Pu.cp Tryz.underlying24) ?_
  refine TL.p Pu.mv ?_
  refine TL.p (Pu.ln Tryz.underlying24) ?_
  refine TL.p Pu.sb ?_
  refine TL.p Pu.sb ?_
  refine TL.p Pu.as ?_
  refine TL.nil ?_
  refine TQ.thenN (hY5 _ _ ?_)
  refine TW.seq fun Y6 hY6 => ?_
  refine TW.region ?_
  refine TL.p Pu.mv ?_
  refine TL.p Pu.gt ?_
  refine TL.nil ?_
  refine TQ.thenN (hY6 _ _ ?_)
  refine TW.cond rfl (fun hc1 => ?_) (fun hc1 => ?_)
  · try simp only [decide_eq_true_eq, decide_eq_false_iff_not, Bool.not_eq_true', Bool.not_eq_false', Bool.and_eq_true, Bool.or_eq_true, Bool.and_eq_false_iff, Bool.or_eq_false_iff, Int.not_lt, Int.not_le] at hc1
    refine TW.region ?_
    refine TL.p Pu.mv ?_
    refine TL.p Pu.mv ?_
    refine TL.p (Pu.cp Tryz.underlying24) ?_
    refine TL.p (Pu.sh ty_et24) ?_
    refine TL.p Pu.mv ?_
    refine TL.az (r := r) ty_et24 Tryz.underlying3 ?_
    intro g1 c1 hc1 hm1
    refine TL.p Pu.mv ?_
    refine TL.p (Pu.ln Tryz.underlying24) ?_
    refine TL.p (Pu.sh ty_et24) ?_
    refine TL.p Pu.as ?_
    refine TL.nil ?_
    refine TQ.thenN (hY4 _ _ ?_)
    refine TW.seq fun Y7 hY7 => ?_
    refine TW.region ?_
    refine TL.p Pu.mv ?_
    refine TL.p Pu.as ?_
    refine TL.nil ?_
    refine TQ.thenN (hY7 _ _ ?_)
    refine TW.ret ?_
    refine TQ.ret Tryz.results92 rfl ((.tmp rfl .nil)) ?_
    exact fun w hw => ⟨(some ⟨g1, 0, none⟩, c1), rfl, hw⟩
  · try simp only [decide_eq_true_eq, decide_eq_false_iff_not, Bool.not_eq_true', Bool.not_eq_false', Bool.and_eq_true, Bool.or_eq_true, Bool.and_eq_false_iff, Bool.or_eq_false_iff, Int.not_lt, Int.not_le] at hc1
    refine TW.skip ?_
    refine TQ.thenN (hY4 _ _ ?_)
    refine TW.seq fun Y8 hY8 => ?_
    refine TW.region ?_
    refine TL.p Pu.mv ?_
    refine TL.p Pu.as ?_
    refine TL.nil ?_
    refine TQ.thenN (hY8 _ _ ?_)
    refine TW.ret ?_
    refine TQ.ret Tryz.results92 rfl ((.tmp rfl .nil)) ?_
    exact fun w hw => ⟨(none, 0), rfl, hw.sub (KSub.nilOwn KSub.nil)⟩
def tot (l : Nat → Nat) : Nat → Nat
  | 0 => 0
  | q + 1 => tot l q + l q
def catN (l : Nat → Nat) (s : Nat → Nat → List Value) : Nat → Nat → List Value
  | 0 => fun _ => []
  | q + 1 => catR (tot l q) (catN l s q) (s q)
theorem tot_mono {l : Nat → Nat} {p q : Nat} (h : p ≤ q) : tot l p ≤ tot l q := by
  induction q with
  | zero => have : p = 0 := by omega
            subst this; exact Nat.le_refl _
  | succ q ih =>
    by_cases hp : p = q + 1
    · subst hp; exact Nat.le_refl _
    · have := ih (by omega); simp only [tot]; omega
theorem concat_any {A : Option Addr} {m cp : Nat} {a : Nat → Option Addr} {l c : Nat → Nat} {v : Nat → Nat → Int} {w : World} (hm : m ≤ 1000000000) (ht : tot l m ≤ 1000000000)
    (hR : RdR w 1 A m (fun i => [.slice (a i) (l i) (c i)])) (hI : ∀ i, i < m → RdR w 1 (a i) (l i) (fun k => [.int .i64 (v i k)])) :
    CallsK Tryz.prog 63 #[.slice A m cp] [] w (Option Addr × Nat) (fun x => .slice x.1 (tot l m) x.2) (fun x => [.own x.1 (tot l m) x.2 3 1 (catN l (fun i k => [.int .i64 (v i k)]) m)]) := by
  refine K_enter (S := []) (K := []) Tryz.func63 rfl Tryz.ntmps63 rfl (Sat.start _) ?_
  refine TW.seq fun Y1 hY1 => ?_
  refine TW.region ?_
  refine TL.p Pu.as ?_
  refine TL.nil ?_
  refine TQ.thenN (hY1 _ _ ?_)
  refine TW.seq fun Y2 hY2 => ?_
  refine TW.region ?_
  refine TL.p Pu.as ?_
  refine TL.nil ?_
  refine TQ.thenN (hY2 _ _ ?_)
  refine TW.seq fun Y3 hY3 => ?_
  refine TW.seq fun Y4 hY4 => ?_
  refine TW.region ?_
  refine TL.p Pu.mv ?_
  refine TL.p (Pu.ln Tryz.underlying91) ?_
  refine TL.p Pu.mv ?_
  refine TL.nil ?_
  refine TQ.thenN (hY4 _ _ ?_)
  refine TW.block ?_
  refine TW.loop2 (fun (q : Nat) (z : Int) => [(11, .int .i64 (q : Int)), (10, .int .i64 (m : Int)), (9, .slice A m cp), (0, .slice A m cp), (3, .int .i64 z)]) (fun q z => []) (fun q z => q ≤ m ∧ z = (tot l q : Int)) (fun q z => m - q) 0 _ (by repeat (first | exact trivial | refine ⟨rfl, ?_⟩ | refine ⟨trivial, ?_⟩)) ?_ ?_ ?_
  · exact (by repeat (first | exact KSub.nil | refine KSub.cons (by repeat (first | exact Pick.hd | apply Pick.tl)) ?_))
  · exact ⟨by omega, rfl⟩
  rintro q z ⟨hq, hz⟩ Z0 hZ0
  refine TW.seq fun Y5 hY5 => ?_
  refine TW.region ?_
  refine TL.p Pu.lt ?_
  refine TL.nil ?_
  refine TQ.thenN (hY5 _ _ ?_)
  refine TW.seq fun Y6 hY6 => ?_
  refine TW.cond rfl (fun hc0 => ?_) (fun hc0 => ?_)
  · try simp only [decide_eq_true_eq, decide_eq_false_iff_not, Bool.not_eq_true', Bool.not_eq_false', Bool.and_eq_true, Bool.or_eq_true, Bool.and_eq_false_iff, Bool.or_eq_false_iff, Int.not_lt, Int.not_le] at hc0
    have hqm : q < m := by omega
    have h1 := tot_mono (l := l) (show q + 1 ≤ m by omega)
    simp only [tot] at h1
    refine TW.skip ?_
    refine TQ.thenN (hY6 _ _ ?_)
    refine TW.seq fun Y7 hY7 => ?_
    refine TW.block ?_
    refine TW.seq fun Y8 hY8 => ?_
    refine TW.region ?_
    refine TL.p (Pu.el ty_et91) ?_
    refine TL.p (Pu.ld ty_sc24) ?_
    refine TL.p Pu.as ?_
    refine TL.nil ?_
    refine TQ.thenN (hY8 _ _ ?_)
    refine TW.seq fun Y9 hY9 => ?_
    refine TW.region ?_
    refine TL.p Pu.mv ?_
    refine TL.p Pu.mv ?_
    refine TL.p (Pu.ln Tryz.underlying24) ?_
    refine TL.p Pu.ad ?_
    refine TL.p Pu.as ?_
    refine TL.nil ?_
    refine TQ.thenN (hY9 _ _ ?_)
    refine TW.seq fun Y10 hY10 => ?_
    refine TW.region ?_
    refine TL.p Pu.mv ?_
    refine TL.p Pu.lt ?_
    refine TL.nil ?_
    refine TQ.thenN (hY10 _ _ ?_)
    refine TW.condF rfl ((by first | (simp; done) | (simp; omega))) ?_
    refine TW.skip ?_
    refine TQ.blkN ?_
    refine TQ.thenN (hY7 _ _ ?_)
    refine TW.region ?_
    refine TL.p Pu.ad ?_
    refine TL.p Pu.mv ?_
    refine TL.nil ?_
    refine TQ.thenN (hZ0 (q + 1) _ _ _ ?_ ?_ (by repeat (first | exact trivial | refine ⟨rfl, ?_⟩ | refine ⟨trivial, ?_⟩)) ?_)
    · exact ⟨by omega, by simp only [tot]; omega⟩
    · exact (by first | omega | (simp only []; omega) | (simp; omega))
    · exact (by repeat (first | exact KSub.nil | refine KSub.cons (by repeat (first | exact Pick.hd | apply Pick.tl)) ?_))
  · try simp only [decide_eq_true_eq, decide_eq_false_iff_not, Bool.not_eq_true', Bool.not_eq_false', Bool.and_eq_true, Bool.or_eq_true, Bool.and_eq_false_iff, Bool.or_eq_false_iff, Int.not_lt, Int.not_le] at hc0
    refine TW.exit ?_
    refine TQ.thenX ?_
    refine TQ.thenX ?_
    refine TQ.blkX ?_
    refine TQ.thenN (hY3 _ _ ?_)
    refine TW.seq fun Y11 hY11 => ?_
    refine TW.region ?_
    refine TL.p Pu.mv ?_
    refine TL.call (M := []) rfl (enters Tryz.func92 rfl rfl) (List.Perm.refl _) rfl (fun w hw => by
        obtain rfl : q = m := by omega
        subst hz
        exact grow_any _ w ht (fun _ => [])) ?_
    rintro ⟨A0, c0⟩
    refine TL.p Pu.as ?_
    refine TL.nil ?_
    refine TQ.thenN (hY11 _ _ ?_)
    refine TW.seq fun Y12 hY12 => ?_
    refine TW.seq fun Y13 hY13 => ?_
    refine TW.region ?_
    refine TL.p Pu.mv ?_
    refine TL.p (Pu.ln Tryz.underlying91) ?_
    refine TL.p Pu.mv ?_
    refine TL.nil ?_
    refine TQ.thenN (hY13 _ _ ?_)
    refine TW.block ?_
    refine TW.loop3 (fun (q : Nat) (A1 : Option Addr) (c1 : Nat) => [(27, .int .i64 (q : Int)), (26, .int .i64 (m : Int)), (25, .slice A m cp), (6, .slice A1 (tot l q) c1)]) (fun q A1 c1 => [.own A1 (tot l q) c1 3 1 (catN l (fun i k => [.int .i64 (v i k)]) q)]) (fun q A1 c1 => q ≤ m) (fun q A1 c1 => m - q) 0 _ _ (by repeat (first | exact trivial | refine ⟨rfl, ?_⟩ | refine ⟨trivial, ?_⟩)) ?_ ?_ ?_
    · exact (by repeat (first | exact KSub.nil | refine KSub.cons (by repeat (first | exact Pick.hd | apply Pick.tl)) ?_))
    · exact Nat.zero_le _
    rintro q A1 c1 hq Z1 hZ1
    refine TW.seq fun Y14 hY14 => ?_
    refine TW.region ?_
    refine TL.p Pu.lt ?_
    refine TL.nil ?_
    refine TQ.thenN (hY14 _ _ ?_)
    refine TW.seq fun Y15 hY15 => ?_
    refine TW.cond rfl (fun hc2 => ?_) (fun hc2 => ?_)
    · try simp only [decide_eq_true_eq, decide_eq_false_iff_not, Bool.not_eq_true', Bool.not_eq_false', Bool.and_eq_true, Bool.or_eq_true, Bool.and_eq_false_iff, Bool.or_eq_false_iff, Int.not_lt, Int.not_le] at hc2
      have hqm : q < m := by omega
      have h1 := tot_mono (l := l) (show q + 1 ≤ m by omega)
      simp only [tot] at h1
      have hIq := hI q hqm
      refine TW.skip ?_
      refine TQ.thenN (hY15 _ _ ?_)
      refine TW.seq fun Y16 hY16 => ?_
      refine TW.block ?_
      refine TW.seq fun Y17 hY17 => ?_
      refine TW.region ?_
      refine TL.p (Pu.el ty_et91) ?_
      refine TL.p (Pu.ld ty_sc24) ?_
      refine TL.p Pu.as ?_
      refine TL.nil ?_
      refine TQ.thenN (hY17 _ _ ?_)
      refine TW.region ?_
      refine TL.p Pu.mv ?_
      refine TL.p Pu.mv ?_
      first | refine TL.a0 ty_et24 ?_ | refine TL.ap ty_et24 ?_
      intro A1 c1
      refine TL.p Pu.as ?_
      refine TL.nil ?_
      refine TQ.blkN ?_
      refine TQ.thenN (hY16 _ _ ?_)
      refine TW.region ?_
      refine TL.p Pu.ad ?_
      refine TL.p Pu.mv ?_
      refine TL.nil ?_
      refine TQ.thenN (hZ1 (q + 1) _ _ _ _ ?_ ?_ (by repeat (first | exact trivial | refine ⟨rfl, ?_⟩ | refine ⟨trivial, ?_⟩)) ?_)
      · exact (by omega)
      · exact (by first | omega | (simp only []; omega) | (simp; omega))
      · exact (by repeat (first | exact KSub.nil | refine KSub.cons (by repeat (first | exact Pick.hd | apply Pick.tl)) ?_))
    · try simp only [decide_eq_true_eq, decide_eq_false_iff_not, Bool.not_eq_true', Bool.not_eq_false', Bool.and_eq_true, Bool.or_eq_true, Bool.and_eq_false_iff, Bool.or_eq_false_iff, Int.not_lt, Int.not_le] at hc2
      obtain rfl : q = m := by omega
      refine TW.exit ?_
      refine TQ.thenX ?_
      refine TQ.thenX ?_
      refine TQ.blkX ?_
      refine TQ.thenN (hY12 _ _ ?_)
      refine TW.seq fun Y18 hY18 => ?_
      refine TW.region ?_
      refine TL.p Pu.mv ?_
      refine TL.p Pu.as ?_
      refine TL.nil ?_
      refine TQ.thenN (hY18 _ _ ?_)
      refine TW.ret ?_
      refine TQ.ret Tryz.results63 rfl ((.tmp rfl .nil)) ?_
      exact fun w hw => ⟨(A1, c1), rfl, hw⟩
end Go.Proofs.YtljhdcclajikiaaGreatDoor
namespace Go.Proofs.YtljhdcclajikiaaGreatDoor
set_option linter.all false
set_option linter.unusedVariables false
set_option linter.unusedSimpArgs false
open Go.RowKit
def tieL (a : Nat → Option Addr) (l c : Nat → Nat) : List Value := [.slice (a 0) (l 0) (c 0), .slice (a 1) (l 1) (c 1), .slice (a 2) (l 2) (c 2)]
theorem need_any (b : Bool) (e : Int) (w : World) (he : e ≠ 0) :
    Calls Tryz.prog 40 #[.bool b, .int .i64 e] w (Try w errs (if b then 0 else e) (.tuple #[])) := by
  refine K_enter (S := []) (K := []) Tryz.func40 rfl Tryz.ntmps40 rfl (Sat.start _) ?_
  refine TW.seq fun Y1 hY1 => ?_
  refine TW.region ?_
  refine TL.p Pu.mv ?_
  refine TL.p Pu.no ?_
  refine TL.nil ?_
  refine TQ.thenN (hY1 _ _ ?_)
  refine TW.cond rfl (fun hc0 => ?_) (fun hc0 => ?_)
  · try simp only [decide_eq_true_eq, decide_eq_false_iff_not, Bool.not_eq_true', Bool.not_eq_false', Bool.and_eq_true, Bool.or_eq_true, Bool.and_eq_false_iff, Bool.or_eq_false_iff, Int.not_lt, Int.not_le] at hc0
    have hb : b = false := by simpa using hc0
    refine TW.region ?_
    refine TL.p Pu.mv ?_
    refine TL.p Pu.fc ?_
    refine TL.pn rfl (by intro w; first | (go_simp; done) | (go_simp; rfl)) ?_
    refine TQ.pan rfl ?_
    exact fun w hw => by subst hb; exact Try.no (L := []) (by simp [he]) hw
  · try simp only [decide_eq_true_eq, decide_eq_false_iff_not, Bool.not_eq_true', Bool.not_eq_false', Bool.and_eq_true, Bool.or_eq_true, Bool.and_eq_false_iff, Bool.or_eq_false_iff, Int.not_lt, Int.not_le] at hc0
    refine TW.skip ?_
    refine TQ.end Tryz.results40 rfl (.nil) ?_
    exact fun w hw => by
      have hb : b = true := by simpa using hc0
      subst hb
      exact Try.ok (L := []) rfl hw
theorem all_any {a : Nat → Option Addr} {l c : Nat → Nat} {v : Nat → Nat → Int} {w : World} (ht : tot l 3 ≤ 1000000000) (hI : ∀ i, i < 3 → RdR w 1 (a i) (l i) (fun k => [.int .i64 (v i k)])) :
    CallsK Tryz.prog 44 #[.agg (tieL a l c).toArray] [] w (Option Addr × Nat) (fun x => .slice x.1 (tot l 3) x.2) (fun x => [.own x.1 (tot l 3) x.2 3 1 (catN l (fun i k => [.int .i64 (v i k)]) 3)]) := by
  refine K_enter (S := []) (K := []) Tryz.func44 rfl Tryz.ntmps44 rfl (Sat.start _) ?_
  refine TW.seq fun Y1 hY1 => ?_
  refine TW.region ?_
  refine TL.m Mk.bx ?_
  intro b1
  refine TL.p Pu.as ?_
  refine TL.nil ?_
  refine TQ.thenN (hY1 _ _ ?_)
  refine TW.seq fun Y2 hY2 => ?_
  refine TW.region ?_
  refine TL.p (by first | exact Pu.fb ty_fa34_0 | exact Pu.fe ty_fa34_0) ?_
  refine TL.p (Pu.ld ty_sc24) ?_
  refine TL.p (by first | exact Pu.fb ty_fa34_1 | exact Pu.fe ty_fa34_1) ?_
  refine TL.p (Pu.ld ty_sc24) ?_
  refine TL.p (by first | exact Pu.fb ty_fa34_2 | exact Pu.fe ty_fa34_2) ?_
  refine TL.p (Pu.ld ty_sc24) ?_
  refine TL.m Mk.bl ?_
  intro b2
  refine TL.call (M := []) rfl (enters Tryz.func63 rfl rfl) (List.Perm.refl _) rfl (fun w hw => by
      have hB : Blk w b2 _ (tieL a l c).toArray := hw.holds _ (List.mem_cons_self ..)
      exact concat_any (a := a) (l := l) (c := c) (v := v) (by decide) ht (RdR.blk (n := 3) (cs := tieL a l c) hB rfl (fun i _ => rfl)) (fun i hi => (hI i hi).sat hw Apart.nil)) ?_
  intro x
  refine TL.p Pu.as ?_
  refine TL.nil ?_
  refine TQ.thenN (hY2 _ _ ?_)
  refine TW.ret ?_
  refine TQ.ret Tryz.results44 rfl ((.tmp rfl .nil)) ?_
  exact fun w hw => ⟨x, rfl, hw.sub (KSub.cons Pick.hd KSub.nil)⟩
theorem lists_any (a : Nat → Option Addr) (l c : Nat → Nat) (w : World) :
    Calls Tryz.prog 56 #[.agg (tieL a l c).toArray] w (Ret w (.agg (tieL a l c).toArray)) := by
  refine K_enter (S := []) (K := []) Tryz.func56 rfl Tryz.ntmps56 rfl (Sat.start _) ?_
  refine TW.seq fun Y1 hY1 => ?_
  refine TW.region ?_
  refine TL.m Mk.bx ?_
  intro b1
  refine TL.m (Mk.al ty_zr35) ?_
  intro b2
  refine TL.nil ?_
  refine TQ.thenN (hY1 _ _ ?_)
  refine TW.seq fun Y2 hY2 => ?_
  refine TW.region ?_
  refine TL.p (by first | exact Pu.fb ty_fa34_0 | exact Pu.fe ty_fa34_0) ?_
  refine TL.p (Pu.ld ty_sc24) ?_
  refine TL.p (by first | exact Pu.fb ty_fa34_1 | exact Pu.fe ty_fa34_1) ?_
  refine TL.p (Pu.ld ty_sc24) ?_
  refine TL.p (by first | exact Pu.fb ty_fa34_2 | exact Pu.fe ty_fa34_2) ?_
  refine TL.p (Pu.ld ty_sc24) ?_
  refine TL.p Pu.bd ?_
  first | refine TL.st ty_sz35 ?_ | refine TL.se ty_sz35 ?_
  refine TL.nil ?_
  refine TQ.thenN (hY2 _ _ ?_)
  refine TW.ret ?_
  refine TQ.ret Tryz.results56 rfl ((RV.cs ty_ag35 .nil)) ?_
  exact fun w hw => Ret.of hw
def lastV (v : Nat → Int) : Nat → Int
  | 0 => -1
  | k + 1 => v k
def riseP (v : Nat → Int) (N : Int) (k : Nat) : Bool := inB5 (lastV v k + 1) (N - 1) (v k)
theorem rise_lo {v : Nat → Int} {N : Int} (h3 : 0 ≤ N) : ∀ k, (∀ j, j < k → riseP v N j = true) → -1 ≤ lastV v k ∧ lastV v k ≤ N - 1
  | 0, _ => by simp only [lastV]; omega
  | k + 1, h => by
    have h1 := rise_lo h3 k fun j hj => h j (by omega)
    have h2 := h k (by omega)
    simp only [riseP, inB5, Bool.and_eq_true, decide_eq_true_eq] at h2
    simp only [lastV]
    omega
theorem rising1_any (x last N : Int) (bl bn : Nat) (w : World) (hM : Sat [bl] w [.blk bl 3 [.int .i64 last]] w) (hn : OldB w bn [.int .i64 N]) (hne : bn ≠ bl) (h1 : -1 ≤ last) (h2 : last ≤ 1000000000) (h3 : 0 ≤ N) (h4 : N ≤ 1000000000000) :
    CallsK Tryz.prog 87 #[.int .i64 x, .pointer (some ⟨bl, 0, none⟩), .pointer (some ⟨bn, 0, none⟩)] [.blk bl 3 [.int .i64 last]] w Unit (fun _ => .bool (inB5 (last + 1) (N - 1) x)) (fun _ => [.blk bl 3 [.int .i64 x]]) := by
  have hAp : Apart [bl] (some ⟨bn, 0, none⟩) := fun q hq => by cases hq; simpa using hne
  refine K_enter (args := [.int .i64 x, .pointer (some ⟨bl, 0, none⟩), .pointer (some ⟨bn, 0, none⟩)]) (S := [bl]) (K := [.blk bl 3 [.int .i64 last]]) Tryz.func87 rfl Tryz.ntmps87 rfl hM ?_
  refine TW.seq fun Y1 hY1 => ?_
  refine TW.region ?_
  refine TL.p Pu.as ?_
  refine TL.nil ?_
  refine TQ.thenN (hY1 _ _ ?_)
  refine TW.seq fun Y2 hY2 => ?_
  refine TW.region ?_
  refine TL.p (by first | exact (Pu.ld ty_sc3) | exact (Pu.ldo ty_sc3)) ?_
  refine TL.p Pu.ad ?_
  refine TL.p (by first | exact (Pu.ld ty_sc3) | exact (Pu.ldo ty_sc3)) ?_
  refine TL.p Pu.sb ?_
  refine TL.p Pu.mv ?_
  refine TL.m Mk.bl ?_
  intro b1
  refine TL.cr rfl (enters Tryz.func41 rfl rfl) (fun w hw => by
      exact inOne_any _ _ _ (hw.holds _ (List.mem_cons_self ..))) ?_
  refine TL.p Pu.as ?_
  refine TL.nil ?_
  refine TQ.thenN (hY2 _ _ ?_)
  refine TW.seq fun Y3 hY3 => ?_
  refine TW.region ?_
  refine TL.p Pu.mv ?_
  first | refine TL.st ty_sz3 ?_ | refine TL.se ty_sz3 ?_
  refine TL.nil ?_
  refine TQ.thenN (hY3 _ _ ?_)
  refine TW.seq fun Y4 hY4 => ?_
  refine TW.region ?_
  refine TL.p Pu.mv ?_
  refine TL.p Pu.as ?_
  refine TL.nil ?_
  refine TQ.thenN (hY4 _ _ ?_)
  refine TW.ret ?_
  refine TQ.ret Tryz.results87 rfl ((.tmp rfl .nil)) ?_
  exact fun w hw => ⟨(), rfl, hw.sub (KSub.cons Pick.hd KSub.nil)⟩
theorem rising_any {A : Option Addr} {n cp : Nat} {v : Nat → Int} {N : Int} {w : World} (hn : n ≤ 9223372036854775807) (hR : RdR w 1 A n (fun k => [.int .i64 (v k)])) (h3 : 0 ≤ N) (h4 : N ≤ 1000000000) :
    Calls Tryz.prog 57 #[.slice A n cp, .int .i64 N] w (Ret w (.bool (allB n (riseP v N)))) := by
  refine K_enter (S := []) (K := []) Tryz.func57 rfl Tryz.ntmps57 rfl (Sat.start _) ?_
  refine TW.seq fun Y1 hY1 => ?_
  refine TW.region ?_
  refine TL.m Mk.bx ?_
  intro b1
  refine TL.p Pu.as ?_
  refine TL.nil ?_
  refine TQ.thenN (hY1 _ _ ?_)
  refine TW.seq fun Y2 hY2 => ?_
  refine TW.region ?_
  refine TL.m (Mk.al ty_zr3) ?_
  intro b2
  first | refine TL.st ty_sz3 ?_ | refine TL.se ty_sz3 ?_
  refine TL.nil ?_
  refine TQ.thenN (hY2 _ _ ?_)
  refine TW.seq fun Y3 hY3 => ?_
  refine TW.region ?_
  refine TL.p Pu.mv ?_
  refine TL.p Pu.fn ?_
  refine TL.call rfl (enters Tryz.func86 rfl rfl) (List.Perm.refl _) rfl (fun w hw => by
      have hw2 : Sat [] _ [.blk b2 3 [.int .i64 (-1)]] w := hw.sub (KSub.cons Pick.hd KSub.nil)
      have hB : Blk w b1 3 #[.int .i64 N] := hw.holds (.blk b1 3 [.int .i64 N]) (by simp)
      have hne : b1 ≠ b2 := fun e => by
        have := hw.nd
        simp [feet, Fact.foot, e] at this
      refine everyInt_st (p := riseP v N) (M := fun k => [.blk b2 3 [.int .i64 (lastV v k)]]) (fs := []) (cs := [.pointer (some ⟨b2, 0, none⟩), .pointer (some ⟨b1, 0, none⟩)]) (enters Tryz.func87 rfl rfl) hn (hR.sat hw Apart.nil) (hR.apart fun q hq => (hw2.ge q hq).resolve_left (by simp)) hw2.self (fun _ => rfl) (fun k hk hp w' hw' => ?_)
      · have hlo := rise_lo (N := N) h3 k hp
        refine rising1_any _ _ _ b2 b1 w' hw'.self ((OldB.of_blk (cs := [_]) hB).sat hw' (by simp [feet, Fact.foot, hne])) hne (by omega) (by omega) h3 (by omega)) ?_
  intro x
  refine TL.p Pu.as ?_
  refine TL.nil ?_
  refine TQ.thenN (hY3 _ _ ?_)
  refine TW.ret ?_
  refine TQ.ret Tryz.results57 rfl ((.tmp rfl .nil)) ?_
  exact fun w hw => ⟨ret_bool (by rw [x.any]; show allB n (riseP v N) = !anyB n _; rw [not_anyB]; simp), Chg.ext hw.chg⟩
end Go.Proofs.YtljhdcclajikiaaGreatDoor
