/-
  load: the kinds of packs.
-/
import Derived.Test.YtagcnokaajinlaaDoorLoadD
import Derived.Test.YtagcnokaajinlaaDoorT
namespace Go.Proofs.YtagcnokaajinlaaDoor
set_option linter.all false
set_option linter.unusedVariables false
set_option linter.unusedSimpArgs false
open Go.RowKit
theorem part_any (m t : Int) (w : World) (h0 : 0 ≤ m * t) (h1 : m * t ≤ 1000000000000) :
    Calls Tryd.prog 85 #[.int .i64 m, .int .i64 t] w (Ret w (.tuple #[.int .i64 (m * t / 1000), .int .i64 ((m * t + 999) / 1000)])) := by
  refine K_enter (S := []) (K := []) Tryd.func85 rfl Tryd.ntmps85 rfl (Sat.start _) ?_
  refine TW.seq fun Y1 hY1 => ?_
  refine TW.region ?_
  refine TL.p Pu.as ?_
  refine TL.p Pu.as ?_
  refine TL.nil ?_
  refine TQ.thenN (hY1 _ _ ?_)
  refine TW.seq fun Y2 hY2 => ?_
  refine TW.region ?_
  refine TL.p Pu.mv ?_
  refine TL.p Pu.mv ?_
  refine TL.p Pu.ml ?_
  refine TL.p Pu.as ?_
  refine TL.nil ?_
  refine TQ.thenN (hY2 _ _ ?_)
  refine TW.seq fun Y3 hY3 => ?_
  refine TW.region ?_
  refine TL.p Pu.mv ?_
  refine TL.p Pu.qu ?_
  refine TL.p Pu.mv ?_
  refine TL.p Pu.ad ?_
  refine TL.p Pu.sb ?_
  refine TL.p Pu.qu ?_
  refine TL.p Pu.as ?_
  refine TL.p Pu.as ?_
  refine TL.nil ?_
  refine TQ.thenN (hY3 _ _ ?_)
  refine TW.ret ?_
  refine TQ.ret Tryd.results85 rfl ((.tmp rfl (.tmp rfl .nil))) ?_
  exact fun w hw => ⟨by show Ending.returned (.tuple #[.int .i64 (m * t / 1000), .int .i64 ((m * t + 1000 - 1) / 1000)]) = _; rw [show m * t + 1000 - 1 = m * t + 999 by omega], Chg.ext hw.chg⟩
/-- What the package's variable 'none' holds. -/
abbrev None0 (w : World) : Prop := OldB w 0 [.int .i64 0, .int .i64 0]
set_option maxRecDepth 100000 in
theorem slab_any (f : Nat → Int) (w : World) (hG : None0 w) (hk : packOk f = true) (h0 : f 0 = 1) :
    Calls Tryd.prog 63 #[.agg (packL f).toArray] w (Ret w (.tuple (restC (restV f)).toArray)) := by
  obtain ⟨⟨h1, h2, h3, h4, h5, h6, h7⟩, hkind⟩ := (packOk_iff f).1 hk
  have m3 : 0 ≤ f 1 * (1000 - f 6) ∧ f 1 * (1000 - f 6) ≤ 1000000 * 1000 := mulB (by omega) (by omega) (by omega) (by omega)
  have m4 : 0 ≤ f 2 * f 6 ∧ f 2 * f 6 ≤ 1000000 * 1000 := mulB (by omega) (by omega) (by omega) (by omega)
  have m5 : 0 ≤ f 2 * (1000 - f 5) ∧ f 2 * (1000 - f 5) ≤ 1000000 * 1000 := mulB (by omega) (by omega) (by omega) (by omega)
  have m6 : 0 ≤ f 1 * f 5 ∧ f 1 * f 5 ≤ 1000000 * 1000 := mulB (by omega) (by omega) (by omega) (by omega)
  refine K_enter (S := []) (K := []) Tryd.func63 rfl Tryd.ntmps63 rfl (Sat.start _) ?_
  refine TW.seq fun Y1 hY1 => ?_
  refine TW.region ?_
  refine TL.m Mk.bx ?_
  intro b1
  refine TL.m (Mk.al ty_zr23) ?_
  intro b2
  refine TL.m (Mk.al ty_zr23) ?_
  intro b3
  refine TL.p Pu.as ?_
  refine TL.nil ?_
  refine TQ.thenN (hY1 _ _ ?_)
  refine TW.seq fun Y2 hY2 => ?_
  refine TW.region ?_
  refine TL.p (by first | exact Pu.fb ty_fa25_1 | exact Pu.fe ty_fa25_1) ?_
  refine TL.p (Pu.lds ty_ag23) ?_
  first | refine TL.st ty_sz23 ?_ | refine TL.se ty_sz23 ?_
  refine TL.nil ?_
  refine TQ.thenN (hY2 _ _ ?_)
  refine TW.seq fun Y3 hY3 => ?_
  refine TW.seq fun Y4 hY4 => ?_
  refine TW.region ?_
  refine TL.p (by first | exact Pu.fb ty_fa25_5 | exact Pu.fe ty_fa25_5) ?_
  refine TL.p (Pu.ld ty_sc3) ?_
  refine TL.p (by first | exact Pu.fb ty_fa25_2 | exact Pu.fe ty_fa25_2) ?_
  refine TL.p (by first | exact Pu.fb ty_fa23_0 | exact Pu.fe ty_fa23_0) ?_
  refine TL.p (Pu.ld ty_sc3) ?_
  refine TL.p Pu.lt ?_
  refine TL.nil ?_
  refine TQ.thenN (hY4 _ _ ?_)
  refine TW.cond rfl (fun hc0 => ?_) (fun hc0 => ?_)
  · try simp only [decide_eq_true_eq, decide_eq_false_iff_not, Bool.not_eq_true', Bool.not_eq_false', Bool.and_eq_true, Bool.or_eq_true, Bool.and_eq_false_iff, Bool.or_eq_false_iff, Int.not_lt, Int.not_le] at hc0
    refine TW.seq fun Y5 hY5 => ?_
    refine TW.rf (Drop.blk 3 rfl (by repeat (first | exact Pick.hd | apply Pick.tl)) Drop.done) ?_
    refine RF.tk (Pu.lds ty_ag23) ?_
    refine RF.tk (Pu.ldso ty_ag23) ?_
    refine RF.ks ?_
    refine RF.ks ?_
    refine RF.ks ?_
    refine RF.go ?_
    refine RG.step fun X1 hX1 => ?_
    first | refine TL.st ty_sz23 ?_ | refine TL.se ty_sz23 ?_
    refine TL.nil ?_
    refine TQ.nxt (hX1 _ _ (by repeat (first | exact HasL.nil | refine HasL.cons (by repeat (first | exact Pick.hd | apply Pick.tl)) ?_)) ?_)
    refine RG.step fun X2 hX2 => ?_
    first | refine TL.st ty_sz23 ?_ | refine TL.se ty_sz23 ?_
    refine TL.nil ?_
    refine TQ.nxt (hX2 _ _ (by repeat (first | exact HasL.nil | refine HasL.cons (by repeat (first | exact Pick.hd | apply Pick.tl)) ?_)) ?_)
    refine RG.step fun X3 hX3 => ?_
    refine TL.p Pu.as ?_
    refine TL.nil ?_
    refine TQ.nxt (hX3 _ _ (by repeat (first | exact HasL.nil | refine HasL.cons (by repeat (first | exact Pick.hd | apply Pick.tl)) ?_)) ?_)
    refine RG.nil ?_
    refine TQ.thenN (hY5 _ _ ?_)
    refine TW.ret ?_
    refine TQ.thenR ?_
    refine TQ.ret Tryd.results63 rfl ((RV.cs ty_ag23 (RV.cs ty_ag23 (.tmp rfl .nil)))) ?_
    exact fun w hw => ⟨by unfold restV; rw [if_neg (by omega), if_pos (by omega)]; rfl, Chg.ext hw.chg⟩
  · try simp only [decide_eq_true_eq, decide_eq_false_iff_not, Bool.not_eq_true', Bool.not_eq_false', Bool.and_eq_true, Bool.or_eq_true, Bool.and_eq_false_iff, Bool.or_eq_false_iff, Int.not_lt, Int.not_le] at hc0
    refine TW.skip ?_
    refine TQ.thenN (hY3 _ _ ?_)
    refine TW.seq fun Y6 hY6 => ?_
    refine TW.region ?_
    refine TL.p (by first | exact Pu.fb ty_fa25_1 | exact Pu.fe ty_fa25_1) ?_
    refine TL.p (by first | exact Pu.fb ty_fa23_0 | exact Pu.fe ty_fa23_0) ?_
    refine TL.p (Pu.ld ty_sc3) ?_
    refine TL.p (by first | exact Pu.fb ty_fa25_3 | exact Pu.fe ty_fa25_3) ?_
    refine TL.p (by first | exact Pu.fb ty_fa23_1 | exact Pu.fe ty_fa23_1) ?_
    refine TL.p (Pu.ld ty_sc3) ?_
    refine TL.p Pu.sb ?_
    refine TL.cr rfl (enters Tryd.func85 rfl rfl) (fun w hw => by
        exact part_any _ _ _ (by omega) (by omega)) ?_
    refine TL.p Pu.mv ?_
    refine TL.p Pu.ex ?_
    refine TL.p Pu.ex ?_
    refine TL.p (by first | exact Pu.fb ty_fa23_0 | exact Pu.fe ty_fa23_0) ?_
    first | refine TL.st ty_sz3 ?_ | refine TL.se ty_sz3 ?_
    refine TL.nil ?_
    refine TQ.thenN (hY6 _ _ ?_)
    refine TW.seq fun Y7 hY7 => ?_
    refine TW.region ?_
    refine TL.p (by first | exact Pu.fb ty_fa25_1 | exact Pu.fe ty_fa25_1) ?_
    refine TL.p (by first | exact Pu.fb ty_fa23_1 | exact Pu.fe ty_fa23_1) ?_
    refine TL.p (Pu.ld ty_sc3) ?_
    refine TL.p (by first | exact Pu.fb ty_fa25_3 | exact Pu.fe ty_fa25_3) ?_
    refine TL.p (by first | exact Pu.fb ty_fa23_1 | exact Pu.fe ty_fa23_1) ?_
    refine TL.p (Pu.ld ty_sc3) ?_
    refine TL.cr rfl (enters Tryd.func85 rfl rfl) (fun w hw => by
        exact part_any _ _ _ (by omega) (by omega)) ?_
    refine TL.p Pu.mv ?_
    refine TL.p Pu.ex ?_
    refine TL.p Pu.ex ?_
    refine TL.p (by first | exact Pu.fb ty_fa23_1 | exact Pu.fe ty_fa23_1) ?_
    first | refine TL.st ty_sz3 ?_ | refine TL.se ty_sz3 ?_
    refine TL.nil ?_
    refine TQ.thenN (hY7 _ _ ?_)
    refine TW.seq fun Y8 hY8 => ?_
    refine TW.seq fun Y9 hY9 => ?_
    refine TW.region ?_
    refine TL.p (by first | exact Pu.fb ty_fa25_5 | exact Pu.fe ty_fa25_5) ?_
    refine TL.p (Pu.ld ty_sc3) ?_
    refine TL.p (by first | exact Pu.fb ty_fa25_2 | exact Pu.fe ty_fa25_2) ?_
    refine TL.p (by first | exact Pu.fb ty_fa23_1 | exact Pu.fe ty_fa23_1) ?_
    refine TL.p (Pu.ld ty_sc3) ?_
    refine TL.p Pu.lt ?_
    refine TL.nil ?_
    refine TQ.thenN (hY9 _ _ ?_)
    refine TW.cond rfl (fun hc1 => ?_) (fun hc1 => ?_)
    · try simp only [decide_eq_true_eq, decide_eq_false_iff_not, Bool.not_eq_true', Bool.not_eq_false', Bool.and_eq_true, Bool.or_eq_true, Bool.and_eq_false_iff, Bool.or_eq_false_iff, Int.not_lt, Int.not_le] at hc1
      refine TW.seq fun Y10 hY10 => ?_
      refine TW.rf Drop.done ?_
      refine RF.tk (Pu.lds ty_ag23) ?_
      refine RF.tk (Pu.lds ty_ag23) ?_
      refine RF.ks ?_
      refine RF.ks ?_
      refine RF.ks ?_
      refine RF.go ?_
      refine RG.step fun X4 hX4 => ?_
      first | refine TL.st ty_sz23 ?_ | refine TL.se ty_sz23 ?_
      refine TL.nil ?_
      refine TQ.nxt (hX4 _ _ (by repeat (first | exact HasL.nil | refine HasL.cons (by repeat (first | exact Pick.hd | apply Pick.tl)) ?_)) ?_)
      refine RG.step fun X5 hX5 => ?_
      first | refine TL.st ty_sz23 ?_ | refine TL.se ty_sz23 ?_
      refine TL.nil ?_
      refine TQ.nxt (hX5 _ _ (by repeat (first | exact HasL.nil | refine HasL.cons (by repeat (first | exact Pick.hd | apply Pick.tl)) ?_)) ?_)
      refine RG.step fun X6 hX6 => ?_
      refine TL.p Pu.as ?_
      refine TL.nil ?_
      refine TQ.nxt (hX6 _ _ (by repeat (first | exact HasL.nil | refine HasL.cons (by repeat (first | exact Pick.hd | apply Pick.tl)) ?_)) ?_)
      refine RG.nil ?_
      refine TQ.thenN (hY10 _ _ ?_)
      refine TW.ret ?_
      refine TQ.thenR ?_
      refine TQ.ret Tryd.results63 rfl ((RV.cs ty_ag23 (RV.cs ty_ag23 (.tmp rfl .nil)))) ?_
      exact fun w hw => ⟨by unfold restV; rw [if_neg (by omega), if_neg (by omega), if_pos (by omega)]; rfl, Chg.ext hw.chg⟩
    · try simp only [decide_eq_true_eq, decide_eq_false_iff_not, Bool.not_eq_true', Bool.not_eq_false', Bool.and_eq_true, Bool.or_eq_true, Bool.and_eq_false_iff, Bool.or_eq_false_iff, Int.not_lt, Int.not_le] at hc1
      refine TW.skip ?_
      refine TQ.thenN (hY8 _ _ ?_)
      refine TW.seq fun Y11 hY11 => ?_
      refine TW.region ?_
      refine TL.p (by first | exact Pu.fb ty_fa25_1 | exact Pu.fe ty_fa25_1) ?_
      refine TL.p (by first | exact Pu.fb ty_fa23_1 | exact Pu.fe ty_fa23_1) ?_
      refine TL.p (Pu.ld ty_sc3) ?_
      refine TL.p (by first | exact Pu.fb ty_fa25_3 | exact Pu.fe ty_fa25_3) ?_
      refine TL.p (by first | exact Pu.fb ty_fa23_0 | exact Pu.fe ty_fa23_0) ?_
      refine TL.p (Pu.ld ty_sc3) ?_
      refine TL.p Pu.sb ?_
      refine TL.cr rfl (enters Tryd.func85 rfl rfl) (fun w hw => by
          exact part_any _ _ _ (by omega) (by omega)) ?_
      refine TL.p Pu.mv ?_
      refine TL.p Pu.ex ?_
      refine TL.p Pu.ex ?_
      refine TL.p (by first | exact Pu.fb ty_fa23_1 | exact Pu.fe ty_fa23_1) ?_
      first | refine TL.st ty_sz3 ?_ | refine TL.se ty_sz3 ?_
      refine TL.nil ?_
      refine TQ.thenN (hY11 _ _ ?_)
      refine TW.seq fun Y12 hY12 => ?_
      refine TW.region ?_
      refine TL.p (by first | exact Pu.fb ty_fa25_1 | exact Pu.fe ty_fa25_1) ?_
      refine TL.p (by first | exact Pu.fb ty_fa23_0 | exact Pu.fe ty_fa23_0) ?_
      refine TL.p (Pu.ld ty_sc3) ?_
      refine TL.p (by first | exact Pu.fb ty_fa25_3 | exact Pu.fe ty_fa25_3) ?_
      refine TL.p (by first | exact Pu.fb ty_fa23_0 | exact Pu.fe ty_fa23_0) ?_
      refine TL.p (Pu.ld ty_sc3) ?_
      refine TL.cr rfl (enters Tryd.func85 rfl rfl) (fun w hw => by
          exact part_any _ _ _ (by omega) (by omega)) ?_
      refine TL.p Pu.mv ?_
      refine TL.p Pu.ex ?_
      refine TL.p Pu.ex ?_
      refine TL.p (by first | exact Pu.fb ty_fa23_0 | exact Pu.fe ty_fa23_0) ?_
      first | refine TL.st ty_sz3 ?_ | refine TL.se ty_sz3 ?_
      refine TL.nil ?_
      refine TQ.thenN (hY12 _ _ ?_)
      refine TW.seq fun Y13 hY13 => ?_
      refine TW.rf Drop.done ?_
      refine RF.tk (Pu.lds ty_ag23) ?_
      refine RF.tk (Pu.lds ty_ag23) ?_
      refine RF.ks ?_
      refine RF.ks ?_
      refine RF.ks ?_
      refine RF.go ?_
      refine RG.step fun X7 hX7 => ?_
      first | refine TL.st ty_sz23 ?_ | refine TL.se ty_sz23 ?_
      refine TL.nil ?_
      refine TQ.nxt (hX7 _ _ (by repeat (first | exact HasL.nil | refine HasL.cons (by repeat (first | exact Pick.hd | apply Pick.tl)) ?_)) ?_)
      refine RG.step fun X8 hX8 => ?_
      first | refine TL.st ty_sz23 ?_ | refine TL.se ty_sz23 ?_
      refine TL.nil ?_
      refine TQ.nxt (hX8 _ _ (by repeat (first | exact HasL.nil | refine HasL.cons (by repeat (first | exact Pick.hd | apply Pick.tl)) ?_)) ?_)
      refine RG.step fun X9 hX9 => ?_
      refine TL.p Pu.as ?_
      refine TL.nil ?_
      refine TQ.nxt (hX9 _ _ (by repeat (first | exact HasL.nil | refine HasL.cons (by repeat (first | exact Pick.hd | apply Pick.tl)) ?_)) ?_)
      refine RG.nil ?_
      refine TQ.thenN (hY13 _ _ ?_)
      refine TW.ret ?_
      refine TQ.ret Tryd.results63 rfl ((RV.cs ty_ag23 (RV.cs ty_ag23 (.tmp rfl .nil)))) ?_
      exact fun w hw => ⟨by unfold restV; rw [if_neg (by omega), if_neg (by omega), if_neg (by omega)]; rfl, Chg.ext hw.chg⟩
theorem bale_any (f : Nat → Int) (w : World) (hG : None0 w) (h0 : f 0 = 2) :
    Calls Tryd.prog 65 #[.agg (packL f).toArray] w (Ret w (.tuple (restC (restV f)).toArray)) := by
  refine K_enter (S := []) (K := []) Tryd.func65 rfl Tryd.ntmps65 rfl (Sat.start _) ?_
  refine TW.seq fun Y1 hY1 => ?_
  refine TW.region ?_
  refine TL.m Mk.bx ?_
  intro b1
  refine TL.m (Mk.al ty_zr23) ?_
  intro b2
  refine TL.m (Mk.al ty_zr23) ?_
  intro b3
  refine TL.p Pu.as ?_
  refine TL.nil ?_
  refine TQ.thenN (hY1 _ _ ?_)
  refine TW.seq fun Y2 hY2 => ?_
  refine TW.rf (Drop.blk 2 rfl (by repeat (first | exact Pick.hd | apply Pick.tl)) (Drop.blk 3 rfl (by repeat (first | exact Pick.hd | apply Pick.tl)) Drop.done)) ?_
  refine RF.tk (by first | exact Pu.fb ty_fa25_1 | exact Pu.fe ty_fa25_1) ?_
  refine RF.tk (Pu.lds ty_ag23) ?_
  refine RF.tk (Pu.ldso ty_ag23) ?_
  refine RF.ks ?_
  refine RF.ks ?_
  refine RF.ks ?_
  refine RF.go ?_
  refine RG.step fun X1 hX1 => ?_
  first | refine TL.st ty_sz23 ?_ | refine TL.se ty_sz23 ?_
  refine TL.nil ?_
  refine TQ.nxt (hX1 _ _ (by repeat (first | exact HasL.nil | refine HasL.cons (by repeat (first | exact Pick.hd | apply Pick.tl)) ?_)) ?_)
  refine RG.step fun X2 hX2 => ?_
  first | refine TL.st ty_sz23 ?_ | refine TL.se ty_sz23 ?_
  refine TL.nil ?_
  refine TQ.nxt (hX2 _ _ (by repeat (first | exact HasL.nil | refine HasL.cons (by repeat (first | exact Pick.hd | apply Pick.tl)) ?_)) ?_)
  refine RG.step fun X3 hX3 => ?_
  refine TL.p Pu.as ?_
  refine TL.nil ?_
  refine TQ.nxt (hX3 _ _ (by repeat (first | exact HasL.nil | refine HasL.cons (by repeat (first | exact Pick.hd | apply Pick.tl)) ?_)) ?_)
  refine RG.nil ?_
  refine TQ.thenN (hY2 _ _ ?_)
  refine TW.ret ?_
  refine TQ.ret Tryd.results65 rfl ((RV.cs ty_ag23 (RV.cs ty_ag23 (.tmp rfl .nil)))) ?_
  exact fun w hw => ⟨by unfold restV; rw [if_neg (by omega), if_pos (by omega)]; rfl, Chg.ext hw.chg⟩
set_option maxRecDepth 100000 in
theorem skin_any (f : Nat → Int) (w : World) (hk : packOk f = true) (h0 : f 0 = 3) :
    Calls Tryd.prog 67 #[.agg (packL f).toArray] w (Ret w (.tuple (restC (restV f)).toArray)) := by
  obtain ⟨⟨h1, h2, h3, h4, h5, h6, h7⟩, hkind⟩ := (packOk_iff f).1 hk
  have m1 : 0 ≤ f 7 * f 10 ∧ f 7 * f 10 ≤ 1000000 * 100000 := mulB (by omega) (by omega) (by omega) (by omega)
  have m2 : 0 ≤ f 8 * f 10 ∧ f 8 * f 10 ≤ 1000000 * 100000 := mulB (by omega) (by omega) (by omega) (by omega)
  refine K_enter (S := []) (K := []) Tryd.func67 rfl Tryd.ntmps67 rfl (Sat.start _) ?_
  refine TW.seq fun Y1 hY1 => ?_
  refine TW.region ?_
  refine TL.m Mk.bx ?_
  intro b1
  refine TL.m (Mk.al ty_zr23) ?_
  intro b2
  refine TL.m (Mk.al ty_zr23) ?_
  intro b3
  refine TL.p Pu.as ?_
  refine TL.nil ?_
  refine TQ.thenN (hY1 _ _ ?_)
  refine TW.seq fun Y2 hY2 => ?_
  refine TW.region ?_
  refine TL.p (by first | exact Pu.fb ty_fa25_4 | exact Pu.fe ty_fa25_4) ?_
  refine TL.p (by first | exact Pu.fb ty_fa23_0 | exact Pu.fe ty_fa23_0) ?_
  refine TL.p (Pu.ld ty_sc3) ?_
  refine TL.p (by first | exact Pu.fb ty_fa25_6 | exact Pu.fe ty_fa25_6) ?_
  refine TL.p (Pu.ld ty_sc3) ?_
  refine TL.p Pu.ml ?_
  refine TL.p (by first | exact Pu.fb ty_fa25_4 | exact Pu.fe ty_fa25_4) ?_
  refine TL.p (by first | exact Pu.fb ty_fa23_1 | exact Pu.fe ty_fa23_1) ?_
  refine TL.p (Pu.ld ty_sc3) ?_
  refine TL.p (by first | exact Pu.fb ty_fa25_6 | exact Pu.fe ty_fa25_6) ?_
  refine TL.p (Pu.ld ty_sc3) ?_
  refine TL.p Pu.ml ?_
  refine TL.p Pu.bd ?_
  refine TL.m (Mk.al ty_zr23) ?_
  intro b4
  first | refine TL.st ty_sz23 ?_ | refine TL.se ty_sz23 ?_
  refine TL.nil ?_
  refine TQ.thenN (hY2 _ _ ?_)
  refine TW.seq fun Y3 hY3 => ?_
  refine TW.region ?_
  refine TL.p (by first | exact Pu.fb ty_fa25_1 | exact Pu.fe ty_fa25_1) ?_
  refine TL.p (by first | exact Pu.fb ty_fa23_0 | exact Pu.fe ty_fa23_0) ?_
  refine TL.p (Pu.ld ty_sc3) ?_
  refine TL.p (by first | exact Pu.fb ty_fa23_1 | exact Pu.fe ty_fa23_1) ?_
  refine TL.p (Pu.ld ty_sc3) ?_
  refine TL.p Pu.sb ?_
  refine TL.p Pu.mx ?_
  refine TL.p (by first | exact Pu.fb ty_fa25_1 | exact Pu.fe ty_fa25_1) ?_
  refine TL.p (by first | exact Pu.fb ty_fa23_1 | exact Pu.fe ty_fa23_1) ?_
  refine TL.p (Pu.ld ty_sc3) ?_
  refine TL.p (by first | exact Pu.fb ty_fa23_0 | exact Pu.fe ty_fa23_0) ?_
  refine TL.p (Pu.ld ty_sc3) ?_
  refine TL.p Pu.sb ?_
  refine TL.p Pu.mx ?_
  refine TL.p Pu.bd ?_
  first | refine TL.st ty_sz23 ?_ | refine TL.se ty_sz23 ?_
  refine TL.nil ?_
  refine TQ.thenN (hY3 _ _ ?_)
  refine TW.seq fun Y4 hY4 => ?_
  refine TW.region ?_
  refine TL.p (by first | exact Pu.fb ty_fa25_1 | exact Pu.fe ty_fa25_1) ?_
  refine TL.p (by first | exact Pu.fb ty_fa23_0 | exact Pu.fe ty_fa23_0) ?_
  refine TL.p (Pu.ld ty_sc3) ?_
  refine TL.p (by first | exact Pu.fb ty_fa23_0 | exact Pu.fe ty_fa23_0) ?_
  refine TL.p (Pu.ld ty_sc3) ?_
  refine TL.p Pu.mn ?_
  refine TL.p (by first | exact Pu.fb ty_fa25_1 | exact Pu.fe ty_fa25_1) ?_
  refine TL.p (by first | exact Pu.fb ty_fa23_1 | exact Pu.fe ty_fa23_1) ?_
  refine TL.p (Pu.ld ty_sc3) ?_
  refine TL.p (by first | exact Pu.fb ty_fa23_1 | exact Pu.fe ty_fa23_1) ?_
  refine TL.p (Pu.ld ty_sc3) ?_
  refine TL.p Pu.mn ?_
  refine TL.p Pu.bd ?_
  first | refine TL.st ty_sz23 ?_ | refine TL.se ty_sz23 ?_
  refine TL.nil ?_
  refine TQ.thenN (hY4 _ _ ?_)
  refine TW.seq fun Y5 hY5 => ?_
  refine TW.rf Drop.done ?_
  refine RF.tk (Pu.lds ty_ag23) ?_
  refine RF.tk (Pu.lds ty_ag23) ?_
  refine RF.ks ?_
  refine RF.ks ?_
  refine RF.ks ?_
  refine RF.go ?_
  refine RG.step fun X1 hX1 => ?_
  first | refine TL.st ty_sz23 ?_ | refine TL.se ty_sz23 ?_
  refine TL.nil ?_
  refine TQ.nxt (hX1 _ _ (by repeat (first | exact HasL.nil | refine HasL.cons (by repeat (first | exact Pick.hd | apply Pick.tl)) ?_)) ?_)
  refine RG.step fun X2 hX2 => ?_
  first | refine TL.st ty_sz23 ?_ | refine TL.se ty_sz23 ?_
  refine TL.nil ?_
  refine TQ.nxt (hX2 _ _ (by repeat (first | exact HasL.nil | refine HasL.cons (by repeat (first | exact Pick.hd | apply Pick.tl)) ?_)) ?_)
  refine RG.step fun X3 hX3 => ?_
  refine TL.p Pu.as ?_
  refine TL.nil ?_
  refine TQ.nxt (hX3 _ _ (by repeat (first | exact HasL.nil | refine HasL.cons (by repeat (first | exact Pick.hd | apply Pick.tl)) ?_)) ?_)
  refine RG.nil ?_
  refine TQ.thenN (hY5 _ _ ?_)
  refine TW.ret ?_
  refine TQ.ret Tryd.results67 rfl ((RV.cs ty_ag23 (RV.cs ty_ag23 (.tmp rfl .nil)))) ?_
  exact fun w hw => ⟨by unfold restV; rw [if_pos h0, Int.max_comm 0, Int.max_comm 0]; rfl, Chg.ext hw.chg⟩
def kind1 (f : Nat → Int) : Bool := ordB5 1 100000 (f 3) (f 4) && ordB5 0 1000 (f 5) (f 6) && nilB (f 7) (f 8)
def kind2 (f : Nat → Int) : Bool := nilB (f 3) (f 4) && nilB (f 5) (f 6) && nilB (f 7) (f 8)
def kind3 (f : Nat → Int) : Bool := nilB (f 3) (f 4) && nilB (f 5) (f 6) && ordB5 0 1000000 (f 7) (f 8)
theorem sorts1_any (f : Nat → Int) (w : World) (hG : None0 w) : Calls Tryd.prog 62 #[.agg (packL f).toArray] w (Ret w (.bool (kind1 f))) := by
  refine K_enter (S := []) (K := []) Tryd.func62 rfl Tryd.ntmps62 rfl (Sat.start _) ?_
  refine TW.seq fun Y1 hY1 => ?_
  refine TW.region ?_
  refine TL.m Mk.bx ?_
  intro b1
  refine TL.p Pu.as ?_
  refine TL.nil ?_
  refine TQ.thenN (hY1 _ _ ?_)
  refine TW.seq fun Y2 hY2 => ?_
  refine TW.join [(2, .bool (kind1 f))] ?_ (fun hJ1 => ?_)
  · refine TQ.thenN (hY2 _ _ ?_)
    refine TW.ret ?_
    refine TQ.ret Tryd.results62 rfl ((.tmp rfl .nil)) ?_
    exact fun w hw => Ret.of hw
  refine TW.region ?_
  refine TL.p (by first | exact Pu.fb ty_fa25_2 | exact Pu.fe ty_fa25_2) ?_
  refine TL.p (Pu.lds ty_ag23) ?_
  refine TL.cr rfl (enters Tryd.func61 rfl rfl) (fun w hw => by
      exact proper_any _ _ _ _ _) ?_
  refine TL.p Pu.mv ?_
  refine TL.guard (t := 6) rfl (fun hg1 => ?_) (fun hg1 => ?_)
  · refine TL.gd (by first | exact Pu.fb ty_fa25_3 | exact Pu.fe ty_fa25_3) ?_
    refine TL.gd (Pu.lds ty_ag23) ?_
    refine TL.cr rfl (enters Tryd.func61 rfl rfl) (fun w hw => by
        exact proper_any _ _ _ _ _) ?_
    refine TL.p Pu.kt ?_
    refine TL.p Pu.mv ?_
    refine TL.guard (t := 11) rfl (fun hg2 => ?_) (fun hg2 => ?_)
    · refine TL.gd (by first | exact Pu.fb ty_fa25_4 | exact Pu.fe ty_fa25_4) ?_
      refine TL.gd (Pu.lds ty_ag23) ?_
      refine TL.gd (Pu.ldso ty_ag23) ?_
      refine TL.gd (Pu.q2 ty_q2_23) ?_
      refine TL.p Pu.kt ?_
      refine TL.p Pu.as ?_
      refine TL.nil ?_
      exact TQ.sub (by repeat (first | exact trivial | refine ⟨rfl, ?_⟩ | refine ⟨trivial, ?_⟩ | refine ⟨(by show some (Value.bool _) = some (Value.bool _); simp [hg1, hg2, kind1, nilB]), ?_⟩)) (by repeat (first | exact KSub.nil | refine KSub.cons (by repeat (first | exact Pick.hd | apply Pick.tl)) ?_)) hJ1
    · refine TL.gs ?_
      refine TL.gs ?_
      refine TL.gs ?_
      refine TL.gs ?_
      refine TL.p Pu.kf ?_
      refine TL.p Pu.as ?_
      refine TL.nil ?_
      exact TQ.sub (by repeat (first | exact trivial | refine ⟨rfl, ?_⟩ | refine ⟨trivial, ?_⟩ | refine ⟨(by show some (Value.bool _) = some (Value.bool _); simp [hg1, hg2, kind1, nilB]), ?_⟩)) (by repeat (first | exact KSub.nil | refine KSub.cons (by repeat (first | exact Pick.hd | apply Pick.tl)) ?_)) hJ1
  · refine TL.gs ?_
    refine TL.gs ?_
    refine TL.gs ?_
    refine TL.p Pu.kf ?_
    refine TL.p Pu.mv ?_
    refine TL.gs ?_
    refine TL.gs ?_
    refine TL.gs ?_
    refine TL.gs ?_
    refine TL.p Pu.kf ?_
    refine TL.p Pu.as ?_
    refine TL.nil ?_
    exact TQ.sub (by repeat (first | exact trivial | refine ⟨rfl, ?_⟩ | refine ⟨trivial, ?_⟩ | refine ⟨(by show some (Value.bool _) = some (Value.bool _); simp [hg1, kind1, nilB]), ?_⟩)) (by repeat (first | exact KSub.nil | refine KSub.cons (by repeat (first | exact Pick.hd | apply Pick.tl)) ?_)) hJ1
theorem sorts2_any (f : Nat → Int) (w : World) (hG : None0 w) : Calls Tryd.prog 64 #[.agg (packL f).toArray] w (Ret w (.bool (kind2 f))) := by
  refine K_enter (S := []) (K := []) Tryd.func64 rfl Tryd.ntmps64 rfl (Sat.start _) ?_
  refine TW.seq fun Y1 hY1 => ?_
  refine TW.region ?_
  refine TL.m Mk.bx ?_
  intro b1
  refine TL.p Pu.as ?_
  refine TL.nil ?_
  refine TQ.thenN (hY1 _ _ ?_)
  refine TW.seq fun Y2 hY2 => ?_
  refine TW.join [(2, .bool (kind2 f))] ?_ (fun hJ1 => ?_)
  · refine TQ.thenN (hY2 _ _ ?_)
    refine TW.ret ?_
    refine TQ.ret Tryd.results64 rfl ((.tmp rfl .nil)) ?_
    exact fun w hw => Ret.of hw
  refine TW.region ?_
  refine TL.p (by first | exact Pu.fb ty_fa25_2 | exact Pu.fe ty_fa25_2) ?_
  refine TL.p (Pu.lds ty_ag23) ?_
  refine TL.p (Pu.ldso ty_ag23) ?_
  refine TL.p (Pu.q2 ty_q2_23) ?_
  refine TL.p Pu.mv ?_
  refine TL.guard (t := 7) rfl (fun hg1 => ?_) (fun hg1 => ?_)
  · refine TL.gd (by first | exact Pu.fb ty_fa25_3 | exact Pu.fe ty_fa25_3) ?_
    refine TL.gd (Pu.lds ty_ag23) ?_
    refine TL.gd (Pu.ldso ty_ag23) ?_
    refine TL.gd (Pu.q2 ty_q2_23) ?_
    refine TL.p Pu.kt ?_
    refine TL.p Pu.mv ?_
    refine TL.guard (t := 13) rfl (fun hg2 => ?_) (fun hg2 => ?_)
    · refine TL.gd (by first | exact Pu.fb ty_fa25_4 | exact Pu.fe ty_fa25_4) ?_
      refine TL.gd (Pu.lds ty_ag23) ?_
      refine TL.gd (Pu.ldso ty_ag23) ?_
      refine TL.gd (Pu.q2 ty_q2_23) ?_
      refine TL.p Pu.kt ?_
      refine TL.p Pu.as ?_
      refine TL.nil ?_
      exact TQ.sub (by repeat (first | exact trivial | refine ⟨rfl, ?_⟩ | refine ⟨trivial, ?_⟩ | refine ⟨(by show some (Value.bool _) = some (Value.bool _); simp [hg1, hg2, kind2, nilB]), ?_⟩)) (by repeat (first | exact KSub.nil | refine KSub.cons (by repeat (first | exact Pick.hd | apply Pick.tl)) ?_)) hJ1
    · refine TL.gs ?_
      refine TL.gs ?_
      refine TL.gs ?_
      refine TL.gs ?_
      refine TL.p Pu.kf ?_
      refine TL.p Pu.as ?_
      refine TL.nil ?_
      exact TQ.sub (by repeat (first | exact trivial | refine ⟨rfl, ?_⟩ | refine ⟨trivial, ?_⟩ | refine ⟨(by show some (Value.bool _) = some (Value.bool _); simp [hg1, hg2, kind2, nilB]), ?_⟩)) (by repeat (first | exact KSub.nil | refine KSub.cons (by repeat (first | exact Pick.hd | apply Pick.tl)) ?_)) hJ1
  · refine TL.gs ?_
    refine TL.gs ?_
    refine TL.gs ?_
    refine TL.gs ?_
    refine TL.p Pu.kf ?_
    refine TL.p Pu.mv ?_
    refine TL.gs ?_
    refine TL.gs ?_
    refine TL.gs ?_
    refine TL.gs ?_
    refine TL.p Pu.kf ?_
    refine TL.p Pu.as ?_
    refine TL.nil ?_
    exact TQ.sub (by repeat (first | exact trivial | refine ⟨rfl, ?_⟩ | refine ⟨trivial, ?_⟩ | refine ⟨(by show some (Value.bool _) = some (Value.bool _); simp [hg1, kind2, nilB]), ?_⟩)) (by repeat (first | exact KSub.nil | refine KSub.cons (by repeat (first | exact Pick.hd | apply Pick.tl)) ?_)) hJ1
theorem sorts3_any (f : Nat → Int) (w : World) (hG : None0 w) : Calls Tryd.prog 66 #[.agg (packL f).toArray] w (Ret w (.bool (kind3 f))) := by
  refine K_enter (S := []) (K := []) Tryd.func66 rfl Tryd.ntmps66 rfl (Sat.start _) ?_
  refine TW.seq fun Y1 hY1 => ?_
  refine TW.region ?_
  refine TL.m Mk.bx ?_
  intro b1
  refine TL.p Pu.as ?_
  refine TL.nil ?_
  refine TQ.thenN (hY1 _ _ ?_)
  refine TW.seq fun Y2 hY2 => ?_
  refine TW.join [(2, .bool (kind3 f))] ?_ (fun hJ1 => ?_)
  · refine TQ.thenN (hY2 _ _ ?_)
    refine TW.ret ?_
    refine TQ.ret Tryd.results66 rfl ((.tmp rfl .nil)) ?_
    exact fun w hw => Ret.of hw
  refine TW.region ?_
  refine TL.p (by first | exact Pu.fb ty_fa25_2 | exact Pu.fe ty_fa25_2) ?_
  refine TL.p (Pu.lds ty_ag23) ?_
  refine TL.p (Pu.ldso ty_ag23) ?_
  refine TL.p (Pu.q2 ty_q2_23) ?_
  refine TL.p Pu.mv ?_
  refine TL.guard (t := 7) rfl (fun hg1 => ?_) (fun hg1 => ?_)
  · refine TL.gd (by first | exact Pu.fb ty_fa25_3 | exact Pu.fe ty_fa25_3) ?_
    refine TL.gd (Pu.lds ty_ag23) ?_
    refine TL.gd (Pu.ldso ty_ag23) ?_
    refine TL.gd (Pu.q2 ty_q2_23) ?_
    refine TL.p Pu.kt ?_
    refine TL.p Pu.mv ?_
    refine TL.guard (t := 13) rfl (fun hg2 => ?_) (fun hg2 => ?_)
    · refine TL.gd (by first | exact Pu.fb ty_fa25_4 | exact Pu.fe ty_fa25_4) ?_
      refine TL.gd (Pu.lds ty_ag23) ?_
      refine TL.cr rfl (enters Tryd.func61 rfl rfl) (fun w hw => by
          exact proper_any _ _ _ _ _) ?_
      refine TL.p Pu.kt ?_
      refine TL.p Pu.as ?_
      refine TL.nil ?_
      exact TQ.sub (by repeat (first | exact trivial | refine ⟨rfl, ?_⟩ | refine ⟨trivial, ?_⟩ | refine ⟨(by show some (Value.bool _) = some (Value.bool _); simp [hg1, hg2, kind3, nilB]), ?_⟩)) (by repeat (first | exact KSub.nil | refine KSub.cons (by repeat (first | exact Pick.hd | apply Pick.tl)) ?_)) hJ1
    · refine TL.gs ?_
      refine TL.gs ?_
      refine TL.gs ?_
      refine TL.p Pu.kf ?_
      refine TL.p Pu.as ?_
      refine TL.nil ?_
      exact TQ.sub (by repeat (first | exact trivial | refine ⟨rfl, ?_⟩ | refine ⟨trivial, ?_⟩ | refine ⟨(by show some (Value.bool _) = some (Value.bool _); simp [hg1, hg2, kind3, nilB]), ?_⟩)) (by repeat (first | exact KSub.nil | refine KSub.cons (by repeat (first | exact Pick.hd | apply Pick.tl)) ?_)) hJ1
  · refine TL.gs ?_
    refine TL.gs ?_
    refine TL.gs ?_
    refine TL.gs ?_
    refine TL.p Pu.kf ?_
    refine TL.p Pu.mv ?_
    refine TL.gs ?_
    refine TL.gs ?_
    refine TL.gs ?_
    refine TL.p Pu.kf ?_
    refine TL.p Pu.as ?_
    refine TL.nil ?_
    exact TQ.sub (by repeat (first | exact trivial | refine ⟨rfl, ?_⟩ | refine ⟨trivial, ?_⟩ | refine ⟨(by show some (Value.bool _) = some (Value.bool _); simp [hg1, kind3, nilB]), ?_⟩)) (by repeat (first | exact KSub.nil | refine KSub.cons (by repeat (first | exact Pick.hd | apply Pick.tl)) ?_)) hJ1
def fnV (g : Nat) : Value := .func (.func g) #[] #[]
def sortV (g h : Nat) : Value := .agg #[.func (.func g) #[] #[], .func (.func h) #[] #[]]
def sortsL : List (Int × Value) := [(1, sortV 62 63), (2, sortV 64 65), (3, sortV 66 67)]
theorem sorts_any (w : World) : CallsK Tryd.prog 26 #[] [] w Nat (fun b => .map (some b)) (fun b => [.obj b (mapO .u8 sortsL)]) := by
  refine K_enter (S := []) (K := []) Tryd.func26 rfl Tryd.ntmps26 rfl (Sat.start _) ?_
  refine TW.seq fun Y1 hY1 => ?_
  refine TW.region ?_
  refine TL.p Pu.as ?_
  refine TL.nil ?_
  refine TQ.thenN (hY1 _ _ ?_)
  refine TW.seq fun Y2 hY2 => ?_
  refine TW.region ?_
  refine TL.mm (kk := .u8) ?_
  intro b1
  refine TL.p Pu.bd ?_
  refine TL.mi ty_mp76 ?_
  refine TL.p Pu.bd ?_
  refine TL.mi ty_mp76 ?_
  refine TL.p Pu.bd ?_
  refine TL.mi ty_mp76 ?_
  refine TL.p Pu.mv ?_
  refine TL.p Pu.as ?_
  refine TL.nil ?_
  refine TQ.thenN (hY2 _ _ ?_)
  refine TW.ret ?_
  refine TQ.ret Tryd.results26 rfl ((.tmp rfl .nil)) ?_
  exact fun w hw => ⟨b1, rfl, hw⟩
end Go.Proofs.YtagcnokaajinlaaDoor
