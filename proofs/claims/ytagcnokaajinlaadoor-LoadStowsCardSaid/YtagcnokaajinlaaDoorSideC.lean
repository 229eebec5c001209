/-
  Whether a load is balanced: load's and the reference's; the reference's sums.
-/
import Derived.Test.YtagcnokaajinlaaDoorSideB
namespace Go.Proofs.YtagcnokaajinlaaDoor
set_option linter.all false
set_option linter.unusedVariables false
set_option linter.unusedSimpArgs false
open Go.RowKit
/-- What is known of whether two sides are balanced: of what is left at least and at most on the left, and on the right. -/
def balV (l0 l1 r0 r1 b : Int) : Int := if -b ≤ l0 - r1 ∧ l1 - r0 ≤ b then 2 else if b < l0 - r1 ∨ l1 - r0 < -b then 0 else 1
set_option maxRecDepth 100000 in
theorem refBalance5_any (l0 l1 r0 r1 b : Int) (w : World) (h0 : 0 ≤ l0 ∧ l0 ≤ 1000000000000) (h1 : 0 ≤ l1 ∧ l1 ≤ 1000000000000) (h2 : 0 ≤ r0 ∧ r0 ≤ 1000000000000) (h3 : 0 ≤ r1 ∧ r1 ≤ 1000000000000) (hb : 0 ≤ b ∧ b ≤ 1000000000000) :
    Calls Tryd.prog 54 #[.agg #[.int .i64 l0, .int .i64 l1], .agg #[.int .i64 r0, .int .i64 r1], .int .i64 b] w (Ret w (.int .u8 (balV l0 l1 r0 r1 b))) := by
  refine K_enter (S := []) (K := []) Tryd.func54 rfl Tryd.ntmps54 rfl (Sat.start _) ?_
  refine TW.seq fun Y1 hY1 => ?_
  refine TW.region ?_
  refine TL.m Mk.bx ?_
  intro b1
  refine TL.m Mk.bx ?_
  intro b2
  refine TL.p Pu.as ?_
  refine TL.nil ?_
  refine TQ.thenN (hY1 _ _ ?_)
  refine TW.seq fun Y2 hY2 => ?_
  refine TW.dw 12 ?_
  refine RK.tk (by first | exact Pu.fb ty_fa23_0 | exact Pu.fe ty_fa23_0) ?_
  refine RK.tk (Pu.ld ty_sc3) ?_
  refine RK.tk (by first | exact Pu.fb ty_fa23_1 | exact Pu.fe ty_fa23_1) ?_
  refine RK.tk (Pu.ld ty_sc3) ?_
  refine RK.tk Pu.sb ?_
  refine RK.tk (by first | exact Pu.fb ty_fa23_1 | exact Pu.fe ty_fa23_1) ?_
  refine RK.tk (Pu.ld ty_sc3) ?_
  refine RK.tk (by first | exact Pu.fb ty_fa23_0 | exact Pu.fe ty_fa23_0) ?_
  refine RK.tk (Pu.ld ty_sc3) ?_
  refine RK.tk Pu.sb ?_
  refine RK.tk Pu.as ?_
  refine RK.tk Pu.as ?_
  refine RK.ch [] ?_ trivial
  refine WK.n ?_
  refine TL.nil ?_
  refine TQ.thenN (hY2 _ _ ?_)
  refine TW.seq fun Y3 hY3 => ?_
  refine TW.seq fun Y4 hY4 => ?_
  refine TW.join [(27, .bool (decide (-b ≤ l0 - r1) && decide (l1 - r0 ≤ b)))] ?_ (fun hJ1 => ?_)
  · refine TQ.thenN (hY4 _ _ ?_)
    refine TW.cond rfl (fun hc0 => ?_) (fun hc0 => ?_)
    · try simp only [decide_eq_true_eq, decide_eq_false_iff_not, Bool.not_eq_true', Bool.not_eq_false', Bool.and_eq_true, Bool.or_eq_true, Bool.and_eq_false_iff, Bool.or_eq_false_iff, Int.not_lt, Int.not_le] at hc0
      refine TW.seq fun Y5 hY5 => ?_
      refine TW.region ?_
      refine TL.p Pu.as ?_
      refine TL.nil ?_
      refine TQ.thenN (hY5 _ _ ?_)
      refine TW.ret ?_
      refine TQ.thenR ?_
      refine TQ.ret Tryd.results54 rfl ((.tmp rfl .nil)) ?_
      exact fun w hw => ⟨ret_int (by unfold balV; rw [if_pos hc0]), Chg.ext hw.chg⟩
    · try simp only [decide_eq_true_eq, decide_eq_false_iff_not, Bool.not_eq_true', Bool.not_eq_false', Bool.and_eq_true, Bool.or_eq_true, Bool.and_eq_false_iff, Bool.or_eq_false_iff, Int.not_lt, Int.not_le] at hc0
      refine TW.skip ?_
      refine TQ.thenN (hY3 _ _ ?_)
      refine TW.seq fun Y6 hY6 => ?_
      refine TW.seq fun Y7 hY7 => ?_
      refine TW.join [(36, .bool (decide (b < l0 - r1) || decide (l1 - r0 < -b)))] ?_ (fun hJ2 => ?_)
      · refine TQ.thenN (hY7 _ _ ?_)
        refine TW.cond rfl (fun hc1 => ?_) (fun hc1 => ?_)
        · try simp only [decide_eq_true_eq, decide_eq_false_iff_not, Bool.not_eq_true', Bool.not_eq_false', Bool.and_eq_true, Bool.or_eq_true, Bool.and_eq_false_iff, Bool.or_eq_false_iff, Int.not_lt, Int.not_le] at hc1
          refine TW.seq fun Y8 hY8 => ?_
          refine TW.region ?_
          refine TL.p Pu.as ?_
          refine TL.nil ?_
          refine TQ.thenN (hY8 _ _ ?_)
          refine TW.ret ?_
          refine TQ.thenR ?_
          refine TQ.ret Tryd.results54 rfl ((.tmp rfl .nil)) ?_
          exact fun w hw => ⟨ret_int (by unfold balV; rw [if_neg (by omega), if_pos hc1]), Chg.ext hw.chg⟩
        · try simp only [decide_eq_true_eq, decide_eq_false_iff_not, Bool.not_eq_true', Bool.not_eq_false', Bool.and_eq_true, Bool.or_eq_true, Bool.and_eq_false_iff, Bool.or_eq_false_iff, Int.not_lt, Int.not_le] at hc1
          refine TW.skip ?_
          refine TQ.thenN (hY6 _ _ ?_)
          refine TW.seq fun Y9 hY9 => ?_
          refine TW.region ?_
          refine TL.p Pu.as ?_
          refine TL.nil ?_
          refine TQ.thenN (hY9 _ _ ?_)
          refine TW.ret ?_
          refine TQ.ret Tryd.results54 rfl ((.tmp rfl .nil)) ?_
          exact fun w hw => ⟨ret_int (by unfold balV; rw [if_neg (by omega), if_neg (by omega)]), Chg.ext hw.chg⟩
      refine TW.region ?_
      refine TL.p Pu.mv ?_
      refine TL.p Pu.mv ?_
      refine TL.p Pu.gt ?_
      refine TL.p Pu.mv ?_
      refine TL.guard (t := 31) rfl (fun hg1 => ?_) (fun hg1 => ?_)
      · refine TL.gs ?_
        refine TL.gs ?_
        refine TL.gs ?_
        refine TL.gs ?_
        refine TL.p Pu.kt ?_
        refine TL.nil ?_
        exact TQ.sub (by repeat (first | exact trivial | refine ⟨rfl, ?_⟩ | refine ⟨trivial, ?_⟩ | refine ⟨(by show some (Value.bool _) = some (Value.bool _); simp [hg1]), ?_⟩)) (by repeat (first | exact KSub.nil | refine KSub.cons (by repeat (first | exact Pick.hd | apply Pick.tl)) ?_)) hJ2
      · refine TL.gd Pu.mv ?_
        refine TL.gd Pu.mv ?_
        refine TL.gd Pu.ng ?_
        refine TL.gd Pu.lt ?_
        refine TL.p Pu.kf ?_
        refine TL.nil ?_
        exact TQ.sub (by repeat (first | exact trivial | refine ⟨rfl, ?_⟩ | refine ⟨trivial, ?_⟩ | refine ⟨(by show some (Value.bool _) = some (Value.bool _); simp [hg1]), ?_⟩)) (by repeat (first | exact KSub.nil | refine KSub.cons (by repeat (first | exact Pick.hd | apply Pick.tl)) ?_)) hJ2
  refine TW.region ?_
  refine TL.p Pu.mv ?_
  refine TL.p Pu.mv ?_
  refine TL.p Pu.ng ?_
  refine TL.p Pu.ge ?_
  refine TL.p Pu.mv ?_
  refine TL.guard (t := 23) rfl (fun hg2 => ?_) (fun hg2 => ?_)
  · refine TL.gd Pu.mv ?_
    refine TL.gd Pu.mv ?_
    refine TL.gd Pu.le ?_
    refine TL.p Pu.kt ?_
    refine TL.nil ?_
    exact TQ.sub (by repeat (first | exact trivial | refine ⟨rfl, ?_⟩ | refine ⟨trivial, ?_⟩ | refine ⟨(by show some (Value.bool _) = some (Value.bool _); simp [hg2]), ?_⟩)) (by repeat (first | exact KSub.nil | refine KSub.cons (by repeat (first | exact Pick.hd | apply Pick.tl)) ?_)) hJ1
  · refine TL.gs ?_
    refine TL.gs ?_
    refine TL.gs ?_
    refine TL.p Pu.kf ?_
    refine TL.nil ?_
    exact TQ.sub (by repeat (first | exact trivial | refine ⟨rfl, ?_⟩ | refine ⟨trivial, ?_⟩ | refine ⟨(by show some (Value.bool _) = some (Value.bool _); simp [hg2]), ?_⟩)) (by repeat (first | exact KSub.nil | refine KSub.cons (by repeat (first | exact Pick.hd | apply Pick.tl)) ?_)) hJ1
set_option maxRecDepth 100000 in
theorem balance_any {a : Nat → Option Addr} {l c : Nat → Nat} {Ar : Option Addr} {nr cr : Nat} {r0 r1 : Nat → Int} {v : Nat → Nat → Int} {b : Int} {w : World} (hr : RestOk r0 r1 nr) (hb : 0 ≤ b ∧ b ≤ 1000000000000) (hl : ∀ j, j < 2 → l j ≤ 1000) (hv : ∀ j, j < 2 → Inx (v j) (l j) nr)
    (hR : RdR w 2 Ar nr (fun q => spL (r0 q) (r1 q))) (hI : ∀ j, j < 2 → RdR w 1 (a j) (l j) (fun k => [.int .i64 (v j k)])) :
    Calls Tryd.prog 48 #[.agg (tiedL a l c Ar nr cr).toArray, .int .i64 b] w (Ret w (.int .u8 (balV (wS r0 (v 0) (l 0)) (wS r1 (v 0) (l 0)) (wS r0 (v 1) (l 1)) (wS r1 (v 1) (l 1)) b))) := by
  have e0 := hr.wS (hv 0 (by omega)) (hl 0 (by omega))
  have e1 := hr.wS (hv 1 (by omega)) (hl 1 (by omega))
  generalize hq0 : wS r0 (v 0) (l 0) = l0 at *
  generalize hq1 : wS r1 (v 0) (l 0) = l1 at *
  generalize hq2 : wS r0 (v 1) (l 1) = s0 at *
  generalize hq3 : wS r1 (v 1) (l 1) = s1 at *
  refine K_enter (S := []) (K := []) Tryd.func48 rfl Tryd.ntmps48 rfl (Sat.start _) ?_
  refine TW.seq fun Y1 hY1 => ?_
  refine TW.region ?_
  refine TL.m Mk.bx ?_
  intro b1
  refine TL.p Pu.as ?_
  refine TL.nil ?_
  refine TQ.thenN (hY1 _ _ ?_)
  refine TW.seq fun Y2 hY2 => ?_
  refine TW.dw 12 ?_
  refine RK.tk (Pu.lds ty_ag98) ?_
  refine RK.tk (by first | exact Pu.fb ty_fa98_0 | exact Pu.fe ty_fa98_0) ?_
  refine RK.tk (by first | exact Pu.fb ty_fa59_0 | exact Pu.fe ty_fa59_0) ?_
  refine RK.tk (Pu.ld ty_sc47) ?_
  refine RK.keep ?_
  refine RK.tk (Pu.lds ty_ag98) ?_
  refine RK.tk (by first | exact Pu.fb ty_fa98_0 | exact Pu.fe ty_fa98_0) ?_
  refine RK.tk (by first | exact Pu.fb ty_fa59_1 | exact Pu.fe ty_fa59_1) ?_
  refine RK.tk (Pu.ld ty_sc47) ?_
  refine RK.keep ?_
  refine RK.float [.int .i64 0, .int .i64 0] ?_
  refine RK.float [.int .i64 0, .int .i64 0] ?_
  refine RK.ch [false, false] ?_ ⟨ty_zr23, ty_zr23, trivial⟩
  refine WK.cr rfl (enters Tryd.func49 rfl rfl) (fun w hw => by
      have h9 := weight_any (a := a) (l := l) (c := c) (Ar := Ar) (cr := cr) (cp := c 0) hr (hl 0 (by omega)) (hv 0 (by omega)) (hR.sat hw Apart.nil) ((hI 0 (by omega)).sat hw Apart.nil)
      rw [hq0, hq1] at h9
      exact h9) ?_
  refine WK.cr rfl (enters Tryd.func49 rfl rfl) (fun w hw => by
      have h9 := weight_any (a := a) (l := l) (c := c) (Ar := Ar) (cr := cr) (cp := c 1) hr (hl 1 (by omega)) (hv 1 (by omega)) (hR.sat hw Apart.nil) ((hI 1 (by omega)).sat hw Apart.nil)
      rw [hq2, hq3] at h9
      exact h9) ?_
  refine WK.n ?_
  intro b2
  intro b3
  first | refine TL.st ty_sz23 ?_ | refine TL.se ty_sz23 ?_
  first | refine TL.st ty_sz23 ?_ | refine TL.se ty_sz23 ?_
  refine TL.nil ?_
  refine TQ.thenN (hY2 _ _ ?_)
  refine TW.seq fun Y3 hY3 => ?_
  refine TW.seq fun Y4 hY4 => ?_
  refine TW.dw 12 ?_
  refine RK.tk (by first | exact Pu.fb ty_fa23_0 | exact Pu.fe ty_fa23_0) ?_
  refine RK.tk (Pu.ld ty_sc3) ?_
  refine RK.tk (by first | exact Pu.fb ty_fa23_1 | exact Pu.fe ty_fa23_1) ?_
  refine RK.tk (Pu.ld ty_sc3) ?_
  refine RK.tk Pu.sb ?_
  refine RK.tk (by first | exact Pu.fb ty_fa23_1 | exact Pu.fe ty_fa23_1) ?_
  refine RK.tk (Pu.ld ty_sc3) ?_
  refine RK.tk (by first | exact Pu.fb ty_fa23_0 | exact Pu.fe ty_fa23_0) ?_
  refine RK.tk (Pu.ld ty_sc3) ?_
  refine RK.tk Pu.sb ?_
  refine RK.tk Pu.as ?_
  refine RK.tk Pu.as ?_
  refine RK.ch [] ?_ trivial
  refine WK.n ?_
  refine TL.nil ?_
  refine TQ.thenN (hY4 _ _ ?_)
  refine TW.block ?_
  refine TW.seq fun Y5 hY5 => ?_
  refine TW.region ?_
  refine TL.p Pu.mv ?_
  refine TL.p Pu.ng ?_
  refine TL.p Pu.mv ?_
  refine TL.p Pu.mv ?_
  refine TL.p Pu.mv ?_
  refine TL.m Mk.bl ?_
  intro b4
  refine TL.cr rfl (enters Tryd.func33 rfl rfl) (fun w hw => by
      exact inTwo_any _ _ _ _ (hw.holds _ (List.mem_cons_self ..))) ?_
  refine TL.p Pu.as ?_
  refine TL.nil ?_
  refine TQ.thenN (hY5 _ _ ?_)
  refine TW.cond rfl (fun hc0 => ?_) (fun hc0 => ?_)
  · try simp only [decide_eq_true_eq, decide_eq_false_iff_not, Bool.not_eq_true', Bool.not_eq_false', Bool.and_eq_true, Bool.or_eq_true, Bool.and_eq_false_iff, Bool.or_eq_false_iff, Int.not_lt, Int.not_le] at hc0
    have h7 : -b ≤ l0 - s1 ∧ l1 - s0 ≤ b := by
      simp only [inB5, Bool.and_eq_true, decide_eq_true_eq] at hc0
      omega
    refine TW.seq fun Y6 hY6 => ?_
    refine TW.region ?_
    refine TL.p Pu.as ?_
    refine TL.nil ?_
    refine TQ.thenN (hY6 _ _ ?_)
    refine TW.ret ?_
    refine TQ.blkR ?_
    refine TQ.thenR ?_
    refine TQ.ret Tryd.results48 rfl ((.tmp rfl .nil)) ?_
    exact fun w hw => ⟨ret_int (by unfold balV; rw [if_pos h7]), Chg.ext hw.chg⟩
  · try simp only [decide_eq_true_eq, decide_eq_false_iff_not, Bool.not_eq_true', Bool.not_eq_false', Bool.and_eq_true, Bool.or_eq_true, Bool.and_eq_false_iff, Bool.or_eq_false_iff, Int.not_lt, Int.not_le] at hc0
    have h7 : ¬ (-b ≤ l0 - s1 ∧ l1 - s0 ≤ b) := by
      intro h
      simp only [inB5, Bool.and_eq_false_iff, decide_eq_false_iff_not] at hc0
      omega
    refine TW.seq fun Y7 hY7 => ?_
    refine TW.join [(37, .bool (decide (b < l0 - s1) || decide (l1 - s0 < -b)))] ?_ (fun hJ1 => ?_)
    · refine TQ.thenN (hY7 _ _ ?_)
      refine TW.cond rfl (fun hc1 => ?_) (fun hc1 => ?_)
      · try simp only [decide_eq_true_eq, decide_eq_false_iff_not, Bool.not_eq_true', Bool.not_eq_false', Bool.and_eq_true, Bool.or_eq_true, Bool.and_eq_false_iff, Bool.or_eq_false_iff, Int.not_lt, Int.not_le] at hc1
        refine TW.seq fun Y8 hY8 => ?_
        refine TW.region ?_
        refine TL.p Pu.as ?_
        refine TL.nil ?_
        refine TQ.thenN (hY8 _ _ ?_)
        refine TW.ret ?_
        refine TQ.blkR ?_
        refine TQ.thenR ?_
        refine TQ.ret Tryd.results48 rfl ((.tmp rfl .nil)) ?_
        exact fun w hw => ⟨ret_int (by unfold balV; rw [if_neg h7, if_pos hc1]), Chg.ext hw.chg⟩
      · try simp only [decide_eq_true_eq, decide_eq_false_iff_not, Bool.not_eq_true', Bool.not_eq_false', Bool.and_eq_true, Bool.or_eq_true, Bool.and_eq_false_iff, Bool.or_eq_false_iff, Int.not_lt, Int.not_le] at hc1
        refine TW.skip ?_
        refine TQ.blkN ?_
        refine TQ.thenN (hY3 _ _ ?_)
        refine TW.seq fun Y9 hY9 => ?_
        refine TW.region ?_
        refine TL.p Pu.as ?_
        refine TL.nil ?_
        refine TQ.thenN (hY9 _ _ ?_)
        refine TW.ret ?_
        refine TQ.ret Tryd.results48 rfl ((.tmp rfl .nil)) ?_
        exact fun w hw => ⟨ret_int (by unfold balV; rw [if_neg h7, if_neg (by omega)]), Chg.ext hw.chg⟩
    refine TW.region ?_
    refine TL.p Pu.mv ?_
    refine TL.p Pu.mv ?_
    refine TL.p Pu.gt ?_
    refine TL.p Pu.mv ?_
    refine TL.guard (t := 41) rfl (fun hg1 => ?_) (fun hg1 => ?_)
    · refine TL.gs ?_
      refine TL.gs ?_
      refine TL.gs ?_
      refine TL.gs ?_
      refine TL.p Pu.kt ?_
      refine TL.p Pu.as ?_
      refine TL.nil ?_
      exact TQ.sub (by repeat (first | exact trivial | refine ⟨rfl, ?_⟩ | refine ⟨trivial, ?_⟩ | refine ⟨(by show some (Value.bool _) = some (Value.bool _); simp [hg1]), ?_⟩)) (by repeat (first | exact KSub.nil | refine KSub.cons (by repeat (first | exact Pick.hd | apply Pick.tl)) ?_)) hJ1
    · refine TL.gd Pu.mv ?_
      refine TL.gd Pu.mv ?_
      refine TL.gd Pu.ng ?_
      refine TL.gd Pu.lt ?_
      refine TL.p Pu.kf ?_
      refine TL.p Pu.as ?_
      refine TL.nil ?_
      exact TQ.sub (by repeat (first | exact trivial | refine ⟨rfl, ?_⟩ | refine ⟨trivial, ?_⟩ | refine ⟨(by show some (Value.bool _) = some (Value.bool _); simp [hg1]), ?_⟩)) (by repeat (first | exact KSub.nil | refine KSub.cons (by repeat (first | exact Pick.hd | apply Pick.tl)) ?_)) hJ1
theorem restC_form {f : Nat → Int} : restC (restV f) = [.agg #[.int .i64 (rl f), .int .i64 (rh f)], .agg #[.int .i64 ((restV f).getD 2 0), .int .i64 ((restV f).getD 3 0)], .int .u8 ((restV f).getD 4 0)] := rfl
theorem RestOk.of_packs {pk : Nat → Nat → Int} {np : Nat} (hP : ∀ q, q < np → packOk (pk q) = true) : RestOk (fun q => rl (pk q)) (fun q => rh (pk q)) np :=
  ⟨fun q hq => (rest_bd (hP q hq)).1, fun q hq => (rest_bd (hP q hq)).2.1, fun q hq => (rest_bd (hP q hq)).2.2⟩
theorem refSum_any {A B : Option Addr} {np cp n cn : Nat} {pk : Nat → Nat → Int} {v : Nat → Int} {w : World} (hn : n ≤ 1000) (hP : ∀ q, q < np → packOk (pk q) = true) (hv : Inx v n np)
    (hR : RdR w 11 A np (fun k => packL (pk k))) (hI : RdR w 1 B n (fun k => [.int .i64 (v k)])) :
    Calls Tryd.prog 53 #[.slice A np cp, .slice B n cn] w (Ret w (.agg #[.int .i64 (wS (fun q => rl (pk q)) v n), .int .i64 (wS (fun q => rh (pk q)) v n)])) := by
  have hr := RestOk.of_packs hP
  have sx := sumF_le (hr.bd0 hv) hn
  have sy := sumF_le (hr.bd1 hv) hn
  refine K_enter (S := []) (K := []) Tryd.func53 rfl Tryd.ntmps53 rfl (Sat.start _) ?_
  refine TW.seq fun Y1 hY1 => ?_
  refine TW.region ?_
  refine TL.m (Mk.al ty_zr23) ?_
  intro b1
  refine TL.nil ?_
  refine TQ.thenN (hY1 _ _ ?_)
  refine TW.seq fun Y2 hY2 => ?_
  refine TW.region ?_
  refine TL.m (Mk.al ty_zr23) ?_
  intro b2
  refine TL.nil ?_
  refine TQ.thenN (hY2 _ _ ?_)
  refine TW.seq fun Y3 hY3 => ?_
  refine TW.seq fun Y4 hY4 => ?_
  refine TW.region ?_
  refine TL.p Pu.as ?_
  refine TL.nil ?_
  refine TQ.thenN (hY4 _ _ ?_)
  refine TW.block ?_
  refine TW.loop1 (fun (k : Nat) => [(6, .int .i64 (k : Int)), (0, .slice A np cp), (1, .slice B n cn), (5, .pointer (some ⟨b2, 0, none⟩)), (4, .pointer (some ⟨b1, 0, none⟩))]) (fun k => [.blk b2 23 (spL (sumF (fun q => rl (pk (v q).toNat)) k) (sumF (fun q => rh (pk (v q).toNat)) k)), .blk b1 23 (spL 0 0)]) (fun k => k ≤ n) (fun k => n - k) 0 (by repeat (first | exact trivial | refine ⟨rfl, ?_⟩ | refine ⟨trivial, ?_⟩)) ?_ ?_ ?_
  · exact (by repeat (first | exact KSub.nil | refine KSub.cons (by repeat (first | exact Pick.hd | apply Pick.tl)) ?_))
  · exact Nat.zero_le _
  rintro k hk Z0 hZ0
  refine TW.seq fun Y5 hY5 => ?_
  refine TW.seq fun Y6 hY6 => ?_
  refine TW.region ?_
  refine TL.p Pu.mv ?_
  refine TL.p Pu.mv ?_
  refine TL.p (Pu.ln Tryd.underlying47) ?_
  refine TL.p Pu.lt ?_
  refine TL.nil ?_
  refine TQ.thenN (hY6 _ _ ?_)
  refine TW.cond rfl (fun hc0 => ?_) (fun hc0 => ?_)
  · try simp only [decide_eq_true_eq, decide_eq_false_iff_not, Bool.not_eq_true', Bool.not_eq_false', Bool.and_eq_true, Bool.or_eq_true, Bool.and_eq_false_iff, Bool.or_eq_false_iff, Int.not_lt, Int.not_le] at hc0
    have hkn : k < n := by omega
    have hvk := hv k hkn
    have sxk := sx k hk
    have syk := sy k hk
    have b0 := hr.bd0 hv k hkn
    have b1' := hr.bd1 hv k hkn
    refine TW.skip ?_
    refine TQ.thenN (hY5 _ _ ?_)
    refine TW.seq fun Y7 hY7 => ?_
    refine TW.block ?_
    refine TW.seq fun Y8 hY8 => ?_
    refine TW.region ?_
    refine TL.p Pu.mv ?_
    refine TL.p Pu.mv ?_
    refine TL.p Pu.mv ?_
    refine TL.p (Pu.el ty_et47) ?_
    refine TL.p (Pu.ld ty_sc3) ?_
    refine TL.p (Pu.el (q := (v k).toNat) ty_et26 (hk := rfl)) ?_
    refine TL.p (Pu.lds ty_ag25) ?_
    refine TL.cr rfl (enters Tryd.func28 rfl rfl) (fun w hw => by
        have h9 := refrest_any (pk (v k).toNat) w (hP _ (by omega))
        rw [restC_form] at h9
        exact h9) ?_
    refine TL.p Pu.mv ?_
    refine TL.p Pu.ex ?_
    refine TL.p Pu.ex ?_
    refine TL.p Pu.ex ?_
    refine TL.m (Mk.al ty_zr23) ?_
    intro b3
    refine TL.m (Mk.al ty_zr23) ?_
    intro b4
    first | refine TL.st ty_sz23 ?_ | refine TL.se ty_sz23 ?_
    first | refine TL.st ty_sz23 ?_ | refine TL.se ty_sz23 ?_
    refine TL.p Pu.as ?_
    refine TL.nil ?_
    refine TQ.thenN (hY8 _ _ ?_)
    refine TW.region ?_
    refine TL.p (by first | exact Pu.fb ty_fa23_0 | exact Pu.fe ty_fa23_0) ?_
    refine TL.p (Pu.ld ty_sc3) ?_
    refine TL.p (by first | exact Pu.fb ty_fa23_0 | exact Pu.fe ty_fa23_0) ?_
    refine TL.p (Pu.ld ty_sc3) ?_
    refine TL.p Pu.ad ?_
    refine TL.p (by first | exact Pu.fb ty_fa23_1 | exact Pu.fe ty_fa23_1) ?_
    refine TL.p (Pu.ld ty_sc3) ?_
    refine TL.p (by first | exact Pu.fb ty_fa23_1 | exact Pu.fe ty_fa23_1) ?_
    refine TL.p (Pu.ld ty_sc3) ?_
    refine TL.p Pu.ad ?_
    refine TL.p Pu.bd ?_
    first | refine TL.st ty_sz23 ?_ | refine TL.se ty_sz23 ?_
    refine TL.nil ?_
    refine TQ.blkN ?_
    refine TQ.thenN (hY7 _ _ ?_)
    refine TW.region ?_
    refine TL.p Pu.mv ?_
    refine TL.p Pu.ad ?_
    refine TL.p Pu.as ?_
    refine TL.nil ?_
    refine TQ.thenN (hZ0 (k + 1) _ _ ?_ ?_ (by repeat (first | exact trivial | refine ⟨rfl, ?_⟩ | refine ⟨trivial, ?_⟩)) ?_)
    · exact (by omega)
    · exact (by first | omega | (simp only []; omega) | (simp; omega))
    · exact (by repeat (first | exact KSub.nil | refine KSub.cons (by repeat (first | exact Pick.hd | apply Pick.tl)) ?_))
  · try simp only [decide_eq_true_eq, decide_eq_false_iff_not, Bool.not_eq_true', Bool.not_eq_false', Bool.and_eq_true, Bool.or_eq_true, Bool.and_eq_false_iff, Bool.or_eq_false_iff, Int.not_lt, Int.not_le] at hc0
    obtain rfl : k = n := by omega
    refine TW.exit ?_
    refine TQ.thenX ?_
    refine TQ.thenX ?_
    refine TQ.blkX ?_
    refine TQ.thenN (hY3 _ _ ?_)
    refine TW.seq fun Y9 hY9 => ?_
    refine TW.region ?_
    refine TL.p (Pu.lds ty_ag23) ?_
    first | refine TL.st ty_sz23 ?_ | refine TL.se ty_sz23 ?_
    refine TL.nil ?_
    refine TQ.thenN (hY9 _ _ ?_)
    refine TW.ret ?_
    refine TQ.ret Tryd.results53 rfl ((RV.cs ty_ag23 .nil)) ?_
    exact fun w hw => Ret.of hw
end Go.Proofs.YtagcnokaajinlaaDoor
