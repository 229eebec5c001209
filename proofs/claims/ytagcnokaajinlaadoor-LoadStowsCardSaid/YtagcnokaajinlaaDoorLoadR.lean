/-
  The reference's Great, SameInts; SamePacks at packs that are the same.
-/
import Derived.Test.YtagcnokaajinlaaDoorLoadM
namespace Go.Proofs.YtagcnokaajinlaaDoor
set_option linter.all false
set_option linter.unusedVariables false
set_option linter.unusedSimpArgs false
open Go.RowKit
def sameI (n1 : Nat) (v1 : Nat → Int) (n2 : Nat) (v2 : Nat → Int) : Bool := decide (n1 = n2) && allB n1 (fun k => decide (v1 k = v2 k))
theorem sameInts_any {A B : Option Addr} {n1 n2 c1 c2 : Nat} {v1 v2 : Nat → Int} {w : World} (hn : n1 ≤ 1000000000) (hA : RdR w 1 A n1 (fun k => [.int .i64 (v1 k)])) (hB : RdR w 1 B n2 (fun k => [.int .i64 (v2 k)])) :
    Calls Tryd.prog 18 #[.slice A n1 c1, .slice B n2 c2] w (Ret w (.bool (sameI n1 v1 n2 v2))) := by
  refine K_enter (S := []) (K := []) Tryd.func18 rfl Tryd.ntmps18 rfl (Sat.start _) ?_
  refine TW.seq fun Y1 hY1 => ?_
  refine TW.region ?_
  refine TL.p Pu.as ?_
  refine TL.nil ?_
  refine TQ.thenN (hY1 _ _ ?_)
  refine TW.seq fun Y2 hY2 => ?_
  refine TW.seq fun Y3 hY3 => ?_
  refine TW.region ?_
  refine TL.p Pu.mv ?_
  refine TL.p (Pu.ln Tryd.underlying47) ?_
  refine TL.p Pu.mv ?_
  refine TL.p (Pu.ln Tryd.underlying47) ?_
  refine TL.p Pu.ne ?_
  refine TL.nil ?_
  refine TQ.thenN (hY3 _ _ ?_)
  refine TW.cond rfl (fun hc0 => ?_) (fun hc0 => ?_)
  · try simp only [decide_eq_true_eq, decide_eq_false_iff_not, Bool.not_eq_true', Bool.not_eq_false', Bool.and_eq_true, Bool.or_eq_true, Bool.and_eq_false_iff, Bool.or_eq_false_iff, Int.not_lt, Int.not_le] at hc0
    refine TW.seq fun Y4 hY4 => ?_
    refine TW.region ?_
    refine TL.p Pu.as ?_
    refine TL.nil ?_
    refine TQ.thenN (hY4 _ _ ?_)
    refine TW.ret ?_
    refine TQ.thenR ?_
    refine TQ.ret Tryd.results18 rfl ((.tmp rfl .nil)) ?_
    exact fun w hw => ⟨ret_bool (by
      have : ¬ n1 = n2 := fun e => by subst e; simp at hc0
      simp [sameI, this]), Chg.ext hw.chg⟩
  · try simp only [decide_eq_true_eq, decide_eq_false_iff_not, Bool.not_eq_true', Bool.not_eq_false', Bool.and_eq_true, Bool.or_eq_true, Bool.and_eq_false_iff, Bool.or_eq_false_iff, Int.not_lt, Int.not_le] at hc0
    have hnn : n1 = n2 := by
      have : ¬ ¬ ((n1 : Int) = (n2 : Int)) := by simpa using hc0
      omega
    refine TW.skip ?_
    refine TQ.thenN (hY2 _ _ ?_)
    refine TW.seq fun Y5 hY5 => ?_
    refine TW.seq fun Y6 hY6 => ?_
    refine TW.region ?_
    refine TL.p Pu.as ?_
    refine TL.nil ?_
    refine TQ.thenN (hY6 _ _ ?_)
    refine TW.block ?_
    refine TW.loop1 (fun (k : Nat) => [(5, .int .i64 (k : Int)), (0, .slice A n1 c1), (1, .slice B n2 c2)]) (fun k => []) (fun k => k ≤ n1 ∧ ∀ j, j < k → v1 j = v2 j) (fun k => n1 - k) 0 (by repeat (first | exact trivial | refine ⟨rfl, ?_⟩ | refine ⟨trivial, ?_⟩)) ?_ ?_ ?_
    · exact (by repeat (first | exact KSub.nil | refine KSub.cons (by repeat (first | exact Pick.hd | apply Pick.tl)) ?_))
    · exact ⟨by omega, fun j hj => by omega⟩
    rintro k ⟨hk, hall⟩ Z0 hZ0
    refine TW.seq fun Y7 hY7 => ?_
    refine TW.seq fun Y8 hY8 => ?_
    refine TW.region ?_
    refine TL.p Pu.mv ?_
    refine TL.p Pu.mv ?_
    refine TL.p (Pu.ln Tryd.underlying47) ?_
    refine TL.p Pu.lt ?_
    refine TL.nil ?_
    refine TQ.thenN (hY8 _ _ ?_)
    refine TW.cond rfl (fun hc1 => ?_) (fun hc1 => ?_)
    · try simp only [decide_eq_true_eq, decide_eq_false_iff_not, Bool.not_eq_true', Bool.not_eq_false', Bool.and_eq_true, Bool.or_eq_true, Bool.and_eq_false_iff, Bool.or_eq_false_iff, Int.not_lt, Int.not_le] at hc1
      refine TW.skip ?_
      refine TQ.thenN (hY7 _ _ ?_)
      refine TW.seq fun Y9 hY9 => ?_
      refine TW.block ?_
      refine TW.seq fun Y10 hY10 => ?_
      refine TW.dw 9 ?_
      refine RK.tk Pu.mv ?_
      refine RK.tk Pu.mv ?_
      refine RK.tk (Pu.el ty_et47) ?_
      refine RK.tk (Pu.ld ty_sc3) ?_
      refine RK.tk Pu.mv ?_
      refine RK.tk Pu.mv ?_
      refine RK.tk (Pu.el ty_et47) ?_
      refine RK.tk (Pu.ld ty_sc3) ?_
      refine RK.tk Pu.ne ?_
      refine RK.ch [] ?_ trivial
      refine WK.n ?_
      refine TL.nil ?_
      refine TQ.thenN (hY10 _ _ ?_)
      refine TW.cond rfl (fun hc2 => ?_) (fun hc2 => ?_)
      · try simp only [decide_eq_true_eq, decide_eq_false_iff_not, Bool.not_eq_true', Bool.not_eq_false', Bool.and_eq_true, Bool.or_eq_true, Bool.and_eq_false_iff, Bool.or_eq_false_iff, Int.not_lt, Int.not_le] at hc2
        have hbad : ¬ v1 k = v2 k := by simpa using hc2
        refine TW.seq fun Y11 hY11 => ?_
        refine TW.region ?_
        refine TL.p Pu.as ?_
        refine TL.nil ?_
        refine TQ.thenN (hY11 _ _ ?_)
        refine TW.ret ?_
        refine TQ.blkR ?_
        refine TQ.thenR ?_
        refine TQ.thenR ?_
        refine TQ.blkR ?_
        refine TQ.thenR ?_
        refine TQ.ret Tryd.results18 rfl ((.tmp rfl .nil)) ?_
        exact fun w hw => ⟨ret_bool (by
          cases h : sameI n1 v1 n2 v2 with
          | false => rfl
          | true =>
            simp only [sameI, Bool.and_eq_true, allB_iff, decide_eq_true_eq] at h
            exact absurd (h.2 k (by omega)) hbad), Chg.ext hw.chg⟩
      · try simp only [decide_eq_true_eq, decide_eq_false_iff_not, Bool.not_eq_true', Bool.not_eq_false', Bool.and_eq_true, Bool.or_eq_true, Bool.and_eq_false_iff, Bool.or_eq_false_iff, Int.not_lt, Int.not_le] at hc2
        have hgood : v1 k = v2 k := by simpa using hc2
        refine TW.skip ?_
        refine TQ.blkN ?_
        refine TQ.thenN (hY9 _ _ ?_)
        refine TW.region ?_
        refine TL.p Pu.mv ?_
        refine TL.p Pu.ad ?_
        refine TL.p Pu.as ?_
        refine TL.nil ?_
        refine TQ.thenN (hZ0 (k + 1) _ _ ?_ ?_ (by repeat (first | exact trivial | refine ⟨rfl, ?_⟩ | refine ⟨trivial, ?_⟩)) ?_)
        · refine ⟨by omega, fun j hj => ?_⟩
          by_cases h : j = k
          · subst h; exact hgood
          · exact hall j (by omega)
        · exact (by first | omega | (simp only []; omega) | (simp; omega))
        · exact (by repeat (first | exact KSub.nil | refine KSub.cons (by repeat (first | exact Pick.hd | apply Pick.tl)) ?_))
    · try simp only [decide_eq_true_eq, decide_eq_false_iff_not, Bool.not_eq_true', Bool.not_eq_false', Bool.and_eq_true, Bool.or_eq_true, Bool.and_eq_false_iff, Bool.or_eq_false_iff, Int.not_lt, Int.not_le] at hc1
      refine TW.exit ?_
      refine TQ.thenX ?_
      refine TQ.thenX ?_
      refine TQ.blkX ?_
      refine TQ.thenN (hY5 _ _ ?_)
      refine TW.seq fun Y12 hY12 => ?_
      refine TW.region ?_
      refine TL.p Pu.as ?_
      refine TL.nil ?_
      refine TQ.thenN (hY12 _ _ ?_)
      refine TW.ret ?_
      refine TQ.ret Tryd.results18 rfl ((.tmp rfl .nil)) ?_
      exact fun w hw => ⟨ret_bool (by
        obtain rfl : k = n1 := by omega
        simp only [sameI, Bool.and_eq_true, allB_iff, decide_eq_true_eq]
        exact ⟨hnn, hall⟩), Chg.ext hw.chg⟩
set_option maxRecDepth 100000 in
theorem samePacks_any {A B : Option Addr} {n c1 c2 : Nat} {f : Nat → Nat → Int} {w : World} (hn : n ≤ 1000000000) (hA : RdR w 11 A n (fun k => packL (f k))) (hB : RdR w 11 B n (fun k => packL (f k))) :
    Calls Tryd.prog 12 #[.slice A n c1, .slice B n c2] w (Ret w (.bool true)) := by
  refine K_enter (S := []) (K := []) Tryd.func12 rfl Tryd.ntmps12 rfl (Sat.start _) ?_
  refine TW.seq fun Y1 hY1 => ?_
  refine TW.region ?_
  refine TL.p Pu.as ?_
  refine TL.nil ?_
  refine TQ.thenN (hY1 _ _ ?_)
  refine TW.seq fun Y2 hY2 => ?_
  refine TW.seq fun Y3 hY3 => ?_
  refine TW.region ?_
  refine TL.p Pu.mv ?_
  refine TL.p (Pu.ln Tryd.underlying26) ?_
  refine TL.p Pu.mv ?_
  refine TL.p (Pu.ln Tryd.underlying26) ?_
  refine TL.p Pu.ne ?_
  refine TL.nil ?_
  refine TQ.thenN (hY3 _ _ ?_)
  refine TW.condF rfl ((by simp)) ?_
  refine TW.skip ?_
  refine TQ.thenN (hY2 _ _ ?_)
  refine TW.seq fun Y4 hY4 => ?_
  refine TW.seq fun Y5 hY5 => ?_
  refine TW.region ?_
  refine TL.p Pu.as ?_
  refine TL.nil ?_
  refine TQ.thenN (hY5 _ _ ?_)
  refine TW.block ?_
  refine TW.loop1 (fun (k : Nat) => [(5, .int .i64 (k : Int)), (0, .slice A n c1), (1, .slice B n c2)]) (fun k => []) (fun k => k ≤ n) (fun k => n - k) 0 (by repeat (first | exact trivial | refine ⟨rfl, ?_⟩ | refine ⟨trivial, ?_⟩)) ?_ ?_ ?_
  · exact (by repeat (first | exact KSub.nil | refine KSub.cons (by repeat (first | exact Pick.hd | apply Pick.tl)) ?_))
  · exact Nat.zero_le _
  rintro k hk Z0 hZ0
  refine TW.seq fun Y6 hY6 => ?_
  refine TW.seq fun Y7 hY7 => ?_
  refine TW.region ?_
  refine TL.p Pu.mv ?_
  refine TL.p Pu.mv ?_
  refine TL.p (Pu.ln Tryd.underlying26) ?_
  refine TL.p Pu.lt ?_
  refine TL.nil ?_
  refine TQ.thenN (hY7 _ _ ?_)
  refine TW.cond rfl (fun hc1 => ?_) (fun hc1 => ?_)
  · try simp only [decide_eq_true_eq, decide_eq_false_iff_not, Bool.not_eq_true', Bool.not_eq_false', Bool.and_eq_true, Bool.or_eq_true, Bool.and_eq_false_iff, Bool.or_eq_false_iff, Int.not_lt, Int.not_le] at hc1
    refine TW.skip ?_
    refine TQ.thenN (hY6 _ _ ?_)
    refine TW.seq fun Y8 hY8 => ?_
    refine TW.block ?_
    refine TW.seq fun Y9 hY9 => ?_
    refine TW.dw 9 ?_
    refine RK.tk Pu.mv ?_
    refine RK.tk Pu.mv ?_
    refine RK.tk (Pu.el ty_et26) ?_
    refine RK.tk (Pu.lds ty_ag25) ?_
    refine RK.tk Pu.mv ?_
    refine RK.tk Pu.mv ?_
    refine RK.tk (Pu.el ty_et26) ?_
    refine RK.tk (Pu.lds ty_ag25) ?_
    refine RK.tk (Pu.bn (r := .bool false) rfl rfl (fun w => by go_simp)) ?_
    refine RK.ch [] ?_ trivial
    refine WK.n ?_
    refine TL.nil ?_
    refine TQ.thenN (hY9 _ _ ?_)
    refine TW.condF rfl (rfl) ?_
    refine TW.skip ?_
    refine TQ.blkN ?_
    refine TQ.thenN (hY8 _ _ ?_)
    refine TW.region ?_
    refine TL.p Pu.mv ?_
    refine TL.p Pu.ad ?_
    refine TL.p Pu.as ?_
    refine TL.nil ?_
    refine TQ.thenN (hZ0 (k + 1) _ _ ?_ ?_ (by repeat (first | exact trivial | refine ⟨rfl, ?_⟩ | refine ⟨trivial, ?_⟩)) ?_)
    · exact (by omega)
    · exact (by first | omega | (simp only []; omega) | (simp; omega))
    · exact (by repeat (first | exact KSub.nil | refine KSub.cons (by repeat (first | exact Pick.hd | apply Pick.tl)) ?_))
  · try simp only [decide_eq_true_eq, decide_eq_false_iff_not, Bool.not_eq_true', Bool.not_eq_false', Bool.and_eq_true, Bool.or_eq_true, Bool.and_eq_false_iff, Bool.or_eq_false_iff, Int.not_lt, Int.not_le] at hc1
    refine TW.exit ?_
    refine TQ.thenX ?_
    refine TQ.thenX ?_
    refine TQ.blkX ?_
    refine TQ.thenN (hY4 _ _ ?_)
    refine TW.seq fun Y10 hY10 => ?_
    refine TW.region ?_
    refine TL.p Pu.as ?_
    refine TL.nil ?_
    refine TQ.thenN (hY10 _ _ ?_)
    refine TW.ret ?_
    refine TQ.ret Tryd.results12 rfl ((.tmp rfl .nil)) ?_
    exact fun w hw => Ret.of hw
end Go.Proofs.YtagcnokaajinlaaDoor
