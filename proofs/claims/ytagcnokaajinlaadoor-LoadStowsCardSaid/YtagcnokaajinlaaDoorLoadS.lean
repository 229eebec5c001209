/-
  The reference's Great; SameTies at loads that hold the same.
-/
import Derived.Test.YtagcnokaajinlaaDoorLoadR
namespace Go.Proofs.YtagcnokaajinlaaDoor
set_option linter.all false
set_option linter.unusedVariables false
set_option linter.unusedSimpArgs false
open Go.RowKit
def bigT (l : Nat → Nat) : Bool := decide ((16 : Int) < (l 0 : Int)) || decide ((16 : Int) < (l 1 : Int)) || decide ((16 : Int) < (l 2 : Int))
def greatB (np m : Nat) (l : Nat → Nat → Nat) : Bool := decide ((40 : Int) < (np : Int)) || decide ((12 : Int) < (m : Int)) || anyB m (fun i => bigT (l i))
theorem great_any {A AT : Option Addr} {np m cp cpT : Nat} {a : Nat → Nat → Option Addr} {l c : Nat → Nat → Nat} {w : World} (hT : RdR w 3 AT m (fun i => tieL (a i) (l i) (c i))) :
    Calls Tryd.prog 6 #[.slice A np cp, .slice AT m cpT] w (Ret w (.bool (greatB np m l))) := by
  refine K_enter (S := []) (K := []) Tryd.func6 rfl Tryd.ntmps6 rfl (Sat.start _) ?_
  refine TW.seq fun Y1 hY1 => ?_
  refine TW.region ?_
  refine TL.p Pu.as ?_
  refine TL.nil ?_
  refine TQ.thenN (hY1 _ _ ?_)
  refine TW.seq fun Y2 hY2 => ?_
  refine TW.seq fun Y3 hY3 => ?_
  refine TW.join [(13, .bool (decide ((40 : Int) < (np : Int)) || decide ((12 : Int) < (m : Int))))] ?_ (fun hJ1 => ?_)
  · refine TQ.thenN (hY3 _ _ ?_)
    refine TW.cond rfl (fun hc0 => ?_) (fun hc0 => ?_)
    · try simp only [decide_eq_true_eq, decide_eq_false_iff_not, Bool.not_eq_true', Bool.not_eq_false', Bool.and_eq_true, Bool.or_eq_true, Bool.and_eq_false_iff, Bool.or_eq_false_iff, Int.not_lt, Int.not_le] at hc0
      have hbig : (decide ((40 : Int) < (np : Int)) || decide ((12 : Int) < (m : Int))) = true := by simpa using hc0
      refine TW.seq fun Y4 hY4 => ?_
      refine TW.region ?_
      refine TL.p Pu.as ?_
      refine TL.nil ?_
      refine TQ.thenN (hY4 _ _ ?_)
      refine TW.ret ?_
      refine TQ.thenR ?_
      refine TQ.ret Tryd.results6 rfl ((.tmp rfl .nil)) ?_
      exact fun w hw => ⟨ret_bool (by unfold greatB; rw [hbig]; rfl), Chg.ext hw.chg⟩
    · try simp only [decide_eq_true_eq, decide_eq_false_iff_not, Bool.not_eq_true', Bool.not_eq_false', Bool.and_eq_true, Bool.or_eq_true, Bool.and_eq_false_iff, Bool.or_eq_false_iff, Int.not_lt, Int.not_le] at hc0
      have hsm : (decide ((40 : Int) < (np : Int)) || decide ((12 : Int) < (m : Int))) = false := by simpa using hc0
      have hm : m ≤ 12 := by
        simp only [Bool.or_eq_false_iff, decide_eq_false_iff_not] at hsm
        omega
      refine TW.skip ?_
      refine TQ.thenN (hY2 _ _ ?_)
      refine TW.seq fun Y5 hY5 => ?_
      refine TW.seq fun Y6 hY6 => ?_
      refine TW.region ?_
      refine TL.p Pu.as ?_
      refine TL.nil ?_
      refine TQ.thenN (hY6 _ _ ?_)
      refine TW.block ?_
      refine TW.loop1 (fun (k : Nat) => [(5, .int .i64 (k : Int)), (1, .slice AT m cpT)]) (fun k => []) (fun k => k ≤ m ∧ ∀ j, j < k → bigT (l j) = false) (fun k => m - k) 0 (by repeat (first | exact trivial | refine ⟨rfl, ?_⟩ | refine ⟨trivial, ?_⟩)) ?_ ?_ ?_
      · exact (by repeat (first | exact KSub.nil | refine KSub.cons (by repeat (first | exact Pick.hd | apply Pick.tl)) ?_))
      · exact ⟨by omega, fun j hj => by omega⟩
      rintro k ⟨hk, hall⟩ Z0 hZ0
      refine TW.seq fun Y7 hY7 => ?_
      refine TW.seq fun Y8 hY8 => ?_
      refine TW.region ?_
      refine TL.p Pu.mv ?_
      refine TL.p Pu.mv ?_
      refine TL.p (Pu.ln Tryd.underlying27) ?_
      refine TL.p Pu.lt ?_
      refine TL.nil ?_
      refine TQ.thenN (hY8 _ _ ?_)
      refine TW.cond rfl (fun hc1 => ?_) (fun hc1 => ?_)
      · try simp only [decide_eq_true_eq, decide_eq_false_iff_not, Bool.not_eq_true', Bool.not_eq_false', Bool.and_eq_true, Bool.or_eq_true, Bool.and_eq_false_iff, Bool.or_eq_false_iff, Int.not_lt, Int.not_le] at hc1
        refine TW.skip ?_
        refine TQ.thenN (hY7 _ _ ?_)
        refine TW.seq fun Y9 hY9 => ?_
        refine TW.block ?_
        refine TW.seq fun Y10 hY10 => ?_
        refine TW.join [(44, .bool (bigT (l k)))] ?_ (fun hJ2 => ?_)
        · refine TQ.thenN (hY10 _ _ ?_)
          refine TW.cond rfl (fun hc2 => ?_) (fun hc2 => ?_)
          · try simp only [decide_eq_true_eq, decide_eq_false_iff_not, Bool.not_eq_true', Bool.not_eq_false', Bool.and_eq_true, Bool.or_eq_true, Bool.and_eq_false_iff, Bool.or_eq_false_iff, Int.not_lt, Int.not_le] at hc2
            have hbad : bigT (l k) = true := hc2
            refine TW.seq fun Y11 hY11 => ?_
            refine TW.region ?_
            refine TL.p Pu.as ?_
            refine TL.nil ?_
            refine TQ.thenN (hY11 _ _ ?_)
            refine TW.ret ?_
            refine TQ.blkR ?_
            refine TQ.thenR ?_
            refine TQ.thenR ?_
            refine TQ.blkR ?_
            refine TQ.thenR ?_
            refine TQ.ret Tryd.results6 rfl ((.tmp rfl .nil)) ?_
            exact fun w hw => ⟨ret_bool (by
              have : anyB m (fun i => bigT (l i)) = true := anyB_iff.2 ⟨k, by omega, hbad⟩
              unfold greatB; rw [this, Bool.or_true]), Chg.ext hw.chg⟩
          · try simp only [decide_eq_true_eq, decide_eq_false_iff_not, Bool.not_eq_true', Bool.not_eq_false', Bool.and_eq_true, Bool.or_eq_true, Bool.and_eq_false_iff, Bool.or_eq_false_iff, Int.not_lt, Int.not_le] at hc2
            have hgood : bigT (l k) = false := hc2
            refine TW.skip ?_
            refine TQ.blkN ?_
            refine TQ.thenN (hY9 _ _ ?_)
            refine TW.region ?_
            refine TL.p Pu.mv ?_
            refine TL.p Pu.ad ?_
            refine TL.p Pu.as ?_
            refine TL.nil ?_
            refine TQ.thenN (hZ0 (k + 1) _ _ ?_ ?_ (by repeat (first | exact trivial | refine ⟨rfl, ?_⟩ | refine ⟨trivial, ?_⟩)) ?_)
            · refine ⟨by omega, fun j hj => ?_⟩
              by_cases h : j = k
              · subst h; exact hgood
              · exact hall j (by omega)
            · exact (by first | omega | (simp only []; omega) | (simp; omega))
            · exact (by repeat (first | exact KSub.nil | refine KSub.cons (by repeat (first | exact Pick.hd | apply Pick.tl)) ?_))
        refine TW.region ?_
        refine TL.p Pu.mv ?_
        refine TL.p Pu.mv ?_
        refine TL.p (Pu.el ty_et27) ?_
        refine TL.p (by first | exact Pu.fb ty_fa59_0 | exact Pu.fe ty_fa59_0) ?_
        refine TL.p (Pu.ld ty_sc47) ?_
        refine TL.p (Pu.ln Tryd.underlying47) ?_
        refine TL.p Pu.gt ?_
        refine TL.p Pu.mv ?_
        refine TL.guard (t := 27) rfl (fun hg1 => ?_) (fun hg1 => ?_)
        · refine TL.gs ?_
          refine TL.gs ?_
          refine TL.gs ?_
          refine TL.gs ?_
          refine TL.gs ?_
          refine TL.gs ?_
          refine TL.gs ?_
          refine TL.p Pu.kt ?_
          refine TL.p Pu.mv ?_
          refine TL.gs ?_
          refine TL.gs ?_
          refine TL.gs ?_
          refine TL.gs ?_
          refine TL.gs ?_
          refine TL.gs ?_
          refine TL.gs ?_
          refine TL.p Pu.kt ?_
          refine TL.nil ?_
          exact TQ.sub (by repeat (first | exact trivial | refine ⟨rfl, ?_⟩ | refine ⟨trivial, ?_⟩ | refine ⟨(by show some (Value.bool _) = some (Value.bool _); simp [hg1, bigT]), ?_⟩)) (by repeat (first | exact KSub.nil | refine KSub.cons (by repeat (first | exact Pick.hd | apply Pick.tl)) ?_)) hJ2
        · refine TL.gd Pu.mv ?_
          refine TL.gd Pu.mv ?_
          refine TL.gd (Pu.el ty_et27) ?_
          refine TL.gd (by first | exact Pu.fb ty_fa59_1 | exact Pu.fe ty_fa59_1) ?_
          refine TL.gd (Pu.ld ty_sc47) ?_
          refine TL.gd (Pu.ln Tryd.underlying47) ?_
          refine TL.gd Pu.gt ?_
          refine TL.p Pu.kf ?_
          refine TL.p Pu.mv ?_
          refine TL.guard (t := 36) rfl (fun hg2 => ?_) (fun hg2 => ?_)
          · refine TL.gs ?_
            refine TL.gs ?_
            refine TL.gs ?_
            refine TL.gs ?_
            refine TL.gs ?_
            refine TL.gs ?_
            refine TL.gs ?_
            refine TL.p Pu.kt ?_
            refine TL.nil ?_
            exact TQ.sub (by repeat (first | exact trivial | refine ⟨rfl, ?_⟩ | refine ⟨trivial, ?_⟩ | refine ⟨(by show some (Value.bool _) = some (Value.bool _); simp [hg1, hg2, bigT]), ?_⟩)) (by repeat (first | exact KSub.nil | refine KSub.cons (by repeat (first | exact Pick.hd | apply Pick.tl)) ?_)) hJ2
          · refine TL.gd Pu.mv ?_
            refine TL.gd Pu.mv ?_
            refine TL.gd (Pu.el ty_et27) ?_
            refine TL.gd (by first | exact Pu.fb ty_fa59_2 | exact Pu.fe ty_fa59_2) ?_
            refine TL.gd (Pu.ld ty_sc47) ?_
            refine TL.gd (Pu.ln Tryd.underlying47) ?_
            refine TL.gd Pu.gt ?_
            refine TL.p Pu.kf ?_
            refine TL.nil ?_
            exact TQ.sub (by repeat (first | exact trivial | refine ⟨rfl, ?_⟩ | refine ⟨trivial, ?_⟩ | refine ⟨(by show some (Value.bool _) = some (Value.bool _); simp [hg1, hg2, bigT]), ?_⟩)) (by repeat (first | exact KSub.nil | refine KSub.cons (by repeat (first | exact Pick.hd | apply Pick.tl)) ?_)) hJ2
      · try simp only [decide_eq_true_eq, decide_eq_false_iff_not, Bool.not_eq_true', Bool.not_eq_false', Bool.and_eq_true, Bool.or_eq_true, Bool.and_eq_false_iff, Bool.or_eq_false_iff, Int.not_lt, Int.not_le] at hc1
        refine TW.exit ?_
        refine TQ.thenX ?_
        refine TQ.thenX ?_
        refine TQ.blkX ?_
        refine TQ.thenN (hY5 _ _ ?_)
        refine TW.seq fun Y12 hY12 => ?_
        refine TW.region ?_
        refine TL.p Pu.as ?_
        refine TL.nil ?_
        refine TQ.thenN (hY12 _ _ ?_)
        refine TW.ret ?_
        refine TQ.ret Tryd.results6 rfl ((.tmp rfl .nil)) ?_
        exact fun w hw => ⟨ret_bool (by
          obtain rfl : k = m := by omega
          unfold greatB; rw [hsm, anyB_false.2 hall]; rfl), Chg.ext hw.chg⟩
  refine TW.region ?_
  refine TL.p Pu.mv ?_
  refine TL.p (Pu.ln Tryd.underlying26) ?_
  refine TL.p Pu.gt ?_
  refine TL.p Pu.mv ?_
  refine TL.guard (t := 9) rfl (fun hg3 => ?_) (fun hg3 => ?_)
  · refine TL.gs ?_
    refine TL.gs ?_
    refine TL.gs ?_
    refine TL.p Pu.kt ?_
    refine TL.nil ?_
    exact TQ.sub (by repeat (first | exact trivial | refine ⟨rfl, ?_⟩ | refine ⟨trivial, ?_⟩ | refine ⟨(by show some (Value.bool _) = some (Value.bool _); simp [hg3]), ?_⟩)) (by repeat (first | exact KSub.nil | refine KSub.cons (by repeat (first | exact Pick.hd | apply Pick.tl)) ?_)) hJ1
  · refine TL.gd Pu.mv ?_
    refine TL.gd (Pu.ln Tryd.underlying27) ?_
    refine TL.gd Pu.gt ?_
    refine TL.p Pu.kf ?_
    refine TL.nil ?_
    exact TQ.sub (by repeat (first | exact trivial | refine ⟨rfl, ?_⟩ | refine ⟨trivial, ?_⟩ | refine ⟨(by show some (Value.bool _) = some (Value.bool _); simp [hg3]), ?_⟩)) (by repeat (first | exact KSub.nil | refine KSub.cons (by repeat (first | exact Pick.hd | apply Pick.tl)) ?_)) hJ1
theorem sameI_self (n : Nat) (v : Nat → Int) : sameI n v n v = true := by simp [sameI, allB]
set_option maxRecDepth 100000 in
theorem sameTies_any {A B : Option Addr} {m c1 c2 : Nat} {a b : Nat → Nat → Option Addr} {l c d : Nat → Nat → Nat} {v : Nat → Nat → Nat → Int} {w : World} (hm : m ≤ 1000000000) (hl : ∀ i, i < m → tot (l i) 3 ≤ 1000)
    (hA : RdR w 3 A m (fun i => tieL (a i) (l i) (c i))) (hB : RdR w 3 B m (fun i => tieL (b i) (l i) (d i)))
    (hI : ∀ i, i < m → ∀ j, j < 3 → RdR w 1 (a i j) (l i j) (fun k => [.int .i64 (v i j k)])) (hJ : ∀ i, i < m → ∀ j, j < 3 → RdR w 1 (b i j) (l i j) (fun k => [.int .i64 (v i j k)])) :
    Calls Tryd.prog 15 #[.slice A m c1, .slice B m c2] w (Ret w (.bool true)) := by
  refine K_enter (S := []) (K := []) Tryd.func15 rfl Tryd.ntmps15 rfl (Sat.start _) ?_
  refine TW.seq fun Y1 hY1 => ?_
  refine TW.region ?_
  refine TL.p Pu.as ?_
  refine TL.nil ?_
  refine TQ.thenN (hY1 _ _ ?_)
  refine TW.seq fun Y2 hY2 => ?_
  refine TW.seq fun Y3 hY3 => ?_
  refine TW.region ?_
  refine TL.p Pu.mv ?_
  refine TL.p (Pu.ln Tryd.underlying27) ?_
  refine TL.p Pu.mv ?_
  refine TL.p (Pu.ln Tryd.underlying27) ?_
  refine TL.p Pu.ne ?_
  refine TL.nil ?_
  refine TQ.thenN (hY3 _ _ ?_)
  refine TW.condF rfl ((by simp)) ?_
  refine TW.skip ?_
  refine TQ.thenN (hY2 _ _ ?_)
  refine TW.seq fun Y4 hY4 => ?_
  refine TW.seq fun Y5 hY5 => ?_
  refine TW.region ?_
  refine TL.p Pu.as ?_
  refine TL.nil ?_
  refine TQ.thenN (hY5 _ _ ?_)
  refine TW.block ?_
  refine TW.loop1 (fun (i : Nat) => [(5, .int .i64 (i : Int)), (0, .slice A m c1), (1, .slice B m c2)]) (fun i => []) (fun i => i ≤ m) (fun i => m - i) 0 (by repeat (first | exact trivial | refine ⟨rfl, ?_⟩ | refine ⟨trivial, ?_⟩)) ?_ ?_ ?_
  · exact (by repeat (first | exact KSub.nil | refine KSub.cons (by repeat (first | exact Pick.hd | apply Pick.tl)) ?_))
  · exact Nat.zero_le _
  rintro i hi Z0 hZ0
  refine TW.seq fun Y6 hY6 => ?_
  refine TW.seq fun Y7 hY7 => ?_
  refine TW.region ?_
  refine TL.p Pu.mv ?_
  refine TL.p Pu.mv ?_
  refine TL.p (Pu.ln Tryd.underlying27) ?_
  refine TL.p Pu.lt ?_
  refine TL.nil ?_
  refine TQ.thenN (hY7 _ _ ?_)
  refine TW.cond rfl (fun hc1 => ?_) (fun hc1 => ?_)
  · try simp only [decide_eq_true_eq, decide_eq_false_iff_not, Bool.not_eq_true', Bool.not_eq_false', Bool.and_eq_true, Bool.or_eq_true, Bool.and_eq_false_iff, Bool.or_eq_false_iff, Int.not_lt, Int.not_le] at hc1
    have him : i < m := by omega
    have hli := hl i him
    rw [tot3] at hli
    have hIi := hI i him
    have hJi := hJ i him
    refine TW.skip ?_
    refine TQ.thenN (hY6 _ _ ?_)
    refine TW.seq fun Y8 hY8 => ?_
    refine TW.block ?_
    refine TW.seq fun Y9 hY9 => ?_
    refine TW.join [(56, .bool (!(sameI (l i 0) (v i 0) (l i 0) (v i 0) && sameI (l i 1) (v i 1) (l i 1) (v i 1) && sameI (l i 2) (v i 2) (l i 2) (v i 2))))] ?_ (fun hJ1 => ?_)
    · refine TQ.thenN (hY9 _ _ ?_)
      refine TW.condF rfl ((by simp [sameI_self])) ?_
      refine TW.skip ?_
      refine TQ.blkN ?_
      refine TQ.thenN (hY8 _ _ ?_)
      refine TW.region ?_
      refine TL.p Pu.mv ?_
      refine TL.p Pu.ad ?_
      refine TL.p Pu.as ?_
      refine TL.nil ?_
      refine TQ.thenN (hZ0 (i + 1) _ _ ?_ ?_ (by repeat (first | exact trivial | refine ⟨rfl, ?_⟩ | refine ⟨trivial, ?_⟩)) ?_)
      · exact (by omega)
      · exact (by first | omega | (simp only []; omega) | (simp; omega))
      · exact (by repeat (first | exact KSub.nil | refine KSub.cons (by repeat (first | exact Pick.hd | apply Pick.tl)) ?_))
    refine TW.dw 40 ?_
    refine RK.tk Pu.mv ?_
    refine RK.tk Pu.mv ?_
    refine RK.tk (Pu.el ty_et27) ?_
    refine RK.tk (by first | exact Pu.fb ty_fa59_0 | exact Pu.fe ty_fa59_0) ?_
    refine RK.tk (Pu.ld ty_sc47) ?_
    refine RK.tk Pu.mv ?_
    refine RK.tk Pu.mv ?_
    refine RK.tk (Pu.el ty_et27) ?_
    refine RK.tk (by first | exact Pu.fb ty_fa59_0 | exact Pu.fe ty_fa59_0) ?_
    refine RK.tk (Pu.ld ty_sc47) ?_
    refine RK.keep ?_
    refine RK.keep ?_
    refine RK.keep ?_
    refine RK.keep ?_
    refine RK.keep ?_
    refine RK.keep ?_
    refine RK.keep ?_
    refine RK.keep ?_
    refine RK.keep ?_
    refine RK.keep ?_
    refine RK.keep ?_
    refine RK.keep ?_
    refine RK.keep ?_
    refine RK.keep ?_
    refine RK.keep ?_
    refine RK.keep ?_
    refine RK.keep ?_
    refine RK.keep ?_
    refine RK.keep ?_
    refine RK.keep ?_
    refine RK.keep ?_
    refine RK.keep ?_
    refine RK.keep ?_
    refine RK.keep ?_
    refine RK.keep ?_
    refine RK.keep ?_
    refine RK.keep ?_
    refine RK.keep ?_
    refine RK.keep ?_
    refine RK.keep ?_
    refine RK.ch [false, true, true, true, true, true, true, true, true, true, true, true, true, false, true, true, true, true, true, true, true, true, true, true, true, true, true, false, true, true] ?_ trivial
    refine WK.cr rfl (enters Tryd.func18 rfl rfl) (fun w hw => by
        first | exact sameInts_any (v1 := v i 0) (v2 := v i 0) (by omega) ((hIi 0 (by omega)).sat hw Apart.nil) ((hJi 0 (by omega)).sat hw Apart.nil) | exact sameInts_any (v1 := v i 1) (v2 := v i 1) (by omega) ((hIi 1 (by omega)).sat hw Apart.nil) ((hJi 1 (by omega)).sat hw Apart.nil) | exact sameInts_any (v1 := v i 2) (v2 := v i 2) (by omega) ((hIi 2 (by omega)).sat hw Apart.nil) ((hJi 2 (by omega)).sat hw Apart.nil)) ?_
    refine WK.p Pu.no ?_
    refine WK.p Pu.mv ?_
    refine WK.guard (t := 29) rfl (fun hg1 => ?_) (fun hg1 => ?_)
    · refine WK.ps ?_
      refine WK.ps ?_
      refine WK.ps ?_
      refine WK.ps ?_
      refine WK.ps ?_
      refine WK.ps ?_
      refine WK.ps ?_
      refine WK.ps ?_
      refine WK.ps ?_
      refine WK.ps ?_
      refine WK.gs ?_
      refine WK.ps ?_
      refine WK.p Pu.kt ?_
      refine WK.p Pu.mv ?_
      refine WK.ps ?_
      refine WK.ps ?_
      refine WK.ps ?_
      refine WK.ps ?_
      refine WK.ps ?_
      refine WK.ps ?_
      refine WK.ps ?_
      refine WK.ps ?_
      refine WK.ps ?_
      refine WK.ps ?_
      refine WK.gs ?_
      refine WK.ps ?_
      refine WK.p Pu.kt ?_
      refine WK.n ?_
      refine TL.nil ?_
      exact TQ.sub (by repeat (first | exact trivial | refine ⟨rfl, ?_⟩ | refine ⟨trivial, ?_⟩ | refine ⟨(by show some (Value.bool _) = some (Value.bool _); simp [hg1]), ?_⟩)) (by repeat (first | exact KSub.nil | refine KSub.cons (by repeat (first | exact Pick.hd | apply Pick.tl)) ?_)) hJ1
    · refine WK.p Pu.mv ?_
      refine WK.p Pu.mv ?_
      refine WK.p (Pu.el ty_et27) ?_
      refine WK.p (by first | exact Pu.fb ty_fa59_1 | exact Pu.fe ty_fa59_1) ?_
      refine WK.p (Pu.ld ty_sc47) ?_
      refine WK.p Pu.mv ?_
      refine WK.p Pu.mv ?_
      refine WK.p (Pu.el ty_et27) ?_
      refine WK.p (by first | exact Pu.fb ty_fa59_1 | exact Pu.fe ty_fa59_1) ?_
      refine WK.p (Pu.ld ty_sc47) ?_
      refine WK.cr rfl (enters Tryd.func18 rfl rfl) (fun w hw => by
          first | exact sameInts_any (v1 := v i 0) (v2 := v i 0) (by omega) ((hIi 0 (by omega)).sat hw Apart.nil) ((hJi 0 (by omega)).sat hw Apart.nil) | exact sameInts_any (v1 := v i 1) (v2 := v i 1) (by omega) ((hIi 1 (by omega)).sat hw Apart.nil) ((hJi 1 (by omega)).sat hw Apart.nil) | exact sameInts_any (v1 := v i 2) (v2 := v i 2) (by omega) ((hIi 2 (by omega)).sat hw Apart.nil) ((hJi 2 (by omega)).sat hw Apart.nil)) ?_
      refine WK.p Pu.no ?_
      refine WK.p Pu.kf ?_
      refine WK.p Pu.mv ?_
      refine WK.guard (t := 43) rfl (fun hg2 => ?_) (fun hg2 => ?_)
      · refine WK.ps ?_
        refine WK.ps ?_
        refine WK.ps ?_
        refine WK.ps ?_
        refine WK.ps ?_
        refine WK.ps ?_
        refine WK.ps ?_
        refine WK.ps ?_
        refine WK.ps ?_
        refine WK.ps ?_
        refine WK.gs ?_
        refine WK.ps ?_
        refine WK.p Pu.kt ?_
        refine WK.n ?_
        refine TL.nil ?_
        exact TQ.sub (by repeat (first | exact trivial | refine ⟨rfl, ?_⟩ | refine ⟨trivial, ?_⟩ | refine ⟨(by show some (Value.bool _) = some (Value.bool _); simp [hg1, hg2]), ?_⟩)) (by repeat (first | exact KSub.nil | refine KSub.cons (by repeat (first | exact Pick.hd | apply Pick.tl)) ?_)) hJ1
      · refine WK.p Pu.mv ?_
        refine WK.p Pu.mv ?_
        refine WK.p (Pu.el ty_et27) ?_
        refine WK.p (by first | exact Pu.fb ty_fa59_2 | exact Pu.fe ty_fa59_2) ?_
        refine WK.p (Pu.ld ty_sc47) ?_
        refine WK.p Pu.mv ?_
        refine WK.p Pu.mv ?_
        refine WK.p (Pu.el ty_et27) ?_
        refine WK.p (by first | exact Pu.fb ty_fa59_2 | exact Pu.fe ty_fa59_2) ?_
        refine WK.p (Pu.ld ty_sc47) ?_
        refine WK.cr rfl (enters Tryd.func18 rfl rfl) (fun w hw => by
            first | exact sameInts_any (v1 := v i 0) (v2 := v i 0) (by omega) ((hIi 0 (by omega)).sat hw Apart.nil) ((hJi 0 (by omega)).sat hw Apart.nil) | exact sameInts_any (v1 := v i 1) (v2 := v i 1) (by omega) ((hIi 1 (by omega)).sat hw Apart.nil) ((hJi 1 (by omega)).sat hw Apart.nil) | exact sameInts_any (v1 := v i 2) (v2 := v i 2) (by omega) ((hIi 2 (by omega)).sat hw Apart.nil) ((hJi 2 (by omega)).sat hw Apart.nil)) ?_
        refine WK.p Pu.no ?_
        refine WK.p Pu.kf ?_
        refine WK.n ?_
        refine TL.nil ?_
        exact TQ.sub (by repeat (first | exact trivial | refine ⟨rfl, ?_⟩ | refine ⟨trivial, ?_⟩ | refine ⟨(by show some (Value.bool _) = some (Value.bool _); simp [hg1, hg2]), ?_⟩)) (by repeat (first | exact KSub.nil | refine KSub.cons (by repeat (first | exact Pick.hd | apply Pick.tl)) ?_)) hJ1
  · try simp only [decide_eq_true_eq, decide_eq_false_iff_not, Bool.not_eq_true', Bool.not_eq_false', Bool.and_eq_true, Bool.or_eq_true, Bool.and_eq_false_iff, Bool.or_eq_false_iff, Int.not_lt, Int.not_le] at hc1
    refine TW.exit ?_
    refine TQ.thenX ?_
    refine TQ.thenX ?_
    refine TQ.blkX ?_
    refine TQ.thenN (hY4 _ _ ?_)
    refine TW.seq fun Y10 hY10 => ?_
    refine TW.region ?_
    refine TL.p Pu.as ?_
    refine TL.nil ?_
    refine TQ.thenN (hY10 _ _ ?_)
    refine TW.ret ?_
    refine TQ.ret Tryd.results15 rfl ((.tmp rfl .nil)) ?_
    exact fun w hw => Ret.of hw
end Go.Proofs.YtagcnokaajinlaaDoor
