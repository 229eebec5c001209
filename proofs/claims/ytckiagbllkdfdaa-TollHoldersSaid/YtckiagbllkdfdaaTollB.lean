/-
  way: legs and lands; the reference's likewise.
-/
import Derived.Test.YtckiagbllkdfdaaTollA
namespace Go.Proofs.Ytckiagbllkdfdaa
set_option linter.all false
set_option linter.unusedVariables false
set_option linter.unusedSimpArgs false
open Go.RowKit
def gateL (g : Nat → Int) : List Value := [.int .i64 (g 0), .int .i64 (g 1), .int .i64 (g 2), .int .i64 (g 3)]
/-- The cells of a leg: from, to, long, gates. -/
structure Leg where
  u : Nat → Int
  A : Option Addr
  n : Nat
  c : Nat
def legL (x : Leg) : List Value := [.int .i64 (x.u 0), .int .i64 (x.u 1), .int .i64 (x.u 2), .int .i64 (x.u 3), .slice x.A x.n x.c]
def nxtG (g : Nat → Nat → Int) : Nat → Int
  | 0 => 0
  | k + 1 => g k 3 + 1
def gateOk (lo : Int) (g : Nat → Int) : Bool := ordB5 0 100000 (g 0) (g 1) && ordB5 0 100000 (g 2) (g 3) && inB5 lo (g 3) (g 0)
def gatesOk (n : Nat) (g : Nat → Nat → Int) : Bool := allB n fun k => gateOk (nxtG g k) (g k)
def legHead (nw : Nat) (u : Nat → Int) (n : Nat) : Bool := inB5 0 ((nw : Int) - 1) (u 0) && inB5 0 ((nw : Int) - 1) (u 1) && !decide (u 0 = u 1) && ordB5 1 1000000 (u 2) (u 3) && !decide (6 < (n : Int))
def legOk (nw : Nat) (u : Nat → Int) (n : Nat) (g : Nat → Nat → Int) : Bool := legHead nw u n && gatesOk n g
theorem gateOk_bd {lo : Int} {g : Nat → Int} (h : gateOk lo g = true) : 0 ≤ g 3 ∧ g 3 ≤ 100000 := by
  unfold gateOk ordB5 at h
  simp only [Bool.and_eq_true, decide_eq_true_eq] at h
  omega
theorem nxtG_bd {g : Nat → Nat → Int} {k : Nat} (h : ∀ j, j < k → gateOk (nxtG g j) (g j) = true) : 0 ≤ nxtG g k ∧ nxtG g k ≤ 100001 := by
  cases k with
  | zero => simp [nxtG]
  | succ k => have := gateOk_bd (h k (by omega)); simp only [nxtG]; omega
theorem gates_no {n k : Nat} {g : Nat → Nat → Int} (hk : k < n) (h : gateOk (nxtG g k) (g k) = false) : gatesOk n g = false := by
  unfold gatesOk
  rw [Bool.eq_false_iff]
  intro h2
  rw [allB_iff.1 h2 k hk] at h
  cases h
set_option maxRecDepth 100000 in
set_option maxHeartbeats 800000 in
theorem trodden_any (x : Leg) (nw : Nat) (g : Nat → Nat → Int) (w : World) (hw1 : nw ≤ 1000000) (hn : x.n ≤ 1000000) (hR : RdR w 4 x.A x.n (fun k => gateL (g k))) :
    Calls Try.prog 42 #[.agg (legL x).toArray, .int .i64 (nw : Int)] w (Ret w (.bool (legOk nw x.u x.n g))) := by
  obtain ⟨u, A, n, cp⟩ := x
  simp only at hn hR
  unfold legL
  simp only
  refine K_enter (S := []) (K := []) Try.func42 rfl Try.ntmps42 rfl (Sat.start _) ?_
  refine TW.seq fun Y1 hY1 => ?_
  refine TW.region ?_
  refine TL.m Mk.bx ?_
  intro b1
  refine TL.p Pu.as ?_
  refine TL.nil ?_
  refine TQ.thenN (hY1 _ _ ?_)
  refine TW.seq fun Y2 hY2 => ?_
  refine TW.seq fun Y3 hY3 => ?_
  refine TW.join [(36, .bool (!legHead nw u n))] ?_ (fun hJ1 => ?_)
  · refine TQ.thenN (hY3 _ _ ?_)
    refine TW.cond rfl (fun hc0 => ?_) (fun hc0 => ?_)
    · try simp only [decide_eq_true_eq, decide_eq_false_iff_not, Bool.not_eq_true', Bool.not_eq_false', Bool.and_eq_true, Bool.or_eq_true, Bool.and_eq_false_iff, Bool.or_eq_false_iff, Int.not_lt, Int.not_le] at hc0
      have hh : legHead nw u n = false := by simpa using hc0
      refine TW.seq fun Y4 hY4 => ?_
      refine TW.region ?_
      refine TL.p Pu.as ?_
      refine TL.nil ?_
      refine TQ.thenN (hY4 _ _ ?_)
      refine TW.ret ?_
      refine TQ.thenR ?_
      refine TQ.ret Try.results42 rfl ((.tmp rfl .nil)) ?_
      exact fun w hw => ⟨ret_bool (by unfold legOk; rw [hh]; rfl), Chg.ext hw.chg⟩
    · try simp only [decide_eq_true_eq, decide_eq_false_iff_not, Bool.not_eq_true', Bool.not_eq_false', Bool.and_eq_true, Bool.or_eq_true, Bool.and_eq_false_iff, Bool.or_eq_false_iff, Int.not_lt, Int.not_le] at hc0
      have hh : legHead nw u n = true := by simpa using hc0
      refine TW.skip ?_
      refine TQ.thenN (hY2 _ _ ?_)
      refine TW.seq fun Y5 hY5 => ?_
      refine TW.region ?_
      refine TL.p Pu.as ?_
      refine TL.nil ?_
      refine TQ.thenN (hY5 _ _ ?_)
      refine TW.seq fun Y6 hY6 => ?_
      refine TW.seq fun Y7 hY7 => ?_
      refine TW.region ?_
      refine TL.p (by first | exact Pu.fb ty_fa58_3 | exact Pu.fe ty_fa58_3) ?_
      refine TL.p (Pu.ld ty_sc54) ?_
      refine TL.p (Pu.ln Try.underlying54) ?_
      refine TL.p Pu.mv ?_
      refine TL.nil ?_
      refine TQ.thenN (hY7 _ _ ?_)
      refine TW.block ?_
      refine TW.loop1 (fun (k : Nat) => [(40, .int .i64 (k : Int)), (39, .int .i64 (n : Int)), (38, .slice A n cp), (5, .int .i64 (nxtG g k))]) (fun k => []) (fun k => k ≤ n ∧ ∀ j, j < k → gateOk (nxtG g j) (g j) = true) (fun k => n - k) 0 (by repeat (first | exact trivial | refine ⟨rfl, ?_⟩ | refine ⟨trivial, ?_⟩)) ?_ ?_ ?_
      · exact (by repeat (first | exact KSub.nil | refine KSub.cons (by repeat (first | exact Pick.hd | apply Pick.tl)) ?_))
      · exact ⟨Nat.zero_le _, fun j hj => by omega⟩
      rintro k ⟨hk, hall⟩ Z0 hZ0
      refine TW.seq fun Y8 hY8 => ?_
      refine TW.region ?_
      refine TL.p Pu.lt ?_
      refine TL.nil ?_
      refine TQ.thenN (hY8 _ _ ?_)
      refine TW.seq fun Y9 hY9 => ?_
      refine TW.cond rfl (fun hc1 => ?_) (fun hc1 => ?_)
      · try simp only [decide_eq_true_eq, decide_eq_false_iff_not, Bool.not_eq_true', Bool.not_eq_false', Bool.and_eq_true, Bool.or_eq_true, Bool.and_eq_false_iff, Bool.or_eq_false_iff, Int.not_lt, Int.not_le] at hc1
        have hkn : k < n := by omega
        have hbd := nxtG_bd hall
        refine TW.skip ?_
        refine TQ.thenN (hY9 _ _ ?_)
        refine TW.seq fun Y10 hY10 => ?_
        refine TW.block ?_
        refine TW.seq fun Y11 hY11 => ?_
        refine TW.region ?_
        refine TL.p (Pu.el ty_et54) ?_
        refine TL.p (Pu.lds ty_ag85) ?_
        refine TL.m (Mk.al ty_zr85) ?_
        intro b2
        first | refine TL.st ty_sz85 ?_ | refine TL.se ty_sz85 ?_
        refine TL.nil ?_
        refine TQ.thenN (hY11 _ _ ?_)
        refine TW.seq fun Y12 hY12 => ?_
        refine TW.seq fun Y13 hY13 => ?_
        refine TW.join [(62, .bool (!gateOk (nxtG g k) (g k)))] ?_ (fun hJ2 => ?_)
        · refine TQ.thenN (hY13 _ _ ?_)
          refine TW.cond rfl (fun hc2 => ?_) (fun hc2 => ?_)
          · try simp only [decide_eq_true_eq, decide_eq_false_iff_not, Bool.not_eq_true', Bool.not_eq_false', Bool.and_eq_true, Bool.or_eq_true, Bool.and_eq_false_iff, Bool.or_eq_false_iff, Int.not_lt, Int.not_le] at hc2
            have hg : gateOk (nxtG g k) (g k) = false := by simpa using hc2
            refine TW.seq fun Y14 hY14 => ?_
            refine TW.region ?_
            refine TL.p Pu.as ?_
            refine TL.nil ?_
            refine TQ.thenN (hY14 _ _ ?_)
            refine TW.ret ?_
            refine TQ.thenR ?_
            refine TQ.blkR ?_
            refine TQ.thenR ?_
            refine TQ.thenR ?_
            refine TQ.blkR ?_
            refine TQ.thenR ?_
            refine TQ.ret Try.results42 rfl ((.tmp rfl .nil)) ?_
            exact fun w hw => ⟨ret_bool (by unfold legOk; rw [hh, gates_no hkn hg]; rfl), Chg.ext hw.chg⟩
          · try simp only [decide_eq_true_eq, decide_eq_false_iff_not, Bool.not_eq_true', Bool.not_eq_false', Bool.and_eq_true, Bool.or_eq_true, Bool.and_eq_false_iff, Bool.or_eq_false_iff, Int.not_lt, Int.not_le] at hc2
            have hg : gateOk (nxtG g k) (g k) = true := by simpa using hc2
            have hgb := gateOk_bd hg
            refine TW.skip ?_
            refine TQ.thenN (hY12 _ _ ?_)
            refine TW.region ?_
            refine TL.p (by first | exact Pu.fb ty_fa85_1 | exact Pu.fe ty_fa85_1) ?_
            refine TL.p (by first | exact Pu.fb ty_fa56_1 | exact Pu.fe ty_fa56_1) ?_
            refine TL.p (Pu.ld ty_sc3) ?_
            refine TL.p Pu.ad ?_
            refine TL.p Pu.as ?_
            refine TL.nil ?_
            refine TQ.blkN ?_
            refine TQ.thenN (hY10 _ _ ?_)
            refine TW.region ?_
            refine TL.p Pu.ad ?_
            refine TL.p Pu.mv ?_
            refine TL.nil ?_
            refine TQ.thenN (hZ0 (k + 1) _ _ ?_ ?_ (by repeat (first | exact trivial | refine ⟨rfl, ?_⟩ | refine ⟨trivial, ?_⟩)) ?_)
            · refine ⟨by omega, fun j hj => ?_⟩
              by_cases h : j = k
              · subst h; exact hg
              · exact hall j (by omega)
            · exact (by first | omega | (simp only []; omega) | (simp; omega))
            · exact (by repeat (first | exact KSub.nil | refine KSub.cons (by repeat (first | exact Pick.hd | apply Pick.tl)) ?_))
        refine TW.region ?_
        refine TL.p (by first | exact Pu.fb ty_fa85_0 | exact Pu.fe ty_fa85_0) ?_
        refine TL.p (Pu.lds ty_ag56) ?_
        refine TL.p (by first | exact Pu.fb ty_fa85_1 | exact Pu.fe ty_fa85_1) ?_
        refine TL.p (Pu.lds ty_ag56) ?_
        refine TL.m Mk.bl ?_
        intro b3
        refine TL.cr rfl (enters Try.func53 rfl rfl) (fun w hw => by
            exact orderedTwo_any _ _ _ _ _ _ (hw.holds _ (List.mem_cons_self ..))) ?_
        refine TL.p Pu.no ?_
        refine TL.p Pu.mv ?_
        refine TL.guard (t := 51) rfl (fun hg1 => ?_) (fun hg1 => ?_)
        · refine TL.gs ?_
          refine TL.gs ?_
          refine TL.gs ?_
          refine TL.gs ?_
          refine TL.gs ?_
          refine TL.gs ?_
          refine TL.gs ?_
          refine TL.gs ?_
          refine TL.gs ?_
          refine TL.gs ?_
          refine TL.p Pu.kt ?_
          refine TL.nil ?_
          exact TQ.sub (by repeat (first | exact trivial | refine ⟨rfl, ?_⟩ | refine ⟨trivial, ?_⟩ | refine ⟨(by show some (Value.bool _) = some (Value.bool _); simp [hg1, gateOk]), ?_⟩)) (by repeat (first | exact KSub.nil | refine KSub.cons (by repeat (first | exact Pick.hd | apply Pick.tl)) ?_)) hJ2
        · refine TL.gd Pu.mv ?_
          refine TL.gd (by first | exact Pu.fb ty_fa85_1 | exact Pu.fe ty_fa85_1) ?_
          refine TL.gd (by first | exact Pu.fb ty_fa56_1 | exact Pu.fe ty_fa56_1) ?_
          refine TL.gd (Pu.ld ty_sc3) ?_
          refine TL.gd (by first | exact Pu.fb ty_fa85_0 | exact Pu.fe ty_fa85_0) ?_
          refine TL.gd (by first | exact Pu.fb ty_fa56_0 | exact Pu.fe ty_fa56_0) ?_
          refine TL.gd (Pu.ld ty_sc3) ?_
          refine TL.gm Mk.bl ?_
          intro b4
          refine TL.cr rfl (enters Try.func43 rfl rfl) (fun w hw => by
              exact fromOne_any _ _ _ (hw.holds _ (List.mem_cons_self ..))) ?_
          refine TL.gd Pu.no ?_
          refine TL.p Pu.kf ?_
          refine TL.nil ?_
          exact TQ.sub (by repeat (first | exact trivial | refine ⟨rfl, ?_⟩ | refine ⟨trivial, ?_⟩ | refine ⟨(by show some (Value.bool _) = some (Value.bool _); simp [hg1, gateOk]), ?_⟩)) (by repeat (first | exact KSub.nil | refine KSub.cons (by repeat (first | exact Pick.hd | apply Pick.tl)) ?_)) hJ2
      · try simp only [decide_eq_true_eq, decide_eq_false_iff_not, Bool.not_eq_true', Bool.not_eq_false', Bool.and_eq_true, Bool.or_eq_true, Bool.and_eq_false_iff, Bool.or_eq_false_iff, Int.not_lt, Int.not_le] at hc1
        have hkn : k = n := by omega
        refine TW.exit ?_
        refine TQ.thenX ?_
        refine TQ.thenX ?_
        refine TQ.blkX ?_
        refine TQ.thenN (hY6 _ _ ?_)
        refine TW.seq fun Y15 hY15 => ?_
        refine TW.region ?_
        refine TL.p Pu.as ?_
        refine TL.nil ?_
        refine TQ.thenN (hY15 _ _ ?_)
        refine TW.ret ?_
        refine TQ.ret Try.results42 rfl ((.tmp rfl .nil)) ?_
        exact fun w hw => ⟨ret_bool (by unfold legOk gatesOk; rw [hh, allB_iff.2 fun j hj => hall j (by omega)]; rfl), Chg.ext hw.chg⟩
  refine TW.region ?_
  refine TL.p Pu.mv ?_
  refine TL.p Pu.sb ?_
  refine TL.p (by first | exact Pu.fb ty_fa58_0 | exact Pu.fe ty_fa58_0) ?_
  refine TL.p (Pu.ld ty_sc3) ?_
  refine TL.p (by first | exact Pu.fb ty_fa58_1 | exact Pu.fe ty_fa58_1) ?_
  refine TL.p (Pu.ld ty_sc3) ?_
  refine TL.m Mk.bl ?_
  intro b5
  refine TL.cr rfl (enters Try.func43 rfl rfl) (fun w hw => by
      exact fromTwo_any _ _ _ _ (hw.holds _ (List.mem_cons_self ..))) ?_
  refine TL.p Pu.no ?_
  refine TL.p Pu.mv ?_
  refine TL.guard (t := 17) rfl (fun hg2 => ?_) (fun hg2 => ?_)
  · refine TL.gs ?_
    refine TL.gs ?_
    refine TL.gs ?_
    refine TL.gs ?_
    refine TL.gs ?_
    refine TL.p Pu.kt ?_
    refine TL.p Pu.mv ?_
    refine TL.gs ?_
    refine TL.gs ?_
    refine TL.gs ?_
    refine TL.gs ?_
    refine TL.gs ?_
    refine TL.p Pu.kt ?_
    refine TL.p Pu.mv ?_
    refine TL.gs ?_
    refine TL.gs ?_
    refine TL.gs ?_
    refine TL.gs ?_
    refine TL.p Pu.kt ?_
    refine TL.nil ?_
    exact TQ.sub (by repeat (first | exact trivial | refine ⟨rfl, ?_⟩ | refine ⟨trivial, ?_⟩ | refine ⟨(by show some (Value.bool _) = some (Value.bool _); simp [hg2, legHead]), ?_⟩)) (by repeat (first | exact KSub.nil | refine KSub.cons (by repeat (first | exact Pick.hd | apply Pick.tl)) ?_)) hJ1
  · refine TL.gd (by first | exact Pu.fb ty_fa58_0 | exact Pu.fe ty_fa58_0) ?_
    refine TL.gd (Pu.ld ty_sc3) ?_
    refine TL.gd (by first | exact Pu.fb ty_fa58_1 | exact Pu.fe ty_fa58_1) ?_
    refine TL.gd (Pu.ld ty_sc3) ?_
    refine TL.gd Pu.eq ?_
    refine TL.p Pu.kf ?_
    refine TL.p Pu.mv ?_
    refine TL.guard (t := 24) rfl (fun hg3 => ?_) (fun hg3 => ?_)
    · refine TL.gs ?_
      refine TL.gs ?_
      refine TL.gs ?_
      refine TL.gs ?_
      refine TL.gs ?_
      refine TL.p Pu.kt ?_
      refine TL.p Pu.mv ?_
      refine TL.gs ?_
      refine TL.gs ?_
      refine TL.gs ?_
      refine TL.gs ?_
      refine TL.p Pu.kt ?_
      refine TL.nil ?_
      exact TQ.sub (by repeat (first | exact trivial | refine ⟨rfl, ?_⟩ | refine ⟨trivial, ?_⟩ | refine ⟨(by show some (Value.bool _) = some (Value.bool _); simp [hg2, hg3, legHead]), ?_⟩)) (by repeat (first | exact KSub.nil | refine KSub.cons (by repeat (first | exact Pick.hd | apply Pick.tl)) ?_)) hJ1
    · refine TL.gd (by first | exact Pu.fb ty_fa58_2 | exact Pu.fe ty_fa58_2) ?_
      refine TL.gd (Pu.lds ty_ag56) ?_
      refine TL.gm Mk.bl ?_
      intro b6
      refine TL.cr rfl (enters Try.func53 rfl rfl) (fun w hw => by
          exact orderedOne_any _ _ _ _ (hw.holds _ (List.mem_cons_self ..))) ?_
      refine TL.gd Pu.no ?_
      refine TL.p Pu.kf ?_
      refine TL.p Pu.mv ?_
      refine TL.guard (t := 31) rfl (fun hg4 => ?_) (fun hg4 => ?_)
      · refine TL.gs ?_
        refine TL.gs ?_
        refine TL.gs ?_
        refine TL.gs ?_
        refine TL.p Pu.kt ?_
        refine TL.nil ?_
        exact TQ.sub (by repeat (first | exact trivial | refine ⟨rfl, ?_⟩ | refine ⟨trivial, ?_⟩ | refine ⟨(by show some (Value.bool _) = some (Value.bool _); simp [hg2, hg3, hg4, legHead]), ?_⟩)) (by repeat (first | exact KSub.nil | refine KSub.cons (by repeat (first | exact Pick.hd | apply Pick.tl)) ?_)) hJ1
      · refine TL.gd (by first | exact Pu.fb ty_fa58_3 | exact Pu.fe ty_fa58_3) ?_
        refine TL.gd (Pu.ld ty_sc54) ?_
        refine TL.gd (Pu.ln Try.underlying54) ?_
        refine TL.gd Pu.gt ?_
        refine TL.p Pu.kf ?_
        refine TL.nil ?_
        exact TQ.sub (by repeat (first | exact trivial | refine ⟨rfl, ?_⟩ | refine ⟨trivial, ?_⟩ | refine ⟨(by show some (Value.bool _) = some (Value.bool _); simp [hg2, hg3, hg4, legHead]), ?_⟩)) (by repeat (first | exact KSub.nil | refine KSub.cons (by repeat (first | exact Pick.hd | apply Pick.tl)) ?_)) hJ1
end Go.Proofs.Ytckiagbllkdfdaa
