/-
  The reference's copies of a land and of customs, and whether they are great.
-/
import Derived.Test.YtckiagbllkdfdaaTollK
namespace Go.Proofs.Ytckiagbllkdfdaa
set_option linter.all false
set_option linter.unusedVariables false
set_option linter.unusedSimpArgs false
open Go.RowKit
def great3 (nw nl : Nat) (x : Nat → Leg) : Bool := decide (20 < (nw : Int)) || decide (40 < (nl : Int)) || anyB nl fun k => decide (20 < ((x k).n : Int))
theorem anyB_hit {n k : Nat} {p : Nat → Bool} (hk : k < n) (h : p k = true) : anyB n p = true := by
  unfold anyB
  exact List.any_eq_true.2 ⟨k, List.mem_range.2 hk, h⟩
theorem anyB_none {n : Nat} {p : Nat → Bool} (h : ∀ k, k < n → p k = false) : anyB n p = false := by
  unfold anyB
  rw [List.any_eq_false]
  intro k hk
  rw [h k (List.mem_range.1 hk)]
  simp
theorem great3_any {W A : Option Addr} {nw cw nl cl : Nat} {x : Nat → Leg} {w : World} (hA : RdR w 5 A nl (fun k => legL (x k))) :
    Calls Try.prog 16 #[.agg (landL W nw cw A nl cl).toArray] w (Ret w (.bool (great3 nw nl x))) := by
  unfold landL
  refine K_enter (S := []) (K := []) Try.func16 rfl Try.ntmps16 rfl (Sat.start _) ?_
  refine TW.seq fun Y1 hY1 => ?_
  refine TW.region ?_
  refine TL.m Mk.bx ?_
  intro b1
  refine TL.p Pu.as ?_
  refine TL.nil ?_
  refine TQ.thenN (hY1 _ _ ?_)
  refine TW.seq fun Y2 hY2 => ?_
  refine TW.seq fun Y3 hY3 => ?_
  refine TW.join [(13, .bool (decide (20 < (nw : Int)) || decide (40 < (nl : Int))))] ?_ (fun hJ1 => ?_)
  · refine TQ.thenN (hY3 _ _ ?_)
    refine TW.cond rfl (fun hc0 => ?_) (fun hc0 => ?_)
    · try simp only [decide_eq_true_eq, decide_eq_false_iff_not, Bool.not_eq_true', Bool.not_eq_false', Bool.and_eq_true, Bool.or_eq_true, Bool.and_eq_false_iff, Bool.or_eq_false_iff, Int.not_lt, Int.not_le] at hc0
      have hg : (decide (20 < (nw : Int)) || decide (40 < (nl : Int))) = true := by simpa using hc0
      refine TW.seq fun Y4 hY4 => ?_
      refine TW.region ?_
      refine TL.p Pu.as ?_
      refine TL.nil ?_
      refine TQ.thenN (hY4 _ _ ?_)
      refine TW.ret ?_
      refine TQ.thenR ?_
      refine TQ.ret Try.results16 rfl ((.tmp rfl .nil)) ?_
      exact fun w hw => ⟨ret_bool (by unfold great3; rw [hg]; rfl), Chg.ext hw.chg⟩
    · try simp only [decide_eq_true_eq, decide_eq_false_iff_not, Bool.not_eq_true', Bool.not_eq_false', Bool.and_eq_true, Bool.or_eq_true, Bool.and_eq_false_iff, Bool.or_eq_false_iff, Int.not_lt, Int.not_le] at hc0
      have hg : (decide (20 < (nw : Int)) || decide (40 < (nl : Int))) = false := by simpa using hc0
      have hl : nl ≤ 40 := by omega
      refine TW.skip ?_
      refine TQ.thenN (hY2 _ _ ?_)
      refine TW.seq fun Y5 hY5 => ?_
      refine TW.seq fun Y6 hY6 => ?_
      refine TW.region ?_
      refine TL.p Pu.as ?_
      refine TL.nil ?_
      refine TQ.thenN (hY6 _ _ ?_)
      refine TW.block ?_
      refine TW.loop1 (fun (k : Nat) => [(3, .int .i64 (k : Int)), (1, .pointer (some ⟨b1, 0, none⟩))]) (fun k => [.blk b1 25 [.slice W nw cw, .slice A nl cl]]) (fun k => k ≤ nl ∧ ∀ j, j < k → decide (20 < ((x j).n : Int)) = false) (fun k => nl - k) 0 (by repeat (first | exact trivial | refine ⟨rfl, ?_⟩ | refine ⟨trivial, ?_⟩)) ?_ ?_ ?_
      · exact (by repeat (first | exact KSub.nil | refine KSub.cons (by repeat (first | exact Pick.hd | apply Pick.tl)) ?_))
      · exact ⟨Nat.zero_le _, fun j hj => by omega⟩
      rintro k ⟨hk, hall⟩ Z0 hZ0
      refine TW.seq fun Y7 hY7 => ?_
      refine TW.seq fun Y8 hY8 => ?_
      refine TW.region ?_
      refine TL.p Pu.mv ?_
      refine TL.p (by first | exact Pu.fb ty_fa25_1 | exact Pu.fe ty_fa25_1) ?_
      refine TL.p (Pu.ld ty_sc23) ?_
      refine TL.p (Pu.ln Try.underlying23) ?_
      refine TL.p Pu.lt ?_
      refine TL.nil ?_
      refine TQ.thenN (hY8 _ _ ?_)
      refine TW.cond rfl (fun hc1 => ?_) (fun hc1 => ?_)
      · try simp only [decide_eq_true_eq, decide_eq_false_iff_not, Bool.not_eq_true', Bool.not_eq_false', Bool.and_eq_true, Bool.or_eq_true, Bool.and_eq_false_iff, Bool.or_eq_false_iff, Int.not_lt, Int.not_le] at hc1
        have hkn : k < nl := by omega
        refine TW.skip ?_
        refine TQ.thenN (hY7 _ _ ?_)
        refine TW.seq fun Y9 hY9 => ?_
        refine TW.block ?_
        refine TW.seq fun Y10 hY10 => ?_
        refine TW.region ?_
        refine TL.p (by first | exact Pu.fb ty_fa25_1 | exact Pu.fe ty_fa25_1) ?_
        refine TL.p (Pu.ld ty_sc23) ?_
        refine TL.p Pu.mv ?_
        refine TL.p (Pu.el ty_et23) ?_
        refine TL.p (by first | exact Pu.fb ty_fa58_3 | exact Pu.fe ty_fa58_3) ?_
        refine TL.p (Pu.ld ty_sc54) ?_
        refine TL.p (Pu.ln Try.underlying54) ?_
        refine TL.p Pu.gt ?_
        refine TL.nil ?_
        refine TQ.thenN (hY10 _ _ ?_)
        refine TW.cond rfl (fun hc2 => ?_) (fun hc2 => ?_)
        · try simp only [decide_eq_true_eq, decide_eq_false_iff_not, Bool.not_eq_true', Bool.not_eq_false', Bool.and_eq_true, Bool.or_eq_true, Bool.and_eq_false_iff, Bool.or_eq_false_iff, Int.not_lt, Int.not_le] at hc2
          have h9 : decide (20 < ((x k).n : Int)) = true := by simpa using hc2
          refine TW.seq fun Y11 hY11 => ?_
          refine TW.region ?_
          refine TL.p Pu.as ?_
          refine TL.nil ?_
          refine TQ.thenN (hY11 _ _ ?_)
          refine TW.ret ?_
          refine TQ.blkR ?_
          refine TQ.thenR ?_
          refine TQ.thenR ?_
          refine TQ.blkR ?_
          refine TQ.thenR ?_
          refine TQ.ret Try.results16 rfl ((.tmp rfl .nil)) ?_
          exact fun w hw => ⟨ret_bool (by unfold great3; rw [hg, anyB_hit (p := fun k => decide (20 < ((x k).n : Int))) hkn h9]; rfl), Chg.ext hw.chg⟩
        · try simp only [decide_eq_true_eq, decide_eq_false_iff_not, Bool.not_eq_true', Bool.not_eq_false', Bool.and_eq_true, Bool.or_eq_true, Bool.and_eq_false_iff, Bool.or_eq_false_iff, Int.not_lt, Int.not_le] at hc2
          have h9 : decide (20 < ((x k).n : Int)) = false := by simpa using hc2
          refine TW.skip ?_
          refine TQ.blkN ?_
          refine TQ.thenN (hY9 _ _ ?_)
          refine TW.region ?_
          refine TL.p Pu.mv ?_
          refine TL.p Pu.ad ?_
          refine TL.p Pu.as ?_
          refine TL.nil ?_
          refine TQ.thenN (hZ0 (k + 1) _ _ ?_ ?_ (by repeat (first | exact trivial | refine ⟨rfl, ?_⟩ | refine ⟨trivial, ?_⟩)) ?_)
          · refine ⟨by omega, fun j hj => ?_⟩
            by_cases h : j = k
            · subst h; exact h9
            · exact hall j (by omega)
          · exact (by first | omega | (simp only []; omega) | (simp; omega))
          · exact (by repeat (first | exact KSub.nil | refine KSub.cons (by repeat (first | exact Pick.hd | apply Pick.tl)) ?_))
      · try simp only [decide_eq_true_eq, decide_eq_false_iff_not, Bool.not_eq_true', Bool.not_eq_false', Bool.and_eq_true, Bool.or_eq_true, Bool.and_eq_false_iff, Bool.or_eq_false_iff, Int.not_lt, Int.not_le] at hc1
        obtain rfl : k = nl := by omega
        refine TW.exit ?_
        refine TQ.thenX ?_
        refine TQ.thenX ?_
        refine TQ.blkX ?_
        refine TQ.thenN (hY5 _ _ ?_)
        refine TW.seq fun Y12 hY12 => ?_
        refine TW.region ?_
        refine TL.p Pu.as ?_
        refine TL.nil ?_
        refine TQ.thenN (hY12 _ _ ?_)
        refine TW.ret ?_
        refine TQ.ret Try.results16 rfl ((.tmp rfl .nil)) ?_
        exact fun w hw => ⟨ret_bool (by unfold great3; rw [hg, anyB_none hall]; rfl), Chg.ext hw.chg⟩
  refine TW.region ?_
  refine TL.p (by first | exact Pu.fb ty_fa25_0 | exact Pu.fe ty_fa25_0) ?_
  refine TL.p (Pu.ld ty_sc22) ?_
  refine TL.p (Pu.ln Try.underlying22) ?_
  refine TL.p Pu.gt ?_
  refine TL.p Pu.mv ?_
  refine TL.guard (t := 8) rfl (fun hg1 => ?_) (fun hg1 => ?_)
  · refine TL.gs ?_
    refine TL.gs ?_
    refine TL.gs ?_
    refine TL.gs ?_
    refine TL.p Pu.kt ?_
    refine TL.nil ?_
    exact TQ.sub (by repeat (first | exact trivial | refine ⟨rfl, ?_⟩ | refine ⟨trivial, ?_⟩ | refine ⟨(by show some (Value.bool _) = some (Value.bool _); simp [hg1]), ?_⟩)) (by repeat (first | exact KSub.nil | refine KSub.cons (by repeat (first | exact Pick.hd | apply Pick.tl)) ?_)) hJ1
  · refine TL.gd (by first | exact Pu.fb ty_fa25_1 | exact Pu.fe ty_fa25_1) ?_
    refine TL.gd (Pu.ld ty_sc23) ?_
    refine TL.gd (Pu.ln Try.underlying23) ?_
    refine TL.gd Pu.gt ?_
    refine TL.p Pu.kf ?_
    refine TL.nil ?_
    exact TQ.sub (by repeat (first | exact trivial | refine ⟨rfl, ?_⟩ | refine ⟨trivial, ?_⟩ | refine ⟨(by show some (Value.bool _) = some (Value.bool _); simp [hg1]), ?_⟩)) (by repeat (first | exact KSub.nil | refine KSub.cons (by repeat (first | exact Pick.hd | apply Pick.tl)) ?_)) hJ1
def troopL (hd wo : Int) (O : Option Addr) (no co : Nat) (U : Option Addr) (nu cu : Nat) (V : Option Addr) (nv cv : Nat) : List Value := [.int .i64 hd, .int .i64 wo, .slice O no co, .slice U nu cu, .slice V nv cv]
def great7 (nw nl : Nat) (x : Nat → Leg) (nc nd nb no nu nv : Nat) : Bool :=
  great3 nw nl x || decide (40 < (nc : Int)) || decide (30 < (nd : Int)) || decide (30 < (nb : Int)) || decide (12 < (no : Int)) || decide (12 < (nu : Int)) || decide (12 < (nv : Int))
set_option maxRecDepth 100000 in
set_option maxHeartbeats 1000000 in
theorem great7_any {W A C D B O U V : Option Addr} {nw cw nl cl nc cc nd cd nb cb no co nu cu nv cv : Nat} {hd wo : Int} {x : Nat → Leg} {w : World} (hA : RdR w 5 A nl (fun k => legL (x k))) :
    Calls Try.prog 4 #[.agg (landL W nw cw A nl cl).toArray, .agg (custL C nc cc D nd cd B nb cb).toArray, .agg (troopL hd wo O no co U nu cu V nv cv).toArray] w (Ret w (.bool (great7 nw nl x nc nd nb no nu nv))) := by
  unfold landL custL troopL
  refine K_enter (S := []) (K := []) Try.func4 rfl Try.ntmps4 rfl (Sat.start _) ?_
  refine TW.seq fun Y1 hY1 => ?_
  refine TW.region ?_
  refine TL.m Mk.bx ?_
  intro b1
  refine TL.m Mk.bx ?_
  intro b2
  refine TL.m Mk.bx ?_
  intro b3
  refine TL.p Pu.as ?_
  refine TL.nil ?_
  refine TQ.thenN (hY1 _ _ ?_)
  refine TW.seq fun Y2 hY2 => ?_
  refine TW.join [(6, .bool (great7 nw nl x nc nd nb no nu nv))] ?_ (fun hJ1 => ?_)
  · refine TQ.thenN (hY2 _ _ ?_)
    refine TW.ret ?_
    refine TQ.ret Try.results4 rfl ((.tmp rfl .nil)) ?_
    exact fun w hw => Ret.of hw
  refine TW.region ?_
  refine TL.p (Pu.lds ty_ag25) ?_
  refine TL.cr rfl (enters Try.func16 rfl rfl) (fun w hw => by
      exact great3_any (hA.sat hw Apart.nil)) ?_
  refine TL.p Pu.mv ?_
  refine TL.guard (t := 9) rfl (fun hg1 => ?_) (fun hg1 => ?_)
  · refine TL.gs ?_
    refine TL.gs ?_
    refine TL.gs ?_
    refine TL.gs ?_
    refine TL.p Pu.kt ?_
    refine TL.p Pu.mv ?_
    refine TL.gs ?_
    refine TL.gs ?_
    refine TL.gs ?_
    refine TL.gs ?_
    refine TL.p Pu.kt ?_
    refine TL.p Pu.mv ?_
    refine TL.gs ?_
    refine TL.gs ?_
    refine TL.gs ?_
    refine TL.gs ?_
    refine TL.p Pu.kt ?_
    refine TL.p Pu.mv ?_
    refine TL.gs ?_
    refine TL.gs ?_
    refine TL.gs ?_
    refine TL.gs ?_
    refine TL.p Pu.kt ?_
    refine TL.p Pu.mv ?_
    refine TL.gs ?_
    refine TL.gs ?_
    refine TL.gs ?_
    refine TL.gs ?_
    refine TL.p Pu.kt ?_
    refine TL.p Pu.mv ?_
    refine TL.gs ?_
    refine TL.gs ?_
    refine TL.gs ?_
    refine TL.gs ?_
    refine TL.p Pu.kt ?_
    refine TL.p Pu.as ?_
    refine TL.nil ?_
    exact TQ.sub (by repeat (first | exact trivial | refine ⟨rfl, ?_⟩ | refine ⟨trivial, ?_⟩ | refine ⟨(by show some (Value.bool _) = some (Value.bool _); simp [hg1, great7]), ?_⟩)) (by repeat (first | exact KSub.nil | refine KSub.cons (by repeat (first | exact Pick.hd | apply Pick.tl)) ?_)) hJ1
  · refine TL.gd (by first | exact Pu.fb ty_fa30_0 | exact Pu.fe ty_fa30_0) ?_
    refine TL.gd (Pu.ld ty_sc26) ?_
    refine TL.gd (Pu.ln Try.underlying26) ?_
    refine TL.gd Pu.gt ?_
    refine TL.p Pu.kf ?_
    refine TL.p Pu.mv ?_
    refine TL.guard (t := 15) rfl (fun hg2 => ?_) (fun hg2 => ?_)
    · refine TL.gs ?_
      refine TL.gs ?_
      refine TL.gs ?_
      refine TL.gs ?_
      refine TL.p Pu.kt ?_
      refine TL.p Pu.mv ?_
      refine TL.gs ?_
      refine TL.gs ?_
      refine TL.gs ?_
      refine TL.gs ?_
      refine TL.p Pu.kt ?_
      refine TL.p Pu.mv ?_
      refine TL.gs ?_
      refine TL.gs ?_
      refine TL.gs ?_
      refine TL.gs ?_
      refine TL.p Pu.kt ?_
      refine TL.p Pu.mv ?_
      refine TL.gs ?_
      refine TL.gs ?_
      refine TL.gs ?_
      refine TL.gs ?_
      refine TL.p Pu.kt ?_
      refine TL.p Pu.mv ?_
      refine TL.gs ?_
      refine TL.gs ?_
      refine TL.gs ?_
      refine TL.gs ?_
      refine TL.p Pu.kt ?_
      refine TL.p Pu.as ?_
      refine TL.nil ?_
      exact TQ.sub (by repeat (first | exact trivial | refine ⟨rfl, ?_⟩ | refine ⟨trivial, ?_⟩ | refine ⟨(by show some (Value.bool _) = some (Value.bool _); simp [hg1, hg2, great7]), ?_⟩)) (by repeat (first | exact KSub.nil | refine KSub.cons (by repeat (first | exact Pick.hd | apply Pick.tl)) ?_)) hJ1
    · refine TL.gd (by first | exact Pu.fb ty_fa30_1 | exact Pu.fe ty_fa30_1) ?_
      refine TL.gd (Pu.ld ty_sc27) ?_
      refine TL.gd (Pu.ln Try.underlying27) ?_
      refine TL.gd Pu.gt ?_
      refine TL.p Pu.kf ?_
      refine TL.p Pu.mv ?_
      refine TL.guard (t := 21) rfl (fun hg3 => ?_) (fun hg3 => ?_)
      · refine TL.gs ?_
        refine TL.gs ?_
        refine TL.gs ?_
        refine TL.gs ?_
        refine TL.p Pu.kt ?_
        refine TL.p Pu.mv ?_
        refine TL.gs ?_
        refine TL.gs ?_
        refine TL.gs ?_
        refine TL.gs ?_
        refine TL.p Pu.kt ?_
        refine TL.p Pu.mv ?_
        refine TL.gs ?_
        refine TL.gs ?_
        refine TL.gs ?_
        refine TL.gs ?_
        refine TL.p Pu.kt ?_
        refine TL.p Pu.mv ?_
        refine TL.gs ?_
        refine TL.gs ?_
        refine TL.gs ?_
        refine TL.gs ?_
        refine TL.p Pu.kt ?_
        refine TL.p Pu.as ?_
        refine TL.nil ?_
        exact TQ.sub (by repeat (first | exact trivial | refine ⟨rfl, ?_⟩ | refine ⟨trivial, ?_⟩ | refine ⟨(by show some (Value.bool _) = some (Value.bool _); simp [hg1, hg2, hg3, great7]), ?_⟩)) (by repeat (first | exact KSub.nil | refine KSub.cons (by repeat (first | exact Pick.hd | apply Pick.tl)) ?_)) hJ1
      · refine TL.gd (by first | exact Pu.fb ty_fa30_2 | exact Pu.fe ty_fa30_2) ?_
        refine TL.gd (Pu.ld ty_sc28) ?_
        refine TL.gd (Pu.ln Try.underlying28) ?_
        refine TL.gd Pu.gt ?_
        refine TL.p Pu.kf ?_
        refine TL.p Pu.mv ?_
        refine TL.guard (t := 27) rfl (fun hg4 => ?_) (fun hg4 => ?_)
        · refine TL.gs ?_
          refine TL.gs ?_
          refine TL.gs ?_
          refine TL.gs ?_
          refine TL.p Pu.kt ?_
          refine TL.p Pu.mv ?_
          refine TL.gs ?_
          refine TL.gs ?_
          refine TL.gs ?_
          refine TL.gs ?_
          refine TL.p Pu.kt ?_
          refine TL.p Pu.mv ?_
          refine TL.gs ?_
          refine TL.gs ?_
          refine TL.gs ?_
          refine TL.gs ?_
          refine TL.p Pu.kt ?_
          refine TL.p Pu.as ?_
          refine TL.nil ?_
          exact TQ.sub (by repeat (first | exact trivial | refine ⟨rfl, ?_⟩ | refine ⟨trivial, ?_⟩ | refine ⟨(by show some (Value.bool _) = some (Value.bool _); simp [hg1, hg2, hg3, hg4, great7]), ?_⟩)) (by repeat (first | exact KSub.nil | refine KSub.cons (by repeat (first | exact Pick.hd | apply Pick.tl)) ?_)) hJ1
        · refine TL.gd (by first | exact Pu.fb ty_fa34_2 | exact Pu.fe ty_fa34_2) ?_
          refine TL.gd (Pu.ld ty_sc32) ?_
          refine TL.gd (Pu.ln Try.underlying32) ?_
          refine TL.gd Pu.gt ?_
          refine TL.p Pu.kf ?_
          refine TL.p Pu.mv ?_
          refine TL.guard (t := 33) rfl (fun hg5 => ?_) (fun hg5 => ?_)
          · refine TL.gs ?_
            refine TL.gs ?_
            refine TL.gs ?_
            refine TL.gs ?_
            refine TL.p Pu.kt ?_
            refine TL.p Pu.mv ?_
            refine TL.gs ?_
            refine TL.gs ?_
            refine TL.gs ?_
            refine TL.gs ?_
            refine TL.p Pu.kt ?_
            refine TL.p Pu.as ?_
            refine TL.nil ?_
            exact TQ.sub (by repeat (first | exact trivial | refine ⟨rfl, ?_⟩ | refine ⟨trivial, ?_⟩ | refine ⟨(by show some (Value.bool _) = some (Value.bool _); simp [hg1, hg2, hg3, hg4, hg5, great7]), ?_⟩)) (by repeat (first | exact KSub.nil | refine KSub.cons (by repeat (first | exact Pick.hd | apply Pick.tl)) ?_)) hJ1
          · refine TL.gd (by first | exact Pu.fb ty_fa34_3 | exact Pu.fe ty_fa34_3) ?_
            refine TL.gd (Pu.ld ty_sc32) ?_
            refine TL.gd (Pu.ln Try.underlying32) ?_
            refine TL.gd Pu.gt ?_
            refine TL.p Pu.kf ?_
            refine TL.p Pu.mv ?_
            refine TL.guard (t := 39) rfl (fun hg6 => ?_) (fun hg6 => ?_)
            · refine TL.gs ?_
              refine TL.gs ?_
              refine TL.gs ?_
              refine TL.gs ?_
              refine TL.p Pu.kt ?_
              refine TL.p Pu.as ?_
              refine TL.nil ?_
              exact TQ.sub (by repeat (first | exact trivial | refine ⟨rfl, ?_⟩ | refine ⟨trivial, ?_⟩ | refine ⟨(by show some (Value.bool _) = some (Value.bool _); simp [hg1, hg2, hg3, hg4, hg5, hg6, great7]), ?_⟩)) (by repeat (first | exact KSub.nil | refine KSub.cons (by repeat (first | exact Pick.hd | apply Pick.tl)) ?_)) hJ1
            · refine TL.gd (by first | exact Pu.fb ty_fa34_4 | exact Pu.fe ty_fa34_4) ?_
              refine TL.gd (Pu.ld ty_sc32) ?_
              refine TL.gd (Pu.ln Try.underlying32) ?_
              refine TL.gd Pu.gt ?_
              refine TL.p Pu.kf ?_
              refine TL.p Pu.as ?_
              refine TL.nil ?_
              exact TQ.sub (by repeat (first | exact trivial | refine ⟨rfl, ?_⟩ | refine ⟨trivial, ?_⟩ | refine ⟨(by show some (Value.bool _) = some (Value.bool _); simp [hg1, hg2, hg3, hg4, hg5, hg6, great7]), ?_⟩)) (by repeat (first | exact KSub.nil | refine KSub.cons (by repeat (first | exact Pick.hd | apply Pick.tl)) ?_)) hJ1
abbrev TCx := (Option Addr × Nat) × (Option Addr × Nat) × (Option Addr × Nat)
set_option maxRecDepth 100000 in
set_option maxHeartbeats 4000000 in
theorem twinCustom_any {C D B : Option Addr} {nc cc nd cd nb cb : Nat} {c : Nat → (Nat → Int) × Bool} {d b : Nat → Nat → Int} {w : World} (k : CustIn w C nc D nd B nb c d b) :
    CallsK Try.prog 6 #[.agg (custL C nc cc D nd cd B nb cb).toArray] [] w TCx (fun x => .agg (custL x.1.1 nc x.1.2 x.2.1.1 nd x.2.1.2 x.2.2.1 nb x.2.2.2).toArray)
      (fun x => [.own x.1.1 nc x.1.2 62 7 (fun i => claimL (c i)), .own x.2.1.1 nd x.2.1.2 72 4 (fun i => feudL (d i)), .own x.2.2.1 nb x.2.2.2 77 3 (fun i => borderL (b i))]) := by
  have hRC := k.hC
  have hRD := k.hD
  have hRB := k.hB
  have hnc := k.hnc
  have hnd := k.hnd
  have hnb := k.hnb
  unfold custL
  refine K_enter (S := []) (K := []) Try.func6 rfl Try.ntmps6 rfl (Sat.start _) ?_
  refine TW.seq fun Y1 hY1 => ?_
  refine TW.region ?_
  refine TL.m Mk.bx ?_
  intro b1
  refine TL.m (Mk.al ty_zr30) ?_
  intro b2
  refine TL.nil ?_
  refine TQ.thenN (hY1 _ _ ?_)
  refine TW.seq fun Y2 hY2 => ?_
  refine TW.expk [.blk b1 30 [.slice C nc cc, .slice D nd cd, .slice B nb cb]] (fun (⟨A3, c3, A7, c7, A11, c11⟩ : Option Addr × Nat × Option Addr × Nat × Option Addr × Nat) => ([(2, .pointer (some ⟨b2, 0, none⟩))] : Fr)) (fun (⟨A3, c3, A7, c7, A11, c11⟩ : Option Addr × Nat × Option Addr × Nat × Option Addr × Nat) => [.blk b2 30 [.slice A3 nc c3, .slice A7 nd c7, .slice A11 nb c11], .own A3 nc c3 62 7 (fun i => claimL (c i)), .own A7 nd c7 72 4 (fun i => feudL (d i)), .own A11 nb c11 77 3 (fun i => borderL (b i))]) ?_ (fun hE => ?_)
  · rintro ⟨A3, c3, A7, c7, A11, c11⟩
    refine TQ.thenN (hY2 _ _ ?_)
    refine TW.ret ?_
    refine TQ.ret Try.results6 rfl ((RV.cs ty_ag30 .nil)) ?_
    exact fun w hw => ⟨((A3, c3), (A7, c7), (A11, c11)), rfl, hw.sub (by repeat (first | exact KSub.nil | refine KSub.cons (by repeat (first | exact Pick.hd | apply Pick.tl)) ?_))⟩
  refine RG.tk 1 rfl (by first | exact Pu.fb ty_fa30_0 | exact Pu.fe ty_fa30_0) ?_
  refine RG.tk 2 rfl (Pu.ld ty_sc26) ?_
  refine RG.tk 5 rfl (by first | exact Pu.fb ty_fa30_1 | exact Pu.fe ty_fa30_1) ?_
  refine RG.tk 6 rfl (Pu.ld ty_sc27) ?_
  refine RG.tk 9 rfl (by first | exact Pu.fb ty_fa30_2 | exact Pu.fe ty_fa30_2) ?_
  refine RG.tk 10 rfl (Pu.ld ty_sc28) ?_
  refine RG.a3 0 4 8 rfl rfl rfl (fun X0 hX0 => ?_) (fun X4 hX4 => ?_) (fun X8 hX8 => ?_)
  · refine TL.m Mk.bl ?_
    intro x0
    refine TL.nil ?_
    refine TQ.nxt (hX0 _ _ (by repeat (first | exact HasL.nil | refine HasL.cons (by repeat (first | exact Pick.hd | apply Pick.tl)) ?_)) ?_)
    refine RG.a3 3 4 8 rfl rfl rfl (fun X3 hX3 => ?_) (fun X4 hX4 => ?_) (fun X8 hX8 => ?_)
    · refine TL.ob (b := x0) (sz := 7) (r := fun _ => []) (by repeat (first | exact Pick.hd | apply Pick.tl)) rfl ?_
      first | refine TL.a0 ty_et26 ?_ | refine TL.ap ty_et26 ?_
      intro A3 c3
      refine TL.nil ?_
      refine TQ.nxt (hX3 _ _ (by repeat (first | exact HasL.nil | refine HasL.cons (by repeat (first | exact Pick.hd | apply Pick.tl)) ?_)) ?_)
      refine RG.a2 4 8 rfl rfl (fun X4 hX4 => ?_) (fun X8 hX8 => ?_)
      · refine TL.m Mk.bl ?_
        intro x4
        refine TL.nil ?_
        refine TQ.nxt (hX4 _ _ (by repeat (first | exact HasL.nil | refine HasL.cons (by repeat (first | exact Pick.hd | apply Pick.tl)) ?_)) ?_)
        refine RG.a2 7 8 rfl rfl (fun X7 hX7 => ?_) (fun X8 hX8 => ?_)
        · refine TL.ob (b := x4) (sz := 4) (r := fun _ => []) (by repeat (first | exact Pick.hd | apply Pick.tl)) rfl ?_
          first | refine TL.a0 ty_et27 ?_ | refine TL.ap ty_et27 ?_
          intro A7 c7
          refine TL.nil ?_
          refine TQ.nxt (hX7 _ _ (by repeat (first | exact HasL.nil | refine HasL.cons (by repeat (first | exact Pick.hd | apply Pick.tl)) ?_)) ?_)
          refine RG.a1 8 rfl (fun X8 hX8 => ?_)
          refine TL.m Mk.bl ?_
          intro x8
          refine TL.nil ?_
          refine TQ.nxt (hX8 _ _ (by repeat (first | exact HasL.nil | refine HasL.cons (by repeat (first | exact Pick.hd | apply Pick.tl)) ?_)) ?_)
          refine RG.a1 11 rfl (fun X11 hX11 => ?_)
          refine TL.ob (b := x8) (sz := 3) (r := fun _ => []) (by repeat (first | exact Pick.hd | apply Pick.tl)) rfl ?_
          first | refine TL.a0 ty_et28 ?_ | refine TL.ap ty_et28 ?_
          intro A11 c11
          refine TL.nil ?_
          refine TQ.nxt (hX11 _ _ (by repeat (first | exact HasL.nil | refine HasL.cons (by repeat (first | exact Pick.hd | apply Pick.tl)) ?_)) ?_)
          refine RG.a1 12 rfl (fun X12 hX12 => ?_)
          refine TL.p Pu.bd ?_
          refine TL.nil ?_
          refine TQ.nxt (hX12 _ _ (by repeat (first | exact HasL.nil | refine HasL.cons (by repeat (first | exact Pick.hd | apply Pick.tl)) ?_)) ?_)
          refine RG.a1 13 rfl (fun X13 hX13 => ?_)
          first | refine TL.st ty_sz30 ?_ | refine TL.se ty_sz30 ?_
          refine TL.nil ?_
          refine TQ.nxt (hX13 _ _ (by repeat (first | exact HasL.nil | refine HasL.cons (by repeat (first | exact Pick.hd | apply Pick.tl)) ?_)) ?_)
          exact RG.nil (TQ.sub (by repeat (first | exact trivial | refine ⟨rfl, ?_⟩ | refine ⟨trivial, ?_⟩)) (by repeat (first | exact KSub.nil | refine KSub.cons (by repeat (first | exact Pick.hd | apply Pick.tl)) ?_ | exact KSub.refl _ | exact KSub.drop (KSub.refl _))) (hE ⟨A3, c3, A7, c7, A11, c11⟩)) (by kernel_rfl)
        · refine TL.m Mk.bl ?_
          intro x8
          refine TL.nil ?_
          refine TQ.nxt (hX8 _ _ (by repeat (first | exact HasL.nil | refine HasL.cons (by repeat (first | exact Pick.hd | apply Pick.tl)) ?_)) ?_)
          refine RG.a1 7 rfl (fun X7 hX7 => ?_)
          refine TL.ob (b := x4) (sz := 4) (r := fun _ => []) (by repeat (first | exact Pick.hd | apply Pick.tl)) rfl ?_
          first | refine TL.a0 ty_et27 ?_ | refine TL.ap ty_et27 ?_
          intro A7 c7
          refine TL.nil ?_
          refine TQ.nxt (hX7 _ _ (by repeat (first | exact HasL.nil | refine HasL.cons (by repeat (first | exact Pick.hd | apply Pick.tl)) ?_)) ?_)
          refine RG.a1 11 rfl (fun X11 hX11 => ?_)
          refine TL.ob (b := x8) (sz := 3) (r := fun _ => []) (by repeat (first | exact Pick.hd | apply Pick.tl)) rfl ?_
          first | refine TL.a0 ty_et28 ?_ | refine TL.ap ty_et28 ?_
          intro A11 c11
          refine TL.nil ?_
          refine TQ.nxt (hX11 _ _ (by repeat (first | exact HasL.nil | refine HasL.cons (by repeat (first | exact Pick.hd | apply Pick.tl)) ?_)) ?_)
          refine RG.a1 12 rfl (fun X12 hX12 => ?_)
          refine TL.p Pu.bd ?_
          refine TL.nil ?_
          refine TQ.nxt (hX12 _ _ (by repeat (first | exact HasL.nil | refine HasL.cons (by repeat (first | exact Pick.hd | apply Pick.tl)) ?_)) ?_)
          refine RG.a1 13 rfl (fun X13 hX13 => ?_)
          first | refine TL.st ty_sz30 ?_ | refine TL.se ty_sz30 ?_
          refine TL.nil ?_
          refine TQ.nxt (hX13 _ _ (by repeat (first | exact HasL.nil | refine HasL.cons (by repeat (first | exact Pick.hd | apply Pick.tl)) ?_)) ?_)
          exact RG.nil (TQ.sub (by repeat (first | exact trivial | refine ⟨rfl, ?_⟩ | refine ⟨trivial, ?_⟩)) (by repeat (first | exact KSub.nil | refine KSub.cons (by repeat (first | exact Pick.hd | apply Pick.tl)) ?_ | exact KSub.refl _ | exact KSub.drop (KSub.refl _))) (hE ⟨A3, c3, A7, c7, A11, c11⟩)) (by kernel_rfl)
      · refine TL.m Mk.bl ?_
        intro x8
        refine TL.nil ?_
        refine TQ.nxt (hX8 _ _ (by repeat (first | exact HasL.nil | refine HasL.cons (by repeat (first | exact Pick.hd | apply Pick.tl)) ?_)) ?_)
        refine RG.a1 4 rfl (fun X4 hX4 => ?_)
        refine TL.m Mk.bl ?_
        intro x4
        refine TL.nil ?_
        refine TQ.nxt (hX4 _ _ (by repeat (first | exact HasL.nil | refine HasL.cons (by repeat (first | exact Pick.hd | apply Pick.tl)) ?_)) ?_)
        refine RG.a1 7 rfl (fun X7 hX7 => ?_)
        refine TL.ob (b := x4) (sz := 4) (r := fun _ => []) (by repeat (first | exact Pick.hd | apply Pick.tl)) rfl ?_
        first | refine TL.a0 ty_et27 ?_ | refine TL.ap ty_et27 ?_
        intro A7 c7
        refine TL.nil ?_
        refine TQ.nxt (hX7 _ _ (by repeat (first | exact HasL.nil | refine HasL.cons (by repeat (first | exact Pick.hd | apply Pick.tl)) ?_)) ?_)
        refine RG.a1 11 rfl (fun X11 hX11 => ?_)
        refine TL.ob (b := x8) (sz := 3) (r := fun _ => []) (by repeat (first | exact Pick.hd | apply Pick.tl)) rfl ?_
        first | refine TL.a0 ty_et28 ?_ | refine TL.ap ty_et28 ?_
        intro A11 c11
        refine TL.nil ?_
        refine TQ.nxt (hX11 _ _ (by repeat (first | exact HasL.nil | refine HasL.cons (by repeat (first | exact Pick.hd | apply Pick.tl)) ?_)) ?_)
        refine RG.a1 12 rfl (fun X12 hX12 => ?_)
        refine TL.p Pu.bd ?_
        refine TL.nil ?_
        refine TQ.nxt (hX12 _ _ (by repeat (first | exact HasL.nil | refine HasL.cons (by repeat (first | exact Pick.hd | apply Pick.tl)) ?_)) ?_)
        refine RG.a1 13 rfl (fun X13 hX13 => ?_)
        first | refine TL.st ty_sz30 ?_ | refine TL.se ty_sz30 ?_
        refine TL.nil ?_
        refine TQ.nxt (hX13 _ _ (by repeat (first | exact HasL.nil | refine HasL.cons (by repeat (first | exact Pick.hd | apply Pick.tl)) ?_)) ?_)
        exact RG.nil (TQ.sub (by repeat (first | exact trivial | refine ⟨rfl, ?_⟩ | refine ⟨trivial, ?_⟩)) (by repeat (first | exact KSub.nil | refine KSub.cons (by repeat (first | exact Pick.hd | apply Pick.tl)) ?_ | exact KSub.refl _ | exact KSub.drop (KSub.refl _))) (hE ⟨A3, c3, A7, c7, A11, c11⟩)) (by kernel_rfl)
    · refine TL.m Mk.bl ?_
      intro x4
      refine TL.nil ?_
      refine TQ.nxt (hX4 _ _ (by repeat (first | exact HasL.nil | refine HasL.cons (by repeat (first | exact Pick.hd | apply Pick.tl)) ?_)) ?_)
      refine RG.a2 3 8 rfl rfl (fun X3 hX3 => ?_) (fun X8 hX8 => ?_)
      · refine TL.ob (b := x0) (sz := 7) (r := fun _ => []) (by repeat (first | exact Pick.hd | apply Pick.tl)) rfl ?_
        first | refine TL.a0 ty_et26 ?_ | refine TL.ap ty_et26 ?_
        intro A3 c3
        refine TL.nil ?_
        refine TQ.nxt (hX3 _ _ (by repeat (first | exact HasL.nil | refine HasL.cons (by repeat (first | exact Pick.hd | apply Pick.tl)) ?_)) ?_)
        refine RG.a2 7 8 rfl rfl (fun X7 hX7 => ?_) (fun X8 hX8 => ?_)
        · refine TL.ob (b := x4) (sz := 4) (r := fun _ => []) (by repeat (first | exact Pick.hd | apply Pick.tl)) rfl ?_
          first | refine TL.a0 ty_et27 ?_ | refine TL.ap ty_et27 ?_
          intro A7 c7
          refine TL.nil ?_
          refine TQ.nxt (hX7 _ _ (by repeat (first | exact HasL.nil | refine HasL.cons (by repeat (first | exact Pick.hd | apply Pick.tl)) ?_)) ?_)
          refine RG.a1 8 rfl (fun X8 hX8 => ?_)
          refine TL.m Mk.bl ?_
          intro x8
          refine TL.nil ?_
          refine TQ.nxt (hX8 _ _ (by repeat (first | exact HasL.nil | refine HasL.cons (by repeat (first | exact Pick.hd | apply Pick.tl)) ?_)) ?_)
          refine RG.a1 11 rfl (fun X11 hX11 => ?_)
          refine TL.ob (b := x8) (sz := 3) (r := fun _ => []) (by repeat (first | exact Pick.hd | apply Pick.tl)) rfl ?_
          first | refine TL.a0 ty_et28 ?_ | refine TL.ap ty_et28 ?_
          intro A11 c11
          refine TL.nil ?_
          refine TQ.nxt (hX11 _ _ (by repeat (first | exact HasL.nil | refine HasL.cons (by repeat (first | exact Pick.hd | apply Pick.tl)) ?_)) ?_)
          refine RG.a1 12 rfl (fun X12 hX12 => ?_)
          refine TL.p Pu.bd ?_
          refine TL.nil ?_
          refine TQ.nxt (hX12 _ _ (by repeat (first | exact HasL.nil | refine HasL.cons (by repeat (first | exact Pick.hd | apply Pick.tl)) ?_)) ?_)
          refine RG.a1 13 rfl (fun X13 hX13 => ?_)
          first | refine TL.st ty_sz30 ?_ | refine TL.se ty_sz30 ?_
          refine TL.nil ?_
          refine TQ.nxt (hX13 _ _ (by repeat (first | exact HasL.nil | refine HasL.cons (by repeat (first | exact Pick.hd | apply Pick.tl)) ?_)) ?_)
          exact RG.nil (TQ.sub (by repeat (first | exact trivial | refine ⟨rfl, ?_⟩ | refine ⟨trivial, ?_⟩)) (by repeat (first | exact KSub.nil | refine KSub.cons (by repeat (first | exact Pick.hd | apply Pick.tl)) ?_ | exact KSub.refl _ | exact KSub.drop (KSub.refl _))) (hE ⟨A3, c3, A7, c7, A11, c11⟩)) (by kernel_rfl)
        · refine TL.m Mk.bl ?_
          intro x8
          refine TL.nil ?_
          refine TQ.nxt (hX8 _ _ (by repeat (first | exact HasL.nil | refine HasL.cons (by repeat (first | exact Pick.hd | apply Pick.tl)) ?_)) ?_)
          refine RG.a1 7 rfl (fun X7 hX7 => ?_)
          refine TL.ob (b := x4) (sz := 4) (r := fun _ => []) (by repeat (first | exact Pick.hd | apply Pick.tl)) rfl ?_
          first | refine TL.a0 ty_et27 ?_ | refine TL.ap ty_et27 ?_
          intro A7 c7
          refine TL.nil ?_
          refine TQ.nxt (hX7 _ _ (by repeat (first | exact HasL.nil | refine HasL.cons (by repeat (first | exact Pick.hd | apply Pick.tl)) ?_)) ?_)
          refine RG.a1 11 rfl (fun X11 hX11 => ?_)
          refine TL.ob (b := x8) (sz := 3) (r := fun _ => []) (by repeat (first | exact Pick.hd | apply Pick.tl)) rfl ?_
          first | refine TL.a0 ty_et28 ?_ | refine TL.ap ty_et28 ?_
          intro A11 c11
          refine TL.nil ?_
          refine TQ.nxt (hX11 _ _ (by repeat (first | exact HasL.nil | refine HasL.cons (by repeat (first | exact Pick.hd | apply Pick.tl)) ?_)) ?_)
          refine RG.a1 12 rfl (fun X12 hX12 => ?_)
          refine TL.p Pu.bd ?_
          refine TL.nil ?_
          refine TQ.nxt (hX12 _ _ (by repeat (first | exact HasL.nil | refine HasL.cons (by repeat (first | exact Pick.hd | apply Pick.tl)) ?_)) ?_)
          refine RG.a1 13 rfl (fun X13 hX13 => ?_)
          first | refine TL.st ty_sz30 ?_ | refine TL.se ty_sz30 ?_
          refine TL.nil ?_
          refine TQ.nxt (hX13 _ _ (by repeat (first | exact HasL.nil | refine HasL.cons (by repeat (first | exact Pick.hd | apply Pick.tl)) ?_)) ?_)
          exact RG.nil (TQ.sub (by repeat (first | exact trivial | refine ⟨rfl, ?_⟩ | refine ⟨trivial, ?_⟩)) (by repeat (first | exact KSub.nil | refine KSub.cons (by repeat (first | exact Pick.hd | apply Pick.tl)) ?_ | exact KSub.refl _ | exact KSub.drop (KSub.refl _))) (hE ⟨A3, c3, A7, c7, A11, c11⟩)) (by kernel_rfl)
      · refine TL.m Mk.bl ?_
        intro x8
        refine TL.nil ?_
        refine TQ.nxt (hX8 _ _ (by repeat (first | exact HasL.nil | refine HasL.cons (by repeat (first | exact Pick.hd | apply Pick.tl)) ?_)) ?_)
        refine RG.a1 3 rfl (fun X3 hX3 => ?_)
        refine TL.ob (b := x0) (sz := 7) (r := fun _ => []) (by repeat (first | exact Pick.hd | apply Pick.tl)) rfl ?_
        first | refine TL.a0 ty_et26 ?_ | refine TL.ap ty_et26 ?_
        intro A3 c3
        refine TL.nil ?_
        refine TQ.nxt (hX3 _ _ (by repeat (first | exact HasL.nil | refine HasL.cons (by repeat (first | exact Pick.hd | apply Pick.tl)) ?_)) ?_)
        refine RG.a1 7 rfl (fun X7 hX7 => ?_)
        refine TL.ob (b := x4) (sz := 4) (r := fun _ => []) (by repeat (first | exact Pick.hd | apply Pick.tl)) rfl ?_
        first | refine TL.a0 ty_et27 ?_ | refine TL.ap ty_et27 ?_
        intro A7 c7
        refine TL.nil ?_
        refine TQ.nxt (hX7 _ _ (by repeat (first | exact HasL.nil | refine HasL.cons (by repeat (first | exact Pick.hd | apply Pick.tl)) ?_)) ?_)
        refine RG.a1 11 rfl (fun X11 hX11 => ?_)
        refine TL.ob (b := x8) (sz := 3) (r := fun _ => []) (by repeat (first | exact Pick.hd | apply Pick.tl)) rfl ?_
        first | refine TL.a0 ty_et28 ?_ | refine TL.ap ty_et28 ?_
        intro A11 c11
        refine TL.nil ?_
        refine TQ.nxt (hX11 _ _ (by repeat (first | exact HasL.nil | refine HasL.cons (by repeat (first | exact Pick.hd | apply Pick.tl)) ?_)) ?_)
        refine RG.a1 12 rfl (fun X12 hX12 => ?_)
        refine TL.p Pu.bd ?_
        refine TL.nil ?_
        refine TQ.nxt (hX12 _ _ (by repeat (first | exact HasL.nil | refine HasL.cons (by repeat (first | exact Pick.hd | apply Pick.tl)) ?_)) ?_)
        refine RG.a1 13 rfl (fun X13 hX13 => ?_)
        first | refine TL.st ty_sz30 ?_ | refine TL.se ty_sz30 ?_
        refine TL.nil ?_
        refine TQ.nxt (hX13 _ _ (by repeat (first | exact HasL.nil | refine HasL.cons (by repeat (first | exact Pick.hd | apply Pick.tl)) ?_)) ?_)
        exact RG.nil (TQ.sub (by repeat (first | exact trivial | refine ⟨rfl, ?_⟩ | refine ⟨trivial, ?_⟩)) (by repeat (first | exact KSub.nil | refine KSub.cons (by repeat (first | exact Pick.hd | apply Pick.tl)) ?_ | exact KSub.refl _ | exact KSub.drop (KSub.refl _))) (hE ⟨A3, c3, A7, c7, A11, c11⟩)) (by kernel_rfl)
    · refine TL.m Mk.bl ?_
      intro x8
      refine TL.nil ?_
      refine TQ.nxt (hX8 _ _ (by repeat (first | exact HasL.nil | refine HasL.cons (by repeat (first | exact Pick.hd | apply Pick.tl)) ?_)) ?_)
      refine RG.a2 3 4 rfl rfl (fun X3 hX3 => ?_) (fun X4 hX4 => ?_)
      · refine TL.ob (b := x0) (sz := 7) (r := fun _ => []) (by repeat (first | exact Pick.hd | apply Pick.tl)) rfl ?_
        first | refine TL.a0 ty_et26 ?_ | refine TL.ap ty_et26 ?_
        intro A3 c3
        refine TL.nil ?_
        refine TQ.nxt (hX3 _ _ (by repeat (first | exact HasL.nil | refine HasL.cons (by repeat (first | exact Pick.hd | apply Pick.tl)) ?_)) ?_)
        refine RG.a1 4 rfl (fun X4 hX4 => ?_)
        refine TL.m Mk.bl ?_
        intro x4
        refine TL.nil ?_
        refine TQ.nxt (hX4 _ _ (by repeat (first | exact HasL.nil | refine HasL.cons (by repeat (first | exact Pick.hd | apply Pick.tl)) ?_)) ?_)
        refine RG.a1 7 rfl (fun X7 hX7 => ?_)
        refine TL.ob (b := x4) (sz := 4) (r := fun _ => []) (by repeat (first | exact Pick.hd | apply Pick.tl)) rfl ?_
        first | refine TL.a0 ty_et27 ?_ | refine TL.ap ty_et27 ?_
        intro A7 c7
        refine TL.nil ?_
        refine TQ.nxt (hX7 _ _ (by repeat (first | exact HasL.nil | refine HasL.cons (by repeat (first | exact Pick.hd | apply Pick.tl)) ?_)) ?_)
        refine RG.a1 11 rfl (fun X11 hX11 => ?_)
        refine TL.ob (b := x8) (sz := 3) (r := fun _ => []) (by repeat (first | exact Pick.hd | apply Pick.tl)) rfl ?_
        first | refine TL.a0 ty_et28 ?_ | refine TL.ap ty_et28 ?_
        intro A11 c11
        refine TL.nil ?_
        refine TQ.nxt (hX11 _ _ (by repeat (first | exact HasL.nil | refine HasL.cons (by repeat (first | exact Pick.hd | apply Pick.tl)) ?_)) ?_)
        refine RG.a1 12 rfl (fun X12 hX12 => ?_)
        refine TL.p Pu.bd ?_
        refine TL.nil ?_
        refine TQ.nxt (hX12 _ _ (by repeat (first | exact HasL.nil | refine HasL.cons (by repeat (first | exact Pick.hd | apply Pick.tl)) ?_)) ?_)
        refine RG.a1 13 rfl (fun X13 hX13 => ?_)
        first | refine TL.st ty_sz30 ?_ | refine TL.se ty_sz30 ?_
        refine TL.nil ?_
        refine TQ.nxt (hX13 _ _ (by repeat (first | exact HasL.nil | refine HasL.cons (by repeat (first | exact Pick.hd | apply Pick.tl)) ?_)) ?_)
        exact RG.nil (TQ.sub (by repeat (first | exact trivial | refine ⟨rfl, ?_⟩ | refine ⟨trivial, ?_⟩)) (by repeat (first | exact KSub.nil | refine KSub.cons (by repeat (first | exact Pick.hd | apply Pick.tl)) ?_ | exact KSub.refl _ | exact KSub.drop (KSub.refl _))) (hE ⟨A3, c3, A7, c7, A11, c11⟩)) (by kernel_rfl)
      · refine TL.m Mk.bl ?_
        intro x4
        refine TL.nil ?_
        refine TQ.nxt (hX4 _ _ (by repeat (first | exact HasL.nil | refine HasL.cons (by repeat (first | exact Pick.hd | apply Pick.tl)) ?_)) ?_)
        refine RG.a1 3 rfl (fun X3 hX3 => ?_)
        refine TL.ob (b := x0) (sz := 7) (r := fun _ => []) (by repeat (first | exact Pick.hd | apply Pick.tl)) rfl ?_
        first | refine TL.a0 ty_et26 ?_ | refine TL.ap ty_et26 ?_
        intro A3 c3
        refine TL.nil ?_
        refine TQ.nxt (hX3 _ _ (by repeat (first | exact HasL.nil | refine HasL.cons (by repeat (first | exact Pick.hd | apply Pick.tl)) ?_)) ?_)
        refine RG.a1 7 rfl (fun X7 hX7 => ?_)
        refine TL.ob (b := x4) (sz := 4) (r := fun _ => []) (by repeat (first | exact Pick.hd | apply Pick.tl)) rfl ?_
        first | refine TL.a0 ty_et27 ?_ | refine TL.ap ty_et27 ?_
        intro A7 c7
        refine TL.nil ?_
        refine TQ.nxt (hX7 _ _ (by repeat (first | exact HasL.nil | refine HasL.cons (by repeat (first | exact Pick.hd | apply Pick.tl)) ?_)) ?_)
        refine RG.a1 11 rfl (fun X11 hX11 => ?_)
        refine TL.ob (b := x8) (sz := 3) (r := fun _ => []) (by repeat (first | exact Pick.hd | apply Pick.tl)) rfl ?_
        first | refine TL.a0 ty_et28 ?_ | refine TL.ap ty_et28 ?_
        intro A11 c11
        refine TL.nil ?_
        refine TQ.nxt (hX11 _ _ (by repeat (first | exact HasL.nil | refine HasL.cons (by repeat (first | exact Pick.hd | apply Pick.tl)) ?_)) ?_)
        refine RG.a1 12 rfl (fun X12 hX12 => ?_)
        refine TL.p Pu.bd ?_
        refine TL.nil ?_
        refine TQ.nxt (hX12 _ _ (by repeat (first | exact HasL.nil | refine HasL.cons (by repeat (first | exact Pick.hd | apply Pick.tl)) ?_)) ?_)
        refine RG.a1 13 rfl (fun X13 hX13 => ?_)
        first | refine TL.st ty_sz30 ?_ | refine TL.se ty_sz30 ?_
        refine TL.nil ?_
        refine TQ.nxt (hX13 _ _ (by repeat (first | exact HasL.nil | refine HasL.cons (by repeat (first | exact Pick.hd | apply Pick.tl)) ?_)) ?_)
        exact RG.nil (TQ.sub (by repeat (first | exact trivial | refine ⟨rfl, ?_⟩ | refine ⟨trivial, ?_⟩)) (by repeat (first | exact KSub.nil | refine KSub.cons (by repeat (first | exact Pick.hd | apply Pick.tl)) ?_ | exact KSub.refl _ | exact KSub.drop (KSub.refl _))) (hE ⟨A3, c3, A7, c7, A11, c11⟩)) (by kernel_rfl)
  · refine TL.m Mk.bl ?_
    intro x4
    refine TL.nil ?_
    refine TQ.nxt (hX4 _ _ (by repeat (first | exact HasL.nil | refine HasL.cons (by repeat (first | exact Pick.hd | apply Pick.tl)) ?_)) ?_)
    refine RG.a2 0 8 rfl rfl (fun X0 hX0 => ?_) (fun X8 hX8 => ?_)
    · refine TL.m Mk.bl ?_
      intro x0
      refine TL.nil ?_
      refine TQ.nxt (hX0 _ _ (by repeat (first | exact HasL.nil | refine HasL.cons (by repeat (first | exact Pick.hd | apply Pick.tl)) ?_)) ?_)
      refine RG.a2 3 8 rfl rfl (fun X3 hX3 => ?_) (fun X8 hX8 => ?_)
      · refine TL.ob (b := x0) (sz := 7) (r := fun _ => []) (by repeat (first | exact Pick.hd | apply Pick.tl)) rfl ?_
        first | refine TL.a0 ty_et26 ?_ | refine TL.ap ty_et26 ?_
        intro A3 c3
        refine TL.nil ?_
        refine TQ.nxt (hX3 _ _ (by repeat (first | exact HasL.nil | refine HasL.cons (by repeat (first | exact Pick.hd | apply Pick.tl)) ?_)) ?_)
        refine RG.a2 7 8 rfl rfl (fun X7 hX7 => ?_) (fun X8 hX8 => ?_)
        · refine TL.ob (b := x4) (sz := 4) (r := fun _ => []) (by repeat (first | exact Pick.hd | apply Pick.tl)) rfl ?_
          first | refine TL.a0 ty_et27 ?_ | refine TL.ap ty_et27 ?_
          intro A7 c7
          refine TL.nil ?_
          refine TQ.nxt (hX7 _ _ (by repeat (first | exact HasL.nil | refine HasL.cons (by repeat (first | exact Pick.hd | apply Pick.tl)) ?_)) ?_)
          refine RG.a1 8 rfl (fun X8 hX8 => ?_)
          refine TL.m Mk.bl ?_
          intro x8
          refine TL.nil ?_
          refine TQ.nxt (hX8 _ _ (by repeat (first | exact HasL.nil | refine HasL.cons (by repeat (first | exact Pick.hd | apply Pick.tl)) ?_)) ?_)
          refine RG.a1 11 rfl (fun X11 hX11 => ?_)
          refine TL.ob (b := x8) (sz := 3) (r := fun _ => []) (by repeat (first | exact Pick.hd | apply Pick.tl)) rfl ?_
          first | refine TL.a0 ty_et28 ?_ | refine TL.ap ty_et28 ?_
          intro A11 c11
          refine TL.nil ?_
          refine TQ.nxt (hX11 _ _ (by repeat (first | exact HasL.nil | refine HasL.cons (by repeat (first | exact Pick.hd | apply Pick.tl)) ?_)) ?_)
          refine RG.a1 12 rfl (fun X12 hX12 => ?_)
          refine TL.p Pu.bd ?_
          refine TL.nil ?_
          refine TQ.nxt (hX12 _ _ (by repeat (first | exact HasL.nil | refine HasL.cons (by repeat (first | exact Pick.hd | apply Pick.tl)) ?_)) ?_)
          refine RG.a1 13 rfl (fun X13 hX13 => ?_)
          first | refine TL.st ty_sz30 ?_ | refine TL.se ty_sz30 ?_
          refine TL.nil ?_
          refine TQ.nxt (hX13 _ _ (by repeat (first | exact HasL.nil | refine HasL.cons (by repeat (first | exact Pick.hd | apply Pick.tl)) ?_)) ?_)
          exact RG.nil (TQ.sub (by repeat (first | exact trivial | refine ⟨rfl, ?_⟩ | refine ⟨trivial, ?_⟩)) (by repeat (first | exact KSub.nil | refine KSub.cons (by repeat (first | exact Pick.hd | apply Pick.tl)) ?_ | exact KSub.refl _ | exact KSub.drop (KSub.refl _))) (hE ⟨A3, c3, A7, c7, A11, c11⟩)) (by kernel_rfl)
        · refine TL.m Mk.bl ?_
          intro x8
          refine TL.nil ?_
          refine TQ.nxt (hX8 _ _ (by repeat (first | exact HasL.nil | refine HasL.cons (by repeat (first | exact Pick.hd | apply Pick.tl)) ?_)) ?_)
          refine RG.a1 7 rfl (fun X7 hX7 => ?_)
          refine TL.ob (b := x4) (sz := 4) (r := fun _ => []) (by repeat (first | exact Pick.hd | apply Pick.tl)) rfl ?_
          first | refine TL.a0 ty_et27 ?_ | refine TL.ap ty_et27 ?_
          intro A7 c7
          refine TL.nil ?_
          refine TQ.nxt (hX7 _ _ (by repeat (first | exact HasL.nil | refine HasL.cons (by repeat (first | exact Pick.hd | apply Pick.tl)) ?_)) ?_)
          refine RG.a1 11 rfl (fun X11 hX11 => ?_)
          refine TL.ob (b := x8) (sz := 3) (r := fun _ => []) (by repeat (first | exact Pick.hd | apply Pick.tl)) rfl ?_
          first | refine TL.a0 ty_et28 ?_ | refine TL.ap ty_et28 ?_
          intro A11 c11
          refine TL.nil ?_
          refine TQ.nxt (hX11 _ _ (by repeat (first | exact HasL.nil | refine HasL.cons (by repeat (first | exact Pick.hd | apply Pick.tl)) ?_)) ?_)
          refine RG.a1 12 rfl (fun X12 hX12 => ?_)
          refine TL.p Pu.bd ?_
          refine TL.nil ?_
          refine TQ.nxt (hX12 _ _ (by repeat (first | exact HasL.nil | refine HasL.cons (by repeat (first | exact Pick.hd | apply Pick.tl)) ?_)) ?_)
          refine RG.a1 13 rfl (fun X13 hX13 => ?_)
          first | refine TL.st ty_sz30 ?_ | refine TL.se ty_sz30 ?_
          refine TL.nil ?_
          refine TQ.nxt (hX13 _ _ (by repeat (first | exact HasL.nil | refine HasL.cons (by repeat (first | exact Pick.hd | apply Pick.tl)) ?_)) ?_)
          exact RG.nil (TQ.sub (by repeat (first | exact trivial | refine ⟨rfl, ?_⟩ | refine ⟨trivial, ?_⟩)) (by repeat (first | exact KSub.nil | refine KSub.cons (by repeat (first | exact Pick.hd | apply Pick.tl)) ?_ | exact KSub.refl _ | exact KSub.drop (KSub.refl _))) (hE ⟨A3, c3, A7, c7, A11, c11⟩)) (by kernel_rfl)
      · refine TL.m Mk.bl ?_
        intro x8
        refine TL.nil ?_
        refine TQ.nxt (hX8 _ _ (by repeat (first | exact HasL.nil | refine HasL.cons (by repeat (first | exact Pick.hd | apply Pick.tl)) ?_)) ?_)
        refine RG.a1 3 rfl (fun X3 hX3 => ?_)
        refine TL.ob (b := x0) (sz := 7) (r := fun _ => []) (by repeat (first | exact Pick.hd | apply Pick.tl)) rfl ?_
        first | refine TL.a0 ty_et26 ?_ | refine TL.ap ty_et26 ?_
        intro A3 c3
        refine TL.nil ?_
        refine TQ.nxt (hX3 _ _ (by repeat (first | exact HasL.nil | refine HasL.cons (by repeat (first | exact Pick.hd | apply Pick.tl)) ?_)) ?_)
        refine RG.a1 7 rfl (fun X7 hX7 => ?_)
        refine TL.ob (b := x4) (sz := 4) (r := fun _ => []) (by repeat (first | exact Pick.hd | apply Pick.tl)) rfl ?_
        first | refine TL.a0 ty_et27 ?_ | refine TL.ap ty_et27 ?_
        intro A7 c7
        refine TL.nil ?_
        refine TQ.nxt (hX7 _ _ (by repeat (first | exact HasL.nil | refine HasL.cons (by repeat (first | exact Pick.hd | apply Pick.tl)) ?_)) ?_)
        refine RG.a1 11 rfl (fun X11 hX11 => ?_)
        refine TL.ob (b := x8) (sz := 3) (r := fun _ => []) (by repeat (first | exact Pick.hd | apply Pick.tl)) rfl ?_
        first | refine TL.a0 ty_et28 ?_ | refine TL.ap ty_et28 ?_
        intro A11 c11
        refine TL.nil ?_
        refine TQ.nxt (hX11 _ _ (by repeat (first | exact HasL.nil | refine HasL.cons (by repeat (first | exact Pick.hd | apply Pick.tl)) ?_)) ?_)
        refine RG.a1 12 rfl (fun X12 hX12 => ?_)
        refine TL.p Pu.bd ?_
        refine TL.nil ?_
        refine TQ.nxt (hX12 _ _ (by repeat (first | exact HasL.nil | refine HasL.cons (by repeat (first | exact Pick.hd | apply Pick.tl)) ?_)) ?_)
        refine RG.a1 13 rfl (fun X13 hX13 => ?_)
        first | refine TL.st ty_sz30 ?_ | refine TL.se ty_sz30 ?_
        refine TL.nil ?_
        refine TQ.nxt (hX13 _ _ (by repeat (first | exact HasL.nil | refine HasL.cons (by repeat (first | exact Pick.hd | apply Pick.tl)) ?_)) ?_)
        exact RG.nil (TQ.sub (by repeat (first | exact trivial | refine ⟨rfl, ?_⟩ | refine ⟨trivial, ?_⟩)) (by repeat (first | exact KSub.nil | refine KSub.cons (by repeat (first | exact Pick.hd | apply Pick.tl)) ?_ | exact KSub.refl _ | exact KSub.drop (KSub.refl _))) (hE ⟨A3, c3, A7, c7, A11, c11⟩)) (by kernel_rfl)
    · refine TL.m Mk.bl ?_
      intro x8
      refine TL.nil ?_
      refine TQ.nxt (hX8 _ _ (by repeat (first | exact HasL.nil | refine HasL.cons (by repeat (first | exact Pick.hd | apply Pick.tl)) ?_)) ?_)
      refine RG.a1 0 rfl (fun X0 hX0 => ?_)
      refine TL.m Mk.bl ?_
      intro x0
      refine TL.nil ?_
      refine TQ.nxt (hX0 _ _ (by repeat (first | exact HasL.nil | refine HasL.cons (by repeat (first | exact Pick.hd | apply Pick.tl)) ?_)) ?_)
      refine RG.a1 3 rfl (fun X3 hX3 => ?_)
      refine TL.ob (b := x0) (sz := 7) (r := fun _ => []) (by repeat (first | exact Pick.hd | apply Pick.tl)) rfl ?_
      first | refine TL.a0 ty_et26 ?_ | refine TL.ap ty_et26 ?_
      intro A3 c3
      refine TL.nil ?_
      refine TQ.nxt (hX3 _ _ (by repeat (first | exact HasL.nil | refine HasL.cons (by repeat (first | exact Pick.hd | apply Pick.tl)) ?_)) ?_)
      refine RG.a1 7 rfl (fun X7 hX7 => ?_)
      refine TL.ob (b := x4) (sz := 4) (r := fun _ => []) (by repeat (first | exact Pick.hd | apply Pick.tl)) rfl ?_
      first | refine TL.a0 ty_et27 ?_ | refine TL.ap ty_et27 ?_
      intro A7 c7
      refine TL.nil ?_
      refine TQ.nxt (hX7 _ _ (by repeat (first | exact HasL.nil | refine HasL.cons (by repeat (first | exact Pick.hd | apply Pick.tl)) ?_)) ?_)
      refine RG.a1 11 rfl (fun X11 hX11 => ?_)
      refine TL.ob (b := x8) (sz := 3) (r := fun _ => []) (by repeat (first | exact Pick.hd | apply Pick.tl)) rfl ?_
      first | refine TL.a0 ty_et28 ?_ | refine TL.ap ty_et28 ?_
      intro A11 c11
      refine TL.nil ?_
      refine TQ.nxt (hX11 _ _ (by repeat (first | exact HasL.nil | refine HasL.cons (by repeat (first | exact Pick.hd | apply Pick.tl)) ?_)) ?_)
      refine RG.a1 12 rfl (fun X12 hX12 => ?_)
      refine TL.p Pu.bd ?_
      refine TL.nil ?_
      refine TQ.nxt (hX12 _ _ (by repeat (first | exact HasL.nil | refine HasL.cons (by repeat (first | exact Pick.hd | apply Pick.tl)) ?_)) ?_)
      refine RG.a1 13 rfl (fun X13 hX13 => ?_)
      first | refine TL.st ty_sz30 ?_ | refine TL.se ty_sz30 ?_
      refine TL.nil ?_
      refine TQ.nxt (hX13 _ _ (by repeat (first | exact HasL.nil | refine HasL.cons (by repeat (first | exact Pick.hd | apply Pick.tl)) ?_)) ?_)
      exact RG.nil (TQ.sub (by repeat (first | exact trivial | refine ⟨rfl, ?_⟩ | refine ⟨trivial, ?_⟩)) (by repeat (first | exact KSub.nil | refine KSub.cons (by repeat (first | exact Pick.hd | apply Pick.tl)) ?_ | exact KSub.refl _ | exact KSub.drop (KSub.refl _))) (hE ⟨A3, c3, A7, c7, A11, c11⟩)) (by kernel_rfl)
  · refine TL.m Mk.bl ?_
    intro x8
    refine TL.nil ?_
    refine TQ.nxt (hX8 _ _ (by repeat (first | exact HasL.nil | refine HasL.cons (by repeat (first | exact Pick.hd | apply Pick.tl)) ?_)) ?_)
    refine RG.a2 0 4 rfl rfl (fun X0 hX0 => ?_) (fun X4 hX4 => ?_)
    · refine TL.m Mk.bl ?_
      intro x0
      refine TL.nil ?_
      refine TQ.nxt (hX0 _ _ (by repeat (first | exact HasL.nil | refine HasL.cons (by repeat (first | exact Pick.hd | apply Pick.tl)) ?_)) ?_)
      refine RG.a2 3 4 rfl rfl (fun X3 hX3 => ?_) (fun X4 hX4 => ?_)
      · refine TL.ob (b := x0) (sz := 7) (r := fun _ => []) (by repeat (first | exact Pick.hd | apply Pick.tl)) rfl ?_
        first | refine TL.a0 ty_et26 ?_ | refine TL.ap ty_et26 ?_
        intro A3 c3
        refine TL.nil ?_
        refine TQ.nxt (hX3 _ _ (by repeat (first | exact HasL.nil | refine HasL.cons (by repeat (first | exact Pick.hd | apply Pick.tl)) ?_)) ?_)
        refine RG.a1 4 rfl (fun X4 hX4 => ?_)
        refine TL.m Mk.bl ?_
        intro x4
        refine TL.nil ?_
        refine TQ.nxt (hX4 _ _ (by repeat (first | exact HasL.nil | refine HasL.cons (by repeat (first | exact Pick.hd | apply Pick.tl)) ?_)) ?_)
        refine RG.a1 7 rfl (fun X7 hX7 => ?_)
        refine TL.ob (b := x4) (sz := 4) (r := fun _ => []) (by repeat (first | exact Pick.hd | apply Pick.tl)) rfl ?_
        first | refine TL.a0 ty_et27 ?_ | refine TL.ap ty_et27 ?_
        intro A7 c7
        refine TL.nil ?_
        refine TQ.nxt (hX7 _ _ (by repeat (first | exact HasL.nil | refine HasL.cons (by repeat (first | exact Pick.hd | apply Pick.tl)) ?_)) ?_)
        refine RG.a1 11 rfl (fun X11 hX11 => ?_)
        refine TL.ob (b := x8) (sz := 3) (r := fun _ => []) (by repeat (first | exact Pick.hd | apply Pick.tl)) rfl ?_
        first | refine TL.a0 ty_et28 ?_ | refine TL.ap ty_et28 ?_
        intro A11 c11
        refine TL.nil ?_
        refine TQ.nxt (hX11 _ _ (by repeat (first | exact HasL.nil | refine HasL.cons (by repeat (first | exact Pick.hd | apply Pick.tl)) ?_)) ?_)
        refine RG.a1 12 rfl (fun X12 hX12 => ?_)
        refine TL.p Pu.bd ?_
        refine TL.nil ?_
        refine TQ.nxt (hX12 _ _ (by repeat (first | exact HasL.nil | refine HasL.cons (by repeat (first | exact Pick.hd | apply Pick.tl)) ?_)) ?_)
        refine RG.a1 13 rfl (fun X13 hX13 => ?_)
        first | refine TL.st ty_sz30 ?_ | refine TL.se ty_sz30 ?_
        refine TL.nil ?_
        refine TQ.nxt (hX13 _ _ (by repeat (first | exact HasL.nil | refine HasL.cons (by repeat (first | exact Pick.hd | apply Pick.tl)) ?_)) ?_)
        exact RG.nil (TQ.sub (by repeat (first | exact trivial | refine ⟨rfl, ?_⟩ | refine ⟨trivial, ?_⟩)) (by repeat (first | exact KSub.nil | refine KSub.cons (by repeat (first | exact Pick.hd | apply Pick.tl)) ?_ | exact KSub.refl _ | exact KSub.drop (KSub.refl _))) (hE ⟨A3, c3, A7, c7, A11, c11⟩)) (by kernel_rfl)
      · refine TL.m Mk.bl ?_
        intro x4
        refine TL.nil ?_
        refine TQ.nxt (hX4 _ _ (by repeat (first | exact HasL.nil | refine HasL.cons (by repeat (first | exact Pick.hd | apply Pick.tl)) ?_)) ?_)
        refine RG.a1 3 rfl (fun X3 hX3 => ?_)
        refine TL.ob (b := x0) (sz := 7) (r := fun _ => []) (by repeat (first | exact Pick.hd | apply Pick.tl)) rfl ?_
        first | refine TL.a0 ty_et26 ?_ | refine TL.ap ty_et26 ?_
        intro A3 c3
        refine TL.nil ?_
        refine TQ.nxt (hX3 _ _ (by repeat (first | exact HasL.nil | refine HasL.cons (by repeat (first | exact Pick.hd | apply Pick.tl)) ?_)) ?_)
        refine RG.a1 7 rfl (fun X7 hX7 => ?_)
        refine TL.ob (b := x4) (sz := 4) (r := fun _ => []) (by repeat (first | exact Pick.hd | apply Pick.tl)) rfl ?_
        first | refine TL.a0 ty_et27 ?_ | refine TL.ap ty_et27 ?_
        intro A7 c7
        refine TL.nil ?_
        refine TQ.nxt (hX7 _ _ (by repeat (first | exact HasL.nil | refine HasL.cons (by repeat (first | exact Pick.hd | apply Pick.tl)) ?_)) ?_)
        refine RG.a1 11 rfl (fun X11 hX11 => ?_)
        refine TL.ob (b := x8) (sz := 3) (r := fun _ => []) (by repeat (first | exact Pick.hd | apply Pick.tl)) rfl ?_
        first | refine TL.a0 ty_et28 ?_ | refine TL.ap ty_et28 ?_
        intro A11 c11
        refine TL.nil ?_
        refine TQ.nxt (hX11 _ _ (by repeat (first | exact HasL.nil | refine HasL.cons (by repeat (first | exact Pick.hd | apply Pick.tl)) ?_)) ?_)
        refine RG.a1 12 rfl (fun X12 hX12 => ?_)
        refine TL.p Pu.bd ?_
        refine TL.nil ?_
        refine TQ.nxt (hX12 _ _ (by repeat (first | exact HasL.nil | refine HasL.cons (by repeat (first | exact Pick.hd | apply Pick.tl)) ?_)) ?_)
        refine RG.a1 13 rfl (fun X13 hX13 => ?_)
        first | refine TL.st ty_sz30 ?_ | refine TL.se ty_sz30 ?_
        refine TL.nil ?_
        refine TQ.nxt (hX13 _ _ (by repeat (first | exact HasL.nil | refine HasL.cons (by repeat (first | exact Pick.hd | apply Pick.tl)) ?_)) ?_)
        exact RG.nil (TQ.sub (by repeat (first | exact trivial | refine ⟨rfl, ?_⟩ | refine ⟨trivial, ?_⟩)) (by repeat (first | exact KSub.nil | refine KSub.cons (by repeat (first | exact Pick.hd | apply Pick.tl)) ?_ | exact KSub.refl _ | exact KSub.drop (KSub.refl _))) (hE ⟨A3, c3, A7, c7, A11, c11⟩)) (by kernel_rfl)
    · refine TL.m Mk.bl ?_
      intro x4
      refine TL.nil ?_
      refine TQ.nxt (hX4 _ _ (by repeat (first | exact HasL.nil | refine HasL.cons (by repeat (first | exact Pick.hd | apply Pick.tl)) ?_)) ?_)
      refine RG.a1 0 rfl (fun X0 hX0 => ?_)
      refine TL.m Mk.bl ?_
      intro x0
      refine TL.nil ?_
      refine TQ.nxt (hX0 _ _ (by repeat (first | exact HasL.nil | refine HasL.cons (by repeat (first | exact Pick.hd | apply Pick.tl)) ?_)) ?_)
      refine RG.a1 3 rfl (fun X3 hX3 => ?_)
      refine TL.ob (b := x0) (sz := 7) (r := fun _ => []) (by repeat (first | exact Pick.hd | apply Pick.tl)) rfl ?_
      first | refine TL.a0 ty_et26 ?_ | refine TL.ap ty_et26 ?_
      intro A3 c3
      refine TL.nil ?_
      refine TQ.nxt (hX3 _ _ (by repeat (first | exact HasL.nil | refine HasL.cons (by repeat (first | exact Pick.hd | apply Pick.tl)) ?_)) ?_)
      refine RG.a1 7 rfl (fun X7 hX7 => ?_)
      refine TL.ob (b := x4) (sz := 4) (r := fun _ => []) (by repeat (first | exact Pick.hd | apply Pick.tl)) rfl ?_
      first | refine TL.a0 ty_et27 ?_ | refine TL.ap ty_et27 ?_
      intro A7 c7
      refine TL.nil ?_
      refine TQ.nxt (hX7 _ _ (by repeat (first | exact HasL.nil | refine HasL.cons (by repeat (first | exact Pick.hd | apply Pick.tl)) ?_)) ?_)
      refine RG.a1 11 rfl (fun X11 hX11 => ?_)
      refine TL.ob (b := x8) (sz := 3) (r := fun _ => []) (by repeat (first | exact Pick.hd | apply Pick.tl)) rfl ?_
      first | refine TL.a0 ty_et28 ?_ | refine TL.ap ty_et28 ?_
      intro A11 c11
      refine TL.nil ?_
      refine TQ.nxt (hX11 _ _ (by repeat (first | exact HasL.nil | refine HasL.cons (by repeat (first | exact Pick.hd | apply Pick.tl)) ?_)) ?_)
      refine RG.a1 12 rfl (fun X12 hX12 => ?_)
      refine TL.p Pu.bd ?_
      refine TL.nil ?_
      refine TQ.nxt (hX12 _ _ (by repeat (first | exact HasL.nil | refine HasL.cons (by repeat (first | exact Pick.hd | apply Pick.tl)) ?_)) ?_)
      refine RG.a1 13 rfl (fun X13 hX13 => ?_)
      first | refine TL.st ty_sz30 ?_ | refine TL.se ty_sz30 ?_
      refine TL.nil ?_
      refine TQ.nxt (hX13 _ _ (by repeat (first | exact HasL.nil | refine HasL.cons (by repeat (first | exact Pick.hd | apply Pick.tl)) ?_)) ?_)
      exact RG.nil (TQ.sub (by repeat (first | exact trivial | refine ⟨rfl, ?_⟩ | refine ⟨trivial, ?_⟩)) (by repeat (first | exact KSub.nil | refine KSub.cons (by repeat (first | exact Pick.hd | apply Pick.tl)) ?_ | exact KSub.refl _ | exact KSub.drop (KSub.refl _))) (hE ⟨A3, c3, A7, c7, A11, c11⟩)) (by kernel_rfl)
end Go.Proofs.Ytckiagbllkdfdaa
