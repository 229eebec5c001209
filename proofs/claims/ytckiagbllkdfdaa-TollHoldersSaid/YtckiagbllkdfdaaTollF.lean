/-
  The reference's check of customs.
-/
import Derived.Test.YtckiagbllkdfdaaTollE
namespace Go.Proofs.Ytckiagbllkdfdaa
set_option linter.all false
set_option linter.unusedVariables false
set_option linter.unusedSimpArgs false
open Go.RowKit
theorem within7_any (a lo hi : Int) (w : World) : Calls Try.prog 19 #[.int .i64 a, .int .i64 lo, .int .i64 hi] w (Ret w (.bool (inB5 lo hi a))) := by
  refine K_enter (S := []) (K := []) Try.func19 rfl Try.ntmps19 rfl (Sat.start _) ?_
  refine TW.seq fun Y1 hY1 => ?_
  refine TW.region ?_
  refine TL.p Pu.as ?_
  refine TL.nil ?_
  refine TQ.thenN (hY1 _ _ ?_)
  refine TW.seq fun Y2 hY2 => ?_
  refine TW.join [(6, .bool (inB5 lo hi a))] ?_ (fun hJ1 => ?_)
  · refine TQ.thenN (hY2 _ _ ?_)
    refine TW.ret ?_
    refine TQ.ret Try.results19 rfl ((.tmp rfl .nil)) ?_
    exact fun w hw => Ret.of hw
  refine TW.region ?_
  refine TL.p Pu.mv ?_
  refine TL.p Pu.mv ?_
  refine TL.p Pu.ge ?_
  refine TL.p Pu.mv ?_
  refine TL.guard (t := 10) rfl (fun hg1 => ?_) (fun hg1 => ?_)
  · refine TL.gd Pu.mv ?_
    refine TL.gd Pu.mv ?_
    refine TL.gd Pu.le ?_
    refine TL.p Pu.kt ?_
    refine TL.p Pu.as ?_
    refine TL.nil ?_
    exact TQ.sub (by repeat (first | exact trivial | refine ⟨rfl, ?_⟩ | refine ⟨trivial, ?_⟩ | refine ⟨(by show some (Value.bool _) = some (Value.bool _); simp [hg1, inB5]), ?_⟩)) (by repeat (first | exact KSub.nil | refine KSub.cons (by repeat (first | exact Pick.hd | apply Pick.tl)) ?_)) hJ1
  · refine TL.gs ?_
    refine TL.gs ?_
    refine TL.gs ?_
    refine TL.p Pu.kf ?_
    refine TL.p Pu.as ?_
    refine TL.nil ?_
    exact TQ.sub (by repeat (first | exact trivial | refine ⟨rfl, ?_⟩ | refine ⟨trivial, ?_⟩ | refine ⟨(by show some (Value.bool _) = some (Value.bool _); simp [hg1, inB5]), ?_⟩)) (by repeat (first | exact KSub.nil | refine KSub.cons (by repeat (first | exact Pick.hd | apply Pick.tl)) ?_)) hJ1
theorem refDays_any (a b : Int) (w : World) : Calls Try.prog 32 #[.int .i64 a, .int .i64 b] w (Ret w (.bool (dayOk a b))) := by
  refine K_enter (S := []) (K := []) Try.func32 rfl Try.ntmps32 rfl (Sat.start _) ?_
  refine TW.seq fun Y1 hY1 => ?_
  refine TW.region ?_
  refine TL.p Pu.as ?_
  refine TL.nil ?_
  refine TQ.thenN (hY1 _ _ ?_)
  refine TW.seq fun Y2 hY2 => ?_
  refine TW.join [(4, .bool (decide (0 ≤ a) && decide (a ≤ b) && decide (b ≤ 100000)))] ?_ (fun hJ1 => ?_)
  · refine TQ.thenN (hY2 _ _ ?_)
    refine TW.ret ?_
    refine TQ.ret Try.results32 rfl ((.tmp rfl .nil)) ?_
    exact fun w hw => ⟨ret_bool (by
      unfold dayOk inB5
      rw [Bool.eq_iff_iff]
      simp only [Bool.and_eq_true, decide_eq_true_eq]
      omega), Chg.ext hw.chg⟩
  refine TW.region ?_
  refine TL.p Pu.mv ?_
  refine TL.p Pu.ge ?_
  refine TL.p Pu.mv ?_
  refine TL.guard (t := 7) rfl (fun hg1 => ?_) (fun hg1 => ?_)
  · refine TL.gd Pu.mv ?_
    refine TL.gd Pu.mv ?_
    refine TL.gd Pu.le ?_
    refine TL.p Pu.kt ?_
    refine TL.p Pu.mv ?_
    refine TL.guard (t := 12) rfl (fun hg2 => ?_) (fun hg2 => ?_)
    · refine TL.gd Pu.mv ?_
      refine TL.gd Pu.le ?_
      refine TL.p Pu.kt ?_
      refine TL.p Pu.as ?_
      refine TL.nil ?_
      exact TQ.sub (by repeat (first | exact trivial | refine ⟨rfl, ?_⟩ | refine ⟨trivial, ?_⟩ | refine ⟨(by show some (Value.bool _) = some (Value.bool _); simp [hg1, hg2]), ?_⟩)) (by repeat (first | exact KSub.nil | refine KSub.cons (by repeat (first | exact Pick.hd | apply Pick.tl)) ?_)) hJ1
    · refine TL.gs ?_
      refine TL.gs ?_
      refine TL.p Pu.kf ?_
      refine TL.p Pu.as ?_
      refine TL.nil ?_
      exact TQ.sub (by repeat (first | exact trivial | refine ⟨rfl, ?_⟩ | refine ⟨trivial, ?_⟩ | refine ⟨(by show some (Value.bool _) = some (Value.bool _); simp [hg1, hg2]), ?_⟩)) (by repeat (first | exact KSub.nil | refine KSub.cons (by repeat (first | exact Pick.hd | apply Pick.tl)) ?_)) hJ1
  · refine TL.gs ?_
    refine TL.gs ?_
    refine TL.gs ?_
    refine TL.p Pu.kf ?_
    refine TL.p Pu.mv ?_
    refine TL.gs ?_
    refine TL.gs ?_
    refine TL.p Pu.kf ?_
    refine TL.p Pu.as ?_
    refine TL.nil ?_
    exact TQ.sub (by repeat (first | exact trivial | refine ⟨rfl, ?_⟩ | refine ⟨trivial, ?_⟩ | refine ⟨(by show some (Value.bool _) = some (Value.bool _); simp [hg1]), ?_⟩)) (by repeat (first | exact KSub.nil | refine KSub.cons (by repeat (first | exact Pick.hd | apply Pick.tl)) ?_)) hJ1
theorem refCheck3_any {W A : Option Addr} {nw cw nl cl : Nat} {f : Nat → Nat → Int} {x : Nat → Leg} {g : Nat → Nat → Nat → Int} {w : World} (h : LandIn w W nw A nl f x g) :
    Calls Try.prog 31 #[.agg (landL W nw cw A nl cl).toArray] w (Ret w (.int .i64 (if landOk nw nl f x g then 0 else 30))) := by
  unfold landL
  refine K_enter (S := []) (K := []) Try.func31 rfl Try.ntmps31 rfl (Sat.start _) ?_
  refine TW.seq fun Y1 hY1 => ?_
  refine TW.region ?_
  refine TL.m Mk.bx ?_
  intro b1
  refine TL.p Pu.as ?_
  refine TL.nil ?_
  refine TQ.thenN (hY1 _ _ ?_)
  refine TW.seq fun Y2 hY2 => ?_
  refine TW.seq fun Y3 hY3 => ?_
  refine TW.region ?_
  refine TL.p (Pu.lds ty_ag25) ?_
  refine TL.cr rfl (enters Try.func50 rfl rfl) (fun w hw => by
      exact refLand_any (h.ext (Chg.ext hw.chg))) ?_
  refine TL.p Pu.no ?_
  refine TL.nil ?_
  refine TQ.thenN (hY3 _ _ ?_)
  refine TW.cond rfl (fun hc0 => ?_) (fun hc0 => ?_)
  · try simp only [decide_eq_true_eq, decide_eq_false_iff_not, Bool.not_eq_true', Bool.not_eq_false', Bool.and_eq_true, Bool.or_eq_true, Bool.and_eq_false_iff, Bool.or_eq_false_iff, Int.not_lt, Int.not_le] at hc0
    have hh : landOk nw nl f x g = false := by simpa using hc0
    refine TW.seq fun Y4 hY4 => ?_
    refine TW.region ?_
    refine TL.p Pu.as ?_
    refine TL.nil ?_
    refine TQ.thenN (hY4 _ _ ?_)
    refine TW.ret ?_
    refine TQ.thenR ?_
    refine TQ.ret Try.results31 rfl ((.tmp rfl .nil)) ?_
    exact fun w hw => ⟨ret_int (by rw [hh]; rfl), Chg.ext hw.chg⟩
  · try simp only [decide_eq_true_eq, decide_eq_false_iff_not, Bool.not_eq_true', Bool.not_eq_false', Bool.and_eq_true, Bool.or_eq_true, Bool.and_eq_false_iff, Bool.or_eq_false_iff, Int.not_lt, Int.not_le] at hc0
    have hh : landOk nw nl f x g = true := by simpa using hc0
    refine TW.skip ?_
    refine TQ.thenN (hY2 _ _ ?_)
    refine TW.seq fun Y5 hY5 => ?_
    refine TW.region ?_
    refine TL.p Pu.as ?_
    refine TL.nil ?_
    refine TQ.thenN (hY5 _ _ ?_)
    refine TW.ret ?_
    refine TQ.ret Try.results31 rfl ((.tmp rfl .nil)) ?_
    exact fun w hw => ⟨ret_int (by rw [hh]; rfl), Chg.ext hw.chg⟩
theorem all_no {n k : Nat} {p : Nat → Bool} {q : Bool} (hk : k < n) (h : p k = false) : (allB n p && q) = false := by
  rw [Bool.and_eq_false_iff]
  left
  rw [Bool.eq_false_iff]
  intro h2
  rw [allB_iff.1 h2 k hk] at h
  cases h
theorem all_yes {n : Nat} {m : Int} {p : Nat → Bool} (h : ∀ k, k < n → p k = true) (hn : (n : Int) ≤ m) : (allB n p && !decide (m < (n : Int))) = true := by
  rw [allB_iff.2 h, Bool.true_and, Bool.not_eq_true', decide_eq_false_iff_not]
  omega
theorem all_len {n : Nat} {m : Int} {p : Nat → Bool} (hn : m < (n : Int)) : (allB n p && !decide (m < (n : Int))) = false := by
  rw [Bool.and_eq_false_iff]; right; rw [Bool.not_eq_false', decide_eq_true_eq]; exact hn
set_option maxRecDepth 100000 in
set_option maxHeartbeats 1600000 in
theorem refCheck_any {W A C D B : Option Addr} {nw cw nl cl nc cc nd cd nb cb : Nat} {f : Nat → Nat → Int} {x : Nat → Leg} {g : Nat → Nat → Nat → Int} {c : Nat → (Nat → Int) × Bool} {d b : Nat → Nat → Int} {w : World} (h : LandIn w W nw A nl f x g) (k : CustIn w C nc D nd B nb c d b) :
    Calls Try.prog 12 #[.agg (landL W nw cw A nl cl).toArray, .agg (custL C nc cc D nd cd B nb cb).toArray] w (Ret w (.int .i64 (checkC nw nl f x g nc nd nb c d b))) := by
  have hnl := h.hnl
  have hnc := k.hnc
  have hnd := k.hnd
  have hnb := k.hnb
  have hRC := k.hC
  have hRD := k.hD
  have hRB := k.hB
  unfold custL
  refine K_enter (S := []) (K := []) Try.func12 rfl Try.ntmps12 rfl (Sat.start _) ?_
  refine TW.seq fun Y1 hY1 => ?_
  refine TW.region ?_
  refine TL.m Mk.bx ?_
  intro b1
  refine TL.m Mk.bx ?_
  intro b2
  refine TL.p Pu.as ?_
  refine TL.nil ?_
  refine TQ.thenN (hY1 _ _ ?_)
  refine TW.seq fun Y2 hY2 => ?_
  refine TW.seq fun Y3 hY3 => ?_
  refine TW.region ?_
  refine TL.p (Pu.lds ty_ag25) ?_
  refine TL.cr rfl (enters Try.func31 rfl rfl) (fun w hw => by
      exact refCheck3_any (h.ext (Chg.ext hw.chg))) ?_
  refine TL.p Pu.as ?_
  refine TL.nil ?_
  refine TQ.thenN (hY3 _ _ ?_)
  refine TW.seq fun Y4 hY4 => ?_
  refine TW.region ?_
  refine TL.p Pu.mv ?_
  refine TL.p Pu.ne ?_
  refine TL.nil ?_
  refine TQ.thenN (hY4 _ _ ?_)
  refine TW.cond rfl (fun hc0 => ?_) (fun hc0 => ?_)
  · try simp only [decide_eq_true_eq, decide_eq_false_iff_not, Bool.not_eq_true', Bool.not_eq_false', Bool.and_eq_true, Bool.or_eq_true, Bool.and_eq_false_iff, Bool.or_eq_false_iff, Int.not_lt, Int.not_le] at hc0
    have hh : landOk nw nl f x g = false := by
      cases e : landOk nw nl f x g with
      | false => rfl
      | true => simp [e] at hc0
    refine TW.seq fun Y5 hY5 => ?_
    refine TW.region ?_
    refine TL.p Pu.mv ?_
    refine TL.p Pu.as ?_
    refine TL.nil ?_
    refine TQ.thenN (hY5 _ _ ?_)
    refine TW.ret ?_
    refine TQ.thenR ?_
    refine TQ.ret Try.results12 rfl ((.tmp rfl .nil)) ?_
    exact fun w hw => ⟨ret_int (by unfold checkC; rw [hh]; rfl), Chg.ext hw.chg⟩
  · try simp only [decide_eq_true_eq, decide_eq_false_iff_not, Bool.not_eq_true', Bool.not_eq_false', Bool.and_eq_true, Bool.or_eq_true, Bool.and_eq_false_iff, Bool.or_eq_false_iff, Int.not_lt, Int.not_le] at hc0
    have hh : landOk nw nl f x g = true := by
      cases e : landOk nw nl f x g with
      | true => rfl
      | false => simp [e] at hc0
    refine TW.skip ?_
    refine TQ.thenN (hY2 _ _ ?_)
    refine TW.seq fun Y6 hY6 => ?_
    refine TW.seq fun Y7 hY7 => ?_
    refine TW.region ?_
    refine TL.p (by first | exact Pu.fb ty_fa30_0 | exact Pu.fe ty_fa30_0) ?_
    refine TL.p (Pu.ld ty_sc26) ?_
    refine TL.p (Pu.ln Try.underlying26) ?_
    refine TL.p Pu.gt ?_
    refine TL.nil ?_
    refine TQ.thenN (hY7 _ _ ?_)
    refine TW.cond rfl (fun hc1 => ?_) (fun hc1 => ?_)
    · try simp only [decide_eq_true_eq, decide_eq_false_iff_not, Bool.not_eq_true', Bool.not_eq_false', Bool.and_eq_true, Bool.or_eq_true, Bool.and_eq_false_iff, Bool.or_eq_false_iff, Int.not_lt, Int.not_le] at hc1
      refine TW.seq fun Y8 hY8 => ?_
      refine TW.region ?_
      refine TL.p Pu.as ?_
      refine TL.nil ?_
      refine TQ.thenN (hY8 _ _ ?_)
      refine TW.ret ?_
      refine TQ.thenR ?_
      refine TQ.ret Try.results12 rfl ((.tmp rfl .nil)) ?_
      exact fun w hw => ⟨ret_int (by unfold checkC custC; rw [hh, if_pos rfl, if_pos (all_len (by omega))]), Chg.ext hw.chg⟩
    · try simp only [decide_eq_true_eq, decide_eq_false_iff_not, Bool.not_eq_true', Bool.not_eq_false', Bool.and_eq_true, Bool.or_eq_true, Bool.and_eq_false_iff, Bool.or_eq_false_iff, Int.not_lt, Int.not_le] at hc1
      refine TW.skip ?_
      refine TQ.thenN (hY6 _ _ ?_)
      refine TW.seq fun Y9 hY9 => ?_
      refine TW.seq fun Y10 hY10 => ?_
      refine TW.region ?_
      refine TL.p Pu.as ?_
      refine TL.nil ?_
      refine TQ.thenN (hY10 _ _ ?_)
      refine TW.block ?_
      refine TW.loop1 (fun (i : Nat) => [(6, .int .i64 (i : Int)), (2, .pointer (some ⟨b1, 0, none⟩)), (3, .pointer (some ⟨b2, 0, none⟩))]) (fun i => [.blk b2 30 [.slice C nc cc, .slice D nd cd, .slice B nb cb], .blk b1 25 (landL W nw cw A nl cl)]) (fun i => i ≤ nc ∧ ∀ j, j < i → claimOk nl (c j) = true) (fun i => nc - i) 0 (by repeat (first | exact trivial | refine ⟨rfl, ?_⟩ | refine ⟨trivial, ?_⟩)) ?_ ?_ ?_
      · exact (by repeat (first | exact KSub.nil | refine KSub.cons (by repeat (first | exact Pick.hd | apply Pick.tl)) ?_))
      · exact ⟨Nat.zero_le _, fun j hj => by omega⟩
      rintro i ⟨hi, hall⟩ Z0 hZ0
      refine TW.seq fun Y11 hY11 => ?_
      refine TW.seq fun Y12 hY12 => ?_
      refine TW.region ?_
      refine TL.p Pu.mv ?_
      refine TL.p (by first | exact Pu.fb ty_fa30_0 | exact Pu.fe ty_fa30_0) ?_
      refine TL.p (Pu.ld ty_sc26) ?_
      refine TL.p (Pu.ln Try.underlying26) ?_
      refine TL.p Pu.lt ?_
      refine TL.nil ?_
      refine TQ.thenN (hY12 _ _ ?_)
      refine TW.cond rfl (fun hc2 => ?_) (fun hc2 => ?_)
      · try simp only [decide_eq_true_eq, decide_eq_false_iff_not, Bool.not_eq_true', Bool.not_eq_false', Bool.and_eq_true, Bool.or_eq_true, Bool.and_eq_false_iff, Bool.or_eq_false_iff, Int.not_lt, Int.not_le] at hc2
        have hin : i < nc := by omega
        refine TW.skip ?_
        refine TQ.thenN (hY11 _ _ ?_)
        refine TW.seq fun Y13 hY13 => ?_
        refine TW.block ?_
        refine TW.seq fun Y14 hY14 => ?_
        refine TW.region ?_
        refine TL.p (by first | exact Pu.fb ty_fa30_0 | exact Pu.fe ty_fa30_0) ?_
        refine TL.p (Pu.ld ty_sc26) ?_
        refine TL.p Pu.mv ?_
        refine TL.p (Pu.el ty_et26) ?_
        refine TL.p (Pu.lds ty_ag62) ?_
        refine TL.m (Mk.al ty_zr62) ?_
        intro b3
        first | refine TL.st ty_sz62 ?_ | refine TL.se ty_sz62 ?_
        refine TL.nil ?_
        refine TQ.thenN (hY14 _ _ ?_)
        refine TW.seq fun Y15 hY15 => ?_
        refine TW.join [(66, .bool (!claimOk nl (c i)))] ?_ (fun hJ1 => ?_)
        · refine TQ.thenN (hY15 _ _ ?_)
          refine TW.cond rfl (fun hc3 => ?_) (fun hc3 => ?_)
          · try simp only [decide_eq_true_eq, decide_eq_false_iff_not, Bool.not_eq_true', Bool.not_eq_false', Bool.and_eq_true, Bool.or_eq_true, Bool.and_eq_false_iff, Bool.or_eq_false_iff, Int.not_lt, Int.not_le] at hc3
            have hg : claimOk nl (c i) = false := by simpa using hc3
            refine TW.seq fun Y16 hY16 => ?_
            refine TW.region ?_
            refine TL.p Pu.as ?_
            refine TL.nil ?_
            refine TQ.thenN (hY16 _ _ ?_)
            refine TW.ret ?_
            refine TQ.blkR ?_
            refine TQ.thenR ?_
            refine TQ.thenR ?_
            refine TQ.blkR ?_
            refine TQ.thenR ?_
            refine TQ.ret Try.results12 rfl ((.tmp rfl .nil)) ?_
            exact fun w hw => ⟨ret_int (by unfold checkC custC; rw [hh, if_pos rfl, if_pos (all_no hin hg)]), Chg.ext hw.chg⟩
          · try simp only [decide_eq_true_eq, decide_eq_false_iff_not, Bool.not_eq_true', Bool.not_eq_false', Bool.and_eq_true, Bool.or_eq_true, Bool.and_eq_false_iff, Bool.or_eq_false_iff, Int.not_lt, Int.not_le] at hc3
            have hg : claimOk nl (c i) = true := by simpa using hc3
            refine TW.skip ?_
            refine TQ.blkN ?_
            refine TQ.thenN (hY13 _ _ ?_)
            refine TW.region ?_
            refine TL.p Pu.mv ?_
            refine TL.p Pu.ad ?_
            refine TL.p Pu.as ?_
            refine TL.nil ?_
            refine TQ.thenN (hZ0 (i + 1) _ _ ?_ ?_ (by repeat (first | exact trivial | refine ⟨rfl, ?_⟩ | refine ⟨trivial, ?_⟩)) ?_)
            · refine ⟨by omega, fun j hj => ?_⟩
              by_cases h : j = i
              · subst h; exact hg
              · exact hall j (by omega)
            · exact (by first | omega | (simp only []; omega) | (simp; omega))
            · exact (by repeat (first | exact KSub.nil | refine KSub.cons (by repeat (first | exact Pick.hd | apply Pick.tl)) ?_))
        refine TW.region ?_
        refine TL.p (by first | exact Pu.fb ty_fa62_0 | exact Pu.fe ty_fa62_0) ?_
        refine TL.p (Pu.ld ty_sc3) ?_
        refine TL.p (by first | exact Pu.fb ty_fa25_1 | exact Pu.fe ty_fa25_1) ?_
        refine TL.p (Pu.ld ty_sc23) ?_
        refine TL.p (Pu.ln Try.underlying23) ?_
        refine TL.p Pu.sb ?_
        refine TL.cr rfl (enters Try.func19 rfl rfl) (fun w hw => by
            exact within7_any _ _ _ _) ?_
        refine TL.p Pu.no ?_
        refine TL.p Pu.mv ?_
        refine TL.guard (t := 41) rfl (fun hg1 => ?_) (fun hg1 => ?_)
        · refine TL.gs ?_
          refine TL.gs ?_
          refine TL.gs ?_
          refine TL.gs ?_
          refine TL.p Pu.kt ?_
          refine TL.p Pu.mv ?_
          refine TL.gs ?_
          refine TL.gs ?_
          refine TL.gs ?_
          refine TL.gs ?_
          refine TL.gs ?_
          refine TL.gs ?_
          refine TL.p Pu.kt ?_
          refine TL.p Pu.mv ?_
          refine TL.gs ?_
          refine TL.gs ?_
          refine TL.gs ?_
          refine TL.gs ?_
          refine TL.p Pu.kt ?_
          refine TL.p Pu.mv ?_
          refine TL.gs ?_
          refine TL.gs ?_
          refine TL.gs ?_
          refine TL.gs ?_
          refine TL.p Pu.kt ?_
          refine TL.nil ?_
          exact TQ.sub (by repeat (first | exact trivial | refine ⟨rfl, ?_⟩ | refine ⟨trivial, ?_⟩ | refine ⟨(by show some (Value.bool _) = some (Value.bool _); simp [hg1, claimOk]), ?_⟩)) (by repeat (first | exact KSub.nil | refine KSub.cons (by repeat (first | exact Pick.hd | apply Pick.tl)) ?_)) hJ1
        · refine TL.gd (by first | exact Pu.fb ty_fa62_1 | exact Pu.fe ty_fa62_1) ?_
          refine TL.gd (Pu.ld ty_sc3) ?_
          refine TL.cr rfl (enters Try.func19 rfl rfl) (fun w hw => by
              exact within7_any _ _ _ _) ?_
          refine TL.gd Pu.no ?_
          refine TL.p Pu.kf ?_
          refine TL.p Pu.mv ?_
          refine TL.guard (t := 47) rfl (fun hg2 => ?_) (fun hg2 => ?_)
          · refine TL.gs ?_
            refine TL.gs ?_
            refine TL.gs ?_
            refine TL.gs ?_
            refine TL.gs ?_
            refine TL.gs ?_
            refine TL.p Pu.kt ?_
            refine TL.p Pu.mv ?_
            refine TL.gs ?_
            refine TL.gs ?_
            refine TL.gs ?_
            refine TL.gs ?_
            refine TL.p Pu.kt ?_
            refine TL.p Pu.mv ?_
            refine TL.gs ?_
            refine TL.gs ?_
            refine TL.gs ?_
            refine TL.gs ?_
            refine TL.p Pu.kt ?_
            refine TL.nil ?_
            exact TQ.sub (by repeat (first | exact trivial | refine ⟨rfl, ?_⟩ | refine ⟨trivial, ?_⟩ | refine ⟨(by show some (Value.bool _) = some (Value.bool _); simp [hg1, hg2, claimOk]), ?_⟩)) (by repeat (first | exact KSub.nil | refine KSub.cons (by repeat (first | exact Pick.hd | apply Pick.tl)) ?_)) hJ1
          · refine TL.gd (by first | exact Pu.fb ty_fa62_2 | exact Pu.fe ty_fa62_2) ?_
            refine TL.gd (Pu.ld ty_sc3) ?_
            refine TL.gd (by first | exact Pu.fb ty_fa62_3 | exact Pu.fe ty_fa62_3) ?_
            refine TL.gd (Pu.ld ty_sc3) ?_
            refine TL.cr rfl (enters Try.func32 rfl rfl) (fun w hw => by
                exact refDays_any _ _ _) ?_
            refine TL.gd Pu.no ?_
            refine TL.p Pu.kf ?_
            refine TL.p Pu.mv ?_
            refine TL.guard (t := 55) rfl (fun hg3 => ?_) (fun hg3 => ?_)
            · refine TL.gs ?_
              refine TL.gs ?_
              refine TL.gs ?_
              refine TL.gs ?_
              refine TL.p Pu.kt ?_
              refine TL.p Pu.mv ?_
              refine TL.gs ?_
              refine TL.gs ?_
              refine TL.gs ?_
              refine TL.gs ?_
              refine TL.p Pu.kt ?_
              refine TL.nil ?_
              exact TQ.sub (by repeat (first | exact trivial | refine ⟨rfl, ?_⟩ | refine ⟨trivial, ?_⟩ | refine ⟨(by show some (Value.bool _) = some (Value.bool _); simp [hg1, hg2, hg3, claimOk]), ?_⟩)) (by repeat (first | exact KSub.nil | refine KSub.cons (by repeat (first | exact Pick.hd | apply Pick.tl)) ?_)) hJ1
            · refine TL.gd (by first | exact Pu.fb ty_fa62_4 | exact Pu.fe ty_fa62_4) ?_
              refine TL.gd (Pu.ld ty_sc3) ?_
              refine TL.cr rfl (enters Try.func19 rfl rfl) (fun w hw => by
                  exact within7_any _ _ _ _) ?_
              refine TL.gd Pu.no ?_
              refine TL.p Pu.kf ?_
              refine TL.p Pu.mv ?_
              refine TL.guard (t := 61) rfl (fun hg4 => ?_) (fun hg4 => ?_)
              · refine TL.gs ?_
                refine TL.gs ?_
                refine TL.gs ?_
                refine TL.gs ?_
                refine TL.p Pu.kt ?_
                refine TL.nil ?_
                exact TQ.sub (by repeat (first | exact trivial | refine ⟨rfl, ?_⟩ | refine ⟨trivial, ?_⟩ | refine ⟨(by show some (Value.bool _) = some (Value.bool _); simp [hg1, hg2, hg3, hg4, claimOk]), ?_⟩)) (by repeat (first | exact KSub.nil | refine KSub.cons (by repeat (first | exact Pick.hd | apply Pick.tl)) ?_)) hJ1
              · refine TL.gd (by first | exact Pu.fb ty_fa62_5 | exact Pu.fe ty_fa62_5) ?_
                refine TL.gd (Pu.ld ty_sc3) ?_
                refine TL.cr rfl (enters Try.func19 rfl rfl) (fun w hw => by
                    exact within7_any _ _ _ _) ?_
                refine TL.gd Pu.no ?_
                refine TL.p Pu.kf ?_
                refine TL.nil ?_
                exact TQ.sub (by repeat (first | exact trivial | refine ⟨rfl, ?_⟩ | refine ⟨trivial, ?_⟩ | refine ⟨(by show some (Value.bool _) = some (Value.bool _); simp [hg1, hg2, hg3, hg4, claimOk]), ?_⟩)) (by repeat (first | exact KSub.nil | refine KSub.cons (by repeat (first | exact Pick.hd | apply Pick.tl)) ?_)) hJ1
      · try simp only [decide_eq_true_eq, decide_eq_false_iff_not, Bool.not_eq_true', Bool.not_eq_false', Bool.and_eq_true, Bool.or_eq_true, Bool.and_eq_false_iff, Bool.or_eq_false_iff, Int.not_lt, Int.not_le] at hc2
        have hin : i = nc := by omega
        have h70 := all_yes (m := 30) (fun j hj => hall j (by omega)) (by omega : (nc : Int) ≤ 30)
        refine TW.exit ?_
        refine TQ.thenX ?_
        refine TQ.thenX ?_
        refine TQ.blkX ?_
        refine TQ.thenN (hY9 _ _ ?_)
        refine TW.seq fun Y17 hY17 => ?_
        refine TW.seq fun Y18 hY18 => ?_
        refine TW.region ?_
        refine TL.p (by first | exact Pu.fb ty_fa30_1 | exact Pu.fe ty_fa30_1) ?_
        refine TL.p (Pu.ld ty_sc27) ?_
        refine TL.p (Pu.ln Try.underlying27) ?_
        refine TL.p Pu.gt ?_
        refine TL.nil ?_
        refine TQ.thenN (hY18 _ _ ?_)
        refine TW.cond rfl (fun hc4 => ?_) (fun hc4 => ?_)
        · try simp only [decide_eq_true_eq, decide_eq_false_iff_not, Bool.not_eq_true', Bool.not_eq_false', Bool.and_eq_true, Bool.or_eq_true, Bool.and_eq_false_iff, Bool.or_eq_false_iff, Int.not_lt, Int.not_le] at hc4
          refine TW.seq fun Y19 hY19 => ?_
          refine TW.region ?_
          refine TL.p Pu.as ?_
          refine TL.nil ?_
          refine TQ.thenN (hY19 _ _ ?_)
          refine TW.ret ?_
          refine TQ.thenR ?_
          refine TQ.ret Try.results12 rfl ((.tmp rfl .nil)) ?_
          exact fun w hw => ⟨ret_int (by unfold checkC custC; rw [hh, if_pos rfl, if_neg (by rw [h70]; decide), if_pos (all_len (by omega))]), Chg.ext hw.chg⟩
        · try simp only [decide_eq_true_eq, decide_eq_false_iff_not, Bool.not_eq_true', Bool.not_eq_false', Bool.and_eq_true, Bool.or_eq_true, Bool.and_eq_false_iff, Bool.or_eq_false_iff, Int.not_lt, Int.not_le] at hc4
          refine TW.skip ?_
          refine TQ.thenN (hY17 _ _ ?_)
          refine TW.seq fun Y20 hY20 => ?_
          refine TW.seq fun Y21 hY21 => ?_
          refine TW.region ?_
          refine TL.p Pu.as ?_
          refine TL.nil ?_
          refine TQ.thenN (hY21 _ _ ?_)
          refine TW.block ?_
          refine TW.loop1 (fun (i : Nat) => [(8, .int .i64 (i : Int)), (2, .pointer (some ⟨b1, 0, none⟩)), (3, .pointer (some ⟨b2, 0, none⟩))]) (fun i => [.blk b2 30 [.slice C nc cc, .slice D nd cd, .slice B nb cb], .blk b1 25 (landL W nw cw A nl cl)]) (fun i => i ≤ nd ∧ ∀ j, j < i → feudOk (d j) = true) (fun i => nd - i) 0 (by repeat (first | exact trivial | refine ⟨rfl, ?_⟩ | refine ⟨trivial, ?_⟩)) ?_ ?_ ?_
          · exact (by repeat (first | exact KSub.nil | refine KSub.cons (by repeat (first | exact Pick.hd | apply Pick.tl)) ?_))
          · exact ⟨Nat.zero_le _, fun j hj => by omega⟩
          rintro i ⟨hi2, hall2⟩ Z1 hZ1
          refine TW.seq fun Y22 hY22 => ?_
          refine TW.seq fun Y23 hY23 => ?_
          refine TW.region ?_
          refine TL.p Pu.mv ?_
          refine TL.p (by first | exact Pu.fb ty_fa30_1 | exact Pu.fe ty_fa30_1) ?_
          refine TL.p (Pu.ld ty_sc27) ?_
          refine TL.p (Pu.ln Try.underlying27) ?_
          refine TL.p Pu.lt ?_
          refine TL.nil ?_
          refine TQ.thenN (hY23 _ _ ?_)
          refine TW.cond rfl (fun hc5 => ?_) (fun hc5 => ?_)
          · try simp only [decide_eq_true_eq, decide_eq_false_iff_not, Bool.not_eq_true', Bool.not_eq_false', Bool.and_eq_true, Bool.or_eq_true, Bool.and_eq_false_iff, Bool.or_eq_false_iff, Int.not_lt, Int.not_le] at hc5
            have hin2 : i < nd := by omega
            refine TW.skip ?_
            refine TQ.thenN (hY22 _ _ ?_)
            refine TW.seq fun Y24 hY24 => ?_
            refine TW.block ?_
            refine TW.seq fun Y25 hY25 => ?_
            refine TW.region ?_
            refine TL.p (by first | exact Pu.fb ty_fa30_1 | exact Pu.fe ty_fa30_1) ?_
            refine TL.p (Pu.ld ty_sc27) ?_
            refine TL.p Pu.mv ?_
            refine TL.p (Pu.el ty_et27) ?_
            refine TL.p (Pu.lds ty_ag72) ?_
            refine TL.m (Mk.al ty_zr72) ?_
            intro b4
            first | refine TL.st ty_sz72 ?_ | refine TL.se ty_sz72 ?_
            refine TL.nil ?_
            refine TQ.thenN (hY25 _ _ ?_)
            refine TW.seq fun Y26 hY26 => ?_
            refine TW.join [(107, .bool (!feudOk (d i)))] ?_ (fun hJ2 => ?_)
            · refine TQ.thenN (hY26 _ _ ?_)
              refine TW.cond rfl (fun hc6 => ?_) (fun hc6 => ?_)
              · try simp only [decide_eq_true_eq, decide_eq_false_iff_not, Bool.not_eq_true', Bool.not_eq_false', Bool.and_eq_true, Bool.or_eq_true, Bool.and_eq_false_iff, Bool.or_eq_false_iff, Int.not_lt, Int.not_le] at hc6
                have hg : feudOk (d i) = false := by simpa using hc6
                refine TW.seq fun Y27 hY27 => ?_
                refine TW.region ?_
                refine TL.p Pu.as ?_
                refine TL.nil ?_
                refine TQ.thenN (hY27 _ _ ?_)
                refine TW.ret ?_
                refine TQ.blkR ?_
                refine TQ.thenR ?_
                refine TQ.thenR ?_
                refine TQ.blkR ?_
                refine TQ.thenR ?_
                refine TQ.ret Try.results12 rfl ((.tmp rfl .nil)) ?_
                exact fun w hw => ⟨ret_int (by unfold checkC custC; rw [hh, if_pos rfl, if_neg (by rw [h70]; decide), if_pos (all_no hin2 hg)]), Chg.ext hw.chg⟩
              · try simp only [decide_eq_true_eq, decide_eq_false_iff_not, Bool.not_eq_true', Bool.not_eq_false', Bool.and_eq_true, Bool.or_eq_true, Bool.and_eq_false_iff, Bool.or_eq_false_iff, Int.not_lt, Int.not_le] at hc6
                have hg : feudOk (d i) = true := by simpa using hc6
                refine TW.skip ?_
                refine TQ.blkN ?_
                refine TQ.thenN (hY24 _ _ ?_)
                refine TW.region ?_
                refine TL.p Pu.mv ?_
                refine TL.p Pu.ad ?_
                refine TL.p Pu.as ?_
                refine TL.nil ?_
                refine TQ.thenN (hZ1 (i + 1) _ _ ?_ ?_ (by repeat (first | exact trivial | refine ⟨rfl, ?_⟩ | refine ⟨trivial, ?_⟩)) ?_)
                · refine ⟨by omega, fun j hj => ?_⟩
                  by_cases h : j = i
                  · subst h; exact hg
                  · exact hall2 j (by omega)
                · exact (by first | omega | (simp only []; omega) | (simp; omega))
                · exact (by repeat (first | exact KSub.nil | refine KSub.cons (by repeat (first | exact Pick.hd | apply Pick.tl)) ?_))
            refine TW.region ?_
            refine TL.p (by first | exact Pu.fb ty_fa72_0 | exact Pu.fe ty_fa72_0) ?_
            refine TL.p (Pu.ld ty_sc3) ?_
            refine TL.cr rfl (enters Try.func19 rfl rfl) (fun w hw => by
                exact within7_any _ _ _ _) ?_
            refine TL.p Pu.no ?_
            refine TL.p Pu.mv ?_
            refine TL.guard (t := 87) rfl (fun hg5 => ?_) (fun hg5 => ?_)
            · refine TL.gs ?_
              refine TL.gs ?_
              refine TL.gs ?_
              refine TL.gs ?_
              refine TL.p Pu.kt ?_
              refine TL.p Pu.mv ?_
              refine TL.gs ?_
              refine TL.gs ?_
              refine TL.gs ?_
              refine TL.gs ?_
              refine TL.gs ?_
              refine TL.p Pu.kt ?_
              refine TL.p Pu.mv ?_
              refine TL.gs ?_
              refine TL.gs ?_
              refine TL.gs ?_
              refine TL.gs ?_
              refine TL.gs ?_
              refine TL.gs ?_
              refine TL.p Pu.kt ?_
              refine TL.nil ?_
              exact TQ.sub (by repeat (first | exact trivial | refine ⟨rfl, ?_⟩ | refine ⟨trivial, ?_⟩ | refine ⟨(by show some (Value.bool _) = some (Value.bool _); simp [hg5, feudOk]), ?_⟩)) (by repeat (first | exact KSub.nil | refine KSub.cons (by repeat (first | exact Pick.hd | apply Pick.tl)) ?_)) hJ2
            · refine TL.gd (by first | exact Pu.fb ty_fa72_1 | exact Pu.fe ty_fa72_1) ?_
              refine TL.gd (Pu.ld ty_sc3) ?_
              refine TL.cr rfl (enters Try.func19 rfl rfl) (fun w hw => by
                  exact within7_any _ _ _ _) ?_
              refine TL.gd Pu.no ?_
              refine TL.p Pu.kf ?_
              refine TL.p Pu.mv ?_
              refine TL.guard (t := 93) rfl (fun hg6 => ?_) (fun hg6 => ?_)
              · refine TL.gs ?_
                refine TL.gs ?_
                refine TL.gs ?_
                refine TL.gs ?_
                refine TL.gs ?_
                refine TL.p Pu.kt ?_
                refine TL.p Pu.mv ?_
                refine TL.gs ?_
                refine TL.gs ?_
                refine TL.gs ?_
                refine TL.gs ?_
                refine TL.gs ?_
                refine TL.gs ?_
                refine TL.p Pu.kt ?_
                refine TL.nil ?_
                exact TQ.sub (by repeat (first | exact trivial | refine ⟨rfl, ?_⟩ | refine ⟨trivial, ?_⟩ | refine ⟨(by show some (Value.bool _) = some (Value.bool _); simp [hg5, hg6, feudOk]), ?_⟩)) (by repeat (first | exact KSub.nil | refine KSub.cons (by repeat (first | exact Pick.hd | apply Pick.tl)) ?_)) hJ2
              · refine TL.gd (by first | exact Pu.fb ty_fa72_0 | exact Pu.fe ty_fa72_0) ?_
                refine TL.gd (Pu.ld ty_sc3) ?_
                refine TL.gd (by first | exact Pu.fb ty_fa72_1 | exact Pu.fe ty_fa72_1) ?_
                refine TL.gd (Pu.ld ty_sc3) ?_
                refine TL.gd Pu.eq ?_
                refine TL.p Pu.kf ?_
                refine TL.p Pu.mv ?_
                refine TL.guard (t := 100) rfl (fun hg7 => ?_) (fun hg7 => ?_)
                · refine TL.gs ?_
                  refine TL.gs ?_
                  refine TL.gs ?_
                  refine TL.gs ?_
                  refine TL.gs ?_
                  refine TL.gs ?_
                  refine TL.p Pu.kt ?_
                  refine TL.nil ?_
                  exact TQ.sub (by repeat (first | exact trivial | refine ⟨rfl, ?_⟩ | refine ⟨trivial, ?_⟩ | refine ⟨(by show some (Value.bool _) = some (Value.bool _); simp [hg5, hg6, hg7, feudOk]), ?_⟩)) (by repeat (first | exact KSub.nil | refine KSub.cons (by repeat (first | exact Pick.hd | apply Pick.tl)) ?_)) hJ2
                · refine TL.gd (by first | exact Pu.fb ty_fa72_2 | exact Pu.fe ty_fa72_2) ?_
                  refine TL.gd (Pu.ld ty_sc3) ?_
                  refine TL.gd (by first | exact Pu.fb ty_fa72_3 | exact Pu.fe ty_fa72_3) ?_
                  refine TL.gd (Pu.ld ty_sc3) ?_
                  refine TL.cr rfl (enters Try.func32 rfl rfl) (fun w hw => by
                      exact refDays_any _ _ _) ?_
                  refine TL.gd Pu.no ?_
                  refine TL.p Pu.kf ?_
                  refine TL.nil ?_
                  exact TQ.sub (by repeat (first | exact trivial | refine ⟨rfl, ?_⟩ | refine ⟨trivial, ?_⟩ | refine ⟨(by show some (Value.bool _) = some (Value.bool _); simp [hg5, hg6, hg7, feudOk]), ?_⟩)) (by repeat (first | exact KSub.nil | refine KSub.cons (by repeat (first | exact Pick.hd | apply Pick.tl)) ?_)) hJ2
          · try simp only [decide_eq_true_eq, decide_eq_false_iff_not, Bool.not_eq_true', Bool.not_eq_false', Bool.and_eq_true, Bool.or_eq_true, Bool.and_eq_false_iff, Bool.or_eq_false_iff, Int.not_lt, Int.not_le] at hc5
            have hin2 : i = nd := by omega
            have h71 := all_yes (m := 20) (fun j hj => hall2 j (by omega)) (by omega : (nd : Int) ≤ 20)
            refine TW.exit ?_
            refine TQ.thenX ?_
            refine TQ.thenX ?_
            refine TQ.blkX ?_
            refine TQ.thenN (hY20 _ _ ?_)
            refine TW.seq fun Y28 hY28 => ?_
            refine TW.seq fun Y29 hY29 => ?_
            refine TW.region ?_
            refine TL.p (by first | exact Pu.fb ty_fa30_2 | exact Pu.fe ty_fa30_2) ?_
            refine TL.p (Pu.ld ty_sc28) ?_
            refine TL.p (Pu.ln Try.underlying28) ?_
            refine TL.p Pu.gt ?_
            refine TL.nil ?_
            refine TQ.thenN (hY29 _ _ ?_)
            refine TW.cond rfl (fun hc7 => ?_) (fun hc7 => ?_)
            · try simp only [decide_eq_true_eq, decide_eq_false_iff_not, Bool.not_eq_true', Bool.not_eq_false', Bool.and_eq_true, Bool.or_eq_true, Bool.and_eq_false_iff, Bool.or_eq_false_iff, Int.not_lt, Int.not_le] at hc7
              refine TW.seq fun Y30 hY30 => ?_
              refine TW.region ?_
              refine TL.p Pu.as ?_
              refine TL.nil ?_
              refine TQ.thenN (hY30 _ _ ?_)
              refine TW.ret ?_
              refine TQ.thenR ?_
              refine TQ.ret Try.results12 rfl ((.tmp rfl .nil)) ?_
              exact fun w hw => ⟨ret_int (by unfold checkC custC; rw [hh, if_pos rfl, if_neg (by rw [h70]; decide), if_neg (by rw [h71]; decide), if_pos (all_len (by omega))]), Chg.ext hw.chg⟩
            · try simp only [decide_eq_true_eq, decide_eq_false_iff_not, Bool.not_eq_true', Bool.not_eq_false', Bool.and_eq_true, Bool.or_eq_true, Bool.and_eq_false_iff, Bool.or_eq_false_iff, Int.not_lt, Int.not_le] at hc7
              refine TW.skip ?_
              refine TQ.thenN (hY28 _ _ ?_)
              refine TW.seq fun Y31 hY31 => ?_
              refine TW.seq fun Y32 hY32 => ?_
              refine TW.region ?_
              refine TL.p Pu.as ?_
              refine TL.nil ?_
              refine TQ.thenN (hY32 _ _ ?_)
              refine TW.block ?_
              refine TW.loop1 (fun (i : Nat) => [(10, .int .i64 (i : Int)), (2, .pointer (some ⟨b1, 0, none⟩)), (3, .pointer (some ⟨b2, 0, none⟩))]) (fun i => [.blk b2 30 [.slice C nc cc, .slice D nd cd, .slice B nb cb], .blk b1 25 (landL W nw cw A nl cl)]) (fun i => i ≤ nb ∧ ∀ j, j < i → borderOk nl (b j) = true) (fun i => nb - i) 0 (by repeat (first | exact trivial | refine ⟨rfl, ?_⟩ | refine ⟨trivial, ?_⟩)) ?_ ?_ ?_
              · exact (by repeat (first | exact KSub.nil | refine KSub.cons (by repeat (first | exact Pick.hd | apply Pick.tl)) ?_))
              · exact ⟨Nat.zero_le _, fun j hj => by omega⟩
              rintro i ⟨hi3, hall3⟩ Z2 hZ2
              refine TW.seq fun Y33 hY33 => ?_
              refine TW.seq fun Y34 hY34 => ?_
              refine TW.region ?_
              refine TL.p Pu.mv ?_
              refine TL.p (by first | exact Pu.fb ty_fa30_2 | exact Pu.fe ty_fa30_2) ?_
              refine TL.p (Pu.ld ty_sc28) ?_
              refine TL.p (Pu.ln Try.underlying28) ?_
              refine TL.p Pu.lt ?_
              refine TL.nil ?_
              refine TQ.thenN (hY34 _ _ ?_)
              refine TW.cond rfl (fun hc8 => ?_) (fun hc8 => ?_)
              · try simp only [decide_eq_true_eq, decide_eq_false_iff_not, Bool.not_eq_true', Bool.not_eq_false', Bool.and_eq_true, Bool.or_eq_true, Bool.and_eq_false_iff, Bool.or_eq_false_iff, Int.not_lt, Int.not_le] at hc8
                have hin3 : i < nb := by omega
                refine TW.skip ?_
                refine TQ.thenN (hY33 _ _ ?_)
                refine TW.seq fun Y35 hY35 => ?_
                refine TW.block ?_
                refine TW.seq fun Y36 hY36 => ?_
                refine TW.region ?_
                refine TL.p (by first | exact Pu.fb ty_fa30_2 | exact Pu.fe ty_fa30_2) ?_
                refine TL.p (Pu.ld ty_sc28) ?_
                refine TL.p Pu.mv ?_
                refine TL.p (Pu.el ty_et28) ?_
                refine TL.p (Pu.lds ty_ag77) ?_
                refine TL.m (Mk.al ty_zr77) ?_
                intro b5
                first | refine TL.st ty_sz77 ?_ | refine TL.se ty_sz77 ?_
                refine TL.nil ?_
                refine TQ.thenN (hY36 _ _ ?_)
                refine TW.seq fun Y37 hY37 => ?_
                refine TW.join [(139, .bool (!borderOk nl (b i)))] ?_ (fun hJ3 => ?_)
                · refine TQ.thenN (hY37 _ _ ?_)
                  refine TW.cond rfl (fun hc9 => ?_) (fun hc9 => ?_)
                  · try simp only [decide_eq_true_eq, decide_eq_false_iff_not, Bool.not_eq_true', Bool.not_eq_false', Bool.and_eq_true, Bool.or_eq_true, Bool.and_eq_false_iff, Bool.or_eq_false_iff, Int.not_lt, Int.not_le] at hc9
                    have hg : borderOk nl (b i) = false := by simpa using hc9
                    refine TW.seq fun Y38 hY38 => ?_
                    refine TW.region ?_
                    refine TL.p Pu.as ?_
                    refine TL.nil ?_
                    refine TQ.thenN (hY38 _ _ ?_)
                    refine TW.ret ?_
                    refine TQ.blkR ?_
                    refine TQ.thenR ?_
                    refine TQ.thenR ?_
                    refine TQ.blkR ?_
                    refine TQ.thenR ?_
                    refine TQ.ret Try.results12 rfl ((.tmp rfl .nil)) ?_
                    exact fun w hw => ⟨ret_int (by unfold checkC custC; rw [hh, if_pos rfl, if_neg (by rw [h70]; decide), if_neg (by rw [h71]; decide), if_pos (all_no hin3 hg)]), Chg.ext hw.chg⟩
                  · try simp only [decide_eq_true_eq, decide_eq_false_iff_not, Bool.not_eq_true', Bool.not_eq_false', Bool.and_eq_true, Bool.or_eq_true, Bool.and_eq_false_iff, Bool.or_eq_false_iff, Int.not_lt, Int.not_le] at hc9
                    have hg : borderOk nl (b i) = true := by simpa using hc9
                    refine TW.skip ?_
                    refine TQ.blkN ?_
                    refine TQ.thenN (hY35 _ _ ?_)
                    refine TW.region ?_
                    refine TL.p Pu.mv ?_
                    refine TL.p Pu.ad ?_
                    refine TL.p Pu.as ?_
                    refine TL.nil ?_
                    refine TQ.thenN (hZ2 (i + 1) _ _ ?_ ?_ (by repeat (first | exact trivial | refine ⟨rfl, ?_⟩ | refine ⟨trivial, ?_⟩)) ?_)
                    · refine ⟨by omega, fun j hj => ?_⟩
                      by_cases h : j = i
                      · subst h; exact hg
                      · exact hall3 j (by omega)
                    · exact (by first | omega | (simp only []; omega) | (simp; omega))
                    · exact (by repeat (first | exact KSub.nil | refine KSub.cons (by repeat (first | exact Pick.hd | apply Pick.tl)) ?_))
                refine TW.region ?_
                refine TL.p (by first | exact Pu.fb ty_fa77_0 | exact Pu.fe ty_fa77_0) ?_
                refine TL.p (Pu.ld ty_sc3) ?_
                refine TL.p (by first | exact Pu.fb ty_fa25_1 | exact Pu.fe ty_fa25_1) ?_
                refine TL.p (Pu.ld ty_sc23) ?_
                refine TL.p (Pu.ln Try.underlying23) ?_
                refine TL.p Pu.sb ?_
                refine TL.cr rfl (enters Try.func19 rfl rfl) (fun w hw => by
                    exact within7_any _ _ _ _) ?_
                refine TL.p Pu.no ?_
                refine TL.p Pu.mv ?_
                refine TL.guard (t := 132) rfl (fun hg8 => ?_) (fun hg8 => ?_)
                · refine TL.gs ?_
                  refine TL.gs ?_
                  refine TL.gs ?_
                  refine TL.gs ?_
                  refine TL.gs ?_
                  refine TL.gs ?_
                  refine TL.p Pu.kt ?_
                  refine TL.nil ?_
                  exact TQ.sub (by repeat (first | exact trivial | refine ⟨rfl, ?_⟩ | refine ⟨trivial, ?_⟩ | refine ⟨(by show some (Value.bool _) = some (Value.bool _); simp [hg8, borderOk]), ?_⟩)) (by repeat (first | exact KSub.nil | refine KSub.cons (by repeat (first | exact Pick.hd | apply Pick.tl)) ?_)) hJ3
                · refine TL.gd (by first | exact Pu.fb ty_fa77_1 | exact Pu.fe ty_fa77_1) ?_
                  refine TL.gd (Pu.ld ty_sc3) ?_
                  refine TL.gd (by first | exact Pu.fb ty_fa77_2 | exact Pu.fe ty_fa77_2) ?_
                  refine TL.gd (Pu.ld ty_sc3) ?_
                  refine TL.cr rfl (enters Try.func32 rfl rfl) (fun w hw => by
                      exact refDays_any _ _ _) ?_
                  refine TL.gd Pu.no ?_
                  refine TL.p Pu.kf ?_
                  refine TL.nil ?_
                  exact TQ.sub (by repeat (first | exact trivial | refine ⟨rfl, ?_⟩ | refine ⟨trivial, ?_⟩ | refine ⟨(by show some (Value.bool _) = some (Value.bool _); simp [hg8, borderOk]), ?_⟩)) (by repeat (first | exact KSub.nil | refine KSub.cons (by repeat (first | exact Pick.hd | apply Pick.tl)) ?_)) hJ3
              · try simp only [decide_eq_true_eq, decide_eq_false_iff_not, Bool.not_eq_true', Bool.not_eq_false', Bool.and_eq_true, Bool.or_eq_true, Bool.and_eq_false_iff, Bool.or_eq_false_iff, Int.not_lt, Int.not_le] at hc8
                have hin3 : i = nb := by omega
                have h72 := all_yes (m := 20) (fun j hj => hall3 j (by omega)) (by omega : (nb : Int) ≤ 20)
                refine TW.exit ?_
                refine TQ.thenX ?_
                refine TQ.thenX ?_
                refine TQ.blkX ?_
                refine TQ.thenN (hY31 _ _ ?_)
                refine TW.seq fun Y39 hY39 => ?_
                refine TW.region ?_
                refine TL.p Pu.as ?_
                refine TL.nil ?_
                refine TQ.thenN (hY39 _ _ ?_)
                refine TW.ret ?_
                refine TQ.ret Try.results12 rfl ((.tmp rfl .nil)) ?_
                exact fun w hw => ⟨ret_int (by unfold checkC custC; rw [hh, if_pos rfl, if_neg (by rw [h70]; decide), if_neg (by rw [h71]; decide), if_neg (by rw [h72]; decide)]), Chg.ext hw.chg⟩
end Go.Proofs.Ytckiagbllkdfdaa
