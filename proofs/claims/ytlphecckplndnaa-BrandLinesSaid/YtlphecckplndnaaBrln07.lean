/-
  Part 7 of the proof of brandLines_holds: declarations of several texts, in build order. No condition on a program.
-/
import Derived.Test.YtlphecckplndnaaBrln05
import Derived.Test.YtlphecckplndnaaBrln06
namespace Go.Proofs.Ytlphecckplndnaa
set_option linter.all false
set_option linter.unusedVariables false
set_option linter.unusedSimpArgs false
open Go.RowKit
theorem rWithin_any (a lo hi : Int) (w : World) : Calls Try.prog 29 #[.int .i64 a, .int .i64 lo, .int .i64 hi] w (Ret w (.bool (inB5 lo hi a))) := by
  refine K_enter (S := []) (K := []) Try.func29 rfl Try.ntmps29 rfl (Sat.start _) ?_
  refine TW.seq fun Y1 hY1 => ?_
  refine TW.region ?_
  refine TL.p Pu.as ?_
  refine TL.nil ?_
  refine TQ.thenN (hY1 _ _ ?_)
  refine TW.seq fun Y2 hY2 => ?_
  refine TW.join [(6, .bool (inB5 lo hi a))] ?_ (fun hJ1 => ?_)
  · refine TQ.thenN (hY2 _ _ ?_)
    refine TW.ret ?_
    refine TQ.ret Try.results29 rfl ((.tmp rfl .nil)) ?_
    exact fun w hw => Ret.of hw
  refine TW.region ?_
  refine TL.p Pu.mv ?_
  refine TL.p Pu.mv ?_
  refine TL.p Pu.ge ?_
  refine TL.p Pu.mv ?_
  refine TL.guard (t := 10) rfl (fun hg1 => ?_) (fun hg1 => ?_)
  · refine TL.gd Pu.mv ?_
    refine TL.gd Pu.mv ?_
    refine TL.gd Pu.le ?_
    refine TL.p Pu.kt ?_
    refine TL.p Pu.as ?_
    refine TL.nil ?_
    exact TQ.sub (by repeat (first | exact trivial | refine ⟨rfl, ?_⟩ | refine ⟨trivial, ?_⟩ | refine ⟨(by show some (Value.bool _) = some (Value.bool _); simp [hg1, inB5]), ?_⟩)) (by repeat (first | exact KSub.nil | refine KSub.cons (by repeat (first | exact Pick.hd | apply Pick.tl)) ?_)) hJ1
  · refine TL.gs ?_
    refine TL.gs ?_
    refine TL.gs ?_
    refine TL.p Pu.kf ?_
    refine TL.p Pu.as ?_
    refine TL.nil ?_
    exact TQ.sub (by repeat (first | exact trivial | refine ⟨rfl, ?_⟩ | refine ⟨trivial, ?_⟩ | refine ⟨(by show some (Value.bool _) = some (Value.bool _); simp [hg1, inB5]), ?_⟩)) (by repeat (first | exact KSub.nil | refine KSub.cons (by repeat (first | exact Pick.hd | apply Pick.tl)) ?_)) hJ1
theorem rOrdered_any (a b lo hi : Int) (w : World) : Calls Try.prog 30 #[.agg #[.int .i64 a, .int .i64 b], .int .i64 lo, .int .i64 hi] w (Ret w (.bool (ordB5 lo hi a b))) := by
  refine K_enter (S := []) (K := []) Try.func30 rfl Try.ntmps30 rfl (Sat.start _) ?_
  refine TW.seq fun Y1 hY1 => ?_
  refine TW.region ?_
  refine TL.m Mk.bx ?_
  intro b1
  refine TL.p Pu.as ?_
  refine TL.nil ?_
  refine TQ.thenN (hY1 _ _ ?_)
  refine TW.seq fun Y2 hY2 => ?_
  refine TW.join [(6, .bool (ordB5 lo hi a b))] ?_ (fun hJ1 => ?_)
  · refine TQ.thenN (hY2 _ _ ?_)
    refine TW.ret ?_
    refine TQ.ret Try.results30 rfl ((.tmp rfl .nil)) ?_
    exact fun w hw => Ret.of hw
  refine TW.region ?_
  refine TL.p (by first | exact Pu.fb ty_fa47_0 | exact Pu.fe ty_fa47_0) ?_
  refine TL.p (Pu.ld ty_sc3) ?_
  refine TL.p Pu.mv ?_
  refine TL.p Pu.ge ?_
  refine TL.p Pu.mv ?_
  refine TL.guard (t := 11) rfl (fun hg1 => ?_) (fun hg1 => ?_)
  · refine TL.gd (by first | exact Pu.fb ty_fa47_0 | exact Pu.fe ty_fa47_0) ?_
    refine TL.gd (Pu.ld ty_sc3) ?_
    refine TL.gd (by first | exact Pu.fb ty_fa47_1 | exact Pu.fe ty_fa47_1) ?_
    refine TL.gd (Pu.ld ty_sc3) ?_
    refine TL.gd Pu.le ?_
    refine TL.p Pu.kt ?_
    refine TL.p Pu.mv ?_
    refine TL.guard (t := 18) rfl (fun hg2 => ?_) (fun hg2 => ?_)
    · refine TL.gd (by first | exact Pu.fb ty_fa47_1 | exact Pu.fe ty_fa47_1) ?_
      refine TL.gd (Pu.ld ty_sc3) ?_
      refine TL.gd Pu.mv ?_
      refine TL.gd Pu.le ?_
      refine TL.p Pu.kt ?_
      refine TL.p Pu.as ?_
      refine TL.nil ?_
      exact TQ.sub (by repeat (first | exact trivial | refine ⟨rfl, ?_⟩ | refine ⟨trivial, ?_⟩ | refine ⟨(by show some (Value.bool _) = some (Value.bool _); simp [hg1, hg2, ordB5]), ?_⟩)) (by repeat (first | exact KSub.nil | refine KSub.cons (by repeat (first | exact Pick.hd | apply Pick.tl)) ?_)) hJ1
    · refine TL.gs ?_
      refine TL.gs ?_
      refine TL.gs ?_
      refine TL.gs ?_
      refine TL.p Pu.kf ?_
      refine TL.p Pu.as ?_
      refine TL.nil ?_
      exact TQ.sub (by repeat (first | exact trivial | refine ⟨rfl, ?_⟩ | refine ⟨trivial, ?_⟩ | refine ⟨(by show some (Value.bool _) = some (Value.bool _); simp [hg1, hg2, ordB5]), ?_⟩)) (by repeat (first | exact KSub.nil | refine KSub.cons (by repeat (first | exact Pick.hd | apply Pick.tl)) ?_)) hJ1
  · refine TL.gs ?_
    refine TL.gs ?_
    refine TL.gs ?_
    refine TL.gs ?_
    refine TL.gs ?_
    refine TL.p Pu.kf ?_
    refine TL.p Pu.mv ?_
    refine TL.gs ?_
    refine TL.gs ?_
    refine TL.gs ?_
    refine TL.gs ?_
    refine TL.p Pu.kf ?_
    refine TL.p Pu.as ?_
    refine TL.nil ?_
    exact TQ.sub (by repeat (first | exact trivial | refine ⟨rfl, ?_⟩ | refine ⟨trivial, ?_⟩ | refine ⟨(by show some (Value.bool _) = some (Value.bool _); simp [hg1, ordB5]), ?_⟩)) (by repeat (first | exact KSub.nil | refine KSub.cons (by repeat (first | exact Pick.hd | apply Pick.tl)) ?_)) hJ1
set_option maxRecDepth 100000 in
theorem rAt_any {w : World} {A : Option Addr} {cp : Nat} {H : Hd} {a : Nat → Option Addr} {c : Nat → Nat} (x : Int) (hn : H.n ≤ 1000) (hR : RdR w 5 A H.n (fun i => anL H a c i)) :
    Calls Try.prog 23 #[.slice A H.n cp, .int .i64 x] w (Ret w (.int .i64 (atH H x))) := by
  refine K_enter (S := []) (K := []) Try.func23 rfl Try.ntmps23 rfl (Sat.start _) ?_
  refine TW.seq fun Y1 hY1 => ?_
  refine TW.region ?_
  refine TL.p Pu.as ?_
  refine TL.nil ?_
  refine TQ.thenN (hY1 _ _ ?_)
  refine TW.seq fun Y2 hY2 => ?_
  refine TW.seq fun Y3 hY3 => ?_
  refine TW.region ?_
  refine TL.p Pu.as ?_
  refine TL.nil ?_
  refine TQ.thenN (hY3 _ _ ?_)
  refine TW.block ?_
  refine TW.loop1 (fun (k : Nat) => [(5, .int .i64 (k : Int)), (0, .slice A H.n cp), (1, .int .i64 x)]) (fun k => []) (fun k => k ≤ H.n ∧ ∀ j, j < k → H.id j ≠ x) (fun k => H.n - k) 0 (by repeat (first | exact trivial | refine ⟨rfl, ?_⟩ | refine ⟨trivial, ?_⟩)) ?_ ?_ ?_
  · exact (by repeat (first | exact KSub.nil | refine KSub.cons (by repeat (first | exact Pick.hd | apply Pick.tl)) ?_))
  · exact ⟨Nat.zero_le _, fun j hj => by omega⟩
  rintro k ⟨hk, hno⟩ Z0 hZ0
  refine TW.seq fun Y4 hY4 => ?_
  refine TW.seq fun Y5 hY5 => ?_
  refine TW.region ?_
  refine TL.p Pu.mv ?_
  refine TL.p Pu.mv ?_
  refine TL.p (Pu.ln Try.underlying22) ?_
  refine TL.p Pu.lt ?_
  refine TL.nil ?_
  refine TQ.thenN (hY5 _ _ ?_)
  refine TW.cond rfl (fun hc0 => ?_) (fun hc0 => ?_)
  · try simp only [decide_eq_true_eq, decide_eq_false_iff_not, Bool.not_eq_true', Bool.not_eq_false', Bool.and_eq_true, Bool.or_eq_true, Bool.and_eq_false_iff, Bool.or_eq_false_iff, Int.not_lt, Int.not_le] at hc0
    have hkn : k < H.n := by omega
    refine TW.skip ?_
    refine TQ.thenN (hY4 _ _ ?_)
    refine TW.seq fun Y6 hY6 => ?_
    refine TW.block ?_
    refine TW.seq fun Y7 hY7 => ?_
    refine TW.region ?_
    refine TL.p Pu.mv ?_
    refine TL.p Pu.mv ?_
    refine TL.p (Pu.el ty_et22) ?_
    refine TL.p (by first | exact Pu.fb ty_fa50_0 | exact Pu.fe ty_fa50_0) ?_
    refine TL.p (Pu.ld ty_sc3) ?_
    refine TL.p Pu.mv ?_
    refine TL.p Pu.eq ?_
    refine TL.nil ?_
    refine TQ.thenN (hY7 _ _ ?_)
    refine TW.cond rfl (fun hc1 => ?_) (fun hc1 => ?_)
    · try simp only [decide_eq_true_eq, decide_eq_false_iff_not, Bool.not_eq_true', Bool.not_eq_false', Bool.and_eq_true, Bool.or_eq_true, Bool.and_eq_false_iff, Bool.or_eq_false_iff, Int.not_lt, Int.not_le] at hc1
      refine TW.seq fun Y8 hY8 => ?_
      refine TW.region ?_
      refine TL.p Pu.mv ?_
      refine TL.p Pu.as ?_
      refine TL.nil ?_
      refine TQ.thenN (hY8 _ _ ?_)
      refine TW.ret ?_
      refine TQ.blkR ?_
      refine TQ.thenR ?_
      refine TQ.thenR ?_
      refine TQ.blkR ?_
      refine TQ.thenR ?_
      refine TQ.ret Try.results23 rfl ((.tmp rfl .nil)) ?_
      have e : atH H x = (k : Int) := atI_eq (p := fun j => decide (H.id j = x)) hkn (by simpa using hc1) (fun j hj => by simpa using hno j hj)
      exact fun w hw => ⟨by rw [e]; rfl, Chg.ext hw.chg⟩
    · try simp only [decide_eq_true_eq, decide_eq_false_iff_not, Bool.not_eq_true', Bool.not_eq_false', Bool.and_eq_true, Bool.or_eq_true, Bool.and_eq_false_iff, Bool.or_eq_false_iff, Int.not_lt, Int.not_le] at hc1
      refine TW.skip ?_
      refine TQ.blkN ?_
      refine TQ.thenN (hY6 _ _ ?_)
      refine TW.region ?_
      refine TL.p Pu.mv ?_
      refine TL.p Pu.ad ?_
      refine TL.p Pu.as ?_
      refine TL.nil ?_
      refine TQ.thenN (hZ0 (k + 1) _ _ ?_ ?_ (by repeat (first | exact trivial | refine ⟨rfl, ?_⟩ | refine ⟨trivial, ?_⟩)) ?_)
      · refine ⟨by omega, fun j hj => ?_⟩
        by_cases e : j = k
        · subst e; exact hc1
        · exact hno j (by omega)
      · exact (by first | omega | (simp only []; omega) | (simp; omega))
      · exact (by repeat (first | exact KSub.nil | refine KSub.cons (by repeat (first | exact Pick.hd | apply Pick.tl)) ?_))
  · try simp only [decide_eq_true_eq, decide_eq_false_iff_not, Bool.not_eq_true', Bool.not_eq_false', Bool.and_eq_true, Bool.or_eq_true, Bool.and_eq_false_iff, Bool.or_eq_false_iff, Int.not_lt, Int.not_le] at hc0
    obtain rfl : k = H.n := by omega
    refine TW.exit ?_
    refine TQ.thenX ?_
    refine TQ.thenX ?_
    refine TQ.blkX ?_
    refine TQ.thenN (hY2 _ _ ?_)
    refine TW.seq fun Y9 hY9 => ?_
    refine TW.region ?_
    refine TL.p Pu.as ?_
    refine TL.nil ?_
    refine TQ.thenN (hY9 _ _ ?_)
    refine TW.ret ?_
    refine TQ.ret Try.results23 rfl ((.tmp rfl .nil)) ?_
    have e : atH H x = -1 := atI_none (p := fun j => decide (H.id j = x)) (fun j hj => by simpa using hno j hj)
    exact fun w hw => ⟨by rw [e]; rfl, Chg.ext hw.chg⟩
def headB (H : Hd) (i : Nat) : Bool := inB5 0 9999 (H.id i) && decide (atH H (H.id i) = (i : Int)) && an2B H i && ordB5 (-100000) 100000 (H.lo i) (H.hi i)
theorem an_head {H : Hd} {i : Nat} : (an1B H i && an2B H i) = (headB H i && marksB H i) := by
  unfold an1B headB
  cases inB5 0 9999 (H.id i) <;> cases decide (atH H (H.id i) = (i : Int)) <;> cases an2B H i <;> cases ordB5 (-100000) 100000 (H.lo i) (H.hi i) <;> cases marksB H i <;> rfl
theorem head_no {H : Hd} {i : Nat} (hi : i < H.n) (h : (headB H i && marksB H i) = false) : herdB H = false := by
  rw [← an_head, Bool.and_eq_false_iff] at h
  rcases h with h | h
  · exact herd_no1 hi h
  · exact herd_no2 hi h
set_option maxRecDepth 100000 in
set_option maxHeartbeats 2000000 in
theorem rHerd_any {w : World} {A : Option Addr} {cp : Nat} {H : Hd} {a : Nat → Option Addr} {c : Nat → Nat} (hI : HIn w A H a c) :
    Calls Try.prog 18 #[.slice A H.n cp] w (Ret w (.bool (herdB H))) := by
  have hn := hI.hn
  have hR := hI.hR
  refine K_enter (S := []) (K := []) Try.func18 rfl Try.ntmps18 rfl (Sat.start _) ?_
  refine TW.seq fun Y1 hY1 => ?_
  refine TW.region ?_
  refine TL.p Pu.as ?_
  refine TL.nil ?_
  refine TQ.thenN (hY1 _ _ ?_)
  refine TW.seq fun Y2 hY2 => ?_
  refine TW.seq fun Y3 hY3 => ?_
  refine TW.region ?_
  refine TL.p Pu.mv ?_
  refine TL.p (Pu.ln Try.underlying22) ?_
  refine TL.p Pu.gt ?_
  refine TL.nil ?_
  refine TQ.thenN (hY3 _ _ ?_)
  refine TW.cond rfl (fun hc0 => ?_) (fun hc0 => ?_)
  · try simp only [decide_eq_true_eq, decide_eq_false_iff_not, Bool.not_eq_true', Bool.not_eq_false', Bool.and_eq_true, Bool.or_eq_true, Bool.and_eq_false_iff, Bool.or_eq_false_iff, Int.not_lt, Int.not_le] at hc0
    refine TW.seq fun Y4 hY4 => ?_
    refine TW.region ?_
    refine TL.p Pu.as ?_
    refine TL.nil ?_
    refine TQ.thenN (hY4 _ _ ?_)
    refine TW.ret ?_
    refine TQ.thenR ?_
    refine TQ.ret Try.results18 rfl ((.tmp rfl .nil)) ?_
    have hno := herd_no0 (H := H) hc0
    exact fun w hw => ⟨by rw [hno]; rfl, Chg.ext hw.chg⟩
  · try simp only [decide_eq_true_eq, decide_eq_false_iff_not, Bool.not_eq_true', Bool.not_eq_false', Bool.and_eq_true, Bool.or_eq_true, Bool.and_eq_false_iff, Bool.or_eq_false_iff, Int.not_lt, Int.not_le] at hc0
    have h16 : (H.n : Int) ≤ 16 := by omega
    refine TW.skip ?_
    refine TQ.thenN (hY2 _ _ ?_)
    refine TW.seq fun Y5 hY5 => ?_
    refine TW.seq fun Y6 hY6 => ?_
    refine TW.region ?_
    refine TL.p Pu.as ?_
    refine TL.nil ?_
    refine TQ.thenN (hY6 _ _ ?_)
    refine TW.block ?_
    refine TW.loop1 (fun (i : Nat) => [(3, .int .i64 (i : Int)), (0, .slice A H.n cp)]) (fun i => []) (fun i => i ≤ H.n ∧ ∀ j, j < i → (headB H j && marksB H j) = true) (fun i => H.n - i) 0 (by repeat (first | exact trivial | refine ⟨rfl, ?_⟩ | refine ⟨trivial, ?_⟩)) ?_ ?_ ?_
    · exact (by repeat (first | exact KSub.nil | refine KSub.cons (by repeat (first | exact Pick.hd | apply Pick.tl)) ?_))
    · exact ⟨Nat.zero_le _, fun j hj => by omega⟩
    rintro i ⟨hi, h1⟩ Z0 hZ0
    refine TW.seq fun Y7 hY7 => ?_
    refine TW.seq fun Y8 hY8 => ?_
    refine TW.region ?_
    refine TL.p Pu.mv ?_
    refine TL.p Pu.mv ?_
    refine TL.p (Pu.ln Try.underlying22) ?_
    refine TL.p Pu.lt ?_
    refine TL.nil ?_
    refine TQ.thenN (hY8 _ _ ?_)
    refine TW.cond rfl (fun hc1 => ?_) (fun hc1 => ?_)
    · try simp only [decide_eq_true_eq, decide_eq_false_iff_not, Bool.not_eq_true', Bool.not_eq_false', Bool.and_eq_true, Bool.or_eq_true, Bool.and_eq_false_iff, Bool.or_eq_false_iff, Int.not_lt, Int.not_le] at hc1
      have hin : i < H.n := by omega
      have hml := hI.hl i hin
      have hMi := hI.hM i hin
      refine TW.skip ?_
      refine TQ.thenN (hY7 _ _ ?_)
      refine TW.seq fun Y9 hY9 => ?_
      refine TW.block ?_
      refine TW.seq fun Y10 hY10 => ?_
      refine TW.region ?_
      refine TL.p Pu.mv ?_
      refine TL.p Pu.mv ?_
      refine TL.p (Pu.el ty_et22) ?_
      refine TL.p (Pu.lds ty_ag50) ?_
      refine TL.m (Mk.al ty_zr50) ?_
      intro b1
      first | refine TL.st ty_sz50 ?_ | refine TL.se ty_sz50 ?_
      refine TL.nil ?_
      refine TQ.thenN (hY10 _ _ ?_)
      refine TW.seq fun Y11 hY11 => ?_
      refine TW.seq fun Y12 hY12 => ?_
      refine TW.join [(52, .bool (!headB H i))] ?_ (fun hJ1 => ?_)
      · refine TQ.thenN (hY12 _ _ ?_)
        refine TW.cond rfl (fun hc2 => ?_) (fun hc2 => ?_)
        · try simp only [decide_eq_true_eq, decide_eq_false_iff_not, Bool.not_eq_true', Bool.not_eq_false', Bool.and_eq_true, Bool.or_eq_true, Bool.and_eq_false_iff, Bool.or_eq_false_iff, Int.not_lt, Int.not_le] at hc2
          have hno := head_no hin (by rw [show headB H i = false from hc2]; rfl)
          refine TW.seq fun Y13 hY13 => ?_
          refine TW.region ?_
          refine TL.p Pu.as ?_
          refine TL.nil ?_
          refine TQ.thenN (hY13 _ _ ?_)
          refine TW.ret ?_
          refine TQ.thenR ?_
          refine TQ.blkR ?_
          refine TQ.thenR ?_
          refine TQ.thenR ?_
          refine TQ.blkR ?_
          refine TQ.thenR ?_
          refine TQ.ret Try.results18 rfl ((.tmp rfl .nil)) ?_
          exact fun w hw => ⟨by rw [hno]; rfl, Chg.ext hw.chg⟩
        · try simp only [decide_eq_true_eq, decide_eq_false_iff_not, Bool.not_eq_true', Bool.not_eq_false', Bool.and_eq_true, Bool.or_eq_true, Bool.and_eq_false_iff, Bool.or_eq_false_iff, Int.not_lt, Int.not_le] at hc2
          have hhd : headB H i = true := hc2
          refine TW.skip ?_
          refine TQ.thenN (hY11 _ _ ?_)
          refine TW.seq fun Y14 hY14 => ?_
          refine TW.region ?_
          refine TL.p Pu.as ?_
          refine TL.nil ?_
          refine TQ.thenN (hY14 _ _ ?_)
          refine TW.block ?_
          refine TW.loop1 (fun (k : Nat) => [(5, .int .i64 (k : Int)), (4, .pointer (some ⟨b1, 0, none⟩)), (3, .int .i64 (i : Int)), (0, .slice A H.n cp)]) (fun k => [.blk b1 50 (anL H a c i)]) (fun k => k ≤ H.ml i ∧ ∀ q, q < k → markB H i q = true) (fun k => H.ml i - k) 0 (by repeat (first | exact trivial | refine ⟨rfl, ?_⟩ | refine ⟨trivial, ?_⟩)) ?_ ?_ ?_
          · exact (by repeat (first | exact KSub.nil | refine KSub.cons (by repeat (first | exact Pick.hd | apply Pick.tl)) ?_))
          · exact ⟨Nat.zero_le _, fun j hj => by omega⟩
          rintro k ⟨hk, hm⟩ Z1 hZ1
          refine TW.seq fun Y15 hY15 => ?_
          refine TW.seq fun Y16 hY16 => ?_
          refine TW.region ?_
          refine TL.p Pu.mv ?_
          refine TL.p (by first | exact Pu.fb ty_fa50_3 | exact Pu.fe ty_fa50_3) ?_
          refine TL.p (Pu.ld ty_sc48) ?_
          refine TL.p (Pu.ln Try.underlying48) ?_
          refine TL.p Pu.lt ?_
          refine TL.nil ?_
          refine TQ.thenN (hY16 _ _ ?_)
          refine TW.cond rfl (fun hc3 => ?_) (fun hc3 => ?_)
          · try simp only [decide_eq_true_eq, decide_eq_false_iff_not, Bool.not_eq_true', Bool.not_eq_false', Bool.and_eq_true, Bool.or_eq_true, Bool.and_eq_false_iff, Bool.or_eq_false_iff, Int.not_lt, Int.not_le] at hc3
            have hkl : k < H.ml i := by omega
            refine TW.skip ?_
            refine TQ.thenN (hY15 _ _ ?_)
            refine TW.seq fun Y17 hY17 => ?_
            refine TW.block ?_
            refine TW.seq fun Y18 hY18 => ?_
            refine TW.seq fun Y19 hY19 => ?_
            refine TW.join [(77, .bool (!(inB5 0 7 (H.sp i k) && inB5 1 20 (H.sg i k))))] ?_ (fun hJ2 => ?_)
            · refine TQ.thenN (hY19 _ _ ?_)
              refine TW.cond rfl (fun hc4 => ?_) (fun hc4 => ?_)
              · try simp only [decide_eq_true_eq, decide_eq_false_iff_not, Bool.not_eq_true', Bool.not_eq_false', Bool.and_eq_true, Bool.or_eq_true, Bool.and_eq_false_iff, Bool.or_eq_false_iff, Int.not_lt, Int.not_le] at hc4
                have hbad : (inB5 0 7 (H.sp i k) && inB5 1 20 (H.sg i k)) = false := by rw [Bool.and_eq_false_iff]; exact hc4
                have hno := head_no hin (by rw [marks_no hkl (by unfold markB; rw [hbad]; rfl), Bool.and_false])
                refine TW.seq fun Y20 hY20 => ?_
                refine TW.region ?_
                refine TL.p Pu.as ?_
                refine TL.nil ?_
                refine TQ.thenN (hY20 _ _ ?_)
                refine TW.ret ?_
                refine TQ.thenR ?_
                refine TQ.blkR ?_
                refine TQ.thenR ?_
                refine TQ.thenR ?_
                refine TQ.blkR ?_
                refine TQ.blkR ?_
                refine TQ.thenR ?_
                refine TQ.thenR ?_
                refine TQ.blkR ?_
                refine TQ.thenR ?_
                refine TQ.ret Try.results18 rfl ((.tmp rfl .nil)) ?_
                exact fun w hw => ⟨by rw [hno]; rfl, Chg.ext hw.chg⟩
              · try simp only [decide_eq_true_eq, decide_eq_false_iff_not, Bool.not_eq_true', Bool.not_eq_false', Bool.and_eq_true, Bool.or_eq_true, Bool.and_eq_false_iff, Bool.or_eq_false_iff, Int.not_lt, Int.not_le] at hc4
                have hgood : (inB5 0 7 (H.sp i k) && inB5 1 20 (H.sg i k)) = true := by simpa using hc4
                refine TW.skip ?_
                refine TQ.thenN (hY18 _ _ ?_)
                refine TW.seq fun Y21 hY21 => ?_
                refine TW.region ?_
                refine TL.p Pu.as ?_
                refine TL.nil ?_
                refine TQ.thenN (hY21 _ _ ?_)
                refine TW.block ?_
                refine TW.loop1 (fun (q : Nat) => [(6, .int .i64 (q : Int)), (5, .int .i64 (k : Int)), (4, .pointer (some ⟨b1, 0, none⟩)), (3, .int .i64 (i : Int)), (0, .slice A H.n cp)]) (fun q => [.blk b1 50 (anL H a c i)]) (fun q => q ≤ k ∧ ∀ r, r < q → H.sp i r ≠ H.sp i k) (fun q => k - q) 0 (by repeat (first | exact trivial | refine ⟨rfl, ?_⟩ | refine ⟨trivial, ?_⟩)) ?_ ?_ ?_
                · exact (by repeat (first | exact KSub.nil | refine KSub.cons (by repeat (first | exact Pick.hd | apply Pick.tl)) ?_))
                · exact ⟨Nat.zero_le _, fun j hj => by omega⟩
                rintro q ⟨hq, hs⟩ Z2 hZ2
                refine TW.seq fun Y22 hY22 => ?_
                refine TW.seq fun Y23 hY23 => ?_
                refine TW.region ?_
                refine TL.p Pu.mv ?_
                refine TL.p Pu.mv ?_
                refine TL.p Pu.lt ?_
                refine TL.nil ?_
                refine TQ.thenN (hY23 _ _ ?_)
                refine TW.cond rfl (fun hc5 => ?_) (fun hc5 => ?_)
                · try simp only [decide_eq_true_eq, decide_eq_false_iff_not, Bool.not_eq_true', Bool.not_eq_false', Bool.and_eq_true, Bool.or_eq_true, Bool.and_eq_false_iff, Bool.or_eq_false_iff, Int.not_lt, Int.not_le] at hc5
                  have hqk : q < k := by omega
                  refine TW.skip ?_
                  refine TQ.thenN (hY22 _ _ ?_)
                  refine TW.seq fun Y24 hY24 => ?_
                  refine TW.block ?_
                  refine TW.seq fun Y25 hY25 => ?_
                  refine TW.dw 13 ?_
                  refine RK.tk (by first | exact Pu.fb ty_fa50_3 | exact Pu.fe ty_fa50_3) ?_
                  refine RK.tk (Pu.ld ty_sc48) ?_
                  refine RK.tk Pu.mv ?_
                  refine RK.tk (Pu.el ty_et48) ?_
                  refine RK.tk (by first | exact Pu.fb ty_fa72_0 | exact Pu.fe ty_fa72_0) ?_
                  refine RK.tk (Pu.ld ty_sc3) ?_
                  refine RK.tk (by first | exact Pu.fb ty_fa50_3 | exact Pu.fe ty_fa50_3) ?_
                  refine RK.tk (Pu.ld ty_sc48) ?_
                  refine RK.tk Pu.mv ?_
                  refine RK.tk (Pu.el ty_et48) ?_
                  refine RK.tk (by first | exact Pu.fb ty_fa72_0 | exact Pu.fe ty_fa72_0) ?_
                  refine RK.tk (Pu.ld ty_sc3) ?_
                  refine RK.tk Pu.eq ?_
                  refine RK.ch [] ?_ trivial
                  refine WK.n ?_
                  refine TL.nil ?_
                  refine TQ.thenN (hY25 _ _ ?_)
                  refine TW.cond rfl (fun hc6 => ?_) (fun hc6 => ?_)
                  · try simp only [decide_eq_true_eq, decide_eq_false_iff_not, Bool.not_eq_true', Bool.not_eq_false', Bool.and_eq_true, Bool.or_eq_true, Bool.and_eq_false_iff, Bool.or_eq_false_iff, Int.not_lt, Int.not_le] at hc6
                    have hno := head_no hin (by rw [marks_no hkl (by unfold markB; rw [hgood, Bool.true_and, Bool.eq_false_iff]; intro h; have := allB_iff.1 h q hqk; simp [hc6] at this), Bool.and_false])
                    refine TW.seq fun Y26 hY26 => ?_
                    refine TW.region ?_
                    refine TL.p Pu.as ?_
                    refine TL.nil ?_
                    refine TQ.thenN (hY26 _ _ ?_)
                    refine TW.ret ?_
                    refine TQ.blkR ?_
                    refine TQ.thenR ?_
                    refine TQ.thenR ?_
                    refine TQ.blkR ?_
                    refine TQ.blkR ?_
                    refine TQ.thenR ?_
                    refine TQ.thenR ?_
                    refine TQ.blkR ?_
                    refine TQ.blkR ?_
                    refine TQ.thenR ?_
                    refine TQ.thenR ?_
                    refine TQ.blkR ?_
                    refine TQ.thenR ?_
                    refine TQ.ret Try.results18 rfl ((.tmp rfl .nil)) ?_
                    exact fun w hw => ⟨by rw [hno]; rfl, Chg.ext hw.chg⟩
                  · try simp only [decide_eq_true_eq, decide_eq_false_iff_not, Bool.not_eq_true', Bool.not_eq_false', Bool.and_eq_true, Bool.or_eq_true, Bool.and_eq_false_iff, Bool.or_eq_false_iff, Int.not_lt, Int.not_le] at hc6
                    have hne : H.sp i q ≠ H.sp i k := hc6
                    refine TW.skip ?_
                    refine TQ.blkN ?_
                    refine TQ.thenN (hY24 _ _ ?_)
                    refine TW.region ?_
                    refine TL.p Pu.mv ?_
                    refine TL.p Pu.ad ?_
                    refine TL.p Pu.as ?_
                    refine TL.nil ?_
                    refine TQ.thenN (hZ2 (q + 1) _ _ ?_ ?_ (by repeat (first | exact trivial | refine ⟨rfl, ?_⟩ | refine ⟨trivial, ?_⟩)) ?_)
                    · refine ⟨by omega, fun r hr => ?_⟩
                      by_cases e : r = q
                      · subst e; exact hne
                      · exact hs r (by omega)
                    · exact (by first | omega | (simp only []; omega) | (simp; omega))
                    · exact (by repeat (first | exact KSub.nil | refine KSub.cons (by repeat (first | exact Pick.hd | apply Pick.tl)) ?_))
                · try simp only [decide_eq_true_eq, decide_eq_false_iff_not, Bool.not_eq_true', Bool.not_eq_false', Bool.and_eq_true, Bool.or_eq_true, Bool.and_eq_false_iff, Bool.or_eq_false_iff, Int.not_lt, Int.not_le] at hc5
                  obtain rfl : q = k := by omega
                  refine TW.exit ?_
                  refine TQ.thenX ?_
                  refine TQ.thenX ?_
                  refine TQ.blkX ?_
                  refine TQ.blkN ?_
                  refine TQ.thenN (hY17 _ _ ?_)
                  refine TW.region ?_
                  refine TL.p Pu.mv ?_
                  refine TL.p Pu.ad ?_
                  refine TL.p Pu.as ?_
                  refine TL.nil ?_
                  refine TQ.thenN (hZ1 (q + 1) _ _ ?_ ?_ (by repeat (first | exact trivial | refine ⟨rfl, ?_⟩ | refine ⟨trivial, ?_⟩)) ?_)
                  · refine ⟨by omega, fun r hr => ?_⟩
                    by_cases e : r = q
                    · subst e
                      unfold markB
                      rw [hgood, Bool.true_and, allB_iff]
                      intro j hj
                      simpa using hs j hj
                    · exact hm r (by omega)
                  · exact (by first | omega | (simp only []; omega) | (simp; omega))
                  · exact (by repeat (first | exact KSub.nil | refine KSub.cons (by repeat (first | exact Pick.hd | apply Pick.tl)) ?_))
            refine TW.region ?_
            refine TL.p (by first | exact Pu.fb ty_fa50_3 | exact Pu.fe ty_fa50_3) ?_
            refine TL.p (Pu.ld ty_sc48) ?_
            refine TL.p Pu.mv ?_
            refine TL.p (Pu.el ty_et48) ?_
            refine TL.p (by first | exact Pu.fb ty_fa72_0 | exact Pu.fe ty_fa72_0) ?_
            refine TL.p (Pu.ld ty_sc3) ?_
            refine TL.cr rfl (enters Try.func29 rfl rfl) (fun w hw => by
                exact rWithin_any _ _ _ _) ?_
            refine TL.p Pu.no ?_
            refine TL.p Pu.mv ?_
            refine TL.guard (t := 68) rfl (fun hg1 => ?_) (fun hg1 => ?_)
            · try simp only [decide_eq_true_eq, decide_eq_false_iff_not, Bool.not_eq_true', Bool.not_eq_false', Int.natCast_pos] at hg1
              refine TL.gs ?_
              refine TL.gs ?_
              refine TL.gs ?_
              refine TL.gs ?_
              refine TL.gs ?_
              refine TL.gs ?_
              refine TL.gs ?_
              refine TL.gs ?_
              refine TL.p Pu.kt ?_
              refine TL.nil ?_
              exact TQ.sub (by repeat (first | exact trivial | refine ⟨rfl, ?_⟩ | refine ⟨trivial, ?_⟩ | refine ⟨(by show some (Value.bool _) = some (Value.bool _); simp [hg1]), ?_⟩)) (by repeat (first | exact KSub.nil | refine KSub.cons (by repeat (first | exact Pick.hd | apply Pick.tl)) ?_)) hJ2
            · try simp only [decide_eq_true_eq, decide_eq_false_iff_not, Bool.not_eq_true', Bool.not_eq_false', Int.natCast_pos] at hg1
              refine TL.gd (by first | exact Pu.fb ty_fa50_3 | exact Pu.fe ty_fa50_3) ?_
              refine TL.gd (Pu.ld ty_sc48) ?_
              refine TL.gd Pu.mv ?_
              refine TL.gd (Pu.el ty_et48) ?_
              refine TL.gd (by first | exact Pu.fb ty_fa72_1 | exact Pu.fe ty_fa72_1) ?_
              refine TL.gd (Pu.ld ty_sc3) ?_
              refine TL.cr rfl (enters Try.func29 rfl rfl) (fun w hw => by
                  exact rWithin_any _ _ _ _) ?_
              refine TL.gd Pu.no ?_
              refine TL.p Pu.kf ?_
              refine TL.nil ?_
              exact TQ.sub (by repeat (first | exact trivial | refine ⟨rfl, ?_⟩ | refine ⟨trivial, ?_⟩ | refine ⟨(by show some (Value.bool _) = some (Value.bool _); simp [hg1]), ?_⟩)) (by repeat (first | exact KSub.nil | refine KSub.cons (by repeat (first | exact Pick.hd | apply Pick.tl)) ?_)) hJ2
          · try simp only [decide_eq_true_eq, decide_eq_false_iff_not, Bool.not_eq_true', Bool.not_eq_false', Bool.and_eq_true, Bool.or_eq_true, Bool.and_eq_false_iff, Bool.or_eq_false_iff, Int.not_lt, Int.not_le] at hc3
            obtain rfl : k = H.ml i := by omega
            refine TW.exit ?_
            refine TQ.thenX ?_
            refine TQ.thenX ?_
            refine TQ.blkX ?_
            refine TQ.blkN ?_
            refine TQ.thenN (hY9 _ _ ?_)
            refine TW.region ?_
            refine TL.p Pu.mv ?_
            refine TL.p Pu.ad ?_
            refine TL.p Pu.as ?_
            refine TL.nil ?_
            refine TQ.thenN (hZ0 (i + 1) _ _ ?_ ?_ (by repeat (first | exact trivial | refine ⟨rfl, ?_⟩ | refine ⟨trivial, ?_⟩)) ?_)
            · refine ⟨by omega, fun j hj => ?_⟩
              by_cases e : j = i
              · subst e; rw [hhd, Bool.true_and]; exact allB_iff.2 hm
              · exact h1 j (by omega)
            · exact (by first | omega | (simp only []; omega) | (simp; omega))
            · exact (by repeat (first | exact KSub.nil | refine KSub.cons (by repeat (first | exact Pick.hd | apply Pick.tl)) ?_))
      refine TW.region ?_
      refine TL.p (by first | exact Pu.fb ty_fa50_0 | exact Pu.fe ty_fa50_0) ?_
      refine TL.p (Pu.ld ty_sc3) ?_
      refine TL.cr rfl (enters Try.func29 rfl rfl) (fun w hw => by
          exact rWithin_any _ _ _ _) ?_
      refine TL.p Pu.no ?_
      refine TL.p Pu.mv ?_
      refine TL.guard (t := 27) rfl (fun hg2 => ?_) (fun hg2 => ?_)
      · try simp only [decide_eq_true_eq, decide_eq_false_iff_not, Bool.not_eq_true', Bool.not_eq_false', Int.natCast_pos] at hg2
        refine TL.gs ?_
        refine TL.gs ?_
        refine TL.gs ?_
        refine TL.gs ?_
        refine TL.gs ?_
        refine TL.gs ?_
        refine TL.p Pu.kt ?_
        refine TL.p Pu.mv ?_
        refine TL.gs ?_
        refine TL.gs ?_
        refine TL.gs ?_
        refine TL.gs ?_
        refine TL.gs ?_
        refine TL.gs ?_
        refine TL.gs ?_
        refine TL.gs ?_
        refine TL.gs ?_
        refine TL.gs ?_
        refine TL.p Pu.kt ?_
        refine TL.p Pu.mv ?_
        refine TL.gs ?_
        refine TL.gs ?_
        refine TL.gs ?_
        refine TL.gs ?_
        refine TL.p Pu.kt ?_
        refine TL.nil ?_
        exact TQ.sub (by repeat (first | exact trivial | refine ⟨rfl, ?_⟩ | refine ⟨trivial, ?_⟩ | refine ⟨(by show some (Value.bool _) = some (Value.bool _); simp [hg2, headB, an2B]), ?_⟩)) (by repeat (first | exact KSub.nil | refine KSub.cons (by repeat (first | exact Pick.hd | apply Pick.tl)) ?_)) hJ1
      · try simp only [decide_eq_true_eq, decide_eq_false_iff_not, Bool.not_eq_true', Bool.not_eq_false', Int.natCast_pos] at hg2
        refine TL.gd Pu.mv ?_
        refine TL.gd (by first | exact Pu.fb ty_fa50_0 | exact Pu.fe ty_fa50_0) ?_
        refine TL.gd (Pu.ld ty_sc3) ?_
        refine TL.cr rfl (enters Try.func23 rfl rfl) (fun w hw => by
            exact rAt_any _ hn (hR.sat hw Apart.nil)) ?_
        refine TL.gd Pu.mv ?_
        refine TL.gd Pu.ne ?_
        refine TL.p Pu.kf ?_
        refine TL.p Pu.mv ?_
        refine TL.guard (t := 35) rfl (fun hg3 => ?_) (fun hg3 => ?_)
        · try simp only [decide_eq_true_eq, decide_eq_false_iff_not, Bool.not_eq_true', Bool.not_eq_false', Int.natCast_pos] at hg3
          refine TL.gs ?_
          refine TL.gs ?_
          refine TL.gs ?_
          refine TL.gs ?_
          refine TL.gs ?_
          refine TL.gs ?_
          refine TL.gs ?_
          refine TL.gs ?_
          refine TL.gs ?_
          refine TL.gs ?_
          refine TL.p Pu.kt ?_
          refine TL.p Pu.mv ?_
          refine TL.gs ?_
          refine TL.gs ?_
          refine TL.gs ?_
          refine TL.gs ?_
          refine TL.p Pu.kt ?_
          refine TL.nil ?_
          exact TQ.sub (by repeat (first | exact trivial | refine ⟨rfl, ?_⟩ | refine ⟨trivial, ?_⟩ | refine ⟨(by show some (Value.bool _) = some (Value.bool _); simp [hg2, hg3, headB, an2B]), ?_⟩)) (by repeat (first | exact KSub.nil | refine KSub.cons (by repeat (first | exact Pick.hd | apply Pick.tl)) ?_)) hJ1
        · try simp only [decide_eq_true_eq, decide_eq_false_iff_not, Bool.not_eq_true', Bool.not_eq_false', Int.natCast_pos] at hg3
          refine TL.gd (by first | exact Pu.fb ty_fa50_1 | exact Pu.fe ty_fa50_1) ?_
          refine TL.gd (Pu.ld ty_sc3) ?_
          refine TL.gd Pu.ne ?_
          refine TL.gd Pu.mv ?_
          refine TL.guard (t := 39) rfl (fun hg4 => ?_) (fun hg4 => ?_)
          · try simp only [decide_eq_true_eq, decide_eq_false_iff_not, Bool.not_eq_true', Bool.not_eq_false', Int.natCast_pos] at hg4
            refine TL.gd Pu.mv ?_
            refine TL.gd (by first | exact Pu.fb ty_fa50_1 | exact Pu.fe ty_fa50_1) ?_
            refine TL.gd (Pu.ld ty_sc3) ?_
            refine TL.cr rfl (enters Try.func23 rfl rfl) (fun w hw => by
                exact rAt_any _ hn (hR.sat hw Apart.nil)) ?_
            refine TL.gd Pu.lt ?_
            refine TL.gd Pu.kt ?_
            refine TL.p Pu.kf ?_
            refine TL.p Pu.mv ?_
            refine TL.guard (t := 47) rfl (fun hg5 => ?_) (fun hg5 => ?_)
            · try simp only [decide_eq_true_eq, decide_eq_false_iff_not, Bool.not_eq_true', Bool.not_eq_false', Int.natCast_pos] at hg5
              refine TL.gs ?_
              refine TL.gs ?_
              refine TL.gs ?_
              refine TL.gs ?_
              refine TL.p Pu.kt ?_
              refine TL.nil ?_
              exact TQ.sub (by repeat (first | exact trivial | refine ⟨rfl, ?_⟩ | refine ⟨trivial, ?_⟩ | refine ⟨(by show some (Value.bool _) = some (Value.bool _); simp [hg2, hg3, hg4, hg5, headB, an2B]), ?_⟩)) (by repeat (first | exact KSub.nil | refine KSub.cons (by repeat (first | exact Pick.hd | apply Pick.tl)) ?_)) hJ1
            · try simp only [decide_eq_true_eq, decide_eq_false_iff_not, Bool.not_eq_true', Bool.not_eq_false', Int.natCast_pos] at hg5
              refine TL.gd (by first | exact Pu.fb ty_fa50_2 | exact Pu.fe ty_fa50_2) ?_
              refine TL.gd (Pu.lds ty_ag47) ?_
              refine TL.cr rfl (enters Try.func30 rfl rfl) (fun w hw => by
                  exact rOrdered_any _ _ _ _ _) ?_
              refine TL.gd Pu.no ?_
              refine TL.p Pu.kf ?_
              refine TL.nil ?_
              exact TQ.sub (by repeat (first | exact trivial | refine ⟨rfl, ?_⟩ | refine ⟨trivial, ?_⟩ | refine ⟨(by show some (Value.bool _) = some (Value.bool _); simp [hg2, hg3, hg4, hg5, headB, an2B]), ?_⟩)) (by repeat (first | exact KSub.nil | refine KSub.cons (by repeat (first | exact Pick.hd | apply Pick.tl)) ?_)) hJ1
          · try simp only [decide_eq_true_eq, decide_eq_false_iff_not, Bool.not_eq_true', Bool.not_eq_false', Int.natCast_pos] at hg4
            refine TL.gs ?_
            refine TL.gs ?_
            refine TL.gs ?_
            refine TL.gs ?_
            refine TL.gs ?_
            refine TL.gd Pu.kf ?_
            refine TL.p Pu.kf ?_
            refine TL.p Pu.mv ?_
            refine TL.gd (by first | exact Pu.fb ty_fa50_2 | exact Pu.fe ty_fa50_2) ?_
            refine TL.gd (Pu.lds ty_ag47) ?_
            refine TL.cr rfl (enters Try.func30 rfl rfl) (fun w hw => by
                exact rOrdered_any _ _ _ _ _) ?_
            refine TL.gd Pu.no ?_
            refine TL.p Pu.kf ?_
            refine TL.nil ?_
            exact TQ.sub (by repeat (first | exact trivial | refine ⟨rfl, ?_⟩ | refine ⟨trivial, ?_⟩ | refine ⟨(by show some (Value.bool _) = some (Value.bool _); simp [hg2, hg3, hg4, headB, an2B]), ?_⟩)) (by repeat (first | exact KSub.nil | refine KSub.cons (by repeat (first | exact Pick.hd | apply Pick.tl)) ?_)) hJ1
    · try simp only [decide_eq_true_eq, decide_eq_false_iff_not, Bool.not_eq_true', Bool.not_eq_false', Bool.and_eq_true, Bool.or_eq_true, Bool.and_eq_false_iff, Bool.or_eq_false_iff, Int.not_lt, Int.not_le] at hc1
      obtain rfl : i = H.n := by omega
      have h2 : ∀ j, j < H.n → an1B H j = true ∧ an2B H j = true := fun j hj => by
        have := h1 j hj
        rw [← an_head, Bool.and_eq_true] at this
        exact this
      refine TW.exit ?_
      refine TQ.thenX ?_
      refine TQ.thenX ?_
      refine TQ.blkX ?_
      refine TQ.thenN (hY5 _ _ ?_)
      refine TW.seq fun Y27 hY27 => ?_
      refine TW.seq fun Y28 hY28 => ?_
      refine TW.region ?_
      refine TL.p Pu.as ?_
      refine TL.nil ?_
      refine TQ.thenN (hY28 _ _ ?_)
      refine TW.block ?_
      refine TW.loop1 (fun (i : Nat) => [(7, .int .i64 (i : Int)), (0, .slice A H.n cp)]) (fun i => []) (fun i => i ≤ H.n ∧ ∀ j, j < i → endB H j = true) (fun i => H.n - i) 0 (by repeat (first | exact trivial | refine ⟨rfl, ?_⟩ | refine ⟨trivial, ?_⟩)) ?_ ?_ ?_
      · exact (by repeat (first | exact KSub.nil | refine KSub.cons (by repeat (first | exact Pick.hd | apply Pick.tl)) ?_))
      · exact ⟨Nat.zero_le _, fun j hj => by omega⟩
      rintro i ⟨hi, h3⟩ Z3 hZ3
      refine TW.seq fun Y29 hY29 => ?_
      refine TW.seq fun Y30 hY30 => ?_
      refine TW.region ?_
      refine TL.p Pu.mv ?_
      refine TL.p Pu.mv ?_
      refine TL.p (Pu.ln Try.underlying22) ?_
      refine TL.p Pu.lt ?_
      refine TL.nil ?_
      refine TQ.thenN (hY30 _ _ ?_)
      refine TW.cond rfl (fun hc7 => ?_) (fun hc7 => ?_)
      · try simp only [decide_eq_true_eq, decide_eq_false_iff_not, Bool.not_eq_true', Bool.not_eq_false', Bool.and_eq_true, Bool.or_eq_true, Bool.and_eq_false_iff, Bool.or_eq_false_iff, Int.not_lt, Int.not_le] at hc7
        have hin : i < H.n := by omega
        refine TW.skip ?_
        refine TQ.thenN (hY29 _ _ ?_)
        refine TW.seq fun Y31 hY31 => ?_
        refine TW.block ?_
        refine TW.seq fun Y32 hY32 => ?_
        refine TW.region ?_
        refine TL.p Pu.mv ?_
        refine TL.p Pu.as ?_
        refine TL.p Pu.as ?_
        refine TL.nil ?_
        refine TQ.thenN (hY32 _ _ ?_)
        refine TW.block ?_
        refine TW.loop1 (fun (s : Nat) => [(8, .int .i64 (upH (moH H) i s)), (9, .int .i64 (s : Int)), (7, .int .i64 (i : Int)), (0, .slice A H.n cp)]) (fun s => []) (fun s => s ≤ H.n ∧ 0 ≤ upH (moH H) i s) (fun s => H.n + 1 - s) 0 (by repeat (first | exact trivial | refine ⟨rfl, ?_⟩ | refine ⟨trivial, ?_⟩)) ?_ ?_ ?_
        · exact (by repeat (first | exact KSub.nil | refine KSub.cons (by repeat (first | exact Pick.hd | apply Pick.tl)) ?_))
        · exact ⟨Nat.zero_le _, by simp [upH]⟩
        rintro s ⟨hs, hup⟩ Z4 hZ4
        have hub := upH_bd (moH_Mo (H := H)) hin s
        have hmo : moH H (upH (moH H) i s).toNat = upH (moH H) i (s + 1) := (if_neg (by omega)).symm
        refine TW.seq fun Y33 hY33 => ?_
        refine TW.seq fun Y34 hY34 => ?_
        refine TW.region ?_
        refine TL.p Pu.mv ?_
        refine TL.p Pu.mv ?_
        refine TL.p (Pu.el (q := (upH (moH H) i s).toNat) ty_et22 (hk := rfl)) ?_
        refine TL.p (by first | exact Pu.fb ty_fa50_1 | exact Pu.fe ty_fa50_1) ?_
        refine TL.p (Pu.ld ty_sc3) ?_
        refine TL.p Pu.ne ?_
        refine TL.nil ?_
        refine TQ.thenN (hY34 _ _ ?_)
        refine TW.cond rfl (fun hc8 => ?_) (fun hc8 => ?_)
        · try simp only [decide_eq_true_eq, decide_eq_false_iff_not, Bool.not_eq_true', Bool.not_eq_false', Bool.and_eq_true, Bool.or_eq_true, Bool.and_eq_false_iff, Bool.or_eq_false_iff, Int.not_lt, Int.not_le] at hc8
          have hm1 : H.mo (upH (moH H) i s).toNat ≠ -1 := hc8
          have hat : atH H (H.mo (upH (moH H) i s).toNat) = upH (moH H) i (s + 1) := by rw [← hmo]; exact (if_neg hm1).symm
          have hge : 0 ≤ upH (moH H) i (s + 1) := by
            rw [← hat]
            have := (h2 (upH (moH H) i s).toNat (by omega)).2
            unfold an2B at this
            simp only [Bool.or_eq_true, decide_eq_true_eq] at this
            rcases this with h | h
            · exact absurd h hm1
            · exact h
          refine TW.skip ?_
          refine TQ.thenN (hY33 _ _ ?_)
          refine TW.block ?_
          refine TW.seq fun Y35 hY35 => ?_
          refine TW.region ?_
          refine TL.p Pu.mv ?_
          refine TL.p Pu.mv ?_
          refine TL.p Pu.mv ?_
          refine TL.p (Pu.el (q := (upH (moH H) i s).toNat) ty_et22 (hk := rfl)) ?_
          refine TL.p (by first | exact Pu.fb ty_fa50_1 | exact Pu.fe ty_fa50_1) ?_
          refine TL.p (Pu.ld ty_sc3) ?_
          refine TL.cr rfl (enters Try.func23 rfl rfl) (fun w hw => by
              exact rAt_any _ hn (hR.sat hw Apart.nil)) ?_
          refine TL.p Pu.as ?_
          refine TL.nil ?_
          refine TQ.thenN (hY35 _ _ ?_)
          refine TW.seq fun Y36 hY36 => ?_
          refine TW.region ?_
          refine TL.p Pu.mv ?_
          refine TL.p Pu.ad ?_
          refine TL.p Pu.as ?_
          refine TL.nil ?_
          refine TQ.thenN (hY36 _ _ ?_)
          refine TW.seq fun Y37 hY37 => ?_
          refine TW.region ?_
          refine TL.p Pu.mv ?_
          refine TL.p Pu.mv ?_
          refine TL.p (Pu.ln Try.underlying22) ?_
          refine TL.p Pu.gt ?_
          refine TL.nil ?_
          refine TQ.thenN (hY37 _ _ ?_)
          refine TW.cond rfl (fun hc9 => ?_) (fun hc9 => ?_)
          · try simp only [decide_eq_true_eq, decide_eq_false_iff_not, Bool.not_eq_true', Bool.not_eq_false', Bool.and_eq_true, Bool.or_eq_true, Bool.and_eq_false_iff, Bool.or_eq_false_iff, Int.not_lt, Int.not_le] at hc9
            have hno := herd_no3 hin (by
              unfold endB
              refine decide_eq_false fun h => ?_
              have := upH_mono h (show H.n ≤ s + 1 by omega)
              omega)
            refine TW.seq fun Y38 hY38 => ?_
            refine TW.region ?_
            refine TL.p Pu.as ?_
            refine TL.nil ?_
            refine TQ.thenN (hY38 _ _ ?_)
            refine TW.ret ?_
            refine TQ.blkR ?_
            refine TQ.thenR ?_
            refine TQ.blkR ?_
            refine TQ.blkR ?_
            refine TQ.thenR ?_
            refine TQ.thenR ?_
            refine TQ.blkR ?_
            refine TQ.thenR ?_
            refine TQ.ret Try.results18 rfl ((.tmp rfl .nil)) ?_
            exact fun w hw => ⟨by rw [hno]; rfl, Chg.ext hw.chg⟩
          · try simp only [decide_eq_true_eq, decide_eq_false_iff_not, Bool.not_eq_true', Bool.not_eq_false', Bool.and_eq_true, Bool.or_eq_true, Bool.and_eq_false_iff, Bool.or_eq_false_iff, Int.not_lt, Int.not_le] at hc9
            refine TW.skip ?_
            refine TQ.blkN ?_
            refine TQ.thenN (hZ4 (s + 1) _ _ ?_ ?_ ⟨(by rw [hat]; rfl), rfl, rfl, rfl, trivial⟩ ?_)
            · exact ⟨by omega, hge⟩
            · exact (by first | omega | (simp only []; omega) | (simp; omega))
            · exact (by repeat (first | exact KSub.nil | refine KSub.cons (by repeat (first | exact Pick.hd | apply Pick.tl)) ?_))
        · try simp only [decide_eq_true_eq, decide_eq_false_iff_not, Bool.not_eq_true', Bool.not_eq_false', Bool.and_eq_true, Bool.or_eq_true, Bool.and_eq_false_iff, Bool.or_eq_false_iff, Int.not_lt, Int.not_le] at hc8
          have hm1 : H.mo (upH (moH H) i s).toNat = -1 := hc8
          have hlt : upH (moH H) i (s + 1) < 0 := by rw [← hmo, show moH H (upH (moH H) i s).toNat = -1 from if_pos hm1]; omega
          have hend : endB H i = true := by
            unfold endB
            exact decide_eq_true ((upH_ends moH_Mo hin).1 (upH_mono hlt (by omega)))
          refine TW.exit ?_
          refine TQ.thenX ?_
          refine TQ.thenX ?_
          refine TQ.blkX ?_
          refine TQ.blkN ?_
          refine TQ.thenN (hY31 _ _ ?_)
          refine TW.region ?_
          refine TL.p Pu.mv ?_
          refine TL.p Pu.ad ?_
          refine TL.p Pu.as ?_
          refine TL.nil ?_
          refine TQ.thenN (hZ3 (i + 1) _ _ ?_ ?_ (by repeat (first | exact trivial | refine ⟨rfl, ?_⟩ | refine ⟨trivial, ?_⟩)) ?_)
          · refine ⟨by omega, fun j hj => ?_⟩
            by_cases e : j = i
            · subst e; exact hend
            · exact h3 j (by omega)
          · exact (by first | omega | (simp only []; omega) | (simp; omega))
          · exact (by repeat (first | exact KSub.nil | refine KSub.cons (by repeat (first | exact Pick.hd | apply Pick.tl)) ?_))
      · try simp only [decide_eq_true_eq, decide_eq_false_iff_not, Bool.not_eq_true', Bool.not_eq_false', Bool.and_eq_true, Bool.or_eq_true, Bool.and_eq_false_iff, Bool.or_eq_false_iff, Int.not_lt, Int.not_le] at hc7
        obtain rfl : i = H.n := by omega
        refine TW.exit ?_
        refine TQ.thenX ?_
        refine TQ.thenX ?_
        refine TQ.blkX ?_
        refine TQ.thenN (hY27 _ _ ?_)
        refine TW.seq fun Y39 hY39 => ?_
        refine TW.region ?_
        refine TL.p Pu.as ?_
        refine TL.nil ?_
        refine TQ.thenN (hY39 _ _ ?_)
        refine TW.ret ?_
        refine TQ.ret Try.results18 rfl ((.tmp rfl .nil)) ?_
        have hyes := herd_yes h16 (fun j hj => (h2 j hj).1) (fun j hj => (h2 j hj).2) h3
        exact fun w hw => ⟨by rw [hyes]; rfl, Chg.ext hw.chg⟩
theorem rCheck_any {w : World} {A : Option Addr} {cp : Nat} {H : Hd} {a : Nat → Option Addr} {c : Nat → Nat} (hI : HIn w A H a c) :
    Calls Try.prog 13 #[.slice A H.n cp] w (Ret w (.int .i64 (if herdB H then 0 else 20))) := by
  refine K_enter (S := []) (K := []) Try.func13 rfl Try.ntmps13 rfl (Sat.start _) ?_
  refine TW.seq fun Y1 hY1 => ?_
  refine TW.region ?_
  refine TL.p Pu.as ?_
  refine TL.nil ?_
  refine TQ.thenN (hY1 _ _ ?_)
  refine TW.seq fun Y2 hY2 => ?_
  refine TW.seq fun Y3 hY3 => ?_
  refine TW.region ?_
  refine TL.p Pu.mv ?_
  refine TL.cr rfl (enters Try.func18 rfl rfl) (fun w hw => by
      exact rHerd_any (hI.sat hw)) ?_
  refine TL.p Pu.no ?_
  refine TL.nil ?_
  refine TQ.thenN (hY3 _ _ ?_)
  refine TW.cond rfl (fun hc0 => ?_) (fun hc0 => ?_)
  · try simp only [decide_eq_true_eq, decide_eq_false_iff_not, Bool.not_eq_true', Bool.not_eq_false', Bool.and_eq_true, Bool.or_eq_true, Bool.and_eq_false_iff, Bool.or_eq_false_iff, Int.not_lt, Int.not_le] at hc0
    have hh : herdB H = false := hc0
    refine TW.seq fun Y4 hY4 => ?_
    refine TW.region ?_
    refine TL.p Pu.as ?_
    refine TL.nil ?_
    refine TQ.thenN (hY4 _ _ ?_)
    refine TW.ret ?_
    refine TQ.thenR ?_
    refine TQ.ret Try.results13 rfl ((.tmp rfl .nil)) ?_
    exact fun w hw => ⟨by rw [hh]; rfl, Chg.ext hw.chg⟩
  · try simp only [decide_eq_true_eq, decide_eq_false_iff_not, Bool.not_eq_true', Bool.not_eq_false', Bool.and_eq_true, Bool.or_eq_true, Bool.and_eq_false_iff, Bool.or_eq_false_iff, Int.not_lt, Int.not_le] at hc0
    have hh : herdB H = true := hc0
    refine TW.skip ?_
    refine TQ.thenN (hY2 _ _ ?_)
    refine TW.seq fun Y5 hY5 => ?_
    refine TW.region ?_
    refine TL.p Pu.as ?_
    refine TL.nil ?_
    refine TQ.thenN (hY5 _ _ ?_)
    refine TW.ret ?_
    refine TQ.ret Try.results13 rfl ((.tmp rfl .nil)) ?_
    exact fun w hw => ⟨by rw [hh]; rfl, Chg.ext hw.chg⟩
end Go.Proofs.Ytlphecckplndnaa
namespace Go.Proofs.Ytlphecckplndnaa
set_option linter.all false
set_option linter.unusedVariables false
set_option linter.unusedSimpArgs false
open Go.RowKit
theorem ne2_span (w : World) (x y : Operand) (i j m n : Int) : (do eqGuard .neq 47 x y (.agg #[.int .i64 i, .int .i64 j]) (.agg #[.int .i64 m, .int .i64 n]); binOp .neq 47 (.agg #[.int .i64 i, .int .i64 j]) (.agg #[.int .i64 m, .int .i64 n]) : Sem Value).run Try.prog w = .ok (.bool (!(decide (i = m) && decide (j = n)))) w := by
  by_cases h1 : i = m
  · by_cases h2 : j = n
    · subst h1 h2; go_simp
    · subst h1; go_simp
  · by_cases h2 : j = n
    · subst h2; go_simp
    · go_simp
theorem ne2_is {i j m n : Int} {b : Bool} (h : (!(decide (i = m) && decide (j = n))) = b) (w : World) (x y : Operand) : (do eqGuard .neq 47 x y (.agg #[.int .i64 i, .int .i64 j]) (.agg #[.int .i64 m, .int .i64 n]); binOp .neq 47 (.agg #[.int .i64 i, .int .i64 j]) (.agg #[.int .i64 m, .int .i64 n]) : Sem Value).run Try.prog w = .ok (.bool b) w := by
  subst h; exact ne2_span w x y i j m n
set_option maxRecDepth 100000 in
theorem rBorn_any {w : World} {H : Hd} {A : Option Addr} {cp : Nat} {a : Nat → Option Addr} {c : Nat → Nat} (hI : HIn w A H a c) :
    CallsK Try.prog 20 #[.slice A H.n cp] [] w (Option Addr × Nat) (fun y => .slice y.1 H.n y.2) (fun y => [.own y.1 H.n y.2 47 2 (fun j => spL (bornH H j).1 (bornH H j).2)]) := by
  have hn := hI.hn
  have hR := hI.hR
  refine K_enter (S := []) (K := []) Try.func20 rfl Try.ntmps20 rfl (Sat.start _) ?_
  refine TW.seq fun Y1 hY1 => ?_
  refine TW.region ?_
  refine TL.p Pu.as ?_
  refine TL.nil ?_
  refine TQ.thenN (hY1 _ _ ?_)
  refine TW.seq fun Y2 hY2 => ?_
  refine TW.region ?_
  refine TL.p Pu.as ?_
  refine TL.nil ?_
  refine TQ.thenN (hY2 _ _ ?_)
  refine TW.seq fun Y3 hY3 => ?_
  refine TW.seq fun Y4 hY4 => ?_
  refine TW.region ?_
  refine TL.p Pu.as ?_
  refine TL.nil ?_
  refine TQ.thenN (hY4 _ _ ?_)
  refine TW.block ?_
  refine TW.loop3 (fun (i : Nat) (B : Option Addr) (cb : Nat) => [(4, .int .i64 (i : Int)), (0, .slice A H.n cp), (3, .slice B i cb)]) (fun i B cb => [.own B i cb 47 2 (fun j => spL (bornH H j).1 (bornH H j).2)]) (fun i B cb => i ≤ H.n) (fun i B cb => H.n - i) 0 none 0 (by repeat (first | exact trivial | refine ⟨rfl, ?_⟩ | refine ⟨trivial, ?_⟩)) ?_ ?_ ?_
  · exact KSub.nilOwn KSub.nil
  · exact Nat.zero_le _
  rintro i B cb hi Z0 hZ0
  refine TW.seq fun Y5 hY5 => ?_
  refine TW.seq fun Y6 hY6 => ?_
  refine TW.region ?_
  refine TL.p Pu.mv ?_
  refine TL.p Pu.mv ?_
  refine TL.p (Pu.ln Try.underlying22) ?_
  refine TL.p Pu.lt ?_
  refine TL.nil ?_
  refine TQ.thenN (hY6 _ _ ?_)
  refine TW.cond rfl (fun hc0 => ?_) (fun hc0 => ?_)
  · try simp only [decide_eq_true_eq, decide_eq_false_iff_not, Bool.not_eq_true', Bool.not_eq_false', Bool.and_eq_true, Bool.or_eq_true, Bool.and_eq_false_iff, Bool.or_eq_false_iff, Int.not_lt, Int.not_le] at hc0
    have hin : i < H.n := by omega
    refine TW.skip ?_
    refine TQ.thenN (hY5 _ _ ?_)
    refine TW.seq fun Y7 hY7 => ?_
    refine TW.block ?_
    refine TW.region ?_
    refine TL.p Pu.mv ?_
    refine TL.p Pu.mv ?_
    refine TL.p Pu.mv ?_
    refine TL.p (Pu.el ty_et22) ?_
    refine TL.p (by first | exact Pu.fb ty_fa50_2 | exact Pu.fe ty_fa50_2) ?_
    refine TL.p (Pu.lds ty_ag47) ?_
    refine TL.m Mk.bl ?_
    intro b1
    first | refine TL.a0 ty_et25 ?_ | refine TL.ap ty_et25 ?_
    intro A2 c2
    refine TL.p Pu.as ?_
    refine TL.nil ?_
    refine TQ.blkN ?_
    refine TQ.thenN (hY7 _ _ ?_)
    refine TW.region ?_
    refine TL.p Pu.mv ?_
    refine TL.p Pu.ad ?_
    refine TL.p Pu.as ?_
    refine TL.nil ?_
    refine TQ.thenN (hZ0 (i + 1) A2 c2 _ _ ?_ ?_ (by repeat (first | exact trivial | refine ⟨rfl, ?_⟩ | refine ⟨trivial, ?_⟩)) ?_)
    · exact (by omega)
    · exact (by first | omega | (simp only []; omega) | (simp; omega))
    · exact KSub.own (by repeat (first | exact Pick.hd | apply Pick.tl)) (fun j hj => by exact cat_rows (r := fun j => spL (bornH H j).1 (bornH H j).2) rfl hj) KSub.nil
  · try simp only [decide_eq_true_eq, decide_eq_false_iff_not, Bool.not_eq_true', Bool.not_eq_false', Bool.and_eq_true, Bool.or_eq_true, Bool.and_eq_false_iff, Bool.or_eq_false_iff, Int.not_lt, Int.not_le] at hc0
    obtain rfl : i = H.n := by omega
    refine TW.exit ?_
    refine TQ.thenX ?_
    refine TQ.thenX ?_
    refine TQ.blkX ?_
    refine TQ.thenN (hY3 _ _ ?_)
    refine TW.seq fun Y8 hY8 => ?_
    refine TW.region ?_
    refine TL.p Pu.mv ?_
    refine TL.p Pu.as ?_
    refine TL.nil ?_
    refine TQ.thenN (hY8 _ _ ?_)
    refine TW.ret ?_
    refine TQ.ret Try.results20 rfl ((.tmp rfl .nil)) ?_
    exact fun w hw => ⟨(B, cb), rfl, hw⟩
structure NrP (f : Nat → Int) (n B : Nat) (S O : BSt) : Prop where
  top : ∀ C, Con f n C → SubS n C S → SubS n C O
  sub : SubS n O S
  bd : BdS n B O
def NrE (f : Nat → Int) (O : BSt) (j : Nat) : Prop := (O j).1 ≤ (O j).2 ∧ (0 ≤ f j → (O (f j).toNat).1 + 1400 ≤ (O j).1 ∧ (O j).2 ≤ (O (f j).toNat).2 + 10000 ∧ (O j).1 - 10000 ≤ (O (f j).toNat).1 ∧ (O (f j).toNat).2 ≤ (O j).2 - 1400)
theorem nr_empty {f : Nat → Int} {n B i : Nat} {S O : BSt} (hf : Mo f n) (ha : Acyc f n) (h : NrP f n B S O) (hi : i < n) (he : (O i).2 < (O i).1) : bthOk f n S = false := by
  rw [Bool.eq_false_iff]
  intro hb
  have hw := bth_w (S := S) hf ha
  have h1 := h.top _ hw.con hw.sub i hi
  have h2 := bthOk_iff.1 hb i hi
  omega
theorem nr_done {f : Nat → Int} {n B : Nat} {S O : BSt} (hf : Mo f n) (ha : Acyc f n) (h : NrP f n B S O) (he : ∀ j, j < n → NrE f O j) : (∀ i, i < n → O i = bth f n S i) ∧ bthOk f n S = true := by
  have hw : Wid f n S O := ⟨fun i hi h0 => (he i hi).2 h0, h.sub, h.top⟩
  have e := bth_eq hf ha hw
  exact ⟨e, bthOk_iff.2 fun i hi => by rw [← e i hi]; exact (he i hi).1⟩
theorem nr_next {f : Nat → Int} {n B i : Nat} {S O : BSt} (hf : Mo f n) (h : NrP f n B S O) (hi : i < n) (h0 : 0 ≤ f i) (him : i ≠ (f i).toNat) (hA : (nrA O i (f i).toNat).1 ≤ (nrA O i (f i).toNat).2) (hB : (nrB O i (f i).toNat).1 ≤ (nrB O i (f i).toNat).2) : NrP f n B S (nrS O i (f i).toNat) := by
  have hm : (f i).toNat < n := by have := hf i hi; omega
  refine ⟨fun C hc hs => nr_top hf hc hi h0 (h.top C hc hs), nr_sub.trans h.sub, fun j hj => ?_⟩
  have h1 := h.bd j hj
  have h2 := nr_sub (n := n) (S := O) (i := i) (m := (f i).toNat) j hj
  have h3 : (nrS O i (f i).toNat j).1 ≤ (nrS O i (f i).toNat j).2 ∨ (nrS O i (f i).toNat j) = O j := by
    unfold nrS
    by_cases e : j = (f i).toNat
    · rw [e, putS1_at]; exact .inl hB
    · rw [putS1_ne e]
      by_cases e2 : j = i
      · rw [e2, putS1_at]; exact .inl hA
      · rw [putS1_ne e2]; exact .inr rfl
  rcases h3 with h3 | h3
  · omega
  · rw [h3]; exact h1
theorem nr_empty2 {f : Nat → Int} {n B i m : Nat} {S O : BSt} (hf : Mo f n) (ha : Acyc f n) (h : NrP f n B S O) (hi : i < n) (h0 : 0 ≤ f i) (hm : m = (f i).toNat) (hmn : m < n) (him : i ≠ m) (he : (nrA O i m).2 < (nrA O i m).1 ∨ (nrB O i m).2 < (nrB O i m).1) : bthOk f n S = false := by
  rw [Bool.eq_false_iff]
  intro hb
  subst hm
  have hw := bth_w (S := S) hf ha
  have h1 := nr_top hf hw.con hi h0 (h.top _ hw.con hw.sub)
  have ei : nrS O i (f i).toNat i = nrA O i (f i).toNat := by unfold nrS; rw [putS1_ne him, putS1_at]
  have em : nrS O i (f i).toNat (f i).toNat = nrB O i (f i).toNat := putS1_at
  rcases he with he | he
  · have h2 := h1 i hi
    rw [ei] at h2
    have h3 := bthOk_iff.1 hb i hi
    omega
  · have h2 := h1 _ hmn
    rw [em] at h2
    have h3 := bthOk_iff.1 hb _ hmn
    omega
theorem nr_step {f : Nat → Int} {n B i m : Nat} {S O O2 : BSt} {ch2 ch9 : Bool} (hf : Mo f n) (h : NrP f n B S O2) (hi : i < n) (h0 : 0 ≤ f i) (hm : m = (f i).toNat) (hmn : m < n) (him : i ≠ m) (hne : (O2 i).1 ≤ (O2 i).2) (hA : (nrA O2 i m).1 ≤ (nrA O2 i m).2) (hB : (nrB O2 i m).1 ≤ (nrB O2 i m).2)
    (hD : (ch2 = false ∧ O2 = O ∧ ∀ j, j < i → NrE f O2 j) ∨ (ch2 = true ∧ wid O2 n < wid O n)) (hc : (ch9 = true ∧ (nrA O2 i m ≠ O2 i ∨ nrB O2 i m ≠ O2 m)) ∨ (ch9 = ch2 ∧ nrA O2 i m = O2 i ∧ nrB O2 i m = O2 m)) :
    NrP f n B S (nrS O2 i m) ∧ ((ch9 = false ∧ nrS O2 i m = O ∧ ∀ j, j < i + 1 → NrE f (nrS O2 i m) j) ∨ (ch9 = true ∧ wid (nrS O2 i m) n < wid O n)) := by
  subst hm
  refine ⟨nr_next hf h hi h0 him hA hB, ?_⟩
  rcases hc with ⟨e, hx⟩ | ⟨e, e1, e2⟩
  · have hw := nr_wid hi hmn him hA hB hx
    refine .inr ⟨e, ?_⟩
    rcases hD with ⟨_, e3, _⟩ | ⟨_, h3⟩
    · rw [e3] at hw ⊢; exact hw
    · omega
  · obtain ⟨h5, h6⟩ := nr_same e1 e2
    rw [h6]
    rcases hD with ⟨h1, h2, h3⟩ | ⟨h1, h2⟩
    · refine .inl ⟨e.trans h1, h2, fun j hj => ?_⟩
      by_cases ej : j = i
      · subst ej; exact ⟨hne, fun _ => h5⟩
      · exact h3 j (by omega)
    · exact .inr ⟨e.trans h1, h2⟩
inductive Hid1 (p : Prop) : Prop
  | mk : p → Hid1 p
theorem hid1 {p : Prop} (h : p) : Hid1 p := ⟨h⟩
theorem Hid1.out {p : Prop} : Hid1 p → p
  | ⟨h⟩ => h
set_option maxRecDepth 100000 in
set_option maxHeartbeats 4000000 in
theorem rbirths_any {w : World} {H : Hd} {A : Option Addr} {cp : Nat} {a : Nat → Option Addr} {c : Nat → Nat} {Ao : Option Addr} {co B : Nat} {S : BSt} (hk : HOk H) (hI : HIn w A H a c) (hRS : RdR w 2 Ao H.n (fun j => spL (S j).1 (S j).2)) (hS : BdS H.n B S) (hB : B ≤ 1000000) :
    CallsK Try.prog 19 #[.slice A H.n cp, .slice Ao H.n co] [] w (Option Addr × Nat) (fun y => .tuple #[.slice y.1 (if bthOk (moH H) H.n S then H.n else 0) y.2, .bool (bthOk (moH H) H.n S)]) (fun y => [.own y.1 (if bthOk (moH H) H.n S then H.n else 0) y.2 47 2 (fun j => spL (bth (moH H) H.n S j).1 (bth (moH H) H.n S j).2)]) := by
  have h16 := hk.n16
  have hn := hI.hn
  have hR := hI.hR
  have hMo := moH_Mo (H := H)
  refine K_enter (S := []) (K := []) Try.func19 rfl Try.ntmps19 rfl (Sat.start _) ?_
  refine TW.seq fun Y1 hY1 => ?_
  refine TW.region ?_
  refine TL.p Pu.as ?_
  refine TL.p Pu.as ?_
  refine TL.nil ?_
  refine TQ.thenN (hY1 _ _ ?_)
  refine TW.seq fun Y2 hY2 => ?_
  refine TW.region ?_
  refine TL.m Mk.bl ?_
  intro b1
  refine TL.p Pu.mv ?_
  refine TL.subK (KSub.ofBlk (n := 0) (sz := 2) (r := fun _ => []) Pick.hd rfl (fun _ h => by omega) rfl rfl KSub.nil) ?_
  first | refine TL.a0 ty_et25 ?_ | refine TL.ap ty_et25 ?_
  intro A2 c2
  refine TL.p Pu.as ?_
  refine TL.nil ?_
  refine TQ.thenN (hY2 _ _ ?_)
  refine TW.seq fun Y3 hY3 => ?_
  refine TW.seq fun Y4 hY4 => ?_
  refine TW.region ?_
  refine TL.p Pu.as ?_
  refine TL.nil ?_
  refine TQ.thenN (hY4 _ _ ?_)
  refine TW.block ?_
  refine TW.loop2 (fun (O : BSt) (ch : Bool) => [(7, .bool ch), (6, .slice A2 H.n c2), (0, .slice A H.n cp)]) (fun O ch => [.own A2 H.n c2 47 2 (fun j => spL (O j).1 (O j).2)]) (fun O ch => NrP (moH H) H.n B S O ∧ (ch = false → ∀ j, j < H.n → NrE (moH H) O j)) (fun O ch => wid O H.n + (if ch = true then 1 else 0)) S true (by repeat (first | exact trivial | refine ⟨rfl, ?_⟩ | refine ⟨trivial, ?_⟩)) ?_ ?_ ?_
  · exact KSub.cons (by repeat (first | exact Pick.hd | apply Pick.tl)) KSub.nil
  · exact ⟨⟨fun C _ h => h, SubS.refl, hS⟩, fun h => by cases h⟩
  rintro O ch ⟨hP, hE⟩ Z0 hZ0
  refine TW.seq fun Y5 hY5 => ?_
  refine TW.seq fun Y6 hY6 => ?_
  refine TW.region ?_
  refine TL.p Pu.mv ?_
  refine TL.nil ?_
  refine TQ.thenN (hY6 _ _ ?_)
  refine TW.cond rfl (fun hc0 => ?_) (fun hc0 => ?_)
  · try simp only [decide_eq_true_eq, decide_eq_false_iff_not, Bool.not_eq_true', Bool.not_eq_false', Bool.and_eq_true, Bool.or_eq_true, Bool.and_eq_false_iff, Bool.or_eq_false_iff, Int.not_lt, Int.not_le] at hc0
    subst hc0
    refine TW.skip ?_
    refine TQ.thenN (hY5 _ _ ?_)
    refine TW.block ?_
    refine TW.seq fun Y7 hY7 => ?_
    refine TW.region ?_
    refine TL.p Pu.as ?_
    refine TL.nil ?_
    refine TQ.thenN (hY7 _ _ ?_)
    refine TW.seq fun Y8 hY8 => ?_
    refine TW.region ?_
    refine TL.p Pu.as ?_
    refine TL.nil ?_
    refine TQ.thenN (hY8 _ _ ?_)
    refine TW.block ?_
    refine TW.loop3 (fun (i : Nat) (O2 : BSt) (ch2 : Bool) => [(8, .int .i64 (i : Int)), (7, .bool ch2), (6, .slice A2 H.n c2), (0, .slice A H.n cp)]) (fun i O2 ch2 => [.own A2 H.n c2 47 2 (fun j => spL (O2 j).1 (O2 j).2)]) (fun i O2 ch2 => i ≤ H.n ∧ NrP (moH H) H.n B S O2 ∧ ((ch2 = false ∧ O2 = O ∧ ∀ j, j < i → NrE (moH H) O2 j) ∨ (ch2 = true ∧ wid O2 H.n < wid O H.n))) (fun i O2 ch2 => H.n - i) 0 O false (by repeat (first | exact trivial | refine ⟨rfl, ?_⟩ | refine ⟨trivial, ?_⟩)) ?_ ?_ ?_
    · exact (by repeat (first | exact KSub.nil | refine KSub.cons (by repeat (first | exact Pick.hd | apply Pick.tl)) ?_))
    · exact ⟨Nat.zero_le _, hP, .inl ⟨rfl, rfl, fun j hj => by omega⟩⟩
    rintro i O2 ch2 ⟨hi, hP2, hD⟩ Z1 hZ1
    refine TW.seq fun Y9 hY9 => ?_
    refine TW.seq fun Y10 hY10 => ?_
    refine TW.region ?_
    refine TL.p Pu.mv ?_
    refine TL.p Pu.mv ?_
    refine TL.p (Pu.ln Try.underlying22) ?_
    refine TL.p Pu.lt ?_
    refine TL.nil ?_
    refine TQ.thenN (hY10 _ _ ?_)
    refine TW.cond rfl (fun hc1 => ?_) (fun hc1 => ?_)
    · try simp only [decide_eq_true_eq, decide_eq_false_iff_not, Bool.not_eq_true', Bool.not_eq_false', Bool.and_eq_true, Bool.or_eq_true, Bool.and_eq_false_iff, Bool.or_eq_false_iff, Int.not_lt, Int.not_le] at hc1
      have hin : i < H.n := by omega
      have hbi := hP2.bd i hin
      refine TW.skip ?_
      refine TQ.thenN (hY9 _ _ ?_)
      refine TW.seq fun Y11 hY11 => ?_
      refine TW.block ?_
      refine TW.seq fun Y12 hY12 => ?_
      refine TW.seq fun Y13 hY13 => ?_
      refine TW.dw 11 ?_
      refine RK.tk Pu.mv ?_
      refine RK.tk Pu.mv ?_
      refine RK.tk (Pu.el ty_et25) ?_
      refine RK.tk (by first | exact Pu.fb ty_fa47_0 | exact Pu.fe ty_fa47_0) ?_
      refine RK.tk (Pu.ld ty_sc3) ?_
      refine RK.tk Pu.mv ?_
      refine RK.tk Pu.mv ?_
      refine RK.tk (Pu.el ty_et25) ?_
      refine RK.tk (by first | exact Pu.fb ty_fa47_1 | exact Pu.fe ty_fa47_1) ?_
      refine RK.tk (Pu.ld ty_sc3) ?_
      refine RK.tk Pu.gt ?_
      refine RK.ch [] ?_ trivial
      refine WK.n ?_
      refine TL.nil ?_
      refine TQ.thenN (hY13 _ _ ?_)
      refine TW.cond rfl (fun hc2 => ?_) (fun hc2 => ?_)
      · try simp only [decide_eq_true_eq, decide_eq_false_iff_not, Bool.not_eq_true', Bool.not_eq_false', Bool.and_eq_true, Bool.or_eq_true, Bool.and_eq_false_iff, Bool.or_eq_false_iff, Int.not_lt, Int.not_le] at hc2
        have hno := nr_empty hMo hk.ac hP2 hin (by omega)
        refine TW.seq fun Y14 hY14 => ?_
        refine TW.region ?_
        refine TL.p Pu.as ?_
        refine TL.p Pu.as ?_
        refine TL.nil ?_
        refine TQ.thenN (hY14 _ _ ?_)
        refine TW.ret ?_
        refine TQ.thenR ?_
        refine TQ.blkR ?_
        refine TQ.thenR ?_
        refine TQ.thenR ?_
        refine TQ.blkR ?_
        refine TQ.blkR ?_
        refine TQ.thenR ?_
        refine TQ.blkR ?_
        refine TQ.thenR ?_
        refine TQ.ret Try.results19 rfl ((.tmp rfl (.tmp rfl .nil))) ?_
        refine fun w hw => ⟨(none, 0), ?_, ?_⟩
        · simp only [hno]; rfl
        · simp only [hno]
          exact hw.sub (KSub.nilOwn KSub.nil)
      · try simp only [decide_eq_true_eq, decide_eq_false_iff_not, Bool.not_eq_true', Bool.not_eq_false', Bool.and_eq_true, Bool.or_eq_true, Bool.and_eq_false_iff, Bool.or_eq_false_iff, Int.not_lt, Int.not_le] at hc2
        have hne : (O2 i).1 ≤ (O2 i).2 := by omega
        refine TW.skip ?_
        refine TQ.thenN (hY12 _ _ ?_)
        refine TW.seq fun Y15 hY15 => ?_
        refine TW.seq fun Y16 hY16 => ?_
        refine TW.region ?_
        refine TL.p Pu.mv ?_
        refine TL.p Pu.mv ?_
        refine TL.p (Pu.el ty_et22) ?_
        refine TL.p (by first | exact Pu.fb ty_fa50_1 | exact Pu.fe ty_fa50_1) ?_
        refine TL.p (Pu.ld ty_sc3) ?_
        refine TL.p Pu.eq ?_
        refine TL.nil ?_
        refine TQ.thenN (hY16 _ _ ?_)
        refine TW.cond rfl (fun hc3 => ?_) (fun hc3 => ?_)
        · try simp only [decide_eq_true_eq, decide_eq_false_iff_not, Bool.not_eq_true', Bool.not_eq_false', Bool.and_eq_true, Bool.or_eq_true, Bool.and_eq_false_iff, Bool.or_eq_false_iff, Int.not_lt, Int.not_le] at hc3
          have hm1 : H.mo i = -1 := hc3
          have hm0 : ¬ 0 ≤ moH H i := by rw [show moH H i = -1 from if_pos hm1]; omega
          have hEi : NrE (moH H) O2 i := ⟨hne, fun h => absurd h hm0⟩
          obtain ⟨O9, hO9⟩ : ∃ y : BSt, y = O2 := ⟨_, rfl⟩
          obtain ⟨ch9, hch9⟩ : ∃ y : Bool, y = ch2 := ⟨_, rfl⟩
          have hNx : NrP (moH H) H.n B S O9 ∧ ((ch9 = false ∧ O9 = O ∧ ∀ j, j < i + 1 → NrE (moH H) O9 j) ∨ (ch9 = true ∧ wid O9 H.n < wid O H.n)) := by
            rw [hO9, hch9]
            refine ⟨hP2, ?_⟩
            rcases hD with ⟨h1, h2, h3⟩ | h1
            · refine .inl ⟨h1, h2, fun j hj => ?_⟩
              by_cases ej : j = i
              · subst ej; exact hEi
              · exact h3 j (by omega)
            · exact .inr h1
          refine TW.exit ?_
          refine TQ.thenX ?_
          refine TQ.blkX ?_
          refine TQ.thenN (hY11 _ _ ?_)
          refine TW.region ?_
          refine TL.p Pu.mv ?_
          refine TL.p Pu.ad ?_
          refine TL.p Pu.as ?_
          refine TL.nil ?_
          refine TQ.thenN (hZ1 (i + 1) O9 ch9 _ _ ?_ ?_ ⟨rfl, (by rw [hch9]; rfl), rfl, rfl, trivial⟩ ?_)
          · exact ⟨by omega, hNx⟩
          · exact (by first | omega | (simp only []; omega) | (simp; omega))
          · rw [hO9]
            first
              | (refine KSub.own (by repeat (first | exact Pick.hd | apply Pick.tl)) (fun j hj => ?_) KSub.nil; exact row_put (S := putS1 O2 i (nrA O2 i m)) (T := nrS O2 i m) (a := (nrB O2 i m).1) (b := (nrB O2 i m).2) rfl)
              | exact KSub.cons (by repeat (first | exact Pick.hd | apply Pick.tl)) KSub.nil
        · try simp only [decide_eq_true_eq, decide_eq_false_iff_not, Bool.not_eq_true', Bool.not_eq_false', Bool.and_eq_true, Bool.or_eq_true, Bool.and_eq_false_iff, Bool.or_eq_false_iff, Int.not_lt, Int.not_le] at hc3
          have hm1 : H.mo i ≠ -1 := hc3
          have hmo : moH H i = atH H (H.mo i) := if_neg hm1
          have hm0 : 0 ≤ atH H (H.mo i) := (hk.mo i hin).resolve_left hm1
          have hm0' : 0 ≤ moH H i := by rw [hmo]; exact hm0
          obtain ⟨m, hm⟩ : ∃ m, m = (moH H i).toNat := ⟨_, rfl⟩
          have hmi : atH H (H.mo i) = (m : Int) := by rw [hm, ← hmo]; omega
          have hmn : m < H.n := by have := hMo i hin; omega
          have him : i ≠ m := fun e => by
            have := dep_mother hk.ac hMo hin hm0'
            rw [← hm, ← e] at this
            omega
          have hbm := hP2.bd m hmn
          obtain ⟨cA, hcA⟩ : ∃ b : Bool, (!(decide ((nrA O2 i m).1 = (O2 i).1) && decide ((nrA O2 i m).2 = (O2 i).2))) = b := ⟨_, rfl⟩
          obtain ⟨cB, hcB⟩ : ∃ b : Bool, (!(decide ((nrB O2 i m).1 = (O2 m).1) && decide ((nrB O2 i m).2 = (O2 m).2))) = b := ⟨_, rfl⟩
          have hidM := hid1 (And.intro hm hmo)
          clear hm hmo
          replace hmi : atH H (H.mo i) ≤ (m : Int) ∧ (m : Int) ≤ atH H (H.mo i) := by omega
          refine TW.skip ?_
          refine TQ.thenN (hY15 _ _ ?_)
          refine TW.seq fun Y17 hY17 => ?_
          refine TW.region ?_
          refine TL.p Pu.mv ?_
          refine TL.p Pu.mv ?_
          refine TL.p Pu.mv ?_
          refine TL.p (Pu.el ty_et22) ?_
          refine TL.p (by first | exact Pu.fb ty_fa50_1 | exact Pu.fe ty_fa50_1) ?_
          refine TL.p (Pu.ld ty_sc3) ?_
          refine TL.cr rfl (enters Try.func23 rfl rfl) (fun w hw => by
              exact rAt_any _ hn (hR.sat hw Apart.nil)) ?_
          refine TL.p Pu.as ?_
          refine TL.nil ?_
          refine TQ.thenN (hY17 _ _ ?_)
          refine TW.seq fun Y18 hY18 => ?_
          refine TW.dw 26 ?_
          refine RK.tk Pu.mv ?_
          refine RK.tk Pu.mv ?_
          refine RK.tk (Pu.el ty_et25) ?_
          refine RK.tk (by first | exact Pu.fb ty_fa47_0 | exact Pu.fe ty_fa47_0) ?_
          refine RK.tk (Pu.ld ty_sc3) ?_
          refine RK.tk Pu.mv ?_
          refine RK.tk Pu.mv ?_
          refine RK.tk (Pu.el (q := m) ty_et25 (hk := by omega)) ?_
          refine RK.tk (by first | exact Pu.fb ty_fa47_0 | exact Pu.fe ty_fa47_0) ?_
          refine RK.tk (Pu.ld ty_sc3) ?_
          refine RK.tk Pu.ad ?_
          refine RK.tk Pu.mx ?_
          refine RK.tk Pu.mv ?_
          refine RK.tk Pu.mv ?_
          refine RK.tk (Pu.el ty_et25) ?_
          refine RK.tk (by first | exact Pu.fb ty_fa47_1 | exact Pu.fe ty_fa47_1) ?_
          refine RK.tk (Pu.ld ty_sc3) ?_
          refine RK.tk Pu.mv ?_
          refine RK.tk Pu.mv ?_
          refine RK.tk (Pu.el (q := m) ty_et25 (hk := by omega)) ?_
          refine RK.tk (by first | exact Pu.fb ty_fa47_1 | exact Pu.fe ty_fa47_1) ?_
          refine RK.tk (Pu.ld ty_sc3) ?_
          refine RK.tk Pu.ad ?_
          refine RK.tk Pu.mn ?_
          refine RK.tk Pu.bd ?_
          refine RK.float [.int .i64 0, .int .i64 0] ?_
          refine RK.ch [] ?_ ⟨ty_zr47, trivial⟩
          refine WK.n ?_
          intro b3
          first | refine TL.st ty_sz47 ?_ | refine TL.se ty_sz47 ?_
          refine TL.nil ?_
          refine TQ.thenN (hY18 _ _ ?_)
          refine TW.seq fun Y19 hY19 => ?_
          refine TW.dw 26 ?_
          refine RK.tk Pu.mv ?_
          refine RK.tk Pu.mv ?_
          refine RK.tk (Pu.el (q := m) ty_et25 (hk := by omega)) ?_
          refine RK.tk (by first | exact Pu.fb ty_fa47_0 | exact Pu.fe ty_fa47_0) ?_
          refine RK.tk (Pu.ld ty_sc3) ?_
          refine RK.tk Pu.mv ?_
          refine RK.tk Pu.mv ?_
          refine RK.tk (Pu.el ty_et25) ?_
          refine RK.tk (by first | exact Pu.fb ty_fa47_0 | exact Pu.fe ty_fa47_0) ?_
          refine RK.tk (Pu.ld ty_sc3) ?_
          refine RK.tk Pu.sb ?_
          refine RK.tk Pu.mx ?_
          refine RK.tk Pu.mv ?_
          refine RK.tk Pu.mv ?_
          refine RK.tk (Pu.el (q := m) ty_et25 (hk := by omega)) ?_
          refine RK.tk (by first | exact Pu.fb ty_fa47_1 | exact Pu.fe ty_fa47_1) ?_
          refine RK.tk (Pu.ld ty_sc3) ?_
          refine RK.tk Pu.mv ?_
          refine RK.tk Pu.mv ?_
          refine RK.tk (Pu.el ty_et25) ?_
          refine RK.tk (by first | exact Pu.fb ty_fa47_1 | exact Pu.fe ty_fa47_1) ?_
          refine RK.tk (Pu.ld ty_sc3) ?_
          refine RK.tk Pu.sb ?_
          refine RK.tk Pu.mn ?_
          refine RK.tk Pu.bd ?_
          refine RK.float [.int .i64 0, .int .i64 0] ?_
          refine RK.ch [] ?_ ⟨ty_zr47, trivial⟩
          refine WK.n ?_
          intro b4
          first | refine TL.st ty_sz47 ?_ | refine TL.se ty_sz47 ?_
          refine TL.nil ?_
          refine TQ.thenN (hY19 _ _ ?_)
          refine TW.seq fun Y20 hY20 => ?_
          refine TW.seq fun Y21 hY21 => ?_
          refine TW.join [(109, .bool (cA || cB))] ?_ (fun hJ1 => ?_)
          · refine TQ.thenN (hY21 _ _ ?_)
            refine TW.cond rfl (fun hc4 => ?_) (fun hc4 => ?_)
            · try simp only [decide_eq_true_eq, decide_eq_false_iff_not, Bool.not_eq_true', Bool.not_eq_false', Bool.and_eq_true, Bool.or_eq_true, Bool.and_eq_false_iff, Bool.or_eq_false_iff, Int.not_lt, Int.not_le] at hc4
              obtain ⟨O9, hO9⟩ : ∃ y : BSt, y = nrS O2 i m := ⟨_, rfl⟩
              obtain ⟨ch9, hch9⟩ : ∃ y : Bool, y = true := ⟨_, rfl⟩
              have hcs : (ch9 = true ∧ (nrA O2 i m ≠ O2 i ∨ nrB O2 i m ≠ O2 m)) ∨ (ch9 = ch2 ∧ nrA O2 i m = O2 i ∧ nrB O2 i m = O2 m) := by
                refine .inl ⟨hch9, ?_⟩
                by_cases e1 : nrA O2 i m = O2 i
                · by_cases e2 : nrB O2 i m = O2 m
                  · have a1 : cA = false := by rw [← hcA, e1]; simp
                    have a2 : cB = false := by rw [← hcB, e2]; simp
                    rw [a1, a2] at hc4
                    simp at hc4
                  · exact .inr e2
                · exact .inl e1
              refine TW.region ?_
              refine TL.p Pu.as ?_
              refine TL.nil ?_
              refine TQ.thenN (hY20 _ _ ?_)
              refine TW.seq fun Y22 hY22 => ?_
              refine TW.ex0k [.blk b3 47 [.int .i64 (nrA O2 i m).1, .int .i64 (nrA O2 i m).2], .blk b4 47 [.int .i64 (nrB O2 i m).1, .int .i64 (nrB O2 i m).2]] ?_
              refine RG.tk 0 rfl Pu.mv ?_
              refine RG.tk 1 rfl Pu.mv ?_
              refine RG.tk 2 rfl Pu.mv ?_
              refine RG.tk 3 rfl Pu.mv ?_
              refine RG.tk 4 rfl (Pu.lds ty_ag47) ?_
              refine RG.tk 5 rfl (Pu.lds ty_ag47) ?_
              refine RG.a1 6 rfl (fun X6 hX6 => ?_)
              refine TL.p (Pu.el ty_et25) ?_
              refine TL.nil ?_
              refine TQ.nxt (hX6 _ _ (by repeat (first | exact HasL.nil | refine HasL.cons (by repeat (first | exact Pick.hd | apply Pick.tl)) ?_)) ?_)
              refine RG.a1 7 rfl (fun X7 hX7 => ?_)
              first | refine TL.st ty_sz47 ?_ | refine TL.se ty_sz47 ?_
              refine TL.nil ?_
              refine TQ.nxt (hX7 _ _ (by repeat (first | exact HasL.nil | refine HasL.cons (by repeat (first | exact Pick.hd | apply Pick.tl)) ?_)) ?_)
              refine RG.a1 8 rfl (fun X8 hX8 => ?_)
              refine TL.p (Pu.el (q := m) ty_et25 (hk := by omega)) ?_
              refine TL.nil ?_
              refine TQ.nxt (hX8 _ _ (by repeat (first | exact HasL.nil | refine HasL.cons (by repeat (first | exact Pick.hd | apply Pick.tl)) ?_)) ?_)
              refine RG.a1 9 rfl (fun X9 hX9 => ?_)
              refine TL.subK (KSub.own (s := fun j => spL (putS1 O2 i (nrA O2 i m) j).1 (putS1 O2 i (nrA O2 i m) j).2) (by repeat (first | exact Pick.hd | apply Pick.tl)) (fun j hj => row_put rfl) (KSub.cons (by repeat (first | exact Pick.hd | apply Pick.tl)) (KSub.cons (by repeat (first | exact Pick.hd | apply Pick.tl)) KSub.nil))) ?_
              first | refine TL.st ty_sz47 ?_ | refine TL.se ty_sz47 ?_
              refine TL.nil ?_
              refine TQ.nxt (hX9 _ _ (by repeat (first | exact HasL.nil | refine HasL.cons (by repeat (first | exact Pick.hd | apply Pick.tl)) ?_)) ?_)
              refine RG.nil ?_ (by kernel_rfl)
              refine TQ.thenN (hY22 _ _ ?_)
              refine TW.seq fun Y23 hY23 => ?_
              refine TW.join [(129, .bool (decide (min (O2 i).2 ((O2 m).2 + 10000) < max (O2 i).1 ((O2 m).1 + 1400)) || decide (min (O2 m).2 ((O2 i).2 - 1400) < max (O2 m).1 ((O2 i).1 - 10000))))] ?_ (fun hJ2 => ?_)
              · refine TQ.thenN (hY23 _ _ ?_)
                refine TW.cond rfl (fun hc5 => ?_) (fun hc5 => ?_)
                · try simp only [decide_eq_true_eq, decide_eq_false_iff_not, Bool.not_eq_true', Bool.not_eq_false', Bool.and_eq_true, Bool.or_eq_true, Bool.and_eq_false_iff, Bool.or_eq_false_iff, Int.not_lt, Int.not_le] at hc5
                  have hno := nr_empty2 hMo hk.ac hP2 hin hm0' hidM.out.1 hmn him (show (nrA O2 i m).2 < (nrA O2 i m).1 ∨ (nrB O2 i m).2 < (nrB O2 i m).1 from hc5)
                  refine TW.seq fun Y24 hY24 => ?_
                  refine TW.region ?_
                  refine TL.p Pu.as ?_
                  refine TL.p Pu.as ?_
                  refine TL.nil ?_
                  refine TQ.thenN (hY24 _ _ ?_)
                  refine TW.ret ?_
                  refine TQ.blkR ?_
                  refine TQ.thenR ?_
                  refine TQ.thenR ?_
                  refine TQ.blkR ?_
                  refine TQ.blkR ?_
                  refine TQ.thenR ?_
                  refine TQ.blkR ?_
                  refine TQ.thenR ?_
                  refine TQ.ret Try.results19 rfl ((.tmp rfl (.tmp rfl .nil))) ?_
                  refine fun w hw => ⟨(none, 0), ?_, ?_⟩
                  · simp only [hno]; rfl
                  · simp only [hno]
                    exact hw.sub (KSub.nilOwn KSub.nil)
                · try simp only [decide_eq_true_eq, decide_eq_false_iff_not, Bool.not_eq_true', Bool.not_eq_false', Bool.and_eq_true, Bool.or_eq_true, Bool.and_eq_false_iff, Bool.or_eq_false_iff, Int.not_lt, Int.not_le] at hc5
                  have hA9 : (nrA O2 i m).1 ≤ (nrA O2 i m).2 := hc5.1
                  have hB9 : (nrB O2 i m).1 ≤ (nrB O2 i m).2 := hc5.2
                  have hNx := nr_step hMo hP2 hin hm0' hidM.out.1 hmn him hne hA9 hB9 hD hcs
                  rw [← hO9] at hNx
                  refine TW.skip ?_
                  refine TQ.blkN ?_
                  refine TQ.thenN (hY11 _ _ ?_)
                  refine TW.region ?_
                  refine TL.p Pu.mv ?_
                  refine TL.p Pu.ad ?_
                  refine TL.p Pu.as ?_
                  refine TL.nil ?_
                  refine TQ.thenN (hZ1 (i + 1) O9 ch9 _ _ ?_ ?_ ⟨rfl, (by rw [hch9]; rfl), rfl, rfl, trivial⟩ ?_)
                  · exact ⟨by omega, hNx⟩
                  · exact (by first | omega | (simp only []; omega) | (simp; omega))
                  · rw [hO9]
                    first
                      | (refine KSub.own (by repeat (first | exact Pick.hd | apply Pick.tl)) (fun j hj => ?_) KSub.nil; exact row_put (S := putS1 O2 i (nrA O2 i m)) (T := nrS O2 i m) (a := (nrB O2 i m).1) (b := (nrB O2 i m).2) rfl)
                      | exact KSub.cons (by repeat (first | exact Pick.hd | apply Pick.tl)) KSub.nil
              refine TW.region ?_
              refine TL.p (by first | exact Pu.fb ty_fa47_0 | exact Pu.fe ty_fa47_0) ?_
              refine TL.p (Pu.ld ty_sc3) ?_
              refine TL.p (by first | exact Pu.fb ty_fa47_1 | exact Pu.fe ty_fa47_1) ?_
              refine TL.p (Pu.ld ty_sc3) ?_
              refine TL.p Pu.gt ?_
              refine TL.p Pu.mv ?_
              refine TL.guard (t := 123) rfl (fun hg1 => ?_) (fun hg1 => ?_)
              · try simp only [decide_eq_true_eq, decide_eq_false_iff_not, Bool.not_eq_true', Bool.not_eq_false', Int.natCast_pos] at hg1
                refine TL.gs ?_
                refine TL.gs ?_
                refine TL.gs ?_
                refine TL.gs ?_
                refine TL.gs ?_
                refine TL.p Pu.kt ?_
                refine TL.nil ?_
                exact TQ.sub (by repeat (first | exact trivial | refine ⟨rfl, ?_⟩ | refine ⟨trivial, ?_⟩ | refine ⟨(by show some (Value.bool _) = some (Value.bool _); simp [hg1]), ?_⟩)) (by repeat (first | exact KSub.nil | refine KSub.cons (by repeat (first | exact Pick.hd | apply Pick.tl)) ?_)) hJ2
              · try simp only [decide_eq_true_eq, decide_eq_false_iff_not, Bool.not_eq_true', Bool.not_eq_false', Int.natCast_pos] at hg1
                refine TL.gd (by first | exact Pu.fb ty_fa47_0 | exact Pu.fe ty_fa47_0) ?_
                refine TL.gd (Pu.ld ty_sc3) ?_
                refine TL.gd (by first | exact Pu.fb ty_fa47_1 | exact Pu.fe ty_fa47_1) ?_
                refine TL.gd (Pu.ld ty_sc3) ?_
                refine TL.gd Pu.gt ?_
                refine TL.p Pu.kf ?_
                refine TL.nil ?_
                exact TQ.sub (by repeat (first | exact trivial | refine ⟨rfl, ?_⟩ | refine ⟨trivial, ?_⟩ | refine ⟨(by show some (Value.bool _) = some (Value.bool _); simp [hg1]), ?_⟩)) (by repeat (first | exact KSub.nil | refine KSub.cons (by repeat (first | exact Pick.hd | apply Pick.tl)) ?_)) hJ2
            · try simp only [decide_eq_true_eq, decide_eq_false_iff_not, Bool.not_eq_true', Bool.not_eq_false', Bool.and_eq_true, Bool.or_eq_true, Bool.and_eq_false_iff, Bool.or_eq_false_iff, Int.not_lt, Int.not_le] at hc4
              obtain ⟨O9, hO9⟩ : ∃ y : BSt, y = nrS O2 i m := ⟨_, rfl⟩
              obtain ⟨ch9, hch9⟩ : ∃ y : Bool, y = ch2 := ⟨_, rfl⟩
              have hcs : (ch9 = true ∧ (nrA O2 i m ≠ O2 i ∨ nrB O2 i m ≠ O2 m)) ∨ (ch9 = ch2 ∧ nrA O2 i m = O2 i ∧ nrB O2 i m = O2 m) := by
                rw [hc4.1] at hcA
                rw [hc4.2] at hcB
                simp at hcA hcB
                exact .inr ⟨hch9, Prod.ext hcA.1 hcA.2, Prod.ext hcB.1 hcB.2⟩
              refine TW.skip ?_
              refine TQ.thenN (hY20 _ _ ?_)
              refine TW.seq fun Y25 hY25 => ?_
              refine TW.ex0k [.blk b3 47 [.int .i64 (nrA O2 i m).1, .int .i64 (nrA O2 i m).2], .blk b4 47 [.int .i64 (nrB O2 i m).1, .int .i64 (nrB O2 i m).2]] ?_
              refine RG.tk 0 rfl Pu.mv ?_
              refine RG.tk 1 rfl Pu.mv ?_
              refine RG.tk 2 rfl Pu.mv ?_
              refine RG.tk 3 rfl Pu.mv ?_
              refine RG.tk 4 rfl (Pu.lds ty_ag47) ?_
              refine RG.tk 5 rfl (Pu.lds ty_ag47) ?_
              refine RG.a1 6 rfl (fun X6 hX6 => ?_)
              refine TL.p (Pu.el ty_et25) ?_
              refine TL.nil ?_
              refine TQ.nxt (hX6 _ _ (by repeat (first | exact HasL.nil | refine HasL.cons (by repeat (first | exact Pick.hd | apply Pick.tl)) ?_)) ?_)
              refine RG.a1 7 rfl (fun X7 hX7 => ?_)
              first | refine TL.st ty_sz47 ?_ | refine TL.se ty_sz47 ?_
              refine TL.nil ?_
              refine TQ.nxt (hX7 _ _ (by repeat (first | exact HasL.nil | refine HasL.cons (by repeat (first | exact Pick.hd | apply Pick.tl)) ?_)) ?_)
              refine RG.a1 8 rfl (fun X8 hX8 => ?_)
              refine TL.p (Pu.el (q := m) ty_et25 (hk := by omega)) ?_
              refine TL.nil ?_
              refine TQ.nxt (hX8 _ _ (by repeat (first | exact HasL.nil | refine HasL.cons (by repeat (first | exact Pick.hd | apply Pick.tl)) ?_)) ?_)
              refine RG.a1 9 rfl (fun X9 hX9 => ?_)
              refine TL.subK (KSub.own (s := fun j => spL (putS1 O2 i (nrA O2 i m) j).1 (putS1 O2 i (nrA O2 i m) j).2) (by repeat (first | exact Pick.hd | apply Pick.tl)) (fun j hj => row_put rfl) (KSub.cons (by repeat (first | exact Pick.hd | apply Pick.tl)) (KSub.cons (by repeat (first | exact Pick.hd | apply Pick.tl)) KSub.nil))) ?_
              first | refine TL.st ty_sz47 ?_ | refine TL.se ty_sz47 ?_
              refine TL.nil ?_
              refine TQ.nxt (hX9 _ _ (by repeat (first | exact HasL.nil | refine HasL.cons (by repeat (first | exact Pick.hd | apply Pick.tl)) ?_)) ?_)
              refine RG.nil ?_ (by kernel_rfl)
              refine TQ.thenN (hY25 _ _ ?_)
              refine TW.seq fun Y26 hY26 => ?_
              refine TW.join [(129, .bool (decide (min (O2 i).2 ((O2 m).2 + 10000) < max (O2 i).1 ((O2 m).1 + 1400)) || decide (min (O2 m).2 ((O2 i).2 - 1400) < max (O2 m).1 ((O2 i).1 - 10000))))] ?_ (fun hJ3 => ?_)
              · refine TQ.thenN (hY26 _ _ ?_)
                refine TW.cond rfl (fun hc5 => ?_) (fun hc5 => ?_)
                · try simp only [decide_eq_true_eq, decide_eq_false_iff_not, Bool.not_eq_true', Bool.not_eq_false', Bool.and_eq_true, Bool.or_eq_true, Bool.and_eq_false_iff, Bool.or_eq_false_iff, Int.not_lt, Int.not_le] at hc5
                  have hno := nr_empty2 hMo hk.ac hP2 hin hm0' hidM.out.1 hmn him (show (nrA O2 i m).2 < (nrA O2 i m).1 ∨ (nrB O2 i m).2 < (nrB O2 i m).1 from hc5)
                  refine TW.seq fun Y27 hY27 => ?_
                  refine TW.region ?_
                  refine TL.p Pu.as ?_
                  refine TL.p Pu.as ?_
                  refine TL.nil ?_
                  refine TQ.thenN (hY27 _ _ ?_)
                  refine TW.ret ?_
                  refine TQ.blkR ?_
                  refine TQ.thenR ?_
                  refine TQ.thenR ?_
                  refine TQ.blkR ?_
                  refine TQ.blkR ?_
                  refine TQ.thenR ?_
                  refine TQ.blkR ?_
                  refine TQ.thenR ?_
                  refine TQ.ret Try.results19 rfl ((.tmp rfl (.tmp rfl .nil))) ?_
                  refine fun w hw => ⟨(none, 0), ?_, ?_⟩
                  · simp only [hno]; rfl
                  · simp only [hno]
                    exact hw.sub (KSub.nilOwn KSub.nil)
                · try simp only [decide_eq_true_eq, decide_eq_false_iff_not, Bool.not_eq_true', Bool.not_eq_false', Bool.and_eq_true, Bool.or_eq_true, Bool.and_eq_false_iff, Bool.or_eq_false_iff, Int.not_lt, Int.not_le] at hc5
                  have hA9 : (nrA O2 i m).1 ≤ (nrA O2 i m).2 := hc5.1
                  have hB9 : (nrB O2 i m).1 ≤ (nrB O2 i m).2 := hc5.2
                  have hNx := nr_step hMo hP2 hin hm0' hidM.out.1 hmn him hne hA9 hB9 hD hcs
                  rw [← hO9] at hNx
                  refine TW.skip ?_
                  refine TQ.blkN ?_
                  refine TQ.thenN (hY11 _ _ ?_)
                  refine TW.region ?_
                  refine TL.p Pu.mv ?_
                  refine TL.p Pu.ad ?_
                  refine TL.p Pu.as ?_
                  refine TL.nil ?_
                  refine TQ.thenN (hZ1 (i + 1) O9 ch9 _ _ ?_ ?_ ⟨rfl, (by rw [hch9]; rfl), rfl, rfl, trivial⟩ ?_)
                  · exact ⟨by omega, hNx⟩
                  · exact (by first | omega | (simp only []; omega) | (simp; omega))
                  · rw [hO9]
                    first
                      | (refine KSub.own (by repeat (first | exact Pick.hd | apply Pick.tl)) (fun j hj => ?_) KSub.nil; exact row_put (S := putS1 O2 i (nrA O2 i m)) (T := nrS O2 i m) (a := (nrB O2 i m).1) (b := (nrB O2 i m).2) rfl)
                      | exact KSub.cons (by repeat (first | exact Pick.hd | apply Pick.tl)) KSub.nil
              refine TW.region ?_
              refine TL.p (by first | exact Pu.fb ty_fa47_0 | exact Pu.fe ty_fa47_0) ?_
              refine TL.p (Pu.ld ty_sc3) ?_
              refine TL.p (by first | exact Pu.fb ty_fa47_1 | exact Pu.fe ty_fa47_1) ?_
              refine TL.p (Pu.ld ty_sc3) ?_
              refine TL.p Pu.gt ?_
              refine TL.p Pu.mv ?_
              refine TL.guard (t := 123) rfl (fun hg2 => ?_) (fun hg2 => ?_)
              · try simp only [decide_eq_true_eq, decide_eq_false_iff_not, Bool.not_eq_true', Bool.not_eq_false', Int.natCast_pos] at hg2
                refine TL.gs ?_
                refine TL.gs ?_
                refine TL.gs ?_
                refine TL.gs ?_
                refine TL.gs ?_
                refine TL.p Pu.kt ?_
                refine TL.nil ?_
                exact TQ.sub (by repeat (first | exact trivial | refine ⟨rfl, ?_⟩ | refine ⟨trivial, ?_⟩ | refine ⟨(by show some (Value.bool _) = some (Value.bool _); simp [hg2]), ?_⟩)) (by repeat (first | exact KSub.nil | refine KSub.cons (by repeat (first | exact Pick.hd | apply Pick.tl)) ?_)) hJ3
              · try simp only [decide_eq_true_eq, decide_eq_false_iff_not, Bool.not_eq_true', Bool.not_eq_false', Int.natCast_pos] at hg2
                refine TL.gd (by first | exact Pu.fb ty_fa47_0 | exact Pu.fe ty_fa47_0) ?_
                refine TL.gd (Pu.ld ty_sc3) ?_
                refine TL.gd (by first | exact Pu.fb ty_fa47_1 | exact Pu.fe ty_fa47_1) ?_
                refine TL.gd (Pu.ld ty_sc3) ?_
                refine TL.gd Pu.gt ?_
                refine TL.p Pu.kf ?_
                refine TL.nil ?_
                exact TQ.sub (by repeat (first | exact trivial | refine ⟨rfl, ?_⟩ | refine ⟨trivial, ?_⟩ | refine ⟨(by show some (Value.bool _) = some (Value.bool _); simp [hg2]), ?_⟩)) (by repeat (first | exact KSub.nil | refine KSub.cons (by repeat (first | exact Pick.hd | apply Pick.tl)) ?_)) hJ3
          refine TW.dw 14 ?_
          refine RK.tk (Pu.lds ty_ag47) ?_
          refine RK.tk Pu.mv ?_
          refine RK.tk Pu.mv ?_
          refine RK.tk (Pu.el ty_et25) ?_
          refine RK.tk (Pu.lds ty_ag47) ?_
          refine RK.tk (Pu.bin rfl rfl (fun w => ne2_is hcA w _ _)) ?_
          refine RK.tk Pu.mv ?_
          refine RK.guard (t := 102) rfl (fun hg3 => ?_) (fun hg3 => ?_)
          · try simp only [decide_eq_true_eq, decide_eq_false_iff_not, Bool.not_eq_true', Bool.not_eq_false', Int.natCast_pos] at hg3
            refine RK.s ?_
            refine RK.s ?_
            refine RK.s ?_
            refine RK.s ?_
            refine RK.s ?_
            refine RK.s ?_
            refine RK.tk Pu.kt ?_
            refine RK.ch [] ?_ trivial
            refine WK.n ?_
            refine TL.nil ?_
            exact TQ.sub (by repeat (first | exact trivial | refine ⟨rfl, ?_⟩ | refine ⟨trivial, ?_⟩ | refine ⟨(by show some (Value.bool _) = some (Value.bool _); simp [hg3]), ?_⟩)) (by repeat (first | exact KSub.nil | refine KSub.cons (by repeat (first | exact Pick.hd | apply Pick.tl)) ?_)) hJ1
          · try simp only [decide_eq_true_eq, decide_eq_false_iff_not, Bool.not_eq_true', Bool.not_eq_false', Int.natCast_pos] at hg3
            refine RK.tk (Pu.lds ty_ag47) ?_
            refine RK.tk Pu.mv ?_
            refine RK.tk Pu.mv ?_
            refine RK.tk (Pu.el (q := m) ty_et25 (hk := by omega)) ?_
            refine RK.tk (Pu.lds ty_ag47) ?_
            refine RK.tk (Pu.bin rfl rfl (fun w => ne2_is hcB w _ _)) ?_
            refine RK.tk Pu.kf ?_
            refine RK.ch [] ?_ trivial
            refine WK.n ?_
            refine TL.nil ?_
            exact TQ.sub (by repeat (first | exact trivial | refine ⟨rfl, ?_⟩ | refine ⟨trivial, ?_⟩ | refine ⟨(by show some (Value.bool _) = some (Value.bool _); simp [hg3]), ?_⟩)) (by repeat (first | exact KSub.nil | refine KSub.cons (by repeat (first | exact Pick.hd | apply Pick.tl)) ?_)) hJ1
    · try simp only [decide_eq_true_eq, decide_eq_false_iff_not, Bool.not_eq_true', Bool.not_eq_false', Bool.and_eq_true, Bool.or_eq_true, Bool.and_eq_false_iff, Bool.or_eq_false_iff, Int.not_lt, Int.not_le] at hc1
      obtain rfl : i = H.n := by omega
      refine TW.exit ?_
      refine TQ.thenX ?_
      refine TQ.thenX ?_
      refine TQ.blkX ?_
      refine TQ.blkN ?_
      refine TQ.thenN (hZ0 O2 ch2 _ _ ?_ ?_ (by repeat (first | exact trivial | refine ⟨rfl, ?_⟩ | refine ⟨trivial, ?_⟩)) ?_)
      · refine ⟨hP2, fun h => ?_⟩
        rcases hD with ⟨_, _, h3⟩ | ⟨h1, _⟩
        · exact h3
        · rw [h1] at h; cases h
      · rcases hD with ⟨h1, h2, _⟩ | ⟨h1, h2⟩
        · rw [h1, h2]; simp
        · rw [h1]; simp; omega
      · exact KSub.cons (by repeat (first | exact Pick.hd | apply Pick.tl)) KSub.nil
  · try simp only [decide_eq_true_eq, decide_eq_false_iff_not, Bool.not_eq_true', Bool.not_eq_false', Bool.and_eq_true, Bool.or_eq_true, Bool.and_eq_false_iff, Bool.or_eq_false_iff, Int.not_lt, Int.not_le] at hc0
    subst hc0
    obtain ⟨hRe, hok⟩ := nr_done hMo hk.ac hP (hE rfl)
    refine TW.exit ?_
    refine TQ.thenX ?_
    refine TQ.thenX ?_
    refine TQ.blkX ?_
    refine TQ.thenN (hY3 _ _ ?_)
    refine TW.seq fun Y28 hY28 => ?_
    refine TW.region ?_
    refine TL.p Pu.mv ?_
    refine TL.p Pu.as ?_
    refine TL.p Pu.as ?_
    refine TL.nil ?_
    refine TQ.thenN (hY28 _ _ ?_)
    refine TW.ret ?_
    refine TQ.ret Try.results19 rfl ((.tmp rfl (.tmp rfl .nil))) ?_
    refine fun w hw => ⟨(A2, c2), ?_, ?_⟩
    · simp only [hok]; rfl
    · simp only [hok, if_true]
      exact hw.sub (KSub.own (by repeat (first | exact Pick.hd | apply Pick.tl)) (fun j hj => by rw [hRe j hj]) KSub.nil)
end Go.Proofs.Ytlphecckplndnaa
namespace Go.Proofs.Ytlphecckplndnaa
set_option linter.all false
set_option linter.unusedVariables false
set_option linter.unusedSimpArgs false
open Go.RowKit
theorem rBirths_any {w : World} {A : Option Addr} {cp : Nat} {H : Hd} {a : Nat → Option Addr} {c : Nat → Nat} (hI : HIn w A H a c) :
    CallsK Try.prog 7 #[.slice A H.n cp] [] w (Option Addr × Nat) (fun x => .tuple #[.slice x.1 (if livC H = 0 then H.n else 0) x.2, .int .i64 (livC H)]) (fun x => [.own x.1 (if livC H = 0 then H.n else 0) x.2 47 2 (fun j => spL (livB H j).1 (livB H j).2)]) := by
  refine K_enter (S := []) (K := []) Try.func7 rfl Try.ntmps7 rfl (Sat.start _) ?_
  refine TW.seq fun Y1 hY1 => ?_
  refine TW.region ?_
  refine TL.p Pu.as ?_
  refine TL.p Pu.as ?_
  refine TL.nil ?_
  refine TQ.thenN (hY1 _ _ ?_)
  refine TW.seq fun Y2 hY2 => ?_
  refine TW.seq fun Y3 hY3 => ?_
  refine TW.region ?_
  refine TL.p Pu.mv ?_
  refine TL.cr rfl (enters Try.func18 rfl rfl) (fun w hw => by
      exact rHerd_any (hI.sat hw)) ?_
  refine TL.p Pu.no ?_
  refine TL.nil ?_
  refine TQ.thenN (hY3 _ _ ?_)
  refine TW.cond rfl (fun hc0 => ?_) (fun hc0 => ?_)
  · try simp only [decide_eq_true_eq, decide_eq_false_iff_not, Bool.not_eq_true', Bool.not_eq_false', Bool.and_eq_true, Bool.or_eq_true, Bool.and_eq_false_iff, Bool.or_eq_false_iff, Int.not_lt, Int.not_le] at hc0
    have hh : herdB H = false := hc0
    have hc : livC H = 20 := by unfold livC; rw [hh]; rfl
    refine TW.seq fun Y4 hY4 => ?_
    refine TW.region ?_
    refine TL.p Pu.as ?_
    refine TL.p Pu.as ?_
    refine TL.nil ?_
    refine TQ.thenN (hY4 _ _ ?_)
    refine TW.ret ?_
    refine TQ.thenR ?_
    refine TQ.ret Try.results7 rfl ((.tmp rfl (.tmp rfl .nil))) ?_
    exact fun w hw => ⟨(none, 0), by simp only [hc]; rfl, by simp only [hc]; exact hw.sub (KSub.nilOwn KSub.nil)⟩
  · try simp only [decide_eq_true_eq, decide_eq_false_iff_not, Bool.not_eq_true', Bool.not_eq_false', Bool.and_eq_true, Bool.or_eq_true, Bool.and_eq_false_iff, Bool.or_eq_false_iff, Int.not_lt, Int.not_le] at hc0
    have hh : herdB H = true := hc0
    have hk := herdB_ok.1 hh
    refine TW.skip ?_
    refine TQ.thenN (hY2 _ _ ?_)
    refine TW.seq fun Y5 hY5 => ?_
    refine TW.region ?_
    refine TL.p Pu.mv ?_
    refine TL.p Pu.mv ?_
    refine TL.call (M := []) rfl (enters Try.func20 rfl rfl) (List.Perm.refl _) rfl (fun w hw => by
        exact rBorn_any (hI.sat hw)) ?_
    rintro ⟨A2, c2⟩
    refine TL.call (M := []) rfl (enters Try.func19 rfl rfl) (List.Perm.refl _) rfl (fun w hw => by
        exact rbirths_any (S := bornH H) (B := 100000) hk (hI.sat hw) (OwnR.rdr (hw.holds (.own A2 H.n c2 47 2 (fun j => spL (bornH H j).1 (bornH H j).2)) (by simp))) (born_bd hk) (by omega)) ?_
    rintro ⟨A3, c3⟩
    refine TL.p Pu.mv ?_
    refine TL.p Pu.ex ?_
    refine TL.p Pu.ex ?_
    refine TL.p Pu.as ?_
    refine TL.p Pu.as ?_
    refine TL.nil ?_
    refine TQ.thenN (hY5 _ _ ?_)
    refine TW.seq fun Y6 hY6 => ?_
    refine TW.seq fun Y7 hY7 => ?_
    refine TW.region ?_
    refine TL.p Pu.mv ?_
    refine TL.p Pu.no ?_
    refine TL.nil ?_
    refine TQ.thenN (hY7 _ _ ?_)
    refine TW.cond rfl (fun hc1 => ?_) (fun hc1 => ?_)
    · try simp only [decide_eq_true_eq, decide_eq_false_iff_not, Bool.not_eq_true', Bool.not_eq_false', Bool.and_eq_true, Bool.or_eq_true, Bool.and_eq_false_iff, Bool.or_eq_false_iff, Int.not_lt, Int.not_le] at hc1
      have hok : bthOk (moH H) H.n (bornH H) = false := hc1
      have hc : livC H = 21 := by unfold livC; rw [hh, hok]; rfl
      refine TW.seq fun Y8 hY8 => ?_
      refine TW.region ?_
      refine TL.p Pu.as ?_
      refine TL.p Pu.as ?_
      refine TL.nil ?_
      refine TQ.thenN (hY8 _ _ ?_)
      refine TW.ret ?_
      refine TQ.thenR ?_
      refine TQ.ret Try.results7 rfl ((.tmp rfl (.tmp rfl .nil))) ?_
      exact fun w hw => ⟨(none, 0), by simp only [hc]; rfl, by simp only [hc]; exact hw.sub (KSub.nilOwn KSub.nil)⟩
    · try simp only [decide_eq_true_eq, decide_eq_false_iff_not, Bool.not_eq_true', Bool.not_eq_false', Bool.and_eq_true, Bool.or_eq_true, Bool.and_eq_false_iff, Bool.or_eq_false_iff, Int.not_lt, Int.not_le] at hc1
      have hok : bthOk (moH H) H.n (bornH H) = true := hc1
      have hc : livC H = 0 := by unfold livC; rw [hh, hok]; rfl
      refine TW.skip ?_
      refine TQ.thenN (hY6 _ _ ?_)
      refine TW.seq fun Y9 hY9 => ?_
      refine TW.region ?_
      refine TL.p Pu.mv ?_
      refine TL.p Pu.as ?_
      refine TL.p Pu.as ?_
      refine TL.nil ?_
      refine TQ.thenN (hY9 _ _ ?_)
      refine TW.ret ?_
      refine TQ.ret Try.results7 rfl ((.tmp rfl (.tmp rfl .nil))) ?_
      exact fun w hw => ⟨(A3, c3), by simp only [hc, hok]; rfl, by simp only [hc, if_true]; exact hw.sub (KSub.cons (by rw [hok]; exact Pick.hd) KSub.nil)⟩
set_option maxRecDepth 100000 in
set_option maxHeartbeats 1000000 in
theorem rline_any {w : World} {A : Option Addr} {cp : Nat} {H : Hd} {a : Nat → Option Addr} {c : Nat → Nat} {i : Nat} (hk : HOk H) (hI : HIn w A H a c) (hi : i < H.n) :
    CallsK Try.prog 24 #[.slice A H.n cp, .int .i64 (i : Int)] [] w (Option Addr × Nat) (fun y => .slice y.1 (depH (moH H) H.n i) y.2) (fun y => [.own y.1 (depH (moH H) H.n i) y.2 3 1 (fun s => [.int .i64 (upH (moH H) i s)])]) := by
  have hn := hI.hn
  have hR := hI.hR
  have hdp := dep_pos (hk.ac i hi)
  have hdl := dep_le (f := moH H) (n := H.n) (i := i)
  have hde := dep_end (hk.ac i hi)
  refine K_enter (S := []) (K := []) Try.func24 rfl Try.ntmps24 rfl (Sat.start _) ?_
  refine TW.seq fun Y1 hY1 => ?_
  refine TW.region ?_
  refine TL.p Pu.as ?_
  refine TL.nil ?_
  refine TQ.thenN (hY1 _ _ ?_)
  refine TW.seq fun Y2 hY2 => ?_
  refine TW.region ?_
  refine TL.p Pu.mv ?_
  refine TL.m Mk.bl ?_
  intro b1
  refine TL.p Pu.as ?_
  refine TL.nil ?_
  refine TQ.thenN (hY2 _ _ ?_)
  refine TW.seq fun Y3 hY3 => ?_
  refine TW.block ?_
  refine TW.loop3 (fun (s : Nat) (B : Option Addr) (cb : Nat) => [(1, .int .i64 (upH (moH H) i s)), (5, .slice B (s + 1) cb), (0, .slice A H.n cp)]) (fun s B cb => [.own B (s + 1) cb 3 1 (fun s => [.int .i64 (upH (moH H) i s)])]) (fun s B cb => s < depH (moH H) H.n i) (fun s B cb => depH (moH H) H.n i - s) 0 (some ⟨b1, 0, none⟩) 1 (by repeat (first | exact trivial | refine ⟨rfl, ?_⟩ | refine ⟨trivial, ?_⟩)) ?_ ?_ ?_
  · exact KSub.ofBlk (by repeat (first | exact Pick.hd | apply Pick.tl)) rfl (fun _ _ => rfl) rfl rfl KSub.nil
  · exact hdp
  rintro s B cb hs Z0 hZ0
  have hup := dep_in hs
  have hub := upH_bd (moH_Mo (H := H)) hi s
  have hmo : moH H (upH (moH H) i s).toNat = upH (moH H) i (s + 1) := (if_neg (by omega)).symm
  refine TW.seq fun Y4 hY4 => ?_
  refine TW.seq fun Y5 hY5 => ?_
  refine TW.region ?_
  refine TL.p Pu.mv ?_
  refine TL.p Pu.mv ?_
  refine TL.p (Pu.el (q := (upH (moH H) i s).toNat) ty_et22 (hk := rfl)) ?_
  refine TL.p (by first | exact Pu.fb ty_fa50_1 | exact Pu.fe ty_fa50_1) ?_
  refine TL.p (Pu.ld ty_sc3) ?_
  refine TL.p Pu.ne ?_
  refine TL.nil ?_
  refine TQ.thenN (hY5 _ _ ?_)
  refine TW.cond rfl (fun hc0 => ?_) (fun hc0 => ?_)
  · try simp only [decide_eq_true_eq, decide_eq_false_iff_not, Bool.not_eq_true', Bool.not_eq_false', Bool.and_eq_true, Bool.or_eq_true, Bool.and_eq_false_iff, Bool.or_eq_false_iff, Int.not_lt, Int.not_le] at hc0
    have hm1 : H.mo (upH (moH H) i s).toNat ≠ -1 := hc0
    have hat : atH H (H.mo (upH (moH H) i s).toNat) = upH (moH H) i (s + 1) := by rw [← hmo]; exact (if_neg hm1).symm
    have hge : 0 ≤ upH (moH H) i (s + 1) := by rw [← hat]; exact (hk.mo _ (by omega)).resolve_left hm1
    have hs1 : s + 1 < depH (moH H) H.n i := by
      by_cases e : s + 1 = depH (moH H) H.n i
      · rw [← e] at hde; omega
      · omega
    have hatH := hid1 hat
    clear hat hmo
    refine TW.skip ?_
    refine TQ.thenN (hY4 _ _ ?_)
    refine TW.block ?_
    refine TW.seq fun Y6 hY6 => ?_
    refine TW.region ?_
    refine TL.p Pu.mv ?_
    refine TL.p Pu.mv ?_
    refine TL.p Pu.mv ?_
    refine TL.p (Pu.el (q := (upH (moH H) i s).toNat) ty_et22 (hk := rfl)) ?_
    refine TL.p (by first | exact Pu.fb ty_fa50_1 | exact Pu.fe ty_fa50_1) ?_
    refine TL.p (Pu.ld ty_sc3) ?_
    refine TL.cr rfl (enters Try.func23 rfl rfl) (fun w hw => by
        exact rAt_any _ hn (hR.sat hw Apart.nil)) ?_
    refine TL.p Pu.as ?_
    refine TL.nil ?_
    refine TQ.thenN (hY6 _ _ ?_)
    refine TW.region ?_
    refine TL.p Pu.mv ?_
    refine TL.p Pu.mv ?_
    refine TL.m Mk.bl ?_
    intro b2
    first | refine TL.a0 ty_et31 ?_ | refine TL.ap ty_et31 ?_
    intro A3 c3
    refine TL.p Pu.as ?_
    refine TL.nil ?_
    refine TQ.blkN ?_
    refine TQ.thenN (hZ0 (s + 1) A3 c3 _ _ ?_ ?_ ⟨(by rw [← hatH.out]; rfl), rfl, rfl, trivial⟩ ?_)
    · exact hs1
    · exact (by first | omega | (simp only []; omega) | (simp; omega))
    · exact KSub.own (by repeat (first | exact Pick.hd | apply Pick.tl)) (fun j hj => by exact cat_rows (r := fun s => [Value.int .i64 (upH (moH H) i s)]) (by rw [hatH.out]) hj) KSub.nil
  · try simp only [decide_eq_true_eq, decide_eq_false_iff_not, Bool.not_eq_true', Bool.not_eq_false', Bool.and_eq_true, Bool.or_eq_true, Bool.and_eq_false_iff, Bool.or_eq_false_iff, Int.not_lt, Int.not_le] at hc0
    have hm1 : H.mo (upH (moH H) i s).toNat = -1 := hc0
    have hlt : upH (moH H) i (s + 1) < 0 := by rw [← hmo, show moH H (upH (moH H) i s).toNat = -1 from if_pos hm1]; omega
    have hsd : s + 1 = depH (moH H) H.n i := by
      by_cases e : s + 1 = depH (moH H) H.n i
      · exact e
      · have := dep_in (f := moH H) (n := H.n) (i := i) (s := s + 1) (by omega)
        omega
    refine TW.exit ?_
    refine TQ.thenX ?_
    refine TQ.thenX ?_
    refine TQ.blkX ?_
    refine TQ.thenN (hY3 _ _ ?_)
    refine TW.seq fun Y7 hY7 => ?_
    refine TW.region ?_
    refine TL.p Pu.mv ?_
    refine TL.p Pu.as ?_
    refine TL.nil ?_
    refine TQ.thenN (hY7 _ _ ?_)
    refine TW.ret ?_
    refine TQ.ret Try.results24 rfl ((.tmp rfl .nil)) ?_
    rw [hsd]
    exact fun w hw => ⟨(B, cb), rfl, hw⟩
set_option maxRecDepth 100000 in
set_option maxHeartbeats 1000000 in
theorem rLine_any {w : World} {A : Option Addr} {cp : Nat} {H : Hd} {a : Nat → Option Addr} {c : Nat → Nat} {id : Int} (hI : HIn w A H a c) :
    CallsK Try.prog 9 #[.slice A H.n cp, .int .i64 id] [] w (Option Addr × Nat) (fun y => .tuple #[.slice y.1 (linN H id) y.2, .int .i64 (linC H id)]) (fun y => [.own y.1 (linN H id) y.2 3 1 (fun s => [.int .i64 (linV H id s)])]) := by
  have hn := hI.hn
  have hR := hI.hR
  refine K_enter (S := []) (K := []) Try.func9 rfl Try.ntmps9 rfl (Sat.start _) ?_
  refine TW.seq fun Y1 hY1 => ?_
  refine TW.region ?_
  refine TL.p Pu.as ?_
  refine TL.p Pu.as ?_
  refine TL.nil ?_
  refine TQ.thenN (hY1 _ _ ?_)
  refine TW.seq fun Y2 hY2 => ?_
  refine TW.seq fun Y3 hY3 => ?_
  refine TW.region ?_
  refine TL.p Pu.mv ?_
  refine TL.cr rfl (enters Try.func18 rfl rfl) (fun w hw => by
      exact rHerd_any (hI.sat hw)) ?_
  refine TL.p Pu.no ?_
  refine TL.nil ?_
  refine TQ.thenN (hY3 _ _ ?_)
  refine TW.cond rfl (fun hc0 => ?_) (fun hc0 => ?_)
  · try simp only [decide_eq_true_eq, decide_eq_false_iff_not, Bool.not_eq_true', Bool.not_eq_false', Bool.and_eq_true, Bool.or_eq_true, Bool.and_eq_false_iff, Bool.or_eq_false_iff, Int.not_lt, Int.not_le] at hc0
    have hh : herdB H = false := hc0
    have hc : linC H id = 20 := by unfold linC; rw [hh]; rfl
    have hN : linN H id = 0 := by unfold linN; rw [hc]; rfl
    refine TW.seq fun Y4 hY4 => ?_
    refine TW.region ?_
    refine TL.p Pu.as ?_
    refine TL.p Pu.as ?_
    refine TL.nil ?_
    refine TQ.thenN (hY4 _ _ ?_)
    refine TW.ret ?_
    refine TQ.thenR ?_
    refine TQ.ret Try.results9 rfl ((.tmp rfl (.tmp rfl .nil))) ?_
    exact fun w hw => ⟨(none, 0), by simp only [hN, hc]; rfl, by simp only [hN]; exact hw.sub (KSub.nilOwn KSub.nil)⟩
  · try simp only [decide_eq_true_eq, decide_eq_false_iff_not, Bool.not_eq_true', Bool.not_eq_false', Bool.and_eq_true, Bool.or_eq_true, Bool.and_eq_false_iff, Bool.or_eq_false_iff, Int.not_lt, Int.not_le] at hc0
    have hh : herdB H = true := hc0
    have hk := herdB_ok.1 hh
    refine TW.skip ?_
    refine TQ.thenN (hY2 _ _ ?_)
    refine TW.seq fun Y5 hY5 => ?_
    refine TW.region ?_
    refine TL.p Pu.mv ?_
    refine TL.p Pu.mv ?_
    refine TL.cr rfl (enters Try.func23 rfl rfl) (fun w hw => by
        exact rAt_any _ hn (hR.sat hw Apart.nil)) ?_
    refine TL.p Pu.as ?_
    refine TL.nil ?_
    refine TQ.thenN (hY5 _ _ ?_)
    refine TW.seq fun Y6 hY6 => ?_
    refine TW.seq fun Y7 hY7 => ?_
    refine TW.region ?_
    refine TL.p Pu.mv ?_
    refine TL.p Pu.lt ?_
    refine TL.nil ?_
    refine TQ.thenN (hY7 _ _ ?_)
    refine TW.cond rfl (fun hc1 => ?_) (fun hc1 => ?_)
    · try simp only [decide_eq_true_eq, decide_eq_false_iff_not, Bool.not_eq_true', Bool.not_eq_false', Bool.and_eq_true, Bool.or_eq_true, Bool.and_eq_false_iff, Bool.or_eq_false_iff, Int.not_lt, Int.not_le] at hc1
      have hc : linC H id = 2 := by unfold linC; rw [hh, if_pos rfl, if_neg (by omega)]
      have hN : linN H id = 0 := by unfold linN; rw [hc]; rfl
      refine TW.seq fun Y8 hY8 => ?_
      refine TW.region ?_
      refine TL.p Pu.as ?_
      refine TL.p Pu.as ?_
      refine TL.nil ?_
      refine TQ.thenN (hY8 _ _ ?_)
      refine TW.ret ?_
      refine TQ.thenR ?_
      refine TQ.ret Try.results9 rfl ((.tmp rfl (.tmp rfl .nil))) ?_
      exact fun w hw => ⟨(none, 0), by simp only [hN, hc]; rfl, by simp only [hN]; exact hw.sub (KSub.nilOwn KSub.nil)⟩
    · try simp only [decide_eq_true_eq, decide_eq_false_iff_not, Bool.not_eq_true', Bool.not_eq_false', Bool.and_eq_true, Bool.or_eq_true, Bool.and_eq_false_iff, Bool.or_eq_false_iff, Int.not_lt, Int.not_le] at hc1
      have hat : 0 ≤ atH H id := hc1
      have hc : linC H id = 0 := by unfold linC; rw [hh, if_pos rfl, if_pos hat]
      obtain ⟨hil, hie⟩ := at_lt hat
      obtain ⟨i, hi9⟩ : ∃ i, i = (atH H id).toNat := ⟨_, rfl⟩
      have hN : linN H id = depH (moH H) H.n i - 1 := by unfold linN; rw [hc, hi9]; rfl
      rw [← hi9] at hil hie
      have hdl := dep_le (f := moH H) (n := H.n) (i := i)
      have hdp := dep_pos (hk.ac i hil)
      have hI9 := hid1 hi9
      clear hi9
      refine TW.skip ?_
      refine TQ.thenN (hY6 _ _ ?_)
      refine TW.seq fun Y9 hY9 => ?_
      refine TW.region ?_
      refine TL.p Pu.as ?_
      refine TL.nil ?_
      refine TQ.thenN (hY9 _ _ ?_)
      refine TW.seq fun Y10 hY10 => ?_
      refine TW.region ?_
      refine TL.p Pu.mv ?_
      refine TL.p Pu.mv ?_
      refine TL.call (M := []) rfl (enters Try.func24 rfl rfl) (List.Perm.refl _) rfl (fun w hw => by
          have h9 := rline_any (cp := cp) hk (hI.sat hw) hil
          rw [hie] at h9
          exact h9) ?_
      rintro ⟨Al, cl⟩
      refine TL.p Pu.as ?_
      refine TL.nil ?_
      refine TQ.thenN (hY10 _ _ ?_)
      refine TW.seq fun Y11 hY11 => ?_
      refine TW.seq fun Y12 hY12 => ?_
      refine TW.region ?_
      refine TL.p Pu.as ?_
      refine TL.nil ?_
      refine TQ.thenN (hY12 _ _ ?_)
      refine TW.block ?_
      refine TW.loop3 (fun (s : Nat) (B : Option Addr) (cb : Nat) => [(9, .int .i64 ((s : Int) + 1)), (7, .slice B s cb), (8, .slice Al (depH (moH H) H.n i) cl), (0, .slice A H.n cp)]) (fun s B cb => [.own B s cb 3 1 (fun s => [.int .i64 (H.id (upH (moH H) i (s + 1)).toNat)]), .own Al (depH (moH H) H.n i) cl 3 1 (fun s => [.int .i64 (upH (moH H) i s)])]) (fun s B cb => s + 1 ≤ depH (moH H) H.n i) (fun s B cb => depH (moH H) H.n i - s) 0 none 0 ⟨(by show some (Value.int .i64 _) = some (Value.int .i64 _); congr 2), rfl, rfl, rfl, trivial⟩ ?_ ?_ ?_
      · exact KSub.nilOwn (KSub.cons (by repeat (first | exact Pick.hd | apply Pick.tl)) KSub.nil)
      · exact hdp
      rintro s B cb hs Z0 hZ0
      refine TW.seq fun Y13 hY13 => ?_
      refine TW.seq fun Y14 hY14 => ?_
      refine TW.region ?_
      refine TL.p Pu.mv ?_
      refine TL.p Pu.mv ?_
      refine TL.p (Pu.ln Try.underlying31) ?_
      refine TL.p Pu.lt ?_
      refine TL.nil ?_
      refine TQ.thenN (hY14 _ _ ?_)
      refine TW.cond rfl (fun hc2 => ?_) (fun hc2 => ?_)
      · try simp only [decide_eq_true_eq, decide_eq_false_iff_not, Bool.not_eq_true', Bool.not_eq_false', Bool.and_eq_true, Bool.or_eq_true, Bool.and_eq_false_iff, Bool.or_eq_false_iff, Int.not_lt, Int.not_le] at hc2
        have hs1 : s + 1 < depH (moH H) H.n i := by omega
        have hup := dep_in hs1
        have hub := upH_bd (moH_Mo (H := H)) hil (s + 1)
        refine TW.skip ?_
        refine TQ.thenN (hY13 _ _ ?_)
        refine TW.seq fun Y15 hY15 => ?_
        refine TW.block ?_
        refine TW.region ?_
        refine TL.p Pu.mv ?_
        refine TL.p Pu.mv ?_
        refine TL.p Pu.mv ?_
        refine TL.p Pu.mv ?_
        refine TL.p (Pu.el (q := s + 1) ty_et31 (hk := by omega)) ?_
        refine TL.p (Pu.ld ty_sc3) ?_
        refine TL.p (Pu.el (q := (upH (moH H) i (s + 1)).toNat) ty_et22 (hk := rfl)) ?_
        refine TL.p (by first | exact Pu.fb ty_fa50_0 | exact Pu.fe ty_fa50_0) ?_
        refine TL.p (Pu.ld ty_sc3) ?_
        refine TL.m Mk.bl ?_
        intro b1
        first | refine TL.a0 ty_et31 ?_ | refine TL.ap ty_et31 ?_
        intro A2 c2
        refine TL.p Pu.as ?_
        refine TL.nil ?_
        refine TQ.blkN ?_
        refine TQ.thenN (hY15 _ _ ?_)
        refine TW.region ?_
        refine TL.p Pu.mv ?_
        refine TL.p Pu.ad ?_
        refine TL.p Pu.as ?_
        refine TL.nil ?_
        refine TQ.thenN (hZ0 (s + 1) A2 c2 _ _ ?_ ?_ ⟨(by show some (Value.int .i64 _) = some (Value.int .i64 _); congr 2), rfl, rfl, rfl, trivial⟩ ?_)
        · exact (by omega)
        · exact (by first | omega | (simp only []; omega) | (simp; omega))
        · exact KSub.own (by repeat (first | exact Pick.hd | apply Pick.tl)) (fun j hj => by exact cat_rows (r := fun s => [Value.int .i64 (H.id (upH (moH H) i (s + 1)).toNat)]) rfl hj) (KSub.cons (by repeat (first | exact Pick.hd | apply Pick.tl)) KSub.nil)
      · try simp only [decide_eq_true_eq, decide_eq_false_iff_not, Bool.not_eq_true', Bool.not_eq_false', Bool.and_eq_true, Bool.or_eq_true, Bool.and_eq_false_iff, Bool.or_eq_false_iff, Int.not_lt, Int.not_le] at hc2
        have hsd : s = depH (moH H) H.n i - 1 := by omega
        refine TW.exit ?_
        refine TQ.thenX ?_
        refine TQ.thenX ?_
        refine TQ.blkX ?_
        refine TQ.thenN (hY11 _ _ ?_)
        refine TW.seq fun Y16 hY16 => ?_
        refine TW.region ?_
        refine TL.p Pu.mv ?_
        refine TL.p Pu.as ?_
        refine TL.p Pu.as ?_
        refine TL.nil ?_
        refine TQ.thenN (hY16 _ _ ?_)
        refine TW.ret ?_
        refine TQ.ret Try.results9 rfl ((.tmp rfl (.tmp rfl .nil))) ?_
        exact fun w hw => ⟨(B, cb), by simp only [hN, hc, ← hsd]; rfl, by simp only [hN, ← hsd]; exact hw.sub (KSub.own (by repeat (first | exact Pick.hd | apply Pick.tl)) (fun s hs => by unfold linV; rw [← hI9.out]) KSub.nil)⟩
end Go.Proofs.Ytlphecckplndnaa
