/-
  The holder of a leg on a day: toll's and the reference's, and what they answer.
-/
import Derived.Test.YtckiagbllkdfdaaTollG
namespace Go.Proofs.Ytckiagbllkdfdaa
set_option linter.all false
set_option linter.unusedVariables false
set_option linter.unusedSimpArgs false
open Go.RowKit
set_option maxRecDepth 100000 in
set_option maxHeartbeats 800000 in
theorem holder_any {C D B : Option Addr} {nc cc nd cd nb cb : Nat} {c : Nat → (Nat → Int) × Bool} (leg day : Int) (w : World) (hn : nc ≤ 1000) (hR : RdR w 7 C nc (fun k => claimL (c k))) :
    Calls Try.prog 18 #[.agg (custL C nc cc D nd cd B nb cb).toArray, .int .i64 leg, .int .i64 day] w (Ret w (.int .i64 (hb leg day c nc))) := by
  unfold custL
  refine K_enter (S := []) (K := []) Try.func18 rfl Try.ntmps18 rfl (Sat.start _) ?_
  refine TW.seq fun Y1 hY1 => ?_
  refine TW.region ?_
  refine TL.m Mk.bx ?_
  intro b1
  refine TL.p Pu.as ?_
  refine TL.nil ?_
  refine TQ.thenN (hY1 _ _ ?_)
  refine TW.seq fun Y2 hY2 => ?_
  refine TW.region ?_
  refine TL.m (Mk.al ty_zr3) ?_
  intro b2
  first | refine TL.st ty_sz3 ?_ | refine TL.se ty_sz3 ?_
  refine TL.nil ?_
  refine TQ.thenN (hY2 _ _ ?_)
  refine TW.seq fun Y3 hY3 => ?_
  refine TW.region ?_
  refine TL.p Pu.fn ?_
  refine TL.p Pu.as ?_
  refine TL.nil ?_
  refine TQ.thenN (hY3 _ _ ?_)
  refine TW.seq fun Y4 hY4 => ?_
  refine TW.seq fun Y5 hY5 => ?_
  refine TW.region ?_
  refine TL.p (by first | exact Pu.fb ty_fa30_0 | exact Pu.fe ty_fa30_0) ?_
  refine TL.p (Pu.ld ty_sc26) ?_
  refine TL.p (Pu.ln Try.underlying26) ?_
  refine TL.p Pu.mv ?_
  refine TL.nil ?_
  refine TQ.thenN (hY5 _ _ ?_)
  refine TW.block ?_
  refine TW.loop1 (fun (k : Nat) => [(15, .int .i64 (k : Int)), (14, .int .i64 (nc : Int)), (13, .slice C nc cc), (8, .func (.func 33) #[] #[.pointer (some ⟨b2, 0, none⟩), .pointer (some ⟨b1, 0, none⟩)]), (7, .pointer (some ⟨b2, 0, none⟩)), (3, .pointer (some ⟨b1, 0, none⟩)), (1, .int .i64 leg), (2, .int .i64 day)]) (fun k => [.blk b2 3 [.int .i64 (hb leg day c k)], .blk b1 30 [.slice C nc cc, .slice D nd cd, .slice B nb cb]]) (fun k => k ≤ nc) (fun k => nc - k) 0 (by repeat (first | exact trivial | refine ⟨rfl, ?_⟩ | refine ⟨trivial, ?_⟩)) ?_ ?_ ?_
  · exact (by repeat (first | exact KSub.nil | refine KSub.cons (by repeat (first | exact Pick.hd | apply Pick.tl)) ?_))
  · exact Nat.zero_le _
  rintro k hk Z0 hZ0
  refine TW.seq fun Y6 hY6 => ?_
  refine TW.region ?_
  refine TL.p Pu.lt ?_
  refine TL.nil ?_
  refine TQ.thenN (hY6 _ _ ?_)
  refine TW.seq fun Y7 hY7 => ?_
  refine TW.cond rfl (fun hc0 => ?_) (fun hc0 => ?_)
  · try simp only [decide_eq_true_eq, decide_eq_false_iff_not, Bool.not_eq_true', Bool.not_eq_false', Bool.and_eq_true, Bool.or_eq_true, Bool.and_eq_false_iff, Bool.or_eq_false_iff, Int.not_lt, Int.not_le] at hc0
    have hkn : k < nc := by omega
    have hbd := hb_bd (leg := leg) (day := day) (c := c) k
    refine TW.skip ?_
    refine TQ.thenN (hY7 _ _ ?_)
    refine TW.seq fun Y8 hY8 => ?_
    refine TW.block ?_
    refine TW.seq fun Y9 hY9 => ?_
    refine TW.region ?_
    refine TL.p Pu.mv ?_
    refine TL.p (Pu.el ty_et26) ?_
    refine TL.p (Pu.lds ty_ag62) ?_
    refine TL.m (Mk.al ty_zr62) ?_
    intro b3
    refine TL.p Pu.as ?_
    first | refine TL.st ty_sz62 ?_ | refine TL.se ty_sz62 ?_
    refine TL.nil ?_
    refine TQ.thenN (hY9 _ _ ?_)
    refine TW.seq fun Y10 hY10 => ?_
    refine TW.join [(34, .bool (hitB leg day (c k) && olderB (c k) (hb leg day c k) c))] ?_ (fun hJ1 => ?_)
    · refine TQ.thenN (hY10 _ _ ?_)
      refine TW.cond rfl (fun hc1 => ?_) (fun hc1 => ?_)
      · try simp only [decide_eq_true_eq, decide_eq_false_iff_not, Bool.not_eq_true', Bool.not_eq_false', Bool.and_eq_true, Bool.or_eq_true, Bool.and_eq_false_iff, Bool.or_eq_false_iff, Int.not_lt, Int.not_le] at hc1
        have hstep : (k : Int) = hb leg day c (k + 1) := by
          simp only [hb, Bool.and_eq_true]
          rw [if_pos hc1]
        refine TW.region ?_
        refine TL.p Pu.mv ?_
        first | refine TL.st ty_sz3 ?_ | refine TL.se ty_sz3 ?_
        refine TL.nil ?_
        refine TQ.blkN ?_
        refine TQ.thenN (hY8 _ _ ?_)
        refine TW.region ?_
        refine TL.p Pu.ad ?_
        refine TL.p Pu.mv ?_
        refine TL.nil ?_
        refine TQ.thenN (hZ0 (k + 1) _ _ ?_ ?_ (by repeat (first | exact trivial | refine ⟨rfl, ?_⟩ | refine ⟨trivial, ?_⟩)) ?_)
        · exact (by omega)
        · exact (by first | omega | (simp only []; omega) | (simp; omega))
        · refine KSub.val (by repeat (first | exact Pick.hd | apply Pick.tl)) hstep (by repeat (first | exact KSub.nil | refine KSub.cons (by repeat (first | exact Pick.hd | apply Pick.tl)) ?_))
      · try simp only [decide_eq_true_eq, decide_eq_false_iff_not, Bool.not_eq_true', Bool.not_eq_false', Bool.and_eq_true, Bool.or_eq_true, Bool.and_eq_false_iff, Bool.or_eq_false_iff, Int.not_lt, Int.not_le] at hc1
        have hstep : hb leg day c k = hb leg day c (k + 1) := by
          have : ¬ ((hitB leg day (c k) && olderB (c k) (hb leg day c k) c) = true) := by
            intro h
            rw [Bool.and_eq_true] at h
            simp [h.1, h.2] at hc1
          simp only [hb]
          rw [if_neg this]
        refine TW.skip ?_
        refine TQ.blkN ?_
        refine TQ.thenN (hY8 _ _ ?_)
        refine TW.region ?_
        refine TL.p Pu.ad ?_
        refine TL.p Pu.mv ?_
        refine TL.nil ?_
        refine TQ.thenN (hZ0 (k + 1) _ _ ?_ ?_ (by repeat (first | exact trivial | refine ⟨rfl, ?_⟩ | refine ⟨trivial, ?_⟩)) ?_)
        · exact (by omega)
        · exact (by first | omega | (simp only []; omega) | (simp; omega))
        · refine KSub.val (by repeat (first | exact Pick.hd | apply Pick.tl)) hstep (by repeat (first | exact KSub.nil | refine KSub.cons (by repeat (first | exact Pick.hd | apply Pick.tl)) ?_))
    refine TW.region ?_
    refine TL.p (by first | exact Pu.fb ty_fa62_0 | exact Pu.fe ty_fa62_0) ?_
    refine TL.p (Pu.ld ty_sc3) ?_
    refine TL.p Pu.mv ?_
    refine TL.p Pu.eq ?_
    refine TL.p Pu.mv ?_
    refine TL.guard (t := 24) rfl (fun hg1 => ?_) (fun hg1 => ?_)
    · refine TL.gd (Pu.lds ty_ag62) ?_
      refine TL.gd Pu.fc ?_
      refine TL.gd Pu.mv ?_
      refine TL.cr rfl (enters Try.func36 rfl rfl) (fun w hw => by
          exact holds_any _ _ claimMeth (enters Try.func82 rfl rfl) (fun w => claimDays_any (c k) w)) ?_
      refine TL.p Pu.kt ?_
      refine TL.p Pu.mv ?_
      refine TL.guard (t := 30) rfl (fun hg2 => ?_) (fun hg2 => ?_)
      · refine TL.gd Pu.mv ?_
        refine TL.gd (Pu.lds ty_ag62) ?_
        refine TL.cv rfl rfl (enters Try.func33 rfl rfl) (fun w hw => by
            have h1 := OldB.of_blk (hw.holds (.blk b2 3 [.int .i64 (hb leg day c k)]) (by simp))
            have h2 := OldB.of_blk (hw.holds (.blk b1 30 (custL C nc cc D nd cd B nb cb)) (by simp [custL]))
            exact older_any (c k) (hb leg day c k) w ⟨hbd.1, by omega⟩ hn (hR.sat hw Apart.nil) h1 h2) ?_
        refine TL.p Pu.kt ?_
        refine TL.nil ?_
        exact TQ.sub (by repeat (first | exact trivial | refine ⟨rfl, ?_⟩ | refine ⟨trivial, ?_⟩ | refine ⟨(by show some (Value.bool _) = some (Value.bool _); simp [hg1, hg2, hitB]), ?_⟩)) (by repeat (first | exact KSub.nil | refine KSub.cons (by repeat (first | exact Pick.hd | apply Pick.tl)) ?_)) hJ1
      · refine TL.gs ?_
        refine TL.gs ?_
        refine TL.gs ?_
        refine TL.p Pu.kf ?_
        refine TL.nil ?_
        exact TQ.sub (by repeat (first | exact trivial | refine ⟨rfl, ?_⟩ | refine ⟨trivial, ?_⟩ | refine ⟨(by show some (Value.bool _) = some (Value.bool _); simp [hg1, hg2, hitB]), ?_⟩)) (by repeat (first | exact KSub.nil | refine KSub.cons (by repeat (first | exact Pick.hd | apply Pick.tl)) ?_)) hJ1
    · refine TL.gs ?_
      refine TL.gs ?_
      refine TL.gs ?_
      refine TL.gs ?_
      refine TL.p Pu.kf ?_
      refine TL.p Pu.mv ?_
      refine TL.gs ?_
      refine TL.gs ?_
      refine TL.gs ?_
      refine TL.p Pu.kf ?_
      refine TL.nil ?_
      exact TQ.sub (by repeat (first | exact trivial | refine ⟨rfl, ?_⟩ | refine ⟨trivial, ?_⟩ | refine ⟨(by show some (Value.bool _) = some (Value.bool _); simp [hg1, hitB]), ?_⟩)) (by repeat (first | exact KSub.nil | refine KSub.cons (by repeat (first | exact Pick.hd | apply Pick.tl)) ?_)) hJ1
  · try simp only [decide_eq_true_eq, decide_eq_false_iff_not, Bool.not_eq_true', Bool.not_eq_false', Bool.and_eq_true, Bool.or_eq_true, Bool.and_eq_false_iff, Bool.or_eq_false_iff, Int.not_lt, Int.not_le] at hc0
    obtain rfl : k = nc := by omega
    refine TW.exit ?_
    refine TQ.thenX ?_
    refine TQ.thenX ?_
    refine TQ.blkX ?_
    refine TQ.thenN (hY4 _ _ ?_)
    refine TW.seq fun Y11 hY11 => ?_
    refine TW.region ?_
    refine TL.p (Pu.ld ty_sc3) ?_
    refine TL.p Pu.as ?_
    refine TL.nil ?_
    refine TQ.thenN (hY11 _ _ ?_)
    refine TW.ret ?_
    refine TQ.ret Try.results18 rfl ((.tmp rfl .nil)) ?_
    exact fun w hw => Ret.of hw
set_option maxRecDepth 100000 in
set_option maxHeartbeats 1600000 in
theorem holderOf_any {C D B : Option Addr} {nc cc nd cd nb cb : Nat} {c : Nat → (Nat → Int) × Bool} (leg day : Int) (w : World) (hn : nc ≤ 1000) (hR : RdR w 7 C nc (fun k => claimL (c k))) :
    Calls Try.prog 20 #[.agg (custL C nc cc D nd cd B nb cb).toArray, .int .i64 leg, .int .i64 day] w (Ret w (.int .i64 (hb leg day c nc))) := by
  unfold custL
  refine K_enter (S := []) (K := []) Try.func20 rfl Try.ntmps20 rfl (Sat.start _) ?_
  refine TW.seq fun Y1 hY1 => ?_
  refine TW.region ?_
  refine TL.m Mk.bx ?_
  intro b1
  refine TL.p Pu.as ?_
  refine TL.nil ?_
  refine TQ.thenN (hY1 _ _ ?_)
  refine TW.seq fun Y2 hY2 => ?_
  refine TW.region ?_
  refine TL.p Pu.as ?_
  refine TL.nil ?_
  refine TQ.thenN (hY2 _ _ ?_)
  refine TW.seq fun Y3 hY3 => ?_
  refine TW.seq fun Y4 hY4 => ?_
  refine TW.region ?_
  refine TL.p Pu.as ?_
  refine TL.nil ?_
  refine TQ.thenN (hY4 _ _ ?_)
  refine TW.block ?_
  refine TW.loop1 (fun (k : Nat) => [(8, .int .i64 (k : Int)), (7, .int .i64 (hb leg day c k)), (3, .pointer (some ⟨b1, 0, none⟩)), (1, .int .i64 leg), (2, .int .i64 day)]) (fun k => [.blk b1 30 [.slice C nc cc, .slice D nd cd, .slice B nb cb]]) (fun k => k ≤ nc) (fun k => nc - k) 0 (by repeat (first | exact trivial | refine ⟨rfl, ?_⟩ | refine ⟨trivial, ?_⟩)) ?_ ?_ ?_
  · exact (by repeat (first | exact KSub.nil | refine KSub.cons (by repeat (first | exact Pick.hd | apply Pick.tl)) ?_))
  · exact Nat.zero_le _
  rintro k hk Z0 hZ0
  refine TW.seq fun Y5 hY5 => ?_
  refine TW.seq fun Y6 hY6 => ?_
  refine TW.region ?_
  refine TL.p Pu.mv ?_
  refine TL.p (by first | exact Pu.fb ty_fa30_0 | exact Pu.fe ty_fa30_0) ?_
  refine TL.p (Pu.ld ty_sc26) ?_
  refine TL.p (Pu.ln Try.underlying26) ?_
  refine TL.p Pu.lt ?_
  refine TL.nil ?_
  refine TQ.thenN (hY6 _ _ ?_)
  refine TW.cond rfl (fun hc0 => ?_) (fun hc0 => ?_)
  · try simp only [decide_eq_true_eq, decide_eq_false_iff_not, Bool.not_eq_true', Bool.not_eq_false', Bool.and_eq_true, Bool.or_eq_true, Bool.and_eq_false_iff, Bool.or_eq_false_iff, Int.not_lt, Int.not_le] at hc0
    have hkn : k < nc := by omega
    have hbd := hb_bd (leg := leg) (day := day) (c := c) k
    refine TW.skip ?_
    refine TQ.thenN (hY5 _ _ ?_)
    refine TW.seq fun Y7 hY7 => ?_
    refine TW.block ?_
    refine TW.seq fun Y8 hY8 => ?_
    refine TW.region ?_
    refine TL.p (by first | exact Pu.fb ty_fa30_0 | exact Pu.fe ty_fa30_0) ?_
    refine TL.p (Pu.ld ty_sc26) ?_
    refine TL.p Pu.mv ?_
    refine TL.p (Pu.el ty_et26) ?_
    refine TL.p (Pu.lds ty_ag62) ?_
    refine TL.m (Mk.al ty_zr62) ?_
    intro b2
    first | refine TL.st ty_sz62 ?_ | refine TL.se ty_sz62 ?_
    refine TL.nil ?_
    refine TQ.thenN (hY8 _ _ ?_)
    refine TW.seq fun Y9 hY9 => ?_
    refine TW.seq fun Y10 hY10 => ?_
    refine TW.join [(34, .bool (!hitB leg day (c k)))] ?_ (fun hJ1 => ?_)
    · refine TQ.thenN (hY10 _ _ ?_)
      refine TW.cond rfl (fun hc1 => ?_) (fun hc1 => ?_)
      · try simp only [decide_eq_true_eq, decide_eq_false_iff_not, Bool.not_eq_true', Bool.not_eq_false', Bool.and_eq_true, Bool.or_eq_true, Bool.and_eq_false_iff, Bool.or_eq_false_iff, Int.not_lt, Int.not_le] at hc1
        have hstep : hb leg day c k = hb leg day c (k + 1) := by
          simp only [hb]
          rw [hc1]
          rfl
        refine TW.exit ?_
        refine TQ.thenX ?_
        refine TQ.blkX ?_
        refine TQ.thenN (hY7 _ _ ?_)
        refine TW.region ?_
        refine TL.p Pu.mv ?_
        refine TL.p Pu.ad ?_
        refine TL.p Pu.as ?_
        refine TL.nil ?_
        refine TQ.thenN (hZ0 (k + 1) _ _ ?_ ?_ (by refine ⟨rfl, ⟨congrArg (fun z => some (Value.int .i64 z)) hstep, ?_⟩⟩; repeat (first | exact trivial | refine ⟨rfl, ?_⟩ | refine ⟨trivial, ?_⟩)) ?_)
        · exact (by omega)
        · exact (by first | omega | (simp only []; omega) | (simp; omega))
        · exact (by repeat (first | exact KSub.nil | refine KSub.cons (by repeat (first | exact Pick.hd | apply Pick.tl)) ?_))
      · try simp only [decide_eq_true_eq, decide_eq_false_iff_not, Bool.not_eq_true', Bool.not_eq_false', Bool.and_eq_true, Bool.or_eq_true, Bool.and_eq_false_iff, Bool.or_eq_false_iff, Int.not_lt, Int.not_le] at hc1
        have hhit : hitB leg day (c k) = true := hc1
        refine TW.skip ?_
        refine TQ.thenN (hY9 _ _ ?_)
        refine TW.seq fun Y11 hY11 => ?_
        refine TW.join [(69, .bool (olderB (c k) (hb leg day c k) c))] ?_ (fun hJ2 => ?_)
        · refine TQ.thenN (hY11 _ _ ?_)
          refine TW.cond rfl (fun hc2 => ?_) (fun hc2 => ?_)
          · try simp only [decide_eq_true_eq, decide_eq_false_iff_not, Bool.not_eq_true', Bool.not_eq_false', Bool.and_eq_true, Bool.or_eq_true, Bool.and_eq_false_iff, Bool.or_eq_false_iff, Int.not_lt, Int.not_le] at hc2
            have hstep : (k : Int) = hb leg day c (k + 1) := by
              simp only [hb]
              rw [hhit, hc2]; rfl
            refine TW.region ?_
            refine TL.p Pu.mv ?_
            refine TL.p Pu.as ?_
            refine TL.nil ?_
            refine TQ.blkN ?_
            refine TQ.thenN (hY7 _ _ ?_)
            refine TW.region ?_
            refine TL.p Pu.mv ?_
            refine TL.p Pu.ad ?_
            refine TL.p Pu.as ?_
            refine TL.nil ?_
            refine TQ.thenN (hZ0 (k + 1) _ _ ?_ ?_ (by refine ⟨rfl, ⟨congrArg (fun z => some (Value.int .i64 z)) hstep, ?_⟩⟩; repeat (first | exact trivial | refine ⟨rfl, ?_⟩ | refine ⟨trivial, ?_⟩)) ?_)
            · exact (by omega)
            · exact (by first | omega | (simp only []; omega) | (simp; omega))
            · exact (by repeat (first | exact KSub.nil | refine KSub.cons (by repeat (first | exact Pick.hd | apply Pick.tl)) ?_))
          · try simp only [decide_eq_true_eq, decide_eq_false_iff_not, Bool.not_eq_true', Bool.not_eq_false', Bool.and_eq_true, Bool.or_eq_true, Bool.and_eq_false_iff, Bool.or_eq_false_iff, Int.not_lt, Int.not_le] at hc2
            have hstep : hb leg day c k = hb leg day c (k + 1) := by
              simp only [hb]
              rw [hhit, hc2]; rfl
            refine TW.skip ?_
            refine TQ.blkN ?_
            refine TQ.thenN (hY7 _ _ ?_)
            refine TW.region ?_
            refine TL.p Pu.mv ?_
            refine TL.p Pu.ad ?_
            refine TL.p Pu.as ?_
            refine TL.nil ?_
            refine TQ.thenN (hZ0 (k + 1) _ _ ?_ ?_ (by refine ⟨rfl, ⟨congrArg (fun z => some (Value.int .i64 z)) hstep, ?_⟩⟩; repeat (first | exact trivial | refine ⟨rfl, ?_⟩ | refine ⟨trivial, ?_⟩)) ?_)
            · exact (by omega)
            · exact (by first | omega | (simp only []; omega) | (simp; omega))
            · exact (by repeat (first | exact KSub.nil | refine KSub.cons (by repeat (first | exact Pick.hd | apply Pick.tl)) ?_))
        refine TW.dw 35 ?_
        refine RK.tk Pu.mv ?_
        refine RK.tk Pu.lt ?_
        refine RK.tk Pu.mv ?_
        refine RK.guard (t := 37) rfl (fun hg1 => ?_) (fun hg1 => ?_)
        · try simp only [decide_eq_true_eq, decide_eq_false_iff_not, Bool.not_eq_true', Bool.not_eq_false', Int.natCast_pos] at hg1
          refine RK.s ?_
          refine RK.s ?_
          refine RK.s ?_
          refine RK.s ?_
          refine RK.s ?_
          refine RK.s ?_
          refine RK.s ?_
          refine RK.s ?_
          refine RK.s ?_
          refine RK.tk Pu.kt ?_
          refine RK.tk Pu.mv ?_
          refine RK.s ?_
          refine RK.s ?_
          refine RK.s ?_
          refine RK.s ?_
          refine RK.s ?_
          refine RK.s ?_
          refine RK.s ?_
          refine RK.s ?_
          refine RK.s ?_
          refine RK.s ?_
          refine RK.s ?_
          refine RK.s ?_
          refine RK.s ?_
          refine RK.s ?_
          refine RK.s ?_
          refine RK.s ?_
          refine RK.s ?_
          refine RK.s ?_
          refine RK.s ?_
          refine RK.s ?_
          refine RK.tk Pu.kt ?_
          refine RK.ch [] ?_ trivial
          refine WK.n ?_
          refine TL.nil ?_
          exact TQ.sub (by repeat (first | exact trivial | refine ⟨rfl, ?_⟩ | refine ⟨trivial, ?_⟩ | refine ⟨(by show some (Value.bool _) = some (Value.bool _); simp [hg1, olderB, lexB]), ?_⟩)) (by repeat (first | exact KSub.nil | refine KSub.cons (by repeat (first | exact Pick.hd | apply Pick.tl)) ?_)) hJ2
        · try simp only [decide_eq_true_eq, decide_eq_false_iff_not, Bool.not_eq_true', Bool.not_eq_false', Int.natCast_pos] at hg1
          refine RK.tk (by first | exact Pu.fb ty_fa62_2 | exact Pu.fe ty_fa62_2) ?_
          refine RK.tk (Pu.ld ty_sc3) ?_
          refine RK.tk (by first | exact Pu.fb ty_fa30_0 | exact Pu.fe ty_fa30_0) ?_
          refine RK.tk (Pu.ld ty_sc26) ?_
          refine RK.tk Pu.mv ?_
          refine RK.tk (Pu.el (q := (hb leg day c k).toNat) ty_et26 (hk := rfl)) ?_
          refine RK.tk (by first | exact Pu.fb ty_fa62_2 | exact Pu.fe ty_fa62_2) ?_
          refine RK.tk (Pu.ld ty_sc3) ?_
          refine RK.tk Pu.lt ?_
          refine RK.tk Pu.kf ?_
          refine RK.tk Pu.mv ?_
          refine RK.guard (t := 48) rfl (fun hg2 => ?_) (fun hg2 => ?_)
          · try simp only [decide_eq_true_eq, decide_eq_false_iff_not, Bool.not_eq_true', Bool.not_eq_false', Int.natCast_pos] at hg2
            refine RK.s ?_
            refine RK.s ?_
            refine RK.s ?_
            refine RK.s ?_
            refine RK.s ?_
            refine RK.s ?_
            refine RK.s ?_
            refine RK.s ?_
            refine RK.s ?_
            refine RK.s ?_
            refine RK.s ?_
            refine RK.s ?_
            refine RK.s ?_
            refine RK.s ?_
            refine RK.s ?_
            refine RK.s ?_
            refine RK.s ?_
            refine RK.s ?_
            refine RK.s ?_
            refine RK.s ?_
            refine RK.tk Pu.kt ?_
            refine RK.ch [] ?_ trivial
            refine WK.n ?_
            refine TL.nil ?_
            exact TQ.sub (by repeat (first | exact trivial | refine ⟨rfl, ?_⟩ | refine ⟨trivial, ?_⟩ | refine ⟨(by show some (Value.bool _) = some (Value.bool _); simp [hg1, hg2, olderB, lexB]), ?_⟩)) (by repeat (first | exact KSub.nil | refine KSub.cons (by repeat (first | exact Pick.hd | apply Pick.tl)) ?_)) hJ2
          · try simp only [decide_eq_true_eq, decide_eq_false_iff_not, Bool.not_eq_true', Bool.not_eq_false', Int.natCast_pos] at hg2
            refine RK.tk (by first | exact Pu.fb ty_fa62_2 | exact Pu.fe ty_fa62_2) ?_
            refine RK.tk (Pu.ld ty_sc3) ?_
            refine RK.tk (by first | exact Pu.fb ty_fa30_0 | exact Pu.fe ty_fa30_0) ?_
            refine RK.tk (Pu.ld ty_sc26) ?_
            refine RK.tk Pu.mv ?_
            refine RK.tk (Pu.el (q := (hb leg day c k).toNat) ty_et26 (hk := rfl)) ?_
            refine RK.tk (by first | exact Pu.fb ty_fa62_2 | exact Pu.fe ty_fa62_2) ?_
            refine RK.tk (Pu.ld ty_sc3) ?_
            refine RK.tk Pu.eq ?_
            refine RK.tk Pu.mv ?_
            refine RK.guard (t := 58) rfl (fun hg3 => ?_) (fun hg3 => ?_)
            · try simp only [decide_eq_true_eq, decide_eq_false_iff_not, Bool.not_eq_true', Bool.not_eq_false', Int.natCast_pos] at hg3
              refine RK.tk (by first | exact Pu.fb ty_fa62_1 | exact Pu.fe ty_fa62_1) ?_
              refine RK.tk (Pu.ld ty_sc3) ?_
              refine RK.tk (by first | exact Pu.fb ty_fa30_0 | exact Pu.fe ty_fa30_0) ?_
              refine RK.tk (Pu.ld ty_sc26) ?_
              refine RK.tk Pu.mv ?_
              refine RK.tk (Pu.el (q := (hb leg day c k).toNat) ty_et26 (hk := rfl)) ?_
              refine RK.tk (by first | exact Pu.fb ty_fa62_1 | exact Pu.fe ty_fa62_1) ?_
              refine RK.tk (Pu.ld ty_sc3) ?_
              refine RK.tk Pu.lt ?_
              refine RK.tk Pu.kt ?_
              refine RK.tk Pu.kf ?_
              refine RK.ch [] ?_ trivial
              refine WK.n ?_
              refine TL.nil ?_
              exact TQ.sub (by repeat (first | exact trivial | refine ⟨rfl, ?_⟩ | refine ⟨trivial, ?_⟩ | refine ⟨(by show some (Value.bool _) = some (Value.bool _); simp [hg1, hg2, hg3, olderB, lexB]), ?_⟩)) (by repeat (first | exact KSub.nil | refine KSub.cons (by repeat (first | exact Pick.hd | apply Pick.tl)) ?_)) hJ2
            · try simp only [decide_eq_true_eq, decide_eq_false_iff_not, Bool.not_eq_true', Bool.not_eq_false', Int.natCast_pos] at hg3
              refine RK.s ?_
              refine RK.s ?_
              refine RK.s ?_
              refine RK.s ?_
              refine RK.s ?_
              refine RK.s ?_
              refine RK.s ?_
              refine RK.s ?_
              refine RK.s ?_
              refine RK.tk Pu.kf ?_
              refine RK.tk Pu.kf ?_
              refine RK.ch [] ?_ trivial
              refine WK.n ?_
              refine TL.nil ?_
              exact TQ.sub (by repeat (first | exact trivial | refine ⟨rfl, ?_⟩ | refine ⟨trivial, ?_⟩ | refine ⟨(by show some (Value.bool _) = some (Value.bool _); simp [hg1, hg2, hg3, olderB, lexB]), ?_⟩)) (by repeat (first | exact KSub.nil | refine KSub.cons (by repeat (first | exact Pick.hd | apply Pick.tl)) ?_)) hJ2
    refine TW.region ?_
    refine TL.p (by first | exact Pu.fb ty_fa62_0 | exact Pu.fe ty_fa62_0) ?_
    refine TL.p (Pu.ld ty_sc3) ?_
    refine TL.p Pu.mv ?_
    refine TL.p Pu.ne ?_
    refine TL.p Pu.mv ?_
    refine TL.guard (t := 26) rfl (fun hg4 => ?_) (fun hg4 => ?_)
    · try simp only [decide_eq_true_eq, decide_eq_false_iff_not, Bool.not_eq_true', Bool.not_eq_false', Int.natCast_pos] at hg4
      refine TL.gs ?_
      refine TL.gs ?_
      refine TL.gs ?_
      refine TL.gs ?_
      refine TL.gs ?_
      refine TL.gs ?_
      refine TL.gs ?_
      refine TL.p Pu.kt ?_
      refine TL.nil ?_
      exact TQ.sub (by repeat (first | exact trivial | refine ⟨rfl, ?_⟩ | refine ⟨trivial, ?_⟩ | refine ⟨(by show some (Value.bool _) = some (Value.bool _); simp [hg4, hitB]), ?_⟩)) (by repeat (first | exact KSub.nil | refine KSub.cons (by repeat (first | exact Pick.hd | apply Pick.tl)) ?_)) hJ1
    · try simp only [decide_eq_true_eq, decide_eq_false_iff_not, Bool.not_eq_true', Bool.not_eq_false', Int.natCast_pos] at hg4
      refine TL.gd Pu.mv ?_
      refine TL.gd (by first | exact Pu.fb ty_fa62_2 | exact Pu.fe ty_fa62_2) ?_
      refine TL.gd (Pu.ld ty_sc3) ?_
      refine TL.gd (by first | exact Pu.fb ty_fa62_3 | exact Pu.fe ty_fa62_3) ?_
      refine TL.gd (Pu.ld ty_sc3) ?_
      refine TL.cr rfl (enters Try.func19 rfl rfl) (fun w hw => by
          exact within7_any _ _ _ _) ?_
      refine TL.gd Pu.no ?_
      refine TL.p Pu.kf ?_
      refine TL.nil ?_
      exact TQ.sub (by repeat (first | exact trivial | refine ⟨rfl, ?_⟩ | refine ⟨trivial, ?_⟩ | refine ⟨(by show some (Value.bool _) = some (Value.bool _); simp [hg4, hitB]), ?_⟩)) (by repeat (first | exact KSub.nil | refine KSub.cons (by repeat (first | exact Pick.hd | apply Pick.tl)) ?_)) hJ1
  · try simp only [decide_eq_true_eq, decide_eq_false_iff_not, Bool.not_eq_true', Bool.not_eq_false', Bool.and_eq_true, Bool.or_eq_true, Bool.and_eq_false_iff, Bool.or_eq_false_iff, Int.not_lt, Int.not_le] at hc0
    obtain rfl : k = nc := by omega
    refine TW.exit ?_
    refine TQ.thenX ?_
    refine TQ.thenX ?_
    refine TQ.blkX ?_
    refine TQ.thenN (hY3 _ _ ?_)
    refine TW.seq fun Y12 hY12 => ?_
    refine TW.region ?_
    refine TL.p Pu.mv ?_
    refine TL.p Pu.as ?_
    refine TL.nil ?_
    refine TQ.thenN (hY12 _ _ ?_)
    refine TW.ret ?_
    refine TQ.ret Try.results20 rfl ((.tmp rfl .nil)) ?_
    exact fun w hw => Ret.of hw
end Go.Proofs.Ytckiagbllkdfdaa
