/-
  The reference's comparisons of lands and of customs that are the same.
-/
import Derived.Test.YtckiagbllkdfdaaTollM
namespace Go.Proofs.Ytckiagbllkdfdaa
set_option linter.all false
set_option linter.unusedVariables false
set_option linter.unusedSimpArgs false
open Go.RowKit
set_option maxRecDepth 100000 in
set_option maxHeartbeats 4000000 in
theorem sameCustom_any {C D B C' D' B' : Option Addr} {nc cc nd cd nb cb cc' cd' cb' : Nat} {c : Nat → (Nat → Int) × Bool} {d b : Nat → Nat → Int} {w : World} (k : CustIn w C nc D nd B nb c d b) (k' : CustIn w C' nc D' nd B' nb c d b) :
    Calls Try.prog 15 #[.agg (custL C nc cc D nd cd B nb cb).toArray, .agg (custL C' nc cc' D' nd cd' B' nb cb').toArray] w (Ret w (.bool true)) := by
  have hRC := k.hC
  have hRD := k.hD
  have hRB := k.hB
  have hRC' := k'.hC
  have hRD' := k'.hD
  have hRB' := k'.hB
  have hnc := k.hnc
  have hnd := k.hnd
  have hnb := k.hnb
  unfold custL
  refine K_enter (S := []) (K := []) Try.func15 rfl Try.ntmps15 rfl (Sat.start _) ?_
  refine TW.seq fun Y1 hY1 => ?_
  refine TW.region ?_
  refine TL.m Mk.bx ?_
  intro b1
  refine TL.m Mk.bx ?_
  intro b2
  refine TL.p Pu.as ?_
  refine TL.nil ?_
  refine TQ.thenN (hY1 _ _ ?_)
  refine TW.seq fun Y2 hY2 => ?_
  refine TW.seq fun Y3 hY3 => ?_
  refine TW.region ?_
  refine TL.p (by first | exact Pu.fb ty_fa30_0 | exact Pu.fe ty_fa30_0) ?_
  refine TL.p (Pu.ld ty_sc26) ?_
  refine TL.p (Pu.ln Try.underlying26) ?_
  refine TL.p (by first | exact Pu.fb ty_fa30_0 | exact Pu.fe ty_fa30_0) ?_
  refine TL.p (Pu.ld ty_sc26) ?_
  refine TL.p (Pu.ln Try.underlying26) ?_
  refine TL.p Pu.ne ?_
  refine TL.lit (t := 14) (b' := false) rfl ((by simp)) ?_
  refine TL.p Pu.mv ?_
  refine TL.gd (by first | exact Pu.fb ty_fa30_1 | exact Pu.fe ty_fa30_1) ?_
  refine TL.gd (Pu.ld ty_sc27) ?_
  refine TL.gd (Pu.ln Try.underlying27) ?_
  refine TL.gd (by first | exact Pu.fb ty_fa30_1 | exact Pu.fe ty_fa30_1) ?_
  refine TL.gd (Pu.ld ty_sc27) ?_
  refine TL.gd (Pu.ln Try.underlying27) ?_
  refine TL.gd Pu.ne ?_
  refine TL.lit (t := 22) (b' := false) rfl ((by simp)) ?_
  refine TL.p Pu.kf ?_
  refine TL.p Pu.mv ?_
  refine TL.gd (by first | exact Pu.fb ty_fa30_2 | exact Pu.fe ty_fa30_2) ?_
  refine TL.gd (Pu.ld ty_sc28) ?_
  refine TL.gd (Pu.ln Try.underlying28) ?_
  refine TL.gd (by first | exact Pu.fb ty_fa30_2 | exact Pu.fe ty_fa30_2) ?_
  refine TL.gd (Pu.ld ty_sc28) ?_
  refine TL.gd (Pu.ln Try.underlying28) ?_
  refine TL.gd Pu.ne ?_
  refine TL.lit (t := 31) (b' := false) rfl ((by simp)) ?_
  refine TL.p Pu.kf ?_
  refine TL.nil ?_
  refine TQ.thenN (hY3 _ _ ?_)
  refine TW.condF rfl rfl ?_
  refine TW.skip ?_
  refine TQ.thenN (hY2 _ _ ?_)
  refine TW.seq fun Y4 hY4 => ?_
  refine TW.seq fun Y5 hY5 => ?_
  refine TW.region ?_
  refine TL.p Pu.as ?_
  refine TL.nil ?_
  refine TQ.thenN (hY5 _ _ ?_)
  refine TW.block ?_
  refine TW.loop1 (fun (i : Nat) => [(5, .int .i64 (i : Int)), (2, .pointer (some ⟨b1, 0, none⟩)), (3, .pointer (some ⟨b2, 0, none⟩))]) (fun i => [.blk b1 30 [.slice C nc cc, .slice D nd cd, .slice B nb cb], .blk b2 30 [.slice C' nc cc', .slice D' nd cd', .slice B' nb cb']]) (fun i => i ≤ nc) (fun i => nc - i) 0 (by repeat (first | exact trivial | refine ⟨rfl, ?_⟩ | refine ⟨trivial, ?_⟩)) ?_ ?_ ?_
  · exact (by repeat (first | exact KSub.nil | refine KSub.cons (by repeat (first | exact Pick.hd | apply Pick.tl)) ?_))
  · exact Nat.zero_le _
  rintro i hi Z0 hZ0
  refine TW.seq fun Y6 hY6 => ?_
  refine TW.seq fun Y7 hY7 => ?_
  refine TW.region ?_
  refine TL.p Pu.mv ?_
  refine TL.p (by first | exact Pu.fb ty_fa30_0 | exact Pu.fe ty_fa30_0) ?_
  refine TL.p (Pu.ld ty_sc26) ?_
  refine TL.p (Pu.ln Try.underlying26) ?_
  refine TL.p Pu.lt ?_
  refine TL.nil ?_
  refine TQ.thenN (hY7 _ _ ?_)
  refine TW.cond rfl (fun hc1 => ?_) (fun hc1 => ?_)
  · try simp only [decide_eq_true_eq, decide_eq_false_iff_not, Bool.not_eq_true', Bool.not_eq_false', Bool.and_eq_true, Bool.or_eq_true, Bool.and_eq_false_iff, Bool.or_eq_false_iff, Int.not_lt, Int.not_le] at hc1
    have hin : i < nc := by omega
    refine TW.skip ?_
    refine TQ.thenN (hY6 _ _ ?_)
    refine TW.seq fun Y8 hY8 => ?_
    refine TW.block ?_
    refine TW.seq fun Y9 hY9 => ?_
    refine TW.dw 11 ?_
    refine RK.tk (by first | exact Pu.fb ty_fa30_0 | exact Pu.fe ty_fa30_0) ?_
    refine RK.tk (Pu.ld ty_sc26) ?_
    refine RK.tk Pu.mv ?_
    refine RK.tk (Pu.el ty_et26) ?_
    refine RK.tk (Pu.lds ty_ag62) ?_
    refine RK.tk (by first | exact Pu.fb ty_fa30_0 | exact Pu.fe ty_fa30_0) ?_
    refine RK.tk (Pu.ld ty_sc26) ?_
    refine RK.tk Pu.mv ?_
    refine RK.tk (Pu.el ty_et26) ?_
    refine RK.tk (Pu.lds ty_ag62) ?_
    refine RK.tk (Pu.bn rfl rfl (fun w => neClaim _ _ (c i) w)) ?_
    refine RK.ch [] ?_ trivial
    refine WK.n ?_
    refine TL.nil ?_
    refine TQ.thenN (hY9 _ _ ?_)
    refine TW.condF rfl (rfl) ?_
    refine TW.skip ?_
    refine TQ.blkN ?_
    refine TQ.thenN (hY8 _ _ ?_)
    refine TW.region ?_
    refine TL.p Pu.mv ?_
    refine TL.p Pu.ad ?_
    refine TL.p Pu.as ?_
    refine TL.nil ?_
    refine TQ.thenN (hZ0 (i + 1) _ _ ?_ ?_ (by repeat (first | exact trivial | refine ⟨rfl, ?_⟩ | refine ⟨trivial, ?_⟩)) ?_)
    · exact (by omega)
    · exact (by first | omega | (simp only []; omega) | (simp; omega))
    · exact (by repeat (first | exact KSub.nil | refine KSub.cons (by repeat (first | exact Pick.hd | apply Pick.tl)) ?_))
  · try simp only [decide_eq_true_eq, decide_eq_false_iff_not, Bool.not_eq_true', Bool.not_eq_false', Bool.and_eq_true, Bool.or_eq_true, Bool.and_eq_false_iff, Bool.or_eq_false_iff, Int.not_lt, Int.not_le] at hc1
    have hin : i = nc := by omega
    refine TW.exit ?_
    refine TQ.thenX ?_
    refine TQ.thenX ?_
    refine TQ.blkX ?_
    refine TQ.thenN (hY4 _ _ ?_)
    refine TW.seq fun Y10 hY10 => ?_
    refine TW.seq fun Y11 hY11 => ?_
    refine TW.region ?_
    refine TL.p Pu.as ?_
    refine TL.nil ?_
    refine TQ.thenN (hY11 _ _ ?_)
    refine TW.block ?_
    refine TW.loop1 (fun (i : Nat) => [(6, .int .i64 (i : Int)), (2, .pointer (some ⟨b1, 0, none⟩)), (3, .pointer (some ⟨b2, 0, none⟩))]) (fun i => [.blk b1 30 [.slice C nc cc, .slice D nd cd, .slice B nb cb], .blk b2 30 [.slice C' nc cc', .slice D' nd cd', .slice B' nb cb']]) (fun i => i ≤ nd) (fun i => nd - i) 0 (by repeat (first | exact trivial | refine ⟨rfl, ?_⟩ | refine ⟨trivial, ?_⟩)) ?_ ?_ ?_
    · exact (by repeat (first | exact KSub.nil | refine KSub.cons (by repeat (first | exact Pick.hd | apply Pick.tl)) ?_))
    · exact Nat.zero_le _
    rintro i hi2 Z1 hZ1
    refine TW.seq fun Y12 hY12 => ?_
    refine TW.seq fun Y13 hY13 => ?_
    refine TW.region ?_
    refine TL.p Pu.mv ?_
    refine TL.p (by first | exact Pu.fb ty_fa30_1 | exact Pu.fe ty_fa30_1) ?_
    refine TL.p (Pu.ld ty_sc27) ?_
    refine TL.p (Pu.ln Try.underlying27) ?_
    refine TL.p Pu.lt ?_
    refine TL.nil ?_
    refine TQ.thenN (hY13 _ _ ?_)
    refine TW.cond rfl (fun hc3 => ?_) (fun hc3 => ?_)
    · try simp only [decide_eq_true_eq, decide_eq_false_iff_not, Bool.not_eq_true', Bool.not_eq_false', Bool.and_eq_true, Bool.or_eq_true, Bool.and_eq_false_iff, Bool.or_eq_false_iff, Int.not_lt, Int.not_le] at hc3
      have hin2 : i < nd := by omega
      refine TW.skip ?_
      refine TQ.thenN (hY12 _ _ ?_)
      refine TW.seq fun Y14 hY14 => ?_
      refine TW.block ?_
      refine TW.seq fun Y15 hY15 => ?_
      refine TW.dw 11 ?_
      refine RK.tk (by first | exact Pu.fb ty_fa30_1 | exact Pu.fe ty_fa30_1) ?_
      refine RK.tk (Pu.ld ty_sc27) ?_
      refine RK.tk Pu.mv ?_
      refine RK.tk (Pu.el ty_et27) ?_
      refine RK.tk (Pu.lds ty_ag72) ?_
      refine RK.tk (by first | exact Pu.fb ty_fa30_1 | exact Pu.fe ty_fa30_1) ?_
      refine RK.tk (Pu.ld ty_sc27) ?_
      refine RK.tk Pu.mv ?_
      refine RK.tk (Pu.el ty_et27) ?_
      refine RK.tk (Pu.lds ty_ag72) ?_
      refine RK.tk (Pu.bn rfl rfl (fun w => neFeud _ _ (d i) w)) ?_
      refine RK.ch [] ?_ trivial
      refine WK.n ?_
      refine TL.nil ?_
      refine TQ.thenN (hY15 _ _ ?_)
      refine TW.condF rfl (rfl) ?_
      refine TW.skip ?_
      refine TQ.blkN ?_
      refine TQ.thenN (hY14 _ _ ?_)
      refine TW.region ?_
      refine TL.p Pu.mv ?_
      refine TL.p Pu.ad ?_
      refine TL.p Pu.as ?_
      refine TL.nil ?_
      refine TQ.thenN (hZ1 (i + 1) _ _ ?_ ?_ (by repeat (first | exact trivial | refine ⟨rfl, ?_⟩ | refine ⟨trivial, ?_⟩)) ?_)
      · exact (by omega)
      · exact (by first | omega | (simp only []; omega) | (simp; omega))
      · exact (by repeat (first | exact KSub.nil | refine KSub.cons (by repeat (first | exact Pick.hd | apply Pick.tl)) ?_))
    · try simp only [decide_eq_true_eq, decide_eq_false_iff_not, Bool.not_eq_true', Bool.not_eq_false', Bool.and_eq_true, Bool.or_eq_true, Bool.and_eq_false_iff, Bool.or_eq_false_iff, Int.not_lt, Int.not_le] at hc3
      have hin2 : i = nd := by omega
      refine TW.exit ?_
      refine TQ.thenX ?_
      refine TQ.thenX ?_
      refine TQ.blkX ?_
      refine TQ.thenN (hY10 _ _ ?_)
      refine TW.seq fun Y16 hY16 => ?_
      refine TW.seq fun Y17 hY17 => ?_
      refine TW.region ?_
      refine TL.p Pu.as ?_
      refine TL.nil ?_
      refine TQ.thenN (hY17 _ _ ?_)
      refine TW.block ?_
      refine TW.loop1 (fun (i : Nat) => [(7, .int .i64 (i : Int)), (2, .pointer (some ⟨b1, 0, none⟩)), (3, .pointer (some ⟨b2, 0, none⟩))]) (fun i => [.blk b1 30 [.slice C nc cc, .slice D nd cd, .slice B nb cb], .blk b2 30 [.slice C' nc cc', .slice D' nd cd', .slice B' nb cb']]) (fun i => i ≤ nb) (fun i => nb - i) 0 (by repeat (first | exact trivial | refine ⟨rfl, ?_⟩ | refine ⟨trivial, ?_⟩)) ?_ ?_ ?_
      · exact (by repeat (first | exact KSub.nil | refine KSub.cons (by repeat (first | exact Pick.hd | apply Pick.tl)) ?_))
      · exact Nat.zero_le _
      rintro i hi3 Z2 hZ2
      refine TW.seq fun Y18 hY18 => ?_
      refine TW.seq fun Y19 hY19 => ?_
      refine TW.region ?_
      refine TL.p Pu.mv ?_
      refine TL.p (by first | exact Pu.fb ty_fa30_2 | exact Pu.fe ty_fa30_2) ?_
      refine TL.p (Pu.ld ty_sc28) ?_
      refine TL.p (Pu.ln Try.underlying28) ?_
      refine TL.p Pu.lt ?_
      refine TL.nil ?_
      refine TQ.thenN (hY19 _ _ ?_)
      refine TW.cond rfl (fun hc5 => ?_) (fun hc5 => ?_)
      · try simp only [decide_eq_true_eq, decide_eq_false_iff_not, Bool.not_eq_true', Bool.not_eq_false', Bool.and_eq_true, Bool.or_eq_true, Bool.and_eq_false_iff, Bool.or_eq_false_iff, Int.not_lt, Int.not_le] at hc5
        have hin3 : i < nb := by omega
        refine TW.skip ?_
        refine TQ.thenN (hY18 _ _ ?_)
        refine TW.seq fun Y20 hY20 => ?_
        refine TW.block ?_
        refine TW.seq fun Y21 hY21 => ?_
        refine TW.dw 11 ?_
        refine RK.tk (by first | exact Pu.fb ty_fa30_2 | exact Pu.fe ty_fa30_2) ?_
        refine RK.tk (Pu.ld ty_sc28) ?_
        refine RK.tk Pu.mv ?_
        refine RK.tk (Pu.el ty_et28) ?_
        refine RK.tk (Pu.lds ty_ag77) ?_
        refine RK.tk (by first | exact Pu.fb ty_fa30_2 | exact Pu.fe ty_fa30_2) ?_
        refine RK.tk (Pu.ld ty_sc28) ?_
        refine RK.tk Pu.mv ?_
        refine RK.tk (Pu.el ty_et28) ?_
        refine RK.tk (Pu.lds ty_ag77) ?_
        refine RK.tk (Pu.bn rfl rfl (fun w => neBorder _ _ (b i) w)) ?_
        refine RK.ch [] ?_ trivial
        refine WK.n ?_
        refine TL.nil ?_
        refine TQ.thenN (hY21 _ _ ?_)
        refine TW.condF rfl (rfl) ?_
        refine TW.skip ?_
        refine TQ.blkN ?_
        refine TQ.thenN (hY20 _ _ ?_)
        refine TW.region ?_
        refine TL.p Pu.mv ?_
        refine TL.p Pu.ad ?_
        refine TL.p Pu.as ?_
        refine TL.nil ?_
        refine TQ.thenN (hZ2 (i + 1) _ _ ?_ ?_ (by repeat (first | exact trivial | refine ⟨rfl, ?_⟩ | refine ⟨trivial, ?_⟩)) ?_)
        · exact (by omega)
        · exact (by first | omega | (simp only []; omega) | (simp; omega))
        · exact (by repeat (first | exact KSub.nil | refine KSub.cons (by repeat (first | exact Pick.hd | apply Pick.tl)) ?_))
      · try simp only [decide_eq_true_eq, decide_eq_false_iff_not, Bool.not_eq_true', Bool.not_eq_false', Bool.and_eq_true, Bool.or_eq_true, Bool.and_eq_false_iff, Bool.or_eq_false_iff, Int.not_lt, Int.not_le] at hc5
        have hin3 : i = nb := by omega
        refine TW.exit ?_
        refine TQ.thenX ?_
        refine TQ.thenX ?_
        refine TQ.blkX ?_
        refine TQ.thenN (hY16 _ _ ?_)
        refine TW.seq fun Y22 hY22 => ?_
        refine TW.region ?_
        refine TL.p Pu.as ?_
        refine TL.nil ?_
        refine TQ.thenN (hY22 _ _ ?_)
        refine TW.ret ?_
        refine TQ.ret Try.results15 rfl ((.tmp rfl .nil)) ?_
        exact fun w hw => Ret.of hw
set_option maxRecDepth 100000 in
set_option maxHeartbeats 4000000 in
theorem same3_any {W A W' A' : Option Addr} {nw cw nl cl cw' cl' : Nat} {f : Nat → Nat → Int} {x : Nat → Leg} {a : Nat → Option Addr} {e : Nat → Nat} {g : Nat → Nat → Nat → Int} {w : World} (h' : LandIn w W' nw A' nl f (fun k => lgA (x k) (a k) (e k)) g) (h : LandIn w W nw A nl f x g) :
    Calls Try.prog 14 #[.agg (landL W' nw cw' A' nl cl').toArray, .agg (landL W nw cw A nl cl).toArray] w (Ret w (.bool true)) := by
  have hRW := h.hW
  have hRA := h.hA
  have hRW' := h'.hW
  have hRA' := h'.hA
  have hnw := h.hnw
  have hnl := h.hnl
  unfold landL
  refine K_enter (S := []) (K := []) Try.func14 rfl Try.ntmps14 rfl (Sat.start _) ?_
  refine TW.seq fun Y1 hY1 => ?_
  refine TW.region ?_
  refine TL.m Mk.bx ?_
  intro b1
  refine TL.m Mk.bx ?_
  intro b2
  refine TL.p Pu.as ?_
  refine TL.nil ?_
  refine TQ.thenN (hY1 _ _ ?_)
  refine TW.seq fun Y2 hY2 => ?_
  refine TW.seq fun Y3 hY3 => ?_
  refine TW.region ?_
  refine TL.p (by first | exact Pu.fb ty_fa25_0 | exact Pu.fe ty_fa25_0) ?_
  refine TL.p (Pu.ld ty_sc22) ?_
  refine TL.p (Pu.ln Try.underlying22) ?_
  refine TL.p (by first | exact Pu.fb ty_fa25_0 | exact Pu.fe ty_fa25_0) ?_
  refine TL.p (Pu.ld ty_sc22) ?_
  refine TL.p (Pu.ln Try.underlying22) ?_
  refine TL.p Pu.ne ?_
  refine TL.lit (t := 16) (b' := false) rfl ((by simp)) ?_
  refine TL.p Pu.mv ?_
  refine TL.gd (by first | exact Pu.fb ty_fa25_1 | exact Pu.fe ty_fa25_1) ?_
  refine TL.gd (Pu.ld ty_sc23) ?_
  refine TL.gd (Pu.ln Try.underlying23) ?_
  refine TL.gd (by first | exact Pu.fb ty_fa25_1 | exact Pu.fe ty_fa25_1) ?_
  refine TL.gd (Pu.ld ty_sc23) ?_
  refine TL.gd (Pu.ln Try.underlying23) ?_
  refine TL.gd Pu.ne ?_
  refine TL.lit (t := 24) (b' := false) rfl ((by simp)) ?_
  refine TL.p Pu.kf ?_
  refine TL.nil ?_
  refine TQ.thenN (hY3 _ _ ?_)
  refine TW.condF rfl rfl ?_
  refine TW.skip ?_
  refine TQ.thenN (hY2 _ _ ?_)
  refine TW.seq fun Y4 hY4 => ?_
  refine TW.seq fun Y5 hY5 => ?_
  refine TW.region ?_
  refine TL.p Pu.as ?_
  refine TL.nil ?_
  refine TQ.thenN (hY5 _ _ ?_)
  refine TW.block ?_
  refine TW.loop1 (fun (i : Nat) => [(5, .int .i64 (i : Int)), (2, .pointer (some ⟨b1, 0, none⟩)), (3, .pointer (some ⟨b2, 0, none⟩))]) (fun i => [.blk b1 25 [.slice W' nw cw', .slice A' nl cl'], .blk b2 25 [.slice W nw cw, .slice A nl cl]]) (fun i => i ≤ nw) (fun i => nw - i) 0 (by repeat (first | exact trivial | refine ⟨rfl, ?_⟩ | refine ⟨trivial, ?_⟩)) ?_ ?_ ?_
  · exact (by repeat (first | exact KSub.nil | refine KSub.cons (by repeat (first | exact Pick.hd | apply Pick.tl)) ?_))
  · exact Nat.zero_le _
  rintro i hi Z0 hZ0
  refine TW.seq fun Y6 hY6 => ?_
  refine TW.seq fun Y7 hY7 => ?_
  refine TW.region ?_
  refine TL.p Pu.mv ?_
  refine TL.p (by first | exact Pu.fb ty_fa25_0 | exact Pu.fe ty_fa25_0) ?_
  refine TL.p (Pu.ld ty_sc22) ?_
  refine TL.p (Pu.ln Try.underlying22) ?_
  refine TL.p Pu.lt ?_
  refine TL.nil ?_
  refine TQ.thenN (hY7 _ _ ?_)
  refine TW.cond rfl (fun hc1 => ?_) (fun hc1 => ?_)
  · try simp only [decide_eq_true_eq, decide_eq_false_iff_not, Bool.not_eq_true', Bool.not_eq_false', Bool.and_eq_true, Bool.or_eq_true, Bool.and_eq_false_iff, Bool.or_eq_false_iff, Int.not_lt, Int.not_le] at hc1
    have hin : i < nw := by omega
    refine TW.skip ?_
    refine TQ.thenN (hY6 _ _ ?_)
    refine TW.seq fun Y8 hY8 => ?_
    refine TW.block ?_
    refine TW.seq fun Y9 hY9 => ?_
    refine TW.dw 11 ?_
    refine RK.tk (by first | exact Pu.fb ty_fa25_0 | exact Pu.fe ty_fa25_0) ?_
    refine RK.tk (Pu.ld ty_sc22) ?_
    refine RK.tk Pu.mv ?_
    refine RK.tk (Pu.el ty_et22) ?_
    refine RK.tk (Pu.lds ty_ag83) ?_
    refine RK.tk (by first | exact Pu.fb ty_fa25_0 | exact Pu.fe ty_fa25_0) ?_
    refine RK.tk (Pu.ld ty_sc22) ?_
    refine RK.tk Pu.mv ?_
    refine RK.tk (Pu.el ty_et22) ?_
    refine RK.tk (Pu.lds ty_ag83) ?_
    refine RK.tk (Pu.bn rfl rfl (fun w => neWell _ _ (f i) w)) ?_
    refine RK.ch [] ?_ trivial
    refine WK.n ?_
    refine TL.nil ?_
    refine TQ.thenN (hY9 _ _ ?_)
    refine TW.condF rfl (rfl) ?_
    refine TW.skip ?_
    refine TQ.blkN ?_
    refine TQ.thenN (hY8 _ _ ?_)
    refine TW.region ?_
    refine TL.p Pu.mv ?_
    refine TL.p Pu.ad ?_
    refine TL.p Pu.as ?_
    refine TL.nil ?_
    refine TQ.thenN (hZ0 (i + 1) _ _ ?_ ?_ (by repeat (first | exact trivial | refine ⟨rfl, ?_⟩ | refine ⟨trivial, ?_⟩)) ?_)
    · exact (by omega)
    · exact (by first | omega | (simp only []; omega) | (simp; omega))
    · exact (by repeat (first | exact KSub.nil | refine KSub.cons (by repeat (first | exact Pick.hd | apply Pick.tl)) ?_))
  · try simp only [decide_eq_true_eq, decide_eq_false_iff_not, Bool.not_eq_true', Bool.not_eq_false', Bool.and_eq_true, Bool.or_eq_true, Bool.and_eq_false_iff, Bool.or_eq_false_iff, Int.not_lt, Int.not_le] at hc1
    have hin : i = nw := by omega
    refine TW.exit ?_
    refine TQ.thenX ?_
    refine TQ.thenX ?_
    refine TQ.blkX ?_
    refine TQ.thenN (hY4 _ _ ?_)
    refine TW.seq fun Y10 hY10 => ?_
    refine TW.seq fun Y11 hY11 => ?_
    refine TW.region ?_
    refine TL.p Pu.as ?_
    refine TL.nil ?_
    refine TQ.thenN (hY11 _ _ ?_)
    refine TW.block ?_
    refine TW.loop1 (fun (i : Nat) => [(6, .int .i64 (i : Int)), (2, .pointer (some ⟨b1, 0, none⟩)), (3, .pointer (some ⟨b2, 0, none⟩))]) (fun i => [.blk b1 25 [.slice W' nw cw', .slice A' nl cl'], .blk b2 25 [.slice W nw cw, .slice A nl cl]]) (fun i => i ≤ nl) (fun i => nl - i) 0 (by repeat (first | exact trivial | refine ⟨rfl, ?_⟩ | refine ⟨trivial, ?_⟩)) ?_ ?_ ?_
    · exact (by repeat (first | exact KSub.nil | refine KSub.cons (by repeat (first | exact Pick.hd | apply Pick.tl)) ?_))
    · exact Nat.zero_le _
    rintro i hi2 Z1 hZ1
    refine TW.seq fun Y12 hY12 => ?_
    refine TW.seq fun Y13 hY13 => ?_
    refine TW.region ?_
    refine TL.p Pu.mv ?_
    refine TL.p (by first | exact Pu.fb ty_fa25_1 | exact Pu.fe ty_fa25_1) ?_
    refine TL.p (Pu.ld ty_sc23) ?_
    refine TL.p (Pu.ln Try.underlying23) ?_
    refine TL.p Pu.lt ?_
    refine TL.nil ?_
    refine TQ.thenN (hY13 _ _ ?_)
    refine TW.cond rfl (fun hc3 => ?_) (fun hc3 => ?_)
    · try simp only [decide_eq_true_eq, decide_eq_false_iff_not, Bool.not_eq_true', Bool.not_eq_false', Bool.and_eq_true, Bool.or_eq_true, Bool.and_eq_false_iff, Bool.or_eq_false_iff, Int.not_lt, Int.not_le] at hc3
      have hin2 : i < nl := by omega
      have hG1 := h.hG i hin2
      have hG2 : RdR w 4 (a i) (x i).n (fun j => gateL (g i j)) := h'.hG i hin2
      have hgn := h.hn i hin2
      refine TW.skip ?_
      refine TQ.thenN (hY12 _ _ ?_)
      refine TW.seq fun Y14 hY14 => ?_
      refine TW.block ?_
      refine TW.seq fun Y15 hY15 => ?_
      refine TW.expl (fun (⟨x10, x11⟩ : Nat × Nat) => ([(6, .int .i64 (i : Int)), (7, .pointer (some ⟨x10, 0, none⟩)), (8, .pointer (some ⟨x11, 0, none⟩)), (2, .pointer (some ⟨b1, 0, none⟩)), (3, .pointer (some ⟨b2, 0, none⟩))] : Fr)) (fun (⟨x10, x11⟩ : Nat × Nat) => [.blk x10 58 [.int .i64 ((x i).u 0), .int .i64 ((x i).u 1), .int .i64 ((x i).u 2), .int .i64 ((x i).u 3), .slice (a i) (x i).n (e i)], .blk x11 58 [.int .i64 ((x i).u 0), .int .i64 ((x i).u 1), .int .i64 ((x i).u 2), .int .i64 ((x i).u 3), .slice (x i).A (x i).n (x i).c], .blk b1 25 [.slice W' nw cw', .slice A' nl cl'], .blk b2 25 [.slice W nw cw, .slice A nl cl]]) Drop.done ?_ (fun hE => ?_)
      · rintro ⟨x10, x11⟩
        refine TQ.thenN (hY15 _ _ ?_)
        refine TW.seq fun Y16 hY16 => ?_
        refine TW.seq fun Y17 hY17 => ?_
        refine TW.region ?_
        refine TL.p (by first | exact Pu.fb ty_fa58_0 | exact Pu.fe ty_fa58_0) ?_
        refine TL.p (Pu.ld ty_sc3) ?_
        refine TL.p (by first | exact Pu.fb ty_fa58_0 | exact Pu.fe ty_fa58_0) ?_
        refine TL.p (Pu.ld ty_sc3) ?_
        refine TL.p Pu.ne ?_
        refine TL.lit (t := 65) (b' := false) rfl ((by simp)) ?_
        refine TL.p Pu.mv ?_
        refine TL.gd (by first | exact Pu.fb ty_fa58_1 | exact Pu.fe ty_fa58_1) ?_
        refine TL.gd (Pu.ld ty_sc3) ?_
        refine TL.gd (by first | exact Pu.fb ty_fa58_1 | exact Pu.fe ty_fa58_1) ?_
        refine TL.gd (Pu.ld ty_sc3) ?_
        refine TL.gd Pu.ne ?_
        refine TL.lit (t := 71) (b' := false) rfl ((by simp)) ?_
        refine TL.p Pu.kf ?_
        refine TL.p Pu.mv ?_
        refine TL.gd (by first | exact Pu.fb ty_fa58_2 | exact Pu.fe ty_fa58_2) ?_
        refine TL.gd (Pu.lds ty_ag56) ?_
        refine TL.gd (by first | exact Pu.fb ty_fa58_2 | exact Pu.fe ty_fa58_2) ?_
        refine TL.gd (Pu.lds ty_ag56) ?_
        refine TL.gd (Pu.bn rfl rfl (fun w => neSpan _ _ ((x i).u 2) ((x i).u 3) w)) ?_
        refine TL.lit (t := 78) (b' := false) rfl (rfl) ?_
        refine TL.p Pu.kf ?_
        refine TL.p Pu.mv ?_
        refine TL.gd (by first | exact Pu.fb ty_fa58_3 | exact Pu.fe ty_fa58_3) ?_
        refine TL.gd (Pu.ld ty_sc54) ?_
        refine TL.gd (Pu.ln Try.underlying54) ?_
        refine TL.gd (by first | exact Pu.fb ty_fa58_3 | exact Pu.fe ty_fa58_3) ?_
        refine TL.gd (Pu.ld ty_sc54) ?_
        refine TL.gd (Pu.ln Try.underlying54) ?_
        refine TL.gd Pu.ne ?_
        refine TL.lit (t := 87) (b' := false) rfl ((by simp)) ?_
        refine TL.p Pu.kf ?_
        refine TL.nil ?_
        refine TQ.thenN (hY17 _ _ ?_)
        refine TW.condF rfl rfl ?_
        refine TW.skip ?_
        refine TQ.thenN (hY16 _ _ ?_)
        refine TW.seq fun Y18 hY18 => ?_
        refine TW.region ?_
        refine TL.p Pu.as ?_
        refine TL.nil ?_
        refine TQ.thenN (hY18 _ _ ?_)
        refine TW.block ?_
        refine TW.loop1 (fun (j : Nat) => [(9, .int .i64 (j : Int)), (6, .int .i64 (i : Int)), (7, .pointer (some ⟨x10, 0, none⟩)), (8, .pointer (some ⟨x11, 0, none⟩)), (2, .pointer (some ⟨b1, 0, none⟩)), (3, .pointer (some ⟨b2, 0, none⟩))]) (fun j => [.blk x10 58 [.int .i64 ((x i).u 0), .int .i64 ((x i).u 1), .int .i64 ((x i).u 2), .int .i64 ((x i).u 3), .slice (a i) (x i).n (e i)], .blk x11 58 [.int .i64 ((x i).u 0), .int .i64 ((x i).u 1), .int .i64 ((x i).u 2), .int .i64 ((x i).u 3), .slice (x i).A (x i).n (x i).c], .blk b1 25 [.slice W' nw cw', .slice A' nl cl'], .blk b2 25 [.slice W nw cw, .slice A nl cl]]) (fun j => j ≤ (x i).n) (fun j => (x i).n - j) 0 (by repeat (first | exact trivial | refine ⟨rfl, ?_⟩ | refine ⟨trivial, ?_⟩)) ?_ ?_ ?_
        · exact (by repeat (first | exact KSub.nil | refine KSub.cons (by repeat (first | exact Pick.hd | apply Pick.tl)) ?_))
        · exact Nat.zero_le _
        rintro j hj Z2 hZ2
        refine TW.seq fun Y19 hY19 => ?_
        refine TW.seq fun Y20 hY20 => ?_
        refine TW.region ?_
        refine TL.p Pu.mv ?_
        refine TL.p (by first | exact Pu.fb ty_fa58_3 | exact Pu.fe ty_fa58_3) ?_
        refine TL.p (Pu.ld ty_sc54) ?_
        refine TL.p (Pu.ln Try.underlying54) ?_
        refine TL.p Pu.lt ?_
        refine TL.nil ?_
        refine TQ.thenN (hY20 _ _ ?_)
        refine TW.cond rfl (fun hc5 => ?_) (fun hc5 => ?_)
        · try simp only [decide_eq_true_eq, decide_eq_false_iff_not, Bool.not_eq_true', Bool.not_eq_false', Bool.and_eq_true, Bool.or_eq_true, Bool.and_eq_false_iff, Bool.or_eq_false_iff, Int.not_lt, Int.not_le] at hc5
          have hjn : j < (x i).n := by omega
          refine TW.skip ?_
          refine TQ.thenN (hY19 _ _ ?_)
          refine TW.seq fun Y21 hY21 => ?_
          refine TW.block ?_
          refine TW.seq fun Y22 hY22 => ?_
          refine TW.dw 11 ?_
          refine RK.tk (by first | exact Pu.fb ty_fa58_3 | exact Pu.fe ty_fa58_3) ?_
          refine RK.tk (Pu.ld ty_sc54) ?_
          refine RK.tk Pu.mv ?_
          refine RK.tk (Pu.el ty_et54) ?_
          refine RK.tk (Pu.lds ty_ag85) ?_
          refine RK.tk (by first | exact Pu.fb ty_fa58_3 | exact Pu.fe ty_fa58_3) ?_
          refine RK.tk (Pu.ld ty_sc54) ?_
          refine RK.tk Pu.mv ?_
          refine RK.tk (Pu.el ty_et54) ?_
          refine RK.tk (Pu.lds ty_ag85) ?_
          refine RK.tk (Pu.bn rfl rfl (fun w => neGate _ _ (g i j) w)) ?_
          refine RK.ch [] ?_ trivial
          refine WK.n ?_
          refine TL.nil ?_
          refine TQ.thenN (hY22 _ _ ?_)
          refine TW.condF rfl (rfl) ?_
          refine TW.skip ?_
          refine TQ.blkN ?_
          refine TQ.thenN (hY21 _ _ ?_)
          refine TW.region ?_
          refine TL.p Pu.mv ?_
          refine TL.p Pu.ad ?_
          refine TL.p Pu.as ?_
          refine TL.nil ?_
          refine TQ.thenN (hZ2 (j + 1) _ _ ?_ ?_ (by repeat (first | exact trivial | refine ⟨rfl, ?_⟩ | refine ⟨trivial, ?_⟩)) ?_)
          · exact (by omega)
          · exact (by first | omega | (simp only []; omega) | (simp; omega))
          · exact (by repeat (first | exact KSub.nil | refine KSub.cons (by repeat (first | exact Pick.hd | apply Pick.tl)) ?_))
        · try simp only [decide_eq_true_eq, decide_eq_false_iff_not, Bool.not_eq_true', Bool.not_eq_false', Bool.and_eq_true, Bool.or_eq_true, Bool.and_eq_false_iff, Bool.or_eq_false_iff, Int.not_lt, Int.not_le] at hc5
          have hjn : j = (x i).n := by omega
          refine TW.exit ?_
          refine TQ.thenX ?_
          refine TQ.thenX ?_
          refine TQ.blkX ?_
          refine TQ.blkN ?_
          refine TQ.thenN (hY14 _ _ ?_)
          refine TW.region ?_
          refine TL.p Pu.mv ?_
          refine TL.p Pu.ad ?_
          refine TL.p Pu.as ?_
          refine TL.nil ?_
          refine TQ.thenN (hZ1 (i + 1) _ _ ?_ ?_ (by repeat (first | exact trivial | refine ⟨rfl, ?_⟩ | refine ⟨trivial, ?_⟩)) ?_)
          · exact (by omega)
          · exact (by first | omega | (simp only []; omega) | (simp; omega))
          · exact (by repeat (first | exact KSub.nil | refine KSub.cons (by repeat (first | exact Pick.hd | apply Pick.tl)) ?_))
      refine RG.tk 0 rfl (by first | exact Pu.fb ty_fa25_1 | exact Pu.fe ty_fa25_1) ?_
      refine RG.tk 1 rfl (Pu.ld ty_sc23) ?_
      refine RG.tk 2 rfl Pu.mv ?_
      refine RG.tk 3 rfl (Pu.el ty_et23) ?_
      refine RG.tk 4 rfl (Pu.lds ty_ag58) ?_
      refine RG.tk 5 rfl (by first | exact Pu.fb ty_fa25_1 | exact Pu.fe ty_fa25_1) ?_
      refine RG.tk 6 rfl (Pu.ld ty_sc23) ?_
      refine RG.tk 7 rfl Pu.mv ?_
      refine RG.tk 8 rfl (Pu.el ty_et23) ?_
      refine RG.tk 9 rfl (Pu.lds ty_ag58) ?_
      refine RG.a2 10 11 rfl rfl (fun X10 hX10 => ?_) (fun X11 hX11 => ?_)
      · refine TL.m (Mk.al ty_zr58) ?_
        intro x10
        refine TL.nil ?_
        refine TQ.nxt (hX10 _ _ (by repeat (first | exact HasL.nil | refine HasL.cons (by repeat (first | exact Pick.hd | apply Pick.tl)) ?_)) ?_)
        refine RG.a1 11 rfl (fun X11 hX11 => ?_)
        refine TL.m (Mk.al ty_zr58) ?_
        intro x11
        refine TL.nil ?_
        refine TQ.nxt (hX11 _ _ (by repeat (first | exact HasL.nil | refine HasL.cons (by repeat (first | exact Pick.hd | apply Pick.tl)) ?_)) ?_)
        refine RG.a1 12 rfl (fun X12 hX12 => ?_)
        first | refine TL.st ty_sz58 ?_ | refine TL.se ty_sz58 ?_
        refine TL.nil ?_
        refine TQ.nxt (hX12 _ _ (by repeat (first | exact HasL.nil | refine HasL.cons (by repeat (first | exact Pick.hd | apply Pick.tl)) ?_)) ?_)
        refine RG.a1 13 rfl (fun X13 hX13 => ?_)
        first | refine TL.st ty_sz58 ?_ | refine TL.se ty_sz58 ?_
        refine TL.nil ?_
        refine TQ.nxt (hX13 _ _ (by repeat (first | exact HasL.nil | refine HasL.cons (by repeat (first | exact Pick.hd | apply Pick.tl)) ?_)) ?_)
        exact RG.nil (TQ.sub (by repeat (first | exact trivial | refine ⟨rfl, ?_⟩ | refine ⟨trivial, ?_⟩)) (by repeat (first | exact KSub.nil | refine KSub.cons (by repeat (first | exact Pick.hd | apply Pick.tl)) ?_ | exact KSub.refl _ | exact KSub.drop (KSub.refl _))) (hE ⟨x10, x11⟩)) (by kernel_rfl)
      · refine TL.m (Mk.al ty_zr58) ?_
        intro x11
        refine TL.nil ?_
        refine TQ.nxt (hX11 _ _ (by repeat (first | exact HasL.nil | refine HasL.cons (by repeat (first | exact Pick.hd | apply Pick.tl)) ?_)) ?_)
        refine RG.a1 10 rfl (fun X10 hX10 => ?_)
        refine TL.m (Mk.al ty_zr58) ?_
        intro x10
        refine TL.nil ?_
        refine TQ.nxt (hX10 _ _ (by repeat (first | exact HasL.nil | refine HasL.cons (by repeat (first | exact Pick.hd | apply Pick.tl)) ?_)) ?_)
        refine RG.a1 12 rfl (fun X12 hX12 => ?_)
        first | refine TL.st ty_sz58 ?_ | refine TL.se ty_sz58 ?_
        refine TL.nil ?_
        refine TQ.nxt (hX12 _ _ (by repeat (first | exact HasL.nil | refine HasL.cons (by repeat (first | exact Pick.hd | apply Pick.tl)) ?_)) ?_)
        refine RG.a1 13 rfl (fun X13 hX13 => ?_)
        first | refine TL.st ty_sz58 ?_ | refine TL.se ty_sz58 ?_
        refine TL.nil ?_
        refine TQ.nxt (hX13 _ _ (by repeat (first | exact HasL.nil | refine HasL.cons (by repeat (first | exact Pick.hd | apply Pick.tl)) ?_)) ?_)
        exact RG.nil (TQ.sub (by repeat (first | exact trivial | refine ⟨rfl, ?_⟩ | refine ⟨trivial, ?_⟩)) (by repeat (first | exact KSub.nil | refine KSub.cons (by repeat (first | exact Pick.hd | apply Pick.tl)) ?_ | exact KSub.refl _ | exact KSub.drop (KSub.refl _))) (hE ⟨x10, x11⟩)) (by kernel_rfl)
    · try simp only [decide_eq_true_eq, decide_eq_false_iff_not, Bool.not_eq_true', Bool.not_eq_false', Bool.and_eq_true, Bool.or_eq_true, Bool.and_eq_false_iff, Bool.or_eq_false_iff, Int.not_lt, Int.not_le] at hc3
      have hin2 : i = nl := by omega
      refine TW.exit ?_
      refine TQ.thenX ?_
      refine TQ.thenX ?_
      refine TQ.blkX ?_
      refine TQ.thenN (hY10 _ _ ?_)
      refine TW.seq fun Y23 hY23 => ?_
      refine TW.region ?_
      refine TL.p Pu.as ?_
      refine TL.nil ?_
      refine TQ.thenN (hY23 _ _ ?_)
      refine TW.ret ?_
      refine TQ.ret Try.results14 rfl ((.tmp rfl .nil)) ?_
      exact fun w hw => Ret.of hw
end Go.Proofs.Ytckiagbllkdfdaa
