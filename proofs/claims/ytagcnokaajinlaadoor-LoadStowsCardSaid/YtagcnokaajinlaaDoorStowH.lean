/-
  The reference of layer 5: Stow.
-/
import Derived.Test.YtagcnokaajinlaaDoorStowG
namespace Go.Proofs.YtagcnokaajinlaaDoor
set_option linter.all false
set_option linter.unusedVariables false
set_option linter.unusedSimpArgs false
open Go.RowKit
theorem allB_succ {p : Nat → Bool} {k : Nat} : allB (k + 1) p = (allB k p && p k) := by simp [allB, List.range_succ]
theorem packsOk_iff {np : Nat} {pk : Nat → Nat → Int} : packsOk np pk = true ↔ (np : Int) ≤ 30 ∧ ∀ q, q < np → packOk (pk q) = true := by
  unfold packsOk
  rw [Bool.and_eq_true, decide_eq_true_eq, allB_iff]
theorem checkV0 {np : Nat} {pk : Nat → Nat → Int} {l : Nat → Nat → Nat} {v : Nat → Nat → Nat → Int} : checkV np pk 0 l v = if packsOk np pk then 0 else 50 := by
  unfold checkV
  have : tiesOk np 0 l v = true := by simp [tiesOk, allB, held, markAll]
  rw [this]
  rfl
section
variable {w : World} {TA : Nat → Option Addr} {Tc : Nat → Nat} {P np way k nc ns : Nat} {A : Option Addr} {cp : Nat} {pk : Nat → Nat → Int}
theorem tie_list (hnp : np ≤ 7) (hA : ∀ i, i < 2 * nc → RdR w 1 (TA i) (sln P np way i) (fun q => [.int .i64 (svl P np way i q)])) (hk : k < nc) :
    CallsK Tryd.prog 40 #[.agg #[.slice (TA (2 * k)) (sln P np way (2 * k)) (Tc (2 * k)), .slice (TA (2 * k + 1)) (sln P np way (2 * k + 1)) (Tc (2 * k + 1)), .slice none 0 0]] [] w (Option Addr × Nat) (fun x => .slice x.1 (tot (tln P np way k) 3) x.2) (fun x => [.own x.1 (tot (tln P np way k) 3) x.2 3 1 (fun q => [.int .i64 (catI (tln P np way k) (tvl P np way k) q)])]) := by
  have hI := tie_rd hA hk rfl
  have t0 := tln_le (P := P) (way := way) (k := k) (j := 0) hnp
  have t1 := tln_le (P := P) (way := way) (k := k) (j := 1) hnp
  have t2 := tln_le (P := P) (way := way) (k := k) (j := 2) hnp
  have h9 := refList_any (a := tA TA k) (l := tln P np way k) (c := tC Tc k) (v := tvl P np way k) (by rw [tot3]; omega) hI
  rw [catN_catI] at h9
  have e : (tieL (tA TA k) (tln P np way k) (tC Tc k)) = [.slice (TA (2 * k)) (sln P np way (2 * k)) (Tc (2 * k)), .slice (TA (2 * k + 1)) (sln P np way (2 * k + 1)) (Tc (2 * k + 1)), .slice none 0 0] := by simp [tieL, tA, tln, tC]
  rw [e] at h9
  exact h9
end
section
variable {np nc nw : Nat} {pk : Nat → Nat → Int} {cans wv : Nat → Int} {b : Int}
theorem stow_bad {P : Nat} {w w' : World} {K : List Fact} {code : Int} {way : Nat} (hc : code ≠ 0) (h : stowC np pk nc cans nw wv b = code) (hw : Sat [] w K w') :
    ∃ x : TX, Ending.returned (retV [.slice none 0 0, .int .i64 0, .int .i64 code]) = .returned (.tuple #[.slice x.1.1 (stowN np pk nc cans nw wv b) x.1.2, .int .i64 (stowW np pk nc cans nw wv b), .int .i64 (stowC np pk nc cans nw wv b)]) ∧ Sat [] w (tiesL P np way (stowN np pk nc cans nw wv b) x) w' := by
  refine ⟨((none, 0), fun _ => none, fun _ => 0), ?_, ?_⟩
  · unfold stowN stowW
    rw [h, if_neg hc, if_neg hc]
    rfl
  · unfold stowN
    rw [h, if_neg hc]
    exact hw.sub (KSub.nilOwn KSub.nil)
end
def leafW (P np nc : Nat) (pk : Nat → Nat → Int) (cans wv : Nat → Int) (b : Int) (q : Nat) : St := iter (leafS P np nc (fun q => rl (pk q)) (fun q => rh (pk q)) cans wv b) q ⟨-1, 0, 0⟩
theorem leafW_all {np nc : Nat} {pk : Nat → Nat → Int} {cans wv : Nat → Int} {b : Int} : leafW (2 * nc + 1) np nc pk cans wv b ((2 * nc + 1) ^ np) = stowB np pk nc cans wv b := by
  unfold leafW stowB
  rw [dfs_row]
  simp
theorem pow_bd {P np i : Nat} (hP : P ≤ 5) (hP0 : 0 < P) (hnp : np ≤ 7) (hi : i ≤ np) : P ^ i ≤ 78125 ∧ 0 < P ^ i := by
  have h1 : P ^ i ≤ 5 ^ i := Nat.pow_le_pow_left hP i
  have h2 : 5 ^ i ≤ 5 ^ 7 := Nat.pow_le_pow_right (by omega) (by omega)
  exact ⟨Nat.le_trans h1 h2, Nat.pow_pos hP0⟩
set_option maxRecDepth 100000 in
set_option maxHeartbeats 2000000 in
theorem refStow_any {w : World} {np cp nc cc nw cv : Nat} {Ap Ac Av : Option Addr} {pk : Nat → Nat → Int} {cans wv : Nat → Int} {b : Int}
    (hnp : np ≤ 1000) (hnc : nc ≤ 1000) (hnw : nw ≤ 1000) (hR : RdR w 11 Ap np (fun k => packL (pk k))) (hC : RdR w 1 Ac nc (fun k => [.int .i64 (cans k)])) (hV : RdR w 1 Av nw (fun k => [.int .i64 (wv k)])) :
    CallsK Tryd.prog 17 #[.slice Ap np cp, .slice Ac nc cc, .slice Av nw cv, .int .i64 b] [] w TX (fun x => .tuple #[.slice x.1.1 (stowN np pk nc cans nw wv b) x.1.2, .int .i64 (stowW np pk nc cans nw wv b), .int .i64 (stowC np pk nc cans nw wv b)])
      (fun x => tiesL (2 * nc + 1) np (stowB np pk nc cans wv b).way (stowN np pk nc cans nw wv b) x) := by
  refine K_enter (S := []) (K := []) Tryd.func17 rfl Tryd.ntmps17 rfl (Sat.start _) ?_
  refine TW.seq fun Y1 hY1 => ?_
  refine TW.region ?_
  refine TL.p Pu.as ?_
  refine TL.p Pu.as ?_
  refine TL.p Pu.as ?_
  refine TL.nil ?_
  refine TQ.thenN (hY1 _ _ ?_)
  refine TW.seq fun Y2 hY2 => ?_
  refine TW.seq fun Y3 hY3 => ?_
  refine TW.region ?_
  refine TL.p Pu.mv ?_
  refine TL.cr rfl (enters Tryd.func42 rfl rfl) (fun w hw => by
      exact refPacks_any (by omega) (hR.sat hw Apart.nil)) ?_
  refine TL.p Pu.no ?_
  refine TL.nil ?_
  refine TQ.thenN (hY3 _ _ ?_)
  refine TW.cond rfl (fun hc0 => ?_) (fun hc0 => ?_)
  · try simp only [decide_eq_true_eq, decide_eq_false_iff_not, Bool.not_eq_true', Bool.not_eq_false', Bool.and_eq_true, Bool.or_eq_true, Bool.and_eq_false_iff, Bool.or_eq_false_iff, Int.not_lt, Int.not_le] at hc0
    have hb1 : packsOk np pk = false := hc0
    refine TW.seq fun Y4 hY4 => ?_
    refine TW.region ?_
    refine TL.p Pu.as ?_
    refine TL.p Pu.as ?_
    refine TL.p Pu.as ?_
    refine TL.nil ?_
    refine TQ.thenN (hY4 _ _ ?_)
    refine TW.ret ?_
    refine TQ.thenR ?_
    refine TQ.ret Tryd.results17 rfl ((.tmp rfl (.tmp rfl (.tmp rfl .nil)))) ?_
    exact fun w hw => stow_bad (by decide) (by unfold stowC code5; rw [checkV0, hb1]; rfl) hw
  · try simp only [decide_eq_true_eq, decide_eq_false_iff_not, Bool.not_eq_true', Bool.not_eq_false', Bool.and_eq_true, Bool.or_eq_true, Bool.and_eq_false_iff, Bool.or_eq_false_iff, Int.not_lt, Int.not_le] at hc0
    have hb1 : packsOk np pk = true := hc0
    have he1 : checkV np pk 0 (fun _ _ => 0) (fun _ _ _ => 0) = 0 := by rw [checkV0, hb1]; rfl
    refine TW.skip ?_
    refine TQ.thenN (hY2 _ _ ?_)
    refine TW.seq fun Y5 hY5 => ?_
    refine TW.seq fun Y6 hY6 => ?_
    refine TW.join [(35, .bool (decide ((7 : Int) < (np : Int)) || decide ((2 : Int) < (nc : Int))))] ?_ (fun hJ1 => ?_)
    · refine TQ.thenN (hY6 _ _ ?_)
      refine TW.cond rfl (fun hc1 => ?_) (fun hc1 => ?_)
      · try simp only [decide_eq_true_eq, decide_eq_false_iff_not, Bool.not_eq_true', Bool.not_eq_false', Bool.and_eq_true, Bool.or_eq_true, Bool.and_eq_false_iff, Bool.or_eq_false_iff, Int.not_lt, Int.not_le] at hc1
        have hb2 : (decide ((np : Int) ≤ 7) && decide ((nc : Int) ≤ 2)) = false := by
          rcases hc1 with h | h
          · rw [decide_eq_false (by omega)]; rfl
          · rw [decide_eq_false (p := (nc : Int) ≤ 2) (by omega), Bool.and_false]
        refine TW.seq fun Y7 hY7 => ?_
        refine TW.region ?_
        refine TL.p Pu.as ?_
        refine TL.p Pu.as ?_
        refine TL.p Pu.as ?_
        refine TL.nil ?_
        refine TQ.thenN (hY7 _ _ ?_)
        refine TW.ret ?_
        refine TQ.thenR ?_
        refine TQ.ret Tryd.results17 rfl ((.tmp rfl (.tmp rfl (.tmp rfl .nil)))) ?_
        exact fun w hw => stow_bad (by decide) (by unfold stowC code5; rw [he1, hb2]; rfl) hw
      · try simp only [decide_eq_true_eq, decide_eq_false_iff_not, Bool.not_eq_true', Bool.not_eq_false', Bool.and_eq_true, Bool.or_eq_true, Bool.and_eq_false_iff, Bool.or_eq_false_iff, Int.not_lt, Int.not_le] at hc1
        have hb2 : (decide ((np : Int) ≤ 7) && decide ((nc : Int) ≤ 2)) = true := by rw [decide_eq_true (by omega), decide_eq_true (by omega)]; rfl
        refine TW.skip ?_
        refine TQ.thenN (hY5 _ _ ?_)
        refine TW.seq fun Y8 hY8 => ?_
        refine TW.seq fun Y9 hY9 => ?_
        refine TW.region ?_
        refine TL.p Pu.mv ?_
        refine TL.cr rfl (enters Tryd.func39 rfl rfl) (fun w hw => by
            exact within5_any _ _ _ _) ?_
        refine TL.p Pu.no ?_
        refine TL.nil ?_
        refine TQ.thenN (hY9 _ _ ?_)
        refine TW.cond rfl (fun hc2 => ?_) (fun hc2 => ?_)
        · try simp only [decide_eq_true_eq, decide_eq_false_iff_not, Bool.not_eq_true', Bool.not_eq_false', Bool.and_eq_true, Bool.or_eq_true, Bool.and_eq_false_iff, Bool.or_eq_false_iff, Int.not_lt, Int.not_le] at hc2
          have hb3 : inB5 0 1000000000 b = false := hc2
          refine TW.seq fun Y10 hY10 => ?_
          refine TW.region ?_
          refine TL.p Pu.as ?_
          refine TL.p Pu.as ?_
          refine TL.p Pu.as ?_
          refine TL.nil ?_
          refine TQ.thenN (hY10 _ _ ?_)
          refine TW.ret ?_
          refine TQ.thenR ?_
          refine TQ.ret Tryd.results17 rfl ((.tmp rfl (.tmp rfl (.tmp rfl .nil)))) ?_
          exact fun w hw => stow_bad (by decide) (by unfold stowC code5; rw [he1, hb2, hb3]; rfl) hw
        · try simp only [decide_eq_true_eq, decide_eq_false_iff_not, Bool.not_eq_true', Bool.not_eq_false', Bool.and_eq_true, Bool.or_eq_true, Bool.and_eq_false_iff, Bool.or_eq_false_iff, Int.not_lt, Int.not_le] at hc2
          have hb3 : inB5 0 1000000000 b = true := hc2
          have hbb : 0 ≤ b ∧ b ≤ 1000000000 := by simpa [inB5] using hb3
          refine TW.skip ?_
          refine TQ.thenN (hY8 _ _ ?_)
          refine TW.seq fun Y11 hY11 => ?_
          refine TW.seq fun Y12 hY12 => ?_
          refine TW.region ?_
          refine TL.p Pu.as ?_
          refine TL.nil ?_
          refine TQ.thenN (hY12 _ _ ?_)
          refine TW.block ?_
          refine TW.loop1 (fun (k : Nat) => [(11, .int .i64 (k : Int)), (0, .slice Ap np cp), (1, .slice Ac nc cc), (2, .slice Av nw cv), (3, .int .i64 b)]) (fun k => []) (fun k => k ≤ nc ∧ ∀ j, j < k → inB5 0 1000000000 (cans j) = true) (fun k => nc - k) 0 (by repeat (first | exact trivial | refine ⟨rfl, ?_⟩ | refine ⟨trivial, ?_⟩)) ?_ ?_ ?_
          · exact (by repeat (first | exact KSub.nil | refine KSub.cons (by repeat (first | exact Pick.hd | apply Pick.tl)) ?_ | exact KSub.refl _ | exact KSub.drop (KSub.refl _) | exact KSub.drop (KSub.drop (KSub.refl _)) | exact KSub.drop (KSub.drop (KSub.drop (KSub.refl _)))))
          · exact ⟨by omega, fun j hj => by omega⟩
          rintro k ⟨hk, hall⟩ Z0 hZ0
          refine TW.seq fun Y13 hY13 => ?_
          refine TW.seq fun Y14 hY14 => ?_
          refine TW.region ?_
          refine TL.p Pu.mv ?_
          refine TL.p Pu.mv ?_
          refine TL.p (Pu.ln Tryd.underlying47) ?_
          refine TL.p Pu.lt ?_
          refine TL.nil ?_
          refine TQ.thenN (hY14 _ _ ?_)
          refine TW.cond rfl (fun hc3 => ?_) (fun hc3 => ?_)
          · try simp only [decide_eq_true_eq, decide_eq_false_iff_not, Bool.not_eq_true', Bool.not_eq_false', Bool.and_eq_true, Bool.or_eq_true, Bool.and_eq_false_iff, Bool.or_eq_false_iff, Int.not_lt, Int.not_le] at hc3
            refine TW.skip ?_
            refine TQ.thenN (hY13 _ _ ?_)
            refine TW.seq fun Y15 hY15 => ?_
            refine TW.block ?_
            refine TW.seq fun Y16 hY16 => ?_
            refine TW.region ?_
            refine TL.p Pu.mv ?_
            refine TL.p Pu.mv ?_
            refine TL.p (Pu.el ty_et47) ?_
            refine TL.p (Pu.ld ty_sc3) ?_
            refine TL.cr rfl (enters Tryd.func39 rfl rfl) (fun w hw => by
                exact within5_any _ _ _ _) ?_
            refine TL.p Pu.no ?_
            refine TL.nil ?_
            refine TQ.thenN (hY16 _ _ ?_)
            refine TW.cond rfl (fun hc4 => ?_) (fun hc4 => ?_)
            · try simp only [decide_eq_true_eq, decide_eq_false_iff_not, Bool.not_eq_true', Bool.not_eq_false', Bool.and_eq_true, Bool.or_eq_true, Bool.and_eq_false_iff, Bool.or_eq_false_iff, Int.not_lt, Int.not_le] at hc4
              have hbad : inB5 0 1000000000 (cans k) = false := hc4
              have hb4 : (allB nc fun k => inB5 0 1000000000 (cans k)) = false := by
                cases h : (allB nc fun k => inB5 0 1000000000 (cans k)) with
                | false => rfl
                | true => have := allB_iff.1 h k (by omega); simp only [hbad] at this; cases this
              refine TW.seq fun Y17 hY17 => ?_
              refine TW.region ?_
              refine TL.p Pu.as ?_
              refine TL.p Pu.as ?_
              refine TL.p Pu.as ?_
              refine TL.nil ?_
              refine TQ.thenN (hY17 _ _ ?_)
              refine TW.ret ?_
              refine TQ.blkR ?_
              refine TQ.thenR ?_
              refine TQ.thenR ?_
              refine TQ.blkR ?_
              refine TQ.thenR ?_
              refine TQ.ret Tryd.results17 rfl ((.tmp rfl (.tmp rfl (.tmp rfl .nil)))) ?_
              exact fun w hw => stow_bad (by decide) (by unfold stowC code5; rw [he1, hb2, hb3, hb4]; rfl) hw
            · try simp only [decide_eq_true_eq, decide_eq_false_iff_not, Bool.not_eq_true', Bool.not_eq_false', Bool.and_eq_true, Bool.or_eq_true, Bool.and_eq_false_iff, Bool.or_eq_false_iff, Int.not_lt, Int.not_le] at hc4
              have hgood : inB5 0 1000000000 (cans k) = true := hc4
              refine TW.skip ?_
              refine TQ.blkN ?_
              refine TQ.thenN (hY15 _ _ ?_)
              refine TW.region ?_
              refine TL.p Pu.mv ?_
              refine TL.p Pu.ad ?_
              refine TL.p Pu.as ?_
              refine TL.nil ?_
              refine TQ.thenN (hZ0 (k + 1) _ _ ?_ ?_ (by repeat (first | exact trivial | refine ⟨rfl, ?_⟩ | refine ⟨trivial, ?_⟩)) ?_)
              · refine ⟨by omega, fun j hj => ?_⟩
                by_cases h : j = k
                · subst h; exact hgood
                · exact hall j (by omega)
              · exact (by first | omega | (simp only []; omega) | (simp; omega))
              · exact (by repeat (first | exact KSub.nil | refine KSub.cons (by repeat (first | exact Pick.hd | apply Pick.tl)) ?_ | exact KSub.refl _ | exact KSub.drop (KSub.refl _) | exact KSub.drop (KSub.drop (KSub.refl _)) | exact KSub.drop (KSub.drop (KSub.drop (KSub.refl _)))))
          · try simp only [decide_eq_true_eq, decide_eq_false_iff_not, Bool.not_eq_true', Bool.not_eq_false', Bool.and_eq_true, Bool.or_eq_true, Bool.and_eq_false_iff, Bool.or_eq_false_iff, Int.not_lt, Int.not_le] at hc3
            obtain rfl : nc = k := by omega
            have hb4 : (allB nc fun k => inB5 0 1000000000 (cans k)) = true := allB_iff.2 hall
            refine TW.exit ?_
            refine TQ.thenX ?_
            refine TQ.thenX ?_
            refine TQ.blkX ?_
            refine TQ.thenN (hY11 _ _ ?_)
            refine TW.seq fun Y18 hY18 => ?_
            refine TW.seq fun Y19 hY19 => ?_
            refine TW.region ?_
            refine TL.p Pu.mv ?_
            refine TL.p (Pu.ln Tryd.underlying47) ?_
            refine TL.p Pu.mv ?_
            refine TL.p (Pu.ln Tryd.underlying26) ?_
            refine TL.p Pu.ne ?_
            refine TL.nil ?_
            refine TQ.thenN (hY19 _ _ ?_)
            refine TW.cond rfl (fun hc5 => ?_) (fun hc5 => ?_)
            · try simp only [decide_eq_true_eq, decide_eq_false_iff_not, Bool.not_eq_true', Bool.not_eq_false', Bool.and_eq_true, Bool.or_eq_true, Bool.and_eq_false_iff, Bool.or_eq_false_iff, Int.not_lt, Int.not_le] at hc5
              have hb5 : (decide ((nw : Int) = (np : Int)) && allB nw fun k => inB5 0 1000000000000 (wv k)) = false := by rw [decide_eq_false hc5]; rfl
              refine TW.seq fun Y20 hY20 => ?_
              refine TW.region ?_
              refine TL.p Pu.as ?_
              refine TL.p Pu.as ?_
              refine TL.p Pu.as ?_
              refine TL.nil ?_
              refine TQ.thenN (hY20 _ _ ?_)
              refine TW.ret ?_
              refine TQ.thenR ?_
              refine TQ.ret Tryd.results17 rfl ((.tmp rfl (.tmp rfl (.tmp rfl .nil)))) ?_
              exact fun w hw => stow_bad (by decide) (by unfold stowC code5; rw [he1, hb2, hb3, hb4, hb5]; rfl) hw
            · try simp only [decide_eq_true_eq, decide_eq_false_iff_not, Bool.not_eq_true', Bool.not_eq_false', Bool.and_eq_true, Bool.or_eq_true, Bool.and_eq_false_iff, Bool.or_eq_false_iff, Int.not_lt, Int.not_le] at hc5
              have hnwp : (nw : Int) = np := by omega
              refine TW.skip ?_
              refine TQ.thenN (hY18 _ _ ?_)
              refine TW.seq fun Y21 hY21 => ?_
              refine TW.seq fun Y22 hY22 => ?_
              refine TW.region ?_
              refine TL.p Pu.as ?_
              refine TL.nil ?_
              refine TQ.thenN (hY22 _ _ ?_)
              refine TW.block ?_
              refine TW.loop1 (fun (j : Nat) => [(12, .int .i64 (j : Int)), (0, .slice Ap np cp), (1, .slice Ac nc cc), (2, .slice Av nw cv), (3, .int .i64 b)]) (fun j => []) (fun j => j ≤ nw ∧ ∀ i, i < j → inB5 0 1000000000000 (wv i) = true) (fun j => nw - j) 0 (by repeat (first | exact trivial | refine ⟨rfl, ?_⟩ | refine ⟨trivial, ?_⟩)) ?_ ?_ ?_
              · exact (by repeat (first | exact KSub.nil | refine KSub.cons (by repeat (first | exact Pick.hd | apply Pick.tl)) ?_ | exact KSub.refl _ | exact KSub.drop (KSub.refl _) | exact KSub.drop (KSub.drop (KSub.refl _)) | exact KSub.drop (KSub.drop (KSub.drop (KSub.refl _)))))
              · exact ⟨by omega, fun j hj => by omega⟩
              rintro j ⟨hj, hallw⟩ Z1 hZ1
              refine TW.seq fun Y23 hY23 => ?_
              refine TW.seq fun Y24 hY24 => ?_
              refine TW.region ?_
              refine TL.p Pu.mv ?_
              refine TL.p Pu.mv ?_
              refine TL.p (Pu.ln Tryd.underlying47) ?_
              refine TL.p Pu.lt ?_
              refine TL.nil ?_
              refine TQ.thenN (hY24 _ _ ?_)
              refine TW.cond rfl (fun hc6 => ?_) (fun hc6 => ?_)
              · try simp only [decide_eq_true_eq, decide_eq_false_iff_not, Bool.not_eq_true', Bool.not_eq_false', Bool.and_eq_true, Bool.or_eq_true, Bool.and_eq_false_iff, Bool.or_eq_false_iff, Int.not_lt, Int.not_le] at hc6
                refine TW.skip ?_
                refine TQ.thenN (hY23 _ _ ?_)
                refine TW.seq fun Y25 hY25 => ?_
                refine TW.block ?_
                refine TW.seq fun Y26 hY26 => ?_
                refine TW.region ?_
                refine TL.p Pu.mv ?_
                refine TL.p Pu.mv ?_
                refine TL.p (Pu.el ty_et47) ?_
                refine TL.p (Pu.ld ty_sc3) ?_
                refine TL.cr rfl (enters Tryd.func39 rfl rfl) (fun w hw => by
                    exact within5_any _ _ _ _) ?_
                refine TL.p Pu.no ?_
                refine TL.nil ?_
                refine TQ.thenN (hY26 _ _ ?_)
                refine TW.cond rfl (fun hc7 => ?_) (fun hc7 => ?_)
                · try simp only [decide_eq_true_eq, decide_eq_false_iff_not, Bool.not_eq_true', Bool.not_eq_false', Bool.and_eq_true, Bool.or_eq_true, Bool.and_eq_false_iff, Bool.or_eq_false_iff, Int.not_lt, Int.not_le] at hc7
                  have hbad : inB5 0 1000000000000 (wv j) = false := hc7
                  have hb5 : (decide ((nw : Int) = (np : Int)) && allB nw fun k => inB5 0 1000000000000 (wv k)) = false := by
                    cases h : (allB nw fun k => inB5 0 1000000000000 (wv k)) with
                    | false => rw [Bool.and_false]
                    | true => have := allB_iff.1 h j (by omega); simp only [hbad] at this; cases this
                  refine TW.seq fun Y27 hY27 => ?_
                  refine TW.region ?_
                  refine TL.p Pu.as ?_
                  refine TL.p Pu.as ?_
                  refine TL.p Pu.as ?_
                  refine TL.nil ?_
                  refine TQ.thenN (hY27 _ _ ?_)
                  refine TW.ret ?_
                  refine TQ.blkR ?_
                  refine TQ.thenR ?_
                  refine TQ.thenR ?_
                  refine TQ.blkR ?_
                  refine TQ.thenR ?_
                  refine TQ.ret Tryd.results17 rfl ((.tmp rfl (.tmp rfl (.tmp rfl .nil)))) ?_
                  exact fun w hw => stow_bad (by decide) (by unfold stowC code5; rw [he1, hb2, hb3, hb4, hb5]; rfl) hw
                · try simp only [decide_eq_true_eq, decide_eq_false_iff_not, Bool.not_eq_true', Bool.not_eq_false', Bool.and_eq_true, Bool.or_eq_true, Bool.and_eq_false_iff, Bool.or_eq_false_iff, Int.not_lt, Int.not_le] at hc7
                  have hgood : inB5 0 1000000000000 (wv j) = true := hc7
                  refine TW.skip ?_
                  refine TQ.blkN ?_
                  refine TQ.thenN (hY25 _ _ ?_)
                  refine TW.region ?_
                  refine TL.p Pu.mv ?_
                  refine TL.p Pu.ad ?_
                  refine TL.p Pu.as ?_
                  refine TL.nil ?_
                  refine TQ.thenN (hZ1 (j + 1) _ _ ?_ ?_ (by repeat (first | exact trivial | refine ⟨rfl, ?_⟩ | refine ⟨trivial, ?_⟩)) ?_)
                  · refine ⟨by omega, fun i hi => ?_⟩
                    by_cases h : i = j
                    · subst h; exact hgood
                    · exact hallw i (by omega)
                  · exact (by first | omega | (simp only []; omega) | (simp; omega))
                  · exact (by repeat (first | exact KSub.nil | refine KSub.cons (by repeat (first | exact Pick.hd | apply Pick.tl)) ?_ | exact KSub.refl _ | exact KSub.drop (KSub.refl _) | exact KSub.drop (KSub.drop (KSub.refl _)) | exact KSub.drop (KSub.drop (KSub.drop (KSub.refl _)))))
              · try simp only [decide_eq_true_eq, decide_eq_false_iff_not, Bool.not_eq_true', Bool.not_eq_false', Bool.and_eq_true, Bool.or_eq_true, Bool.and_eq_false_iff, Bool.or_eq_false_iff, Int.not_lt, Int.not_le] at hc6
                obtain rfl : nw = j := by omega
                have hb5 : (decide ((nw : Int) = (np : Int)) && allB nw fun k => inB5 0 1000000000000 (wv k)) = true := by rw [decide_eq_true hnwp, allB_iff.2 hallw]; rfl
                refine TW.exit ?_
                refine TQ.thenX ?_
                refine TQ.thenX ?_
                refine TQ.blkX ?_
                refine TQ.thenN (hY21 _ _ ?_)
                refine TW.seq fun Y28 hY28 => ?_
                refine TW.region ?_
                refine TL.p Pu.mv ?_
                refine TL.p (Pu.ln Tryd.underlying47) ?_
                refine TL.p Pu.ml ?_
                refine TL.p Pu.ad ?_
                refine TL.p Pu.as ?_
                refine TL.nil ?_
                refine TQ.thenN (hY28 _ _ ?_)
                refine TW.seq fun Y29 hY29 => ?_
                refine TW.region ?_
                refine TL.p Pu.as ?_
                refine TL.nil ?_
                refine TQ.thenN (hY29 _ _ ?_)
                refine TW.seq fun Y30 hY30 => ?_
                refine TW.seq fun Y31 hY31 => ?_
                refine TW.region ?_
                refine TL.p Pu.as ?_
                refine TL.nil ?_
                refine TQ.thenN (hY31 _ _ ?_)
                refine TW.block ?_
                have hnp7 : np ≤ 7 := by omega
                have hnc2 : nc ≤ 2 := by omega
                obtain rfl : np = nw := by omega
                have hpow := fun i (hi : i ≤ np) => pow_bd (P := 2 * nc + 1) (np := np) (i := i) (by omega) (by omega) hnp7 hi
                have hokp := packsOk_iff.1 hb1
                have hcs : ∀ k, k < nc → 0 ≤ cans k ∧ cans k ≤ 1000000000 := fun k hk => by simpa [inB5] using hall k hk
                have hwv : ∀ k, k < np → 0 ≤ wv k ∧ wv k ≤ 1000000000000 := fun k hk => by simpa [inB5] using hallw k hk
                have hcode : stowC np pk nc cans np wv b = 0 := by unfold stowC code5; rw [he1, hb2, hb3, hb4, hb5]; rfl
                have hfound := dfs_found (P := 2 * nc + 1) (np := np) (nc := nc) (r0 := fun q => rl (pk q)) (r1 := fun q => rh (pk q)) (cans := cans) (wv := wv) (b := b) (by omega) hbb.1 (fun k hk => (hcs k hk).1)
                refine TW.loop1 (fun (i : Nat) => [(15, .int .i64 (i : Int)), (14, .int .i64 (((2 * nc + 1) ^ i : Nat) : Int)), (13, .int .i64 ((2 * nc + 1 : Nat) : Int)), (0, .slice Ap np cp), (1, .slice Ac nc cc), (2, .slice Av np cv), (3, .int .i64 b)]) (fun i => []) (fun i => i ≤ np) (fun i => np - i) 0 (by repeat (first | exact trivial | refine ⟨rfl, ?_⟩ | refine ⟨trivial, ?_⟩ | refine ⟨(by show some (Value.int .i64 _) = some (Value.int .i64 _); congr 2; first | omega | (rw [Nat.pow_succ, Int.natCast_mul])), ?_⟩)) ?_ ?_ ?_
                · exact (by repeat (first | exact KSub.nil | refine KSub.cons (by repeat (first | exact Pick.hd | apply Pick.tl)) ?_ | exact KSub.refl _ | exact KSub.drop (KSub.refl _) | exact KSub.drop (KSub.drop (KSub.refl _)) | exact KSub.drop (KSub.drop (KSub.drop (KSub.refl _)))))
                · exact Nat.zero_le _
                rintro i hi Z2 hZ2
                have hpi := hpow i hi
                have hprod := mulB (a := (((2 * nc + 1) ^ i : Nat) : Int)) (b := ((2 * nc + 1 : Nat) : Int)) (A := 78125) (B := 5) (by omega) (by omega) (by omega) (by omega)
                refine TW.seq fun Y32 hY32 => ?_
                refine TW.seq fun Y33 hY33 => ?_
                refine TW.region ?_
                refine TL.p Pu.mv ?_
                refine TL.p Pu.mv ?_
                refine TL.p (Pu.ln Tryd.underlying26) ?_
                refine TL.p Pu.lt ?_
                refine TL.nil ?_
                refine TQ.thenN (hY33 _ _ ?_)
                refine TW.cond rfl (fun hc8 => ?_) (fun hc8 => ?_)
                · try simp only [decide_eq_true_eq, decide_eq_false_iff_not, Bool.not_eq_true', Bool.not_eq_false', Bool.and_eq_true, Bool.or_eq_true, Bool.and_eq_false_iff, Bool.or_eq_false_iff, Int.not_lt, Int.not_le] at hc8
                  refine TW.skip ?_
                  refine TQ.thenN (hY32 _ _ ?_)
                  refine TW.seq fun Y34 hY34 => ?_
                  refine TW.block ?_
                  refine TW.region ?_
                  refine TL.p Pu.mv ?_
                  refine TL.p Pu.mv ?_
                  refine TL.p Pu.ml ?_
                  refine TL.p Pu.as ?_
                  refine TL.nil ?_
                  refine TQ.blkN ?_
                  refine TQ.thenN (hY34 _ _ ?_)
                  refine TW.region ?_
                  refine TL.p Pu.mv ?_
                  refine TL.p Pu.ad ?_
                  refine TL.p Pu.as ?_
                  refine TL.nil ?_
                  refine TQ.thenN (hZ2 (i + 1) _ _ ?_ ?_ (by repeat (first | exact trivial | refine ⟨rfl, ?_⟩ | refine ⟨trivial, ?_⟩ | refine ⟨(by show some (Value.int .i64 _) = some (Value.int .i64 _); congr 2; first | omega | (rw [Nat.pow_succ, Int.natCast_mul])), ?_⟩)) ?_)
                  · exact (by omega)
                  · exact (by first | omega | (simp only []; omega) | (simp; omega))
                  · exact (by repeat (first | exact KSub.nil | refine KSub.cons (by repeat (first | exact Pick.hd | apply Pick.tl)) ?_ | exact KSub.refl _ | exact KSub.drop (KSub.refl _) | exact KSub.drop (KSub.drop (KSub.refl _)) | exact KSub.drop (KSub.drop (KSub.drop (KSub.refl _)))))
                · try simp only [decide_eq_true_eq, decide_eq_false_iff_not, Bool.not_eq_true', Bool.not_eq_false', Bool.and_eq_true, Bool.or_eq_true, Bool.and_eq_false_iff, Bool.or_eq_false_iff, Int.not_lt, Int.not_le] at hc8
                  obtain rfl : np = i := by omega
                  refine TW.exit ?_
                  refine TQ.thenX ?_
                  refine TQ.thenX ?_
                  refine TQ.blkX ?_
                  refine TQ.thenN (hY30 _ _ ?_)
                  refine TW.seq fun Y35 hY35 => ?_
                  refine TW.region ?_
                  refine TL.p Pu.as ?_
                  refine TL.p Pu.as ?_
                  refine TL.nil ?_
                  refine TQ.thenN (hY35 _ _ ?_)
                  refine TW.seq fun Y36 hY36 => ?_
                  refine TW.seq fun Y37 hY37 => ?_
                  refine TW.region ?_
                  refine TL.p Pu.as ?_
                  refine TL.nil ?_
                  refine TQ.thenN (hY37 _ _ ?_)
                  refine TW.block ?_
                  refine TW.loop1 (fun (q : Nat) => [(18, .int .i64 (q : Int)), (14, .int .i64 (((2 * nc + 1) ^ np : Nat) : Int)), (16, .int .i64 (leafW (2 * nc + 1) np nc pk cans wv b q).worth), (17, .int .i64 ((leafW (2 * nc + 1) np nc pk cans wv b q).way : Int)), (13, .int .i64 ((2 * nc + 1 : Nat) : Int)), (0, .slice Ap np cp), (1, .slice Ac nc cc), (2, .slice Av np cv), (3, .int .i64 b)]) (fun q => []) (fun q => q ≤ (2 * nc + 1) ^ np ∧ (leafW (2 * nc + 1) np nc pk cans wv b q).way ≤ 78125) (fun q => (2 * nc + 1) ^ np - q) 0 (by repeat (first | exact trivial | refine ⟨rfl, ?_⟩ | refine ⟨trivial, ?_⟩)) ?_ ?_ ?_
                  · exact (by repeat (first | exact KSub.nil | refine KSub.cons (by repeat (first | exact Pick.hd | apply Pick.tl)) ?_ | exact KSub.refl _ | exact KSub.drop (KSub.refl _) | exact KSub.drop (KSub.drop (KSub.refl _)) | exact KSub.drop (KSub.drop (KSub.drop (KSub.refl _)))))
                  · exact ⟨Nat.zero_le _, Nat.zero_le _⟩
                  rintro q ⟨hq, hqw⟩ Z3 hZ3
                  refine TW.seq fun Y38 hY38 => ?_
                  refine TW.seq fun Y39 hY39 => ?_
                  refine TW.region ?_
                  refine TL.p Pu.mv ?_
                  refine TL.p Pu.mv ?_
                  refine TL.p Pu.lt ?_
                  refine TL.nil ?_
                  refine TQ.thenN (hY39 _ _ ?_)
                  refine TW.cond rfl (fun hc9 => ?_) (fun hc9 => ?_)
                  · try simp only [decide_eq_true_eq, decide_eq_false_iff_not, Bool.not_eq_true', Bool.not_eq_false', Bool.and_eq_true, Bool.or_eq_true, Bool.and_eq_false_iff, Bool.or_eq_false_iff, Int.not_lt, Int.not_le] at hc9
                    have hqn : q < (2 * nc + 1) ^ np := by omega
                    have hws := wsum_bd (P := 2 * nc + 1) (wv := wv) (i := np) (w := q) hwv
                    refine TW.skip ?_
                    refine TQ.thenN (hY38 _ _ ?_)
                    refine TW.seq fun Y40 hY40 => ?_
                    refine TW.block ?_
                    refine TW.seq fun Y41 hY41 => ?_
                    refine TW.region ?_
                    refine TL.p Pu.mv ?_
                    refine TL.p Pu.mv ?_
                    refine TL.p Pu.mv ?_
                    refine TL.p (Pu.ln Tryd.underlying26) ?_
                    refine TL.p Pu.mv ?_
                    refine TL.p (Pu.ln Tryd.underlying47) ?_
                    refine TL.p Pu.mv ?_
                    refine TL.call (M := []) rfl (enters Tryd.func52 rfl rfl) (List.Perm.refl _) rfl (fun w hw => by
                        exact spread_any hnp7 hnc2 (by omega) (by omega) hwv (hV.sat hw Apart.nil)) ?_
                    rintro ⟨⟨T, cT⟩, TA, Tc⟩
                    simp only [tiesL, List.cons_append]
                    refine TL.p Pu.mv ?_
                    refine TL.p Pu.ex ?_
                    refine TL.p Pu.ex ?_
                    refine TL.p Pu.as ?_
                    refine TL.p Pu.as ?_
                    refine TL.nil ?_
                    refine TQ.thenN (hY41 _ _ ?_)
                    refine TW.seq fun Y42 hY42 => ?_
                    refine TW.region ?_
                    refine TL.p Pu.mv ?_
                    refine TL.p Pu.mv ?_
                    refine TL.p Pu.gt ?_
                    refine TL.p Pu.as ?_
                    refine TL.nil ?_
                    refine TQ.thenN (hY42 _ _ ?_)
                    refine TW.seq fun Y43 hY43 => ?_
                    refine TW.seq fun Y44 hY44 => ?_
                    refine TW.region ?_
                    refine TL.p Pu.as ?_
                    refine TL.nil ?_
                    refine TQ.thenN (hY44 _ _ ?_)
                    refine TW.block ?_
                    refine TW.loop2 (fun (k : Nat) (ok : Bool) => [(22, .int .i64 (k : Int)), (21, .bool ok), (19, .slice T nc cT), (20, .int .i64 (wsum (2 * nc + 1) wv np q)), (18, .int .i64 (q : Int)), (14, .int .i64 (((2 * nc + 1) ^ np : Nat) : Int)), (16, .int .i64 (leafW (2 * nc + 1) np nc pk cans wv b q).worth), (17, .int .i64 ((leafW (2 * nc + 1) np nc pk cans wv b q).way : Int)), (13, .int .i64 ((2 * nc + 1 : Nat) : Int)), (0, .slice Ap np cp), (1, .slice Ac nc cc), (2, .slice Av np cv), (3, .int .i64 b)]) (fun k ok => .own T nc cT 59 3 (tieS TA (sln (2 * nc + 1) np q) Tc) :: (ownsK TA (sln (2 * nc + 1) np q) Tc (svl (2 * nc + 1) np q) (2 * nc) ++ [])) (fun k ok => k ≤ nc ∧ ok = (decide ((leafW (2 * nc + 1) np nc pk cans wv b q).worth < (wsum (2 * nc + 1) wv np q)) && allB k (okT (2 * nc + 1) np (fun q => rl (pk q)) (fun q => rh (pk q)) cans b q))) (fun k ok => nc - k) 0 _ (by repeat (first | exact trivial | refine ⟨rfl, ?_⟩ | refine ⟨trivial, ?_⟩)) ?_ ?_ ?_
                    · exact (by repeat (first | exact KSub.nil | refine KSub.cons (by repeat (first | exact Pick.hd | apply Pick.tl)) ?_ | exact KSub.refl _ | exact KSub.drop (KSub.refl _) | exact KSub.drop (KSub.drop (KSub.refl _)) | exact KSub.drop (KSub.drop (KSub.drop (KSub.refl _)))))
                    · exact ⟨Nat.zero_le _, by simp [allB]⟩
                    rintro k ok ⟨hk4, hok4⟩ Z4 hZ4
                    refine TW.seq fun Y45 hY45 => ?_
                    refine TW.seq fun Y46 hY46 => ?_
                    refine TW.join [(106, .bool (ok && decide ((k : Int) < (nc : Int))))] ?_ (fun hJ2 => ?_)
                    · refine TQ.thenN (hY46 _ _ ?_)
                      refine TW.cond rfl (fun hc10 => ?_) (fun hc10 => ?_)
                      · try simp only [decide_eq_true_eq, decide_eq_false_iff_not, Bool.not_eq_true', Bool.not_eq_false', Bool.and_eq_true, Bool.or_eq_true, Bool.and_eq_false_iff, Bool.or_eq_false_iff, Int.not_lt, Int.not_le] at hc10
                        have hk5 : k < nc := by omega
                        refine TW.skip ?_
                        refine TQ.thenN (hY45 _ _ ?_)
                        refine TW.seq fun Y47 hY47 => ?_
                        refine TW.block ?_
                        refine TW.ex0k [.own T nc cT 59 3 (tieS TA (sln (2 * nc + 1) np q) Tc)] ?_
                        refine RG.tk 0 rfl Pu.mv ?_
                        refine RG.tk 1 rfl Pu.mv ?_
                        refine RG.tk 2 rfl Pu.mv ?_
                        refine RG.tk 3 rfl (Pu.el ty_et27) ?_
                        refine RG.tk 4 rfl (Pu.lds ty_ag59) ?_
                        refine RG.tk 8 rfl Pu.mv ?_
                        refine RG.tk 9 rfl Pu.mv ?_
                        refine RG.tk 10 rfl (Pu.el ty_et47) ?_
                        refine RG.tk 11 rfl (Pu.ld ty_sc3) ?_
                        refine RG.a1 5 rfl (fun X5 hX5 => ?_)
                        refine TL.call (M := []) rfl (enters Tryd.func40 rfl rfl) (List.Perm.refl _) rfl (fun w hw => by
                            exact tie_list hnp7 (ownsK_rd (A := TA) (l := sln (2 * nc + 1) np q) (c := Tc) (v := svl (2 * nc + 1) np q) (n := 2 * nc) hw (fun φ hφ => by simp [hφ])) hk5) ?_
                        rintro ⟨Aq, cq⟩
                        refine TL.nil ?_
                        refine TQ.nxt (hX5 _ _ (by repeat (first | exact HasL.nil | refine HasL.cons (by repeat (first | exact Pick.hd | apply Pick.tl)) ?_)) ?_)
                        refine RG.a1 6 rfl (fun X6 hX6 => ?_)
                        refine TL.cr rfl (enters Tryd.func53 rfl rfl) (fun w hw => by
                            have t0 := tln_le (P := 2 * nc + 1) (way := q) (k := k) (j := 0) hnp7
                            have t1 := tln_le (P := 2 * nc + 1) (way := q) (k := k) (j := 1) hnp7
                            have t2 := tln_le (P := 2 * nc + 1) (way := q) (k := k) (j := 2) hnp7
                            exact refSum_any (v := catI (tln (2 * nc + 1) np q k) (tvl (2 * nc + 1) np q k)) (show tot (tln (2 * nc + 1) np q k) 3 ≤ 1000 by rw [tot3]; omega) hokp.2 (inx_cat tie_inx) (hR.sat hw Apart.nil) (OwnR.rdr (hw.holds (.own Aq (tot (tln (2 * nc + 1) np q k) 3) cq 3 1 (fun j => [.int .i64 (catI (tln (2 * nc + 1) np q k) (tvl (2 * nc + 1) np q k) j)])) (by simp)))) ?_
                        refine TL.nil ?_
                        refine TQ.nxt (hX6 _ _ (by repeat (first | exact HasL.nil | refine HasL.cons (by repeat (first | exact Pick.hd | apply Pick.tl)) ?_)) ?_)
                        refine RG.tk 7 rfl Pu.fd ?_
                        refine RG.tk 12 rfl Pu.le ?_
                        refine RG.tk 13 rfl Pu.mv ?_
                        refine RG.guard (t := 122) rfl (fun hg1 => ?_) (fun hg1 => ?_)
                        · try simp only [decide_eq_true_eq, decide_eq_false_iff_not, Bool.not_eq_true', Bool.not_eq_false', Int.natCast_pos] at hg1
                          refine RG.tk 14 rfl Pu.mv ?_
                          refine RG.tk 15 rfl Pu.mv ?_
                          refine RG.tk 16 rfl Pu.mv ?_
                          refine RG.tk 17 rfl (Pu.el ty_et27) ?_
                          refine RG.tk 18 rfl (by first | exact Pu.fb ty_fa59_0 | exact Pu.fe ty_fa59_0) ?_
                          refine RG.tk 19 rfl (Pu.ld ty_sc47) ?_
                          refine RG.tk 21 rfl Pu.mv ?_
                          refine RG.tk 22 rfl Pu.mv ?_
                          refine RG.tk 23 rfl Pu.mv ?_
                          refine RG.tk 24 rfl (Pu.el ty_et27) ?_
                          refine RG.tk 25 rfl (by first | exact Pu.fb ty_fa59_1 | exact Pu.fe ty_fa59_1) ?_
                          refine RG.tk 26 rfl (Pu.ld ty_sc47) ?_
                          refine RG.tk 28 rfl Pu.mv ?_
                          refine RG.a1 20 rfl (fun X20 hX20 => ?_)
                          refine TL.cr rfl (enters Tryd.func53 rfl rfl) (fun w hw => by
                              exact refSum_any (v := svl (2 * nc + 1) np q (2 * k)) (by have := sln_le (2 * nc + 1) np q (2 * k); omega) hokp.2 (svl_inx _ _ _ _) (hR.sat hw Apart.nil) (ownsK_rd (A := TA) (l := sln (2 * nc + 1) np q) (c := Tc) (v := svl (2 * nc + 1) np q) (n := 2 * nc) hw (fun φ hφ => by simp [hφ]) (2 * k) (by omega))) ?_
                          refine TL.nil ?_
                          refine TQ.nxt (hX20 _ _ (by repeat (first | exact HasL.nil | refine HasL.cons (by repeat (first | exact Pick.hd | apply Pick.tl)) ?_)) ?_)
                          refine RG.a1 27 rfl (fun X27 hX27 => ?_)
                          refine TL.cr rfl (enters Tryd.func53 rfl rfl) (fun w hw => by
                              exact refSum_any (v := svl (2 * nc + 1) np q (2 * k + 1)) (by have := sln_le (2 * nc + 1) np q (2 * k + 1); omega) hokp.2 (svl_inx _ _ _ _) (hR.sat hw Apart.nil) (ownsK_rd (A := TA) (l := sln (2 * nc + 1) np q) (c := Tc) (v := svl (2 * nc + 1) np q) (n := 2 * nc) hw (fun φ hφ => by simp [hφ]) (2 * k + 1) (by omega))) ?_
                          refine TL.nil ?_
                          refine TQ.nxt (hX27 _ _ (by repeat (first | exact HasL.nil | refine HasL.cons (by repeat (first | exact Pick.hd | apply Pick.tl)) ?_)) ?_)
                          refine RG.a1 29 rfl (fun X29 hX29 => ?_)
                          refine TL.cr rfl (enters Tryd.func54 rfl rfl) (fun w hw => by
                              have e0 := (RestOk.of_packs hokp.2).wS (svl_inx (2 * nc + 1) np q (2 * k)) (by have := sln_le (2 * nc + 1) np q (2 * k); omega)
                              have e1 := (RestOk.of_packs hokp.2).wS (svl_inx (2 * nc + 1) np q (2 * k + 1)) (by have := sln_le (2 * nc + 1) np q (2 * k + 1); omega)
                              exact refBalance5_any _ _ _ _ _ _ (by omega) (by omega) (by omega) (by omega) (by omega)) ?_
                          refine TL.nil ?_
                          refine TQ.nxt (hX29 _ _ (by repeat (first | exact HasL.nil | refine HasL.cons (by repeat (first | exact Pick.hd | apply Pick.tl)) ?_)) ?_)
                          refine RG.tk 30 rfl Pu.eq ?_
                          refine RG.tk 31 rfl Pu.kt ?_
                          refine RG.tk 32 rfl Pu.as ?_
                          refine RG.nil ?_ (by kernel_rfl)
                          refine TQ.blkN ?_
                          refine TQ.thenN (hY47 _ _ ?_)
                          refine TW.region ?_
                          refine TL.p Pu.mv ?_
                          refine TL.p Pu.ad ?_
                          refine TL.p Pu.as ?_
                          refine TL.nil ?_
                          refine TQ.thenN (hZ4 (k + 1) _ _ _ ?_ ?_ (by repeat (first | exact trivial | refine ⟨rfl, ?_⟩ | refine ⟨trivial, ?_⟩)) ?_)
                          · refine ⟨by omega, ?_⟩
                            rw [allB_succ, ← Bool.and_assoc, ← hok4, hc10.1, Bool.true_and]
                            unfold okT
                            first
                              | (rw [decide_eq_true (p := wS _ _ _ ≤ cans k) hg1, Bool.and_true])
                              | (rw [decide_eq_false (p := wS _ _ _ ≤ cans k) (by omega), Bool.and_false])
                          · exact (by first | omega | (simp only []; omega) | (simp; omega))
                          · exact (by repeat (first | exact KSub.nil | refine KSub.cons (by repeat (first | exact Pick.hd | apply Pick.tl)) ?_ | exact KSub.refl _ | exact KSub.drop (KSub.refl _) | exact KSub.drop (KSub.drop (KSub.refl _)) | exact KSub.drop (KSub.drop (KSub.drop (KSub.refl _)))))
                        · try simp only [decide_eq_true_eq, decide_eq_false_iff_not, Bool.not_eq_true', Bool.not_eq_false', Int.natCast_pos] at hg1
                          refine RG.ts 14 rfl ?_
                          refine RG.ts 15 rfl ?_
                          refine RG.ts 16 rfl ?_
                          refine RG.ts 17 rfl ?_
                          refine RG.ts 18 rfl ?_
                          refine RG.ts 19 rfl ?_
                          refine RG.ts 20 rfl ?_
                          refine RG.ts 21 rfl ?_
                          refine RG.ts 22 rfl ?_
                          refine RG.ts 23 rfl ?_
                          refine RG.ts 24 rfl ?_
                          refine RG.ts 25 rfl ?_
                          refine RG.ts 26 rfl ?_
                          refine RG.ts 27 rfl ?_
                          refine RG.ts 28 rfl ?_
                          refine RG.ts 29 rfl ?_
                          refine RG.ts 30 rfl ?_
                          refine RG.tk 31 rfl Pu.kf ?_
                          refine RG.tk 32 rfl Pu.as ?_
                          refine RG.nil ?_ (by kernel_rfl)
                          refine TQ.blkN ?_
                          refine TQ.thenN (hY47 _ _ ?_)
                          refine TW.region ?_
                          refine TL.p Pu.mv ?_
                          refine TL.p Pu.ad ?_
                          refine TL.p Pu.as ?_
                          refine TL.nil ?_
                          refine TQ.thenN (hZ4 (k + 1) _ _ _ ?_ ?_ (by repeat (first | exact trivial | refine ⟨rfl, ?_⟩ | refine ⟨trivial, ?_⟩)) ?_)
                          · refine ⟨by omega, ?_⟩
                            rw [allB_succ, ← Bool.and_assoc, ← hok4, hc10.1, Bool.true_and]
                            unfold okT
                            first
                              | (rw [decide_eq_true (p := wS _ _ _ ≤ cans k) hg1, Bool.and_true])
                              | (rw [decide_eq_false (p := wS _ _ _ ≤ cans k) (by omega), Bool.and_false])
                          · exact (by first | omega | (simp only []; omega) | (simp; omega))
                          · exact (by repeat (first | exact KSub.nil | refine KSub.cons (by repeat (first | exact Pick.hd | apply Pick.tl)) ?_ | exact KSub.refl _ | exact KSub.drop (KSub.refl _) | exact KSub.drop (KSub.drop (KSub.refl _)) | exact KSub.drop (KSub.drop (KSub.drop (KSub.refl _)))))
                      · try simp only [decide_eq_true_eq, decide_eq_false_iff_not, Bool.not_eq_true', Bool.not_eq_false', Bool.and_eq_true, Bool.or_eq_true, Bool.and_eq_false_iff, Bool.or_eq_false_iff, Int.not_lt, Int.not_le] at hc10
                        refine TW.exit ?_
                        refine TQ.thenX ?_
                        refine TQ.thenX ?_
                        refine TQ.blkX ?_
                        refine TQ.thenN (hY43 _ _ ?_)
                        refine TW.seq fun Y48 hY48 => ?_
                        refine TW.region ?_
                        refine TL.p Pu.mv ?_
                        refine TL.nil ?_
                        refine TQ.thenN (hY48 _ _ ?_)
                        refine TW.cond rfl (fun hc11 => ?_) (fun hc11 => ?_)
                        · try simp only [decide_eq_true_eq, decide_eq_false_iff_not, Bool.not_eq_true', Bool.not_eq_false', Bool.and_eq_true, Bool.or_eq_true, Bool.and_eq_false_iff, Bool.or_eq_false_iff, Int.not_lt, Int.not_le] at hc11
                          have hkk : k = nc := by
                            rcases hc10 with h | h
                            · rw [hc11] at h; cases h
                            · omega
                          rw [hc11, hkk] at hok4
                          have hok5 := hok4.symm
                          simp only [Bool.and_eq_true, decide_eq_true_eq] at hok5
                          have e9 : leafW (2 * nc + 1) np nc pk cans wv b (q + 1) = ⟨wsum (2 * nc + 1) wv np q, q, nc⟩ := leaf_good hok5.1 (allB_iff.1 hok5.2)
                          have hw1 : (leafW (2 * nc + 1) np nc pk cans wv b (q + 1)).worth = wsum (2 * nc + 1) wv np q := by rw [e9]
                          have hw2 : ((leafW (2 * nc + 1) np nc pk cans wv b (q + 1)).way : Int) = q := by rw [e9]
                          refine TW.region ?_
                          refine TL.p Pu.mv ?_
                          refine TL.p Pu.mv ?_
                          refine TL.p Pu.as ?_
                          refine TL.p Pu.as ?_
                          refine TL.nil ?_
                          refine TQ.blkN ?_
                          refine TQ.thenN (hY40 _ _ ?_)
                          refine TW.region ?_
                          refine TL.p Pu.mv ?_
                          refine TL.p Pu.ad ?_
                          refine TL.p Pu.as ?_
                          refine TL.nil ?_
                          refine TQ.thenN (hZ3 (q + 1) _ _ ?_ ?_ (by repeat (first | exact trivial | refine ⟨rfl, ?_⟩ | refine ⟨trivial, ?_⟩ | refine ⟨(by show some (Value.int .i64 _) = some (Value.int .i64 _); congr 2; first | omega | (rw [Nat.pow_succ, Int.natCast_mul]) | exact hw1.symm | exact hw2.symm), ?_⟩)) ?_)
                          · exact ⟨by omega, by have := (hpow np (Nat.le_refl _)).1; omega⟩
                          · exact (by first | omega | (simp only []; omega) | (simp; omega))
                          · exact (by repeat (first | exact KSub.nil | refine KSub.cons (by repeat (first | exact Pick.hd | apply Pick.tl)) ?_ | exact KSub.refl _ | exact KSub.drop (KSub.refl _) | exact KSub.drop (KSub.drop (KSub.refl _)) | exact KSub.drop (KSub.drop (KSub.drop (KSub.refl _)))))
                        · try simp only [decide_eq_true_eq, decide_eq_false_iff_not, Bool.not_eq_true', Bool.not_eq_false', Bool.and_eq_true, Bool.or_eq_true, Bool.and_eq_false_iff, Bool.or_eq_false_iff, Int.not_lt, Int.not_le] at hc11
                          have hcf : ok = false := by simpa using hc11
                          have e9 : leafW (2 * nc + 1) np nc pk cans wv b (q + 1) = (leafW (2 * nc + 1) np nc pk cans wv b q) := by
                            rw [hcf] at hok4
                            rcases Bool.and_eq_false_iff.1 hok4.symm with h | h
                            · exact leaf_small (show wsum (2 * nc + 1) wv np q ≤ (leafW (2 * nc + 1) np nc pk cans wv b q).worth by simpa using h)
                            · have h2 : ∃ j, j < k ∧ (okT (2 * nc + 1) np (fun q => rl (pk q)) (fun q => rh (pk q)) cans b q) j = false := by
                                refine Classical.byContradiction fun hne => ?_
                                have : allB k (okT (2 * nc + 1) np (fun q => rl (pk q)) (fun q => rh (pk q)) cans b q) = true := allB_iff.2 fun j hj => by
                                  cases h3 : (okT (2 * nc + 1) np (fun q => rl (pk q)) (fun q => rh (pk q)) cans b q) j with
                                  | true => rfl
                                  | false => exact absurd ⟨j, hj, h3⟩ hne
                                rw [this] at h
                                cases h
                              obtain ⟨j, hj, h3⟩ := h2
                              exact leaf_bad (by omega) h3
                          have hw1 : (leafW (2 * nc + 1) np nc pk cans wv b (q + 1)).worth = (leafW (2 * nc + 1) np nc pk cans wv b q).worth := by rw [e9]
                          have hw2 : ((leafW (2 * nc + 1) np nc pk cans wv b (q + 1)).way : Int) = (leafW (2 * nc + 1) np nc pk cans wv b q).way := by rw [e9]
                          refine TW.skip ?_
                          refine TQ.blkN ?_
                          refine TQ.thenN (hY40 _ _ ?_)
                          refine TW.region ?_
                          refine TL.p Pu.mv ?_
                          refine TL.p Pu.ad ?_
                          refine TL.p Pu.as ?_
                          refine TL.nil ?_
                          refine TQ.thenN (hZ3 (q + 1) _ _ ?_ ?_ (by repeat (first | exact trivial | refine ⟨rfl, ?_⟩ | refine ⟨trivial, ?_⟩ | refine ⟨(by show some (Value.int .i64 _) = some (Value.int .i64 _); congr 2; first | omega | (rw [Nat.pow_succ, Int.natCast_mul]) | exact hw1.symm | exact hw2.symm), ?_⟩)) ?_)
                          · exact ⟨by omega, by have := (hpow np (Nat.le_refl _)).1; omega⟩
                          · exact (by first | omega | (simp only []; omega) | (simp; omega))
                          · exact (by repeat (first | exact KSub.nil | refine KSub.cons (by repeat (first | exact Pick.hd | apply Pick.tl)) ?_ | exact KSub.refl _ | exact KSub.drop (KSub.refl _) | exact KSub.drop (KSub.drop (KSub.refl _)) | exact KSub.drop (KSub.drop (KSub.drop (KSub.refl _)))))
                    refine TW.region ?_
                    refine TL.p Pu.mv ?_
                    refine TL.p Pu.mv ?_
                    refine TL.guard (t := 101) rfl (fun hg2 => ?_) (fun hg2 => ?_)
                    · try simp only [decide_eq_true_eq, decide_eq_false_iff_not, Bool.not_eq_true', Bool.not_eq_false', Int.natCast_pos] at hg2
                      refine TL.gd Pu.mv ?_
                      refine TL.gd Pu.mv ?_
                      refine TL.gd (Pu.ln Tryd.underlying27) ?_
                      refine TL.gd Pu.lt ?_
                      refine TL.p Pu.kt ?_
                      refine TL.nil ?_
                      exact TQ.sub (by repeat (first | exact trivial | refine ⟨rfl, ?_⟩ | refine ⟨trivial, ?_⟩ | refine ⟨(by show some (Value.bool _) = some (Value.bool _); simp [hg2]), ?_⟩)) (by repeat (first | exact KSub.nil | refine KSub.cons (by repeat (first | exact Pick.hd | apply Pick.tl)) ?_ | exact KSub.refl _ | exact KSub.drop (KSub.refl _) | exact KSub.drop (KSub.drop (KSub.refl _)) | exact KSub.drop (KSub.drop (KSub.drop (KSub.refl _))))) hJ2
                    · try simp only [decide_eq_true_eq, decide_eq_false_iff_not, Bool.not_eq_true', Bool.not_eq_false', Int.natCast_pos] at hg2
                      refine TL.gs ?_
                      refine TL.gs ?_
                      refine TL.gs ?_
                      refine TL.gs ?_
                      refine TL.p Pu.kf ?_
                      refine TL.nil ?_
                      exact TQ.sub (by repeat (first | exact trivial | refine ⟨rfl, ?_⟩ | refine ⟨trivial, ?_⟩ | refine ⟨(by show some (Value.bool _) = some (Value.bool _); simp [hg2]), ?_⟩)) (by repeat (first | exact KSub.nil | refine KSub.cons (by repeat (first | exact Pick.hd | apply Pick.tl)) ?_ | exact KSub.refl _ | exact KSub.drop (KSub.refl _) | exact KSub.drop (KSub.drop (KSub.refl _)) | exact KSub.drop (KSub.drop (KSub.drop (KSub.refl _))))) hJ2
                  · try simp only [decide_eq_true_eq, decide_eq_false_iff_not, Bool.not_eq_true', Bool.not_eq_false', Bool.and_eq_true, Bool.or_eq_true, Bool.and_eq_false_iff, Bool.or_eq_false_iff, Int.not_lt, Int.not_le] at hc9
                    obtain rfl : q = (2 * nc + 1) ^ np := by omega
                    refine TW.exit ?_
                    refine TQ.thenX ?_
                    refine TQ.thenX ?_
                    refine TQ.blkX ?_
                    refine TQ.thenN (hY36 _ _ ?_)
                    refine TW.seq fun Y49 hY49 => ?_
                    refine TW.region ?_
                    refine TL.p Pu.mv ?_
                    refine TL.p Pu.mv ?_
                    refine TL.p Pu.mv ?_
                    refine TL.p (Pu.ln Tryd.underlying26) ?_
                    refine TL.p Pu.mv ?_
                    refine TL.p (Pu.ln Tryd.underlying47) ?_
                    refine TL.p Pu.mv ?_
                    refine TL.call (M := []) rfl (enters Tryd.func52 rfl rfl) (List.Perm.refl _) rfl (fun w hw => by
                        exact spread_any hnp7 hnc2 (by omega) (by omega) hwv (hV.sat hw Apart.nil)) ?_
                    rintro ⟨⟨T, cT⟩, TA, Tc⟩
                    refine TL.p Pu.mv ?_
                    refine TL.p Pu.ex ?_
                    refine TL.p Pu.ex ?_
                    refine TL.p Pu.as ?_
                    refine TL.p Pu.as ?_
                    refine TL.nil ?_
                    refine TQ.thenN (hY49 _ _ ?_)
                    refine TW.seq fun Y50 hY50 => ?_
                    refine TW.region ?_
                    refine TL.p Pu.mv ?_
                    refine TL.p Pu.mv ?_
                    refine TL.p Pu.as ?_
                    refine TL.p Pu.as ?_
                    refine TL.p Pu.as ?_
                    refine TL.nil ?_
                    refine TQ.thenN (hY50 _ _ ?_)
                    refine TW.ret ?_
                    refine TQ.ret Tryd.results17 rfl ((.tmp rfl (.tmp rfl (.tmp rfl .nil)))) ?_
                    have hN : stowN np pk nc cans np wv b = nc := by unfold stowN; rw [if_pos hcode]; exact hfound.1
                    have hW : stowW np pk nc cans np wv b = (stowB np pk nc cans wv b).worth := by unfold stowW; rw [if_pos hcode]
                    exact fun w hw => ⟨((T, cT), TA, Tc), by rw [hN, hW, hcode, leafW_all]; rfl, by
                      have h := hw
                      rw [leafW_all, List.append_nil] at h
                      rw [hN]
                      exact h⟩
    refine TW.region ?_
    refine TL.p Pu.mv ?_
    refine TL.p (Pu.ln Tryd.underlying26) ?_
    refine TL.p Pu.gt ?_
    refine TL.p Pu.mv ?_
    refine TL.guard (t := 31) rfl (fun hg3 => ?_) (fun hg3 => ?_)
    · try simp only [decide_eq_true_eq, decide_eq_false_iff_not, Bool.not_eq_true', Bool.not_eq_false', Int.natCast_pos] at hg3
      refine TL.gs ?_
      refine TL.gs ?_
      refine TL.gs ?_
      refine TL.p Pu.kt ?_
      refine TL.nil ?_
      exact TQ.sub (by repeat (first | exact trivial | refine ⟨rfl, ?_⟩ | refine ⟨trivial, ?_⟩ | refine ⟨(by show some (Value.bool _) = some (Value.bool _); simp [hg3]), ?_⟩)) (by repeat (first | exact KSub.nil | refine KSub.cons (by repeat (first | exact Pick.hd | apply Pick.tl)) ?_ | exact KSub.refl _ | exact KSub.drop (KSub.refl _) | exact KSub.drop (KSub.drop (KSub.refl _)) | exact KSub.drop (KSub.drop (KSub.drop (KSub.refl _))))) hJ1
    · try simp only [decide_eq_true_eq, decide_eq_false_iff_not, Bool.not_eq_true', Bool.not_eq_false', Int.natCast_pos] at hg3
      refine TL.gd Pu.mv ?_
      refine TL.gd (Pu.ln Tryd.underlying47) ?_
      refine TL.gd Pu.gt ?_
      refine TL.p Pu.kf ?_
      refine TL.nil ?_
      exact TQ.sub (by repeat (first | exact trivial | refine ⟨rfl, ?_⟩ | refine ⟨trivial, ?_⟩ | refine ⟨(by show some (Value.bool _) = some (Value.bool _); simp [hg3]), ?_⟩)) (by repeat (first | exact KSub.nil | refine KSub.cons (by repeat (first | exact Pick.hd | apply Pick.tl)) ?_ | exact KSub.refl _ | exact KSub.drop (KSub.refl _) | exact KSub.drop (KSub.drop (KSub.refl _)) | exact KSub.drop (KSub.drop (KSub.drop (KSub.refl _))))) hJ1
end Go.Proofs.YtagcnokaajinlaaDoor
