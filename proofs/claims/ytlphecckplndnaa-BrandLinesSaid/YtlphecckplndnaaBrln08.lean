/-
  The statement BrandLinesSaid: for every input the law BrandLines returns true, and its arguments read afterwards as before. No condition.
-/
import Derived.Test.YtlphecckplndnaaBrln03
import Derived.Test.YtlphecckplndnaaBrln07
import Derived.Test.YtlphecckplndnaaBrln02
import Derived.ProofKit
import Derived.Deep.Slices
import Derived.Carry
import Derived.Test.YtlphecckplndnaaBrln05
import Derived.Test.YtlphecckplndnaaRows
import Derived.OpenShut
namespace Go.Proofs.Ytlphecckplndnaa
set_option linter.all false
set_option linter.unusedVariables false
set_option linter.unusedSimpArgs false
open Go.RowKit
def ownsE (E : TypeId) (sz : Nat) (A : Nat → Option Addr) (l c : Nat → Nat) (r : Nat → Nat → List Value) : Nat → List Fact
  | 0 => []
  | n + 1 => .own (A n) (l n) (c n) E sz (r n) :: ownsE E sz A l c r n
theorem ownsE_congr {E : TypeId} {sz : Nat} {A A2 : Nat → Option Addr} {l c c2 : Nat → Nat} {r : Nat → Nat → List Value} : ∀ {n : Nat}, (∀ i, i < n → A i = A2 i ∧ c i = c2 i) → ownsE E sz A l c r n = ownsE E sz A2 l c2 r n
  | 0, _ => rfl
  | n + 1, h => by
    obtain ⟨h1, h2⟩ := h n (by omega)
    simp only [ownsE, h1, h2, ownsE_congr (n := n) fun i hi => h i (by omega)]
theorem ownsE_mem {E : TypeId} {sz : Nat} {A : Nat → Option Addr} {l c : Nat → Nat} {r : Nat → Nat → List Value} {s : Nat} : ∀ {n : Nat}, s < n → Fact.own (A s) (l s) (c s) E sz (r s) ∈ ownsE E sz A l c r n
  | n + 1, h => by
    simp only [ownsE, List.mem_cons]
    by_cases hs : s = n
    · subst hs; exact .inl rfl
    · exact .inr (ownsE_mem (by omega))
def updA {α : Type} (f : Nat → α) (s : Nat) (x : α) : Nat → α := fun i => if i = s then x else f i
end Go.Proofs.Ytlphecckplndnaa
namespace Go.Proofs.Ytlphecckplndnaa
set_option linter.all false
set_option linter.unusedVariables false
set_option linter.unusedSimpArgs false
open Go.RowKit
set_option maxRecDepth 100000 in
set_option maxHeartbeats 2000000 in
theorem rKin_any {w : World} {A : Option Addr} {cp : Nat} {H : Hd} {a : Nat → Option Addr} {c : Nat → Nat} {ia ib : Int} (hI : HIn w A H a c) :
    Calls Try.prog 11 #[.slice A H.n cp, .int .i64 ia, .int .i64 ib] w (Ret w (.tuple #[.int .i64 (kinR H ia ib).1, .int .i64 (kinR H ia ib).2, .int .i64 (kinC H ia ib)])) := by
  have hn := hI.hn
  have hR := hI.hR
  refine K_enter (S := []) (K := []) Try.func11 rfl Try.ntmps11 rfl (Sat.start _) ?_
  refine TW.seq fun Y1 hY1 => ?_
  refine TW.region ?_
  refine TL.p Pu.as ?_
  refine TL.p Pu.as ?_
  refine TL.p Pu.as ?_
  refine TL.nil ?_
  refine TQ.thenN (hY1 _ _ ?_)
  refine TW.seq fun Y2 hY2 => ?_
  refine TW.seq fun Y3 hY3 => ?_
  refine TW.region ?_
  refine TL.p Pu.mv ?_
  refine TL.cr rfl (enters Try.func18 rfl rfl) (fun w hw => by
      exact rHerd_any (hI.sat hw)) ?_
  refine TL.p Pu.no ?_
  refine TL.nil ?_
  refine TQ.thenN (hY3 _ _ ?_)
  refine TW.cond rfl (fun hc0 => ?_) (fun hc0 => ?_)
  · try simp only [decide_eq_true_eq, decide_eq_false_iff_not, Bool.not_eq_true', Bool.not_eq_false', Bool.and_eq_true, Bool.or_eq_true, Bool.and_eq_false_iff, Bool.or_eq_false_iff, Int.not_lt, Int.not_le] at hc0
    have hh : herdB H = false := hc0
    have hc : kinC H ia ib = 20 := by unfold kinC; rw [hh]; rfl
    have hr : kinR H ia ib = (0, 0) := by unfold kinR; rw [hc]; rfl
    refine TW.seq fun Y4 hY4 => ?_
    refine TW.region ?_
    refine TL.p Pu.as ?_
    refine TL.p Pu.as ?_
    refine TL.p Pu.as ?_
    refine TL.nil ?_
    refine TQ.thenN (hY4 _ _ ?_)
    refine TW.ret ?_
    refine TQ.thenR ?_
    refine TQ.ret Try.results11 rfl ((.tmp rfl (.tmp rfl (.tmp rfl .nil)))) ?_
    exact fun w hw => ⟨by rw [hr, hc]; rfl, Chg.ext hw.chg⟩
  · try simp only [decide_eq_true_eq, decide_eq_false_iff_not, Bool.not_eq_true', Bool.not_eq_false', Bool.and_eq_true, Bool.or_eq_true, Bool.and_eq_false_iff, Bool.or_eq_false_iff, Int.not_lt, Int.not_le] at hc0
    have hh : herdB H = true := hc0
    have hk := herdB_ok.1 hh
    refine TW.skip ?_
    refine TQ.thenN (hY2 _ _ ?_)
    refine TW.seq fun Y5 hY5 => ?_
    refine TW.region ?_
    refine TL.p Pu.mv ?_
    refine TL.p Pu.mv ?_
    refine TL.cr rfl (enters Try.func23 rfl rfl) (fun w hw => by
        exact rAt_any _ hn (hR.sat hw Apart.nil)) ?_
    refine TL.p Pu.mv ?_
    refine TL.p Pu.mv ?_
    refine TL.cr rfl (enters Try.func23 rfl rfl) (fun w hw => by
        exact rAt_any _ hn (hR.sat hw Apart.nil)) ?_
    refine TL.p Pu.as ?_
    refine TL.p Pu.as ?_
    refine TL.nil ?_
    refine TQ.thenN (hY5 _ _ ?_)
    refine TW.seq fun Y6 hY6 => ?_
    refine TW.seq fun Y7 hY7 => ?_
    refine TW.join [(29, .bool (decide (atH H ia < 0) || decide (atH H ib < 0)))] ?_ (fun hJ1 => ?_)
    · refine TQ.thenN (hY7 _ _ ?_)
      refine TW.cond rfl (fun hc1 => ?_) (fun hc1 => ?_)
      · try simp only [decide_eq_true_eq, decide_eq_false_iff_not, Bool.not_eq_true', Bool.not_eq_false', Bool.and_eq_true, Bool.or_eq_true, Bool.and_eq_false_iff, Bool.or_eq_false_iff, Int.not_lt, Int.not_le] at hc1
        have hc : kinC H ia ib = 2 := by unfold kinC; rw [hh, if_pos rfl, if_neg (by omega)]
        have hr : kinR H ia ib = (0, 0) := by unfold kinR; rw [hc]; rfl
        refine TW.seq fun Y8 hY8 => ?_
        refine TW.region ?_
        refine TL.p Pu.as ?_
        refine TL.p Pu.as ?_
        refine TL.p Pu.as ?_
        refine TL.nil ?_
        refine TQ.thenN (hY8 _ _ ?_)
        refine TW.ret ?_
        refine TQ.thenR ?_
        refine TQ.ret Try.results11 rfl ((.tmp rfl (.tmp rfl (.tmp rfl .nil)))) ?_
        exact fun w hw => ⟨by rw [hr, hc]; rfl, Chg.ext hw.chg⟩
      · try simp only [decide_eq_true_eq, decide_eq_false_iff_not, Bool.not_eq_true', Bool.not_eq_false', Bool.and_eq_true, Bool.or_eq_true, Bool.and_eq_false_iff, Bool.or_eq_false_iff, Int.not_lt, Int.not_le] at hc1
        have hab : 0 ≤ atH H ia ∧ 0 ≤ atH H ib := by omega
        obtain ⟨hil, hie⟩ := at_lt hab.1
        obtain ⟨hjl, hje⟩ := at_lt hab.2
        obtain ⟨i, hi9⟩ : ∃ i, i = (atH H ia).toNat := ⟨_, rfl⟩
        obtain ⟨j, hj9⟩ : ∃ j, j = (atH H ib).toNat := ⟨_, rfl⟩
        rw [← hi9] at hil hie
        rw [← hj9] at hjl hje
        have hdi := dep_le (f := moH H) (n := H.n) (i := i)
        have hdj := dep_le (f := moH H) (n := H.n) (i := j)
        have h16 := hk.n16
        have hI9 := hid1 (And.intro hi9 hj9)
        clear hi9 hj9
        refine TW.skip ?_
        refine TQ.thenN (hY6 _ _ ?_)
        refine TW.seq fun Y9 hY9 => ?_
        refine TW.region ?_
        refine TL.p Pu.mv ?_
        refine TL.p Pu.mv ?_
        refine TL.call (M := []) rfl (enters Try.func24 rfl rfl) (List.Perm.refl _) rfl (fun w hw => by
            have h9 := rline_any (cp := cp) hk (hI.sat hw) hil
            rw [hie] at h9
            exact h9) ?_
        rintro ⟨Ai, ci⟩
        refine TL.p Pu.mv ?_
        refine TL.p Pu.mv ?_
        refine TL.call (M := []) rfl (enters Try.func24 rfl rfl) (List.Perm.refl _) rfl (fun w hw => by
            have h9 := rline_any (cp := cp) hk (hI.sat hw) hjl
            rw [hje] at h9
            exact h9) ?_
        rintro ⟨Aj, cj⟩
        refine TL.p Pu.as ?_
        refine TL.p Pu.as ?_
        refine TL.nil ?_
        refine TQ.thenN (hY9 _ _ ?_)
        refine TW.seq fun Y10 hY10 => ?_
        refine TW.seq fun Y11 hY11 => ?_
        refine TW.region ?_
        refine TL.p Pu.as ?_
        refine TL.nil ?_
        refine TQ.thenN (hY11 _ _ ?_)
        refine TW.block ?_
        refine TW.loop1 (fun (u : Nat) => [(13, .int .i64 (u : Int)), (11, .slice Ai (depH (moH H) H.n i) ci), (12, .slice Aj (depH (moH H) H.n j) cj)]) (fun u => [.own Ai (depH (moH H) H.n i) ci 3 1 (fun s => [.int .i64 (upH (moH H) i s)]), .own Aj (depH (moH H) H.n j) cj 3 1 (fun s => [.int .i64 (upH (moH H) j s)])]) (fun u => u ≤ depH (moH H) H.n i ∧ ∀ u', u' < u → kinM (moH H) H.n i j u' = false) (fun u => depH (moH H) H.n i - u) 0 (by repeat (first | exact trivial | refine ⟨rfl, ?_⟩ | refine ⟨trivial, ?_⟩)) ?_ ?_ ?_
        · exact (by repeat (first | exact KSub.nil | refine KSub.cons (by repeat (first | exact Pick.hd | apply Pick.tl)) ?_))
        · exact ⟨Nat.zero_le _, fun u' hu => by omega⟩
        rintro u ⟨hu, hno⟩ Z0 hZ0
        refine TW.seq fun Y12 hY12 => ?_
        refine TW.seq fun Y13 hY13 => ?_
        refine TW.region ?_
        refine TL.p Pu.mv ?_
        refine TL.p Pu.mv ?_
        refine TL.p (Pu.ln Try.underlying31) ?_
        refine TL.p Pu.lt ?_
        refine TL.nil ?_
        refine TQ.thenN (hY13 _ _ ?_)
        refine TW.cond rfl (fun hc2 => ?_) (fun hc2 => ?_)
        · try simp only [decide_eq_true_eq, decide_eq_false_iff_not, Bool.not_eq_true', Bool.not_eq_false', Bool.and_eq_true, Bool.or_eq_true, Bool.and_eq_false_iff, Bool.or_eq_false_iff, Int.not_lt, Int.not_le] at hc2
          have hul : u < depH (moH H) H.n i := by omega
          refine TW.skip ?_
          refine TQ.thenN (hY12 _ _ ?_)
          refine TW.seq fun Y14 hY14 => ?_
          refine TW.block ?_
          refine TW.seq fun Y15 hY15 => ?_
          refine TW.region ?_
          refine TL.p Pu.as ?_
          refine TL.nil ?_
          refine TQ.thenN (hY15 _ _ ?_)
          refine TW.block ?_
          refine TW.loop1 (fun (d : Nat) => [(14, .int .i64 (d : Int)), (13, .int .i64 (u : Int)), (11, .slice Ai (depH (moH H) H.n i) ci), (12, .slice Aj (depH (moH H) H.n j) cj)]) (fun d => [.own Ai (depH (moH H) H.n i) ci 3 1 (fun s => [.int .i64 (upH (moH H) i s)]), .own Aj (depH (moH H) H.n j) cj 3 1 (fun s => [.int .i64 (upH (moH H) j s)])]) (fun d => d ≤ depH (moH H) H.n j ∧ ∀ d', d' < d → upH (moH H) i u ≠ upH (moH H) j d') (fun d => depH (moH H) H.n j - d) 0 (by repeat (first | exact trivial | refine ⟨rfl, ?_⟩ | refine ⟨trivial, ?_⟩)) ?_ ?_ ?_
          · exact (by repeat (first | exact KSub.nil | refine KSub.cons (by repeat (first | exact Pick.hd | apply Pick.tl)) ?_))
          · exact ⟨Nat.zero_le _, fun d' hd => by omega⟩
          rintro d ⟨hd, hne⟩ Z1 hZ1
          refine TW.seq fun Y16 hY16 => ?_
          refine TW.seq fun Y17 hY17 => ?_
          refine TW.region ?_
          refine TL.p Pu.mv ?_
          refine TL.p Pu.mv ?_
          refine TL.p (Pu.ln Try.underlying31) ?_
          refine TL.p Pu.lt ?_
          refine TL.nil ?_
          refine TQ.thenN (hY17 _ _ ?_)
          refine TW.cond rfl (fun hc3 => ?_) (fun hc3 => ?_)
          · try simp only [decide_eq_true_eq, decide_eq_false_iff_not, Bool.not_eq_true', Bool.not_eq_false', Bool.and_eq_true, Bool.or_eq_true, Bool.and_eq_false_iff, Bool.or_eq_false_iff, Int.not_lt, Int.not_le] at hc3
            have hdl : d < depH (moH H) H.n j := by omega
            refine TW.skip ?_
            refine TQ.thenN (hY16 _ _ ?_)
            refine TW.seq fun Y18 hY18 => ?_
            refine TW.block ?_
            refine TW.seq fun Y19 hY19 => ?_
            refine TW.dw 9 ?_
            refine RK.tk Pu.mv ?_
            refine RK.tk Pu.mv ?_
            refine RK.tk (Pu.el ty_et31) ?_
            refine RK.tk (Pu.ld ty_sc3) ?_
            refine RK.tk Pu.mv ?_
            refine RK.tk Pu.mv ?_
            refine RK.tk (Pu.el ty_et31) ?_
            refine RK.tk (Pu.ld ty_sc3) ?_
            refine RK.tk Pu.eq ?_
            refine RK.ch [] ?_ trivial
            refine WK.n ?_
            refine TL.nil ?_
            refine TQ.thenN (hY19 _ _ ?_)
            refine TW.cond rfl (fun hc4 => ?_) (fun hc4 => ?_)
            · try simp only [decide_eq_true_eq, decide_eq_false_iff_not, Bool.not_eq_true', Bool.not_eq_false', Bool.and_eq_true, Bool.or_eq_true, Bool.and_eq_false_iff, Bool.or_eq_false_iff, Int.not_lt, Int.not_le] at hc4
              have heq : upH (moH H) i u = upH (moH H) j d := hc4
              have hyes : kinM (moH H) H.n i j u = true := anyB_iff.2 ⟨d, hdl, decide_eq_true heq⟩
              have hU : kinU (moH H) H.n i j = u := fst1_uniq hu hno (fun _ => hyes)
              have hD : kinD (moH H) H.n i j = (d : Int) := by
                unfold kinD
                rw [hU]
                exact atI_eq hdl (decide_eq_true heq) (fun d' hd' => decide_eq_false (hne d' hd'))
              have hc : kinC H ia ib = 0 := by unfold kinC; rw [hh, if_pos rfl, if_pos hab, ← hI9.out.1, ← hI9.out.2, hU, if_pos hul]
              have hr : kinR H ia ib = ((u : Int), (d : Int)) := by unfold kinR; rw [if_pos hc, ← hI9.out.1, ← hI9.out.2, hU, hD]
              refine TW.seq fun Y20 hY20 => ?_
              refine TW.region ?_
              refine TL.p Pu.mv ?_
              refine TL.p Pu.mv ?_
              refine TL.p Pu.as ?_
              refine TL.p Pu.as ?_
              refine TL.p Pu.as ?_
              refine TL.nil ?_
              refine TQ.thenN (hY20 _ _ ?_)
              refine TW.ret ?_
              refine TQ.blkR ?_
              refine TQ.thenR ?_
              refine TQ.thenR ?_
              refine TQ.blkR ?_
              refine TQ.blkR ?_
              refine TQ.thenR ?_
              refine TQ.thenR ?_
              refine TQ.blkR ?_
              refine TQ.thenR ?_
              refine TQ.ret Try.results11 rfl ((.tmp rfl (.tmp rfl (.tmp rfl .nil)))) ?_
              exact fun w hw => ⟨by rw [hr, hc]; rfl, Chg.ext hw.chg⟩
            · try simp only [decide_eq_true_eq, decide_eq_false_iff_not, Bool.not_eq_true', Bool.not_eq_false', Bool.and_eq_true, Bool.or_eq_true, Bool.and_eq_false_iff, Bool.or_eq_false_iff, Int.not_lt, Int.not_le] at hc4
              have hneq : upH (moH H) i u ≠ upH (moH H) j d := hc4
              refine TW.skip ?_
              refine TQ.blkN ?_
              refine TQ.thenN (hY18 _ _ ?_)
              refine TW.region ?_
              refine TL.p Pu.mv ?_
              refine TL.p Pu.ad ?_
              refine TL.p Pu.as ?_
              refine TL.nil ?_
              refine TQ.thenN (hZ1 (d + 1) _ _ ?_ ?_ (by repeat (first | exact trivial | refine ⟨rfl, ?_⟩ | refine ⟨trivial, ?_⟩)) ?_)
              · refine ⟨by omega, fun d' hd' => ?_⟩
                by_cases e : d' = d
                · subst e; exact hneq
                · exact hne d' (by omega)
              · exact (by first | omega | (simp only []; omega) | (simp; omega))
              · exact (by repeat (first | exact KSub.nil | refine KSub.cons (by repeat (first | exact Pick.hd | apply Pick.tl)) ?_))
          · try simp only [decide_eq_true_eq, decide_eq_false_iff_not, Bool.not_eq_true', Bool.not_eq_false', Bool.and_eq_true, Bool.or_eq_true, Bool.and_eq_false_iff, Bool.or_eq_false_iff, Int.not_lt, Int.not_le] at hc3
            have hde : d = depH (moH H) H.n j := by omega
            have hnot : kinM (moH H) H.n i j u = false := by
              unfold kinM
              rw [anyB_false]
              intro d' hd'
              exact decide_eq_false (hne d' (by omega))
            refine TW.exit ?_
            refine TQ.thenX ?_
            refine TQ.thenX ?_
            refine TQ.blkX ?_
            refine TQ.blkN ?_
            refine TQ.thenN (hY14 _ _ ?_)
            refine TW.region ?_
            refine TL.p Pu.mv ?_
            refine TL.p Pu.ad ?_
            refine TL.p Pu.as ?_
            refine TL.nil ?_
            refine TQ.thenN (hZ0 (u + 1) _ _ ?_ ?_ (by repeat (first | exact trivial | refine ⟨rfl, ?_⟩ | refine ⟨trivial, ?_⟩)) ?_)
            · refine ⟨by omega, fun u' hu' => ?_⟩
              by_cases e : u' = u
              · subst e; exact hnot
              · exact hno u' (by omega)
            · exact (by first | omega | (simp only []; omega) | (simp; omega))
            · exact (by repeat (first | exact KSub.nil | refine KSub.cons (by repeat (first | exact Pick.hd | apply Pick.tl)) ?_))
        · try simp only [decide_eq_true_eq, decide_eq_false_iff_not, Bool.not_eq_true', Bool.not_eq_false', Bool.and_eq_true, Bool.or_eq_true, Bool.and_eq_false_iff, Bool.or_eq_false_iff, Int.not_lt, Int.not_le] at hc2
          have hue : u = depH (moH H) H.n i := by omega
          have hU : kinU (moH H) H.n i j = depH (moH H) H.n i := fst1_uniq (Nat.le_refl _) (fun u' hu' => hno u' (by omega)) (fun h => by omega)
          have hc : kinC H ia ib = 6 := by unfold kinC; rw [hh, if_pos rfl, if_pos hab, ← hI9.out.1, ← hI9.out.2, hU, if_neg (by omega)]
          have hr : kinR H ia ib = (0, 0) := by unfold kinR; rw [hc]; rfl
          refine TW.exit ?_
          refine TQ.thenX ?_
          refine TQ.thenX ?_
          refine TQ.blkX ?_
          refine TQ.thenN (hY10 _ _ ?_)
          refine TW.seq fun Y21 hY21 => ?_
          refine TW.region ?_
          refine TL.p Pu.as ?_
          refine TL.p Pu.as ?_
          refine TL.p Pu.as ?_
          refine TL.nil ?_
          refine TQ.thenN (hY21 _ _ ?_)
          refine TW.ret ?_
          refine TQ.ret Try.results11 rfl ((.tmp rfl (.tmp rfl (.tmp rfl .nil)))) ?_
          exact fun w hw => ⟨by rw [hr, hc]; rfl, Chg.ext hw.chg⟩
    refine TW.region ?_
    refine TL.p Pu.mv ?_
    refine TL.p Pu.lt ?_
    refine TL.p Pu.mv ?_
    refine TL.guard (t := 26) rfl (fun hg1 => ?_) (fun hg1 => ?_)
    · try simp only [decide_eq_true_eq, decide_eq_false_iff_not, Bool.not_eq_true', Bool.not_eq_false', Int.natCast_pos] at hg1
      refine TL.gs ?_
      refine TL.gs ?_
      refine TL.p Pu.kt ?_
      refine TL.nil ?_
      exact TQ.sub (by repeat (first | exact trivial | refine ⟨rfl, ?_⟩ | refine ⟨trivial, ?_⟩ | refine ⟨(by show some (Value.bool _) = some (Value.bool _); simp [hg1]), ?_⟩)) (by repeat (first | exact KSub.nil | refine KSub.cons (by repeat (first | exact Pick.hd | apply Pick.tl)) ?_)) hJ1
    · try simp only [decide_eq_true_eq, decide_eq_false_iff_not, Bool.not_eq_true', Bool.not_eq_false', Int.natCast_pos] at hg1
      refine TL.gd Pu.mv ?_
      refine TL.gd Pu.lt ?_
      refine TL.p Pu.kf ?_
      refine TL.nil ?_
      exact TQ.sub (by repeat (first | exact trivial | refine ⟨rfl, ?_⟩ | refine ⟨trivial, ?_⟩ | refine ⟨(by show some (Value.bool _) = some (Value.bool _); simp [hg1]), ?_⟩)) (by repeat (first | exact KSub.nil | refine KSub.cons (by repeat (first | exact Pick.hd | apply Pick.tl)) ?_)) hJ1
set_option maxRecDepth 100000 in
theorem bSameSpans_any {w : World} {A B : Option Addr} {n c1 c2 : Nat} {S : BSt} (hn : n ≤ 1000000) (hA : RdR w 2 A n (fun j => spL (S j).1 (S j).2)) (hB : RdR w 2 B n (fun j => spL (S j).1 (S j).2)) :
    Calls Try.prog 14 #[.slice A n c1, .slice B n c2] w (Ret w (.bool true)) := by
  refine K_enter (S := []) (K := []) Try.func14 rfl Try.ntmps14 rfl (Sat.start _) ?_
  refine TW.seq fun Y1 hY1 => ?_
  refine TW.region ?_
  refine TL.p Pu.as ?_
  refine TL.nil ?_
  refine TQ.thenN (hY1 _ _ ?_)
  refine TW.seq fun Y2 hY2 => ?_
  refine TW.seq fun Y3 hY3 => ?_
  refine TW.region ?_
  refine TL.p Pu.mv ?_
  refine TL.p (Pu.ln Try.underlying25) ?_
  refine TL.p Pu.mv ?_
  refine TL.p (Pu.ln Try.underlying25) ?_
  refine TL.p Pu.ne ?_
  refine TL.nil ?_
  refine TQ.thenN (hY3 _ _ ?_)
  refine TW.condF rfl ((by simp)) ?_
  refine TW.skip ?_
  refine TQ.thenN (hY2 _ _ ?_)
  refine TW.seq fun Y4 hY4 => ?_
  refine TW.seq fun Y5 hY5 => ?_
  refine TW.region ?_
  refine TL.p Pu.as ?_
  refine TL.nil ?_
  refine TQ.thenN (hY5 _ _ ?_)
  refine TW.block ?_
  refine TW.loop1 (fun (k : Nat) => [(5, .int .i64 (k : Int)), (0, .slice A n c1), (1, .slice B n c2)]) (fun k => []) (fun k => k ≤ n) (fun k => n - k) 0 (by repeat (first | exact trivial | refine ⟨rfl, ?_⟩ | refine ⟨trivial, ?_⟩)) ?_ ?_ ?_
  · exact (by repeat (first | exact KSub.nil | refine KSub.cons (by repeat (first | exact Pick.hd | apply Pick.tl)) ?_))
  · exact Nat.zero_le _
  rintro k hk Z0 hZ0
  refine TW.seq fun Y6 hY6 => ?_
  refine TW.seq fun Y7 hY7 => ?_
  refine TW.region ?_
  refine TL.p Pu.mv ?_
  refine TL.p Pu.mv ?_
  refine TL.p (Pu.ln Try.underlying25) ?_
  refine TL.p Pu.lt ?_
  refine TL.nil ?_
  refine TQ.thenN (hY7 _ _ ?_)
  refine TW.cond rfl (fun hc1 => ?_) (fun hc1 => ?_)
  · try simp only [decide_eq_true_eq, decide_eq_false_iff_not, Bool.not_eq_true', Bool.not_eq_false', Bool.and_eq_true, Bool.or_eq_true, Bool.and_eq_false_iff, Bool.or_eq_false_iff, Int.not_lt, Int.not_le] at hc1
    refine TW.skip ?_
    refine TQ.thenN (hY6 _ _ ?_)
    refine TW.seq fun Y8 hY8 => ?_
    refine TW.block ?_
    refine TW.seq fun Y9 hY9 => ?_
    refine TW.dw 9 ?_
    refine RK.tk Pu.mv ?_
    refine RK.tk Pu.mv ?_
    refine RK.tk (Pu.el ty_et25) ?_
    refine RK.tk (Pu.lds ty_ag47) ?_
    refine RK.tk Pu.mv ?_
    refine RK.tk Pu.mv ?_
    refine RK.tk (Pu.el ty_et25) ?_
    refine RK.tk (Pu.lds ty_ag47) ?_
    refine RK.tk (Pu.bin rfl rfl (fun w => ne2_is (b := false) (by simp) w _ _)) ?_
    refine RK.ch [] ?_ trivial
    refine WK.n ?_
    refine TL.nil ?_
    refine TQ.thenN (hY9 _ _ ?_)
    refine TW.condF rfl (rfl) ?_
    refine TW.skip ?_
    refine TQ.blkN ?_
    refine TQ.thenN (hY8 _ _ ?_)
    refine TW.region ?_
    refine TL.p Pu.mv ?_
    refine TL.p Pu.ad ?_
    refine TL.p Pu.as ?_
    refine TL.nil ?_
    refine TQ.thenN (hZ0 (k + 1) _ _ ?_ ?_ (by repeat (first | exact trivial | refine ⟨rfl, ?_⟩ | refine ⟨trivial, ?_⟩)) ?_)
    · exact (by omega)
    · exact (by first | omega | (simp only []; omega) | (simp; omega))
    · exact (by repeat (first | exact KSub.nil | refine KSub.cons (by repeat (first | exact Pick.hd | apply Pick.tl)) ?_))
  · try simp only [decide_eq_true_eq, decide_eq_false_iff_not, Bool.not_eq_true', Bool.not_eq_false', Bool.and_eq_true, Bool.or_eq_true, Bool.and_eq_false_iff, Bool.or_eq_false_iff, Int.not_lt, Int.not_le] at hc1
    refine TW.exit ?_
    refine TQ.thenX ?_
    refine TQ.thenX ?_
    refine TQ.blkX ?_
    refine TQ.thenN (hY4 _ _ ?_)
    refine TW.seq fun Y10 hY10 => ?_
    refine TW.region ?_
    refine TL.p Pu.as ?_
    refine TL.nil ?_
    refine TQ.thenN (hY10 _ _ ?_)
    refine TW.ret ?_
    refine TQ.ret Try.results14 rfl ((.tmp rfl .nil)) ?_
    exact fun w hw => Ret.of hw
set_option maxRecDepth 100000 in
theorem bSameInts_any {w : World} {A B : Option Addr} {n c1 c2 : Nat} {v : Nat → Int} (hn : n ≤ 1000000) (hA : RdR w 1 A n (fun j => [.int .i64 (v j)])) (hB : RdR w 1 B n (fun j => [.int .i64 (v j)])) :
    Calls Try.prog 15 #[.slice A n c1, .slice B n c2] w (Ret w (.bool true)) := by
  refine K_enter (S := []) (K := []) Try.func15 rfl Try.ntmps15 rfl (Sat.start _) ?_
  refine TW.seq fun Y1 hY1 => ?_
  refine TW.region ?_
  refine TL.p Pu.as ?_
  refine TL.nil ?_
  refine TQ.thenN (hY1 _ _ ?_)
  refine TW.seq fun Y2 hY2 => ?_
  refine TW.seq fun Y3 hY3 => ?_
  refine TW.region ?_
  refine TL.p Pu.mv ?_
  refine TL.p (Pu.ln Try.underlying31) ?_
  refine TL.p Pu.mv ?_
  refine TL.p (Pu.ln Try.underlying31) ?_
  refine TL.p Pu.ne ?_
  refine TL.nil ?_
  refine TQ.thenN (hY3 _ _ ?_)
  refine TW.condF rfl ((by simp)) ?_
  refine TW.skip ?_
  refine TQ.thenN (hY2 _ _ ?_)
  refine TW.seq fun Y4 hY4 => ?_
  refine TW.seq fun Y5 hY5 => ?_
  refine TW.region ?_
  refine TL.p Pu.as ?_
  refine TL.nil ?_
  refine TQ.thenN (hY5 _ _ ?_)
  refine TW.block ?_
  refine TW.loop1 (fun (k : Nat) => [(5, .int .i64 (k : Int)), (0, .slice A n c1), (1, .slice B n c2)]) (fun k => []) (fun k => k ≤ n) (fun k => n - k) 0 (by repeat (first | exact trivial | refine ⟨rfl, ?_⟩ | refine ⟨trivial, ?_⟩)) ?_ ?_ ?_
  · exact (by repeat (first | exact KSub.nil | refine KSub.cons (by repeat (first | exact Pick.hd | apply Pick.tl)) ?_))
  · exact Nat.zero_le _
  rintro k hk Z0 hZ0
  refine TW.seq fun Y6 hY6 => ?_
  refine TW.seq fun Y7 hY7 => ?_
  refine TW.region ?_
  refine TL.p Pu.mv ?_
  refine TL.p Pu.mv ?_
  refine TL.p (Pu.ln Try.underlying31) ?_
  refine TL.p Pu.lt ?_
  refine TL.nil ?_
  refine TQ.thenN (hY7 _ _ ?_)
  refine TW.cond rfl (fun hc1 => ?_) (fun hc1 => ?_)
  · try simp only [decide_eq_true_eq, decide_eq_false_iff_not, Bool.not_eq_true', Bool.not_eq_false', Bool.and_eq_true, Bool.or_eq_true, Bool.and_eq_false_iff, Bool.or_eq_false_iff, Int.not_lt, Int.not_le] at hc1
    refine TW.skip ?_
    refine TQ.thenN (hY6 _ _ ?_)
    refine TW.seq fun Y8 hY8 => ?_
    refine TW.block ?_
    refine TW.seq fun Y9 hY9 => ?_
    refine TW.dw 9 ?_
    refine RK.tk Pu.mv ?_
    refine RK.tk Pu.mv ?_
    refine RK.tk (Pu.el ty_et31) ?_
    refine RK.tk (Pu.ld ty_sc3) ?_
    refine RK.tk Pu.mv ?_
    refine RK.tk Pu.mv ?_
    refine RK.tk (Pu.el ty_et31) ?_
    refine RK.tk (Pu.ld ty_sc3) ?_
    refine RK.tk Pu.ne ?_
    refine RK.ch [] ?_ trivial
    refine WK.n ?_
    refine TL.nil ?_
    refine TQ.thenN (hY9 _ _ ?_)
    refine TW.condF rfl ((by simp)) ?_
    refine TW.skip ?_
    refine TQ.blkN ?_
    refine TQ.thenN (hY8 _ _ ?_)
    refine TW.region ?_
    refine TL.p Pu.mv ?_
    refine TL.p Pu.ad ?_
    refine TL.p Pu.as ?_
    refine TL.nil ?_
    refine TQ.thenN (hZ0 (k + 1) _ _ ?_ ?_ (by repeat (first | exact trivial | refine ⟨rfl, ?_⟩ | refine ⟨trivial, ?_⟩)) ?_)
    · exact (by omega)
    · exact (by first | omega | (simp only []; omega) | (simp; omega))
    · exact (by repeat (first | exact KSub.nil | refine KSub.cons (by repeat (first | exact Pick.hd | apply Pick.tl)) ?_))
  · try simp only [decide_eq_true_eq, decide_eq_false_iff_not, Bool.not_eq_true', Bool.not_eq_false', Bool.and_eq_true, Bool.or_eq_true, Bool.and_eq_false_iff, Bool.or_eq_false_iff, Int.not_lt, Int.not_le] at hc1
    refine TW.exit ?_
    refine TQ.thenX ?_
    refine TQ.thenX ?_
    refine TQ.blkX ?_
    refine TQ.thenN (hY4 _ _ ?_)
    refine TW.seq fun Y10 hY10 => ?_
    refine TW.region ?_
    refine TL.p Pu.as ?_
    refine TL.nil ?_
    refine TQ.thenN (hY10 _ _ ?_)
    refine TW.ret ?_
    refine TQ.ret Try.results15 rfl ((.tmp rfl .nil)) ?_
    exact fun w hw => Ret.of hw
def greatH (H : Hd) : Bool := decide ((20 : Int) < (H.n : Int)) || anyB H.n fun i => decide ((12 : Int) < (H.ml i : Int))
set_option maxRecDepth 100000 in
theorem rGreat_any {w : World} {A : Option Addr} {cp : Nat} {H : Hd} {a : Nat → Option Addr} {c : Nat → Nat} (hR : RdR w 5 A H.n (fun i => anL H a c i)) :
    Calls Try.prog 4 #[.slice A H.n cp] w (Ret w (.bool (greatH H))) := by
  refine K_enter (S := []) (K := []) Try.func4 rfl Try.ntmps4 rfl (Sat.start _) ?_
  refine TW.seq fun Y1 hY1 => ?_
  refine TW.region ?_
  refine TL.p Pu.as ?_
  refine TL.nil ?_
  refine TQ.thenN (hY1 _ _ ?_)
  refine TW.seq fun Y2 hY2 => ?_
  refine TW.seq fun Y3 hY3 => ?_
  refine TW.region ?_
  refine TL.p Pu.mv ?_
  refine TL.p (Pu.ln Try.underlying22) ?_
  refine TL.p Pu.gt ?_
  refine TL.nil ?_
  refine TQ.thenN (hY3 _ _ ?_)
  refine TW.cond rfl (fun hc0 => ?_) (fun hc0 => ?_)
  · try simp only [decide_eq_true_eq, decide_eq_false_iff_not, Bool.not_eq_true', Bool.not_eq_false', Bool.and_eq_true, Bool.or_eq_true, Bool.and_eq_false_iff, Bool.or_eq_false_iff, Int.not_lt, Int.not_le] at hc0
    have hg : greatH H = true := by unfold greatH; rw [decide_eq_true hc0]; rfl
    refine TW.seq fun Y4 hY4 => ?_
    refine TW.region ?_
    refine TL.p Pu.as ?_
    refine TL.nil ?_
    refine TQ.thenN (hY4 _ _ ?_)
    refine TW.ret ?_
    refine TQ.thenR ?_
    refine TQ.ret Try.results4 rfl ((.tmp rfl .nil)) ?_
    exact fun w hw => ⟨by rw [hg]; rfl, Chg.ext hw.chg⟩
  · try simp only [decide_eq_true_eq, decide_eq_false_iff_not, Bool.not_eq_true', Bool.not_eq_false', Bool.and_eq_true, Bool.or_eq_true, Bool.and_eq_false_iff, Bool.or_eq_false_iff, Int.not_lt, Int.not_le] at hc0
    have h20 : ¬ (20 : Int) < (H.n : Int) := by omega
    refine TW.skip ?_
    refine TQ.thenN (hY2 _ _ ?_)
    refine TW.seq fun Y5 hY5 => ?_
    refine TW.seq fun Y6 hY6 => ?_
    refine TW.region ?_
    refine TL.p Pu.as ?_
    refine TL.nil ?_
    refine TQ.thenN (hY6 _ _ ?_)
    refine TW.block ?_
    refine TW.loop1 (fun (k : Nat) => [(3, .int .i64 (k : Int)), (0, .slice A H.n cp)]) (fun k => []) (fun k => k ≤ H.n ∧ ∀ j, j < k → ¬ (12 : Int) < (H.ml j : Int)) (fun k => H.n - k) 0 (by repeat (first | exact trivial | refine ⟨rfl, ?_⟩ | refine ⟨trivial, ?_⟩)) ?_ ?_ ?_
    · exact (by repeat (first | exact KSub.nil | refine KSub.cons (by repeat (first | exact Pick.hd | apply Pick.tl)) ?_))
    · exact ⟨Nat.zero_le _, fun j hj => by omega⟩
    rintro k ⟨hk, hno⟩ Z0 hZ0
    refine TW.seq fun Y7 hY7 => ?_
    refine TW.seq fun Y8 hY8 => ?_
    refine TW.region ?_
    refine TL.p Pu.mv ?_
    refine TL.p Pu.mv ?_
    refine TL.p (Pu.ln Try.underlying22) ?_
    refine TL.p Pu.lt ?_
    refine TL.nil ?_
    refine TQ.thenN (hY8 _ _ ?_)
    refine TW.cond rfl (fun hc1 => ?_) (fun hc1 => ?_)
    · try simp only [decide_eq_true_eq, decide_eq_false_iff_not, Bool.not_eq_true', Bool.not_eq_false', Bool.and_eq_true, Bool.or_eq_true, Bool.and_eq_false_iff, Bool.or_eq_false_iff, Int.not_lt, Int.not_le] at hc1
      have hkn : k < H.n := by omega
      refine TW.skip ?_
      refine TQ.thenN (hY7 _ _ ?_)
      refine TW.seq fun Y9 hY9 => ?_
      refine TW.block ?_
      refine TW.seq fun Y10 hY10 => ?_
      refine TW.region ?_
      refine TL.p Pu.mv ?_
      refine TL.p Pu.mv ?_
      refine TL.p (Pu.el ty_et22) ?_
      refine TL.p (by first | exact Pu.fb ty_fa50_3 | exact Pu.fe ty_fa50_3) ?_
      refine TL.p (Pu.ld ty_sc48) ?_
      refine TL.p (Pu.ln Try.underlying48) ?_
      refine TL.p Pu.gt ?_
      refine TL.nil ?_
      refine TQ.thenN (hY10 _ _ ?_)
      refine TW.cond rfl (fun hc2 => ?_) (fun hc2 => ?_)
      · try simp only [decide_eq_true_eq, decide_eq_false_iff_not, Bool.not_eq_true', Bool.not_eq_false', Bool.and_eq_true, Bool.or_eq_true, Bool.and_eq_false_iff, Bool.or_eq_false_iff, Int.not_lt, Int.not_le] at hc2
        have hg : greatH H = true := by unfold greatH; rw [Bool.or_eq_true]; exact .inr (anyB_iff.2 ⟨k, hkn, decide_eq_true hc2⟩)
        refine TW.seq fun Y11 hY11 => ?_
        refine TW.region ?_
        refine TL.p Pu.as ?_
        refine TL.nil ?_
        refine TQ.thenN (hY11 _ _ ?_)
        refine TW.ret ?_
        refine TQ.blkR ?_
        refine TQ.thenR ?_
        refine TQ.thenR ?_
        refine TQ.blkR ?_
        refine TQ.thenR ?_
        refine TQ.ret Try.results4 rfl ((.tmp rfl .nil)) ?_
        exact fun w hw => ⟨by rw [hg]; rfl, Chg.ext hw.chg⟩
      · try simp only [decide_eq_true_eq, decide_eq_false_iff_not, Bool.not_eq_true', Bool.not_eq_false', Bool.and_eq_true, Bool.or_eq_true, Bool.and_eq_false_iff, Bool.or_eq_false_iff, Int.not_lt, Int.not_le] at hc2
        have hnk : ¬ (12 : Int) < (H.ml k : Int) := by omega
        refine TW.skip ?_
        refine TQ.blkN ?_
        refine TQ.thenN (hY9 _ _ ?_)
        refine TW.region ?_
        refine TL.p Pu.mv ?_
        refine TL.p Pu.ad ?_
        refine TL.p Pu.as ?_
        refine TL.nil ?_
        refine TQ.thenN (hZ0 (k + 1) _ _ ?_ ?_ (by repeat (first | exact trivial | refine ⟨rfl, ?_⟩ | refine ⟨trivial, ?_⟩)) ?_)
        · refine ⟨by omega, fun j hj => ?_⟩
          by_cases e : j = k
          · subst e; exact hnk
          · exact hno j (by omega)
        · exact (by first | omega | (simp only []; omega) | (simp; omega))
        · exact (by repeat (first | exact KSub.nil | refine KSub.cons (by repeat (first | exact Pick.hd | apply Pick.tl)) ?_))
    · try simp only [decide_eq_true_eq, decide_eq_false_iff_not, Bool.not_eq_true', Bool.not_eq_false', Bool.and_eq_true, Bool.or_eq_true, Bool.and_eq_false_iff, Bool.or_eq_false_iff, Int.not_lt, Int.not_le] at hc1
      have hg : greatH H = false := by
        unfold greatH
        rw [decide_eq_false h20, Bool.false_or, anyB_false]
        exact fun j hj => decide_eq_false (hno j (by omega))
      refine TW.exit ?_
      refine TQ.thenX ?_
      refine TQ.thenX ?_
      refine TQ.blkX ?_
      refine TQ.thenN (hY5 _ _ ?_)
      refine TW.seq fun Y12 hY12 => ?_
      refine TW.region ?_
      refine TL.p Pu.as ?_
      refine TL.nil ?_
      refine TQ.thenN (hY12 _ _ ?_)
      refine TW.ret ?_
      refine TQ.ret Try.results4 rfl ((.tmp rfl .nil)) ?_
      exact fun w hw => ⟨by rw [hg]; rfl, Chg.ext hw.chg⟩
theorem great_in {H : Hd} (h : greatH H = false) : H.n ≤ 20 ∧ ∀ i, i < H.n → H.ml i ≤ 12 := by
  unfold greatH at h
  rw [Bool.or_eq_false_iff, anyB_false] at h
  obtain ⟨h1, h2⟩ := h
  have h1 := of_decide_eq_false h1
  refine ⟨by omega, fun i hi => ?_⟩
  have := of_decide_eq_false (h2 i hi)
  omega
end Go.Proofs.Ytlphecckplndnaa
namespace Go.Proofs.Ytlphecckplndnaa
set_option linter.all false
set_option linter.unusedVariables false
set_option linter.unusedSimpArgs false
open Go.RowKit
theorem Fact.locB {φ : Fact} {w w' : World} (h : φ.holds w) (he : ∀ b ∈ φ.foot, w'.heap[b]? = w.heap[b]?) : φ.holds w' := by
  match φ, h, he with
  | .blk b t cs, h, he => exact (he b (by simp [Fact.foot])).trans h
  | .own A n c E sz f, h, he => exact ⟨own_of_block h.own fun b hb => he b (by rw [own_foot, hb]; simp), h.len⟩
  | .obj b o, h, he => exact ⟨(he b (by simp [Fact.foot])).trans h.1, h.2⟩
  | .pr l p, h, he =>
    refine ⟨h.loc w w' h.lt h.now he, fun b hb => ?_, h.loc⟩
    have h1 := h.lt b hb
    have h2 := he b hb
    rw [Array.getElem?_eq_getElem h1] at h2
    exact (Array.getElem?_eq_some_iff.1 h2).1
def bun (K : List Fact) : Fact := .pr (feet K) fun w => ∀ φ ∈ K, φ.holds w
theorem bun_holds {K : List Fact} {w : World} (h : ∀ φ ∈ K, φ.holds w) : (bun K).holds w :=
  ⟨h, fun b hb => by
    obtain ⟨φ, hφ, hb'⟩ := List.mem_flatMap.1 hb
    exact Fact.lt (h φ hφ) b hb', fun w w' _ hp he φ hφ => Fact.locB (hp φ hφ) fun b hb => he b (List.mem_flatMap.2 ⟨φ, hφ, hb⟩)⟩
theorem Sat.bun {S : List Nat} {w0 w : World} {K1 K : List Fact} (h : Sat S w0 (K1 ++ K) w) : Sat S w0 (bun K1 :: K) w := by
  have e : feet (Go.Proofs.Ytlphecckplndnaa.bun K1 :: K) = feet (K1 ++ K) := by rw [feet_append]; rfl
  refine ⟨h.chg, by rw [e]; exact h.nd, by rw [e]; exact h.ge, fun φ hφ => ?_⟩
  rcases List.mem_cons.1 hφ with rfl | hφ
  · exact bun_holds fun ψ hψ => h.holds ψ (List.mem_append_left _ hψ)
  · exact h.holds φ (List.mem_append_right _ hφ)
theorem TL.bun {c : Cx} {Q : Exit → Act → World → Prop} {F : Fr} {K1 K : List Fact} {ops : Array Oper} {rest : List Oper} (h : TL c ops Q rest F (bun K1 :: K)) : TL c ops Q rest F (K1 ++ K) := fun a w hF hK => h a w hF hK.bun
theorem bun_get {S : List Nat} {w0 w : World} {K1 K : List Fact} (hw : Sat S w0 K w) (hm : bun K1 ∈ K) {φ : Fact} (h : φ ∈ K1) : φ.holds w := (hw.holds _ hm).now φ h
end Go.Proofs.Ytlphecckplndnaa
namespace Go.Proofs.Ytlphecckplndnaa
set_option linter.all false
set_option linter.unusedVariables false
set_option linter.unusedSimpArgs false
open Go.RowKit
theorem Pu.neF {c : Cx} {F : Fr} {K : List Fact} {d : Option Tmp} {ty : TypeId} {pos : String} {af : Array Edge} {g : Option (Nat × Bool)} {x y : Operand} {xt yt : TypeId} {k : IntKind} {i : Int} (hx : ev F x = some (.int k i) := by rfl) (hy : ev F y = some (.int k i) := by rfl) : Pu c F K ⟨d, .binOp .neq xt x y yt, ty, pos, af, g⟩ (.bool false) := by
  have h := Pu.neq (c := c) (K := K) (d := d) (ty := ty) (pos := pos) (af := af) (g := g) (xt := xt) (yt := yt) hx hy
  simpa using h
theorem ne2_mark (w : World) (x y : Operand) (i j : Int) : (do eqGuard .neq 72 x y (.agg #[.int .i64 i, .int .i64 j]) (.agg #[.int .i64 i, .int .i64 j]); binOp .neq 72 (.agg #[.int .i64 i, .int .i64 j]) (.agg #[.int .i64 i, .int .i64 j]) : Sem Value).run Try.prog w = .ok (.bool false) w := by
  go_simp
abbrev TwX := (Option Addr × Nat) × (Nat → Option Addr) × (Nat → Nat)
def bTwK (H : Hd) (x : TwX) : List Fact := .own x.1.1 H.n x.1.2 50 5 (fun i => anL H x.2.1 x.2.2 i) :: ownsE 72 2 x.2.1 (fun i => H.ml i) x.2.2 (fun i k => spL (H.sp i k) (H.sg i k)) H.n
theorem anL_congr {H : Hd} {a b : Nat → Option Addr} {c d : Nat → Nat} {i : Nat} (h1 : a i = b i) (h2 : c i = d i) : anL H a c i = anL H b d i := by unfold anL; rw [h1, h2]
set_option maxRecDepth 100000 in
set_option maxHeartbeats 1000000 in
theorem bTwin_any {w : World} {A : Option Addr} {cp : Nat} {H : Hd} {a : Nat → Option Addr} {c : Nat → Nat} (hI : HIn w A H a c) :
    CallsK Try.prog 5 #[.slice A H.n cp] [] w TwX (fun x => .slice x.1.1 H.n x.1.2) (fun x => bTwK H x) := by
  have hn := hI.hn
  have hR := hI.hR
  refine K_enter (S := []) (K := []) Try.func5 rfl Try.ntmps5 rfl (Sat.start _) ?_
  refine TW.seq fun Y1 hY1 => ?_
  refine TW.region ?_
  refine TL.p Pu.as ?_
  refine TL.nil ?_
  refine TQ.thenN (hY1 _ _ ?_)
  refine TW.seq fun Y2 hY2 => ?_
  refine TW.region ?_
  refine TL.p Pu.as ?_
  refine TL.nil ?_
  refine TQ.thenN (hY2 _ _ ?_)
  refine TW.seq fun Y3 hY3 => ?_
  refine TW.seq fun Y4 hY4 => ?_
  refine TW.region ?_
  refine TL.p Pu.mv ?_
  refine TL.p (Pu.ln Try.underlying22) ?_
  refine TL.p Pu.mv ?_
  refine TL.nil ?_
  refine TQ.thenN (hY4 _ _ ?_)
  refine TW.block ?_
  refine TW.loop5 (fun (i : Nat) (B : Option Addr) (cb : Nat) (ta : Nat → Option Addr) (tc : Nat → Nat) => [(8, .int .i64 (i : Int)), (7, .int .i64 (H.n : Int)), (6, .slice A H.n cp), (3, .slice B i cb)]) (fun i B cb ta tc => .own B i cb 50 5 (fun j => anL H ta tc j) :: ownsE 72 2 ta (fun i => H.ml i) tc (fun i k => spL (H.sp i k) (H.sg i k)) i) (fun i B cb ta tc => i ≤ H.n) (fun i B cb ta tc => H.n - i) 0 none 0 (fun _ => none) (fun _ => 0) (by repeat (first | exact trivial | refine ⟨rfl, ?_⟩ | refine ⟨trivial, ?_⟩)) ?_ ?_ ?_
  · exact KSub.nilOwn KSub.nil
  · exact Nat.zero_le _
  rintro i B cb ta tc hi Z0 hZ0
  refine TW.seq fun Y5 hY5 => ?_
  refine TW.region ?_
  refine TL.p Pu.lt ?_
  refine TL.nil ?_
  refine TQ.thenN (hY5 _ _ ?_)
  refine TW.seq fun Y6 hY6 => ?_
  refine TW.cond rfl (fun hc0 => ?_) (fun hc0 => ?_)
  · try simp only [decide_eq_true_eq, decide_eq_false_iff_not, Bool.not_eq_true', Bool.not_eq_false', Bool.and_eq_true, Bool.or_eq_true, Bool.and_eq_false_iff, Bool.or_eq_false_iff, Int.not_lt, Int.not_le] at hc0
    have hin : i < H.n := by omega
    have hml := hI.hl i hin
    have hMi := hI.hM i hin
    refine TW.skip ?_
    refine TQ.thenN (hY6 _ _ ?_)
    refine TW.seq fun Y7 hY7 => ?_
    refine TW.block ?_
    refine TW.seq fun Y8 hY8 => ?_
    refine TW.region ?_
    refine TL.p (Pu.el ty_et22) ?_
    refine TL.p (Pu.lds ty_ag50) ?_
    refine TL.m (Mk.al ty_zr50) ?_
    intro b1
    first | refine TL.st ty_sz50 ?_ | refine TL.se ty_sz50 ?_
    refine TL.nil ?_
    refine TQ.thenN (hY8 _ _ ?_)
    refine TW.seq fun Y9 hY9 => ?_
    refine TW.region ?_
    refine TL.m Mk.bl ?_
    intro b2
    refine TL.p (by first | exact Pu.fb ty_fa50_3 | exact Pu.fe ty_fa50_3) ?_
    refine TL.p (Pu.ld ty_sc48) ?_
    refine TL.ob (b := b2) (sz := 2) (r := fun _ => []) (by repeat (first | exact Pick.hd | apply Pick.tl)) rfl ?_
    first | refine TL.a0 ty_et48 ?_ | refine TL.ap ty_et48 ?_
    intro A3 c3
    refine TL.p (by first | exact Pu.fb ty_fa50_3 | exact Pu.fe ty_fa50_3) ?_
    first | refine TL.st ty_sz48 ?_ | refine TL.se ty_sz48 ?_
    refine TL.nil ?_
    refine TQ.thenN (hY9 _ _ ?_)
    refine TW.region ?_
    refine TL.p Pu.mv ?_
    refine TL.p (Pu.lds ty_ag50) ?_
    refine TL.m Mk.bl ?_
    intro b4
    first | refine TL.a0 ty_et22 ?_ | refine TL.ap ty_et22 ?_
    intro A5 c5
    refine TL.p Pu.as ?_
    refine TL.nil ?_
    refine TQ.blkN ?_
    refine TQ.thenN (hY7 _ _ ?_)
    refine TW.region ?_
    refine TL.p Pu.ad ?_
    refine TL.p Pu.mv ?_
    refine TL.nil ?_
    refine TQ.thenN (hZ0 (i + 1) A5 c5 (updA ta i A3) (updA tc i c3) _ _ ?_ ?_ (by repeat (first | exact trivial | refine ⟨rfl, ?_⟩ | refine ⟨trivial, ?_⟩)) ?_)
    · exact (by omega)
    · exact (by first | omega | (simp only []; omega) | (simp; omega))
    · have ea : updA ta i A3 i = A3 := if_pos rfl
      have ec : updA tc i c3 i = c3 := if_pos rfl
      have e : ownsE 72 2 (updA ta i A3) (fun i => H.ml i) (updA tc i c3) (fun i k => spL (H.sp i k) (H.sg i k)) i = ownsE 72 2 ta (fun i => H.ml i) tc (fun i k => spL (H.sp i k) (H.sg i k)) i := ownsE_congr fun j hj => ⟨if_neg (by omega), if_neg (by omega)⟩
      simp only [ownsE, e, ea, ec]
      refine KSub.own (by repeat (first | exact Pick.hd | apply Pick.tl)) (fun j hj => ?_) (KSub.own (by repeat (first | exact Pick.hd | apply Pick.tl)) (fun k hk => rfl) (by repeat (first | exact KSub.refl _ | refine KSub.drop ?_)))
      unfold catR
      by_cases h : j < i
      · rw [if_pos h]
        exact anL_congr (if_neg (show ¬ j = i by omega)).symm (if_neg (show ¬ j = i by omega)).symm
      · obtain rfl : j = i := by omega
        rw [if_neg h]
        unfold anL
        rw [ea, ec]
  · try simp only [decide_eq_true_eq, decide_eq_false_iff_not, Bool.not_eq_true', Bool.not_eq_false', Bool.and_eq_true, Bool.or_eq_true, Bool.and_eq_false_iff, Bool.or_eq_false_iff, Int.not_lt, Int.not_le] at hc0
    obtain rfl : i = H.n := by omega
    refine TW.exit ?_
    refine TQ.thenX ?_
    refine TQ.thenX ?_
    refine TQ.blkX ?_
    refine TQ.thenN (hY3 _ _ ?_)
    refine TW.seq fun Y10 hY10 => ?_
    refine TW.region ?_
    refine TL.p Pu.mv ?_
    refine TL.p Pu.as ?_
    refine TL.nil ?_
    refine TQ.thenN (hY10 _ _ ?_)
    refine TW.ret ?_
    refine TQ.ret Try.results5 rfl ((.tmp rfl .nil)) ?_
    exact fun w hw => ⟨((B, cb), ta, tc), rfl, hw⟩
theorem twK_in {S : List Nat} {w0 w : World} {K : List Fact} {H : Hd} {x : TwX} (hw : Sat S w0 K w) (hm : bun (bTwK H x) ∈ K) (hn : H.n ≤ 1000) (hl : ∀ i, i < H.n → H.ml i ≤ 1000) : HIn w x.1.1 H x.2.1 x.2.2 :=
  ⟨hn, OwnR.rdr (bun_get hw hm (φ := .own x.1.1 H.n x.1.2 50 5 (fun i => anL H x.2.1 x.2.2 i)) (List.mem_cons_self ..)), fun i hi => OwnR.rdr (bun_get hw hm (φ := .own (x.2.1 i) (H.ml i) (x.2.2 i) 72 2 (fun k => spL (H.sp i k) (H.sg i k))) (List.mem_cons_of_mem _ (ownsE_mem hi))), hl⟩
set_option maxRecDepth 100000 in
set_option maxHeartbeats 2000000 in
theorem bSame_any {w : World} {A B : Option Addr} {c1 c2 : Nat} {H : Hd} {a b : Nat → Option Addr} {c d : Nat → Nat} (hI : HIn w A H a c) (hJ : HIn w B H b d) :
    Calls Try.prog 16 #[.slice A H.n c1, .slice B H.n c2] w (Ret w (.bool true)) := by
  have hn := hI.hn
  have hRA := hI.hR
  have hRB := hJ.hR
  refine K_enter (S := []) (K := []) Try.func16 rfl Try.ntmps16 rfl (Sat.start _) ?_
  refine TW.seq fun Y1 hY1 => ?_
  refine TW.region ?_
  refine TL.p Pu.as ?_
  refine TL.nil ?_
  refine TQ.thenN (hY1 _ _ ?_)
  refine TW.seq fun Y2 hY2 => ?_
  refine TW.seq fun Y3 hY3 => ?_
  refine TW.region ?_
  refine TL.p Pu.mv ?_
  refine TL.p (Pu.ln Try.underlying22) ?_
  refine TL.p Pu.mv ?_
  refine TL.p (Pu.ln Try.underlying22) ?_
  refine TL.p Pu.ne ?_
  refine TL.nil ?_
  refine TQ.thenN (hY3 _ _ ?_)
  refine TW.condF rfl ((by simp)) ?_
  refine TW.skip ?_
  refine TQ.thenN (hY2 _ _ ?_)
  refine TW.seq fun Y4 hY4 => ?_
  refine TW.seq fun Y5 hY5 => ?_
  refine TW.region ?_
  refine TL.p Pu.mv ?_
  refine TL.p (Pu.ln Try.underlying22) ?_
  refine TL.p Pu.mv ?_
  refine TL.nil ?_
  refine TQ.thenN (hY5 _ _ ?_)
  refine TW.block ?_
  refine TW.loop1 (fun (i : Nat) => [(14, .int .i64 (i : Int)), (13, .int .i64 (H.n : Int)), (0, .slice A H.n c1), (1, .slice B H.n c2)]) (fun i => []) (fun i => i ≤ H.n) (fun i => H.n - i) 0 (by repeat (first | exact trivial | refine ⟨rfl, ?_⟩ | refine ⟨trivial, ?_⟩)) ?_ ?_ ?_
  · exact (by repeat (first | exact KSub.nil | refine KSub.cons (by repeat (first | exact Pick.hd | apply Pick.tl)) ?_))
  · exact Nat.zero_le _
  rintro i hi Z0 hZ0
  refine TW.seq fun Y6 hY6 => ?_
  refine TW.region ?_
  refine TL.p Pu.lt ?_
  refine TL.nil ?_
  refine TQ.thenN (hY6 _ _ ?_)
  refine TW.seq fun Y7 hY7 => ?_
  refine TW.cond rfl (fun hc1 => ?_) (fun hc1 => ?_)
  · try simp only [decide_eq_true_eq, decide_eq_false_iff_not, Bool.not_eq_true', Bool.not_eq_false', Bool.and_eq_true, Bool.or_eq_true, Bool.and_eq_false_iff, Bool.or_eq_false_iff, Int.not_lt, Int.not_le] at hc1
    have hin : i < H.n := by omega
    have hMa := hI.hM i hin
    have hMb := hJ.hM i hin
    have hml := hI.hl i hin
    refine TW.skip ?_
    refine TQ.thenN (hY7 _ _ ?_)
    refine TW.seq fun Y8 hY8 => ?_
    refine TW.block ?_
    refine TW.seq fun Y9 hY9 => ?_
    refine TW.region ?_
    refine TL.p Pu.mv ?_
    refine TL.p Pu.as ?_
    refine TL.nil ?_
    refine TQ.thenN (hY9 _ _ ?_)
    refine TW.seq fun Y10 hY10 => ?_
    refine TW.seq fun Y11 hY11 => ?_
    refine TW.dw 52 ?_
    refine RK.tk Pu.mv ?_
    refine RK.tk Pu.mv ?_
    refine RK.tk (Pu.el ty_et22) ?_
    refine RK.tk (by first | exact Pu.fb ty_fa50_0 | exact Pu.fe ty_fa50_0) ?_
    refine RK.tk (Pu.ld ty_sc3) ?_
    refine RK.tk Pu.mv ?_
    refine RK.tk Pu.mv ?_
    refine RK.tk (Pu.el ty_et22) ?_
    refine RK.tk (by first | exact Pu.fb ty_fa50_0 | exact Pu.fe ty_fa50_0) ?_
    refine RK.tk (Pu.ld ty_sc3) ?_
    refine RK.tk Pu.neF ?_
    refine RK.tk Pu.mv ?_
    refine RK.tk Pu.mv ?_
    refine RK.tk Pu.mv ?_
    refine RK.tk (Pu.el ty_et22) ?_
    refine RK.tk (by first | exact Pu.fb ty_fa50_1 | exact Pu.fe ty_fa50_1) ?_
    refine RK.tk (Pu.ld ty_sc3) ?_
    refine RK.tk Pu.mv ?_
    refine RK.tk Pu.mv ?_
    refine RK.tk (Pu.el ty_et22) ?_
    refine RK.tk (by first | exact Pu.fb ty_fa50_1 | exact Pu.fe ty_fa50_1) ?_
    refine RK.tk (Pu.ld ty_sc3) ?_
    refine RK.tk Pu.neF ?_
    refine RK.tk Pu.kf ?_
    refine RK.tk Pu.mv ?_
    refine RK.tk Pu.mv ?_
    refine RK.tk Pu.mv ?_
    refine RK.tk (Pu.el ty_et22) ?_
    refine RK.tk (by first | exact Pu.fb ty_fa50_2 | exact Pu.fe ty_fa50_2) ?_
    refine RK.tk (Pu.lds ty_ag47) ?_
    refine RK.tk Pu.mv ?_
    refine RK.tk Pu.mv ?_
    refine RK.tk (Pu.el ty_et22) ?_
    refine RK.tk (by first | exact Pu.fb ty_fa50_2 | exact Pu.fe ty_fa50_2) ?_
    refine RK.tk (Pu.lds ty_ag47) ?_
    refine RK.tk (Pu.bin rfl rfl (fun w => ne2_is (b := false) (by simp) w _ _)) ?_
    refine RK.tk Pu.kf ?_
    refine RK.tk Pu.mv ?_
    refine RK.tk Pu.mv ?_
    refine RK.tk Pu.mv ?_
    refine RK.tk (Pu.el ty_et22) ?_
    refine RK.tk (by first | exact Pu.fb ty_fa50_3 | exact Pu.fe ty_fa50_3) ?_
    refine RK.tk (Pu.ld ty_sc48) ?_
    refine RK.tk (Pu.ln Try.underlying48) ?_
    refine RK.tk Pu.mv ?_
    refine RK.tk Pu.mv ?_
    refine RK.tk (Pu.el ty_et22) ?_
    refine RK.tk (by first | exact Pu.fb ty_fa50_3 | exact Pu.fe ty_fa50_3) ?_
    refine RK.tk (Pu.ld ty_sc48) ?_
    refine RK.tk (Pu.ln Try.underlying48) ?_
    refine RK.tk Pu.neF ?_
    refine RK.tk Pu.kf ?_
    refine RK.ch [] ?_ trivial
    refine WK.n ?_
    refine TL.nil ?_
    refine TQ.thenN (hY11 _ _ ?_)
    refine TW.condF rfl rfl ?_
    refine TW.skip ?_
    refine TQ.thenN (hY10 _ _ ?_)
    refine TW.seq fun Y12 hY12 => ?_
    refine TW.region ?_
    refine TL.p Pu.mv ?_
    refine TL.p Pu.mv ?_
    refine TL.p (Pu.el ty_et22) ?_
    refine TL.p (by first | exact Pu.fb ty_fa50_3 | exact Pu.fe ty_fa50_3) ?_
    refine TL.p (Pu.ld ty_sc48) ?_
    refine TL.p (Pu.ln Try.underlying48) ?_
    refine TL.p Pu.mv ?_
    refine TL.nil ?_
    refine TQ.thenN (hY12 _ _ ?_)
    refine TW.block ?_
    refine TW.loop1 (fun (k : Nat) => [(75, .int .i64 (k : Int)), (74, .int .i64 (H.ml i : Int)), (5, .int .i64 (i : Int)), (14, .int .i64 (i : Int)), (13, .int .i64 (H.n : Int)), (0, .slice A H.n c1), (1, .slice B H.n c2)]) (fun k => []) (fun k => k ≤ H.ml i) (fun k => H.ml i - k) 0 (by repeat (first | exact trivial | refine ⟨rfl, ?_⟩ | refine ⟨trivial, ?_⟩)) ?_ ?_ ?_
    · exact (by repeat (first | exact KSub.nil | refine KSub.cons (by repeat (first | exact Pick.hd | apply Pick.tl)) ?_))
    · exact Nat.zero_le _
    rintro k hk Z1 hZ1
    refine TW.seq fun Y13 hY13 => ?_
    refine TW.region ?_
    refine TL.p Pu.lt ?_
    refine TL.nil ?_
    refine TQ.thenN (hY13 _ _ ?_)
    refine TW.seq fun Y14 hY14 => ?_
    refine TW.cond rfl (fun hc3 => ?_) (fun hc3 => ?_)
    · try simp only [decide_eq_true_eq, decide_eq_false_iff_not, Bool.not_eq_true', Bool.not_eq_false', Bool.and_eq_true, Bool.or_eq_true, Bool.and_eq_false_iff, Bool.or_eq_false_iff, Int.not_lt, Int.not_le] at hc3
      refine TW.skip ?_
      refine TQ.thenN (hY14 _ _ ?_)
      refine TW.seq fun Y15 hY15 => ?_
      refine TW.block ?_
      refine TW.seq fun Y16 hY16 => ?_
      refine TW.region ?_
      refine TL.p Pu.mv ?_
      refine TL.p Pu.as ?_
      refine TL.nil ?_
      refine TQ.thenN (hY16 _ _ ?_)
      refine TW.seq fun Y17 hY17 => ?_
      refine TW.dw 17 ?_
      refine RK.tk Pu.mv ?_
      refine RK.tk Pu.mv ?_
      refine RK.tk (Pu.el ty_et22) ?_
      refine RK.tk (by first | exact Pu.fb ty_fa50_3 | exact Pu.fe ty_fa50_3) ?_
      refine RK.tk (Pu.ld ty_sc48) ?_
      refine RK.tk Pu.mv ?_
      refine RK.tk (Pu.el ty_et48) ?_
      refine RK.tk (Pu.lds ty_ag72) ?_
      refine RK.tk Pu.mv ?_
      refine RK.tk Pu.mv ?_
      refine RK.tk (Pu.el ty_et22) ?_
      refine RK.tk (by first | exact Pu.fb ty_fa50_3 | exact Pu.fe ty_fa50_3) ?_
      refine RK.tk (Pu.ld ty_sc48) ?_
      refine RK.tk Pu.mv ?_
      refine RK.tk (Pu.el ty_et48) ?_
      refine RK.tk (Pu.lds ty_ag72) ?_
      refine RK.tk (Pu.bin rfl rfl (fun w => ne2_mark w _ _ _ _)) ?_
      refine RK.ch [] ?_ trivial
      refine WK.n ?_
      refine TL.nil ?_
      refine TQ.thenN (hY17 _ _ ?_)
      refine TW.condF rfl (rfl) ?_
      refine TW.skip ?_
      refine TQ.blkN ?_
      refine TQ.thenN (hY15 _ _ ?_)
      refine TW.region ?_
      refine TL.p Pu.ad ?_
      refine TL.p Pu.mv ?_
      refine TL.nil ?_
      refine TQ.thenN (hZ1 (k + 1) _ _ ?_ ?_ (by repeat (first | exact trivial | refine ⟨rfl, ?_⟩ | refine ⟨trivial, ?_⟩)) ?_)
      · exact (by omega)
      · exact (by first | omega | (simp only []; omega) | (simp; omega))
      · exact (by repeat (first | exact KSub.nil | refine KSub.cons (by repeat (first | exact Pick.hd | apply Pick.tl)) ?_))
    · try simp only [decide_eq_true_eq, decide_eq_false_iff_not, Bool.not_eq_true', Bool.not_eq_false', Bool.and_eq_true, Bool.or_eq_true, Bool.and_eq_false_iff, Bool.or_eq_false_iff, Int.not_lt, Int.not_le] at hc3
      refine TW.exit ?_
      refine TQ.thenX ?_
      refine TQ.thenX ?_
      refine TQ.blkX ?_
      refine TQ.blkN ?_
      refine TQ.thenN (hY8 _ _ ?_)
      refine TW.region ?_
      refine TL.p Pu.ad ?_
      refine TL.p Pu.mv ?_
      refine TL.nil ?_
      refine TQ.thenN (hZ0 (i + 1) _ _ ?_ ?_ (by repeat (first | exact trivial | refine ⟨rfl, ?_⟩ | refine ⟨trivial, ?_⟩)) ?_)
      · exact (by omega)
      · exact (by first | omega | (simp only []; omega) | (simp; omega))
      · exact (by repeat (first | exact KSub.nil | refine KSub.cons (by repeat (first | exact Pick.hd | apply Pick.tl)) ?_))
  · try simp only [decide_eq_true_eq, decide_eq_false_iff_not, Bool.not_eq_true', Bool.not_eq_false', Bool.and_eq_true, Bool.or_eq_true, Bool.and_eq_false_iff, Bool.or_eq_false_iff, Int.not_lt, Int.not_le] at hc1
    refine TW.exit ?_
    refine TQ.thenX ?_
    refine TQ.thenX ?_
    refine TQ.blkX ?_
    refine TQ.thenN (hY4 _ _ ?_)
    refine TW.seq fun Y18 hY18 => ?_
    refine TW.region ?_
    refine TL.p Pu.as ?_
    refine TL.nil ?_
    refine TQ.thenN (hY18 _ _ ?_)
    refine TW.ret ?_
    refine TQ.ret Try.results16 rfl ((.tmp rfl .nil)) ?_
    exact fun w hw => Ret.of hw
set_option maxRecDepth 100000 in
set_option maxHeartbeats 2000000 in
theorem lawLines_any {w : World} {A : Option Addr} {cp : Nat} {H : Hd} {a : Nat → Option Addr} {c : Nat → Nat} {ia ib : Int} (hR : RdR w 5 A H.n (fun i => anL H a c i)) (hM : ∀ i, i < H.n → RdR w 2 (a i) (H.ml i) (fun k => spL (H.sp i k) (H.sg i k))) :
    Calls Try.prog 3 #[.slice A H.n cp, .int .i64 ia, .int .i64 ib] w (Ret w (.bool true)) := by
  refine K_enter (S := []) (K := []) Try.func3 rfl Try.ntmps3 rfl (Sat.start _) ?_
  refine TW.seq fun Y1 hY1 => ?_
  refine TW.region ?_
  refine TL.p Pu.as ?_
  refine TL.nil ?_
  refine TQ.thenN (hY1 _ _ ?_)
  refine TW.seq fun Y2 hY2 => ?_
  refine TW.seq fun Y3 hY3 => ?_
  refine TW.region ?_
  refine TL.p Pu.mv ?_
  refine TL.cr rfl (enters Try.func4 rfl rfl) (fun w hw => by
      exact rGreat_any (hR.sat hw Apart.nil)) ?_
  refine TL.nil ?_
  refine TQ.thenN (hY3 _ _ ?_)
  refine TW.cond rfl (fun hc0 => ?_) (fun hc0 => ?_)
  · try simp only [decide_eq_true_eq, decide_eq_false_iff_not, Bool.not_eq_true', Bool.not_eq_false', Bool.and_eq_true, Bool.or_eq_true, Bool.and_eq_false_iff, Bool.or_eq_false_iff, Int.not_lt, Int.not_le] at hc0
    refine TW.seq fun Y4 hY4 => ?_
    refine TW.region ?_
    refine TL.p Pu.as ?_
    refine TL.nil ?_
    refine TQ.thenN (hY4 _ _ ?_)
    refine TW.ret ?_
    refine TQ.thenR ?_
    refine TQ.ret Try.results3 rfl ((.tmp rfl .nil)) ?_
    exact fun w hw => ⟨rfl, Chg.ext hw.chg⟩
  · try simp only [decide_eq_true_eq, decide_eq_false_iff_not, Bool.not_eq_true', Bool.not_eq_false', Bool.and_eq_true, Bool.or_eq_true, Bool.and_eq_false_iff, Bool.or_eq_false_iff, Int.not_lt, Int.not_le] at hc0
    obtain ⟨h20, h12⟩ := great_in (show greatH H = false from hc0)
    have hl : ∀ i, i < H.n → H.ml i ≤ 1000 := fun i hi => by have := h12 i hi; omega
    have hI : HIn w A H a c := ⟨by omega, hR, hM, hl⟩
    have hlN : linN H ia ≤ 1000 := by
      unfold linN
      split
      · have := dep_le (f := moH H) (n := H.n) (i := (atH H ia).toNat); omega
      · omega
    refine TW.skip ?_
    refine TQ.thenN (hY2 _ _ ?_)
    refine TW.seq fun Y5 hY5 => ?_
    refine TW.region ?_
    refine TL.p Pu.mv ?_
    refine TL.call (M := []) rfl (enters Try.func5 rfl rfl) (List.Perm.refl _) rfl (fun w hw => by
        exact bTwin_any (hI.sat hw)) ?_
    rintro tx
    refine TL.bun ?_
    refine TL.p Pu.as ?_
    refine TL.nil ?_
    refine TQ.thenN (hY5 _ _ ?_)
    refine TW.seq fun Y6 hY6 => ?_
    refine TW.region ?_
    refine TL.p Pu.mv ?_
    refine TL.call (M := []) rfl (enters Try.func6 rfl rfl) (List.Perm.refl _) rfl (fun w hw => by
        exact bBirths_any (twK_in hw (by simp) (by omega) hl)) ?_
    rintro ⟨A1, c1⟩
    refine TL.p Pu.mv ?_
    refine TL.p Pu.ex ?_
    refine TL.p Pu.ex ?_
    refine TL.p Pu.as ?_
    refine TL.p Pu.as ?_
    refine TL.nil ?_
    refine TQ.thenN (hY6 _ _ ?_)
    refine TW.seq fun Y7 hY7 => ?_
    refine TW.region ?_
    refine TL.p Pu.mv ?_
    refine TL.call (M := []) rfl (enters Try.func7 rfl rfl) (List.Perm.refl _) rfl (fun w hw => by
        exact rBirths_any (hI.sat hw)) ?_
    rintro ⟨A2, c2⟩
    refine TL.p Pu.mv ?_
    refine TL.p Pu.ex ?_
    refine TL.p Pu.ex ?_
    refine TL.p Pu.as ?_
    refine TL.p Pu.as ?_
    refine TL.nil ?_
    refine TQ.thenN (hY7 _ _ ?_)
    refine TW.seq fun Y8 hY8 => ?_
    refine TW.region ?_
    refine TL.p Pu.mv ?_
    refine TL.p Pu.mv ?_
    refine TL.call (M := []) rfl (enters Try.func8 rfl rfl) (List.Perm.refl _) rfl (fun w hw => by
        exact bLine_any (twK_in hw (by simp) (by omega) hl)) ?_
    rintro ⟨A3, c3⟩
    refine TL.p Pu.mv ?_
    refine TL.p Pu.ex ?_
    refine TL.p Pu.ex ?_
    refine TL.p Pu.as ?_
    refine TL.p Pu.as ?_
    refine TL.nil ?_
    refine TQ.thenN (hY8 _ _ ?_)
    refine TW.seq fun Y9 hY9 => ?_
    refine TW.region ?_
    refine TL.p Pu.mv ?_
    refine TL.p Pu.mv ?_
    refine TL.call (M := []) rfl (enters Try.func9 rfl rfl) (List.Perm.refl _) rfl (fun w hw => by
        exact rLine_any (hI.sat hw)) ?_
    rintro ⟨A4, c4⟩
    refine TL.p Pu.mv ?_
    refine TL.p Pu.ex ?_
    refine TL.p Pu.ex ?_
    refine TL.p Pu.as ?_
    refine TL.p Pu.as ?_
    refine TL.nil ?_
    refine TQ.thenN (hY9 _ _ ?_)
    refine TW.seq fun Y10 hY10 => ?_
    refine TW.region ?_
    refine TL.p Pu.mv ?_
    refine TL.p Pu.mv ?_
    refine TL.p Pu.mv ?_
    refine TL.cr rfl (enters Try.func10 rfl rfl) (fun w hw => by
        exact bKin_any (twK_in hw (by simp) (by omega) hl)) ?_
    refine TL.p Pu.mv ?_
    refine TL.p Pu.ex ?_
    refine TL.p Pu.ex ?_
    refine TL.p Pu.ex ?_
    refine TL.p Pu.as ?_
    refine TL.p Pu.as ?_
    refine TL.p Pu.as ?_
    refine TL.nil ?_
    refine TQ.thenN (hY10 _ _ ?_)
    refine TW.seq fun Y11 hY11 => ?_
    refine TW.region ?_
    refine TL.p Pu.mv ?_
    refine TL.p Pu.mv ?_
    refine TL.p Pu.mv ?_
    refine TL.cr rfl (enters Try.func11 rfl rfl) (fun w hw => by
        exact rKin_any (hI.sat hw)) ?_
    refine TL.p Pu.mv ?_
    refine TL.p Pu.ex ?_
    refine TL.p Pu.ex ?_
    refine TL.p Pu.ex ?_
    refine TL.p Pu.as ?_
    refine TL.p Pu.as ?_
    refine TL.p Pu.as ?_
    refine TL.nil ?_
    refine TQ.thenN (hY11 _ _ ?_)
    refine TW.seq fun Y12 hY12 => ?_
    refine TW.region ?_
    refine TL.p Pu.mv ?_
    refine TL.cr rfl (enters Try.func12 rfl rfl) (fun w hw => by
        exact check_any (twK_in hw (by simp) (by omega) hl)) ?_
    refine TL.p Pu.mv ?_
    refine TL.cr rfl (enters Try.func13 rfl rfl) (fun w hw => by
        exact rCheck_any (hI.sat hw)) ?_
    refine TL.p Pu.eq ?_
    refine TL.lit (t := 68) (b' := true) rfl ((by simp)) ?_
    refine TL.p Pu.mv ?_
    refine TL.gd Pu.mv ?_
    refine TL.gd Pu.mv ?_
    refine TL.cr rfl (enters Try.func14 rfl rfl) (fun w hw => by
        exact bSameSpans_any (S := livB H) (by split <;> omega) (OwnR.rdr (hw.holds (.own A1 (if livC H = 0 then H.n else 0) c1 47 2 (fun j => spL (livB H j).1 (livB H j).2)) (by simp))) (OwnR.rdr (hw.holds (.own A2 (if livC H = 0 then H.n else 0) c2 47 2 (fun j => spL (livB H j).1 (livB H j).2)) (by simp)))) ?_
    refine TL.p Pu.kt ?_
    refine TL.p Pu.mv ?_
    refine TL.gd Pu.mv ?_
    refine TL.gd Pu.mv ?_
    refine TL.gd Pu.eq ?_
    refine TL.lit (t := 77) (b' := true) rfl ((by simp)) ?_
    refine TL.p Pu.kt ?_
    refine TL.p Pu.mv ?_
    refine TL.gd Pu.mv ?_
    refine TL.gd Pu.mv ?_
    refine TL.cr rfl (enters Try.func15 rfl rfl) (fun w hw => by
        exact bSameInts_any (v := linV H ia) (by omega) (OwnR.rdr (hw.holds (.own A3 (linN H ia) c3 3 1 (fun s => [.int .i64 (linV H ia s)])) (by simp))) (OwnR.rdr (hw.holds (.own A4 (linN H ia) c4 3 1 (fun s => [.int .i64 (linV H ia s)])) (by simp)))) ?_
    refine TL.p Pu.kt ?_
    refine TL.p Pu.mv ?_
    refine TL.gd Pu.mv ?_
    refine TL.gd Pu.mv ?_
    refine TL.gd Pu.eq ?_
    refine TL.lit (t := 87) (b' := true) rfl ((by simp)) ?_
    refine TL.p Pu.kt ?_
    refine TL.p Pu.mv ?_
    refine TL.gd Pu.mv ?_
    refine TL.gd Pu.mv ?_
    refine TL.gd Pu.eq ?_
    refine TL.lit (t := 92) (b' := true) rfl ((by simp)) ?_
    refine TL.p Pu.kt ?_
    refine TL.p Pu.mv ?_
    refine TL.gd Pu.mv ?_
    refine TL.gd Pu.mv ?_
    refine TL.gd Pu.eq ?_
    refine TL.lit (t := 97) (b' := true) rfl ((by simp)) ?_
    refine TL.p Pu.kt ?_
    refine TL.p Pu.mv ?_
    refine TL.gd Pu.mv ?_
    refine TL.gd Pu.mv ?_
    refine TL.gd Pu.eq ?_
    refine TL.lit (t := 102) (b' := true) rfl ((by simp)) ?_
    refine TL.p Pu.kt ?_
    refine TL.p Pu.mv ?_
    refine TL.gd Pu.mv ?_
    refine TL.gd Pu.mv ?_
    refine TL.cr rfl (enters Try.func16 rfl rfl) (fun w hw => by
        exact bSame_any (twK_in hw (by simp) (by omega) hl) (hI.sat hw)) ?_
    refine TL.p Pu.kt ?_
    refine TL.p Pu.as ?_
    refine TL.nil ?_
    refine TQ.thenN (hY12 _ _ ?_)
    refine TW.ret ?_
    refine TQ.ret Try.results3 rfl ((.tmp rfl .nil)) ?_
    exact fun w hw => ⟨rfl, Chg.ext hw.chg⟩
end Go.Proofs.Ytlphecckplndnaa
namespace Go.Proofs.Ytlphecckplndnaa
set_option linter.all false
set_option linter.unusedVariables false
set_option linter.unusedSimpArgs false
open Go.ChangeShapes Go.WideShapes Go.RowKit Go.Deep
section
variable {H : Type} {enc : TypeId × Value → H} {P : Program} {w : World} {base : Nat} {spare : Nat → Bool} {held : Bool}
def kindsL (P : Program) (g : TypeId → Option (List IntKind)) : List Field → Nat → Option (List IntKind)
  | [], _ => some []
  | f :: fs, off => match g f.type with
    | some a => if f.offset = off ∧ a.length = P.cellsOf f.type then match kindsL P g fs (off + a.length) with
      | some b => some (a ++ b)
      | none => none
      else none
    | none => none
def kindsF (P : Program) : Nat → TypeId → Option (List IntKind)
  | 0, _ => none
  | d + 1, t => match P.underlying t with
    | some (.int k) => some [k]
    | some (.struct fs) => match kindsL P (kindsF P d) fs.toList 0 with
      | some a => if a.length = P.cellsOf t then some a else none
      | none => none
    | _ => none
def ints (ks : List IntKind) (ns : List Int) : List Value := List.zipWith Value.int ks ns
theorem ints_append {a b : List IntKind} {x y : List Int} (h : x.length = a.length) : ints (a ++ b) (x ++ y) = ints a x ++ ints b y := by
  unfold ints; rw [List.zipWith_append h.symm]
theorem ints_length {a : List IntKind} {x : List Int} (h : x.length = a.length) : (ints a x).length = a.length := by simp [ints, h]
theorem kindsL_spec {g : TypeId → Option (List IntKind)} (hg : ∀ t ks, g t = some ks → ∀ fuel cs x, DataW.trod enc P w base spare held fuel t cs = some x → ∃ ns : List Int, cs = ints ks ns ∧ ns.length = ks.length) :
    ∀ (fs : List Field) (off : Nat) (ks : List IntKind) (cs : List Value), kindsL P g fs off = some ks → cs.length = off + ks.length →
      (∀ f ∈ fs, ∃ n x, DataW.trod enc P w base spare held n f.type ((cs.drop f.offset).take (P.cellsOf f.type)) = some x) → ∃ ns : List Int, cs.drop off = ints ks ns ∧ ns.length = ks.length
  | [], off, ks, cs, h, hl, _ => by cases h; exact ⟨[], by simp at hl; simp [ints, hl], rfl⟩
  | f :: fs, off, ks, cs, h, hl, hf => by
    simp only [kindsL] at h
    cases h1 : g f.type with
    | none => rw [h1] at h; cases h
    | some a =>
      rw [h1] at h
      simp only at h
      split at h
      · rename_i h2
        obtain ⟨h2, h3⟩ := h2
        cases h4 : kindsL P g fs (off + a.length) with
        | none => rw [h4] at h; cases h
        | some b =>
          rw [h4] at h
          cases h
          obtain ⟨n, x, hx⟩ := hf f (by simp)
          rw [h2, ← h3] at hx
          obtain ⟨ns, e1, e2⟩ := hg _ _ h1 _ _ _ hx
          obtain ⟨ms, e3, e4⟩ := kindsL_spec hg fs (off + a.length) b cs h4 (by rw [hl]; simp; omega) (fun f' hf' => hf f' (by simp [hf']))
          refine ⟨ns ++ ms, ?_, by simp [e2, e4]⟩
          rw [ints_append e2, ← e1, ← e3, ← List.drop_drop, List.take_append_drop]
      · cases h
theorem kindsF_spec : ∀ (d : Nat) (t : TypeId) (ks : List IntKind), kindsF P d t = some ks → ∀ fuel cs x, DataW.trod enc P w base spare held fuel t cs = some x → ∃ ns : List Int, cs = ints ks ns ∧ ns.length = ks.length
  | 0, _, _, h, _, _, _, _ => by cases h
  | d + 1, t, ks, h, fuel, cs, x, hx => by
    simp only [kindsF] at h
    cases hu : P.underlying t with
    | none => rw [hu] at h; cases h
    | some desc =>
      rw [hu] at h
      match desc, hu, h with
      | .int k, hu, h =>
        injection h with h
        subst h
        obtain ⟨n, rfl, _, _⟩ := DataW.trod_int hu hx
        exact ⟨[n], rfl, rfl⟩
      | .struct fs, hu, h =>
        simp only at h
        cases h1 : kindsL P (kindsF P d) fs.toList 0 with
        | none => rw [h1] at h; cases h
        | some a =>
          rw [h1] at h
          simp only at h
          split at h
          · rename_i h2
            cases h
            obtain ⟨xs, n, _, _, hlen, hxl, hf⟩ := DataW.trod_struct hu hx
            obtain ⟨ns, e1, e2⟩ := kindsL_spec (kindsF_spec d) fs.toList 0 _ cs h1 (by omega) (fun f hf' => by
              obtain ⟨i, hi, rfl⟩ := List.getElem_of_mem hf'
              have hi' : i < fs.size := by simpa using hi
              have := hf i fs[i] (by simp [hi'])
              rw [List.getElem?_eq_getElem (by omega)] at this
              exact ⟨n, _, this⟩)
            exact ⟨ns, by simpa using e1, e2⟩
          · cases h
theorem open_flat_slice {t e : TypeId} {fuel : Nat} {cs : List Value} {x : DataW H × List MemPlace} (d : Nat) {ks : List IntKind} (ht : P.underlying t = some (.slice e)) (hk : kindsF P d e = some ks) (hC : P.cellsOf e = ks.length) (h0 : Nat.blt 0 ks.length = true) (h : DataW.trod enc P w base spare held fuel t cs = some x) :
    ∃ (A : Option Addr) (len cap : Nat) (g : Nat → List Int), cs = [.slice A len cap] ∧ (∀ i, i < len → (g i).length = ks.length) ∧ RdR w ks.length A len (fun i => ints ks (g i)) ∧ (A = none → len = 0 ∧ cap = 0) ∧ len ≤ cap ∧ cap ≤ maxLen := by
  have h0 : 0 < ks.length := Nat.le_of_ble_eq_true h0
  rcases open_slice ht h with ⟨rfl, rfl⟩ | ⟨a, len, cap, m, n, D, Pl, rfl, hb, hl, hm, hmm, _, hi⟩
  · exact ⟨none, 0, 0, fun _ => [], rfl, fun i hi => by omega, ⟨Rd.nil, fun i hi => by omega⟩, fun _ => ⟨rfl, rfl⟩, Nat.le_refl _, Nat.zero_le _⟩
  · have hlm : len ≤ m := by rw [hmm]; split <;> omega
    have key : ∀ i, i < len → ∃ ns : List Int, ns.length = ks.length ∧ ∀ j, j < ks.length → w.cell? (a.add (i * ks.length + j)) = (ints ks ns)[j]? := fun i hil => by
      obtain ⟨cs', hc, hx⟩ := hi i (by omega)
      obtain ⟨_, hcl, hat⟩ := World.cells?_some hc
      obtain ⟨ns, rfl, e2⟩ := kindsF_spec d e ks hk _ _ _ hx
      refine ⟨ns, e2, fun j hj => ?_⟩
      have := hat j (by rw [hC]; exact hj)
      rw [hC] at this
      rw [← this, ← add_add]
    refine ⟨some a, len, cap, fun i => if hi : i < len then (key i hi).choose else [], rfl, fun i hi => ?_, ⟨fun hn => ?_, fun i hi => ?_⟩, fun h => (by cases h), hl, hm⟩
    · simp only [hi, dite_true]; exact (key i hi).choose_spec.1
    · have h1 := (key 0 hn).choose_spec.2 0 h0
      have hsome : (ints ks (key 0 hn).choose)[0]? = some ((ints ks (key 0 hn).choose)[0]'(by rw [ints_length (key 0 hn).choose_spec.1]; exact h0)) := List.getElem?_eq_getElem _
      rw [hsome] at h1
      have hadd : a.add (0 * ks.length + 0) = a := by simp [Addr.add]
      rw [hadd] at h1
      have hsp : a.spot = none := by
        unfold World.cell? at h1
        split at h1
        · cases hs : a.spot with
          | none => rfl
          | some s => simp [hs] at h1
        · cases h1
      have hlt : a.block < w.heap.size := World.block_lt_of_cell? w a h1
      obtain ⟨b, o, s⟩ := a
      simp only at hsp
      subst hsp
      refine ⟨b, o, rfl, hlt, fun i j hi hj => ?_⟩
      have h2 := (key i hi).choose_spec.2 j hj
      rw [add_plain] at h2
      rw [show o + i * ks.length + j = o + (i * ks.length + j) by omega, h2]
      simp only [rowF, hi, dite_true]
      have hl2 : j < (ints ks (key i hi).choose).length := by rw [ints_length (key i hi).choose_spec.1]; exact hj
      rw [List.getElem?_eq_getElem hl2]
      simp [List.getD_eq_getElem?_getD, List.getElem?_eq_getElem hl2]
    · simp only [hi, dite_true]
      exact ints_length (key i hi).choose_spec.1
def gi (ns : List Int) (j : Nat) : Int := ns.getD j 0
def rowK : List IntKind → (Nat → Int) → List Value
  | [], _ => []
  | k :: ks, f => .int k (f 0) :: rowK ks fun j => f (j + 1)
theorem ints_rowK : ∀ (ks : List IntKind) (ns : List Int), ns.length = ks.length → ints ks ns = rowK ks (gi ns)
  | [], [], _ => rfl
  | k :: ks, n :: ns, h => by
    show Value.int k n :: ints ks ns = _
    rw [ints_rowK ks ns (by simpa using h)]
    rfl
theorem RdR.rowK {sz n : Nat} {A : Option Addr} {ks : List IntKind} {g : Nat → List Int} (h : RdR w sz A n (fun i => ints ks (g i))) (hl : ∀ i, i < n → (g i).length = ks.length) : RdR w sz A n (fun i => rowK ks (gi (g i))) :=
  ⟨h.rd.congr fun i j hi hj => by simp only [rowF, ints_rowK ks (g i) (hl i hi)], fun i hi => by rw [← ints_rowK ks (g i) (hl i hi)]; exact h.len i hi⟩
theorem trodAll_stays (hl : laidOutB P = true) {W W' : World} (hb : Below W.heap.size W W') {sp' : Nat → Bool} : ∀ {ts : List TypeId} {vs : List Value} {ds : List (DataW H)} {ps : List MemPlace}, ts.all (fun t => P.readableRec t && decide (t < P.types.size)) = true →
    DataW.TrodAll enc P W 0 (fun _ => true) true ts vs ds ps → (∀ p ∈ ps, p.block < W.heap.size) → (∀ p ∈ ps, sp' p.block = true) → DataW.TrodAll enc P W' 0 sp' true ts vs ds ps
  | [], [], [], ps, _, h, _, _ => h
  | t :: ts, v :: vs, d :: ds, ps, ht, h, hlt, hs => by
    simp only [List.all_cons, Bool.and_eq_true, decide_eq_true_eq] at ht
    obtain ⟨p, q, h1, h2, rfl⟩ := h
    exact ⟨p, q, WideElems.Trod_stays hl ht.1.1 ht.1.2 h1 (fun x hx => hb.same (hlt x (by simp [hx]))) (fun x hx => hs x (by simp [hx])), trodAll_stays hl hb ht.2 h2 (fun x hx => hlt x (by simp [hx])) (fun x hx => hs x (by simp [hx])), rfl⟩
theorem law_post {f : Func} {s : ChangeSpec} {apart fresh handsOn again : Bool} {W W' : World} {args : Array Value} {ds : List (DataW H)} {p : List MemPlace} {tb : TypeId} (hl : laidOutB P = true) (hvars : s.vars = [])
    (hW : DataW.Whole enc P f.params.toList s.vars apart W args.toList ds [] p) (hA : DataW.TrodAll enc P W 0 (fun _ => true) true f.params.toList args.toList ds p)
    (ht : f.params.toList.all (fun t => P.readableRec t && decide (t < P.types.size)) = true) (hrt : f.resultTypes = #[tb]) (htb : P.underlying tb = some .bool) (hfn : s.fn H ds = { results := [.lit (.bool true)], args := ds }) (hb : Below W.heap.size W W') :
    s.post enc P f apart fresh handsOn again W args (.bool true) W' := by
  have hlt : ∀ q ∈ p, q.block < W.heap.size := fun q hq => hW.lt q hq
  have hold : ∀ q ∈ p, (fun b => decide (b < W.heap.size)) q.block = true := fun q hq => by simpa using hW.lt q hq
  have hres : ∀ (b : Nat) (sp : Nat → Bool) (hd : Bool), DataW.TrodAll enc P W' b sp hd f.resultTypes.toList ((Value.bool true).resultList f.resultTypes.size) (s.fn H (ds ++ [])).results [] := fun b sp hd => by
    rw [List.append_nil, hfn, hrt]
    exact ⟨[], [], shut_bool htb true, rfl, rfl⟩
  have hargs : ∀ sp : Nat → Bool, (∀ q ∈ p, sp q.block = true) → DataW.TrodAll enc P W' 0 sp true f.params.toList args.toList (s.fn H (ds ++ [])).args p := fun sp hs => by
    rw [List.append_nil, hfn]
    exact trodAll_stays hl hb ht hA (fun q hq => hW.lt q hq) hs
  have hv : ∀ sp : Nat → Bool, DataW.TrodVars enc P W' sp s.vars (s.fn H (ds ++ [])).vars [] := fun sp => by
    rw [List.append_nil, hfn, hvars]; exact rfl
  have hok : ∀ (j : Nat) (t : TypeId) (r : Value), f.resultTypes[j]? = some t → ((Value.bool true).resultList f.resultTypes.size)[j]? = some r → Value.okWide P W' .any 0 t r := ok_one (by rw [hrt]) rfl (okWide_bool_mk htb true)
  refine ⟨ds, [], p, [], p, [], hW, hres _ _ _, hargs _ hold, hv _, World.keptBut_mono (fun q hq => ⟨hq, by simpa using hq⟩) (hb.frame (· ∈ p)), fun _ => ?_⟩
  obtain ⟨_, _, _, _, _, hz, hn⟩ := hW
  refine ⟨hok, _, _, ([] ++ p) ++ [], ⟨[] ++ p, [], trodAll_append (hargs _ (fun _ _ => rfl)) (hres _ _ _), hv _, rfl, ?_, ?_⟩, ?_⟩
  · intro b off hp
    have hin : MemPlace.cell b off ∈ p := by simpa using hp
    rw [hb.frozen (hlt _ hin)]
    exact hz b off hin
  · intro ha
    have := hn ha
    simpa using this
  · intro q hq _
    simpa using hq
end
end Go.Proofs.Ytlphecckplndnaa
namespace Go.Proofs.Ytlphecckplndnaa
set_option linter.all false
set_option linter.unusedVariables false
set_option linter.unusedSimpArgs false
open Go.ChangeShapes Go.WideShapes Go.RowKit Go.Deep
section
variable {H : Type} {enc : TypeId × Value → H} {P : Program} {w : World} {base : Nat} {spare : Nat → Bool} {held : Bool}
theorem open_slice_any {t e : TypeId} {fuel : Nat} {cs : List Value} {x : DataW H × List MemPlace} {sz : Nat} (ht : P.underlying t = some (.slice e)) (hC : P.cellsOf e = sz) (h0 : Nat.blt 0 sz = true) (h : DataW.trod enc P w base spare held fuel t cs = some x) :
    ∃ (A : Option Addr) (len cap : Nat) (G : Nat → List Value), cs = [.slice A len cap] ∧ RdR w sz A len G ∧ (∀ i, i < len → ∃ n y, DataW.trod enc P w base spare held n e (G i) = some y) ∧ (A = none → len = 0 ∧ cap = 0) ∧ len ≤ cap ∧ cap ≤ maxLen := by
  have h0 : 0 < sz := Nat.le_of_ble_eq_true h0
  rcases open_slice ht h with ⟨rfl, rfl⟩ | ⟨a, len, cap, m, n, D, Pl, rfl, hb, hl, hm, hmm, _, hi⟩
  · exact ⟨none, 0, 0, fun _ => [], rfl, ⟨Rd.nil, fun i hi => by omega⟩, fun i hi => by omega, fun _ => ⟨rfl, rfl⟩, Nat.le_refl _, Nat.zero_le _⟩
  · have hlm : len ≤ m := by rw [hmm]; split <;> omega
    have key : ∀ i, i < len → ∃ cs' : List Value, cs'.length = sz ∧ (∀ j, j < sz → w.cell? (a.add (i * sz + j)) = cs'[j]?) ∧ ∃ n y, DataW.trod enc P w base spare held n e cs' = some y := fun i hil => by
      obtain ⟨cs', hc, hx⟩ := hi i (by omega)
      obtain ⟨_, hcl, hat⟩ := World.cells?_some hc
      refine ⟨cs', by rw [hcl, hC], fun j hj => ?_, n, _, hx⟩
      have := hat j (by rw [hC]; exact hj)
      rw [hC] at this
      rw [← this, ← add_add]
    refine ⟨some a, len, cap, fun i => if hi : i < len then (key i hi).choose else [], rfl, ⟨fun hn => ?_, fun i hi => ?_⟩, fun i hi => ?_, fun h => (by cases h), hl, hm⟩
    · have h1 := (key 0 hn).choose_spec.2.1 0 h0
      have hsome : ((key 0 hn).choose)[0]? = some ((key 0 hn).choose[0]'(by rw [(key 0 hn).choose_spec.1]; exact h0)) := List.getElem?_eq_getElem _
      rw [hsome] at h1
      have hadd : a.add (0 * sz + 0) = a := by simp [Addr.add]
      rw [hadd] at h1
      have hsp : a.spot = none := by
        unfold World.cell? at h1
        split at h1
        · cases hs : a.spot with
          | none => rfl
          | some s => simp [hs] at h1
        · cases h1
      have hlt : a.block < w.heap.size := World.block_lt_of_cell? w a h1
      obtain ⟨b, o, s⟩ := a
      simp only at hsp
      subst hsp
      refine ⟨b, o, rfl, hlt, fun i j hi hj => ?_⟩
      have h2 := (key i hi).choose_spec.2.1 j hj
      rw [add_plain] at h2
      rw [show o + i * sz + j = o + (i * sz + j) by omega, h2]
      simp only [rowF, hi, dite_true]
      have hl2 : j < (key i hi).choose.length := by rw [(key i hi).choose_spec.1]; exact hj
      rw [List.getD_eq_getElem?_getD, List.getElem?_eq_getElem hl2]
      rfl
    · simp only [hi, dite_true]
      exact (key i hi).choose_spec.1
    · simp only [hi, dite_true]
      exact (key i hi).choose_spec.2.2
theorem trod_fields {t : TypeId} {fs : Array Field} {fuel : Nat} {cs : List Value} {x : DataW H × List MemPlace} (ht : P.underlying t = some (.struct fs)) (h : DataW.trod enc P w base spare held fuel t cs = some x) :
    cs.length = P.cellsOf t ∧ ∀ (i : Nat) (f : Field), fs[i]? = some f → ∃ n y, DataW.trod enc P w base spare held n f.type ((cs.drop f.offset).take (P.cellsOf f.type)) = some y := by
  obtain ⟨xs, n, _, _, hlen, hxl, hf⟩ := DataW.trod_struct ht h
  refine ⟨hlen, fun i f hi => ?_⟩
  have h1 := hf i f hi
  have hi' : i < fs.size := (Array.getElem?_eq_some_iff.1 hi).1
  rw [List.getElem?_eq_getElem (by omega)] at h1
  exact ⟨n, _, h1⟩
end
end Go.Proofs.Ytlphecckplndnaa
namespace Go.Proofs.Ytlphecckplndnaa
set_option linter.all false
set_option linter.unusedVariables false
set_option linter.unusedSimpArgs false
open Go.ChangeShapes Go.WideShapes Go.ChangeAt Go.RowKit Go.Deep
section
variable {H : Type} {enc : TypeId × Value → H} {w : World} {base : Nat} {spare : Nat → Bool} {held : Bool}
structure AnP where
  id : Int
  mo : Int
  lo : Int
  hi : Int
  A : Option Addr
  n : Nat
  c : Nat
  g : Nat → Nat → Int
def anpL (x : AnP) : List Value := [.int .i64 x.id, .int .i64 x.mo, .int .i64 x.lo, .int .i64 x.hi, .slice x.A x.n x.c]
set_option maxRecDepth 100000 in
theorem animal_of_trod {fuel : Nat} {G : List Value} {y : DataW H × List MemPlace} (hl : G.length = 5) (hy : DataW.trod enc Try.prog w base spare held fuel 50 G = some y) :
    ∃ x : AnP, G = anpL x ∧ RdR w 2 x.A x.n (fun k => spL (x.g k 0) (x.g k 1)) := by
  obtain ⟨_, hf⟩ := trod_fields Try.underlying50 hy
  obtain ⟨n0, y0, h0⟩ := hf 0 _ rfl
  obtain ⟨n1, y1, h1⟩ := hf 1 _ rfl
  obtain ⟨n2, y2, h2⟩ := hf 2 _ rfl
  obtain ⟨n3, y3, h3⟩ := hf 3 _ rfl
  obtain ⟨k0, e0, _, _⟩ := DataW.trod_int Try.underlying3 h0
  obtain ⟨k1, e1, _, _⟩ := DataW.trod_int Try.underlying3 h1
  obtain ⟨s2, e2, l2⟩ := kindsF_spec 2 47 [.i64, .i64] (by kernel_rfl) _ _ _ h2
  obtain ⟨A, n, c, gg, e3, hg, hR, _⟩ := open_flat_slice (ks := [.i64, .i64]) 3 Try.underlying48 (by kernel_rfl) (by kernel_rfl) rfl h3
  have hc1 : Try.prog.cellsOf 3 = 1 := by kernel_rfl
  have hc2 : Try.prog.cellsOf 47 = 2 := by kernel_rfl
  have hc3 : Try.prog.cellsOf 48 = 1 := by kernel_rfl
  match s2, l2 with
  | [a0, a1], _ =>
    match G, hl with
    | [x0, x1, x2, x3, x4], _ =>
      have e0 : [x0] = [.int .i64 k0] := by simpa [hc1] using e0
      have e1 : [x1] = [.int .i64 k1] := by simpa [hc1] using e1
      have e2 : [x2, x3] = [.int .i64 a0, .int .i64 a1] := by simpa [hc2, ints] using e2
      have e3 : [x4] = [.slice A n c] := by simpa [hc3] using e3
      cases e0; cases e1; cases e2; cases e3
      exact ⟨⟨k0, k1, a0, a1, A, n, c, fun j => gi (gg j)⟩, rfl, hR.rowK hg⟩
theorem rows_choose {α : Type} {n sz : Nat} {A : Option Addr} {G : Nat → List Value} {F : α → List Value} {q : Nat → α → Prop} (d : α) (hR : RdR w sz A n G) (h : ∀ i, i < n → ∃ x, G i = F x ∧ q i x) : ∃ r : Nat → α, RdR w sz A n (fun i => F (r i)) ∧ ∀ i, i < n → q i (r i) := by
  have hch : ∀ i, ∃ x, i < n → G i = F x ∧ q i x := fun i => by
    by_cases hi : i < n
    · obtain ⟨x, hx⟩ := h i hi
      exact ⟨x, fun _ => hx⟩
    · exact ⟨d, fun h => absurd h hi⟩
  obtain ⟨r, hr⟩ := Classical.axiomOfChoice hch
  exact ⟨r, ⟨hR.rd.congr fun i j hi hj => by simp only [rowF, (hr i hi).1], fun i hi => by rw [← (hr i hi).1]; exact hR.len i hi⟩, fun i hi => (hr i hi).2⟩
set_option maxRecDepth 100000 in
theorem open_herd {r : Reach} {b0 : Nat} {v : Value} {dd : DataW H} {p : List MemPlace} (hv : Value.okWide Try.prog w r b0 22 v) (h : DataW.Trod enc Try.prog w base spare held 22 v dd p) :
    ∃ (A : Option Addr) (cp : Nat) (K : Hd) (a : Nat → Option Addr) (c : Nat → Nat), v = .slice A K.n cp ∧ RdR w 5 A K.n (fun i => anL K a c i) ∧ ∀ i, i < K.n → RdR w 2 (a i) (K.ml i) (fun k => spL (K.sp i k) (K.sg i k)) := by
  obtain ⟨A0, n0, c0, rfl⟩ := okWide_slice Try.underlying22 hv
  obtain ⟨fuel, h⟩ := h
  obtain ⟨A, m, cp, G, e, hR, hel, _, hc, _⟩ := open_slice_any (sz := 5) Try.underlying22 (by kernel_rfl) rfl h
  simp only [Value.cells, List.cons.injEq, Value.slice.injEq, and_true] at e
  obtain ⟨rfl, rfl, rfl⟩ := e
  obtain ⟨x, hx, hq⟩ := rows_choose (F := anpL) (q := fun _ x => RdR w 2 x.A x.n (fun k => spL (x.g k 0) (x.g k 1))) ⟨0, 0, 0, 0, none, 0, 0, fun _ _ => 0⟩ hR (fun i hi => by
    obtain ⟨n, y, hy⟩ := hel i hi
    exact animal_of_trod (hR.len i hi) hy)
  exact ⟨A0, c0, ⟨n0, fun i => (x i).id, fun i => (x i).mo, fun i => (x i).lo, fun i => (x i).hi, fun i => (x i).n, fun i k => (x i).g k 0, fun i k => (x i).g k 1⟩, fun i => (x i).A, fun i => (x i).c, rfl, hx, hq⟩
end
end Go.Proofs.Ytlphecckplndnaa
namespace Go.Proofs.Ytlphecckplndnaa
set_option linter.all false
set_option linter.unusedVariables false
set_option linter.unusedSimpArgs false
open Go.ChangeShapes Go.WideShapes Go.ChangeAt Go.RowKit Go.Deep
theorem Try.own : ownKnob Try.prog.godebug = none := by kernel_rfl
theorem Try.laidOut : laidOutB Try.prog = true := by kernel_rfl
set_option maxRecDepth 100000 in
theorem brandLines_lifted (os : Os) (started : os.Started) (H : Type) (enc : TypeId × Value → H) :
    ReturnsInHanded {} Try.checked os 3 .any (Rows.brandLinesSpec.pre6 enc Try.prog Try.f3 Rows.brandLinesRow.domain false) (Rows.brandLinesSpec.post enc Try.prog Try.f3 false true false false) := by
  refine returnsInHanded_of_change (C := Try.checked) Try.own started (by kernel_rfl) Try.func3
    (ChangeSpec.witness6 (enc := enc) (C := Try.checked) false ⟨#[], #[.slice none 0 0, .int .i64 0, .int .i64 0], []⟩ 8 (by kernel_rfl) (by kernel_rfl) (by kernel_rfl) (by kernel_rfl)) ?_
  intro W base args ds gs before hval0 hW hcnd _
  have hval : ∀ (j : Nat) t v, Try.f3.params[j]? = some t → args[j]? = some v → Value.okWide Try.prog W .any base t v := hval0
  have hW' := hW
  obtain ⟨p, q, hA0, hV, rfl, hfz, hnd⟩ := hW
  have hA : DataW.TrodAll enc Try.prog W 0 (fun _ => true) true Try.f3.params.toList args.toList ds p := hA0
  have hA1 := hA
  rw [Try.params3] at hA hval
  obtain ⟨v0, v1, v2, d0, d1, d2, p0, p1, p2, rfl, rfl, rfl, h0, h1, h2⟩ := trodAll_three hA
  obtain ⟨rfl, rfl⟩ := trodVars_none hV
  obtain ⟨A, cp, Hh, a, c, rfl, hR, hM⟩ := open_herd (hval 0 22 v0 rfl rfl) h0
  obtain ⟨ia, rfl⟩ := okWide_int Try.underlying3 (hval 1 3 v1 rfl rfl)
  obtain ⟨ib, rfl⟩ := okWide_int Try.underlying3 (hval 2 3 v2 rfl rfl)
  clear hA0 hval0
  simp only [List.append_nil] at hW'
  refine (lawLines_any (ia := ia) (ib := ib) hR hM).mono ?_
  rintro e W' ⟨rfl, hb⟩
  exact ⟨_, rfl, law_post Try.laidOut rfl hW' hA1 (by kernel_rfl) (by kernel_rfl) Try.underlying4 rfl hb⟩
theorem brandLines_holds : Rows.BrandLinesSaid :=
  OpenClaim.holds_of_wide 3 Try.f3 rfl rfl rfl rfl rfl rfl rfl ⟨rfl, rfl, rfl, rfl, rfl⟩ rfl rfl rfl rfl rfl (by kernel_rfl) Try.func3 (by kernel_rfl)
    (of_decide_eq_true (by kernel_rfl)) (by unfold Func.isWrapper; first | (rw [if_pos (by decide +kernel)]; kernel_rfl) | (rw [if_neg (by decide +kernel)]; exact ⟨rfl, rfl⟩))
    (fun os started H enc _ => brandLines_lifted os started H enc)
end Go.Proofs.Ytlphecckplndnaa
