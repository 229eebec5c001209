/-
  The reference's Jolted.
-/
import Derived.Test.YtagcnokaajinlaaDoorLoadP
namespace Go.Proofs.YtagcnokaajinlaaDoor
set_option linter.all false
set_option linter.unusedVariables false
set_option linter.unusedSimpArgs false
open Go.RowKit
theorem lsts_at (l : Nat → Nat) (v : Nat → Nat → Int) (j k : Nat) (hk : k < l j) : ∀ J, j < J → (lsts l v J).getD (tot l j + k) 0 = v j k
  | 0, h => by omega
  | J + 1, h => by
    have hl := lsts_length l v J
    simp only [lsts]
    by_cases hj : j < J
    · have h1 : tot l j + l j ≤ tot l J := tot_mono (l := l) (show j + 1 ≤ J by omega)
      rw [List.getD_eq_getElem?_getD, List.getElem?_append_left (by omega), ← List.getD_eq_getElem?_getD, lsts_at l v j k hk J hj]
    · obtain rfl : j = J := by omega
      rw [List.getD_eq_getElem?_getD, List.getElem?_append_right (by omega), hl]
      simp [lst, hk]
def hitK (f : Nat → Nat → Int) (h : Int) (l : Nat → Nat) (v : Nat → Nat → Int) : Nat → Nat → Nat → Int
  | 0 => f
  | k + 1 => hit (hitK f h l v k) h (decide (l 0 + l 1 ≤ k)) ((lsts l v 3).getD k 0)
theorem hitK_all (f : Nat → Nat → Int) (h : Int) (l : Nat → Nat) (v : Nat → Nat → Int) : ∀ j, j ≤ 3 → hitK f h l v (tot l j) = hitJ f h l v j
  | 0, _ => rfl
  | j + 1, hj => by
    have ih := hitK_all f h l v j (by omega)
    have hstep : ∀ k, k ≤ l j → hitK f h l v (tot l j + k) = hitL (hitJ f h l v j) h (j == 2) ((List.range k).map (v j)) := fun k => by
      induction k with
      | zero => intro _; rw [Nat.add_zero, ih]; rfl
      | succ k ihk =>
        intro hk
        have hd : decide (l 0 + l 1 ≤ tot l j + k) = (j == 2) := by
          have : j = 0 ∨ j = 1 ∨ j = 2 := by omega
          rcases this with rfl | rfl | rfl
          · first | (simp [tot]; done) | (simp [tot]; omega)
          · first | (simp [tot]; done) | (simp [tot]; omega)
          · first | (simp [tot]; done) | (simp [tot]; omega)
        rw [← Nat.add_assoc, hitK, ihk (by omega), lsts_at l v j k (by omega) 3 (by omega), hd, List.range_succ, List.map_append, show [k].map (v j) = [v j k] from rfl, hitL_snoc]
    rw [tot, hstep (l j) (Nat.le_refl _)]
    rfl
theorem bump_keep {f : Nat → Nat → Int} {x d : Int} {q j : Nat} (h : j ≠ 9) : bump f x d q j = f q j := by simp [bump, h]
theorem hit_keep {f : Nat → Nat → Int} {x d : Int} {t : Bool} {q j : Nat} (h : j ≠ 9) : hit f d t x q j = f q j := by
  unfold hit; split
  · rw [bump_keep h, bump_keep h]
  · rw [bump_keep h]
theorem hitK_keep {f : Nat → Nat → Int} {d : Int} {l : Nat → Nat} {v : Nat → Nat → Int} {q j : Nat} (h : j ≠ 9) : ∀ k, hitK f d l v k q j = f q j
  | 0 => rfl
  | k + 1 => by rw [hitK, hit_keep h, hitK_keep h k]
theorem hitAll_keep {f : Nat → Nat → Int} {jt : Nat → Nat → Int} {l : Nat → Nat → Nat} {v : Nat → Nat → Nat → Int} {q j : Nat} (h : j ≠ 9) : ∀ n, hitAll f jt l v n q j = f q j
  | 0 => rfl
  | n + 1 => by rw [hitAll, ← hitK_all _ _ _ _ 3 (Nat.le_refl _), hitK_keep h, hitAll_keep h n]
theorem pack_fin {pk jt : Nat → Nat → Int} {l : Nat → Nat → Nat} {v : Nat → Nat → Nat → Int} {np nj q : Nat} {days B : Int} (hq : q < np) (hp : packOk (pk q) = true) (hB : Bd (hitAll pk jt l v nj) np B) (hd : 0 ≤ days) :
    packOk (finF pk jt l v np nj days q) = (decide (hitAll pk jt l v nj q 9 ≤ 6000000) && decide (hitAll pk jt l v nj q 10 + days ≤ 100000)) := by
  obtain ⟨h1, h2⟩ := (packOk_iff (pk q)).1 hp
  unfold okF at h1
  have hb := hB q hq
  have k10 : hitAll pk jt l v nj q 10 = pk q 10 := hitAll_keep (by decide) nj
  have e : ∀ j, j ≠ 9 → j ≠ 10 → finF pk jt l v np nj days q j = pk q j := fun j h9 h10 => by
    unfold finF aged
    rw [if_neg (by omega), hitAll_keep h9 nj]
  have e9 : finF pk jt l v np nj days q 9 = hitAll pk jt l v nj q 9 := by simp [finF, aged]
  have e10 : finF pk jt l v np nj days q 10 = hitAll pk jt l v nj q 10 + days := by simp [finF, aged, hq]
  rw [Bool.eq_iff_iff, packOk_iff]
  unfold okF
  rw [e 0 (by decide) (by decide), e 1 (by decide) (by decide), e 2 (by decide) (by decide), e 3 (by decide) (by decide), e 4 (by decide) (by decide), e 5 (by decide) (by decide), e 6 (by decide) (by decide), e 7 (by decide) (by decide), e 8 (by decide) (by decide), e9, e10]
  simp only [Bool.and_eq_true, decide_eq_true_eq]
  constructor
  · rintro ⟨h3, _⟩; omega
  · rintro ⟨h3, h4⟩; exact ⟨by omega, h2⟩
theorem jn0 {np m nj : Nat} {pk jt : Nat → Nat → Int} {l : Nat → Nat → Nat} {v : Nat → Nat → Nat → Int} {days : Int} (h : jcode np pk m l v nj jt days ≠ 0) : jn np pk m l v nj jt days = 0 := by unfold jn; rw [if_neg h]
theorem ref_bad {np m nj : Nat} {pk jt : Nat → Nat → Int} {l : Nat → Nat → Nat} {v : Nat → Nat → Nat → Int} {days code : Int} {w w' : World} {L : List Fact} {E : TypeId} {r : Nat → List Value} (hj : jcode np pk m l v nj jt days = code) (hc : code ≠ 0) (hs : Sat [] w L w') :
    ∃ x : Option Addr × Nat, Ending.returned (.tuple #[.slice none 0 0, .int .i64 code]) = .returned (.tuple #[.slice x.1 (jn np pk m l v nj jt days) x.2, .int .i64 (jcode np pk m l v nj jt days)]) ∧ Sat [] w [.own x.1 (jn np pk m l v nj jt days) x.2 E 11 r] w' := by
  subst hj
  refine ⟨(none, 0), ?_, ?_⟩
  · rw [jn0 hc]
  · rw [jn0 hc]; exact hs.sub (KSub.nilOwn KSub.nil)
theorem j_full {np m nj q : Nat} {pk jt : Nat → Nat → Int} {l : Nat → Nat → Nat} {v : Nat → Nat → Nat → Int} {days : Int} (hcv : checkV np pk m l v = 0) (hdays : inB5 0 100000 days = true) (hnj6 : (nj : Int) ≤ 60) (hjs : allB nj (fun k => joltP m (jt k)) = true) (hq : q < np) (hp : packOk (finF pk jt l v np nj days q) = false) : jcode np pk m l v nj jt days = 9 := by
  have h1 : allB np (fun q => packOk (finF pk jt l v np nj days q)) = false := by
    cases h : allB np (fun q => packOk (finF pk jt l v np nj days q)) with
    | false => rfl
    | true => have := allB_iff.1 h q hq; rw [hp] at this; cases this
  unfold jcode
  rw [if_pos hcv, hdays, show decide ((nj : Int) ≤ 60) = true by simpa using hnj6, hjs, h1]
  rfl
set_option maxRecDepth 100000 in
set_option maxHeartbeats 1000000 in
theorem refJolted_any {w : World} {A AT AJ : Option Addr} {np m cp cpT nj cpJ : Nat} {pk jt : Nat → Nat → Int} {a : Nat → Nat → Option Addr} {l c : Nat → Nat → Nat} {v : Nat → Nat → Nat → Int} {days : Int}
    (hLay : Lay w A AT np m pk a l c v) (hJ : RdR w 2 AJ nj (fun k => spL (jt k 0) (jt k 1))) (hnj : nj ≤ 1000000) :
    CallsK Tryd.prog 11 #[.slice A np cp, .slice AT m cpT, .slice AJ nj cpJ, .int .i64 days] [] w (Option Addr × Nat) (fun x => .tuple #[.slice x.1 (jn np pk m l v nj jt days) x.2, .int .i64 (jcode np pk m l v nj jt days)])
      (fun x => [.own x.1 (jn np pk m l v nj jt days) x.2 25 11 (fun q => packL (finF pk jt l v np nj days q))]) := by
  have hnp := hLay.hnp
  have hm := hLay.hm
  have hR0 := hLay.hR
  have hT0 := hLay.hT
  refine K_enter (S := []) (K := []) Tryd.func11 rfl Tryd.ntmps11 rfl (Sat.start _) ?_
  refine TW.seq fun Y1 hY1 => ?_
  refine TW.region ?_
  refine TL.p Pu.as ?_
  refine TL.p Pu.as ?_
  refine TL.nil ?_
  refine TQ.thenN (hY1 _ _ ?_)
  refine TW.seq fun Y2 hY2 => ?_
  refine TW.seq fun Y3 hY3 => ?_
  refine TW.region ?_
  refine TL.p Pu.mv ?_
  refine TL.p Pu.mv ?_
  refine TL.cr rfl (enters Tryd.func14 rfl rfl) (fun w hw => by
      exact refCheck_any (hLay.sat hw)) ?_
  refine TL.p Pu.as ?_
  refine TL.nil ?_
  refine TQ.thenN (hY3 _ _ ?_)
  refine TW.seq fun Y4 hY4 => ?_
  refine TW.region ?_
  refine TL.p Pu.mv ?_
  refine TL.p Pu.ne ?_
  refine TL.nil ?_
  refine TQ.thenN (hY4 _ _ ?_)
  refine TW.cond rfl (fun hc0 => ?_) (fun hc0 => ?_)
  · try simp only [decide_eq_true_eq, decide_eq_false_iff_not, Bool.not_eq_true', Bool.not_eq_false', Bool.and_eq_true, Bool.or_eq_true, Bool.and_eq_false_iff, Bool.or_eq_false_iff, Int.not_lt, Int.not_le] at hc0
    have hcv : checkV np pk m l v ≠ 0 := by simpa using hc0
    refine TW.seq fun Y5 hY5 => ?_
    refine TW.region ?_
    refine TL.p Pu.mv ?_
    refine TL.p Pu.as ?_
    refine TL.p Pu.as ?_
    refine TL.nil ?_
    refine TQ.thenN (hY5 _ _ ?_)
    refine TW.ret ?_
    refine TQ.thenR ?_
    refine TQ.ret Tryd.results11 rfl ((.tmp rfl (.tmp rfl .nil))) ?_
    exact fun w hw => ref_bad (jc1 hcv) hcv hw
  · try simp only [decide_eq_true_eq, decide_eq_false_iff_not, Bool.not_eq_true', Bool.not_eq_false', Bool.and_eq_true, Bool.or_eq_true, Bool.and_eq_false_iff, Bool.or_eq_false_iff, Int.not_lt, Int.not_le] at hc0
    have hcv : checkV np pk m l v = 0 := by simpa using hc0
    obtain ⟨hnp30, hpk, hties⟩ := check_ok hcv
    refine TW.skip ?_
    refine TQ.thenN (hY2 _ _ ?_)
    refine TW.seq fun Y6 hY6 => ?_
    refine TW.seq fun Y7 hY7 => ?_
    refine TW.region ?_
    refine TL.p Pu.mv ?_
    refine TL.cr rfl (enters Tryd.func39 rfl rfl) (fun w hw => by
        exact within5_any _ _ _ _) ?_
    refine TL.p Pu.no ?_
    refine TL.nil ?_
    refine TQ.thenN (hY7 _ _ ?_)
    refine TW.cond rfl (fun hc1 => ?_) (fun hc1 => ?_)
    · try simp only [decide_eq_true_eq, decide_eq_false_iff_not, Bool.not_eq_true', Bool.not_eq_false', Bool.and_eq_true, Bool.or_eq_true, Bool.and_eq_false_iff, Bool.or_eq_false_iff, Int.not_lt, Int.not_le] at hc1
      have hdb : inB5 0 100000 days = false := hc1
      refine TW.seq fun Y8 hY8 => ?_
      refine TW.region ?_
      refine TL.p Pu.as ?_
      refine TL.p Pu.as ?_
      refine TL.nil ?_
      refine TQ.thenN (hY8 _ _ ?_)
      refine TW.ret ?_
      refine TQ.thenR ?_
      refine TQ.ret Tryd.results11 rfl ((.tmp rfl (.tmp rfl .nil))) ?_
      exact fun w hw => ref_bad (by simp [jcode, hcv, hdb]) (by decide) hw
    · try simp only [decide_eq_true_eq, decide_eq_false_iff_not, Bool.not_eq_true', Bool.not_eq_false', Bool.and_eq_true, Bool.or_eq_true, Bool.and_eq_false_iff, Bool.or_eq_false_iff, Int.not_lt, Int.not_le] at hc1
      have hdays : inB5 0 100000 days = true := hc1
      have hdd : 0 ≤ days ∧ days ≤ 100000 := by simpa [inB5] using hdays
      refine TW.skip ?_
      refine TQ.thenN (hY6 _ _ ?_)
      refine TW.seq fun Y9 hY9 => ?_
      refine TW.seq fun Y10 hY10 => ?_
      refine TW.region ?_
      refine TL.p Pu.mv ?_
      refine TL.p (Pu.ln Tryd.underlying28) ?_
      refine TL.p Pu.gt ?_
      refine TL.nil ?_
      refine TQ.thenN (hY10 _ _ ?_)
      refine TW.cond rfl (fun hc2 => ?_) (fun hc2 => ?_)
      · try simp only [decide_eq_true_eq, decide_eq_false_iff_not, Bool.not_eq_true', Bool.not_eq_false', Bool.and_eq_true, Bool.or_eq_true, Bool.and_eq_false_iff, Bool.or_eq_false_iff, Int.not_lt, Int.not_le] at hc2
        refine TW.seq fun Y11 hY11 => ?_
        refine TW.region ?_
        refine TL.p Pu.as ?_
        refine TL.p Pu.as ?_
        refine TL.nil ?_
        refine TQ.thenN (hY11 _ _ ?_)
        refine TW.ret ?_
        refine TQ.thenR ?_
        refine TQ.ret Tryd.results11 rfl ((.tmp rfl (.tmp rfl .nil))) ?_
        exact fun w hw => ref_bad (by unfold jcode; rw [if_pos hcv, hdays, show decide ((nj : Int) ≤ 60) = false by simp; omega]; rfl) (by decide) hw
      · try simp only [decide_eq_true_eq, decide_eq_false_iff_not, Bool.not_eq_true', Bool.not_eq_false', Bool.and_eq_true, Bool.or_eq_true, Bool.and_eq_false_iff, Bool.or_eq_false_iff, Int.not_lt, Int.not_le] at hc2
        have hnj6 : (nj : Int) ≤ 60 := by omega
        refine TW.skip ?_
        refine TQ.thenN (hY9 _ _ ?_)
        refine TW.seq fun Y12 hY12 => ?_
        refine TW.seq fun Y13 hY13 => ?_
        refine TW.region ?_
        refine TL.p Pu.as ?_
        refine TL.nil ?_
        refine TQ.thenN (hY13 _ _ ?_)
        refine TW.block ?_
        refine TW.loop1 (fun (n : Nat) => [(11, .int .i64 (n : Int)), (2, .slice AJ nj cpJ), (1, .slice AT m cpT), (0, .slice A np cp), (3, .int .i64 days)]) (fun n => []) (fun n => n ≤ nj ∧ ∀ n', n' < n → joltP m (jt n') = true) (fun n => nj - n) 0 (by repeat (first | exact trivial | refine ⟨rfl, ?_⟩ | refine ⟨trivial, ?_⟩)) ?_ ?_ ?_
        · exact (by repeat (first | exact KSub.nil | refine KSub.cons (by repeat (first | exact Pick.hd | apply Pick.tl)) ?_))
        · exact ⟨by omega, fun n' h => by omega⟩
        rintro n ⟨hn, hjs⟩ Z0 hZ0
        refine TW.seq fun Y14 hY14 => ?_
        refine TW.seq fun Y15 hY15 => ?_
        refine TW.region ?_
        refine TL.p Pu.mv ?_
        refine TL.p Pu.mv ?_
        refine TL.p (Pu.ln Tryd.underlying28) ?_
        refine TL.p Pu.lt ?_
        refine TL.nil ?_
        refine TQ.thenN (hY15 _ _ ?_)
        refine TW.cond rfl (fun hc3 => ?_) (fun hc3 => ?_)
        · try simp only [decide_eq_true_eq, decide_eq_false_iff_not, Bool.not_eq_true', Bool.not_eq_false', Bool.and_eq_true, Bool.or_eq_true, Bool.and_eq_false_iff, Bool.or_eq_false_iff, Int.not_lt, Int.not_le] at hc3
          refine TW.skip ?_
          refine TQ.thenN (hY14 _ _ ?_)
          refine TW.seq fun Y16 hY16 => ?_
          refine TW.block ?_
          refine TW.seq fun Y17 hY17 => ?_
          refine TW.join [(54, .bool (!joltP m (jt n)))] ?_ (fun hJ1 => ?_)
          · refine TQ.thenN (hY17 _ _ ?_)
            refine TW.cond rfl (fun hc4 => ?_) (fun hc4 => ?_)
            · try simp only [decide_eq_true_eq, decide_eq_false_iff_not, Bool.not_eq_true', Bool.not_eq_false', Bool.and_eq_true, Bool.or_eq_true, Bool.and_eq_false_iff, Bool.or_eq_false_iff, Int.not_lt, Int.not_le] at hc4
              have hbad : joltP m (jt n) = false := by simpa using hc4
              refine TW.seq fun Y18 hY18 => ?_
              refine TW.region ?_
              refine TL.p Pu.as ?_
              refine TL.p Pu.as ?_
              refine TL.nil ?_
              refine TQ.thenN (hY18 _ _ ?_)
              refine TW.ret ?_
              refine TQ.blkR ?_
              refine TQ.thenR ?_
              refine TQ.thenR ?_
              refine TQ.blkR ?_
              refine TQ.thenR ?_
              refine TQ.ret Tryd.results11 rfl ((.tmp rfl (.tmp rfl .nil))) ?_
              exact fun w hw => ref_bad (by
                have h1 : allB nj (fun k => joltP m (jt k)) = false := by
                  cases h : allB nj (fun k => joltP m (jt k)) with
                  | false => rfl
                  | true => have := allB_iff.1 h n (by omega); rw [hbad] at this; cases this
                unfold jcode; rw [if_pos hcv, hdays, show decide ((nj : Int) ≤ 60) = true by simp; omega, h1]; rfl) (by decide) hw
            · try simp only [decide_eq_true_eq, decide_eq_false_iff_not, Bool.not_eq_true', Bool.not_eq_false', Bool.and_eq_true, Bool.or_eq_true, Bool.and_eq_false_iff, Bool.or_eq_false_iff, Int.not_lt, Int.not_le] at hc4
              have hgood : joltP m (jt n) = true := by simpa using hc4
              refine TW.skip ?_
              refine TQ.blkN ?_
              refine TQ.thenN (hY16 _ _ ?_)
              refine TW.region ?_
              refine TL.p Pu.mv ?_
              refine TL.p Pu.ad ?_
              refine TL.p Pu.as ?_
              refine TL.nil ?_
              refine TQ.thenN (hZ0 (n + 1) _ _ ?_ ?_ (by repeat (first | exact trivial | refine ⟨rfl, ?_⟩ | refine ⟨trivial, ?_⟩)) ?_)
              · refine ⟨by omega, fun n' h => ?_⟩
                by_cases he : n' = n
                · subst he; exact hgood
                · exact hjs n' (by omega)
              · exact (by first | omega | (simp only []; omega) | (simp; omega))
              · exact (by repeat (first | exact KSub.nil | refine KSub.cons (by repeat (first | exact Pick.hd | apply Pick.tl)) ?_))
          refine TW.region ?_
          refine TL.p Pu.mv ?_
          refine TL.p Pu.mv ?_
          refine TL.p (Pu.el ty_et28) ?_
          refine TL.p (by first | exact Pu.fb ty_fa44_0 | exact Pu.fe ty_fa44_0) ?_
          refine TL.p (Pu.ld ty_sc3) ?_
          refine TL.p Pu.mv ?_
          refine TL.p (Pu.ln Tryd.underlying27) ?_
          refine TL.p Pu.sb ?_
          refine TL.cr rfl (enters Tryd.func39 rfl rfl) (fun w hw => by
              exact within5_any _ _ _ _) ?_
          refine TL.p Pu.no ?_
          refine TL.p Pu.mv ?_
          refine TL.guard (t := 46) rfl (fun hg1 => ?_) (fun hg1 => ?_)
          · try simp only [decide_eq_true_eq, decide_eq_false_iff_not, Bool.not_eq_true', Bool.not_eq_false', Int.natCast_pos] at hg1
            refine TL.gs ?_
            refine TL.gs ?_
            refine TL.gs ?_
            refine TL.gs ?_
            refine TL.gs ?_
            refine TL.gs ?_
            refine TL.gs ?_
            refine TL.p Pu.kt ?_
            refine TL.nil ?_
            exact TQ.sub (by repeat (first | exact trivial | refine ⟨rfl, ?_⟩ | refine ⟨trivial, ?_⟩ | refine ⟨(by show some (Value.bool _) = some (Value.bool _); simp [hg1, joltP]), ?_⟩)) (by repeat (first | exact KSub.nil | refine KSub.cons (by repeat (first | exact Pick.hd | apply Pick.tl)) ?_)) hJ1
          · try simp only [decide_eq_true_eq, decide_eq_false_iff_not, Bool.not_eq_true', Bool.not_eq_false', Int.natCast_pos] at hg1
            refine TL.gd Pu.mv ?_
            refine TL.gd Pu.mv ?_
            refine TL.gd (Pu.el ty_et28) ?_
            refine TL.gd (by first | exact Pu.fb ty_fa44_1 | exact Pu.fe ty_fa44_1) ?_
            refine TL.gd (Pu.ld ty_sc3) ?_
            refine TL.cr rfl (enters Tryd.func39 rfl rfl) (fun w hw => by
                exact within5_any _ _ _ _) ?_
            refine TL.gd Pu.no ?_
            refine TL.p Pu.kf ?_
            refine TL.nil ?_
            exact TQ.sub (by repeat (first | exact trivial | refine ⟨rfl, ?_⟩ | refine ⟨trivial, ?_⟩ | refine ⟨(by show some (Value.bool _) = some (Value.bool _); simp [hg1, joltP]), ?_⟩)) (by repeat (first | exact KSub.nil | refine KSub.cons (by repeat (first | exact Pick.hd | apply Pick.tl)) ?_)) hJ1
        · try simp only [decide_eq_true_eq, decide_eq_false_iff_not, Bool.not_eq_true', Bool.not_eq_false', Bool.and_eq_true, Bool.or_eq_true, Bool.and_eq_false_iff, Bool.or_eq_false_iff, Int.not_lt, Int.not_le] at hc3
          refine TW.exit ?_
          refine TQ.thenX ?_
          refine TQ.thenX ?_
          refine TQ.blkX ?_
          refine TQ.thenN (hY12 _ _ ?_)
          refine TW.seq fun Y19 hY19 => ?_
          refine TW.region ?_
          refine TL.m Mk.bl ?_
          intro b1
          refine TL.p Pu.mv ?_
          refine TL.subK (KSub.ofBlk (n := 0) (sz := 11) (r := fun _ => []) Pick.hd rfl (fun _ h => by omega) rfl rfl KSub.nil) ?_
          first | refine TL.a0 ty_et26 ?_ | refine TL.ap ty_et26 ?_
          intro A2 c2
          refine TL.p Pu.as ?_
          refine TL.nil ?_
          refine TQ.thenN (hY19 _ _ ?_)
          refine TW.seq fun Y20 hY20 => ?_
          refine TW.seq fun Y21 hY21 => ?_
          refine TW.region ?_
          refine TL.p Pu.as ?_
          refine TL.nil ?_
          refine TQ.thenN (hY21 _ _ ?_)
          refine TW.block ?_
          obtain rfl : nj = n := by omega
          have hBd0 : Bd pk np 6000000 := fun q hq => by
            have := ((packOk_iff (pk q)).1 (hpk q hq)).1
            unfold okF at this
            omega
          refine TW.loop1 (fun (n : Nat) => [(13, .int .i64 (n : Int)), (12, .slice A2 np c2), (2, .slice AJ nj cpJ), (1, .slice AT m cpT), (0, .slice A np cp), (3, .int .i64 days)]) (fun n => [.own A2 np c2 25 11 (fun q => packL (hitAll pk jt l v n q))]) (fun n => n ≤ nj ∧ Bd (hitAll pk jt l v n) np (6000000 + 2000000 * (n : Int))) (fun n => nj - n) 0 (by repeat (first | exact trivial | refine ⟨rfl, ?_⟩ | refine ⟨trivial, ?_⟩)) ?_ ?_ ?_
          · exact (by repeat (first | exact KSub.nil | refine KSub.cons (by repeat (first | exact Pick.hd | apply Pick.tl)) ?_))
          · exact ⟨by omega, by show Bd pk np _; exact hBd0.mono (by omega)⟩
          rintro n ⟨hn1, hBn⟩ Z1 hZ1
          refine TW.seq fun Y22 hY22 => ?_
          refine TW.seq fun Y23 hY23 => ?_
          refine TW.region ?_
          refine TL.p Pu.mv ?_
          refine TL.p Pu.mv ?_
          refine TL.p (Pu.ln Tryd.underlying28) ?_
          refine TL.p Pu.lt ?_
          refine TL.nil ?_
          refine TQ.thenN (hY23 _ _ ?_)
          refine TW.cond rfl (fun hc5 => ?_) (fun hc5 => ?_)
          · try simp only [decide_eq_true_eq, decide_eq_false_iff_not, Bool.not_eq_true', Bool.not_eq_false', Bool.and_eq_true, Bool.or_eq_true, Bool.and_eq_false_iff, Bool.or_eq_false_iff, Int.not_lt, Int.not_le] at hc5
            have hnj1 : n < nj := by omega
            have hjn := hjs n hnj1
            simp only [joltP, inB5, Bool.and_eq_true, decide_eq_true_eq] at hjn
            have htl : (jt n 0).toNat < m := by omega
            have hti := hties _ htl
            have hLi := hti.2
            have hbd := lsts_bound (N := (np : Int)) (by omega) 3 hti.1
            have hl3 : l (jt n 0).toNat 0 + l (jt n 0).toNat 1 + l (jt n 0).toNat 2 ≤ 10 := by rw [← tot3]; exact hLi
            refine TW.skip ?_
            refine TQ.thenN (hY22 _ _ ?_)
            refine TW.seq fun Y24 hY24 => ?_
            refine TW.block ?_
            refine TW.seq fun Y25 hY25 => ?_
            refine TW.region ?_
            refine TL.p Pu.mv ?_
            refine TL.p Pu.mv ?_
            refine TL.p Pu.mv ?_
            refine TL.p (Pu.el ty_et28) ?_
            refine TL.p (by first | exact Pu.fb ty_fa44_0 | exact Pu.fe ty_fa44_0) ?_
            refine TL.p (Pu.ld ty_sc3) ?_
            refine TL.p (Pu.el (q := (jt n 0).toNat) ty_et27 (hk := rfl)) ?_
            refine TL.p (Pu.lds ty_ag59) ?_
            refine TL.m (Mk.al ty_zr59) ?_
            intro b3
            first | refine TL.st ty_sz59 ?_ | refine TL.se ty_sz59 ?_
            refine TL.nil ?_
            refine TQ.thenN (hY25 _ _ ?_)
            refine TW.seq fun Y26 hY26 => ?_
            refine TW.region ?_
            refine TL.p (Pu.lds ty_ag59) ?_
            refine TL.call (M := []) rfl (enters Tryd.func40 rfl rfl) (List.Perm.refl _) rfl (fun w hw => by
                exact refList3 (v := v (jt n 0).toNat) (by omega) (fun j hj => (hLay.hI _ htl j hj).sat hw Apart.nil)) ?_
            rintro ⟨Al, cl⟩
            refine TL.p Pu.as ?_
            refine TL.nil ?_
            refine TQ.thenN (hY26 _ _ ?_)
            refine TW.seq fun Y27 hY27 => ?_
            refine TW.region ?_
            refine TL.p Pu.as ?_
            refine TL.nil ?_
            refine TQ.thenN (hY27 _ _ ?_)
            refine TW.block ?_
            refine TW.loop1 (fun (k : Nat) => [(16, .int .i64 (k : Int)), (15, .slice Al (tot (l (jt n 0).toNat) 3) cl), (14, .pointer (some ⟨b3, 0, none⟩)), (13, .int .i64 (n : Int)), (12, .slice A2 np c2), (2, .slice AJ nj cpJ), (1, .slice AT m cpT), (0, .slice A np cp), (3, .int .i64 days)]) (fun k => [.own A2 np c2 25 11 (fun q => packL (hitK (hitAll pk jt l v n) (jt n 1) (l (jt n 0).toNat) (v (jt n 0).toNat) k q)), .own Al (tot (l (jt n 0).toNat) 3) cl 3 1 (fun k => [.int .i64 ((lsts (l (jt n 0).toNat) (v (jt n 0).toNat) 3).getD k 0)]), .blk b3 59 (tieL (a (jt n 0).toNat) (l (jt n 0).toNat) (c (jt n 0).toNat))]) (fun k => k ≤ tot (l (jt n 0).toNat) 3 ∧ Bd (hitK (hitAll pk jt l v n) (jt n 1) (l (jt n 0).toNat) (v (jt n 0).toNat) k) np (6000000 + 2000000 * (n : Int) + 200000 * (k : Int))) (fun k => tot (l (jt n 0).toNat) 3 - k) 0 (by repeat (first | exact trivial | refine ⟨rfl, ?_⟩ | refine ⟨trivial, ?_⟩)) ?_ ?_ ?_
            · exact (by repeat (first | exact KSub.nil | refine KSub.cons (by repeat (first | exact Pick.hd | apply Pick.tl)) ?_))
            · exact ⟨Nat.zero_le _, hBn.mono (by omega)⟩
            rintro k ⟨hk, hBk⟩ Z2 hZ2
            refine TW.seq fun Y28 hY28 => ?_
            refine TW.seq fun Y29 hY29 => ?_
            refine TW.region ?_
            refine TL.p Pu.mv ?_
            refine TL.p Pu.mv ?_
            refine TL.p (Pu.ln Tryd.underlying47) ?_
            refine TL.p Pu.lt ?_
            refine TL.nil ?_
            refine TQ.thenN (hY29 _ _ ?_)
            refine TW.cond rfl (fun hc6 => ?_) (fun hc6 => ?_)
            · try simp only [decide_eq_true_eq, decide_eq_false_iff_not, Bool.not_eq_true', Bool.not_eq_false', Bool.and_eq_true, Bool.or_eq_true, Bool.and_eq_false_iff, Bool.or_eq_false_iff, Int.not_lt, Int.not_le] at hc6
              have hkt : k < tot (l (jt n 0).toNat) 3 := by omega
              have hx : 0 ≤ (lsts (l (jt n 0).toNat) (v (jt n 0).toNat) 3).getD k 0 ∧ (lsts (l (jt n 0).toNat) (v (jt n 0).toNat) 3).getD k 0 ≤ (np : Int) - 1 := by
                refine hbd _ ?_
                rw [List.getD_eq_getElem?_getD, List.getElem?_eq_getElem (by rw [lsts_length]; exact hkt)]
                exact List.getElem_mem _
              obtain ⟨hx0, hx1⟩ := hx
              have hBq := hBk ((lsts (l (jt n 0).toNat) (v (jt n 0).toNat) 3).getD k 0).toNat (by omega)
              refine TW.skip ?_
              refine TQ.thenN (hY28 _ _ ?_)
              refine TW.seq fun Y30 hY30 => ?_
              refine TW.block ?_
              refine TW.seq fun Y31 hY31 => ?_
              refine TW.dw 16 ?_
              refine RK.tk Pu.mv ?_
              refine RK.tk Pu.mv ?_
              refine RK.tk Pu.mv ?_
              refine RK.tk (Pu.el ty_et47) ?_
              refine RK.tk (Pu.ld ty_sc3) ?_
              refine RK.tk (Pu.el (q := ((lsts (l (jt n 0).toNat) (v (jt n 0).toNat) 3).getD k 0).toNat) ty_et26 (hk := rfl)) ?_
              refine RK.tk (by first | exact Pu.fb ty_fa25_5 | exact Pu.fe ty_fa25_5) ?_
              refine RK.tk (Pu.ld ty_sc3) ?_
              refine RK.tk Pu.mv ?_
              refine RK.tk Pu.mv ?_
              refine RK.tk (Pu.el ty_et28) ?_
              refine RK.tk (by first | exact Pu.fb ty_fa44_1 | exact Pu.fe ty_fa44_1) ?_
              refine RK.tk (Pu.ld ty_sc3) ?_
              refine RK.tk Pu.ad ?_
              refine RK.tk (Pu.el (q := ((lsts (l (jt n 0).toNat) (v (jt n 0).toNat) 3).getD k 0).toNat) ty_et26 (hk := rfl)) ?_
              refine RK.tk (by first | exact Pu.fb ty_fa25_5 | exact Pu.fe ty_fa25_5) ?_
              refine RK.ch [] ?_ trivial
              refine WK.n ?_
              first | refine TL.st ty_sz3 ?_ | refine TL.se ty_sz3 ?_
              refine TL.nil ?_
              refine TQ.thenN (hY31 _ _ ?_)
              refine TW.seq fun Y32 hY32 => ?_
              refine TW.region ?_
              refine TL.subK (KSub.own Pick.hd (fun q _ => bump_row (h := jt n 1) hx0 q) (KSub.cons Pick.hd (KSub.cons Pick.hd KSub.nil))) ?_
              refine TL.p Pu.mv ?_
              refine TL.p (by first | exact Pu.fb ty_fa59_0 | exact Pu.fe ty_fa59_0) ?_
              refine TL.p (Pu.ld ty_sc47) ?_
              refine TL.p (Pu.ln Tryd.underlying47) ?_
              refine TL.p (by first | exact Pu.fb ty_fa59_1 | exact Pu.fe ty_fa59_1) ?_
              refine TL.p (Pu.ld ty_sc47) ?_
              refine TL.p (Pu.ln Tryd.underlying47) ?_
              refine TL.p Pu.ad ?_
              refine TL.p Pu.ge ?_
              refine TL.nil ?_
              refine TQ.thenN (hY32 _ _ ?_)
              refine TW.cond rfl (fun hc7 => ?_) (fun hc7 => ?_)
              · try simp only [decide_eq_true_eq, decide_eq_false_iff_not, Bool.not_eq_true', Bool.not_eq_false', Bool.and_eq_true, Bool.or_eq_true, Bool.and_eq_false_iff, Bool.or_eq_false_iff, Int.not_lt, Int.not_le] at hc7
                have hBq2 := (hBk.bump (x := (lsts (l (jt n 0).toNat) (v (jt n 0).toNat) 3).getD k 0) hjn.2.1 hjn.2.2) ((lsts (l (jt n 0).toNat) (v (jt n 0).toNat) 3).getD k 0).toNat (by omega)
                have hd : decide (l (jt n 0).toNat 0 + l (jt n 0).toNat 1 ≤ k) = true := by simp; omega
                refine TW.dw 16 ?_
                refine RK.tk Pu.mv ?_
                refine RK.tk Pu.mv ?_
                refine RK.tk Pu.mv ?_
                refine RK.tk (Pu.el ty_et47) ?_
                refine RK.tk (Pu.ld ty_sc3) ?_
                refine RK.tk (Pu.el (q := ((lsts (l (jt n 0).toNat) (v (jt n 0).toNat) 3).getD k 0).toNat) ty_et26 (hk := rfl)) ?_
                refine RK.tk (by first | exact Pu.fb ty_fa25_5 | exact Pu.fe ty_fa25_5) ?_
                refine RK.tk (Pu.ld ty_sc3) ?_
                refine RK.tk Pu.mv ?_
                refine RK.tk Pu.mv ?_
                refine RK.tk (Pu.el ty_et28) ?_
                refine RK.tk (by first | exact Pu.fb ty_fa44_1 | exact Pu.fe ty_fa44_1) ?_
                refine RK.tk (Pu.ld ty_sc3) ?_
                refine RK.tk Pu.ad ?_
                refine RK.tk (Pu.el (q := ((lsts (l (jt n 0).toNat) (v (jt n 0).toNat) 3).getD k 0).toNat) ty_et26 (hk := rfl)) ?_
                refine RK.tk (by first | exact Pu.fb ty_fa25_5 | exact Pu.fe ty_fa25_5) ?_
                refine RK.ch [] ?_ trivial
                refine WK.n ?_
                first | refine TL.st ty_sz3 ?_ | refine TL.se ty_sz3 ?_
                refine TL.nil ?_
                refine TQ.blkN ?_
                refine TQ.thenN (hY30 _ _ ?_)
                refine TW.region ?_
                refine TL.p Pu.mv ?_
                refine TL.p Pu.ad ?_
                refine TL.p Pu.as ?_
                refine TL.nil ?_
                refine TQ.thenN (hZ2 (k + 1) _ _ ?_ ?_ (by repeat (first | exact trivial | refine ⟨rfl, ?_⟩ | refine ⟨trivial, ?_⟩)) ?_)
                · exact ⟨by omega, (hBk.hit hjn.2.1 hjn.2.2).mono (by omega)⟩
                · exact (by first | omega | (simp only []; omega) | (simp; omega))
                · first
                    | exact KSub.own Pick.hd (fun q _ => by rw [hitK, hd]; exact bump_row (f := bump _ _ (jt n 1)) (h := jt n 1) hx0 q) (KSub.cons Pick.hd (KSub.cons Pick.hd KSub.nil))
                    | exact KSub.own Pick.hd (fun q _ => by rw [hitK, hd]; rfl) (KSub.cons Pick.hd (KSub.cons Pick.hd KSub.nil))
              · try simp only [decide_eq_true_eq, decide_eq_false_iff_not, Bool.not_eq_true', Bool.not_eq_false', Bool.and_eq_true, Bool.or_eq_true, Bool.and_eq_false_iff, Bool.or_eq_false_iff, Int.not_lt, Int.not_le] at hc7
                have hd : decide (l (jt n 0).toNat 0 + l (jt n 0).toNat 1 ≤ k) = false := by simp; omega
                refine TW.skip ?_
                refine TQ.blkN ?_
                refine TQ.thenN (hY30 _ _ ?_)
                refine TW.region ?_
                refine TL.p Pu.mv ?_
                refine TL.p Pu.ad ?_
                refine TL.p Pu.as ?_
                refine TL.nil ?_
                refine TQ.thenN (hZ2 (k + 1) _ _ ?_ ?_ (by repeat (first | exact trivial | refine ⟨rfl, ?_⟩ | refine ⟨trivial, ?_⟩)) ?_)
                · exact ⟨by omega, (hBk.hit hjn.2.1 hjn.2.2).mono (by omega)⟩
                · exact (by first | omega | (simp only []; omega) | (simp; omega))
                · first
                    | exact KSub.own Pick.hd (fun q _ => by rw [hitK, hd]; exact bump_row (f := bump _ _ (jt n 1)) (h := jt n 1) hx0 q) (KSub.cons Pick.hd (KSub.cons Pick.hd KSub.nil))
                    | exact KSub.own Pick.hd (fun q _ => by rw [hitK, hd]; rfl) (KSub.cons Pick.hd (KSub.cons Pick.hd KSub.nil))
            · try simp only [decide_eq_true_eq, decide_eq_false_iff_not, Bool.not_eq_true', Bool.not_eq_false', Bool.and_eq_true, Bool.or_eq_true, Bool.and_eq_false_iff, Bool.or_eq_false_iff, Int.not_lt, Int.not_le] at hc6
              obtain rfl : tot (l (jt n 0).toNat) 3 = k := by omega
              refine TW.exit ?_
              refine TQ.thenX ?_
              refine TQ.thenX ?_
              refine TQ.blkX ?_
              refine TQ.blkN ?_
              refine TQ.thenN (hY24 _ _ ?_)
              refine TW.region ?_
              refine TL.p Pu.mv ?_
              refine TL.p Pu.ad ?_
              refine TL.p Pu.as ?_
              refine TL.nil ?_
              refine TQ.thenN (hZ1 (n + 1) _ _ ?_ ?_ (by repeat (first | exact trivial | refine ⟨rfl, ?_⟩ | refine ⟨trivial, ?_⟩)) ?_)
              · refine ⟨by omega, ?_⟩
                rw [hitAll, ← hitK_all _ _ _ _ 3 (Nat.le_refl _)]
                exact hBk.mono (by omega)
              · exact (by first | omega | (simp only []; omega) | (simp; omega))
              · exact KSub.own Pick.hd (fun q _ => by rw [hitAll, ← hitK_all _ _ _ _ 3 (Nat.le_refl _)]) KSub.nil
          · try simp only [decide_eq_true_eq, decide_eq_false_iff_not, Bool.not_eq_true', Bool.not_eq_false', Bool.and_eq_true, Bool.or_eq_true, Bool.and_eq_false_iff, Bool.or_eq_false_iff, Int.not_lt, Int.not_le] at hc5
            obtain rfl : nj = n := by omega
            refine TW.exit ?_
            refine TQ.thenX ?_
            refine TQ.thenX ?_
            refine TQ.blkX ?_
            refine TQ.thenN (hY20 _ _ ?_)
            refine TW.seq fun Y33 hY33 => ?_
            refine TW.seq fun Y34 hY34 => ?_
            refine TW.region ?_
            refine TL.p Pu.as ?_
            refine TL.nil ?_
            refine TQ.thenN (hY34 _ _ ?_)
            refine TW.block ?_
            refine TW.loop1 (fun (q : Nat) => [(17, .int .i64 (q : Int)), (12, .slice A2 np c2), (3, .int .i64 days)]) (fun q => [.own A2 np c2 25 11 (fun i => packL (aged (hitAll pk jt l v nj) days q i))]) (fun q => q ≤ np ∧ ∀ i, i < q → hitAll pk jt l v nj i 9 ≤ 6000000 ∧ hitAll pk jt l v nj i 10 + days ≤ 100000) (fun q => np - q) 0 (by repeat (first | exact trivial | refine ⟨rfl, ?_⟩ | refine ⟨trivial, ?_⟩)) ?_ ?_ ?_
            · have e0 : aged (hitAll pk jt l v nj) days 0 = hitAll pk jt l v nj := by funext q j; simp [aged]
              rw [e0]
              exact KSub.cons (by repeat (first | exact Pick.hd | apply Pick.tl)) KSub.nil
            · exact ⟨Nat.zero_le _, fun i h => by omega⟩
            rintro q ⟨hq, hfine⟩ Z3 hZ3
            refine TW.seq fun Y35 hY35 => ?_
            refine TW.seq fun Y36 hY36 => ?_
            refine TW.region ?_
            refine TL.p Pu.mv ?_
            refine TL.p Pu.mv ?_
            refine TL.p (Pu.ln Tryd.underlying26) ?_
            refine TL.p Pu.lt ?_
            refine TL.nil ?_
            refine TQ.thenN (hY36 _ _ ?_)
            refine TW.cond rfl (fun hc8 => ?_) (fun hc8 => ?_)
            · try simp only [decide_eq_true_eq, decide_eq_false_iff_not, Bool.not_eq_true', Bool.not_eq_false', Bool.and_eq_true, Bool.or_eq_true, Bool.and_eq_false_iff, Bool.or_eq_false_iff, Int.not_lt, Int.not_le] at hc8
              have hqn : q < np := by omega
              have hBq := hBn q hqn
              have hag : aged (hitAll pk jt l v nj) days q q 10 = hitAll pk jt l v nj q 10 := by simp [aged]
              have hag2 : aged (hitAll pk jt l v nj) days (q + 1) q 10 = hitAll pk jt l v nj q 10 + days := by simp [aged]
              have hag3 : aged (hitAll pk jt l v nj) days (q + 1) q 9 = hitAll pk jt l v nj q 9 := by simp [aged]
              refine TW.skip ?_
              refine TQ.thenN (hY35 _ _ ?_)
              refine TW.seq fun Y37 hY37 => ?_
              refine TW.block ?_
              refine TW.seq fun Y38 hY38 => ?_
              refine TW.region ?_
              refine TL.p Pu.mv ?_
              refine TL.p Pu.mv ?_
              refine TL.p (Pu.el ty_et26) ?_
              refine TL.p (by first | exact Pu.fb ty_fa25_6 | exact Pu.fe ty_fa25_6) ?_
              refine TL.p (Pu.ld ty_sc3) ?_
              refine TL.p Pu.mv ?_
              refine TL.p Pu.ad ?_
              refine TL.p (Pu.el ty_et26) ?_
              refine TL.p (by first | exact Pu.fb ty_fa25_6 | exact Pu.fe ty_fa25_6) ?_
              first | refine TL.st ty_sz3 ?_ | refine TL.se ty_sz3 ?_
              refine TL.nil ?_
              refine TQ.thenN (hY38 _ _ ?_)
              refine TW.seq fun Y39 hY39 => ?_
              refine TW.region ?_
              refine TL.subK (KSub.own Pick.hd (fun i _ => aged_row i) KSub.nil) ?_
              refine TL.p Pu.mv ?_
              refine TL.p Pu.mv ?_
              refine TL.p (Pu.el ty_et26) ?_
              refine TL.p (by first | exact Pu.fb ty_fa25_5 | exact Pu.fe ty_fa25_5) ?_
              refine TL.p (Pu.ld ty_sc3) ?_
              refine TL.p Pu.gt ?_
              refine TL.p Pu.mv ?_
              refine TL.guard (t := 142) rfl (fun hg2 => ?_) (fun hg2 => ?_)
              · try simp only [decide_eq_true_eq, decide_eq_false_iff_not, Bool.not_eq_true', Bool.not_eq_false', Int.natCast_pos] at hg2
                refine TL.gs ?_
                refine TL.gs ?_
                refine TL.gs ?_
                refine TL.gs ?_
                refine TL.gs ?_
                refine TL.gs ?_
                refine TL.p Pu.kt ?_
                refine TL.nil ?_
                refine TQ.thenN (hY39 _ _ ?_)
                refine TW.condT rfl rfl ?_
                refine TW.seq fun Y40 hY40 => ?_
                refine TW.region ?_
                refine TL.p Pu.as ?_
                refine TL.p Pu.as ?_
                refine TL.nil ?_
                refine TQ.thenN (hY40 _ _ ?_)
                refine TW.ret ?_
                refine TQ.blkR ?_
                refine TQ.thenR ?_
                refine TQ.thenR ?_
                refine TQ.blkR ?_
                refine TQ.thenR ?_
                refine TQ.ret Tryd.results11 rfl ((.tmp rfl (.tmp rfl .nil))) ?_
                exact fun w hw => ref_bad (j_full hcv hdays hnj6 (allB_iff.2 hjs) hqn (by
                  rw [pack_fin hqn (hpk q hqn) hBn hdd.1, show decide (hitAll pk jt l v nj q 9 ≤ 6000000) = false by simp; omega]; rfl)) (by decide) hw
              · try simp only [decide_eq_true_eq, decide_eq_false_iff_not, Bool.not_eq_true', Bool.not_eq_false', Int.natCast_pos] at hg2
                refine TL.gd Pu.mv ?_
                refine TL.gd Pu.mv ?_
                refine TL.gd (Pu.el ty_et26) ?_
                refine TL.gd (by first | exact Pu.fb ty_fa25_6 | exact Pu.fe ty_fa25_6) ?_
                refine TL.gd (Pu.ld ty_sc3) ?_
                refine TL.gd Pu.gt ?_
                refine TL.p Pu.kf ?_
                refine TL.nil ?_
                refine TQ.thenN (hY39 _ _ ?_)
                refine TW.cond rfl (fun hc9 => ?_) (fun hc9 => ?_)
                · try simp only [decide_eq_true_eq, decide_eq_false_iff_not, Bool.not_eq_true', Bool.not_eq_false', Bool.and_eq_true, Bool.or_eq_true, Bool.and_eq_false_iff, Bool.or_eq_false_iff, Int.not_lt, Int.not_le] at hc9
                  refine TW.seq fun Y41 hY41 => ?_
                  refine TW.region ?_
                  refine TL.p Pu.as ?_
                  refine TL.p Pu.as ?_
                  refine TL.nil ?_
                  refine TQ.thenN (hY41 _ _ ?_)
                  refine TW.ret ?_
                  refine TQ.blkR ?_
                  refine TQ.thenR ?_
                  refine TQ.thenR ?_
                  refine TQ.blkR ?_
                  refine TQ.thenR ?_
                  refine TQ.ret Tryd.results11 rfl ((.tmp rfl (.tmp rfl .nil))) ?_
                  exact fun w hw => ref_bad (j_full hcv hdays hnj6 (allB_iff.2 hjs) hqn (by
                    rw [pack_fin hqn (hpk q hqn) hBn hdd.1, show decide (hitAll pk jt l v nj q 10 + days ≤ 100000) = false by simp; omega, Bool.and_false])) (by decide) hw
                · try simp only [decide_eq_true_eq, decide_eq_false_iff_not, Bool.not_eq_true', Bool.not_eq_false', Bool.and_eq_true, Bool.or_eq_true, Bool.and_eq_false_iff, Bool.or_eq_false_iff, Int.not_lt, Int.not_le] at hc9
                  refine TW.skip ?_
                  refine TQ.blkN ?_
                  refine TQ.thenN (hY37 _ _ ?_)
                  refine TW.region ?_
                  refine TL.p Pu.mv ?_
                  refine TL.p Pu.ad ?_
                  refine TL.p Pu.as ?_
                  refine TL.nil ?_
                  refine TQ.thenN (hZ3 (q + 1) _ _ ?_ ?_ (by repeat (first | exact trivial | refine ⟨rfl, ?_⟩ | refine ⟨trivial, ?_⟩)) ?_)
                  · refine ⟨by omega, fun i h => ?_⟩
                    by_cases he : i = q
                    · subst he; omega
                    · exact hfine i (by omega)
                  · exact (by first | omega | (simp only []; omega) | (simp; omega))
                  · exact (by repeat (first | exact KSub.nil | refine KSub.cons (by repeat (first | exact Pick.hd | apply Pick.tl)) ?_))
            · try simp only [decide_eq_true_eq, decide_eq_false_iff_not, Bool.not_eq_true', Bool.not_eq_false', Bool.and_eq_true, Bool.or_eq_true, Bool.and_eq_false_iff, Bool.or_eq_false_iff, Int.not_lt, Int.not_le] at hc8
              refine TW.exit ?_
              refine TQ.thenX ?_
              refine TQ.thenX ?_
              refine TQ.blkX ?_
              refine TQ.thenN (hY33 _ _ ?_)
              refine TW.seq fun Y42 hY42 => ?_
              refine TW.region ?_
              refine TL.p Pu.mv ?_
              refine TL.p Pu.as ?_
              refine TL.p Pu.as ?_
              refine TL.nil ?_
              refine TQ.thenN (hY42 _ _ ?_)
              refine TW.ret ?_
              refine TQ.ret Tryd.results11 rfl ((.tmp rfl (.tmp rfl .nil))) ?_
              exact fun w hw => by
                obtain rfl : np = q := by omega
                have h0 : jcode np pk m l v nj jt days = 0 := by
                  have h1 : allB np (fun q => packOk (finF pk jt l v np nj days q)) = true := allB_iff.2 fun i hi => by
                    have := hfine i hi
                    rw [pack_fin hi (hpk i hi) hBn hdd.1]
                    simp only [Bool.and_eq_true, decide_eq_true_eq]
                    omega
                  unfold jcode
                  rw [if_pos hcv, hdays, show decide ((nj : Int) ≤ 60) = true by simp; omega, allB_iff.2 hjs, h1]
                  rfl
                have hj : jn np pk m l v nj jt days = np := by unfold jn; rw [if_pos h0]
                refine ⟨(A2, c2), ?_, ?_⟩
                · rw [hj, h0]; rfl
                · rw [hj]; exact hw
end Go.Proofs.YtagcnokaajinlaaDoor
