/-
  The holder of a leg on a day: toll's and the reference's.
-/
import Derived.Test.YtckiagbllkdfdaaTollF
namespace Go.Proofs.Ytckiagbllkdfdaa
set_option linter.all false
set_option linter.unusedVariables false
set_option linter.unusedSimpArgs false
open Go.RowKit
theorem KSub.val {K K' L : List Fact} {b : Nat} {E : TypeId} {k : IntKind} {i j : Int} (hp : Pick K (.blk b E [.int k i]) K') (e : i = j) (h : KSub K' L) : KSub K (.blk b E [.int k j] :: L) := by
  subst e; exact .cons hp h
def cmpV (a b : Int) : Int := if a < b then -1 else if b < a then 1 else 0
/-- Whether claim x goes before claim y. -/
def lexB (x y : (Nat → Int) × Bool) : Bool := decide (x.1 2 < y.1 2) || (decide (x.1 2 = y.1 2) && decide (x.1 1 < y.1 1))
def olderB (x : (Nat → Int) × Bool) (m : Int) (c : Nat → (Nat → Int) × Bool) : Bool := decide (m < 0) || lexB x (c m.toNat)
def hitB (leg day : Int) (x : (Nat → Int) × Bool) : Bool := decide (x.1 0 = leg) && inB5 (x.1 2) (x.1 3) day
/-- The holder among the first claims. -/
def hb (leg day : Int) (c : Nat → (Nat → Int) × Bool) : Nat → Int
  | 0 => -1
  | k + 1 => if (hitB leg day (c k) && olderB (c k) (hb leg day c k) c) = true then (k : Int) else hb leg day c k
theorem hb_bd {leg day : Int} {c : Nat → (Nat → Int) × Bool} : ∀ k, -1 ≤ hb leg day c k ∧ hb leg day c k < k
  | 0 => by simp [hb]
  | k + 1 => by
    have := hb_bd (leg := leg) (day := day) (c := c) k
    simp only [hb]
    split <;> omega
theorem isNaN_any (a : Int) (w : World) : Calls Try.prog 51 #[.int .i64 a] w (Ret w (.bool false)) := by
  refine K_enter (S := []) (K := []) Try.func51 rfl Try.ntmps51 rfl (Sat.start _) ?_
  refine TW.seq fun Y1 hY1 => ?_
  refine TW.region ?_
  refine TL.p Pu.as ?_
  refine TL.nil ?_
  refine TQ.thenN (hY1 _ _ ?_)
  refine TW.seq fun Y2 hY2 => ?_
  refine TW.region ?_
  refine TL.p Pu.mv ?_
  refine TL.p Pu.mv ?_
  refine TL.p Pu.ne ?_
  refine TL.p Pu.as ?_
  refine TL.nil ?_
  refine TQ.thenN (hY2 _ _ ?_)
  refine TW.ret ?_
  refine TQ.ret Try.results51 rfl ((.tmp rfl .nil)) ?_
  exact fun w hw => ⟨ret_bool (by simp), Chg.ext hw.chg⟩
theorem compare_any (a b : Int) (w : World) : Calls Try.prog 35 #[.int .i64 a, .int .i64 b] w (Ret w (.int .i64 (cmpV a b))) := by
  refine K_enter (S := []) (K := []) Try.func35 rfl Try.ntmps35 rfl (Sat.start _) ?_
  refine TW.seq fun Y1 hY1 => ?_
  refine TW.region ?_
  refine TL.p Pu.as ?_
  refine TL.nil ?_
  refine TQ.thenN (hY1 _ _ ?_)
  refine TW.seq fun Y2 hY2 => ?_
  refine TW.region ?_
  refine TL.p Pu.mv ?_
  refine TL.cr rfl (enters Try.func51 rfl rfl) (fun w hw => by
      exact isNaN_any _ _) ?_
  refine TL.p Pu.as ?_
  refine TL.nil ?_
  refine TQ.thenN (hY2 _ _ ?_)
  refine TW.seq fun Y3 hY3 => ?_
  refine TW.region ?_
  refine TL.p Pu.mv ?_
  refine TL.cr rfl (enters Try.func51 rfl rfl) (fun w hw => by
      exact isNaN_any _ _) ?_
  refine TL.p Pu.as ?_
  refine TL.nil ?_
  refine TQ.thenN (hY3 _ _ ?_)
  refine TW.seq fun Y4 hY4 => ?_
  refine TW.seq fun Y5 hY5 => ?_
  refine TW.region ?_
  refine TL.p Pu.mv ?_
  refine TL.nil ?_
  refine TQ.thenN (hY5 _ _ ?_)
  refine TW.condF rfl rfl ?_
  refine TW.skip ?_
  refine TQ.thenN (hY4 _ _ ?_)
  refine TW.seq fun Y6 hY6 => ?_
  refine TW.seq fun Y7 hY7 => ?_
  refine TW.region ?_
  refine TL.p Pu.mv ?_
  refine TL.nil ?_
  refine TQ.thenN (hY7 _ _ ?_)
  refine TW.condF rfl rfl ?_
  refine TW.skip ?_
  refine TQ.thenN (hY6 _ _ ?_)
  refine TW.seq fun Y8 hY8 => ?_
  refine TW.seq fun Y9 hY9 => ?_
  refine TW.region ?_
  refine TL.p Pu.mv ?_
  refine TL.p Pu.mv ?_
  refine TL.p Pu.lt ?_
  refine TL.nil ?_
  refine TQ.thenN (hY9 _ _ ?_)
  refine TW.cond rfl (fun hc3 => ?_) (fun hc3 => ?_)
  · try simp only [decide_eq_true_eq, decide_eq_false_iff_not, Bool.not_eq_true', Bool.not_eq_false', Bool.and_eq_true, Bool.or_eq_true, Bool.and_eq_false_iff, Bool.or_eq_false_iff, Int.not_lt, Int.not_le] at hc3
    have h1 : a < b := by omega
    refine TW.seq fun Y10 hY10 => ?_
    refine TW.region ?_
    refine TL.p Pu.as ?_
    refine TL.nil ?_
    refine TQ.thenN (hY10 _ _ ?_)
    refine TW.ret ?_
    refine TQ.thenR ?_
    refine TQ.ret Try.results35 rfl ((.tmp rfl .nil)) ?_
    exact fun w hw => ⟨ret_int (by unfold cmpV; rw [if_pos h1]), Chg.ext hw.chg⟩
  · try simp only [decide_eq_true_eq, decide_eq_false_iff_not, Bool.not_eq_true', Bool.not_eq_false', Bool.and_eq_true, Bool.or_eq_true, Bool.and_eq_false_iff, Bool.or_eq_false_iff, Int.not_lt, Int.not_le] at hc3
    have h1 : ¬ a < b := by omega
    refine TW.skip ?_
    refine TQ.thenN (hY8 _ _ ?_)
    refine TW.seq fun Y11 hY11 => ?_
    refine TW.seq fun Y12 hY12 => ?_
    refine TW.region ?_
    refine TL.p Pu.mv ?_
    refine TL.p Pu.mv ?_
    refine TL.p Pu.gt ?_
    refine TL.nil ?_
    refine TQ.thenN (hY12 _ _ ?_)
    refine TW.cond rfl (fun hc4 => ?_) (fun hc4 => ?_)
    · try simp only [decide_eq_true_eq, decide_eq_false_iff_not, Bool.not_eq_true', Bool.not_eq_false', Bool.and_eq_true, Bool.or_eq_true, Bool.and_eq_false_iff, Bool.or_eq_false_iff, Int.not_lt, Int.not_le] at hc4
      have h2 : b < a := by omega
      refine TW.seq fun Y13 hY13 => ?_
      refine TW.region ?_
      refine TL.p Pu.as ?_
      refine TL.nil ?_
      refine TQ.thenN (hY13 _ _ ?_)
      refine TW.ret ?_
      refine TQ.thenR ?_
      refine TQ.ret Try.results35 rfl ((.tmp rfl .nil)) ?_
      exact fun w hw => ⟨ret_int (by unfold cmpV; rw [if_neg h1, if_pos h2]), Chg.ext hw.chg⟩
    · try simp only [decide_eq_true_eq, decide_eq_false_iff_not, Bool.not_eq_true', Bool.not_eq_false', Bool.and_eq_true, Bool.or_eq_true, Bool.and_eq_false_iff, Bool.or_eq_false_iff, Int.not_lt, Int.not_le] at hc4
      have h2 : ¬ b < a := by omega
      refine TW.skip ?_
      refine TQ.thenN (hY11 _ _ ?_)
      refine TW.seq fun Y14 hY14 => ?_
      refine TW.region ?_
      refine TL.p Pu.as ?_
      refine TL.nil ?_
      refine TQ.thenN (hY14 _ _ ?_)
      refine TW.ret ?_
      refine TQ.ret Try.results35 rfl ((.tmp rfl .nil)) ?_
      exact fun w hw => ⟨ret_int (by unfold cmpV; rw [if_neg h1, if_neg h2]), Chg.ext hw.chg⟩
theorem or_any {A : Option Addr} {cp : Nat} {v : Nat → Int} {w : World} (hR : RdR w 1 A 2 (fun k => [.int .i64 (v k)])) : Calls Try.prog 34 #[.slice A 2 cp] w (Ret w (.int .i64 (if v 0 = 0 then v 1 else v 0))) := by
  refine K_enter (S := []) (K := []) Try.func34 rfl Try.ntmps34 rfl (Sat.start _) ?_
  refine TW.seq fun Y1 hY1 => ?_
  refine TW.region ?_
  refine TL.p Pu.as ?_
  refine TL.nil ?_
  refine TQ.thenN (hY1 _ _ ?_)
  refine TW.seq fun Y2 hY2 => ?_
  refine TW.region ?_
  refine TL.p Pu.as ?_
  refine TL.nil ?_
  refine TQ.thenN (hY2 _ _ ?_)
  refine TW.seq fun Y3 hY3 => ?_
  refine TW.seq fun Y4 hY4 => ?_
  refine TW.region ?_
  refine TL.p Pu.mv ?_
  refine TL.p (Pu.ln Try.underlying32) ?_
  refine TL.p Pu.mv ?_
  refine TL.nil ?_
  refine TQ.thenN (hY4 _ _ ?_)
  refine TW.block ?_
  refine TW.loop1 (fun (k : Nat) => [(8, .int .i64 (k : Int)), (7, .int .i64 2), (6, .slice A 2 cp), (3, .int .i64 0)]) (fun k => []) (fun k => k ≤ 2 ∧ ∀ j, j < k → v j = 0) (fun k => 2 - k) 0 (by repeat (first | exact trivial | refine ⟨rfl, ?_⟩ | refine ⟨trivial, ?_⟩)) ?_ ?_ ?_
  · exact (by repeat (first | exact KSub.nil | refine KSub.cons (by repeat (first | exact Pick.hd | apply Pick.tl)) ?_))
  · exact ⟨Nat.zero_le _, fun j hj => by omega⟩
  rintro k ⟨hk, hall⟩ Z0 hZ0
  refine TW.seq fun Y5 hY5 => ?_
  refine TW.region ?_
  refine TL.p Pu.lt ?_
  refine TL.nil ?_
  refine TQ.thenN (hY5 _ _ ?_)
  refine TW.seq fun Y6 hY6 => ?_
  refine TW.cond rfl (fun hc0 => ?_) (fun hc0 => ?_)
  · try simp only [decide_eq_true_eq, decide_eq_false_iff_not, Bool.not_eq_true', Bool.not_eq_false', Bool.and_eq_true, Bool.or_eq_true, Bool.and_eq_false_iff, Bool.or_eq_false_iff, Int.not_lt, Int.not_le] at hc0
    have hkn : k < 2 := by omega
    refine TW.skip ?_
    refine TQ.thenN (hY6 _ _ ?_)
    refine TW.seq fun Y7 hY7 => ?_
    refine TW.block ?_
    refine TW.seq fun Y8 hY8 => ?_
    refine TW.region ?_
    refine TL.p (Pu.el ty_et32) ?_
    refine TL.p (Pu.ld ty_sc3) ?_
    refine TL.p Pu.as ?_
    refine TL.nil ?_
    refine TQ.thenN (hY8 _ _ ?_)
    refine TW.seq fun Y9 hY9 => ?_
    refine TW.region ?_
    refine TL.p Pu.mv ?_
    refine TL.p Pu.mv ?_
    refine TL.p Pu.ne ?_
    refine TL.nil ?_
    refine TQ.thenN (hY9 _ _ ?_)
    refine TW.cond rfl (fun hc1 => ?_) (fun hc1 => ?_)
    · try simp only [decide_eq_true_eq, decide_eq_false_iff_not, Bool.not_eq_true', Bool.not_eq_false', Bool.and_eq_true, Bool.or_eq_true, Bool.and_eq_false_iff, Bool.or_eq_false_iff, Int.not_lt, Int.not_le] at hc1
      have hv : v k ≠ 0 := by simpa using hc1
      refine TW.seq fun Y10 hY10 => ?_
      refine TW.region ?_
      refine TL.p Pu.mv ?_
      refine TL.p Pu.as ?_
      refine TL.nil ?_
      refine TQ.thenN (hY10 _ _ ?_)
      refine TW.ret ?_
      refine TQ.blkR ?_
      refine TQ.thenR ?_
      refine TQ.thenR ?_
      refine TQ.blkR ?_
      refine TQ.thenR ?_
      refine TQ.ret Try.results34 rfl ((.tmp rfl .nil)) ?_
      exact fun w hw => ⟨ret_int (by
        have : k = 0 ∨ k = 1 := by omega
        rcases this with rfl | rfl
        · rw [if_neg hv]
        · rw [if_pos (hall 0 (by omega))]), Chg.ext hw.chg⟩
    · try simp only [decide_eq_true_eq, decide_eq_false_iff_not, Bool.not_eq_true', Bool.not_eq_false', Bool.and_eq_true, Bool.or_eq_true, Bool.and_eq_false_iff, Bool.or_eq_false_iff, Int.not_lt, Int.not_le] at hc1
      have hv : v k = 0 := by simpa using hc1
      refine TW.skip ?_
      refine TQ.blkN ?_
      refine TQ.thenN (hY7 _ _ ?_)
      refine TW.region ?_
      refine TL.p Pu.ad ?_
      refine TL.p Pu.mv ?_
      refine TL.nil ?_
      refine TQ.thenN (hZ0 (k + 1) _ _ ?_ ?_ (by repeat (first | exact trivial | refine ⟨rfl, ?_⟩ | refine ⟨trivial, ?_⟩)) ?_)
      · refine ⟨by omega, fun j hj => ?_⟩
        by_cases h : j = k
        · subst h; exact hv
        · exact hall j (by omega)
      · exact (by first | omega | (simp only []; omega) | (simp; omega))
      · exact (by repeat (first | exact KSub.nil | refine KSub.cons (by repeat (first | exact Pick.hd | apply Pick.tl)) ?_))
  · try simp only [decide_eq_true_eq, decide_eq_false_iff_not, Bool.not_eq_true', Bool.not_eq_false', Bool.and_eq_true, Bool.or_eq_true, Bool.and_eq_false_iff, Bool.or_eq_false_iff, Int.not_lt, Int.not_le] at hc0
    have hkn : k = 2 := by omega
    refine TW.exit ?_
    refine TQ.thenX ?_
    refine TQ.thenX ?_
    refine TQ.blkX ?_
    refine TQ.thenN (hY3 _ _ ?_)
    refine TW.seq fun Y11 hY11 => ?_
    refine TW.region ?_
    refine TL.p Pu.mv ?_
    refine TL.p Pu.as ?_
    refine TL.nil ?_
    refine TQ.thenN (hY11 _ _ ?_)
    refine TW.ret ?_
    refine TQ.ret Try.results34 rfl ((.tmp rfl .nil)) ?_
    exact fun w hw => ⟨ret_int (by rw [if_pos (hall 0 (by omega)), hall 1 (by omega)]), Chg.ext hw.chg⟩
theorem lex_or (x y : (Nat → Int) × Bool) : decide ((if cmpV (x.1 2) (y.1 2) = 0 then cmpV (x.1 1) (y.1 1) else cmpV (x.1 2) (y.1 2)) < 0) = lexB x y := by
  unfold lexB cmpV
  rw [Bool.eq_iff_iff]
  simp only [Bool.or_eq_true, Bool.and_eq_true, decide_eq_true_eq]
  repeat' split
  all_goals omega
theorem older_any {C D B : Option Addr} {nc cc nd cd nb cb b b' : Nat} {c : Nat → (Nat → Int) × Bool} (x : (Nat → Int) × Bool) (m : Int) (w : World) (hm : -1 ≤ m ∧ m < nc) (hn : nc ≤ 1000) (hR : RdR w 7 C nc (fun k => claimL (c k)))
    (h1 : OldB w b [.int .i64 m]) (h2 : OldB w b' (custL C nc cc D nd cd B nb cb)) :
    Calls Try.prog 33 #[.agg (claimL x).toArray, .pointer (some ⟨b, 0, none⟩), .pointer (some ⟨b', 0, none⟩)] w (Ret w (.bool (olderB x m c))) := by
  unfold custL at h2
  refine K_enter (S := []) (K := []) Try.func33 rfl Try.ntmps33 rfl (Sat.start _) ?_
  refine TW.seq fun Y1 hY1 => ?_
  refine TW.region ?_
  refine TL.m Mk.bx ?_
  intro b1
  refine TL.p Pu.as ?_
  refine TL.nil ?_
  refine TQ.thenN (hY1 _ _ ?_)
  refine TW.seq fun Y2 hY2 => ?_
  refine TW.seq fun Y3 hY3 => ?_
  refine TW.region ?_
  refine TL.p (by first | exact (Pu.ld ty_sc3) | exact (Pu.ldo ty_sc3)) ?_
  refine TL.p Pu.lt ?_
  refine TL.nil ?_
  refine TQ.thenN (hY3 _ _ ?_)
  refine TW.cond rfl (fun hc0 => ?_) (fun hc0 => ?_)
  · try simp only [decide_eq_true_eq, decide_eq_false_iff_not, Bool.not_eq_true', Bool.not_eq_false', Bool.and_eq_true, Bool.or_eq_true, Bool.and_eq_false_iff, Bool.or_eq_false_iff, Int.not_lt, Int.not_le] at hc0
    have hm0 : m < 0 := by omega
    refine TW.seq fun Y4 hY4 => ?_
    refine TW.region ?_
    refine TL.p Pu.as ?_
    refine TL.nil ?_
    refine TQ.thenN (hY4 _ _ ?_)
    refine TW.ret ?_
    refine TQ.thenR ?_
    refine TQ.ret Try.results33 rfl ((.tmp rfl .nil)) ?_
    exact fun w hw => ⟨ret_bool (by unfold olderB; simp [hm0]), Chg.ext hw.chg⟩
  · try simp only [decide_eq_true_eq, decide_eq_false_iff_not, Bool.not_eq_true', Bool.not_eq_false', Bool.and_eq_true, Bool.or_eq_true, Bool.and_eq_false_iff, Bool.or_eq_false_iff, Int.not_lt, Int.not_le] at hc0
    have hm0 : ¬ m < 0 := by omega
    refine TW.skip ?_
    refine TQ.thenN (hY2 _ _ ?_)
    refine TW.seq fun Y5 hY5 => ?_
    refine TW.region ?_
    refine TL.p (by first | exact Pu.fb ty_fa30_0 | exact Pu.fe ty_fa30_0) ?_
    refine TL.p (by first | exact (Pu.ld ty_sc26) | exact (Pu.ldo ty_sc26)) ?_
    refine TL.p (by first | exact (Pu.ld ty_sc3) | exact (Pu.ldo ty_sc3)) ?_
    refine TL.p (Pu.el (q := m.toNat) ty_et26 (hk := rfl)) ?_
    refine TL.p (by first | exact (Pu.lds ty_ag62) | exact (Pu.ldso ty_ag62)) ?_
    refine TL.m (Mk.al ty_zr62) ?_
    intro b2
    first | refine TL.st ty_sz62 ?_ | refine TL.se ty_sz62 ?_
    refine TL.nil ?_
    refine TQ.thenN (hY5 _ _ ?_)
    refine TW.seq fun Y6 hY6 => ?_
    refine TW.dw 14 ?_
    refine RK.tk (by first | exact Pu.fb ty_fa62_2 | exact Pu.fe ty_fa62_2) ?_
    refine RK.tk (by first | exact (Pu.ld ty_sc3) | exact (Pu.ldo ty_sc3)) ?_
    refine RK.tk (by first | exact Pu.fb ty_fa62_2 | exact Pu.fe ty_fa62_2) ?_
    refine RK.tk (by first | exact (Pu.ld ty_sc3) | exact (Pu.ldo ty_sc3)) ?_
    refine RK.keep ?_
    refine RK.tk (by first | exact Pu.fb ty_fa62_1 | exact Pu.fe ty_fa62_1) ?_
    refine RK.tk (by first | exact (Pu.ld ty_sc3) | exact (Pu.ldo ty_sc3)) ?_
    refine RK.tk (by first | exact Pu.fb ty_fa62_1 | exact Pu.fe ty_fa62_1) ?_
    refine RK.tk (by first | exact (Pu.ld ty_sc3) | exact (Pu.ldo ty_sc3)) ?_
    refine RK.keep ?_
    refine RK.keep ?_
    refine RK.keep ?_
    refine RK.keep ?_
    refine RK.keep ?_
    refine RK.ch [false, false, false, false, true, true] ?_ trivial
    refine WK.cr rfl (enters Try.func35 rfl rfl) (fun w hw => by
        exact compare_any _ _ _) ?_
    refine WK.cr rfl (enters Try.func35 rfl rfl) (fun w hw => by
        exact compare_any _ _ _) ?_
    refine WK.m Mk.bl ?_
    intro b3
    refine WK.cr rfl (enters Try.func34 rfl rfl) (fun w hw => by
        exact or_any (v := fun k => if k = 0 then cmpV (x.1 2) ((c m.toNat).1 2) else cmpV (x.1 1) ((c m.toNat).1 1)) (RdR.blk (hw.holds (.blk _ 3 [.int .i64 (cmpV (x.1 2) ((c m.toNat).1 2)), .int .i64 (cmpV (x.1 1) ((c m.toNat).1 1))]) (List.mem_cons_self ..)) rfl (fun _ _ => rfl))) ?_
    refine WK.p Pu.lt ?_
    refine WK.p Pu.as ?_
    refine WK.n ?_
    refine TL.nil ?_
    refine TQ.thenN (hY6 _ _ ?_)
    refine TW.ret ?_
    refine TQ.ret Try.results33 rfl ((.tmp rfl .nil)) ?_
    exact fun w hw => ⟨ret_bool (by unfold olderB; rw [← lex_or]; simp [hm0]), Chg.ext hw.chg⟩
end Go.Proofs.Ytckiagbllkdfdaa
