/-
  camel: what an animal can carry; the reference of layer 1: whether breeds and animals are valid, how fit they are, what they can carry.
-/
import Derived.Test.YtagcnokaajinlaaDoorCamB
namespace Go.Proofs.YtagcnokaajinlaaDoor
set_option linter.all false
set_option linter.unusedVariables false
set_option linter.unusedSimpArgs false
open Go.RowKit
theorem upD_nn {a b : Int} (ha : 0 ≤ a) (hb : 0 < b) : 0 ≤ upD a b := Int.ediv_nonneg (by omega) (by omega)
theorem fit_bd {f g : Nat → Int} (hf : breedOk f = true) (hg : camOk f g = true) : 0 ≤ fitLo f g ∧ fitLo f g ≤ 1000 ∧ 0 ≤ fitHi f g ∧ fitHi f g ≤ 1000 := by
  have h1 := (breedOk_iff f).1 hf
  have h2 := (camOk_iff f g).1 hg
  have a1 : 0 ≤ 2000 * g 0 / f 0 := Int.ediv_nonneg (by omega) (by omega)
  have a2 : 0 ≤ 2000 * g 2 / f 1 := Int.ediv_nonneg (by omega) (by omega)
  have a3 : 0 ≤ upD (2000 * g 1) (f 0) := upD_nn (by omega) (by omega)
  have a4 : 0 ≤ upD (2000 * g 3) (f 1) := upD_nn (by omega) (by omega)
  unfold fitLo fitHi
  omega
def carLo (f g : Nat → Int) : Int := f 15 * fitLo f g / 1000
def carHi (f g : Nat → Int) : Int := upD (f 16 * fitHi f g) 1000
theorem camCode_ok {f g : Nat → Int} (h : camCode f g = 0) : breedOk f = true ∧ camOk f g = true := by
  unfold camCode at h
  cases h1 : breedOk f with
  | false => rw [h1] at h; simp at h
  | true =>
    cases h2 : camOk f g with
    | false => rw [h1, h2] at h; simp at h
    | true => exact ⟨rfl, rfl⟩
set_option maxRecDepth 100000 in
theorem carries1_any (f g : Nat → Int) (m : Bool) (w : World) (hf : breedOk f = true) (hg : camOk f g = true) :
    Calls Tryd.prog 82 #[.agg (beastL f g m).toArray] w (Ret w (.agg #[.int .i64 (carLo f g), .int .i64 (carHi f g)])) := by
  have h1 := (breedOk_iff f).1 hf
  have h3 := fit_bd hf hg
  have m1 : 0 ≤ f 15 * fitLo f g ∧ f 15 * fitLo f g ≤ 1000000 * 1000 := mulB (by omega) (by omega) (by omega) (by omega)
  have m2 : 0 ≤ f 16 * fitHi f g ∧ f 16 * fitHi f g ≤ 1000000 * 1000 := mulB (by omega) (by omega) (by omega) (by omega)
  have hfit := fitness_any f g m w hf hg
  unfold beastL breedL camL
  refine K_enter (S := []) (K := []) Tryd.func82 rfl Tryd.ntmps82 rfl (Sat.start _) ?_
  refine TW.seq fun Y1 hY1 => ?_
  refine TW.region ?_
  refine TL.m Mk.bx ?_
  intro b1
  refine TL.m (Mk.al ty_zr23) ?_
  intro b2
  refine TL.nil ?_
  refine TQ.thenN (hY1 _ _ ?_)
  refine TW.seq fun Y2 hY2 => ?_
  refine TW.region ?_
  refine TL.p (Pu.lds ty_ag124) ?_
  refine TL.cr rfl (enters Tryd.func94 rfl rfl) (fun w hw => by
      exact fitness_any f g m _ hf hg) ?_
  refine TL.m (Mk.al ty_zr23) ?_
  intro b3
  first | refine TL.st ty_sz23 ?_ | refine TL.se ty_sz23 ?_
  refine TL.nil ?_
  refine TQ.thenN (hY2 _ _ ?_)
  refine TW.seq fun Y3 hY3 => ?_
  refine TW.dw 17 ?_
  refine RK.tk (by first | exact Pu.fb ty_fa124_0 | exact Pu.fe ty_fa124_0) ?_
  refine RK.tk (by first | exact Pu.fb ty_fa55_9 | exact Pu.fe ty_fa55_9) ?_
  refine RK.tk (by first | exact Pu.fb ty_fa23_0 | exact Pu.fe ty_fa23_0) ?_
  refine RK.tk (Pu.ld ty_sc3) ?_
  refine RK.tk (by first | exact Pu.fb ty_fa23_0 | exact Pu.fe ty_fa23_0) ?_
  refine RK.tk (Pu.ld ty_sc3) ?_
  refine RK.tk Pu.ml ?_
  refine RK.tk Pu.qu ?_
  refine RK.tk (by first | exact Pu.fb ty_fa124_0 | exact Pu.fe ty_fa124_0) ?_
  refine RK.tk (by first | exact Pu.fb ty_fa55_9 | exact Pu.fe ty_fa55_9) ?_
  refine RK.tk (by first | exact Pu.fb ty_fa23_1 | exact Pu.fe ty_fa23_1) ?_
  refine RK.tk (Pu.ld ty_sc3) ?_
  refine RK.tk (by first | exact Pu.fb ty_fa23_1 | exact Pu.fe ty_fa23_1) ?_
  refine RK.tk (Pu.ld ty_sc3) ?_
  refine RK.tk Pu.ml ?_
  refine RK.keep ?_
  refine RK.keep ?_
  refine RK.ch [false, true] ?_ trivial
  refine WK.cr rfl (enters Tryd.func95 rfl rfl) (fun w hw => by
      exact ceil_any _ _ _ (by omega) (by omega) (by omega) (by omega)) ?_
  refine WK.p Pu.bd ?_
  refine WK.n ?_
  first | refine TL.st ty_sz23 ?_ | refine TL.se ty_sz23 ?_
  refine TL.nil ?_
  refine TQ.thenN (hY3 _ _ ?_)
  refine TW.ret ?_
  refine TQ.ret Tryd.results82 rfl ((RV.cs ty_ag23 .nil)) ?_
  exact fun w hw => Ret.of hw
def carR (f g : Nat → Int) : List Value := if camCode f g = 0 then [.agg #[.int .i64 (carLo f g), .int .i64 (carHi f g)], .int .i64 0] else [.agg #[.int .i64 0, .int .i64 0], .int .i64 (camCode f g)]
set_option maxRecDepth 100000 in
theorem carries_any (f g : Nat → Int) (m : Bool) (w : World) : Calls Tryd.prog 59 #[.agg (breedL f).toArray, .agg (camL g m).toArray] w (Ret w (.tuple (carR f g).toArray)) := by
  refine K_enter (S := []) (K := []) Tryd.func59 rfl Tryd.ntmps59 rfl (Sat.start _) ?_
  refine TW.seq fun Y1 hY1 => ?_
  refine TW.region ?_
  refine TL.m Mk.bx ?_
  intro b1
  refine TL.m Mk.bx ?_
  intro b2
  refine TL.m (Mk.al ty_zr23) ?_
  intro b3
  refine TL.p Pu.as ?_
  refine TL.nil ?_
  refine TQ.thenN (hY1 _ _ ?_)
  refine TW.seq fun Y2 hY2 => ?_
  refine TW.seq fun Y3 hY3 => ?_
  refine TW.region ?_
  refine TL.p (Pu.lds ty_ag55) ?_
  refine TL.p (Pu.lds ty_ag57) ?_
  refine TL.cr rfl (enters Tryd.func81 rfl rfl) (fun w hw => by
      exact checkCamel_any f g m _) ?_
  refine TL.p Pu.as ?_
  refine TL.nil ?_
  refine TQ.thenN (hY3 _ _ ?_)
  refine TW.seq fun Y4 hY4 => ?_
  refine TW.region ?_
  refine TL.p Pu.mv ?_
  refine TL.p Pu.ne ?_
  refine TL.nil ?_
  refine TQ.thenN (hY4 _ _ ?_)
  refine TW.cond rfl (fun hc0 => ?_) (fun hc0 => ?_)
  · try simp only [decide_eq_true_eq, decide_eq_false_iff_not, Bool.not_eq_true', Bool.not_eq_false', Bool.and_eq_true, Bool.or_eq_true, Bool.and_eq_false_iff, Bool.or_eq_false_iff, Int.not_lt, Int.not_le] at hc0
    have hbad : camCode f g ≠ 0 := hc0
    refine TW.seq fun Y5 hY5 => ?_
    refine TW.region ?_
    refine TL.p Pu.bd ?_
    refine TL.p Pu.mv ?_
    first | refine TL.st ty_sz23 ?_ | refine TL.se ty_sz23 ?_
    refine TL.p Pu.as ?_
    refine TL.nil ?_
    refine TQ.thenN (hY5 _ _ ?_)
    refine TW.ret ?_
    refine TQ.thenR ?_
    refine TQ.ret Tryd.results59 rfl ((RV.cs ty_ag23 (.tmp rfl .nil))) ?_
    exact fun w hw => ⟨by unfold carR; rw [if_neg hbad]; rfl, Chg.ext hw.chg⟩
  · try simp only [decide_eq_true_eq, decide_eq_false_iff_not, Bool.not_eq_true', Bool.not_eq_false', Bool.and_eq_true, Bool.or_eq_true, Bool.and_eq_false_iff, Bool.or_eq_false_iff, Int.not_lt, Int.not_le] at hc0
    have hgood : camCode f g = 0 := by simpa using hc0
    obtain ⟨hf, hg⟩ := camCode_ok hgood
    refine TW.skip ?_
    refine TQ.thenN (hY2 _ _ ?_)
    refine TW.seq fun Y6 hY6 => ?_
    refine TW.region ?_
    refine TL.p (Pu.lds ty_ag55) ?_
    refine TL.p (Pu.lds ty_ag57) ?_
    refine TL.p Pu.bd ?_
    refine TL.cr rfl (enters Tryd.func82 rfl rfl) (fun w hw => by
        exact carries1_any f g m _ hf hg) ?_
    first | refine TL.st ty_sz23 ?_ | refine TL.se ty_sz23 ?_
    refine TL.p Pu.as ?_
    refine TL.nil ?_
    refine TQ.thenN (hY6 _ _ ?_)
    refine TW.ret ?_
    refine TQ.ret Tryd.results59 rfl ((RV.cs ty_ag23 (.tmp rfl .nil))) ?_
    exact fun w hw => ⟨by unfold carR; rw [if_pos hgood]; first | rfl | skip, Chg.ext hw.chg⟩
/-! ### The reference -/
theorem within1_any (a lo hi : Int) (w : World) :
    Calls Tryd.prog 108 #[.int .i64 a, .int .i64 lo, .int .i64 hi] w (Ret w (.bool (inB5 lo hi a))) := by
  refine K_enter (S := []) (K := []) Tryd.func108 rfl Tryd.ntmps108 rfl (Sat.start _) ?_
  refine TW.seq fun Y1 hY1 => ?_
  refine TW.region ?_
  refine TL.p Pu.as ?_
  refine TL.nil ?_
  refine TQ.thenN (hY1 _ _ ?_)
  refine TW.seq fun Y2 hY2 => ?_
  refine TW.join [(6, .bool (inB5 lo hi a))] ?_ (fun hJ1 => ?_)
  · refine TQ.thenN (hY2 _ _ ?_)
    refine TW.ret ?_
    refine TQ.ret Tryd.results108 rfl ((.tmp rfl .nil)) ?_
    exact fun w hw => Ret.of hw
  refine TW.region ?_
  refine TL.p Pu.mv ?_
  refine TL.p Pu.mv ?_
  refine TL.p Pu.ge ?_
  refine TL.p Pu.mv ?_
  refine TL.guard (t := 10) rfl (fun hg1 => ?_) (fun hg1 => ?_)
  · refine TL.gd Pu.mv ?_
    refine TL.gd Pu.mv ?_
    refine TL.gd Pu.le ?_
    refine TL.p Pu.kt ?_
    refine TL.p Pu.as ?_
    refine TL.nil ?_
    exact TQ.sub (by repeat (first | exact trivial | refine ⟨rfl, ?_⟩ | refine ⟨trivial, ?_⟩ | refine ⟨(by show some (Value.bool _) = some (Value.bool _); simp [hg1, inB5]), ?_⟩)) (by repeat (first | exact KSub.nil | refine KSub.cons (by repeat (first | exact Pick.hd | apply Pick.tl)) ?_)) hJ1
  · refine TL.gs ?_
    refine TL.gs ?_
    refine TL.gs ?_
    refine TL.p Pu.kf ?_
    refine TL.p Pu.as ?_
    refine TL.nil ?_
    exact TQ.sub (by repeat (first | exact trivial | refine ⟨rfl, ?_⟩ | refine ⟨trivial, ?_⟩ | refine ⟨(by show some (Value.bool _) = some (Value.bool _); simp [hg1, inB5]), ?_⟩)) (by repeat (first | exact KSub.nil | refine KSub.cons (by repeat (first | exact Pick.hd | apply Pick.tl)) ?_)) hJ1
theorem spanned1_any (a b lo hi : Int) (w : World) :
    Calls Tryd.prog 109 #[.agg (spL a b).toArray, .int .i64 lo, .int .i64 hi] w (Ret w (.bool (ordB5 lo hi a b))) := by
  refine K_enter (S := []) (K := []) Tryd.func109 rfl Tryd.ntmps109 rfl (Sat.start _) ?_
  refine TW.seq fun Y1 hY1 => ?_
  refine TW.region ?_
  refine TL.m Mk.bx ?_
  intro b1
  refine TL.p Pu.as ?_
  refine TL.nil ?_
  refine TQ.thenN (hY1 _ _ ?_)
  refine TW.seq fun Y2 hY2 => ?_
  refine TW.join [(6, .bool (inB5 lo b a && decide (b ≤ hi)))] ?_ (fun hJ1 => ?_)
  · refine TQ.thenN (hY2 _ _ ?_)
    refine TW.ret ?_
    refine TQ.ret Tryd.results109 rfl ((.tmp rfl .nil)) ?_
    exact fun w hw => ⟨ret_bool (by unfold ordB5 inB5; rfl), Chg.ext hw.chg⟩
  refine TW.region ?_
  refine TL.p (by first | exact Pu.fb ty_fa23_0 | exact Pu.fe ty_fa23_0) ?_
  refine TL.p (Pu.ld ty_sc3) ?_
  refine TL.p Pu.mv ?_
  refine TL.p (by first | exact Pu.fb ty_fa23_1 | exact Pu.fe ty_fa23_1) ?_
  refine TL.p (Pu.ld ty_sc3) ?_
  refine TL.cr rfl (enters Tryd.func108 rfl rfl) (fun w hw => by
      exact within1_any _ _ _ _) ?_
  refine TL.p Pu.mv ?_
  refine TL.guard (t := 13) rfl (fun hg1 => ?_) (fun hg1 => ?_)
  · refine TL.gd (by first | exact Pu.fb ty_fa23_1 | exact Pu.fe ty_fa23_1) ?_
    refine TL.gd (Pu.ld ty_sc3) ?_
    refine TL.gd Pu.mv ?_
    refine TL.gd Pu.le ?_
    refine TL.p Pu.kt ?_
    refine TL.p Pu.as ?_
    refine TL.nil ?_
    exact TQ.sub (by repeat (first | exact trivial | refine ⟨rfl, ?_⟩ | refine ⟨trivial, ?_⟩ | refine ⟨(by show some (Value.bool _) = some (Value.bool _); simp [hg1]), ?_⟩)) (by repeat (first | exact KSub.nil | refine KSub.cons (by repeat (first | exact Pick.hd | apply Pick.tl)) ?_)) hJ1
  · refine TL.gs ?_
    refine TL.gs ?_
    refine TL.gs ?_
    refine TL.gs ?_
    refine TL.p Pu.kf ?_
    refine TL.p Pu.as ?_
    refine TL.nil ?_
    exact TQ.sub (by repeat (first | exact trivial | refine ⟨rfl, ?_⟩ | refine ⟨trivial, ?_⟩ | refine ⟨(by show some (Value.bool _) = some (Value.bool _); simp [hg1]), ?_⟩)) (by repeat (first | exact KSub.nil | refine KSub.cons (by repeat (first | exact Pick.hd | apply Pick.tl)) ?_)) hJ1
set_option maxRecDepth 100000 in
theorem refBreed_any (f : Nat → Int) (w : World) : Calls Tryd.prog 104 #[.agg (breedL f).toArray] w (Ret w (.bool (breedOk f))) := by
  refine K_enter (S := []) (K := []) Tryd.func104 rfl Tryd.ntmps104 rfl (Sat.start _) ?_
  refine TW.seq fun Y1 hY1 => ?_
  refine TW.region ?_
  refine TL.m Mk.bx ?_
  intro b1
  refine TL.p Pu.as ?_
  refine TL.nil ?_
  refine TQ.thenN (hY1 _ _ ?_)
  refine TW.seq fun Y2 hY2 => ?_
  refine TW.seq fun Y3 hY3 => ?_
  refine TW.join [(24, .bool (!(inB5 1 1000000 (f 0) && inB5 1 1000000 (f 1) && inB5 0 1000 (f 14) && ordB5 0 1000000 (f 15) (f 16))))] ?_ (fun hJ1 => ?_)
  · refine TQ.thenN (hY3 _ _ ?_)
    refine TW.cond rfl (fun hc0 => ?_) (fun hc0 => ?_)
    · try simp only [decide_eq_true_eq, decide_eq_false_iff_not, Bool.not_eq_true', Bool.not_eq_false', Bool.and_eq_true, Bool.or_eq_true, Bool.and_eq_false_iff, Bool.or_eq_false_iff, Int.not_lt, Int.not_le] at hc0
      have hbad : (inB5 1 1000000 (f 0) && inB5 1 1000000 (f 1) && inB5 0 1000 (f 14) && ordB5 0 1000000 (f 15) (f 16)) = false := by
        cases h : (inB5 1 1000000 (f 0) && inB5 1 1000000 (f 1) && inB5 0 1000 (f 14) && ordB5 0 1000000 (f 15) (f 16)) with
        | false => rfl
        | true =>
          simp only [Bool.and_eq_true] at h
          simp [h] at hc0
      refine TW.seq fun Y4 hY4 => ?_
      refine TW.region ?_
      refine TL.p Pu.as ?_
      refine TL.nil ?_
      refine TQ.thenN (hY4 _ _ ?_)
      refine TW.ret ?_
      refine TQ.thenR ?_
      refine TQ.ret Tryd.results104 rfl ((.tmp rfl .nil)) ?_
      exact fun w hw => ⟨ret_bool (by
        cases h : breedOk f with
        | false => rfl
        | true =>
          unfold breedOk at h
          simp only [Bool.and_eq_true] at h
          simp [h] at hbad), Chg.ext hw.chg⟩
    · try simp only [decide_eq_true_eq, decide_eq_false_iff_not, Bool.not_eq_true', Bool.not_eq_false', Bool.and_eq_true, Bool.or_eq_true, Bool.and_eq_false_iff, Bool.or_eq_false_iff, Int.not_lt, Int.not_le] at hc0
      have hgood : (inB5 1 1000000 (f 0) && inB5 1 1000000 (f 1) && inB5 0 1000 (f 14) && ordB5 0 1000000 (f 15) (f 16)) = true := by simpa using hc0
      refine TW.skip ?_
      refine TQ.thenN (hY2 _ _ ?_)
      refine TW.seq fun Y5 hY5 => ?_
      refine TW.join [(2, .bool (ordB5 0 100000 (f 2) (f 3) && ordB5 0 100000 (f 4) (f 5) && ordB5 0 100000 (f 6) (f 7) && ordB5 0 100000 (f 8) (f 9) && ordB5 0 100000 (f 10) (f 11) && ordB5 0 100000 (f 12) (f 13)))] ?_ (fun hJ2 => ?_)
      · refine TQ.thenN (hY5 _ _ ?_)
        refine TW.ret ?_
        refine TQ.ret Tryd.results104 rfl ((.tmp rfl .nil)) ?_
        exact fun w hw => ⟨ret_bool (by
          simp only [Bool.and_eq_true] at hgood
          unfold breedOk
          simp [hgood]), Chg.ext hw.chg⟩
      refine TW.region ?_
      refine TL.p (by first | exact Pu.fb ty_fa55_2 | exact Pu.fe ty_fa55_2) ?_
      refine TL.p (Pu.lds ty_ag23) ?_
      refine TL.cr rfl (enters Tryd.func109 rfl rfl) (fun w hw => by
          exact spanned1_any _ _ _ _ _) ?_
      refine TL.p Pu.mv ?_
      refine TL.guard (t := 28) rfl (fun hg1 => ?_) (fun hg1 => ?_)
      · refine TL.gd (by first | exact Pu.fb ty_fa55_3 | exact Pu.fe ty_fa55_3) ?_
        refine TL.gd (Pu.lds ty_ag23) ?_
        refine TL.cr rfl (enters Tryd.func109 rfl rfl) (fun w hw => by
            exact spanned1_any _ _ _ _ _) ?_
        refine TL.p Pu.kt ?_
        refine TL.p Pu.mv ?_
        refine TL.guard (t := 33) rfl (fun hg2 => ?_) (fun hg2 => ?_)
        · refine TL.gd (by first | exact Pu.fb ty_fa55_4 | exact Pu.fe ty_fa55_4) ?_
          refine TL.gd (Pu.lds ty_ag23) ?_
          refine TL.cr rfl (enters Tryd.func109 rfl rfl) (fun w hw => by
              exact spanned1_any _ _ _ _ _) ?_
          refine TL.p Pu.kt ?_
          refine TL.p Pu.mv ?_
          refine TL.guard (t := 38) rfl (fun hg3 => ?_) (fun hg3 => ?_)
          · refine TL.gd (by first | exact Pu.fb ty_fa55_5 | exact Pu.fe ty_fa55_5) ?_
            refine TL.gd (Pu.lds ty_ag23) ?_
            refine TL.cr rfl (enters Tryd.func109 rfl rfl) (fun w hw => by
                exact spanned1_any _ _ _ _ _) ?_
            refine TL.p Pu.kt ?_
            refine TL.p Pu.mv ?_
            refine TL.guard (t := 43) rfl (fun hg4 => ?_) (fun hg4 => ?_)
            · refine TL.gd (by first | exact Pu.fb ty_fa55_6 | exact Pu.fe ty_fa55_6) ?_
              refine TL.gd (Pu.lds ty_ag23) ?_
              refine TL.cr rfl (enters Tryd.func109 rfl rfl) (fun w hw => by
                  exact spanned1_any _ _ _ _ _) ?_
              refine TL.p Pu.kt ?_
              refine TL.p Pu.mv ?_
              refine TL.guard (t := 48) rfl (fun hg5 => ?_) (fun hg5 => ?_)
              · refine TL.gd (by first | exact Pu.fb ty_fa55_7 | exact Pu.fe ty_fa55_7) ?_
                refine TL.gd (Pu.lds ty_ag23) ?_
                refine TL.cr rfl (enters Tryd.func109 rfl rfl) (fun w hw => by
                    exact spanned1_any _ _ _ _ _) ?_
                refine TL.p Pu.kt ?_
                refine TL.p Pu.as ?_
                refine TL.nil ?_
                exact TQ.sub (by repeat (first | exact trivial | refine ⟨rfl, ?_⟩ | refine ⟨trivial, ?_⟩ | refine ⟨(by show some (Value.bool _) = some (Value.bool _); simp [hg1, hg2, hg3, hg4, hg5]), ?_⟩)) (by repeat (first | exact KSub.nil | refine KSub.cons (by repeat (first | exact Pick.hd | apply Pick.tl)) ?_)) hJ2
              · refine TL.gs ?_
                refine TL.gs ?_
                refine TL.gs ?_
                refine TL.p Pu.kf ?_
                refine TL.p Pu.as ?_
                refine TL.nil ?_
                exact TQ.sub (by repeat (first | exact trivial | refine ⟨rfl, ?_⟩ | refine ⟨trivial, ?_⟩ | refine ⟨(by show some (Value.bool _) = some (Value.bool _); simp [hg1, hg2, hg3, hg4, hg5]), ?_⟩)) (by repeat (first | exact KSub.nil | refine KSub.cons (by repeat (first | exact Pick.hd | apply Pick.tl)) ?_)) hJ2
            · refine TL.gs ?_
              refine TL.gs ?_
              refine TL.gs ?_
              refine TL.p Pu.kf ?_
              refine TL.p Pu.mv ?_
              refine TL.gs ?_
              refine TL.gs ?_
              refine TL.gs ?_
              refine TL.p Pu.kf ?_
              refine TL.p Pu.as ?_
              refine TL.nil ?_
              exact TQ.sub (by repeat (first | exact trivial | refine ⟨rfl, ?_⟩ | refine ⟨trivial, ?_⟩ | refine ⟨(by show some (Value.bool _) = some (Value.bool _); simp [hg1, hg2, hg3, hg4]), ?_⟩)) (by repeat (first | exact KSub.nil | refine KSub.cons (by repeat (first | exact Pick.hd | apply Pick.tl)) ?_)) hJ2
          · refine TL.gs ?_
            refine TL.gs ?_
            refine TL.gs ?_
            refine TL.p Pu.kf ?_
            refine TL.p Pu.mv ?_
            refine TL.gs ?_
            refine TL.gs ?_
            refine TL.gs ?_
            refine TL.p Pu.kf ?_
            refine TL.p Pu.mv ?_
            refine TL.gs ?_
            refine TL.gs ?_
            refine TL.gs ?_
            refine TL.p Pu.kf ?_
            refine TL.p Pu.as ?_
            refine TL.nil ?_
            exact TQ.sub (by repeat (first | exact trivial | refine ⟨rfl, ?_⟩ | refine ⟨trivial, ?_⟩ | refine ⟨(by show some (Value.bool _) = some (Value.bool _); simp [hg1, hg2, hg3]), ?_⟩)) (by repeat (first | exact KSub.nil | refine KSub.cons (by repeat (first | exact Pick.hd | apply Pick.tl)) ?_)) hJ2
        · refine TL.gs ?_
          refine TL.gs ?_
          refine TL.gs ?_
          refine TL.p Pu.kf ?_
          refine TL.p Pu.mv ?_
          refine TL.gs ?_
          refine TL.gs ?_
          refine TL.gs ?_
          refine TL.p Pu.kf ?_
          refine TL.p Pu.mv ?_
          refine TL.gs ?_
          refine TL.gs ?_
          refine TL.gs ?_
          refine TL.p Pu.kf ?_
          refine TL.p Pu.mv ?_
          refine TL.gs ?_
          refine TL.gs ?_
          refine TL.gs ?_
          refine TL.p Pu.kf ?_
          refine TL.p Pu.as ?_
          refine TL.nil ?_
          exact TQ.sub (by repeat (first | exact trivial | refine ⟨rfl, ?_⟩ | refine ⟨trivial, ?_⟩ | refine ⟨(by show some (Value.bool _) = some (Value.bool _); simp [hg1, hg2]), ?_⟩)) (by repeat (first | exact KSub.nil | refine KSub.cons (by repeat (first | exact Pick.hd | apply Pick.tl)) ?_)) hJ2
      · refine TL.gs ?_
        refine TL.gs ?_
        refine TL.gs ?_
        refine TL.p Pu.kf ?_
        refine TL.p Pu.mv ?_
        refine TL.gs ?_
        refine TL.gs ?_
        refine TL.gs ?_
        refine TL.p Pu.kf ?_
        refine TL.p Pu.mv ?_
        refine TL.gs ?_
        refine TL.gs ?_
        refine TL.gs ?_
        refine TL.p Pu.kf ?_
        refine TL.p Pu.mv ?_
        refine TL.gs ?_
        refine TL.gs ?_
        refine TL.gs ?_
        refine TL.p Pu.kf ?_
        refine TL.p Pu.mv ?_
        refine TL.gs ?_
        refine TL.gs ?_
        refine TL.gs ?_
        refine TL.p Pu.kf ?_
        refine TL.p Pu.as ?_
        refine TL.nil ?_
        exact TQ.sub (by repeat (first | exact trivial | refine ⟨rfl, ?_⟩ | refine ⟨trivial, ?_⟩ | refine ⟨(by show some (Value.bool _) = some (Value.bool _); simp [hg1]), ?_⟩)) (by repeat (first | exact KSub.nil | refine KSub.cons (by repeat (first | exact Pick.hd | apply Pick.tl)) ?_)) hJ2
  refine TW.region ?_
  refine TL.p (by first | exact Pu.fb ty_fa55_0 | exact Pu.fe ty_fa55_0) ?_
  refine TL.p (Pu.ld ty_sc3) ?_
  refine TL.cr rfl (enters Tryd.func108 rfl rfl) (fun w hw => by
      exact within1_any _ _ _ _) ?_
  refine TL.p Pu.no ?_
  refine TL.p Pu.mv ?_
  refine TL.guard (t := 7) rfl (fun hg6 => ?_) (fun hg6 => ?_)
  · refine TL.gs ?_
    refine TL.gs ?_
    refine TL.gs ?_
    refine TL.gs ?_
    refine TL.p Pu.kt ?_
    refine TL.p Pu.mv ?_
    refine TL.gs ?_
    refine TL.gs ?_
    refine TL.gs ?_
    refine TL.gs ?_
    refine TL.p Pu.kt ?_
    refine TL.p Pu.mv ?_
    refine TL.gs ?_
    refine TL.gs ?_
    refine TL.gs ?_
    refine TL.gs ?_
    refine TL.p Pu.kt ?_
    refine TL.nil ?_
    exact TQ.sub (by repeat (first | exact trivial | refine ⟨rfl, ?_⟩ | refine ⟨trivial, ?_⟩ | refine ⟨(by show some (Value.bool _) = some (Value.bool _); simp [hg6]), ?_⟩)) (by repeat (first | exact KSub.nil | refine KSub.cons (by repeat (first | exact Pick.hd | apply Pick.tl)) ?_)) hJ1
  · refine TL.gd (by first | exact Pu.fb ty_fa55_1 | exact Pu.fe ty_fa55_1) ?_
    refine TL.gd (Pu.ld ty_sc3) ?_
    refine TL.cr rfl (enters Tryd.func108 rfl rfl) (fun w hw => by
        exact within1_any _ _ _ _) ?_
    refine TL.gd Pu.no ?_
    refine TL.p Pu.kf ?_
    refine TL.p Pu.mv ?_
    refine TL.guard (t := 13) rfl (fun hg7 => ?_) (fun hg7 => ?_)
    · refine TL.gs ?_
      refine TL.gs ?_
      refine TL.gs ?_
      refine TL.gs ?_
      refine TL.p Pu.kt ?_
      refine TL.p Pu.mv ?_
      refine TL.gs ?_
      refine TL.gs ?_
      refine TL.gs ?_
      refine TL.gs ?_
      refine TL.p Pu.kt ?_
      refine TL.nil ?_
      exact TQ.sub (by repeat (first | exact trivial | refine ⟨rfl, ?_⟩ | refine ⟨trivial, ?_⟩ | refine ⟨(by show some (Value.bool _) = some (Value.bool _); simp [hg6, hg7]), ?_⟩)) (by repeat (first | exact KSub.nil | refine KSub.cons (by repeat (first | exact Pick.hd | apply Pick.tl)) ?_)) hJ1
    · refine TL.gd (by first | exact Pu.fb ty_fa55_8 | exact Pu.fe ty_fa55_8) ?_
      refine TL.gd (Pu.ld ty_sc3) ?_
      refine TL.cr rfl (enters Tryd.func108 rfl rfl) (fun w hw => by
          exact within1_any _ _ _ _) ?_
      refine TL.gd Pu.no ?_
      refine TL.p Pu.kf ?_
      refine TL.p Pu.mv ?_
      refine TL.guard (t := 19) rfl (fun hg8 => ?_) (fun hg8 => ?_)
      · refine TL.gs ?_
        refine TL.gs ?_
        refine TL.gs ?_
        refine TL.gs ?_
        refine TL.p Pu.kt ?_
        refine TL.nil ?_
        exact TQ.sub (by repeat (first | exact trivial | refine ⟨rfl, ?_⟩ | refine ⟨trivial, ?_⟩ | refine ⟨(by show some (Value.bool _) = some (Value.bool _); simp [hg6, hg7, hg8]), ?_⟩)) (by repeat (first | exact KSub.nil | refine KSub.cons (by repeat (first | exact Pick.hd | apply Pick.tl)) ?_)) hJ1
      · refine TL.gd (by first | exact Pu.fb ty_fa55_9 | exact Pu.fe ty_fa55_9) ?_
        refine TL.gd (Pu.lds ty_ag23) ?_
        refine TL.cr rfl (enters Tryd.func109 rfl rfl) (fun w hw => by
            exact spanned1_any _ _ _ _ _) ?_
        refine TL.gd Pu.no ?_
        refine TL.p Pu.kf ?_
        refine TL.nil ?_
        exact TQ.sub (by repeat (first | exact trivial | refine ⟨rfl, ?_⟩ | refine ⟨trivial, ?_⟩ | refine ⟨(by show some (Value.bool _) = some (Value.bool _); simp [hg6, hg7, hg8]), ?_⟩)) (by repeat (first | exact KSub.nil | refine KSub.cons (by repeat (first | exact Pick.hd | apply Pick.tl)) ?_)) hJ1
set_option maxRecDepth 100000 in
theorem refCamel_any (f g : Nat → Int) (m : Bool) (w : World) : Calls Tryd.prog 105 #[.agg (breedL f).toArray, .agg (camL g m).toArray] w (Ret w (.bool (camOk f g))) := by
  refine K_enter (S := []) (K := []) Tryd.func105 rfl Tryd.ntmps105 rfl (Sat.start _) ?_
  refine TW.seq fun Y1 hY1 => ?_
  refine TW.region ?_
  refine TL.m Mk.bx ?_
  intro b1
  refine TL.m Mk.bx ?_
  intro b2
  refine TL.p Pu.as ?_
  refine TL.nil ?_
  refine TQ.thenN (hY1 _ _ ?_)
  refine TW.seq fun Y2 hY2 => ?_
  refine TW.join [(4, .bool (camOk f g))] ?_ (fun hJ1 => ?_)
  · refine TQ.thenN (hY2 _ _ ?_)
    refine TW.ret ?_
    refine TQ.ret Tryd.results105 rfl ((.tmp rfl .nil)) ?_
    exact fun w hw => Ret.of hw
  refine TW.region ?_
  refine TL.p (by first | exact Pu.fb ty_fa57_0 | exact Pu.fe ty_fa57_0) ?_
  refine TL.p (Pu.lds ty_ag23) ?_
  refine TL.p (by first | exact Pu.fb ty_fa55_0 | exact Pu.fe ty_fa55_0) ?_
  refine TL.p (Pu.ld ty_sc3) ?_
  refine TL.cr rfl (enters Tryd.func109 rfl rfl) (fun w hw => by
      exact spanned1_any _ _ _ _ _) ?_
  refine TL.p Pu.mv ?_
  refine TL.guard (t := 10) rfl (fun hg1 => ?_) (fun hg1 => ?_)
  · refine TL.gd (by first | exact Pu.fb ty_fa57_1 | exact Pu.fe ty_fa57_1) ?_
    refine TL.gd (Pu.lds ty_ag23) ?_
    refine TL.gd (by first | exact Pu.fb ty_fa55_1 | exact Pu.fe ty_fa55_1) ?_
    refine TL.gd (Pu.ld ty_sc3) ?_
    refine TL.cr rfl (enters Tryd.func109 rfl rfl) (fun w hw => by
        exact spanned1_any _ _ _ _ _) ?_
    refine TL.p Pu.kt ?_
    refine TL.p Pu.mv ?_
    refine TL.guard (t := 17) rfl (fun hg2 => ?_) (fun hg2 => ?_)
    · refine TL.gd (by first | exact Pu.fb ty_fa57_2 | exact Pu.fe ty_fa57_2) ?_
      refine TL.gd (Pu.lds ty_ag23) ?_
      refine TL.cr rfl (enters Tryd.func109 rfl rfl) (fun w hw => by
          exact spanned1_any _ _ _ _ _) ?_
      refine TL.p Pu.kt ?_
      refine TL.p Pu.as ?_
      refine TL.nil ?_
      exact TQ.sub (by repeat (first | exact trivial | refine ⟨rfl, ?_⟩ | refine ⟨trivial, ?_⟩ | refine ⟨(by show some (Value.bool _) = some (Value.bool _); simp [hg1, hg2, camOk]), ?_⟩)) (by repeat (first | exact KSub.nil | refine KSub.cons (by repeat (first | exact Pick.hd | apply Pick.tl)) ?_)) hJ1
    · refine TL.gs ?_
      refine TL.gs ?_
      refine TL.gs ?_
      refine TL.p Pu.kf ?_
      refine TL.p Pu.as ?_
      refine TL.nil ?_
      exact TQ.sub (by repeat (first | exact trivial | refine ⟨rfl, ?_⟩ | refine ⟨trivial, ?_⟩ | refine ⟨(by show some (Value.bool _) = some (Value.bool _); simp [hg1, hg2, camOk]), ?_⟩)) (by repeat (first | exact KSub.nil | refine KSub.cons (by repeat (first | exact Pick.hd | apply Pick.tl)) ?_)) hJ1
  · refine TL.gs ?_
    refine TL.gs ?_
    refine TL.gs ?_
    refine TL.gs ?_
    refine TL.gs ?_
    refine TL.p Pu.kf ?_
    refine TL.p Pu.mv ?_
    refine TL.gs ?_
    refine TL.gs ?_
    refine TL.gs ?_
    refine TL.p Pu.kf ?_
    refine TL.p Pu.as ?_
    refine TL.nil ?_
    exact TQ.sub (by repeat (first | exact trivial | refine ⟨rfl, ?_⟩ | refine ⟨trivial, ?_⟩ | refine ⟨(by show some (Value.bool _) = some (Value.bool _); simp [hg1, camOk]), ?_⟩)) (by repeat (first | exact KSub.nil | refine KSub.cons (by repeat (first | exact Pick.hd | apply Pick.tl)) ?_)) hJ1
set_option maxRecDepth 100000 in
theorem refCheckCamel_any (f g : Nat → Int) (m : Bool) (w : World) : Calls Tryd.prog 96 #[.agg (breedL f).toArray, .agg (camL g m).toArray] w (Ret w (.int .i64 (camCode f g))) := by
  refine K_enter (S := []) (K := []) Tryd.func96 rfl Tryd.ntmps96 rfl (Sat.start _) ?_
  refine TW.seq fun Y1 hY1 => ?_
  refine TW.region ?_
  refine TL.m Mk.bx ?_
  intro b1
  refine TL.m Mk.bx ?_
  intro b2
  refine TL.p Pu.as ?_
  refine TL.nil ?_
  refine TQ.thenN (hY1 _ _ ?_)
  refine TW.seq fun Y2 hY2 => ?_
  refine TW.seq fun Y3 hY3 => ?_
  refine TW.region ?_
  refine TL.p (Pu.lds ty_ag55) ?_
  refine TL.cr rfl (enters Tryd.func104 rfl rfl) (fun w hw => by
      exact refBreed_any f _) ?_
  refine TL.p Pu.no ?_
  refine TL.nil ?_
  refine TQ.thenN (hY3 _ _ ?_)
  refine TW.cond rfl (fun hc0 => ?_) (fun hc0 => ?_)
  · try simp only [decide_eq_true_eq, decide_eq_false_iff_not, Bool.not_eq_true', Bool.not_eq_false', Bool.and_eq_true, Bool.or_eq_true, Bool.and_eq_false_iff, Bool.or_eq_false_iff, Int.not_lt, Int.not_le] at hc0
    refine TW.seq fun Y4 hY4 => ?_
    refine TW.region ?_
    refine TL.p Pu.as ?_
    refine TL.nil ?_
    refine TQ.thenN (hY4 _ _ ?_)
    refine TW.ret ?_
    refine TQ.thenR ?_
    refine TQ.ret Tryd.results96 rfl ((.tmp rfl .nil)) ?_
    exact fun w hw => ⟨ret_int (by unfold camCode; rw [hc0]; rfl), Chg.ext hw.chg⟩
  · try simp only [decide_eq_true_eq, decide_eq_false_iff_not, Bool.not_eq_true', Bool.not_eq_false', Bool.and_eq_true, Bool.or_eq_true, Bool.and_eq_false_iff, Bool.or_eq_false_iff, Int.not_lt, Int.not_le] at hc0
    refine TW.skip ?_
    refine TQ.thenN (hY2 _ _ ?_)
    refine TW.seq fun Y5 hY5 => ?_
    refine TW.seq fun Y6 hY6 => ?_
    refine TW.region ?_
    refine TL.p (Pu.lds ty_ag55) ?_
    refine TL.p (Pu.lds ty_ag57) ?_
    refine TL.cr rfl (enters Tryd.func105 rfl rfl) (fun w hw => by
        exact refCamel_any f g m _) ?_
    refine TL.p Pu.no ?_
    refine TL.nil ?_
    refine TQ.thenN (hY6 _ _ ?_)
    refine TW.cond rfl (fun hc1 => ?_) (fun hc1 => ?_)
    · try simp only [decide_eq_true_eq, decide_eq_false_iff_not, Bool.not_eq_true', Bool.not_eq_false', Bool.and_eq_true, Bool.or_eq_true, Bool.and_eq_false_iff, Bool.or_eq_false_iff, Int.not_lt, Int.not_le] at hc1
      refine TW.seq fun Y7 hY7 => ?_
      refine TW.region ?_
      refine TL.p Pu.as ?_
      refine TL.nil ?_
      refine TQ.thenN (hY7 _ _ ?_)
      refine TW.ret ?_
      refine TQ.thenR ?_
      refine TQ.ret Tryd.results96 rfl ((.tmp rfl .nil)) ?_
      exact fun w hw => ⟨ret_int (by unfold camCode; rw [hc0, hc1]; rfl), Chg.ext hw.chg⟩
    · try simp only [decide_eq_true_eq, decide_eq_false_iff_not, Bool.not_eq_true', Bool.not_eq_false', Bool.and_eq_true, Bool.or_eq_true, Bool.and_eq_false_iff, Bool.or_eq_false_iff, Int.not_lt, Int.not_le] at hc1
      refine TW.skip ?_
      refine TQ.thenN (hY5 _ _ ?_)
      refine TW.seq fun Y8 hY8 => ?_
      refine TW.region ?_
      refine TL.p Pu.as ?_
      refine TL.nil ?_
      refine TQ.thenN (hY8 _ _ ?_)
      refine TW.ret ?_
      refine TQ.ret Tryd.results96 rfl ((.tmp rfl .nil)) ?_
      exact fun w hw => ⟨ret_int (by unfold camCode; rw [hc0, hc1]; rfl), Chg.ext hw.chg⟩
theorem up1_any (a b : Int) (w : World) (ha : 0 ≤ a) (ha2 : a ≤ 1000000000000000) (hb : 0 < b) (hb2 : b ≤ 1000000000000) : Calls Tryd.prog 84 #[.int .i64 a, .int .i64 b] w (Ret w (.int .i64 (upD a b))) := by
  refine K_enter (S := []) (K := []) Tryd.func84 rfl Tryd.ntmps84 rfl (Sat.start _) ?_
  refine TW.seq fun Y1 hY1 => ?_
  refine TW.region ?_
  refine TL.p Pu.as ?_
  refine TL.nil ?_
  refine TQ.thenN (hY1 _ _ ?_)
  refine TW.seq fun Y2 hY2 => ?_
  refine TW.region ?_
  refine TL.p Pu.mv ?_
  refine TL.p Pu.mv ?_
  refine TL.p Pu.ad ?_
  refine TL.p Pu.sb ?_
  refine TL.p Pu.mv ?_
  refine TL.p Pu.qu ?_
  refine TL.p Pu.as ?_
  refine TL.nil ?_
  refine TQ.thenN (hY2 _ _ ?_)
  refine TW.ret ?_
  refine TQ.ret Tryd.results84 rfl ((.tmp rfl .nil)) ?_
  exact fun w hw => Ret.of hw
section
variable {c : Cx} {F : Fr} {K : List Fact} {d : Option Tmp} {ty : TypeId} {pos : String} {af : Array Edge} {g : Option (Nat × Bool)} {k : IntKind} {i j m n : Int} {x y z u : Operand}
theorem Pu.m4 {ts : Array TypeId} (hx : ev F x = some (.int k i) := by rfl) (hy : ev F y = some (.int k j) := by rfl) (hz : ev F z = some (.int k m) := by rfl) (hu : ev F u = some (.int k n) := by rfl) : Pu c F K ⟨d, .call { callee := .builtin .min, args := #[x, y, z, u], argTypes := ts }, ty, pos, af, g⟩ (.int k (Min.min (Min.min (Min.min i j) m) n)) := fun a w hF _ => by
  have e : ∀ i j : Int, (if j < i then j else i) = Min.min i j := fun i j => by simp only [Int.min_def]; split <;> split <;> omega
  simp [execOp, resolve, invoke, builtin, Builtin.min_, Builtin.min2, hF.evl hx, hF.evl hy, hF.evl hz, hF.evl hu]
  simp [e]
end
set_option maxRecDepth 100000 in
theorem refFitness_any (f g : Nat → Int) (m : Bool) (w : World) (hf : breedOk f = true) (hg : camOk f g = true) :
    Calls Tryd.prog 97 #[.agg (breedL f).toArray, .agg (camL g m).toArray] w (Ret w (.agg #[.int .i64 (fitLo f g), .int .i64 (fitHi f g)])) := by
  have h1 := (breedOk_iff f).1 hf
  have h2 := (camOk_iff f g).1 hg
  refine K_enter (S := []) (K := []) Tryd.func97 rfl Tryd.ntmps97 rfl (Sat.start _) ?_
  refine TW.seq fun Y1 hY1 => ?_
  refine TW.region ?_
  refine TL.m Mk.bx ?_
  intro b1
  refine TL.m Mk.bx ?_
  intro b2
  refine TL.m (Mk.al ty_zr23) ?_
  intro b3
  refine TL.nil ?_
  refine TQ.thenN (hY1 _ _ ?_)
  refine TW.seq fun Y2 hY2 => ?_
  refine TW.dw 39 ?_
  refine RK.tk (by first | exact Pu.fb ty_fa57_0 | exact Pu.fe ty_fa57_0) ?_
  refine RK.tk (by first | exact Pu.fb ty_fa23_0 | exact Pu.fe ty_fa23_0) ?_
  refine RK.tk (Pu.ld ty_sc3) ?_
  refine RK.tk Pu.ml ?_
  refine RK.tk (by first | exact Pu.fb ty_fa55_0 | exact Pu.fe ty_fa55_0) ?_
  refine RK.tk (Pu.ld ty_sc3) ?_
  refine RK.tk Pu.qu ?_
  refine RK.tk (by first | exact Pu.fb ty_fa57_1 | exact Pu.fe ty_fa57_1) ?_
  refine RK.tk (by first | exact Pu.fb ty_fa23_0 | exact Pu.fe ty_fa23_0) ?_
  refine RK.tk (Pu.ld ty_sc3) ?_
  refine RK.tk Pu.ml ?_
  refine RK.tk (by first | exact Pu.fb ty_fa55_1 | exact Pu.fe ty_fa55_1) ?_
  refine RK.tk (Pu.ld ty_sc3) ?_
  refine RK.tk Pu.qu ?_
  refine RK.tk (by first | exact Pu.fb ty_fa57_2 | exact Pu.fe ty_fa57_2) ?_
  refine RK.tk (by first | exact Pu.fb ty_fa23_1 | exact Pu.fe ty_fa23_1) ?_
  refine RK.tk (Pu.ld ty_sc3) ?_
  refine RK.tk Pu.sb ?_
  refine RK.tk Pu.m4 ?_
  refine RK.tk (by first | exact Pu.fb ty_fa57_0 | exact Pu.fe ty_fa57_0) ?_
  refine RK.tk (by first | exact Pu.fb ty_fa23_1 | exact Pu.fe ty_fa23_1) ?_
  refine RK.tk (Pu.ld ty_sc3) ?_
  refine RK.tk Pu.ml ?_
  refine RK.tk (by first | exact Pu.fb ty_fa55_0 | exact Pu.fe ty_fa55_0) ?_
  refine RK.tk (Pu.ld ty_sc3) ?_
  refine RK.keep ?_
  refine RK.tk (by first | exact Pu.fb ty_fa57_1 | exact Pu.fe ty_fa57_1) ?_
  refine RK.tk (by first | exact Pu.fb ty_fa23_1 | exact Pu.fe ty_fa23_1) ?_
  refine RK.tk (Pu.ld ty_sc3) ?_
  refine RK.tk Pu.ml ?_
  refine RK.tk (by first | exact Pu.fb ty_fa55_1 | exact Pu.fe ty_fa55_1) ?_
  refine RK.tk (Pu.ld ty_sc3) ?_
  refine RK.keep ?_
  refine RK.tk (by first | exact Pu.fb ty_fa57_2 | exact Pu.fe ty_fa57_2) ?_
  refine RK.tk (by first | exact Pu.fb ty_fa23_0 | exact Pu.fe ty_fa23_0) ?_
  refine RK.tk (Pu.ld ty_sc3) ?_
  refine RK.tk Pu.sb ?_
  refine RK.keep ?_
  refine RK.keep ?_
  refine RK.ch [false, false, true, true] ?_ trivial
  refine WK.cr rfl (enters Tryd.func84 rfl rfl) (fun w hw => by
      exact up1_any _ _ _ (by omega) (by omega) (by omega) (by omega)) ?_
  refine WK.cr rfl (enters Tryd.func84 rfl rfl) (fun w hw => by
      exact up1_any _ _ _ (by omega) (by omega) (by omega) (by omega)) ?_
  refine WK.p Pu.m4 ?_
  refine WK.p Pu.bd ?_
  refine WK.n ?_
  first | refine TL.st ty_sz23 ?_ | refine TL.se ty_sz23 ?_
  refine TL.nil ?_
  refine TQ.thenN (hY2 _ _ ?_)
  refine TW.ret ?_
  refine TQ.ret Tryd.results97 rfl ((RV.cs ty_ag23 .nil)) ?_
  exact fun w hw => ⟨by unfold fitLo fitHi; simp only [retV, Int.min_assoc], Chg.ext hw.chg⟩
set_option maxRecDepth 100000 in
theorem refFitness2_any (f g : Nat → Int) (m : Bool) (w : World) :
    Calls Tryd.prog 83 #[.agg (breedL f).toArray, .agg (camL g m).toArray] w (Ret w (.tuple (if camCode f g = 0 then [.agg #[.int .i64 (fitLo f g), .int .i64 (fitHi f g)], .int .i64 0] else [.agg #[.int .i64 0, .int .i64 0], .int .i64 (camCode f g)] : List Value).toArray)) := by
  refine K_enter (S := []) (K := []) Tryd.func83 rfl Tryd.ntmps83 rfl (Sat.start _) ?_
  refine TW.seq fun Y1 hY1 => ?_
  refine TW.region ?_
  refine TL.m Mk.bx ?_
  intro b1
  refine TL.m Mk.bx ?_
  intro b2
  refine TL.m (Mk.al ty_zr23) ?_
  intro b3
  refine TL.p Pu.as ?_
  refine TL.nil ?_
  refine TQ.thenN (hY1 _ _ ?_)
  refine TW.seq fun Y2 hY2 => ?_
  refine TW.seq fun Y3 hY3 => ?_
  refine TW.region ?_
  refine TL.p (Pu.lds ty_ag55) ?_
  refine TL.p (Pu.lds ty_ag57) ?_
  refine TL.cr rfl (enters Tryd.func96 rfl rfl) (fun w hw => by
      exact refCheckCamel_any f g m _) ?_
  refine TL.p Pu.as ?_
  refine TL.nil ?_
  refine TQ.thenN (hY3 _ _ ?_)
  refine TW.seq fun Y4 hY4 => ?_
  refine TW.region ?_
  refine TL.p Pu.mv ?_
  refine TL.p Pu.ne ?_
  refine TL.nil ?_
  refine TQ.thenN (hY4 _ _ ?_)
  refine TW.cond rfl (fun hc0 => ?_) (fun hc0 => ?_)
  · try simp only [decide_eq_true_eq, decide_eq_false_iff_not, Bool.not_eq_true', Bool.not_eq_false', Bool.and_eq_true, Bool.or_eq_true, Bool.and_eq_false_iff, Bool.or_eq_false_iff, Int.not_lt, Int.not_le] at hc0
    have hbad : camCode f g ≠ 0 := hc0
    refine TW.seq fun Y5 hY5 => ?_
    refine TW.region ?_
    refine TL.p Pu.bd ?_
    refine TL.p Pu.mv ?_
    first | refine TL.st ty_sz23 ?_ | refine TL.se ty_sz23 ?_
    refine TL.p Pu.as ?_
    refine TL.nil ?_
    refine TQ.thenN (hY5 _ _ ?_)
    refine TW.ret ?_
    refine TQ.thenR ?_
    refine TQ.ret Tryd.results83 rfl ((RV.cs ty_ag23 (.tmp rfl .nil))) ?_
    exact fun w hw => ⟨by rw [if_neg hbad]; rfl, Chg.ext hw.chg⟩
  · try simp only [decide_eq_true_eq, decide_eq_false_iff_not, Bool.not_eq_true', Bool.not_eq_false', Bool.and_eq_true, Bool.or_eq_true, Bool.and_eq_false_iff, Bool.or_eq_false_iff, Int.not_lt, Int.not_le] at hc0
    have hgood : camCode f g = 0 := by simpa using hc0
    obtain ⟨hf, hg⟩ := camCode_ok hgood
    refine TW.skip ?_
    refine TQ.thenN (hY2 _ _ ?_)
    refine TW.seq fun Y6 hY6 => ?_
    refine TW.region ?_
    refine TL.p (Pu.lds ty_ag55) ?_
    refine TL.p (Pu.lds ty_ag57) ?_
    refine TL.cr rfl (enters Tryd.func97 rfl rfl) (fun w hw => by
        exact refFitness_any f g m _ hf hg) ?_
    first | refine TL.st ty_sz23 ?_ | refine TL.se ty_sz23 ?_
    refine TL.p Pu.as ?_
    refine TL.nil ?_
    refine TQ.thenN (hY6 _ _ ?_)
    refine TW.ret ?_
    refine TQ.ret Tryd.results83 rfl ((RV.cs ty_ag23 (.tmp rfl .nil))) ?_
    exact fun w hw => ⟨by rw [if_pos hgood]; rfl, Chg.ext hw.chg⟩
set_option maxRecDepth 100000 in
theorem refCarries_no (f g : Nat → Int) (m : Bool) (w : World) (h : camCode f g ≠ 0) : Calls Tryd.prog 60 #[.agg (breedL f).toArray, .agg (camL g m).toArray] w (Ret w (.tuple (carR f g).toArray)) := by
  refine K_enter (S := []) (K := []) Tryd.func60 rfl Tryd.ntmps60 rfl (Sat.start _) ?_
  refine TW.seq fun Y1 hY1 => ?_
  refine TW.region ?_
  refine TL.m Mk.bx ?_
  intro b1
  refine TL.m Mk.bx ?_
  intro b2
  refine TL.m (Mk.al ty_zr23) ?_
  intro b3
  refine TL.p Pu.as ?_
  refine TL.nil ?_
  refine TQ.thenN (hY1 _ _ ?_)
  refine TW.seq fun Y2 hY2 => ?_
  refine TW.region ?_
  refine TL.p (Pu.lds ty_ag55) ?_
  refine TL.p (Pu.lds ty_ag57) ?_
  refine TL.cr rfl (enters Tryd.func83 rfl rfl) (fun w hw => by
      have h9 := refFitness2_any f g m w
      rw [if_neg h] at h9
      exact h9) ?_
  refine TL.p Pu.mv ?_
  refine TL.p Pu.ex ?_
  refine TL.p Pu.ex ?_
  refine TL.m (Mk.al ty_zr23) ?_
  intro b4
  first | refine TL.st ty_sz23 ?_ | refine TL.se ty_sz23 ?_
  refine TL.p Pu.as ?_
  refine TL.nil ?_
  refine TQ.thenN (hY2 _ _ ?_)
  refine TW.seq fun Y3 hY3 => ?_
  refine TW.seq fun Y4 hY4 => ?_
  refine TW.region ?_
  refine TL.p Pu.mv ?_
  refine TL.p Pu.ne ?_
  refine TL.nil ?_
  refine TQ.thenN (hY4 _ _ ?_)
  refine TW.condT rfl ((by simp [h])) ?_
  refine TW.seq fun Y5 hY5 => ?_
  refine TW.region ?_
  refine TL.p Pu.bd ?_
  refine TL.p Pu.mv ?_
  first | refine TL.st ty_sz23 ?_ | refine TL.se ty_sz23 ?_
  refine TL.p Pu.as ?_
  refine TL.nil ?_
  refine TQ.thenN (hY5 _ _ ?_)
  refine TW.ret ?_
  refine TQ.thenR ?_
  refine TQ.ret Tryd.results60 rfl ((RV.cs ty_ag23 (.tmp rfl .nil))) ?_
  exact fun w hw => ⟨by unfold carR; rw [if_neg h]; rfl, Chg.ext hw.chg⟩
set_option maxRecDepth 100000 in
theorem refCarries_yes (f g : Nat → Int) (m : Bool) (w : World) (h : camCode f g = 0) : Calls Tryd.prog 60 #[.agg (breedL f).toArray, .agg (camL g m).toArray] w (Ret w (.tuple (carR f g).toArray)) := by
  obtain ⟨hf, hg⟩ := camCode_ok h
  have h1 := (breedOk_iff f).1 hf
  have h3 := fit_bd hf hg
  have m1 : 0 ≤ f 15 * fitLo f g ∧ f 15 * fitLo f g ≤ 1000000 * 1000 := mulB (by omega) (by omega) (by omega) (by omega)
  have m2 : 0 ≤ f 16 * fitHi f g ∧ f 16 * fitHi f g ≤ 1000000 * 1000 := mulB (by omega) (by omega) (by omega) (by omega)
  refine K_enter (S := []) (K := []) Tryd.func60 rfl Tryd.ntmps60 rfl (Sat.start _) ?_
  refine TW.seq fun Y1 hY1 => ?_
  refine TW.region ?_
  refine TL.m Mk.bx ?_
  intro b1
  refine TL.m Mk.bx ?_
  intro b2
  refine TL.m (Mk.al ty_zr23) ?_
  intro b3
  refine TL.p Pu.as ?_
  refine TL.nil ?_
  refine TQ.thenN (hY1 _ _ ?_)
  refine TW.seq fun Y2 hY2 => ?_
  refine TW.region ?_
  refine TL.p (Pu.lds ty_ag55) ?_
  refine TL.p (Pu.lds ty_ag57) ?_
  refine TL.cr rfl (enters Tryd.func83 rfl rfl) (fun w hw => by
      have h9 := refFitness2_any f g m w
      rw [if_pos h] at h9
      exact h9) ?_
  refine TL.p Pu.mv ?_
  refine TL.p Pu.ex ?_
  refine TL.p Pu.ex ?_
  refine TL.m (Mk.al ty_zr23) ?_
  intro b4
  first | refine TL.st ty_sz23 ?_ | refine TL.se ty_sz23 ?_
  refine TL.p Pu.as ?_
  refine TL.nil ?_
  refine TQ.thenN (hY2 _ _ ?_)
  refine TW.seq fun Y3 hY3 => ?_
  refine TW.seq fun Y4 hY4 => ?_
  refine TW.region ?_
  refine TL.p Pu.mv ?_
  refine TL.p Pu.ne ?_
  refine TL.nil ?_
  refine TQ.thenN (hY4 _ _ ?_)
  refine TW.condF rfl (rfl) ?_
  refine TW.skip ?_
  refine TQ.thenN (hY3 _ _ ?_)
  refine TW.seq fun Y5 hY5 => ?_
  refine TW.dw 15 ?_
  refine RK.tk (by first | exact Pu.fb ty_fa55_9 | exact Pu.fe ty_fa55_9) ?_
  refine RK.tk (by first | exact Pu.fb ty_fa23_0 | exact Pu.fe ty_fa23_0) ?_
  refine RK.tk (Pu.ld ty_sc3) ?_
  refine RK.tk (by first | exact Pu.fb ty_fa23_0 | exact Pu.fe ty_fa23_0) ?_
  refine RK.tk (Pu.ld ty_sc3) ?_
  refine RK.tk Pu.ml ?_
  refine RK.tk Pu.qu ?_
  refine RK.tk (by first | exact Pu.fb ty_fa55_9 | exact Pu.fe ty_fa55_9) ?_
  refine RK.tk (by first | exact Pu.fb ty_fa23_1 | exact Pu.fe ty_fa23_1) ?_
  refine RK.tk (Pu.ld ty_sc3) ?_
  refine RK.tk (by first | exact Pu.fb ty_fa23_1 | exact Pu.fe ty_fa23_1) ?_
  refine RK.tk (Pu.ld ty_sc3) ?_
  refine RK.tk Pu.ml ?_
  refine RK.keep ?_
  refine RK.keep ?_
  refine RK.ch [false, true] ?_ trivial
  refine WK.cr rfl (enters Tryd.func84 rfl rfl) (fun w hw => by
      exact up1_any _ _ _ (by omega) (by omega) (by omega) (by omega)) ?_
  refine WK.p Pu.bd ?_
  refine WK.n ?_
  first | refine TL.st ty_sz23 ?_ | refine TL.se ty_sz23 ?_
  refine TL.p Pu.as ?_
  refine TL.nil ?_
  refine TQ.thenN (hY5 _ _ ?_)
  refine TW.ret ?_
  refine TQ.ret Tryd.results60 rfl ((RV.cs ty_ag23 (.tmp rfl .nil))) ?_
  exact fun w hw => ⟨by unfold carR; rw [if_pos h]; rfl, Chg.ext hw.chg⟩
theorem refCarries_any (f g : Nat → Int) (m : Bool) (w : World) : Calls Tryd.prog 60 #[.agg (breedL f).toArray, .agg (camL g m).toArray] w (Ret w (.tuple (carR f g).toArray)) := by
  by_cases h : camCode f g = 0
  · exact refCarries_yes f g m w h
  · exact refCarries_no f g m w h
end Go.Proofs.YtagcnokaajinlaaDoor
