/-
  What toll and the reference answer: the holder of a leg; lists of pairs that are the same.
-/
import Derived.Test.YtckiagbllkdfdaaTollH
import Derived.ChangeKeysEq
namespace Go.Proofs.Ytckiagbllkdfdaa
set_option linter.all false
set_option linter.unusedVariables false
set_option linter.unusedSimpArgs false
open Go.RowKit
def holdA (e : Int) (nl : Nat) (leg day h : Int) : Int := if e = 0 then (if (inB5 0 ((nl : Int) - 1) leg && inB5 0 100000 day) = true then h else 0) else 0
def holdE (e : Int) (nl : Nat) (leg day : Int) : Int := if e = 0 then (if (inB5 0 ((nl : Int) - 1) leg && inB5 0 100000 day) = true then 0 else 2) else e
theorem ret_two {a b a' b' : Int} (h1 : a = a') (h2 : b = b') : Ending.returned (.tuple #[.int .i64 a, .int .i64 b]) = .returned (.tuple #[.int .i64 a', .int .i64 b']) := by rw [h1, h2]
theorem tollHolder_any {W A C D B : Option Addr} {nw cw nl cl nc cc nd cd nb cb : Nat} {f : Nat → Nat → Int} {x : Nat → Leg} {g : Nat → Nat → Nat → Int} {c : Nat → (Nat → Int) × Bool} {d b : Nat → Nat → Int} {w : World} (leg day : Int) (h : LandIn w W nw A nl f x g) (k : CustIn w C nc D nd B nb c d b) :
    Calls Try.prog 7 #[.agg (landL W nw cw A nl cl).toArray, .agg (custL C nc cc D nd cd B nb cb).toArray, .int .i64 leg, .int .i64 day] w (Ret w (.tuple #[.int .i64 (holdA (checkC nw nl f x g nc nd nb c d b) nl leg day (hb leg day c nc)), .int .i64 (holdE (checkC nw nl f x g nc nd nb c d b) nl leg day)])) := by
  have hnl := h.hnl
  unfold landL custL
  refine K_enter (S := []) (K := []) Try.func7 rfl Try.ntmps7 rfl (Sat.start _) ?_
  refine TW.seq fun Y1 hY1 => ?_
  refine TW.region ?_
  refine TL.m Mk.bx ?_
  intro b1
  refine TL.m Mk.bx ?_
  intro b2
  refine TL.p Pu.as ?_
  refine TL.p Pu.as ?_
  refine TL.nil ?_
  refine TQ.thenN (hY1 _ _ ?_)
  refine TW.seq fun Y2 hY2 => ?_
  refine TW.seq fun Y3 hY3 => ?_
  refine TW.region ?_
  refine TL.p (Pu.lds ty_ag25) ?_
  refine TL.p (Pu.lds ty_ag30) ?_
  refine TL.cr rfl (enters Try.func11 rfl rfl) (fun w hw => by
      exact tollCheck_any (h.ext (Chg.ext hw.chg)) (k.ext (Chg.ext hw.chg))) ?_
  refine TL.p Pu.as ?_
  refine TL.nil ?_
  refine TQ.thenN (hY3 _ _ ?_)
  refine TW.seq fun Y4 hY4 => ?_
  refine TW.region ?_
  refine TL.p Pu.mv ?_
  refine TL.p Pu.ne ?_
  refine TL.nil ?_
  refine TQ.thenN (hY4 _ _ ?_)
  refine TW.cond rfl (fun hc0 => ?_) (fun hc0 => ?_)
  · try simp only [decide_eq_true_eq, decide_eq_false_iff_not, Bool.not_eq_true', Bool.not_eq_false', Bool.and_eq_true, Bool.or_eq_true, Bool.and_eq_false_iff, Bool.or_eq_false_iff, Int.not_lt, Int.not_le] at hc0
    have he : checkC nw nl f x g nc nd nb c d b ≠ 0 := by simpa using hc0
    refine TW.seq fun Y5 hY5 => ?_
    refine TW.region ?_
    refine TL.p Pu.mv ?_
    refine TL.p Pu.as ?_
    refine TL.p Pu.as ?_
    refine TL.nil ?_
    refine TQ.thenN (hY5 _ _ ?_)
    refine TW.ret ?_
    refine TQ.thenR ?_
    refine TQ.ret Try.results7 rfl ((.tmp rfl (.tmp rfl .nil))) ?_
    exact fun w hw => ⟨ret_two (by unfold holdA; rw [if_neg he]) (by unfold holdE; rw [if_neg he]), Chg.ext hw.chg⟩
  · try simp only [decide_eq_true_eq, decide_eq_false_iff_not, Bool.not_eq_true', Bool.not_eq_false', Bool.and_eq_true, Bool.or_eq_true, Bool.and_eq_false_iff, Bool.or_eq_false_iff, Int.not_lt, Int.not_le] at hc0
    have he : checkC nw nl f x g nc nd nb c d b = 0 := by simpa using hc0
    refine TW.skip ?_
    refine TQ.thenN (hY2 _ _ ?_)
    refine TW.seq fun Y6 hY6 => ?_
    refine TW.seq fun Y7 hY7 => ?_
    refine TW.join [(28, .bool (!(inB5 0 ((nl : Int) - 1) leg && inB5 0 100000 day)))] ?_ (fun hJ1 => ?_)
    · refine TQ.thenN (hY7 _ _ ?_)
      refine TW.cond rfl (fun hc1 => ?_) (fun hc1 => ?_)
      · try simp only [decide_eq_true_eq, decide_eq_false_iff_not, Bool.not_eq_true', Bool.not_eq_false', Bool.and_eq_true, Bool.or_eq_true, Bool.and_eq_false_iff, Bool.or_eq_false_iff, Int.not_lt, Int.not_le] at hc1
        have hi : ¬ (inB5 0 ((nl : Int) - 1) leg && inB5 0 100000 day) = true := by
          intro hh
          rw [Bool.and_eq_true] at hh
          simp [hh.1, hh.2] at hc1
        refine TW.seq fun Y8 hY8 => ?_
        refine TW.region ?_
        refine TL.p Pu.as ?_
        refine TL.p Pu.as ?_
        refine TL.nil ?_
        refine TQ.thenN (hY8 _ _ ?_)
        refine TW.ret ?_
        refine TQ.thenR ?_
        refine TQ.ret Try.results7 rfl ((.tmp rfl (.tmp rfl .nil))) ?_
        exact fun w hw => ⟨ret_two (by unfold holdA; rw [if_pos he, if_neg hi]) (by unfold holdE; rw [if_pos he, if_neg hi]), Chg.ext hw.chg⟩
      · try simp only [decide_eq_true_eq, decide_eq_false_iff_not, Bool.not_eq_true', Bool.not_eq_false', Bool.and_eq_true, Bool.or_eq_true, Bool.and_eq_false_iff, Bool.or_eq_false_iff, Int.not_lt, Int.not_le] at hc1
        have hi : (inB5 0 ((nl : Int) - 1) leg && inB5 0 100000 day) = true := by rw [Bool.and_eq_true]; exact hc1
        refine TW.skip ?_
        refine TQ.thenN (hY6 _ _ ?_)
        refine TW.seq fun Y9 hY9 => ?_
        refine TW.region ?_
        refine TL.p (Pu.lds ty_ag30) ?_
        refine TL.p Pu.mv ?_
        refine TL.p Pu.mv ?_
        refine TL.cr rfl (enters Try.func18 rfl rfl) (fun w hw => by
            exact holder_any _ _ _ k.hnc (k.hC.sat hw Apart.nil)) ?_
        refine TL.p Pu.as ?_
        refine TL.p Pu.as ?_
        refine TL.nil ?_
        refine TQ.thenN (hY9 _ _ ?_)
        refine TW.ret ?_
        refine TQ.ret Try.results7 rfl ((.tmp rfl (.tmp rfl .nil))) ?_
        exact fun w hw => ⟨ret_two (by unfold holdA; rw [if_pos he, if_pos hi]) (by unfold holdE; rw [if_pos he, if_pos hi]), Chg.ext hw.chg⟩
    refine TW.region ?_
    refine TL.p Pu.mv ?_
    refine TL.p (by first | exact Pu.fb ty_fa25_1 | exact Pu.fe ty_fa25_1) ?_
    refine TL.p (Pu.ld ty_sc23) ?_
    refine TL.p (Pu.ln Try.underlying23) ?_
    refine TL.p Pu.sb ?_
    refine TL.cr rfl (enters Try.func17 rfl rfl) (fun w hw => by
        exact in_any _ _ _ _) ?_
    refine TL.p Pu.no ?_
    refine TL.p Pu.mv ?_
    refine TL.guard (t := 24) rfl (fun hg1 => ?_) (fun hg1 => ?_)
    · refine TL.gs ?_
      refine TL.gs ?_
      refine TL.gs ?_
      refine TL.p Pu.kt ?_
      refine TL.nil ?_
      exact TQ.sub (by repeat (first | exact trivial | refine ⟨rfl, ?_⟩ | refine ⟨trivial, ?_⟩ | refine ⟨(by show some (Value.bool _) = some (Value.bool _); simp [hg1]), ?_⟩)) (by repeat (first | exact KSub.nil | refine KSub.cons (by repeat (first | exact Pick.hd | apply Pick.tl)) ?_)) hJ1
    · refine TL.gd Pu.mv ?_
      refine TL.cr rfl (enters Try.func17 rfl rfl) (fun w hw => by
          exact in_any _ _ _ _) ?_
      refine TL.gd Pu.no ?_
      refine TL.p Pu.kf ?_
      refine TL.nil ?_
      exact TQ.sub (by repeat (first | exact trivial | refine ⟨rfl, ?_⟩ | refine ⟨trivial, ?_⟩ | refine ⟨(by show some (Value.bool _) = some (Value.bool _); simp [hg1]), ?_⟩)) (by repeat (first | exact KSub.nil | refine KSub.cons (by repeat (first | exact Pick.hd | apply Pick.tl)) ?_)) hJ1
theorem refHolder_any {W A C D B : Option Addr} {nw cw nl cl nc cc nd cd nb cb : Nat} {f : Nat → Nat → Int} {x : Nat → Leg} {g : Nat → Nat → Nat → Int} {c : Nat → (Nat → Int) × Bool} {d b : Nat → Nat → Int} {w : World} (leg day : Int) (h : LandIn w W nw A nl f x g) (k : CustIn w C nc D nd B nb c d b) :
    Calls Try.prog 8 #[.agg (landL W nw cw A nl cl).toArray, .agg (custL C nc cc D nd cd B nb cb).toArray, .int .i64 leg, .int .i64 day] w (Ret w (.tuple #[.int .i64 (holdA (checkC nw nl f x g nc nd nb c d b) nl leg day (hb leg day c nc)), .int .i64 (holdE (checkC nw nl f x g nc nd nb c d b) nl leg day)])) := by
  have hnl := h.hnl
  unfold landL custL
  refine K_enter (S := []) (K := []) Try.func8 rfl Try.ntmps8 rfl (Sat.start _) ?_
  refine TW.seq fun Y1 hY1 => ?_
  refine TW.region ?_
  refine TL.m Mk.bx ?_
  intro b1
  refine TL.m Mk.bx ?_
  intro b2
  refine TL.p Pu.as ?_
  refine TL.p Pu.as ?_
  refine TL.nil ?_
  refine TQ.thenN (hY1 _ _ ?_)
  refine TW.seq fun Y2 hY2 => ?_
  refine TW.seq fun Y3 hY3 => ?_
  refine TW.region ?_
  refine TL.p (Pu.lds ty_ag25) ?_
  refine TL.p (Pu.lds ty_ag30) ?_
  refine TL.cr rfl (enters Try.func12 rfl rfl) (fun w hw => by
      exact refCheck_any (h.ext (Chg.ext hw.chg)) (k.ext (Chg.ext hw.chg))) ?_
  refine TL.p Pu.as ?_
  refine TL.nil ?_
  refine TQ.thenN (hY3 _ _ ?_)
  refine TW.seq fun Y4 hY4 => ?_
  refine TW.region ?_
  refine TL.p Pu.mv ?_
  refine TL.p Pu.ne ?_
  refine TL.nil ?_
  refine TQ.thenN (hY4 _ _ ?_)
  refine TW.cond rfl (fun hc0 => ?_) (fun hc0 => ?_)
  · try simp only [decide_eq_true_eq, decide_eq_false_iff_not, Bool.not_eq_true', Bool.not_eq_false', Bool.and_eq_true, Bool.or_eq_true, Bool.and_eq_false_iff, Bool.or_eq_false_iff, Int.not_lt, Int.not_le] at hc0
    have he : checkC nw nl f x g nc nd nb c d b ≠ 0 := by simpa using hc0
    refine TW.seq fun Y5 hY5 => ?_
    refine TW.region ?_
    refine TL.p Pu.mv ?_
    refine TL.p Pu.as ?_
    refine TL.p Pu.as ?_
    refine TL.nil ?_
    refine TQ.thenN (hY5 _ _ ?_)
    refine TW.ret ?_
    refine TQ.thenR ?_
    refine TQ.ret Try.results8 rfl ((.tmp rfl (.tmp rfl .nil))) ?_
    exact fun w hw => ⟨ret_two (by unfold holdA; rw [if_neg he]) (by unfold holdE; rw [if_neg he]), Chg.ext hw.chg⟩
  · try simp only [decide_eq_true_eq, decide_eq_false_iff_not, Bool.not_eq_true', Bool.not_eq_false', Bool.and_eq_true, Bool.or_eq_true, Bool.and_eq_false_iff, Bool.or_eq_false_iff, Int.not_lt, Int.not_le] at hc0
    have he : checkC nw nl f x g nc nd nb c d b = 0 := by simpa using hc0
    refine TW.skip ?_
    refine TQ.thenN (hY2 _ _ ?_)
    refine TW.seq fun Y6 hY6 => ?_
    refine TW.seq fun Y7 hY7 => ?_
    refine TW.join [(28, .bool (!(inB5 0 ((nl : Int) - 1) leg && inB5 0 100000 day)))] ?_ (fun hJ1 => ?_)
    · refine TQ.thenN (hY7 _ _ ?_)
      refine TW.cond rfl (fun hc1 => ?_) (fun hc1 => ?_)
      · try simp only [decide_eq_true_eq, decide_eq_false_iff_not, Bool.not_eq_true', Bool.not_eq_false', Bool.and_eq_true, Bool.or_eq_true, Bool.and_eq_false_iff, Bool.or_eq_false_iff, Int.not_lt, Int.not_le] at hc1
        have hi : ¬ (inB5 0 ((nl : Int) - 1) leg && inB5 0 100000 day) = true := by
          intro hh
          rw [Bool.and_eq_true] at hh
          simp [hh.1, hh.2] at hc1
        refine TW.seq fun Y8 hY8 => ?_
        refine TW.region ?_
        refine TL.p Pu.as ?_
        refine TL.p Pu.as ?_
        refine TL.nil ?_
        refine TQ.thenN (hY8 _ _ ?_)
        refine TW.ret ?_
        refine TQ.thenR ?_
        refine TQ.ret Try.results8 rfl ((.tmp rfl (.tmp rfl .nil))) ?_
        exact fun w hw => ⟨ret_two (by unfold holdA; rw [if_pos he, if_neg hi]) (by unfold holdE; rw [if_pos he, if_neg hi]), Chg.ext hw.chg⟩
      · try simp only [decide_eq_true_eq, decide_eq_false_iff_not, Bool.not_eq_true', Bool.not_eq_false', Bool.and_eq_true, Bool.or_eq_true, Bool.and_eq_false_iff, Bool.or_eq_false_iff, Int.not_lt, Int.not_le] at hc1
        have hi : (inB5 0 ((nl : Int) - 1) leg && inB5 0 100000 day) = true := by rw [Bool.and_eq_true]; exact hc1
        refine TW.skip ?_
        refine TQ.thenN (hY6 _ _ ?_)
        refine TW.seq fun Y9 hY9 => ?_
        refine TW.region ?_
        refine TL.p (Pu.lds ty_ag30) ?_
        refine TL.p Pu.mv ?_
        refine TL.p Pu.mv ?_
        refine TL.cr rfl (enters Try.func20 rfl rfl) (fun w hw => by
            exact holderOf_any _ _ _ k.hnc (k.hC.sat hw Apart.nil)) ?_
        refine TL.p Pu.as ?_
        refine TL.p Pu.as ?_
        refine TL.nil ?_
        refine TQ.thenN (hY9 _ _ ?_)
        refine TW.ret ?_
        refine TQ.ret Try.results8 rfl ((.tmp rfl (.tmp rfl .nil))) ?_
        exact fun w hw => ⟨ret_two (by unfold holdA; rw [if_pos he, if_pos hi]) (by unfold holdE; rw [if_pos he, if_pos hi]), Chg.ext hw.chg⟩
    refine TW.region ?_
    refine TL.p Pu.mv ?_
    refine TL.p (by first | exact Pu.fb ty_fa25_1 | exact Pu.fe ty_fa25_1) ?_
    refine TL.p (Pu.ld ty_sc23) ?_
    refine TL.p (Pu.ln Try.underlying23) ?_
    refine TL.p Pu.sb ?_
    refine TL.cr rfl (enters Try.func19 rfl rfl) (fun w hw => by
        exact within7_any _ _ _ _) ?_
    refine TL.p Pu.no ?_
    refine TL.p Pu.mv ?_
    refine TL.guard (t := 24) rfl (fun hg1 => ?_) (fun hg1 => ?_)
    · refine TL.gs ?_
      refine TL.gs ?_
      refine TL.gs ?_
      refine TL.p Pu.kt ?_
      refine TL.nil ?_
      exact TQ.sub (by repeat (first | exact trivial | refine ⟨rfl, ?_⟩ | refine ⟨trivial, ?_⟩ | refine ⟨(by show some (Value.bool _) = some (Value.bool _); simp [hg1]), ?_⟩)) (by repeat (first | exact KSub.nil | refine KSub.cons (by repeat (first | exact Pick.hd | apply Pick.tl)) ?_)) hJ1
    · refine TL.gd Pu.mv ?_
      refine TL.cr rfl (enters Try.func19 rfl rfl) (fun w hw => by
          exact within7_any _ _ _ _) ?_
      refine TL.gd Pu.no ?_
      refine TL.p Pu.kf ?_
      refine TL.nil ?_
      exact TQ.sub (by repeat (first | exact trivial | refine ⟨rfl, ?_⟩ | refine ⟨trivial, ?_⟩ | refine ⟨(by show some (Value.bool _) = some (Value.bool _); simp [hg1]), ?_⟩)) (by repeat (first | exact KSub.nil | refine KSub.cons (by repeat (first | exact Pick.hd | apply Pick.tl)) ?_)) hJ1
def prL (x : Int × Int) : List Value := [.int .i64 x.1, .int .i64 x.2]
theorem eqInt (d : Nat) (i : Int) (w : World) : (Op.equalIn (d + 1) 3 (.int .i64 i) (.int .i64 i)).run Try.prog w = .ok true w := by
  simp only [Op.equalIn, Sem.run_bind, run_underlying Try.underlying3, Result.andThen_ok, if_true, Sem.run_pure]
  simp
theorem eqArr (d : Nat) (i j : Int) (w : World) : (Op.equalIn (d + 2) 63 (.agg #[.int .i64 i, .int .i64 j]) (.agg #[.int .i64 i, .int .i64 j])).run Try.prog w = .ok true w := by
  obtain ⟨k, z, hk, _⟩ := (ty_et32 : ElemT Try.prog 32 3 1 8).hi
  refine (run_equalIn_array w (d + 1) _ _ Try.underlying63 hk).trans ?_
  have hc : Try.prog.cellsOf 3 = 1 := by kernel_rfl
  have hp : Try.prog.plainKey 3 = true := by kernel_rfl
  rw [hc]
  simp only [show List.range 2 = [0, 1] from rfl, Op.eqItems, Sem.run_bind, run_part_plain w hp (xs := #[.int .i64 i, .int .i64 j]) (off := 0) (v := .int .i64 i) rfl, run_part_plain w hp (xs := #[.int .i64 i, .int .i64 j]) (off := 1) (v := .int .i64 j) rfl, Result.andThen_ok, eqInt, Nat.zero_mul, Nat.one_mul, Nat.mul_one, Bool.not_true, Bool.false_eq_true, if_false, Sem.run_pure]
theorem nePair (x y : Operand) (i j : Int) (w : World) : (do eqGuard .neq 63 x y (.agg #[.int .i64 i, .int .i64 j]) (.agg #[.int .i64 i, .int .i64 j]); binOp .neq 63 (.agg #[.int .i64 i, .int .i64 j]) (.agg #[.int .i64 i, .int .i64 j]) : Sem Value).run Try.prog w = .ok (.bool false) w := by
  have h := eqArr 9998 i j w
  go_simp
theorem samePairs_any {A B : Option Addr} {n ca cb : Nat} {v : Nat → Int × Int} {w : World} (hn : n ≤ 1000000) (hA : RdR w 2 A n (fun k => prL (v k))) (hB : RdR w 2 B n (fun k => prL (v k))) :
    Calls Try.prog 13 #[.slice A n ca, .slice B n cb] w (Ret w (.bool true)) := by
  refine K_enter (S := []) (K := []) Try.func13 rfl Try.ntmps13 rfl (Sat.start _) ?_
  refine TW.seq fun Y1 hY1 => ?_
  refine TW.region ?_
  refine TL.p Pu.as ?_
  refine TL.nil ?_
  refine TQ.thenN (hY1 _ _ ?_)
  refine TW.seq fun Y2 hY2 => ?_
  refine TW.seq fun Y3 hY3 => ?_
  refine TW.region ?_
  refine TL.p Pu.mv ?_
  refine TL.p (Pu.ln Try.underlying42) ?_
  refine TL.p Pu.mv ?_
  refine TL.p (Pu.ln Try.underlying42) ?_
  refine TL.p Pu.ne ?_
  refine TL.nil ?_
  refine TQ.thenN (hY3 _ _ ?_)
  refine TW.condF rfl ((by simp)) ?_
  refine TW.skip ?_
  refine TQ.thenN (hY2 _ _ ?_)
  refine TW.seq fun Y4 hY4 => ?_
  refine TW.seq fun Y5 hY5 => ?_
  refine TW.region ?_
  refine TL.p Pu.as ?_
  refine TL.nil ?_
  refine TQ.thenN (hY5 _ _ ?_)
  refine TW.block ?_
  refine TW.loop1 (fun (k : Nat) => [(5, .int .i64 (k : Int)), (0, .slice A n ca), (1, .slice B n cb)]) (fun k => []) (fun k => k ≤ n) (fun k => n - k) 0 (by repeat (first | exact trivial | refine ⟨rfl, ?_⟩ | refine ⟨trivial, ?_⟩)) ?_ ?_ ?_
  · exact (by repeat (first | exact KSub.nil | refine KSub.cons (by repeat (first | exact Pick.hd | apply Pick.tl)) ?_))
  · exact Nat.zero_le _
  rintro k hk Z0 hZ0
  refine TW.seq fun Y6 hY6 => ?_
  refine TW.seq fun Y7 hY7 => ?_
  refine TW.region ?_
  refine TL.p Pu.mv ?_
  refine TL.p Pu.mv ?_
  refine TL.p (Pu.ln Try.underlying42) ?_
  refine TL.p Pu.lt ?_
  refine TL.nil ?_
  refine TQ.thenN (hY7 _ _ ?_)
  refine TW.cond rfl (fun hc1 => ?_) (fun hc1 => ?_)
  · try simp only [decide_eq_true_eq, decide_eq_false_iff_not, Bool.not_eq_true', Bool.not_eq_false', Bool.and_eq_true, Bool.or_eq_true, Bool.and_eq_false_iff, Bool.or_eq_false_iff, Int.not_lt, Int.not_le] at hc1
    have hkn : k < n := by omega
    refine TW.skip ?_
    refine TQ.thenN (hY6 _ _ ?_)
    refine TW.seq fun Y8 hY8 => ?_
    refine TW.block ?_
    refine TW.seq fun Y9 hY9 => ?_
    refine TW.dw 9 ?_
    refine RK.tk Pu.mv ?_
    refine RK.tk Pu.mv ?_
    refine RK.tk (Pu.el ty_et42) ?_
    refine RK.tk (Pu.lds ty_ag63) ?_
    refine RK.tk Pu.mv ?_
    refine RK.tk Pu.mv ?_
    refine RK.tk (Pu.el ty_et42) ?_
    refine RK.tk (Pu.lds ty_ag63) ?_
    refine RK.tk (Pu.bn rfl rfl (fun w => nePair _ _ _ _ w)) ?_
    refine RK.ch [] ?_ trivial
    refine WK.n ?_
    refine TL.nil ?_
    refine TQ.thenN (hY9 _ _ ?_)
    refine TW.condF rfl (rfl) ?_
    refine TW.skip ?_
    refine TQ.blkN ?_
    refine TQ.thenN (hY8 _ _ ?_)
    refine TW.region ?_
    refine TL.p Pu.mv ?_
    refine TL.p Pu.ad ?_
    refine TL.p Pu.as ?_
    refine TL.nil ?_
    refine TQ.thenN (hZ0 (k + 1) _ _ ?_ ?_ (by repeat (first | exact trivial | refine ⟨rfl, ?_⟩ | refine ⟨trivial, ?_⟩)) ?_)
    · exact (by omega)
    · exact (by first | omega | (simp only []; omega) | (simp; omega))
    · exact (by repeat (first | exact KSub.nil | refine KSub.cons (by repeat (first | exact Pick.hd | apply Pick.tl)) ?_))
  · try simp only [decide_eq_true_eq, decide_eq_false_iff_not, Bool.not_eq_true', Bool.not_eq_false', Bool.and_eq_true, Bool.or_eq_true, Bool.and_eq_false_iff, Bool.or_eq_false_iff, Int.not_lt, Int.not_le] at hc1
    have hkn : k = n := by omega
    refine TW.exit ?_
    refine TQ.thenX ?_
    refine TQ.thenX ?_
    refine TQ.blkX ?_
    refine TQ.thenN (hY4 _ _ ?_)
    refine TW.seq fun Y10 hY10 => ?_
    refine TW.region ?_
    refine TL.p Pu.as ?_
    refine TL.nil ?_
    refine TQ.thenN (hY10 _ _ ?_)
    refine TW.ret ?_
    refine TQ.ret Try.results13 rfl ((.tmp rfl .nil)) ?_
    exact fun w hw => Ret.of hw
end Go.Proofs.Ytckiagbllkdfdaa
