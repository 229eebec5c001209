/-
  Part 7 of the proof of tollCheapest_holds: declarations of several texts, in build order. No condition on a program.
-/
import Derived.Test.YtmonkjnfjgidbaaGreatDoorCh06
import Derived.ChangeKeysEq
import Derived.Test.YtmonkjnfjgidbaaGreatDoorCh03
import Derived.Lib.SliceRun
import Derived.Test.YtmonkjnfjgidbaaGreatDoorCh04
namespace Go.Proofs.YtmonkjnfjgidbaaGreatDoor
set_option linter.all false
set_option linter.unusedVariables false
set_option linter.unusedSimpArgs false
open Go.RowKit
def holdA (e : Int) (nl : Nat) (leg day h : Int) : Int := if e = 0 then (if (inB5 0 ((nl : Int) - 1) leg && inB5 0 100000 day) = true then h else 0) else 0
def holdE (e : Int) (nl : Nat) (leg day : Int) : Int := if e = 0 then (if (inB5 0 ((nl : Int) - 1) leg && inB5 0 100000 day) = true then 0 else 2) else e
theorem ret_two {a b a' b' : Int} (h1 : a = a') (h2 : b = b') : Ending.returned (.tuple #[.int .i64 a, .int .i64 b]) = .returned (.tuple #[.int .i64 a', .int .i64 b']) := by rw [h1, h2]
theorem tollHolder_any {W A C D B : Option Addr} {nw cw nl cl nc cc nd cd nb cb : Nat} {f : Nat → Nat → Int} {x : Nat → Leg} {g : Nat → Nat → Nat → Int} {c : Nat → (Nat → Int) × Bool} {d b : Nat → Nat → Int} {w : World} (leg day : Int) (h : LandIn w W nw A nl f x g) (k : CustIn w C nc D nd B nb c d b) :
    Calls Tryz.prog 36 #[.agg (landL W nw cw A nl cl).toArray, .agg (custL C nc cc D nd cd B nb cb).toArray, .int .i64 leg, .int .i64 day] w (Ret w (.tuple #[.int .i64 (holdA (checkC nw nl f x g nc nd nb c d b) nl leg day (hb leg day c nc)), .int .i64 (holdE (checkC nw nl f x g nc nd nb c d b) nl leg day)])) := by
  have hnl := h.hnl
  unfold landL custL
  refine K_enter (S := []) (K := []) Tryz.func36 rfl Tryz.ntmps36 rfl (Sat.start _) ?_
  refine TW.seq fun Y1 hY1 => ?_
  refine TW.region ?_
  refine TL.m Mk.bx ?_
  intro b1
  refine TL.m Mk.bx ?_
  intro b2
  refine TL.p Pu.as ?_
  refine TL.p Pu.as ?_
  refine TL.nil ?_
  refine TQ.thenN (hY1 _ _ ?_)
  refine TW.seq fun Y2 hY2 => ?_
  refine TW.seq fun Y3 hY3 => ?_
  refine TW.region ?_
  refine TL.p (Pu.lds ty_ag25) ?_
  refine TL.p (Pu.lds ty_ag30) ?_
  refine TL.cr rfl (enters Tryz.func50 rfl rfl) (fun w hw => by
      exact tollCheck_any (h.ext (Chg.ext hw.chg)) (k.ext (Chg.ext hw.chg))) ?_
  refine TL.p Pu.as ?_
  refine TL.nil ?_
  refine TQ.thenN (hY3 _ _ ?_)
  refine TW.seq fun Y4 hY4 => ?_
  refine TW.region ?_
  refine TL.p Pu.mv ?_
  refine TL.p Pu.ne ?_
  refine TL.nil ?_
  refine TQ.thenN (hY4 _ _ ?_)
  refine TW.cond rfl (fun hc0 => ?_) (fun hc0 => ?_)
  try simp only [decide_eq_true_eq, decide_eq_false_iff_not, Bool.not_eq_true', Bool.not_eq_false', Bool.and_eq_true, Bool.or_eq_true, Bool.and_eq_false_iff, Bool.or_eq_false_iff, Int.not_lt, Int.not_le] at hc0
  have he : checkC nw nl f x g nc nd nb c d b ≠ 0 := by simpa using hc0
  refine TW.seq fun Y5 hY5 => ?_
  refine TW.region ?_
  refine TL.p Pu.mv ?_
  refine TL.p Pu.as ?_
  refine TL.p Pu.as ?_
  refine TL.nil ?_
  refine TQ.thenN (hY5 _ _ ?_)
  refine TW.ret ?_
  refine TQ.thenR ?_
  refine TQ.ret Tryz.results36 rfl ((.tmp rfl (.tmp rfl .nil))) ?_
  exact fun w hw => ⟨ret_two (by unfold holdA; rw [if_neg he]) (by unfold holdE; rw [if_neg he]), Chg.ext hw.chg⟩
  try simp only [decide_eq_true_eq, decide_eq_false_iff_not, Bool.not_eq_true', Bool.not_eq_false', Bool.and_eq_true, Bool.or_eq_true, Bool.and_eq_false_iff, Bool.or_eq_false_iff, Int.not_lt, Int.not_le] at hc0
  have he : checkC nw nl f x g nc nd nb c d b = 0 := by simpa using hc0
  refine TW.skip ?_
  refine TQ.thenN (hY2 _ _ ?_)
  refine TW.seq fun Y6 hY6 => ?_
  refine TW.seq fun Y7 hY7 => ?_
  refine TW.join [(28, .bool (!(inB5 0 ((nl : Int) - 1) leg && inB5 0 100000 day)))] ?_ (fun hJ1 => ?_)
  refine TQ.thenN (hY7 _ _ ?_)
  refine TW.cond rfl (fun hc1 => ?_) (fun hc1 => ?_)
  try simp only [decide_eq_true_eq, decide_eq_false_iff_not, Bool.not_eq_true', Bool.not_eq_false', Bool.and_eq_true, Bool.or_eq_true, Bool.and_eq_false_iff, Bool.or_eq_false_iff, Int.not_lt, Int.not_le] at hc1
  have hi : ¬ (inB5 0 ((nl : Int) - 1) leg && inB5 0 100000 day) = true := by
    intro hh
    rw [Bool.and_eq_true] at hh
    simp [hh.1, hh.2] at hc1
  refine TW.seq fun Y8 hY8 => ?_
  refine TW.region ?_
  refine TL.p Pu.as ?_
  refine TL.p Pu.as ?_
  refine TL.nil ?_
  refine TQ.thenN (hY8 _ _ ?_)
  refine TW.ret ?_
  refine TQ.thenR ?_
  refine TQ.ret Tryz.results36 rfl ((.tmp rfl (.tmp rfl .nil))) ?_
  exact fun w hw => ⟨ret_two (by unfold holdA; rw [if_pos he, if_neg hi]) (by unfold holdE; rw [if_pos he, if_neg hi]), Chg.ext hw.chg⟩
  try simp only [decide_eq_true_eq, decide_eq_false_iff_not, Bool.not_eq_true', Bool.not_eq_false', Bool.and_eq_true, Bool.or_eq_true, Bool.and_eq_false_iff, Bool.or_eq_false_iff, Int.not_lt, Int.not_le] at hc1
  have hi : (inB5 0 ((nl : Int) - 1) leg && inB5 0 100000 day) = true := by rw [Bool.and_eq_true]; exact hc1
  refine TW.skip ?_
  refine TQ.thenN (hY6 _ _ ?_)
  refine TW.seq fun Y9 hY9 => ?_
  refine TW.region ?_
  refine TL.p (Pu.lds ty_ag30) ?_
  refine TL.p Pu.mv ?_
  refine TL.p Pu.mv ?_
  refine TL.cr rfl (enters Tryz.func68 rfl rfl) (fun w hw => by
      exact holder_any _ _ _ k.hnc (k.hC.sat hw Apart.nil)) ?_
  refine TL.p Pu.as ?_
  refine TL.p Pu.as ?_
  refine TL.nil ?_
  refine TQ.thenN (hY9 _ _ ?_)
  refine TW.ret ?_
  refine TQ.ret Tryz.results36 rfl ((.tmp rfl (.tmp rfl .nil))) ?_
  exact fun w hw => ⟨ret_two (by unfold holdA; rw [if_pos he, if_pos hi]) (by unfold holdE; rw [if_pos he, if_pos hi]), Chg.ext hw.chg⟩
  refine TW.region ?_
  refine TL.p Pu.mv ?_
  refine TL.p (by first | exact Pu.fb ty_fa25_1 | exact Pu.fe ty_fa25_1) ?_
  refine TL.p (Pu.ld ty_sc23) ?_
  refine TL.p (Pu.ln Tryz.underlying23) ?_
  refine TL.p Pu.sb ?_
  refine TL.cr rfl (enters Tryz.func67 rfl rfl) (fun w hw => by
      exact in_any _ _ _ _) ?_
  refine TL.p Pu.no ?_
  refine TL.p Pu.mv ?_
  refine TL.guard (t := 24) rfl (fun hg1 => ?_) (fun hg1 => ?_)
  refine TL.gs ?_
  refine TL.gs ?_
  refine TL.gs ?_
  refine TL.p Pu.kt ?_
  refine TL.nil ?_
  exact TQ.sub (by repeat (first | exact trivial | refine ⟨rfl, ?_⟩ | refine ⟨trivial, ?_⟩ | refine ⟨(by show some (Value.bool _) = some (Value.bool _); first | (simp [hg1]; done) | (refine congrArg (fun z => some (Value.bool z)) (Bool.eq_iff_iff.2 ?_); simp [hg1]; omega)), ?_⟩)) ks9 hJ1
  refine TL.gd Pu.mv ?_
  refine TL.cr rfl (enters Tryz.func67 rfl rfl) (fun w hw => by
      exact in_any _ _ _ _) ?_
  refine TL.gd Pu.no ?_
  refine TL.p Pu.kf ?_
  refine TL.nil ?_
  exact TQ.sub (by repeat (first | exact trivial | refine ⟨rfl, ?_⟩ | refine ⟨trivial, ?_⟩ | refine ⟨(by show some (Value.bool _) = some (Value.bool _); first | (simp [hg1]; done) | (refine congrArg (fun z => some (Value.bool z)) (Bool.eq_iff_iff.2 ?_); simp [hg1]; omega)), ?_⟩)) ks9 hJ1
def prL (x : Int × Int) : List Value := [.int .i64 x.1, .int .i64 x.2]
theorem eqInt (d : Nat) (i : Int) (w : World) : (Op.equalIn (d + 1) 3 (.int .i64 i) (.int .i64 i)).run Tryz.prog w = .ok true w := by
  simp only [Op.equalIn, Sem.run_bind, run_underlying Tryz.underlying3, Result.andThen_ok, if_true, Sem.run_pure]
  simp
theorem eqArr (d : Nat) (i j : Int) (w : World) : (Op.equalIn (d + 2) 80 (.agg #[.int .i64 i, .int .i64 j]) (.agg #[.int .i64 i, .int .i64 j])).run Tryz.prog w = .ok true w := by
  obtain ⟨k, z, hk, _⟩ := (ty_et31 : ElemT Tryz.prog 31 3 1 8).hi
  refine (run_equalIn_array w (d + 1) _ _ Tryz.underlying80 hk).trans ?_
  have hc : Tryz.prog.cellsOf 3 = 1 := by kernel_rfl
  have hp : Tryz.prog.plainKey 3 = true := by kernel_rfl
  rw [hc]
  simp only [show List.range 2 = [0, 1] from rfl, Op.eqItems, Sem.run_bind, run_part_plain w hp (xs := #[.int .i64 i, .int .i64 j]) (off := 0) (v := .int .i64 i) rfl, run_part_plain w hp (xs := #[.int .i64 i, .int .i64 j]) (off := 1) (v := .int .i64 j) rfl, Result.andThen_ok, eqInt, Nat.zero_mul, Nat.one_mul, Nat.mul_one, Bool.not_true, Bool.false_eq_true, if_false, Sem.run_pure]
theorem nePair (x y : Operand) (i j : Int) (w : World) : (do eqGuard .neq 80 x y (.agg #[.int .i64 i, .int .i64 j]) (.agg #[.int .i64 i, .int .i64 j]); binOp .neq 80 (.agg #[.int .i64 i, .int .i64 j]) (.agg #[.int .i64 i, .int .i64 j]) : Sem Value).run Tryz.prog w = .ok (.bool false) w := by
  have h := eqArr 9998 i j w
  go_simp
theorem samePairs_any {A B : Option Addr} {n ca cb : Nat} {v : Nat → Int × Int} {w : World} (hn : n ≤ 1000000) (hA : RdR w 2 A n (fun k => prL (v k))) (hB : RdR w 2 B n (fun k => prL (v k))) :
    Calls Tryz.prog 62 #[.slice A n ca, .slice B n cb] w (Ret w (.bool true)) := by
  refine K_enter (S := []) (K := []) Tryz.func62 rfl Tryz.ntmps62 rfl (Sat.start _) ?_
  refine TW.seq fun Y1 hY1 => ?_
  refine TW.region ?_
  refine TL.p Pu.as ?_
  refine TL.nil ?_
  refine TQ.thenN (hY1 _ _ ?_)
  refine TW.seq fun Y2 hY2 => ?_
  refine TW.seq fun Y3 hY3 => ?_
  refine TW.region ?_
  refine TL.p Pu.mv ?_
  refine TL.p (Pu.ln Tryz.underlying86) ?_
  refine TL.p Pu.mv ?_
  refine TL.p (Pu.ln Tryz.underlying86) ?_
  refine TL.p Pu.ne ?_
  refine TL.nil ?_
  refine TQ.thenN (hY3 _ _ ?_)
  refine TW.condF rfl ((by simp)) ?_
  refine TW.skip ?_
  refine TQ.thenN (hY2 _ _ ?_)
  refine TW.seq fun Y4 hY4 => ?_
  refine TW.seq fun Y5 hY5 => ?_
  refine TW.region ?_
  refine TL.p Pu.as ?_
  refine TL.nil ?_
  refine TQ.thenN (hY5 _ _ ?_)
  refine TW.block ?_
  refine TW.loop1 (fun (k : Nat) => [(5, .int .i64 (k : Int)), (0, .slice A n ca), (1, .slice B n cb)]) (fun k => []) (fun k => k ≤ n) (fun k => n - k) 0 fs9 ?_ ?_ ?_
  exact ks9
  exact Nat.zero_le _
  rintro k hk Z0 hZ0
  refine TW.seq fun Y6 hY6 => ?_
  refine TW.seq fun Y7 hY7 => ?_
  refine TW.region ?_
  refine TL.p Pu.mv ?_
  refine TL.p Pu.mv ?_
  refine TL.p (Pu.ln Tryz.underlying86) ?_
  refine TL.p Pu.lt ?_
  refine TL.nil ?_
  refine TQ.thenN (hY7 _ _ ?_)
  refine TW.cond rfl (fun hc1 => ?_) (fun hc1 => ?_)
  try simp only [decide_eq_true_eq, decide_eq_false_iff_not, Bool.not_eq_true', Bool.not_eq_false', Bool.and_eq_true, Bool.or_eq_true, Bool.and_eq_false_iff, Bool.or_eq_false_iff, Int.not_lt, Int.not_le] at hc1
  have hkn : k < n := by omega
  refine TW.skip ?_
  refine TQ.thenN (hY6 _ _ ?_)
  refine TW.seq fun Y8 hY8 => ?_
  refine TW.block ?_
  refine TW.seq fun Y9 hY9 => ?_
  refine TW.dw 9 ?_
  refine RK.tk Pu.mv ?_
  refine RK.tk Pu.mv ?_
  refine RK.tk (Pu.el ty_et86) ?_
  refine RK.tk (Pu.lds ty_ag80) ?_
  refine RK.tk Pu.mv ?_
  refine RK.tk Pu.mv ?_
  refine RK.tk (Pu.el ty_et86) ?_
  refine RK.tk (Pu.lds ty_ag80) ?_
  refine RK.tk (Pu.bn rfl rfl (fun w => nePair _ _ _ _ w)) ?_
  refine RK.ch [] ?_ trivial
  refine WK.n ?_
  refine TL.nil ?_
  refine TQ.thenN (hY9 _ _ ?_)
  refine TW.condF rfl (rfl) ?_
  refine TW.skip ?_
  refine TQ.blkN ?_
  refine TQ.thenN (hY8 _ _ ?_)
  refine TW.region ?_
  refine TL.p Pu.mv ?_
  refine TL.p Pu.ad ?_
  refine TL.p Pu.as ?_
  refine TL.nil ?_
  refine TQ.thenN (hZ0 (k + 1) _ _ ?_ ?_ fs9 ?_)
  exact (by omega)
  exact (by first | omega | (simp only []; omega) | (simp; omega))
  exact ks9
  try simp only [decide_eq_true_eq, decide_eq_false_iff_not, Bool.not_eq_true', Bool.not_eq_false', Bool.and_eq_true, Bool.or_eq_true, Bool.and_eq_false_iff, Bool.or_eq_false_iff, Int.not_lt, Int.not_le] at hc1
  have hkn : k = n := by omega
  refine TW.exit ?_
  refine TQ.thenX ?_
  refine TQ.thenX ?_
  refine TQ.blkX ?_
  refine TQ.thenN (hY4 _ _ ?_)
  refine TW.seq fun Y10 hY10 => ?_
  refine TW.region ?_
  refine TL.p Pu.as ?_
  refine TL.nil ?_
  refine TQ.thenN (hY10 _ _ ?_)
  refine TW.ret ?_
  refine TQ.ret Tryz.results62 rfl ((.tmp rfl .nil)) ?_
  exact fun w hw => Ret.of hw
end Go.Proofs.YtmonkjnfjgidbaaGreatDoor
namespace Go.Proofs.YtmonkjnfjgidbaaGreatDoor
set_option linter.all false
set_option linter.unusedVariables false
set_option linter.unusedSimpArgs false
open Go.RowKit
def disB (x y : (Nat → Int) × Bool) : Bool := decide (x.1 0 = y.1 0) && !decide (x.1 1 = y.1 1) && decide (x.1 2 ≤ y.1 3) && decide (y.1 2 ≤ x.1 3)
def innP (c : Nat → (Nat → Int) × Bool) (i : Nat) : Nat → List (Int × Int)
  | 0 => []
  | q + 1 => if disB (c i) (c (i + 1 + q)) = true then innP c i q ++ [((i : Int), (i : Int) + 1 + q)] else innP c i q
def outP (c : Nat → (Nat → Int) × Bool) (n : Nat) : Nat → List (Int × Int)
  | 0 => []
  | i + 1 => outP c n i ++ innP c i (n - (i + 1))
theorem innP_len {c : Nat → (Nat → Int) × Bool} {i : Nat} : ∀ q, (innP c i q).length ≤ q
  | 0 => Nat.le_refl _
  | q + 1 => by
    have := innP_len (c := c) (i := i) q
    simp only [innP]
    split
    · simp; omega
    · omega
theorem outP_len {c : Nat → (Nat → Int) × Bool} {n : Nat} : ∀ i, (outP c n i).length ≤ i * n
  | 0 => Nat.zero_le _
  | i + 1 => by
    have h1 := outP_len (c := c) (n := n) i
    have h2 := innP_len (c := c) (i := i) (n - (i + 1))
    simp only [outP, List.length_append, Nat.add_mul]
    omega
theorem pairs_bd {c : Nat → (Nat → Int) × Bool} {n i q : Nat} (hn : n ≤ 1000) (hi : i ≤ n) (hq : q ≤ n) : (outP c n i ++ innP c i q).length ≤ 1001000 := by
  have h1 := outP_len (c := c) (n := n) i
  have h2 := innP_len (c := c) (i := i) q
  have h3 : i * n ≤ 1000 * 1000 := Nat.mul_le_mul (by omega) hn
  rw [List.length_append]
  omega
def rowsP (L : List (Int × Int)) : Nat → List Value := fun k => prL (L.getD k (0, 0))
theorem rowsP_app {L L' : List (Int × Int)} {m : Nat} {p : Int × Int} {s : Nat → List Value} (hm : m = L.length) (hL : L' = L ++ [p]) (hs : s 0 = prL p) : ∀ i, i < m + 1 → catR m (rowsP L) s i = rowsP L' i := fun i hi => by
  subst hL
  simp only [catR, rowsP]
  by_cases h : i < m
  · rw [if_pos h, List.getD_eq_getElem?_getD, List.getD_eq_getElem?_getD, List.getElem?_append_left (by omega)]
  · obtain rfl : i = m := by omega
    rw [if_neg h, Nat.sub_self, hs, List.getD_eq_getElem?_getD, List.getElem?_append_right (by omega), hm, Nat.sub_self]
    rfl
def disL (e : Int) (nc : Nat) (c : Nat → (Nat → Int) × Bool) : List (Int × Int) := if e = 0 then outP c nc nc else []
theorem dis_bad {w w' : World} {K : List Fact} {e : Int} {nc : Nat} {c : Nat → (Nat → Int) × Bool} (he : e ≠ 0) (hw : Sat [] w K w') :
    ∃ x : Option Addr × Nat, Ending.returned (retV [.slice none 0 0, .int .i64 e]) = .returned (.tuple #[.slice x.1 (disL e nc c).length x.2, .int .i64 e]) ∧ Sat [] w [.own x.1 (disL e nc c).length x.2 80 2 (rowsP (disL e nc c))] w' := by
  refine ⟨(none, 0), ?_, ?_⟩
  · unfold disL
    rw [if_neg he]
    rfl
  · unfold disL
    rw [if_neg he]
    exact hw.sub (KSub.nilOwn KSub.nil)
section
variable {W A C D B : Option Addr} {nw cw nl cl nc cc nd cd nb cb : Nat} {f : Nat → Nat → Int} {x : Nat → Leg} {g : Nat → Nat → Nat → Int} {c : Nat → (Nat → Int) × Bool} {d b : Nat → Nat → Int} {w : World}
set_option maxRecDepth 100000 in
set_option maxHeartbeats 1000000 in
theorem tollDisputes_any (h : LandIn w W nw A nl f x g) (k : CustIn w C nc D nd B nb c d b) (hcc : nc ≤ cc) :
    CallsK Tryz.prog 37 #[.agg (landL W nw cw A nl cl).toArray, .agg (custL C nc cc D nd cd B nb cb).toArray] [] w (Option Addr × Nat) (fun a => .tuple #[.slice a.1 (disL (checkC nw nl f x g nc nd nb c d b) nc c).length a.2, .int .i64 (checkC nw nl f x g nc nd nb c d b)]) (fun a => [.own a.1 (disL (checkC nw nl f x g nc nd nb c d b) nc c).length a.2 80 2 (rowsP (disL (checkC nw nl f x g nc nd nb c d b) nc c))]) := by
  have hRC := k.hC
  have hnc := k.hnc
  have hL (i q : Nat) (hi : i ≤ nc) (hq : q ≤ nc) := pairs_bd (c := c) hnc hi hq
  unfold landL custL
  refine K_enter (S := []) (K := []) Tryz.func37 rfl Tryz.ntmps37 rfl (Sat.start _) ?_
  refine TW.seq fun Y1 hY1 => ?_
  refine TW.region ?_
  refine TL.m Mk.bx ?_
  intro b1
  refine TL.m Mk.bx ?_
  intro b2
  refine TL.p Pu.as ?_
  refine TL.p Pu.as ?_
  refine TL.nil ?_
  refine TQ.thenN (hY1 _ _ ?_)
  refine TW.seq fun Y2 hY2 => ?_
  refine TW.seq fun Y3 hY3 => ?_
  refine TW.region ?_
  refine TL.p (Pu.lds ty_ag25) ?_
  refine TL.p (Pu.lds ty_ag30) ?_
  refine TL.cr rfl (enters Tryz.func50 rfl rfl) (fun w hw => by
      exact tollCheck_any (h.ext (Chg.ext hw.chg)) (k.ext (Chg.ext hw.chg))) ?_
  refine TL.p Pu.as ?_
  refine TL.nil ?_
  refine TQ.thenN (hY3 _ _ ?_)
  refine TW.seq fun Y4 hY4 => ?_
  refine TW.region ?_
  refine TL.p Pu.mv ?_
  refine TL.p Pu.ne ?_
  refine TL.nil ?_
  refine TQ.thenN (hY4 _ _ ?_)
  refine TW.cond rfl (fun hc0 => ?_) (fun hc0 => ?_)
  try simp only [decide_eq_true_eq, decide_eq_false_iff_not, Bool.not_eq_true', Bool.not_eq_false', Bool.and_eq_true, Bool.or_eq_true, Bool.and_eq_false_iff, Bool.or_eq_false_iff, Int.not_lt, Int.not_le] at hc0
  have he : checkC nw nl f x g nc nd nb c d b ≠ 0 := by simpa using hc0
  refine TW.seq fun Y5 hY5 => ?_
  refine TW.region ?_
  refine TL.p Pu.mv ?_
  refine TL.p Pu.as ?_
  refine TL.p Pu.as ?_
  refine TL.nil ?_
  refine TQ.thenN (hY5 _ _ ?_)
  refine TW.ret ?_
  refine TQ.thenR ?_
  refine TQ.ret Tryz.results37 rfl ((.tmp rfl (.tmp rfl .nil))) ?_
  exact fun w hw => dis_bad he hw
  try simp only [decide_eq_true_eq, decide_eq_false_iff_not, Bool.not_eq_true', Bool.not_eq_false', Bool.and_eq_true, Bool.or_eq_true, Bool.and_eq_false_iff, Bool.or_eq_false_iff, Int.not_lt, Int.not_le] at hc0
  have he : checkC nw nl f x g nc nd nb c d b = 0 := by simpa using hc0
  refine TW.skip ?_
  refine TQ.thenN (hY2 _ _ ?_)
  refine TW.seq fun Y6 hY6 => ?_
  refine TW.region ?_
  refine TL.p Pu.as ?_
  refine TL.nil ?_
  refine TQ.thenN (hY6 _ _ ?_)
  refine TW.seq fun Y7 hY7 => ?_
  refine TW.seq fun Y8 hY8 => ?_
  refine TW.region ?_
  refine TL.p (by first | exact Pu.fb ty_fa30_0 | exact Pu.fe ty_fa30_0) ?_
  refine TL.p (Pu.ld ty_sc26) ?_
  refine TL.p (Pu.ln Tryz.underlying26) ?_
  refine TL.p Pu.mv ?_
  refine TL.nil ?_
  refine TQ.thenN (hY8 _ _ ?_)
  refine TW.block ?_
  refine TW.loop5 (fun (i : Nat) (E : Option Addr) (cp : Nat) (L : List (Int × Int)) (m : Nat) => [(21, .int .i64 (i : Int)), (20, .int .i64 (nc : Int)), (19, .slice C nc cc), (7, .slice E m cp), (3, .pointer (some ⟨b2, 0, none⟩))]) (fun i E cp L m => [.own E m cp 80 2 (rowsP L), .blk b2 30 [.slice C nc cc, .slice D nd cd, .slice B nb cb]]) (fun i E cp L m => i ≤ nc ∧ L = outP c nc i ∧ m = L.length) (fun i E cp L m => nc - i) 0 none 0 [] 0 fs9 ?_ ?_ ?_
  exact KSub.nilOwn ks9
  exact ⟨Nat.zero_le _, rfl, rfl⟩
  rintro i E cp L m ⟨hi, hL1, hm1⟩ Z0 hZ0
  refine TW.seq fun Y9 hY9 => ?_
  refine TW.region ?_
  refine TL.p Pu.lt ?_
  refine TL.nil ?_
  refine TQ.thenN (hY9 _ _ ?_)
  refine TW.seq fun Y10 hY10 => ?_
  refine TW.cond rfl (fun hc1 => ?_) (fun hc1 => ?_)
  try simp only [decide_eq_true_eq, decide_eq_false_iff_not, Bool.not_eq_true', Bool.not_eq_false', Bool.and_eq_true, Bool.or_eq_true, Bool.and_eq_false_iff, Bool.or_eq_false_iff, Int.not_lt, Int.not_le] at hc1
  have hin : i < nc := by omega
  have hT := hRC.tail hcc (by omega : i + 1 ≤ nc)
  refine TW.skip ?_
  refine TQ.thenN (hY10 _ _ ?_)
  refine TW.seq fun Y11 hY11 => ?_
  refine TW.block ?_
  refine TW.seq fun Y12 hY12 => ?_
  refine TW.region ?_
  refine TL.p Pu.mv ?_
  refine TL.p (Pu.el ty_et26) ?_
  refine TL.p (Pu.lds ty_ag71) ?_
  refine TL.m (Mk.al ty_zr71) ?_
  intro b3
  refine TL.p Pu.as ?_
  first | refine TL.st ty_sz71 ?_ | refine TL.se ty_sz71 ?_
  refine TL.nil ?_
  refine TQ.thenN (hY12 _ _ ?_)
  refine TW.seq fun Y13 hY13 => ?_
  refine TW.region ?_
  refine TL.p (by first | exact Pu.fb ty_fa30_0 | exact Pu.fe ty_fa30_0) ?_
  refine TL.p (Pu.ld ty_sc26) ?_
  refine TL.p Pu.mv ?_
  refine TL.p Pu.ad ?_
  refine TL.p (Pu.sf ty_et26) ?_
  refine TL.p (Pu.ln Tryz.underlying26) ?_
  refine TL.p Pu.mv ?_
  refine TL.nil ?_
  refine TQ.thenN (hY13 _ _ ?_)
  refine TW.block ?_
  refine TW.loop5 (fun (q : Nat) (E : Option Addr) (cp : Nat) (L : List (Int × Int)) (m : Nat) => [(32, .int .i64 (q : Int)), (31, .int .i64 ((nc - (i + 1) : Nat) : Int)), (30, .slice (slA C cc 7 (i + 1)) (nc - (i + 1)) (cc - (i + 1))), (9, .pointer (some ⟨b3, 0, none⟩)), (8, .int .i64 (i : Int)), (21, .int .i64 (i : Int)), (20, .int .i64 (nc : Int)), (19, .slice C nc cc), (7, .slice E m cp), (3, .pointer (some ⟨b2, 0, none⟩))]) (fun q E cp L m => [.own E m cp 80 2 (rowsP L), .blk b3 71 (claimL (c i)), .blk b2 30 [.slice C nc cc, .slice D nd cd, .slice B nb cb]]) (fun q E cp L m => q ≤ nc - (i + 1) ∧ L = outP c nc i ++ innP c i q ∧ m = L.length) (fun q E cp L m => nc - (i + 1) - q) 0 _ _ L m fs9 ?_ ?_ ?_
  exact ks9
  exact ⟨Nat.zero_le _, by rw [hL1]; simp [innP], hm1⟩
  rintro q E cp L m ⟨hq, hL2, hm2⟩ Z1 hZ1
  refine TW.seq fun Y14 hY14 => ?_
  refine TW.region ?_
  refine TL.p Pu.lt ?_
  refine TL.nil ?_
  refine TQ.thenN (hY14 _ _ ?_)
  refine TW.seq fun Y15 hY15 => ?_
  refine TW.cond rfl (fun hc2 => ?_) (fun hc2 => ?_)
  try simp only [decide_eq_true_eq, decide_eq_false_iff_not, Bool.not_eq_true', Bool.not_eq_false', Bool.and_eq_true, Bool.or_eq_true, Bool.and_eq_false_iff, Bool.or_eq_false_iff, Int.not_lt, Int.not_le] at hc2
  have hqn : q < nc - (i + 1) := by omega
  have hmb : m ≤ 1001000 := by rw [hm2, hL2]; exact hL i q hi (by omega)
  refine TW.skip ?_
  refine TQ.thenN (hY15 _ _ ?_)
  refine TW.seq fun Y16 hY16 => ?_
  refine TW.block ?_
  refine TW.seq fun Y17 hY17 => ?_
  refine TW.region ?_
  refine TL.p Pu.mv ?_
  refine TL.p (Pu.el ty_et26) ?_
  refine TL.p (Pu.lds ty_ag71) ?_
  refine TL.m (Mk.al ty_zr71) ?_
  intro b4
  refine TL.p Pu.as ?_
  first | refine TL.st ty_sz71 ?_ | refine TL.se ty_sz71 ?_
  refine TL.nil ?_
  refine TQ.thenN (hY17 _ _ ?_)
  refine TW.seq fun Y18 hY18 => ?_
  refine TW.join [(62, .bool (disB (c i) (c (i + 1 + q))))] ?_ (fun hJ1 => ?_)
  refine TQ.thenN (hY18 _ _ ?_)
  refine TW.cond rfl (fun hc3 => ?_) (fun hc3 => ?_)
  try simp only [decide_eq_true_eq, decide_eq_false_iff_not, Bool.not_eq_true', Bool.not_eq_false', Bool.and_eq_true, Bool.or_eq_true, Bool.and_eq_false_iff, Bool.or_eq_false_iff, Int.not_lt, Int.not_le] at hc3
  obtain ⟨L', hL'⟩ : ∃ y, y = L ++ [((i : Int), (i : Int) + 1 + q)] := ⟨_, rfl⟩
  have hstep : L' = outP c nc i ++ innP c i (q + 1) := by rw [hL', hL2]; simp only [innP]; rw [if_pos hc3, List.append_assoc]
  have hlen : m + 1 = L'.length := by rw [hL', List.length_append, ← hm2]; rfl
  refine TW.region ?_
  refine TL.p Pu.mv ?_
  refine TL.p Pu.mv ?_
  refine TL.p Pu.mv ?_
  refine TL.p Pu.ad ?_
  refine TL.p Pu.mv ?_
  refine TL.p Pu.ad ?_
  refine TL.p Pu.bd ?_
  refine TL.m Mk.bl ?_
  intro b5
  first | refine TL.a0 ty_et86 ?_ | refine TL.ap ty_et86 ?_
  intro A6 c6
  refine TL.p Pu.as ?_
  refine TL.nil ?_
  refine TQ.blkN ?_
  refine TQ.thenN (hY16 _ _ ?_)
  refine TW.region ?_
  refine TL.p Pu.ad ?_
  refine TL.p Pu.mv ?_
  refine TL.nil ?_
  refine TQ.thenN (hZ1 (q + 1) _ _ L' _ _ _ ?_ ?_ fs9 ?_)
  exact ⟨by omega, hstep, hlen⟩
  exact (by first | omega | (simp only []; omega) | (simp; omega))
  first
    | exact KSub.own Pick.hd (rowsP_app hm2 hL' rfl) ks9
    | exact KSub.own pk9 (fun i _ => by rw [hL']) ks9
  try simp only [decide_eq_true_eq, decide_eq_false_iff_not, Bool.not_eq_true', Bool.not_eq_false', Bool.and_eq_true, Bool.or_eq_true, Bool.and_eq_false_iff, Bool.or_eq_false_iff, Int.not_lt, Int.not_le] at hc3
  obtain ⟨L', hL'⟩ : ∃ y, y = L := ⟨_, rfl⟩
  have hstep : L' = outP c nc i ++ innP c i (q + 1) := by rw [hL', hL2]; simp only [innP]; rw [if_neg (by simp [hc3])]
  have hlen : m = L'.length := by rw [hL', ← hm2]
  refine TW.skip ?_
  refine TQ.blkN ?_
  refine TQ.thenN (hY16 _ _ ?_)
  refine TW.region ?_
  refine TL.p Pu.ad ?_
  refine TL.p Pu.mv ?_
  refine TL.nil ?_
  refine TQ.thenN (hZ1 (q + 1) _ _ L' _ _ _ ?_ ?_ fs9 ?_)
  exact ⟨by omega, hstep, hlen⟩
  exact (by first | omega | (simp only []; omega) | (simp; omega))
  first
    | exact KSub.own Pick.hd (rowsP_app hm2 hL' rfl) ks9
    | exact KSub.own pk9 (fun i _ => by rw [hL']) ks9
  refine TW.region ?_
  refine TL.p (by first | exact Pu.fb ty_fa71_0 | exact Pu.fe ty_fa71_0) ?_
  refine TL.p (Pu.ld ty_sc3) ?_
  refine TL.p (by first | exact Pu.fb ty_fa71_0 | exact Pu.fe ty_fa71_0) ?_
  refine TL.p (Pu.ld ty_sc3) ?_
  refine TL.p Pu.eq ?_
  refine TL.p Pu.mv ?_
  refine TL.guard (t := 42) rfl (fun hg1 => ?_) (fun hg1 => ?_)
  refine TL.gd (by first | exact Pu.fb ty_fa71_1 | exact Pu.fe ty_fa71_1) ?_
  refine TL.gd (Pu.ld ty_sc3) ?_
  refine TL.gd (by first | exact Pu.fb ty_fa71_1 | exact Pu.fe ty_fa71_1) ?_
  refine TL.gd (Pu.ld ty_sc3) ?_
  refine TL.gd Pu.ne ?_
  refine TL.p Pu.kt ?_
  refine TL.p Pu.mv ?_
  refine TL.guard (t := 49) rfl (fun hg2 => ?_) (fun hg2 => ?_)
  refine TL.gd (by first | exact Pu.fb ty_fa71_2 | exact Pu.fe ty_fa71_2) ?_
  refine TL.gd (Pu.ld ty_sc3) ?_
  refine TL.gd (by first | exact Pu.fb ty_fa71_3 | exact Pu.fe ty_fa71_3) ?_
  refine TL.gd (Pu.ld ty_sc3) ?_
  refine TL.gd Pu.le ?_
  refine TL.p Pu.kt ?_
  refine TL.p Pu.mv ?_
  refine TL.guard (t := 56) rfl (fun hg3 => ?_) (fun hg3 => ?_)
  refine TL.gd (by first | exact Pu.fb ty_fa71_2 | exact Pu.fe ty_fa71_2) ?_
  refine TL.gd (Pu.ld ty_sc3) ?_
  refine TL.gd (by first | exact Pu.fb ty_fa71_3 | exact Pu.fe ty_fa71_3) ?_
  refine TL.gd (Pu.ld ty_sc3) ?_
  refine TL.gd Pu.le ?_
  refine TL.p Pu.kt ?_
  refine TL.nil ?_
  exact TQ.sub (by repeat (first | exact trivial | refine ⟨rfl, ?_⟩ | refine ⟨trivial, ?_⟩ | refine ⟨(by show some (Value.bool _) = some (Value.bool _); first | (simp [hg1, hg2, hg3, disB]; done) | (refine congrArg (fun z => some (Value.bool z)) (Bool.eq_iff_iff.2 ?_); simp [hg1, hg2, hg3, disB]; omega)), ?_⟩)) ks9 hJ1
  refine TL.gs ?_
  refine TL.gs ?_
  refine TL.gs ?_
  refine TL.gs ?_
  refine TL.gs ?_
  refine TL.p Pu.kf ?_
  refine TL.nil ?_
  exact TQ.sub (by repeat (first | exact trivial | refine ⟨rfl, ?_⟩ | refine ⟨trivial, ?_⟩ | refine ⟨(by show some (Value.bool _) = some (Value.bool _); first | (simp [hg1, hg2, hg3, disB]; done) | (refine congrArg (fun z => some (Value.bool z)) (Bool.eq_iff_iff.2 ?_); simp [hg1, hg2, hg3, disB]; omega)), ?_⟩)) ks9 hJ1
  refine TL.gs ?_
  refine TL.gs ?_
  refine TL.gs ?_
  refine TL.gs ?_
  refine TL.gs ?_
  refine TL.p Pu.kf ?_
  refine TL.p Pu.mv ?_
  refine TL.gs ?_
  refine TL.gs ?_
  refine TL.gs ?_
  refine TL.gs ?_
  refine TL.gs ?_
  refine TL.p Pu.kf ?_
  refine TL.nil ?_
  exact TQ.sub (by repeat (first | exact trivial | refine ⟨rfl, ?_⟩ | refine ⟨trivial, ?_⟩ | refine ⟨(by show some (Value.bool _) = some (Value.bool _); first | (simp [hg1, hg2, disB]; done) | (refine congrArg (fun z => some (Value.bool z)) (Bool.eq_iff_iff.2 ?_); simp [hg1, hg2, disB]; omega)), ?_⟩)) ks9 hJ1
  refine TL.gs ?_
  refine TL.gs ?_
  refine TL.gs ?_
  refine TL.gs ?_
  refine TL.gs ?_
  refine TL.p Pu.kf ?_
  refine TL.p Pu.mv ?_
  refine TL.gs ?_
  refine TL.gs ?_
  refine TL.gs ?_
  refine TL.gs ?_
  refine TL.gs ?_
  refine TL.p Pu.kf ?_
  refine TL.p Pu.mv ?_
  refine TL.gs ?_
  refine TL.gs ?_
  refine TL.gs ?_
  refine TL.gs ?_
  refine TL.gs ?_
  refine TL.p Pu.kf ?_
  refine TL.nil ?_
  exact TQ.sub (by repeat (first | exact trivial | refine ⟨rfl, ?_⟩ | refine ⟨trivial, ?_⟩ | refine ⟨(by show some (Value.bool _) = some (Value.bool _); first | (simp [hg1, disB]; done) | (refine congrArg (fun z => some (Value.bool z)) (Bool.eq_iff_iff.2 ?_); simp [hg1, disB]; omega)), ?_⟩)) ks9 hJ1
  try simp only [decide_eq_true_eq, decide_eq_false_iff_not, Bool.not_eq_true', Bool.not_eq_false', Bool.and_eq_true, Bool.or_eq_true, Bool.and_eq_false_iff, Bool.or_eq_false_iff, Int.not_lt, Int.not_le] at hc2
  obtain rfl : q = nc - (i + 1) := by omega
  refine TW.exit ?_
  refine TQ.thenX ?_
  refine TQ.thenX ?_
  refine TQ.blkX ?_
  refine TQ.blkN ?_
  refine TQ.thenN (hY11 _ _ ?_)
  refine TW.region ?_
  refine TL.p Pu.ad ?_
  refine TL.p Pu.mv ?_
  refine TL.nil ?_
  refine TQ.thenN (hZ0 (i + 1) _ _ L m _ _ ?_ ?_ fs9 ?_)
  exact ⟨by omega, hL2, hm2⟩
  exact (by first | omega | (simp only []; omega) | (simp; omega))
  exact ks9
  try simp only [decide_eq_true_eq, decide_eq_false_iff_not, Bool.not_eq_true', Bool.not_eq_false', Bool.and_eq_true, Bool.or_eq_true, Bool.and_eq_false_iff, Bool.or_eq_false_iff, Int.not_lt, Int.not_le] at hc1
  obtain rfl : i = nc := by omega
  refine TW.exit ?_
  refine TQ.thenX ?_
  refine TQ.thenX ?_
  refine TQ.blkX ?_
  refine TQ.thenN (hY7 _ _ ?_)
  refine TW.seq fun Y19 hY19 => ?_
  refine TW.region ?_
  refine TL.p Pu.mv ?_
  refine TL.p Pu.as ?_
  refine TL.p Pu.as ?_
  refine TL.nil ?_
  refine TQ.thenN (hY19 _ _ ?_)
  refine TW.ret ?_
  refine TQ.ret Tryz.results37 rfl ((.tmp rfl (.tmp rfl .nil))) ?_
  exact fun w hw => ⟨(E, cp), by rw [hm1, hL1, he]; rfl, by
    have h9 := hw.sub (KSub.cons Pick.hd KSub.nil)
    rw [hm1, hL1] at h9
    rw [he]
    exact h9⟩
end
end Go.Proofs.YtmonkjnfjgidbaaGreatDoor
namespace Go.Proofs.YtmonkjnfjgidbaaGreatDoor
set_option linter.all false
set_option linter.unusedVariables false
set_option linter.unusedSimpArgs false
open Go.RowKit
def great3 (nw nl : Nat) (x : Nat → Leg) : Bool := decide (20 < (nw : Int)) || decide (40 < (nl : Int)) || anyB nl fun k => decide (20 < ((x k).n : Int))
theorem anyB_hit {n k : Nat} {p : Nat → Bool} (hk : k < n) (h : p k = true) : anyB n p = true := by
  unfold anyB
  exact List.any_eq_true.2 ⟨k, List.mem_range.2 hk, h⟩
theorem anyB_none {n : Nat} {p : Nat → Bool} (h : ∀ k, k < n → p k = false) : anyB n p = false := by
  unfold anyB
  rw [List.any_eq_false]
  intro k hk
  rw [h k (List.mem_range.1 hk)]
  simp
theorem great3_any {W A : Option Addr} {nw cw nl cl : Nat} {x : Nat → Leg} {w : World} (hA : RdR w 5 A nl (fun k => legL (x k))) :
    Calls Tryz.prog 54 #[.agg (landL W nw cw A nl cl).toArray] w (Ret w (.bool (great3 nw nl x))) := by
  unfold landL
  refine K_enter (S := []) (K := []) Tryz.func54 rfl Tryz.ntmps54 rfl (Sat.start _) ?_
  refine TW.seq fun Y1 hY1 => ?_
  refine TW.region ?_
  refine TL.m Mk.bx ?_
  intro b1
  refine TL.p Pu.as ?_
  refine TL.nil ?_
  refine TQ.thenN (hY1 _ _ ?_)
  refine TW.seq fun Y2 hY2 => ?_
  refine TW.seq fun Y3 hY3 => ?_
  refine TW.join [(13, .bool (decide (20 < (nw : Int)) || decide (40 < (nl : Int))))] ?_ (fun hJ1 => ?_)
  refine TQ.thenN (hY3 _ _ ?_)
  refine TW.cond rfl (fun hc0 => ?_) (fun hc0 => ?_)
  try simp only [decide_eq_true_eq, decide_eq_false_iff_not, Bool.not_eq_true', Bool.not_eq_false', Bool.and_eq_true, Bool.or_eq_true, Bool.and_eq_false_iff, Bool.or_eq_false_iff, Int.not_lt, Int.not_le] at hc0
  have hg : (decide (20 < (nw : Int)) || decide (40 < (nl : Int))) = true := by simpa using hc0
  refine TW.seq fun Y4 hY4 => ?_
  refine TW.region ?_
  refine TL.p Pu.as ?_
  refine TL.nil ?_
  refine TQ.thenN (hY4 _ _ ?_)
  refine TW.ret ?_
  refine TQ.thenR ?_
  refine TQ.ret Tryz.results54 rfl ((.tmp rfl .nil)) ?_
  exact fun w hw => ⟨ret_bool (by unfold great3; rw [hg]; rfl), Chg.ext hw.chg⟩
  try simp only [decide_eq_true_eq, decide_eq_false_iff_not, Bool.not_eq_true', Bool.not_eq_false', Bool.and_eq_true, Bool.or_eq_true, Bool.and_eq_false_iff, Bool.or_eq_false_iff, Int.not_lt, Int.not_le] at hc0
  have hg : (decide (20 < (nw : Int)) || decide (40 < (nl : Int))) = false := by simpa using hc0
  have hl : nl ≤ 40 := by omega
  refine TW.skip ?_
  refine TQ.thenN (hY2 _ _ ?_)
  refine TW.seq fun Y5 hY5 => ?_
  refine TW.seq fun Y6 hY6 => ?_
  refine TW.region ?_
  refine TL.p Pu.as ?_
  refine TL.nil ?_
  refine TQ.thenN (hY6 _ _ ?_)
  refine TW.block ?_
  refine TW.loop1 (fun (k : Nat) => [(3, .int .i64 (k : Int)), (1, .pointer (some ⟨b1, 0, none⟩))]) (fun k => [.blk b1 25 [.slice W nw cw, .slice A nl cl]]) (fun k => k ≤ nl ∧ ∀ j, j < k → decide (20 < ((x j).n : Int)) = false) (fun k => nl - k) 0 fs9 ?_ ?_ ?_
  exact ks9
  exact ⟨Nat.zero_le _, fun j hj => by omega⟩
  rintro k ⟨hk, hall⟩ Z0 hZ0
  refine TW.seq fun Y7 hY7 => ?_
  refine TW.seq fun Y8 hY8 => ?_
  refine TW.region ?_
  refine TL.p Pu.mv ?_
  refine TL.p (by first | exact Pu.fb ty_fa25_1 | exact Pu.fe ty_fa25_1) ?_
  refine TL.p (Pu.ld ty_sc23) ?_
  refine TL.p (Pu.ln Tryz.underlying23) ?_
  refine TL.p Pu.lt ?_
  refine TL.nil ?_
  refine TQ.thenN (hY8 _ _ ?_)
  refine TW.cond rfl (fun hc1 => ?_) (fun hc1 => ?_)
  try simp only [decide_eq_true_eq, decide_eq_false_iff_not, Bool.not_eq_true', Bool.not_eq_false', Bool.and_eq_true, Bool.or_eq_true, Bool.and_eq_false_iff, Bool.or_eq_false_iff, Int.not_lt, Int.not_le] at hc1
  have hkn : k < nl := by omega
  refine TW.skip ?_
  refine TQ.thenN (hY7 _ _ ?_)
  refine TW.seq fun Y9 hY9 => ?_
  refine TW.block ?_
  refine TW.seq fun Y10 hY10 => ?_
  refine TW.region ?_
  refine TL.p (by first | exact Pu.fb ty_fa25_1 | exact Pu.fe ty_fa25_1) ?_
  refine TL.p (Pu.ld ty_sc23) ?_
  refine TL.p Pu.mv ?_
  refine TL.p (Pu.el ty_et23) ?_
  refine TL.p (by first | exact Pu.fb ty_fa122_3 | exact Pu.fe ty_fa122_3) ?_
  refine TL.p (Pu.ld ty_sc120) ?_
  refine TL.p (Pu.ln Tryz.underlying120) ?_
  refine TL.p Pu.gt ?_
  refine TL.nil ?_
  refine TQ.thenN (hY10 _ _ ?_)
  refine TW.cond rfl (fun hc2 => ?_) (fun hc2 => ?_)
  try simp only [decide_eq_true_eq, decide_eq_false_iff_not, Bool.not_eq_true', Bool.not_eq_false', Bool.and_eq_true, Bool.or_eq_true, Bool.and_eq_false_iff, Bool.or_eq_false_iff, Int.not_lt, Int.not_le] at hc2
  have h9 : decide (20 < ((x k).n : Int)) = true := by simpa using hc2
  refine TW.seq fun Y11 hY11 => ?_
  refine TW.region ?_
  refine TL.p Pu.as ?_
  refine TL.nil ?_
  refine TQ.thenN (hY11 _ _ ?_)
  refine TW.ret ?_
  refine TQ.blkR ?_
  refine TQ.thenR ?_
  refine TQ.thenR ?_
  refine TQ.blkR ?_
  refine TQ.thenR ?_
  refine TQ.ret Tryz.results54 rfl ((.tmp rfl .nil)) ?_
  exact fun w hw => ⟨ret_bool (by unfold great3; rw [hg, anyB_hit (p := fun k => decide (20 < ((x k).n : Int))) hkn h9]; rfl), Chg.ext hw.chg⟩
  try simp only [decide_eq_true_eq, decide_eq_false_iff_not, Bool.not_eq_true', Bool.not_eq_false', Bool.and_eq_true, Bool.or_eq_true, Bool.and_eq_false_iff, Bool.or_eq_false_iff, Int.not_lt, Int.not_le] at hc2
  have h9 : decide (20 < ((x k).n : Int)) = false := by simpa using hc2
  refine TW.skip ?_
  refine TQ.blkN ?_
  refine TQ.thenN (hY9 _ _ ?_)
  refine TW.region ?_
  refine TL.p Pu.mv ?_
  refine TL.p Pu.ad ?_
  refine TL.p Pu.as ?_
  refine TL.nil ?_
  refine TQ.thenN (hZ0 (k + 1) _ _ ?_ ?_ fs9 ?_)
  refine ⟨by omega, fun j hj => ?_⟩
  by_cases h : j = k
  subst h; exact h9
  exact hall j (by omega)
  exact (by first | omega | (simp only []; omega) | (simp; omega))
  exact ks9
  try simp only [decide_eq_true_eq, decide_eq_false_iff_not, Bool.not_eq_true', Bool.not_eq_false', Bool.and_eq_true, Bool.or_eq_true, Bool.and_eq_false_iff, Bool.or_eq_false_iff, Int.not_lt, Int.not_le] at hc1
  obtain rfl : k = nl := by omega
  refine TW.exit ?_
  refine TQ.thenX ?_
  refine TQ.thenX ?_
  refine TQ.blkX ?_
  refine TQ.thenN (hY5 _ _ ?_)
  refine TW.seq fun Y12 hY12 => ?_
  refine TW.region ?_
  refine TL.p Pu.as ?_
  refine TL.nil ?_
  refine TQ.thenN (hY12 _ _ ?_)
  refine TW.ret ?_
  refine TQ.ret Tryz.results54 rfl ((.tmp rfl .nil)) ?_
  exact fun w hw => ⟨ret_bool (by unfold great3; rw [hg, anyB_none hall]; rfl), Chg.ext hw.chg⟩
  refine TW.region ?_
  refine TL.p (by first | exact Pu.fb ty_fa25_0 | exact Pu.fe ty_fa25_0) ?_
  refine TL.p (Pu.ld ty_sc22) ?_
  refine TL.p (Pu.ln Tryz.underlying22) ?_
  refine TL.p Pu.gt ?_
  refine TL.p Pu.mv ?_
  refine TL.guard (t := 8) rfl (fun hg1 => ?_) (fun hg1 => ?_)
  refine TL.gs ?_
  refine TL.gs ?_
  refine TL.gs ?_
  refine TL.gs ?_
  refine TL.p Pu.kt ?_
  refine TL.nil ?_
  exact TQ.sub (by repeat (first | exact trivial | refine ⟨rfl, ?_⟩ | refine ⟨trivial, ?_⟩ | refine ⟨(by show some (Value.bool _) = some (Value.bool _); first | (simp [hg1]; done) | (refine congrArg (fun z => some (Value.bool z)) (Bool.eq_iff_iff.2 ?_); simp [hg1]; omega)), ?_⟩)) ks9 hJ1
  refine TL.gd (by first | exact Pu.fb ty_fa25_1 | exact Pu.fe ty_fa25_1) ?_
  refine TL.gd (Pu.ld ty_sc23) ?_
  refine TL.gd (Pu.ln Tryz.underlying23) ?_
  refine TL.gd Pu.gt ?_
  refine TL.p Pu.kf ?_
  refine TL.nil ?_
  exact TQ.sub (by repeat (first | exact trivial | refine ⟨rfl, ?_⟩ | refine ⟨trivial, ?_⟩ | refine ⟨(by show some (Value.bool _) = some (Value.bool _); first | (simp [hg1]; done) | (refine congrArg (fun z => some (Value.bool z)) (Bool.eq_iff_iff.2 ?_); simp [hg1]; omega)), ?_⟩)) ks9 hJ1
def troopL (hd wo : Int) (O : Option Addr) (no co : Nat) (U : Option Addr) (nu cu : Nat) (V : Option Addr) (nv cv : Nat) : List Value := [.int .i64 hd, .int .i64 wo, .slice O no co, .slice U nu cu, .slice V nv cv]
def great7 (nw nl : Nat) (x : Nat → Leg) (nc nd nb no nu nv : Nat) : Bool :=
  great3 nw nl x || decide (40 < (nc : Int)) || decide (30 < (nd : Int)) || decide (30 < (nb : Int)) || decide (12 < (no : Int)) || decide (12 < (nu : Int)) || decide (12 < (nv : Int))
set_option maxRecDepth 100000 in
set_option maxHeartbeats 1000000 in
theorem great7_any {W A C D B O U V : Option Addr} {nw cw nl cl nc cc nd cd nb cb no co nu cu nv cv : Nat} {hd wo : Int} {x : Nat → Leg} {w : World} (hA : RdR w 5 A nl (fun k => legL (x k))) :
    Calls Tryz.prog 14 #[.agg (landL W nw cw A nl cl).toArray, .agg (custL C nc cc D nd cd B nb cb).toArray, .agg (troopL hd wo O no co U nu cu V nv cv).toArray] w (Ret w (.bool (great7 nw nl x nc nd nb no nu nv))) := by
  unfold landL custL troopL
  refine K_enter (S := []) (K := []) Tryz.func14 rfl Tryz.ntmps14 rfl (Sat.start _) ?_
  refine TW.seq fun Y1 hY1 => ?_
  refine TW.region ?_
  refine TL.m Mk.bx ?_
  intro b1
  refine TL.m Mk.bx ?_
  intro b2
  refine TL.m Mk.bx ?_
  intro b3
  refine TL.p Pu.as ?_
  refine TL.nil ?_
  refine TQ.thenN (hY1 _ _ ?_)
  refine TW.seq fun Y2 hY2 => ?_
  refine TW.join [(6, .bool (great7 nw nl x nc nd nb no nu nv))] ?_ (fun hJ1 => ?_)
  refine TQ.thenN (hY2 _ _ ?_)
  refine TW.ret ?_
  refine TQ.ret Tryz.results14 rfl ((.tmp rfl .nil)) ?_
  exact fun w hw => Ret.of hw
  refine TW.region ?_
  refine TL.p (Pu.lds ty_ag25) ?_
  refine TL.cr rfl (enters Tryz.func54 rfl rfl) (fun w hw => by
      exact great3_any (hA.sat hw Apart.nil)) ?_
  refine TL.p Pu.mv ?_
  refine TL.guard (t := 9) rfl (fun hg1 => ?_) (fun hg1 => ?_)
  refine TL.gs ?_
  refine TL.gs ?_
  refine TL.gs ?_
  refine TL.gs ?_
  refine TL.p Pu.kt ?_
  refine TL.p Pu.mv ?_
  refine TL.gs ?_
  refine TL.gs ?_
  refine TL.gs ?_
  refine TL.gs ?_
  refine TL.p Pu.kt ?_
  refine TL.p Pu.mv ?_
  refine TL.gs ?_
  refine TL.gs ?_
  refine TL.gs ?_
  refine TL.gs ?_
  refine TL.p Pu.kt ?_
  refine TL.p Pu.mv ?_
  refine TL.gs ?_
  refine TL.gs ?_
  refine TL.gs ?_
  refine TL.gs ?_
  refine TL.p Pu.kt ?_
  refine TL.p Pu.mv ?_
  refine TL.gs ?_
  refine TL.gs ?_
  refine TL.gs ?_
  refine TL.gs ?_
  refine TL.p Pu.kt ?_
  refine TL.p Pu.mv ?_
  refine TL.gs ?_
  refine TL.gs ?_
  refine TL.gs ?_
  refine TL.gs ?_
  refine TL.p Pu.kt ?_
  refine TL.p Pu.as ?_
  refine TL.nil ?_
  exact TQ.sub (by repeat (first | exact trivial | refine ⟨rfl, ?_⟩ | refine ⟨trivial, ?_⟩ | refine ⟨(by show some (Value.bool _) = some (Value.bool _); first | (simp [hg1, great7]; done) | (refine congrArg (fun z => some (Value.bool z)) (Bool.eq_iff_iff.2 ?_); simp [hg1, great7]; omega)), ?_⟩)) ks9 hJ1
  refine TL.gd (by first | exact Pu.fb ty_fa30_0 | exact Pu.fe ty_fa30_0) ?_
  refine TL.gd (Pu.ld ty_sc26) ?_
  refine TL.gd (Pu.ln Tryz.underlying26) ?_
  refine TL.gd Pu.gt ?_
  refine TL.p Pu.kf ?_
  refine TL.p Pu.mv ?_
  refine TL.guard (t := 15) rfl (fun hg2 => ?_) (fun hg2 => ?_)
  refine TL.gs ?_
  refine TL.gs ?_
  refine TL.gs ?_
  refine TL.gs ?_
  refine TL.p Pu.kt ?_
  refine TL.p Pu.mv ?_
  refine TL.gs ?_
  refine TL.gs ?_
  refine TL.gs ?_
  refine TL.gs ?_
  refine TL.p Pu.kt ?_
  refine TL.p Pu.mv ?_
  refine TL.gs ?_
  refine TL.gs ?_
  refine TL.gs ?_
  refine TL.gs ?_
  refine TL.p Pu.kt ?_
  refine TL.p Pu.mv ?_
  refine TL.gs ?_
  refine TL.gs ?_
  refine TL.gs ?_
  refine TL.gs ?_
  refine TL.p Pu.kt ?_
  refine TL.p Pu.mv ?_
  refine TL.gs ?_
  refine TL.gs ?_
  refine TL.gs ?_
  refine TL.gs ?_
  refine TL.p Pu.kt ?_
  refine TL.p Pu.as ?_
  refine TL.nil ?_
  exact TQ.sub (by repeat (first | exact trivial | refine ⟨rfl, ?_⟩ | refine ⟨trivial, ?_⟩ | refine ⟨(by show some (Value.bool _) = some (Value.bool _); first | (simp [hg1, hg2, great7]; done) | (refine congrArg (fun z => some (Value.bool z)) (Bool.eq_iff_iff.2 ?_); simp [hg1, hg2, great7]; omega)), ?_⟩)) ks9 hJ1
  refine TL.gd (by first | exact Pu.fb ty_fa30_1 | exact Pu.fe ty_fa30_1) ?_
  refine TL.gd (Pu.ld ty_sc27) ?_
  refine TL.gd (Pu.ln Tryz.underlying27) ?_
  refine TL.gd Pu.gt ?_
  refine TL.p Pu.kf ?_
  refine TL.p Pu.mv ?_
  refine TL.guard (t := 21) rfl (fun hg3 => ?_) (fun hg3 => ?_)
  refine TL.gs ?_
  refine TL.gs ?_
  refine TL.gs ?_
  refine TL.gs ?_
  refine TL.p Pu.kt ?_
  refine TL.p Pu.mv ?_
  refine TL.gs ?_
  refine TL.gs ?_
  refine TL.gs ?_
  refine TL.gs ?_
  refine TL.p Pu.kt ?_
  refine TL.p Pu.mv ?_
  refine TL.gs ?_
  refine TL.gs ?_
  refine TL.gs ?_
  refine TL.gs ?_
  refine TL.p Pu.kt ?_
  refine TL.p Pu.mv ?_
  refine TL.gs ?_
  refine TL.gs ?_
  refine TL.gs ?_
  refine TL.gs ?_
  refine TL.p Pu.kt ?_
  refine TL.p Pu.as ?_
  refine TL.nil ?_
  exact TQ.sub (by repeat (first | exact trivial | refine ⟨rfl, ?_⟩ | refine ⟨trivial, ?_⟩ | refine ⟨(by show some (Value.bool _) = some (Value.bool _); first | (simp [hg1, hg2, hg3, great7]; done) | (refine congrArg (fun z => some (Value.bool z)) (Bool.eq_iff_iff.2 ?_); simp [hg1, hg2, hg3, great7]; omega)), ?_⟩)) ks9 hJ1
  refine TL.gd (by first | exact Pu.fb ty_fa30_2 | exact Pu.fe ty_fa30_2) ?_
  refine TL.gd (Pu.ld ty_sc28) ?_
  refine TL.gd (Pu.ln Tryz.underlying28) ?_
  refine TL.gd Pu.gt ?_
  refine TL.p Pu.kf ?_
  refine TL.p Pu.mv ?_
  refine TL.guard (t := 27) rfl (fun hg4 => ?_) (fun hg4 => ?_)
  refine TL.gs ?_
  refine TL.gs ?_
  refine TL.gs ?_
  refine TL.gs ?_
  refine TL.p Pu.kt ?_
  refine TL.p Pu.mv ?_
  refine TL.gs ?_
  refine TL.gs ?_
  refine TL.gs ?_
  refine TL.gs ?_
  refine TL.p Pu.kt ?_
  refine TL.p Pu.mv ?_
  refine TL.gs ?_
  refine TL.gs ?_
  refine TL.gs ?_
  refine TL.gs ?_
  refine TL.p Pu.kt ?_
  refine TL.p Pu.as ?_
  refine TL.nil ?_
  exact TQ.sub (by repeat (first | exact trivial | refine ⟨rfl, ?_⟩ | refine ⟨trivial, ?_⟩ | refine ⟨(by show some (Value.bool _) = some (Value.bool _); first | (simp [hg1, hg2, hg3, hg4, great7]; done) | (refine congrArg (fun z => some (Value.bool z)) (Bool.eq_iff_iff.2 ?_); simp [hg1, hg2, hg3, hg4, great7]; omega)), ?_⟩)) ks9 hJ1
  refine TL.gd (by first | exact Pu.fb ty_fa33_2 | exact Pu.fe ty_fa33_2) ?_
  refine TL.gd (Pu.ld ty_sc31) ?_
  refine TL.gd (Pu.ln Tryz.underlying31) ?_
  refine TL.gd Pu.gt ?_
  refine TL.p Pu.kf ?_
  refine TL.p Pu.mv ?_
  refine TL.guard (t := 33) rfl (fun hg5 => ?_) (fun hg5 => ?_)
  refine TL.gs ?_
  refine TL.gs ?_
  refine TL.gs ?_
  refine TL.gs ?_
  refine TL.p Pu.kt ?_
  refine TL.p Pu.mv ?_
  refine TL.gs ?_
  refine TL.gs ?_
  refine TL.gs ?_
  refine TL.gs ?_
  refine TL.p Pu.kt ?_
  refine TL.p Pu.as ?_
  refine TL.nil ?_
  exact TQ.sub (by repeat (first | exact trivial | refine ⟨rfl, ?_⟩ | refine ⟨trivial, ?_⟩ | refine ⟨(by show some (Value.bool _) = some (Value.bool _); first | (simp [hg1, hg2, hg3, hg4, hg5, great7]; done) | (refine congrArg (fun z => some (Value.bool z)) (Bool.eq_iff_iff.2 ?_); simp [hg1, hg2, hg3, hg4, hg5, great7]; omega)), ?_⟩)) ks9 hJ1
  refine TL.gd (by first | exact Pu.fb ty_fa33_3 | exact Pu.fe ty_fa33_3) ?_
  refine TL.gd (Pu.ld ty_sc31) ?_
  refine TL.gd (Pu.ln Tryz.underlying31) ?_
  refine TL.gd Pu.gt ?_
  refine TL.p Pu.kf ?_
  refine TL.p Pu.mv ?_
  refine TL.guard (t := 39) rfl (fun hg6 => ?_) (fun hg6 => ?_)
  refine TL.gs ?_
  refine TL.gs ?_
  refine TL.gs ?_
  refine TL.gs ?_
  refine TL.p Pu.kt ?_
  refine TL.p Pu.as ?_
  refine TL.nil ?_
  exact TQ.sub (by repeat (first | exact trivial | refine ⟨rfl, ?_⟩ | refine ⟨trivial, ?_⟩ | refine ⟨(by show some (Value.bool _) = some (Value.bool _); first | (simp [hg1, hg2, hg3, hg4, hg5, hg6, great7]; done) | (refine congrArg (fun z => some (Value.bool z)) (Bool.eq_iff_iff.2 ?_); simp [hg1, hg2, hg3, hg4, hg5, hg6, great7]; omega)), ?_⟩)) ks9 hJ1
  refine TL.gd (by first | exact Pu.fb ty_fa33_4 | exact Pu.fe ty_fa33_4) ?_
  refine TL.gd (Pu.ld ty_sc31) ?_
  refine TL.gd (Pu.ln Tryz.underlying31) ?_
  refine TL.gd Pu.gt ?_
  refine TL.p Pu.kf ?_
  refine TL.p Pu.as ?_
  refine TL.nil ?_
  exact TQ.sub (by repeat (first | exact trivial | refine ⟨rfl, ?_⟩ | refine ⟨trivial, ?_⟩ | refine ⟨(by show some (Value.bool _) = some (Value.bool _); first | (simp [hg1, hg2, hg3, hg4, hg5, hg6, great7]; done) | (refine congrArg (fun z => some (Value.bool z)) (Bool.eq_iff_iff.2 ?_); simp [hg1, hg2, hg3, hg4, hg5, hg6, great7]; omega)), ?_⟩)) ks9 hJ1
end Go.Proofs.YtmonkjnfjgidbaaGreatDoor
namespace Go.Proofs.YtmonkjnfjgidbaaGreatDoor
set_option linter.all false
set_option linter.unusedVariables false
set_option linter.unusedSimpArgs false
open Go.RowKit
structure Cus where
  nc : Nat
  nd : Nat
  nb : Nat
  c : Nat → (Nat → Int) × Bool
  d : Nat → Nat → Int
  b : Nat → Nat → Int
structure Trp where
  hd : Int
  wo : Int
  no : Nat
  nu : Nat
  nv : Nat
  o : Nat → Int
  u : Nat → Int
  v : Nat → Int
structure TrpIn (w : World) (T : Trp) (O U V : Option Addr) : Prop where
  hno : T.no ≤ 1000
  hnu : T.nu ≤ 1000
  hnv : T.nv ≤ 1000
  hO : RdR w 1 O T.no (fun k => [.int .i64 (T.o k)])
  hU : RdR w 1 U T.nu (fun k => [.int .i64 (T.u k)])
  hV : RdR w 1 V T.nv (fun k => [.int .i64 (T.v k)])
theorem TrpIn.ext {w w' : World} {T : Trp} {O U V : Option Addr} (h : TrpIn w T O U V) (hb : Below w.heap.size w w') : TrpIn w' T O U V :=
  ⟨h.hno, h.hnu, h.hnv, h.hO.chg (Chg.of_ext hb) Apart.nil, h.hU.chg (Chg.of_ext hb) Apart.nil, h.hV.chg (Chg.of_ext hb) Apart.nil⟩
def triK (v : Nat → Int) (k : Nat) : Bool := inB5 0 7 (v k) && (decide (k = 0) || decide (v (k - 1) < v k))
theorem tri_no {v : Nat → Int} {n k : Nat} (hk : k < n) (h : triK v k = false) : triOk v n = false := by
  unfold triOk
  rw [Bool.eq_false_iff]
  intro h2
  have := allB_iff.1 h2 k hk
  rw [← triK, h] at this
  cases this
set_option maxRecDepth 100000 in
theorem list_any {A : Option Addr} {n cp : Nat} {v : Nat → Int} {w : World} (hn : n ≤ 1000) (hR : RdR w 1 A n (fun k => [.int .i64 (v k)])) :
    Calls Tryz.prog 84 #[.slice A n cp] w (Ret w (.bool (triOk v n))) := by
  refine K_enter (S := []) (K := []) Tryz.func84 rfl Tryz.ntmps84 rfl (Sat.start _) ?_
  refine TW.seq fun Y1 hY1 => ?_
  refine TW.region ?_
  refine TL.p Pu.as ?_
  refine TL.nil ?_
  refine TQ.thenN (hY1 _ _ ?_)
  refine TW.seq fun Y2 hY2 => ?_
  refine TW.seq fun Y3 hY3 => ?_
  refine TW.region ?_
  refine TL.p Pu.as ?_
  refine TL.nil ?_
  refine TQ.thenN (hY3 _ _ ?_)
  refine TW.block ?_
  refine TW.loop1 (fun (k : Nat) => [(3, .int .i64 (k : Int)), (0, .slice A n cp)]) (fun k => []) (fun k => k ≤ n ∧ ∀ j, j < k → triK v j = true) (fun k => n - k) 0 fs9 ?_ ?_ ?_
  exact ks9
  exact ⟨Nat.zero_le _, fun j hj => by omega⟩
  rintro k ⟨hk, hall⟩ Z0 hZ0
  refine TW.seq fun Y4 hY4 => ?_
  refine TW.seq fun Y5 hY5 => ?_
  refine TW.region ?_
  refine TL.p Pu.mv ?_
  refine TL.p Pu.mv ?_
  refine TL.p (Pu.ln Tryz.underlying31) ?_
  refine TL.p Pu.lt ?_
  refine TL.nil ?_
  refine TQ.thenN (hY5 _ _ ?_)
  refine TW.cond rfl (fun hc0 => ?_) (fun hc0 => ?_)
  try simp only [decide_eq_true_eq, decide_eq_false_iff_not, Bool.not_eq_true', Bool.not_eq_false', Bool.and_eq_true, Bool.or_eq_true, Bool.and_eq_false_iff, Bool.or_eq_false_iff, Int.not_lt, Int.not_le] at hc0
  have hkn : k < n := by omega
  have e1 : (0 < (k : Int)) = ¬ (k = 0) := by simp; omega
  refine TW.skip ?_
  refine TQ.thenN (hY4 _ _ ?_)
  refine TW.seq fun Y6 hY6 => ?_
  refine TW.block ?_
  refine TW.seq fun Y7 hY7 => ?_
  refine TW.join [(31, .bool (!triK v k))] ?_ (fun hJ1 => ?_)
  refine TQ.thenN (hY7 _ _ ?_)
  refine TW.cond rfl (fun hc1 => ?_) (fun hc1 => ?_)
  try simp only [decide_eq_true_eq, decide_eq_false_iff_not, Bool.not_eq_true', Bool.not_eq_false', Bool.and_eq_true, Bool.or_eq_true, Bool.and_eq_false_iff, Bool.or_eq_false_iff, Int.not_lt, Int.not_le] at hc1
  have hg : triK v k = false := by simpa using hc1
  refine TW.seq fun Y8 hY8 => ?_
  refine TW.region ?_
  refine TL.p Pu.as ?_
  refine TL.nil ?_
  refine TQ.thenN (hY8 _ _ ?_)
  refine TW.ret ?_
  refine TQ.blkR ?_
  refine TQ.thenR ?_
  refine TQ.thenR ?_
  refine TQ.blkR ?_
  refine TQ.thenR ?_
  refine TQ.ret Tryz.results84 rfl ((.tmp rfl .nil)) ?_
  exact fun w hw => ⟨ret_bool (by rw [tri_no hkn hg]), Chg.ext hw.chg⟩
  try simp only [decide_eq_true_eq, decide_eq_false_iff_not, Bool.not_eq_true', Bool.not_eq_false', Bool.and_eq_true, Bool.or_eq_true, Bool.and_eq_false_iff, Bool.or_eq_false_iff, Int.not_lt, Int.not_le] at hc1
  have hg : triK v k = true := by simpa using hc1
  refine TW.skip ?_
  refine TQ.blkN ?_
  refine TQ.thenN (hY6 _ _ ?_)
  refine TW.region ?_
  refine TL.p Pu.mv ?_
  refine TL.p Pu.ad ?_
  refine TL.p Pu.as ?_
  refine TL.nil ?_
  refine TQ.thenN (hZ0 (k + 1) _ _ ?_ ?_ fs9 ?_)
  exact ⟨by omega, fun j hj => (Nat.lt_succ_iff_lt_or_eq.1 hj).elim (hall j) (fun e => e ▸ hg)⟩
  exact (by first | omega | (simp only []; omega) | (simp; omega))
  exact ks9
  refine TW.dw 22 ?_
  refine RK.tk Pu.mv ?_
  refine RK.tk Pu.mv ?_
  refine RK.tk (Pu.el ty_et31) ?_
  refine RK.tk (Pu.ld ty_sc3) ?_
  refine RK.keep ?_
  refine RK.keep ?_
  refine RK.keep ?_
  refine RK.keep ?_
  refine RK.keep ?_
  refine RK.keep ?_
  refine RK.keep ?_
  refine RK.keep ?_
  refine RK.keep ?_
  refine RK.keep ?_
  refine RK.keep ?_
  refine RK.keep ?_
  refine RK.keep ?_
  refine RK.keep ?_
  refine RK.keep ?_
  refine RK.keep ?_
  refine RK.keep ?_
  refine RK.keep ?_
  refine RK.ch [false, true, true, true, true, true, true, true, true, true, true, true, true, true, true, true, true, true] ?_ trivial
  refine WK.cr rfl (enters Tryz.func65 rfl rfl) (fun w hw => by
      exact within7_any _ _ _ _) ?_
  refine WK.p Pu.no ?_
  refine WK.p Pu.mv ?_
  refine WK.guard (t := 16) rfl (fun hg1 => ?_) (fun hg1 => ?_)
  try simp only [decide_eq_true_eq, decide_eq_false_iff_not, Bool.not_eq_true', Bool.not_eq_false', Int.natCast_pos] at hg1
  refine WK.ps ?_
  refine WK.ps ?_
  refine WK.ps ?_
  refine WK.ps ?_
  refine WK.ps ?_
  refine WK.ps ?_
  refine WK.ps ?_
  refine WK.ps ?_
  refine WK.ps ?_
  refine WK.ps ?_
  refine WK.ps ?_
  refine WK.ps ?_
  refine WK.ps ?_
  refine WK.ps ?_
  refine WK.p Pu.kt ?_
  refine WK.n ?_
  refine TL.nil ?_
  exact TQ.sub (by repeat (first | exact trivial | refine ⟨rfl, ?_⟩ | refine ⟨trivial, ?_⟩ | refine ⟨(by show some (Value.bool _) = some (Value.bool _); first | (simp [hg1, triK]; done) | (refine congrArg (fun z => some (Value.bool z)) (Bool.eq_iff_iff.2 ?_); simp [hg1, triK]; omega)), ?_⟩)) ks9 hJ1
  try simp only [decide_eq_true_eq, decide_eq_false_iff_not, Bool.not_eq_true', Bool.not_eq_false', Int.natCast_pos] at hg1
  refine WK.p Pu.mv ?_
  refine WK.p Pu.gt ?_
  refine WK.p Pu.mv ?_
  refine WK.guard (t := 19) rfl (fun hg2 => ?_) (fun hg2 => ?_)
  try simp only [decide_eq_true_eq, decide_eq_false_iff_not, Bool.not_eq_true', Bool.not_eq_false', Int.natCast_pos] at hg2
  refine WK.p Pu.mv ?_
  refine WK.p Pu.mv ?_
  refine WK.p (Pu.el ty_et31) ?_
  refine WK.p (Pu.ld ty_sc3) ?_
  refine WK.p Pu.mv ?_
  refine WK.p Pu.mv ?_
  refine WK.p Pu.sb ?_
  refine WK.p (Pu.el (q := k - 1) ty_et31 (hk := by omega)) ?_
  refine WK.p (Pu.ld ty_sc3) ?_
  refine WK.p Pu.le ?_
  refine WK.p Pu.kt ?_
  refine WK.p Pu.kf ?_
  refine WK.n ?_
  refine TL.nil ?_
  exact TQ.sub (by repeat (first | exact trivial | refine ⟨rfl, ?_⟩ | refine ⟨trivial, ?_⟩ | refine ⟨(by show some (Value.bool _) = some (Value.bool _); first | (simp [hg1, hg2, triK]; done) | (refine congrArg (fun z => some (Value.bool z)) (Bool.eq_iff_iff.2 ?_); simp [hg1, hg2, triK]; omega)), ?_⟩)) ks9 hJ1
  try simp only [decide_eq_true_eq, decide_eq_false_iff_not, Bool.not_eq_true', Bool.not_eq_false', Int.natCast_pos] at hg2
  refine WK.ps ?_
  refine WK.ps ?_
  refine WK.ps ?_
  refine WK.ps ?_
  refine WK.ps ?_
  refine WK.ps ?_
  refine WK.ps ?_
  refine WK.ps ?_
  refine WK.ps ?_
  refine WK.ps ?_
  refine WK.p Pu.kf ?_
  refine WK.p Pu.kf ?_
  refine WK.n ?_
  refine TL.nil ?_
  exact TQ.sub (by repeat (first | exact trivial | refine ⟨rfl, ?_⟩ | refine ⟨trivial, ?_⟩ | refine ⟨(by show some (Value.bool _) = some (Value.bool _); first | (simp [hg1, hg2, triK]; done) | (refine congrArg (fun z => some (Value.bool z)) (Bool.eq_iff_iff.2 ?_); simp [hg1, hg2, triK]; omega)), ?_⟩)) ks9 hJ1
  try simp only [decide_eq_true_eq, decide_eq_false_iff_not, Bool.not_eq_true', Bool.not_eq_false', Bool.and_eq_true, Bool.or_eq_true, Bool.and_eq_false_iff, Bool.or_eq_false_iff, Int.not_lt, Int.not_le] at hc0
  have hkn : k = n := by omega
  refine TW.exit ?_
  refine TQ.thenX ?_
  refine TQ.thenX ?_
  refine TQ.blkX ?_
  refine TQ.thenN (hY2 _ _ ?_)
  refine TW.seq fun Y9 hY9 => ?_
  refine TW.region ?_
  refine TL.p Pu.as ?_
  refine TL.nil ?_
  refine TQ.thenN (hY9 _ _ ?_)
  refine TW.ret ?_
  refine TQ.ret Tryz.results84 rfl ((.tmp rfl .nil)) ?_
  exact fun w hw => ⟨ret_bool (by unfold triOk; exact allB_iff.2 fun j hj => hall j (by omega)), Chg.ext hw.chg⟩
def trpOk (T : Trp) : Bool := inB5 1 1000 T.hd && inB5 0 1000000000000 T.wo && triOk T.o T.no && triOk T.u T.nu && triOk T.v T.nv
set_option maxRecDepth 100000 in
theorem rTroop_any {T : Trp} {O U V : Option Addr} {co cu cv : Nat} {w : World} (h : TrpIn w T O U V) :
    Calls Tryz.prog 51 #[.agg (troopL T.hd T.wo O T.no co U T.nu cu V T.nv cv).toArray] w (Ret w (.bool (trpOk T))) := by
  have hO := h.hO
  have hU := h.hU
  have hV := h.hV
  unfold troopL
  refine K_enter (S := []) (K := []) Tryz.func51 rfl Tryz.ntmps51 rfl (Sat.start _) ?_
  refine TW.seq fun Y1 hY1 => ?_
  refine TW.region ?_
  refine TL.m Mk.bx ?_
  intro b1
  refine TL.p Pu.as ?_
  refine TL.nil ?_
  refine TQ.thenN (hY1 _ _ ?_)
  refine TW.seq fun Y2 hY2 => ?_
  refine TW.join [(2, .bool (trpOk T))] ?_ (fun hJ1 => ?_)
  refine TQ.thenN (hY2 _ _ ?_)
  refine TW.ret ?_
  refine TQ.ret Tryz.results51 rfl ((.tmp rfl .nil)) ?_
  exact fun w hw => Ret.of hw
  refine TW.region ?_
  refine TL.p (by first | exact Pu.fb ty_fa33_0 | exact Pu.fe ty_fa33_0) ?_
  refine TL.p (Pu.ld ty_sc3) ?_
  refine TL.cr rfl (enters Tryz.func65 rfl rfl) (fun w hw => by
      exact within7_any _ _ _ _) ?_
  refine TL.p Pu.mv ?_
  refine TL.guard (t := 6) rfl (fun hg1 => ?_) (fun hg1 => ?_)
  refine TL.gd (by first | exact Pu.fb ty_fa33_1 | exact Pu.fe ty_fa33_1) ?_
  refine TL.gd (Pu.ld ty_sc3) ?_
  refine TL.cr rfl (enters Tryz.func65 rfl rfl) (fun w hw => by
      exact within7_any _ _ _ _) ?_
  refine TL.p Pu.kt ?_
  refine TL.p Pu.mv ?_
  refine TL.guard (t := 11) rfl (fun hg2 => ?_) (fun hg2 => ?_)
  refine TL.gd (by first | exact Pu.fb ty_fa33_2 | exact Pu.fe ty_fa33_2) ?_
  refine TL.gd (Pu.ld ty_sc31) ?_
  refine TL.cr rfl (enters Tryz.func84 rfl rfl) (fun w hw => by
      exact list_any h.hno (hO.sat hw Apart.nil)) ?_
  refine TL.p Pu.kt ?_
  refine TL.p Pu.mv ?_
  refine TL.guard (t := 16) rfl (fun hg3 => ?_) (fun hg3 => ?_)
  refine TL.gd (by first | exact Pu.fb ty_fa33_3 | exact Pu.fe ty_fa33_3) ?_
  refine TL.gd (Pu.ld ty_sc31) ?_
  refine TL.cr rfl (enters Tryz.func84 rfl rfl) (fun w hw => by
      exact list_any h.hnu (hU.sat hw Apart.nil)) ?_
  refine TL.p Pu.kt ?_
  refine TL.p Pu.mv ?_
  refine TL.guard (t := 21) rfl (fun hg4 => ?_) (fun hg4 => ?_)
  refine TL.gd (by first | exact Pu.fb ty_fa33_4 | exact Pu.fe ty_fa33_4) ?_
  refine TL.gd (Pu.ld ty_sc31) ?_
  refine TL.cr rfl (enters Tryz.func84 rfl rfl) (fun w hw => by
      exact list_any h.hnv (hV.sat hw Apart.nil)) ?_
  refine TL.p Pu.kt ?_
  refine TL.p Pu.as ?_
  refine TL.nil ?_
  exact TQ.sub (by repeat (first | exact trivial | refine ⟨rfl, ?_⟩ | refine ⟨trivial, ?_⟩ | refine ⟨(by show some (Value.bool _) = some (Value.bool _); first | (simp [hg1, hg2, hg3, hg4, trpOk]; done) | (refine congrArg (fun z => some (Value.bool z)) (Bool.eq_iff_iff.2 ?_); simp [hg1, hg2, hg3, hg4, trpOk]; omega)), ?_⟩)) ks9 hJ1
  refine TL.gs ?_
  refine TL.gs ?_
  refine TL.gs ?_
  refine TL.p Pu.kf ?_
  refine TL.p Pu.as ?_
  refine TL.nil ?_
  exact TQ.sub (by repeat (first | exact trivial | refine ⟨rfl, ?_⟩ | refine ⟨trivial, ?_⟩ | refine ⟨(by show some (Value.bool _) = some (Value.bool _); first | (simp [hg1, hg2, hg3, hg4, trpOk]; done) | (refine congrArg (fun z => some (Value.bool z)) (Bool.eq_iff_iff.2 ?_); simp [hg1, hg2, hg3, hg4, trpOk]; omega)), ?_⟩)) ks9 hJ1
  refine TL.gs ?_
  refine TL.gs ?_
  refine TL.gs ?_
  refine TL.p Pu.kf ?_
  refine TL.p Pu.mv ?_
  refine TL.gs ?_
  refine TL.gs ?_
  refine TL.gs ?_
  refine TL.p Pu.kf ?_
  refine TL.p Pu.as ?_
  refine TL.nil ?_
  exact TQ.sub (by repeat (first | exact trivial | refine ⟨rfl, ?_⟩ | refine ⟨trivial, ?_⟩ | refine ⟨(by show some (Value.bool _) = some (Value.bool _); first | (simp [hg1, hg2, hg3, trpOk]; done) | (refine congrArg (fun z => some (Value.bool z)) (Bool.eq_iff_iff.2 ?_); simp [hg1, hg2, hg3, trpOk]; omega)), ?_⟩)) ks9 hJ1
  refine TL.gs ?_
  refine TL.gs ?_
  refine TL.gs ?_
  refine TL.p Pu.kf ?_
  refine TL.p Pu.mv ?_
  refine TL.gs ?_
  refine TL.gs ?_
  refine TL.gs ?_
  refine TL.p Pu.kf ?_
  refine TL.p Pu.mv ?_
  refine TL.gs ?_
  refine TL.gs ?_
  refine TL.gs ?_
  refine TL.p Pu.kf ?_
  refine TL.p Pu.as ?_
  refine TL.nil ?_
  exact TQ.sub (by repeat (first | exact trivial | refine ⟨rfl, ?_⟩ | refine ⟨trivial, ?_⟩ | refine ⟨(by show some (Value.bool _) = some (Value.bool _); first | (simp [hg1, hg2, trpOk]; done) | (refine congrArg (fun z => some (Value.bool z)) (Bool.eq_iff_iff.2 ?_); simp [hg1, hg2, trpOk]; omega)), ?_⟩)) ks9 hJ1
  refine TL.gs ?_
  refine TL.gs ?_
  refine TL.gs ?_
  refine TL.p Pu.kf ?_
  refine TL.p Pu.mv ?_
  refine TL.gs ?_
  refine TL.gs ?_
  refine TL.gs ?_
  refine TL.p Pu.kf ?_
  refine TL.p Pu.mv ?_
  refine TL.gs ?_
  refine TL.gs ?_
  refine TL.gs ?_
  refine TL.p Pu.kf ?_
  refine TL.p Pu.mv ?_
  refine TL.gs ?_
  refine TL.gs ?_
  refine TL.gs ?_
  refine TL.p Pu.kf ?_
  refine TL.p Pu.as ?_
  refine TL.nil ?_
  exact TQ.sub (by repeat (first | exact trivial | refine ⟨rfl, ?_⟩ | refine ⟨trivial, ?_⟩ | refine ⟨(by show some (Value.bool _) = some (Value.bool _); first | (simp [hg1, trpOk]; done) | (refine congrArg (fun z => some (Value.bool z)) (Bool.eq_iff_iff.2 ?_); simp [hg1, trpOk]; omega)), ?_⟩)) ks9 hJ1
theorem iL_app2 {L L' : List Int} {m : Nat} {x y : Int} {s : Nat → List Value} (hm : m = L.length) (hL : L' = L ++ [x, y]) (h0 : s 0 = [.int .i64 x]) (h1 : s 1 = [.int .i64 y]) : ∀ i, i < m + 2 → catR m (iL L) s i = iL L' i := fun i hi => by
  subst hL
  simp only [catR, iL]
  rw [getD_app]
  by_cases h : i < m
  · rw [if_pos h, if_pos (by omega)]
  · rw [if_neg h, if_neg (by omega), ← hm]
    have : i - m = 0 ∨ i - m = 1 := by omega
    rcases this with e | e <;> rw [e]
    · rw [h0]; rfl
    · rw [h1]; rfl
end Go.Proofs.YtmonkjnfjgidbaaGreatDoor
namespace Go.Proofs.YtmonkjnfjgidbaaGreatDoor
set_option linter.all false
set_option linter.unusedVariables false
set_option linter.unusedSimpArgs false
open Go.RowKit
structure CusOk (Z : Cus) : Prop where
  nc : Z.nc ≤ 30
  nd : Z.nd ≤ 20
  nb : Z.nb ≤ 20
  c : ∀ k, k < Z.nc → 0 ≤ (Z.c k).1 1 ∧ (Z.c k).1 1 ≤ 7 ∧ 0 ≤ (Z.c k).1 2 ∧ (Z.c k).1 2 ≤ (Z.c k).1 3 ∧ (Z.c k).1 3 ≤ 100000 ∧ 0 ≤ (Z.c k).1 4 ∧ (Z.c k).1 4 ≤ 1000000 ∧ 0 ≤ (Z.c k).1 5 ∧ (Z.c k).1 5 ≤ 1000
  d : ∀ k, k < Z.nd → 0 ≤ Z.d k 0 ∧ Z.d k 0 ≤ 7 ∧ 0 ≤ Z.d k 1 ∧ Z.d k 1 ≤ 7 ∧ 0 ≤ Z.d k 2 ∧ Z.d k 2 ≤ Z.d k 3 ∧ Z.d k 3 ≤ 100000
  b : ∀ k, k < Z.nb → 0 ≤ Z.b k 1 ∧ Z.b k 1 ≤ Z.b k 2 ∧ Z.b k 2 ≤ 100000
theorem cusOk_of {nl : Nat} {Z : Cus} (h : custC nl Z.nc Z.nd Z.nb Z.c Z.d Z.b = 0) : CusOk Z := by
  unfold custC at h
  split at h
  · cases h
  · next h1 =>
    split at h
    · cases h
    · next h2 =>
      split at h
      · cases h
      · next h3 =>
        rw [Bool.not_eq_false, Bool.and_eq_true] at h1 h2 h3
        simp only [Bool.not_eq_true', decide_eq_false_iff_not] at h1 h2 h3
        refine ⟨by omega, by omega, by omega, fun k hk => ?_, fun k hk => ?_, fun k hk => ?_⟩
        · have := allB_iff.1 h1.1 k hk
          unfold claimOk dayOk inB5 at this
          simp only [Bool.and_eq_true, decide_eq_true_eq] at this
          omega
        · have := allB_iff.1 h2.1 k hk
          unfold feudOk dayOk inB5 at this
          simp only [Bool.and_eq_true, decide_eq_true_eq] at this
          omega
        · have := allB_iff.1 h3.1 k hk
          unfold borderOk dayOk inB5 at this
          simp only [Bool.and_eq_true, decide_eq_true_eq] at this
          omega
def rulZ (Z : Cus) (lo : Int) : List Int := rulL lo Z.nc Z.nd Z.nb Z.c Z.d Z.b
def tuD (Z : Cus) (lo hi : Int) : List Int := tuK lo hi (fun k => (rulZ Z lo).getD k 0) (rulZ Z lo).length
theorem rulZ_len {Z : Cus} {lo : Int} (h1 : Z.nc ≤ 1000) (h2 : Z.nd ≤ 1000) (h3 : Z.nb ≤ 1000) : (rulZ Z lo).length ≤ 6001 := by
  unfold rulZ
  rw [rul_len]
  omega
section
variable {Z : Cus} {C D B : Option Addr} {cc cd cb : Nat} {w : World}
def feuZ (Z : Cus) (a b day : Int) : Bool := exB Z.nd fun k => feuR a b day (Z.d k)
theorem ex_no {n : Nat} {p : Nat → Bool} (h : ∀ j, j < n → p j = false) : exB n p = false := by
  rw [Bool.eq_false_iff]
  intro hh
  obtain ⟨j, hj, e⟩ := exB_iff.1 hh
  rw [h j hj] at e
  cases e
theorem ex_yes {n k : Nat} {p : Nat → Bool} (hk : k < n) (e : p k = true) : exB n p = true := exB_iff.2 ⟨k, hk, e⟩
end
end Go.Proofs.YtmonkjnfjgidbaaGreatDoor
namespace Go.Proofs.YtmonkjnfjgidbaaGreatDoor
set_option linter.all false
set_option linter.unusedVariables false
set_option linter.unusedSimpArgs false
open Go.RowKit
def closZ (Z : Cus) (leg day : Int) : Bool := exB Z.nb fun k => decide (Z.b k 0 = leg) && inB5 (Z.b k 1) (Z.b k 2) day
def holZ (Z : Cus) (leg day : Int) : Int := hb leg day Z.c Z.nc
def hclZ (Z : Cus) (leg day : Int) : (Nat → Int) × Bool := Z.c (holZ Z leg day).toNat
def peoA (T : Trp) (i : Nat) : Int := if i < T.no then T.o i else T.u (i - T.no)
def hatZ (Z : Cus) (T : Trp) (leg day : Int) : Bool := decide (0 ≤ holZ Z leg day) && exB (T.no + T.nu) fun i => feuZ Z (peoA T i) ((hclZ Z leg day).1 1) day
def losZ (Z : Cus) (T : Trp) (leg day : Int) : Bool := decide (0 ≤ holZ Z leg day) && ((hclZ Z leg day).2 && !hasB T.u T.nu ((hclZ Z leg day).1 1))
def whyZ (Z : Cus) (T : Trp) (leg day : Int) : Int := whyV (closZ Z leg day) (hatZ Z T leg day) (losZ Z T leg day)
def whoZ (Z : Cus) (leg day : Int) : Int := if 0 ≤ holZ Z leg day then (hclZ Z leg day).1 1 else -1
def payZ (Z : Cus) (T : Trp) (leg day : Int) : Int :=
  if 0 ≤ holZ Z leg day then (if hasB T.v T.nv ((hclZ Z leg day).1 1) = true then 0 else (hclZ Z leg day).1 4 * T.hd + ((hclZ Z leg day).1 5 * T.wo + 999) / 1000) else 0
theorem hol_bd {Z : Cus} {leg day : Int} : -1 ≤ holZ Z leg day ∧ holZ Z leg day < Z.nc := hb_bd _
theorem ret_u8 {a b : Int} (h : a = b) : Ending.returned (.int .u8 a) = .returned (.int .u8 b) := by rw [h]
section
variable {Z : Cus} {T : Trp} {C D B O U V : Option Addr} {cc cd cb co cu cv : Nat} {w : World}
end
end Go.Proofs.YtmonkjnfjgidbaaGreatDoor
namespace Go.Proofs.YtmonkjnfjgidbaaGreatDoor
set_option linter.all false
set_option linter.unusedVariables false
set_option linter.unusedSimpArgs false
open Go.RowKit
structure HidT (p : Prop) : Prop where
  out : p
theorem hidT {p : Prop} (h : p) : HidT p := ⟨h⟩
def stopL (s : Nat → Int) : List Value := [.int .i64 (s 0), .int .i64 (s 1), .int .i64 (s 2), .int .i64 (s 3), .int .i64 (s 4), .int .i64 (s 5)]
structure StpIn (w : World) (n : Nat) (st : Nat → Nat → Int) (S : Option Addr) : Prop where
  hn : n ≤ 1000
  hR : RdR w 6 S n (fun k => stopL (st k))
  bd : ∀ k, k < n → 0 ≤ st k 2 ∧ st k 2 ≤ st k 3 ∧ st k 3 < st k 5 ∧ st k 5 ≤ 100001
theorem StpIn.ext {w w' : World} {n : Nat} {st : Nat → Nat → Int} {S : Option Addr} (h : StpIn w n st S) (hb : Below w.heap.size w w') : StpIn w' n st S := ⟨h.hn, h.hR.chg (Chg.of_ext hb) Apart.nil, h.bd⟩
def brF (f : Nat → Int) : Nat → Int × Int
  | 0 => (0, 0)
  | k + 1 => if 0 < (brF f k).1 then brF f k else if 0 < f k then (f k, (k : Int)) else (0, 0)
theorem brF_no {f : Nat → Int} : ∀ k, (∀ j, j < k → ¬ 0 < f j) → brF f k = (0, 0)
  | 0, _ => rfl
  | k + 1, h => by
    simp only [brF]
    rw [brF_no k fun j hj => h j (by omega), if_neg (by simp), if_neg (h k (by omega))]
theorem brF_yes {f : Nat → Int} {k : Nat} (hk : 0 < f k) (h0 : ∀ j, j < k → ¬ 0 < f j) : ∀ n, k < n → brF f n = (f k, (k : Int))
  | 0, h => by omega
  | n + 1, h => by
    simp only [brF]
    by_cases e : k = n
    · subst e
      rw [brF_no k h0, if_neg (by simp), if_pos hk]
    · rw [brF_yes hk h0 n (by omega), if_pos hk]
def whyD (Z : Cus) (T : Trp) (s : Nat → Int) : Int := wrK (fun t => whyZ Z T (s 0) t) (tuD Z (s 2) (s 5 - 1)) 0
def barD (Z : Cus) (T : Trp) (n : Nat) (st : Nat → Nat → Int) : Int × Int := brF (fun i => whyD Z T (st i)) n
theorem whyZ_bd {Z : Cus} {T : Trp} {leg day : Int} : 0 ≤ whyZ Z T leg day ∧ whyZ Z T leg day ≤ 3 := whyV_bd
theorem drop_get {L : List Int} {k : Nat} (h : k < L.length) : L.drop k = L.getD k 0 :: L.drop (k + 1) := by
  rw [List.drop_eq_getElem_cons h, List.getD_eq_getElem?_getD, List.getElem?_eq_getElem h]
  rfl
theorem ret_u8i {a b a' b' : Int} (h1 : a = a') (h2 : b = b') : Ending.returned (.tuple #[.int .u8 a, .int .i64 b]) = .returned (.tuple #[.int .u8 a', .int .i64 b']) := by rw [h1, h2]
section
variable {Z : Cus} {T : Trp} {C D B O U V S : Option Addr} {cc cd cb co cu cv n cs : Nat} {st : Nat → Nat → Int} {w : World}
end
end Go.Proofs.YtmonkjnfjgidbaaGreatDoor
namespace Go.Proofs.YtmonkjnfjgidbaaGreatDoor
set_option linter.all false
set_option linter.unusedVariables false
set_option linter.unusedSimpArgs false
open Go.RowKit
def mn0 (v : Nat → Int) : Nat → Int
  | 0 => 0
  | k + 1 => mnF v k
def mx0 (v : Nat → Int) : Nat → Int
  | 0 => 0
  | k + 1 => max (mx0 v k) (v k)
theorem mn_first {v : Nat → Int} : mn0 v 1 = min (v 0) (v 0) := by simp only [mn0, mnF]; omega
theorem mn_next {v : Nat → Int} {k : Nat} (h : 0 < k) : mn0 v (k + 1) = min (mn0 v k) (v k) := by
  cases k with
  | zero => omega
  | succ k => rfl
theorem mn0_bd {v : Nat → Int} {b : Int} (h0 : 0 ≤ b) (hv : ∀ j, 0 ≤ v j ∧ v j ≤ b) : ∀ k, 0 ≤ mn0 v k ∧ mn0 v k ≤ b
  | 0 => by simp only [mn0]; omega
  | 1 => by have := hv 0; rw [mn_first]; omega
  | k + 2 => by
    have := mn0_bd h0 hv (k + 1)
    have := hv (k + 1)
    rw [mn_next (by omega)]
    omega
theorem mx0_bd {v : Nat → Int} {b : Int} (h0 : 0 ≤ b) (hv : ∀ j, 0 ≤ v j ∧ v j ≤ b) : ∀ k, 0 ≤ mx0 v k ∧ mx0 v k ≤ b
  | 0 => by simp only [mx0]; omega
  | k + 1 => by
    have := mx0_bd h0 hv k
    have := hv k
    simp only [mx0]
    omega
def dLo (f : Int → Int) (L : List Int) : Int := mn0 (fun j => f (L.getD j 0)) L.length
def dHi (f : Int → Int) (L : List Int) : Int := mx0 (fun j => f (L.getD j 0)) L.length
def onT (Z : Cus) (T : Trp) (leg q t : Int) : Int := if whoZ Z leg t = q then payZ Z T leg t else 0
def sumLo (Z : Cus) (T : Trp) (s : Nat → Int) : Int := dLo (payZ Z T (s 0)) (tuD Z (s 2) (s 3))
def sumHi (Z : Cus) (T : Trp) (s : Nat → Int) : Int := dHi (payZ Z T (s 0)) (tuD Z (s 2) (s 3))
def trbLo (Z : Cus) (T : Trp) (s : Nat → Int) (q : Nat) : Int := dLo (onT Z T (s 0) q) (tuD Z (s 2) (s 3))
def trbHi (Z : Cus) (T : Trp) (s : Nat → Int) (q : Nat) : Int := dHi (onT Z T (s 0) q) (tuD Z (s 2) (s 3))
abbrev TlX := Int × Int × Int × Int
def tolL (x : TlX) : List Value := [.int .i64 x.1, .int .i64 x.2.1, .int .i64 x.2.2.1, .int .i64 x.2.2.2]
def rowsT (L : List TlX) : Nat → List Value := fun k => tolL (L.getD k (0, 0, 0, 0))
def tolI (i : Int) (lo hi : Nat → Int) : Nat → List TlX
  | 0 => []
  | q + 1 => if 0 < hi q then tolI i lo hi q ++ [(i, (q : Int), lo q, hi q)] else tolI i lo hi q
def tolA (Z : Cus) (T : Trp) (st : Nat → Nat → Int) : Nat → List TlX
  | 0 => []
  | i + 1 => tolA Z T st i ++ tolI (i : Int) (trbLo Z T (st i)) (trbHi Z T (st i)) 8
def allLo (Z : Cus) (T : Trp) (st : Nat → Nat → Int) : Nat → Int
  | 0 => 0
  | i + 1 => allLo Z T st i + sumLo Z T (st i)
def allHi (Z : Cus) (T : Trp) (st : Nat → Nat → Int) : Nat → Int
  | 0 => 0
  | i + 1 => allHi Z T st i + sumHi Z T (st i)
theorem tolI_len {i : Int} {lo hi : Nat → Int} : ∀ q, (tolI i lo hi q).length ≤ q
  | 0 => Nat.le_refl _
  | q + 1 => by
    have := tolI_len (i := i) (lo := lo) (hi := hi) q
    simp only [tolI]
    split
    · simp only [List.length_append, List.length_cons, List.length_nil]; omega
    · omega
theorem tolA_len {Z : Cus} {T : Trp} {st : Nat → Nat → Int} : ∀ i, (tolA Z T st i).length ≤ 8 * i
  | 0 => Nat.le_refl _
  | i + 1 => by
    have := tolA_len (Z := Z) (T := T) (st := st) i
    have := tolI_len (i := (i : Int)) (lo := trbLo Z T (st i)) (hi := trbHi Z T (st i)) 8
    simp only [tolA, List.length_append]
    omega
theorem rowsT_app {L L' : List TlX} {m : Nat} {p : TlX} {s : Nat → List Value} (hm : m = L.length) (hL : L' = L ++ [p]) (hs : s 0 = tolL p) : ∀ i, i < m + 1 → catR m (rowsT L) s i = rowsT L' i := fun i hi => by
  subst hL
  simp only [catR, rowsT]
  by_cases h : i < m
  · rw [if_pos h, List.getD_eq_getElem?_getD, List.getD_eq_getElem?_getD, List.getElem?_append_left (by omega)]
  · obtain rfl : i = m := by omega
    rw [if_neg h, Nat.sub_self, hs, List.getD_eq_getElem?_getD, List.getElem?_append_right (by omega), hm, Nat.sub_self]
    rfl
theorem KSub.blkE {K K' L : List Fact} {b : Nat} {E : TypeId} {cs cs' : List Value} (hp : Pick K (.blk b E cs) K') (e : cs = cs') (h : KSub K' L) : KSub K (.blk b E cs' :: L) := by
  subst e; exact .cons hp h
theorem payZ_bd {Z : Cus} {T : Trp} {leg t : Int} (hok : CusOk Z) (ht : trpOk T = true) : 0 ≤ payZ Z T leg t ∧ payZ Z T leg t ≤ 2000000000000 := by
  unfold trpOk inB5 at ht
  simp only [Bool.and_eq_true, decide_eq_true_eq] at ht
  obtain ⟨⟨⟨⟨⟨h10, h11⟩, h12, h13⟩, _⟩, _⟩, _⟩ := ht
  unfold payZ
  split
  · split
    · omega
    · next hh _ =>
      have hol := hol_bd (Z := Z) (leg := leg) (day := t)
      have hbd := hok.c (holZ Z leg t).toNat (by omega)
      unfold hclZ
      have q1 : 0 ≤ (Z.c (holZ Z leg t).toNat).1 4 * T.hd ∧ (Z.c (holZ Z leg t).toNat).1 4 * T.hd ≤ 1000000 * 1000 := ⟨Int.mul_nonneg (by omega) (by omega), Int.mul_le_mul (by omega) h11 (by omega) (by omega)⟩
      have q2 : 0 ≤ (Z.c (holZ Z leg t).toNat).1 5 * T.wo ∧ (Z.c (holZ Z leg t).toNat).1 5 * T.wo ≤ 1000 * 1000000000000 := ⟨Int.mul_nonneg (by omega) (by omega), Int.mul_le_mul (by omega) h13 (by omega) (by omega)⟩
      omega
  · omega
theorem onT_bd {Z : Cus} {T : Trp} {leg q t : Int} (hok : CusOk Z) (ht : trpOk T = true) : 0 ≤ onT Z T leg q t ∧ onT Z T leg q t ≤ 2000000000000 := by
  have := payZ_bd (leg := leg) (t := t) hok ht
  unfold onT
  split <;> omega
theorem sum_bd {Z : Cus} {T : Trp} {s : Nat → Int} (hok : CusOk Z) (ht : trpOk T = true) : 0 ≤ sumLo Z T s ∧ sumLo Z T s ≤ 2000000000000 ∧ 0 ≤ sumHi Z T s ∧ sumHi Z T s ≤ 2000000000000 := by
  have a := mn0_bd (v := fun j => payZ Z T (s 0) ((tuD Z (s 2) (s 3)).getD j 0)) (by omega) (fun j => payZ_bd hok ht) (tuD Z (s 2) (s 3)).length
  have b := mx0_bd (v := fun j => payZ Z T (s 0) ((tuD Z (s 2) (s 3)).getD j 0)) (by omega) (fun j => payZ_bd hok ht) (tuD Z (s 2) (s 3)).length
  unfold sumLo sumHi dLo dHi
  omega
theorem all_bd {Z : Cus} {T : Trp} {st : Nat → Nat → Int} (hok : CusOk Z) (ht : trpOk T = true) : ∀ i : Nat, 0 ≤ allLo Z T st i ∧ allLo Z T st i ≤ 2000000000000 * i ∧ 0 ≤ allHi Z T st i ∧ allHi Z T st i ≤ 2000000000000 * i
  | 0 => by simp [allLo, allHi]
  | i + 1 => by
    have := all_bd (st := st) hok ht i
    have := sum_bd (s := st i) hok ht
    simp only [allLo, allHi]
    omega
section
variable {Z : Cus} {T : Trp} {C D B O U V S : Option Addr} {cc cd cb co cu cv n cs : Nat} {st : Nat → Nat → Int} {w : World}
end
end Go.Proofs.YtmonkjnfjgidbaaGreatDoor
namespace Go.Proofs.YtmonkjnfjgidbaaGreatDoor
set_option linter.all false
set_option linter.unusedVariables false
set_option linter.unusedSimpArgs false
open Go.RowKit
structure Wy where
  nw : Nat
  nl : Nat
  f : Nat → Nat → Int
  x : Nat → Leg
  g : Nat → Nat → Nat → Int
  p0 : Int
  p1 : Int
  start : Int
  day : Int
  n : Nat
  ls : Nat → Int
def uY (Y : Wy) : Nat → Nat → Int := fun k => (Y.x k).u
def nY (Y : Wy) : Nat → Nat := fun k => (Y.x k).n
def wlY (Y : Wy) (k : Nat) : Int := wlV Y.nl (uY Y) Y.ls Y.start k
def atBY (Y : Wy) (k : Nat) : Int := atB (uY Y) (nY Y) Y.g Y.p1 Y.ls Y.day k
def atSY (Y : Wy) (k : Nat) : Int := atS (uY Y) (nY Y) Y.g Y.p0 Y.ls Y.day k
def lvBY (Y : Wy) (k : Nat) : Int := lvB (uY Y) (nY Y) Y.g Y.p1 (Y.ls k).toNat (atBY Y k)
def lvSY (Y : Wy) (k : Nat) : Int := lvS (uY Y) (nY Y) Y.g Y.p0 (Y.ls k).toNat (atSY Y k)
def stY (Y : Wy) (k : Nat) : Nat → Int
  | 0 => Y.ls k
  | 1 => wlY Y (k + 1)
  | 2 => lvBY Y k
  | 3 => lvSY Y k
  | 4 => atBY Y (k + 1)
  | _ => atSY Y (k + 1)
def okY (Y : Wy) : Int := askC Y.nw Y.nl Y.f Y.x Y.g Y.p0 Y.p1
def begY (Y : Wy) : Bool := inB5 0 ((Y.nw : Int) - 1) Y.start && inB5 0 100000 Y.day
def lostY (Y : Wy) : Bool := exB Y.n fun k => decide (wlY Y (k + 1) < 0)
def lateY (Y : Wy) : Bool := exB Y.n fun k => decide (100000 < atSY Y (k + 1))
def wkC (Y : Wy) : Int := if okY Y ≠ 0 then okY Y else if begY Y = false then 2 else if 24 < Y.n then 4 else if lostY Y = true then 8 else if lateY Y = true then 34 else 0
def wkN (Y : Wy) : Nat := if wkC Y = 0 then Y.n else 0
theorem wkC_ask {Y : Wy} (h : okY Y ≠ 0) : wkC Y = okY Y := by unfold wkC; rw [if_pos h]
theorem wkC_beg {Y : Wy} (h : okY Y = 0) (h1 : begY Y = false) : wkC Y = 2 := by unfold wkC; rw [if_neg (by omega), if_pos h1]
theorem wkC_many {Y : Wy} (h : okY Y = 0) (h1 : begY Y = true) (h2 : 24 < Y.n) : wkC Y = 4 := by unfold wkC; rw [if_neg (by omega), if_neg (by rw [h1]; simp), if_pos h2]
theorem wkC_lost {Y : Wy} (h : okY Y = 0) (h1 : begY Y = true) (h2 : ¬ 24 < Y.n) (h3 : lostY Y = true) : wkC Y = 8 := by unfold wkC; rw [if_neg (by omega), if_neg (by rw [h1]; simp), if_neg h2, if_pos h3]
theorem wkC_late {Y : Wy} (h : okY Y = 0) (h1 : begY Y = true) (h2 : ¬ 24 < Y.n) (h3 : lostY Y = false) (h4 : lateY Y = true) : wkC Y = 34 := by unfold wkC; rw [if_neg (by omega), if_neg (by rw [h1]; simp), if_neg h2, if_neg (by rw [h3]; simp), if_pos h4]
theorem wkC_ok {Y : Wy} (h : okY Y = 0) (h1 : begY Y = true) (h2 : ¬ 24 < Y.n) (h3 : lostY Y = false) (h4 : lateY Y = false) : wkC Y = 0 := by unfold wkC; rw [if_neg (by omega), if_neg (by rw [h1]; simp), if_neg h2, if_neg (by rw [h3]; simp), if_neg (by rw [h4]; simp)]
theorem wkN_0 {Y : Wy} (h : wkC Y ≠ 0) : wkN Y = 0 := if_neg h
theorem wkN_n {Y : Wy} (h : wkC Y = 0) : wkN Y = Y.n := if_pos h
theorem inB_iff {lo hi a : Int} : inB5 lo hi a = true ↔ lo ≤ a ∧ a ≤ hi := by
  unfold inB5
  simp only [Bool.and_eq_true, decide_eq_true_eq]
theorem wlY_s (Y : Wy) (k : Nat) : wlY Y (k + 1) = endV Y.nl (uY Y) (Y.ls k) (wlY Y k) := rfl
structure WyOk (Y : Wy) : Prop where
  h0 : 1 ≤ Y.p0
  h1 : Y.p0 ≤ Y.p1
  h2 : Y.p1 ≤ 100000
  leg : ∀ k, k < Y.nl → LegIn (Y.x k).u (Y.x k).n (Y.g k)
  ends : ∀ k, k < Y.nl → 0 ≤ (Y.x k).u 0 ∧ 0 ≤ (Y.x k).u 1
theorem wyOk_of {Y : Wy} (h : okY Y = 0) : WyOk Y := by
  unfold okY askC at h
  split at h
  · next hl =>
    split at h
    · next hp =>
      unfold ordB5 at hp
      simp only [Bool.and_eq_true, decide_eq_true_eq] at hp
      unfold landOk at hl
      simp only [Bool.and_eq_true] at hl
      refine ⟨by omega, by omega, by omega, fun k hk => legIn_of (allB_iff.1 hl.2 k hk), fun k hk => ?_⟩
      have := allB_iff.1 hl.2 k hk
      unfold legOk legHead inB5 at this
      simp only [Bool.and_eq_true, decide_eq_true_eq] at this
      omega
    · cases h
  · cases h
theorem lost_no {Y : Wy} (h : ∀ j, j < Y.n → 0 ≤ wlY Y (j + 1)) : lostY Y = false := ex_no fun j hj => decide_eq_false (by have := h j hj; omega)
theorem lost_yes {Y : Wy} {k : Nat} (hk : k < Y.n) (h : wlY Y (k + 1) < 0) : lostY Y = true := ex_yes (p := fun k => decide (wlY Y (k + 1) < 0)) hk (decide_eq_true h)
theorem late_no {Y : Wy} (h : ∀ j, j < Y.n → atSY Y (j + 1) ≤ 100000) : lateY Y = false := ex_no fun j hj => decide_eq_false (by have := h j hj; omega)
theorem late_yes {Y : Wy} {k : Nat} (hk : k < Y.n) (h : 100000 < atSY Y (k + 1)) : lateY Y = true := ex_yes (p := fun k => decide (100000 < atSY Y (k + 1))) hk (decide_eq_true h)
theorem ls_ok {Y : Wy} {k : Nat} (h : 0 ≤ wlY Y (k + 1)) : 0 ≤ Y.ls k ∧ Y.ls k < Y.nl := endV_ok (u := uY Y) (well := wlY Y k) h
theorem at_ok {Y : Wy} (ho : WyOk Y) (hb : begY Y = true) (hl : ∀ j, j < Y.n → 0 ≤ wlY Y (j + 1)) {k : Nat} (hk : k ≤ Y.n) : 0 ≤ atBY Y k ∧ atBY Y k ≤ atSY Y k ∧ atSY Y k ≤ 100001 := by
  unfold begY at hb
  rw [Bool.and_eq_true, inB_iff, inB_iff] at hb
  exact at_in (u := uY Y) (gn := nY Y) (g := Y.g) (ls := Y.ls) ho.h0 ho.h1 hb.2 k fun j hj => by
    have := ls_ok (hl j (by omega))
    exact ho.leg _ (by omega)
def wkR (Y : Wy) (y : (Option Addr × Nat) × Int) : Value := .tuple #[.slice y.1.1 (wkN Y) y.1.2, .int .i64 y.2, .int .i64 (wkC Y)]
def wkL (Y : Wy) (y : (Option Addr × Nat) × Int) : List Fact := [.own y.1.1 (wkN Y) y.1.2 62 6 (fun k => stopL (stY Y k))]
theorem wk_bad {Y : Wy} {w w' : World} {K : List Fact} {a e : Int} (hw : Sat [] w K w') (he : wkC Y = e) (h0 : e ≠ 0) : ∃ y, Ending.returned (retV [.slice none 0 0, .int .i64 a, .int .i64 e]) = .returned (wkR Y y) ∧ Sat [] w (wkL Y y) w' := by
  refine ⟨((none, 0), a), ?_, ?_⟩
  · unfold wkR
    rw [wkN_0 (by rw [he]; exact h0), he]
    rfl
  · unfold wkL
    rw [wkN_0 (by rw [he]; exact h0)]
    exact hw.sub (KSub.nilOwn KSub.nil)
section
variable {Y : Wy} {W A L : Option Addr} {cw cl cn : Nat} {w : World}
theorem stp_row {i : Nat} {r : Nat → List Value} {s : Nat → List Value} (h : s 0 = r i) : ∀ j, j < i + 1 → catR i r s j = r j := fun j hj => by
  unfold catR
  split
  · rfl
  · obtain rfl : j = i := by omega
    rw [Nat.sub_self, h]
end
end Go.Proofs.YtmonkjnfjgidbaaGreatDoor
namespace Go.Proofs.YtmonkjnfjgidbaaGreatDoor
set_option linter.all false
set_option linter.unusedVariables false
set_option linter.unusedSimpArgs false
open Go.RowKit
def two (a b : Int) : Nat → Int
  | 0 => a
  | _ => b
def tri (a b c : Int) : Nat → Int
  | 0 => a
  | 1 => b
  | _ => c
theorem two_bd {a b lo hi : Int} (ha : lo ≤ a ∧ a ≤ hi) (hb : lo ≤ b ∧ b ≤ hi) (i : Nat) : lo ≤ two a b i ∧ two a b i ≤ hi := by
  cases i <;> assumption
theorem two_row {x y : Int} : ∀ i, i < 1 + 1 → catR 1 (fun _ => [Value.int .i64 x]) (fun _ => [Value.int .i64 y]) i = [Value.int .i64 (two x y i)] := fun i hi => by
  have : i = 0 ∨ i = 1 := by omega
  rcases this with rfl | rfl <;> rfl
theorem tri_row {x y z : Int} : ∀ i, i < 2 + 1 → catR 2 (fun i => [Value.int .i64 (two x y i)]) (fun _ => [Value.int .i64 z]) i = [Value.int .i64 (tri x y z i)] := fun i hi => by
  have : i = 0 ∨ i = 1 ∨ i = 2 := by omega
  rcases this with rfl | rfl | rfl <;> rfl
theorem self1 {S : List Nat} {w0 w : World} {K : List Fact} {φ : Fact} (h : Sat S w0 (φ :: K) w) : Sat (feet [φ]) w [φ] w := (h.sub (KSub.cons Pick.hd KSub.nil)).self
section
variable {w : World}
set_option maxRecDepth 100000 in
theorem first1_any {b : Nat} (x : Int) (hM : Sat (feet [.blk b 3 [.int .i64 x]]) w [.blk b 3 [.int .i64 x]] w) :
    CallsK Tryz.prog 132 #[.slice (some ⟨b, 0, none⟩) 1 1] [.blk b 3 [.int .i64 x]] w Unit (fun _ => .int .i64 (min x 100001)) (fun _ => []) := by
  refine K_enter (S := feet _) (K := [.blk b 3 [.int .i64 x]]) Tryz.func132 rfl Tryz.ntmps132 rfl hM ?_
  refine TW.seq fun Y1 hY1 => ?_
  refine TW.region ?_
  refine TL.p Pu.as ?_
  refine TL.nil ?_
  refine TQ.thenN (hY1 _ _ ?_)
  refine TW.seq fun Y2 hY2 => ?_
  refine TW.region ?_
  refine TL.p Pu.mv ?_
  refine TL.m Mk.bl ?_
  intro b1
  refine TL.obn (b := b) (n := 1) (sz := 1) (r := fun _ => [.int .i64 x]) pk9 rfl (fun _ _ => rfl) ?_
  first | refine TL.a0 ty_et31 ?_ | refine TL.ap ty_et31 ?_
  intro A2 c2
  refine TL.subK (KSub.own Pick.hd two_row KSub.nil) ?_
  refine TL.cr rfl (enters Tryz.func148 rfl rfl) (fun w hw => by
      exact slMin_any (n := 2) (v := two x 100001) (by omega) (by omega) (OwnR.rdr (hw.holds (.own A2 2 c2 3 1 (fun i => [.int .i64 (two x 100001 i)])) (by simp)))) ?_
  refine TL.p Pu.as ?_
  refine TL.nil ?_
  refine TQ.thenN (hY2 _ _ ?_)
  refine TW.ret ?_
  refine TQ.ret Tryz.results132 rfl ((.tmp rfl .nil)) ?_
  exact fun w hw => ⟨(), rfl, hw.sub KSub.nil⟩
set_option maxRecDepth 100000 in
theorem first2_any {b : Nat} (x y : Int) (hM : Sat (feet [.blk b 3 [.int .i64 x, .int .i64 y]]) w [.blk b 3 [.int .i64 x, .int .i64 y]] w) :
    CallsK Tryz.prog 132 #[.slice (some ⟨b, 0, none⟩) 2 2] [.blk b 3 [.int .i64 x, .int .i64 y]] w Unit (fun _ => .int .i64 (min (min x y) 100001)) (fun _ => []) := by
  refine K_enter (S := feet _) (K := [.blk b 3 [.int .i64 x, .int .i64 y]]) Tryz.func132 rfl Tryz.ntmps132 rfl hM ?_
  refine TW.seq fun Y1 hY1 => ?_
  refine TW.region ?_
  refine TL.p Pu.as ?_
  refine TL.nil ?_
  refine TQ.thenN (hY1 _ _ ?_)
  refine TW.seq fun Y2 hY2 => ?_
  refine TW.region ?_
  refine TL.p Pu.mv ?_
  refine TL.m Mk.bl ?_
  intro b1
  refine TL.obn (b := b) (n := 2) (sz := 1) (r := fun i => [.int .i64 (two x y i)]) pk9 rfl (fun _ _ => rfl) ?_
  first | refine TL.a0 ty_et31 ?_ | refine TL.ap ty_et31 ?_
  intro A2 c2
  refine TL.subK (KSub.own Pick.hd tri_row KSub.nil) ?_
  refine TL.cr rfl (enters Tryz.func148 rfl rfl) (fun w hw => by
      exact slMin_any (n := 3) (v := tri x y 100001) (by omega) (by omega) (OwnR.rdr (hw.holds (.own A2 3 c2 3 1 (fun i => [.int .i64 (tri x y 100001 i)])) (by simp)))) ?_
  refine TL.p Pu.as ?_
  refine TL.nil ?_
  refine TQ.thenN (hY2 _ _ ?_)
  refine TW.ret ?_
  refine TQ.ret Tryz.results132 rfl ((.tmp rfl .nil)) ?_
  exact fun w hw => ⟨(), rfl, hw.sub KSub.nil⟩
end
def dy2 (u : Nat → Int) (p0 p1 : Int) : Nat → Int := two (dyB u p1) (dyS u p0)
def lv2 (u : Nat → Int) (g : Nat → Nat → Int) (p0 p1 a b : Int) (k i : Nat) : Int := two (lvF g 0 3 a (dyB u p1) k) (lvF g 1 2 b (dyS u p0) k) i
theorem lv2_le {u : Nat → Int} {g : Nat → Nat → Int} {p0 p1 a b : Int} {k i : Nat} : lv2 u g p0 p1 a b k i ≤ 100001 := by
  unfold lv2
  cases i <;> exact lv_le _
theorem lv2_yes {u : Nat → Int} {g : Nat → Nat → Int} {p0 p1 a b : Int} {k i : Nat} (h : max (two a b i) (two (g k 0) (g k 1) i) + dy2 u p0 p1 i - 1 ≤ two (g k 3) (g k 2) i) : lv2 u g p0 p1 a b (k + 1) i = min (lv2 u g p0 p1 a b k i) (max (two a b i) (two (g k 0) (g k 1) i)) := by
  unfold lv2 dy2 at *
  cases i with
  | zero => simp only [two, lvF, thruB, decide_eq_true_eq] at h ⊢; exact if_pos h
  | succ i => simp only [two, lvF, thruB, decide_eq_true_eq] at h ⊢; exact if_pos h
theorem lv2_no {u : Nat → Int} {g : Nat → Nat → Int} {p0 p1 a b : Int} {k i : Nat} (h : ¬ max (two a b i) (two (g k 0) (g k 1) i) + dy2 u p0 p1 i - 1 ≤ two (g k 3) (g k 2) i) : lv2 u g p0 p1 a b (k + 1) i = lv2 u g p0 p1 a b k i := by
  unfold lv2 dy2 at *
  cases i with
  | zero => simp only [two, lvF, thruB, decide_eq_true_eq] at h ⊢; exact if_neg h
  | succ i => simp only [two, lvF, thruB, decide_eq_true_eq] at h ⊢; exact if_neg h
def mid2 (u : Nat → Int) (g : Nat → Nat → Int) (p0 p1 a b : Int) (k i : Nat) : Nat → Int := fun j => if j < i then lv2 u g p0 p1 a b (k + 1) j else lv2 u g p0 p1 a b k j
def rowV (v : Nat → Int) : Nat → List Value := fun i => [.int .i64 (v i)]
theorem mid_keep {u : Nat → Int} {g : Nat → Nat → Int} {p0 p1 a b : Int} {k i : Nat} (h : lv2 u g p0 p1 a b (k + 1) i = lv2 u g p0 p1 a b k i) : ∀ j, j < 2 → rowV (mid2 u g p0 p1 a b k i) j = rowV (mid2 u g p0 p1 a b k (i + 1)) j := fun j _ => by
  simp only [rowV, mid2]
  by_cases e : j = i
  · subst e; rw [if_neg (by omega), if_pos (by omega), h]
  · by_cases l : j < i
    · rw [if_pos l, if_pos (by omega)]
    · rw [if_neg l, if_neg (by omega)]
theorem mid_upd {u : Nat → Int} {g : Nat → Nat → Int} {p0 p1 a b d : Int} {k i : Nat} (h : lv2 u g p0 p1 a b (k + 1) i = min (lv2 u g p0 p1 a b k i) d) (hl : lv2 u g p0 p1 a b k i ≤ 100001) :
    ∀ j, j < 2 → updR (rowV (mid2 u g p0 p1 a b k i)) i [.int .i64 (min (min (mid2 u g p0 p1 a b k i i) d) 100001)] j = rowV (mid2 u g p0 p1 a b k (i + 1)) j := fun j _ => by
  simp only [rowV, mid2, updR]
  by_cases e : j = i
  · subst e
    rw [if_pos rfl, if_neg (by omega), if_pos (by omega), h]
    have : min (min (lv2 u g p0 p1 a b k j) d) 100001 = min (lv2 u g p0 p1 a b k j) d := by omega
    rw [this]
  · rw [if_neg e]
    by_cases l : j < i
    · rw [if_pos l, if_pos (by omega)]
    · rw [if_neg l, if_neg (by omega)]
section
variable {W A : Option Addr} {nw cw nl cl : Nat} {f : Nat → Nat → Int} {x : Nat → Leg} {g : Nat → Nat → Nat → Int} {p0 p1 : Int} {w : World}
set_option maxRecDepth 100000 in
set_option maxHeartbeats 4000000 in
theorem cLeave_any (k : Nat) (a b : Int) (hk : k < nl) (h : LandIn w W nw A nl f x g) (h0 : 1 ≤ p0) (h1 : p0 ≤ p1) (h2 : p1 ≤ 100000) (hL : LegIn (x k).u (x k).n (g k)) (ha : 0 ≤ a ∧ a ≤ 100001) (hb : 0 ≤ b ∧ b ≤ 100001) :
    Calls Tryz.prog 100 #[.agg (carL W nw cw A nl cl p0 p1).toArray, .int .i64 (k : Int), .agg #[.int .i64 a, .int .i64 b]] w (Ret w (.agg #[.int .i64 (lvF (g k) 0 3 a (dyB (x k).u p1) (x k).n), .int .i64 (lvF (g k) 1 2 b (dyS (x k).u p0) (x k).n)])) := by
  have hRA := h.hA
  have hnl := h.hnl
  have hng := h.hn k hk
  have hRG := h.hG k hk
  have hd := dy_bd h0 h1 hL.l0 hL.l1 hL.l2
  unfold carL
  refine K_enter (S := []) (K := []) Tryz.func100 rfl Tryz.ntmps100 rfl (Sat.start _) ?_
  refine TW.seq fun Y1 hY1 => ?_
  refine TW.region ?_
  refine TL.m Mk.bx ?_
  intro b1
  refine TL.m Mk.bx ?_
  intro b2
  refine TL.m (Mk.al ty_zr176) ?_
  intro b3
  refine TL.nil ?_
  refine TQ.thenN (hY1 _ _ ?_)
  refine TW.seq fun Y2 hY2 => ?_
  refine TW.region ?_
  refine TL.p (Pu.lds ty_ag164) ?_
  refine TL.p Pu.mv ?_
  refine TL.cr rfl (enters Tryz.func131 rfl rfl) (fun w hw => by
      exact cDays_any k hk hnl h0 h1 h2 hL.l0 hL.l1 hL.l2 (hRA.sat hw Apart.nil)) ?_
  refine TL.m (Mk.al ty_zr176) ?_
  intro b4
  first | refine TL.st ty_sz176 ?_ | refine TL.se ty_sz176 ?_
  refine TL.nil ?_
  refine TQ.thenN (hY2 _ _ ?_)
  refine TW.seq fun Y3 hY3 => ?_
  refine TW.region ?_
  refine TL.p Pu.bd ?_
  refine TL.m (Mk.al ty_zr176) ?_
  intro b5
  first | refine TL.st ty_sz176 ?_ | refine TL.se ty_sz176 ?_
  refine TL.nil ?_
  refine TQ.thenN (hY3 _ _ ?_)
  refine TW.seq fun Y4 hY4 => ?_
  refine TW.seq fun Y5 hY5 => ?_
  refine TW.region ?_
  refine TL.p (by first | exact Pu.fb ty_fa164_0 | exact Pu.fe ty_fa164_0) ?_
  refine TL.p (by first | exact Pu.fb ty_fa25_1 | exact Pu.fe ty_fa25_1) ?_
  refine TL.p (Pu.ld ty_sc23) ?_
  refine TL.p Pu.mv ?_
  refine TL.p (Pu.el ty_et23) ?_
  refine TL.p (by first | exact Pu.fb ty_fa122_3 | exact Pu.fe ty_fa122_3) ?_
  refine TL.p (Pu.ld ty_sc120) ?_
  refine TL.p (Pu.ln Tryz.underlying120) ?_
  refine TL.p Pu.mv ?_
  refine TL.nil ?_
  refine TQ.thenN (hY5 _ _ ?_)
  refine TW.block ?_
  refine TW.loop1 (fun (j : Nat) => [(27, .int .i64 (j : Int)), (26, .int .i64 ((x k).n : Int)), (25, .slice (x k).A (x k).n (x k).c), (8, .pointer (some ⟨b5, 0, none⟩)), (7, .pointer (some ⟨b4, 0, none⟩)), (6, .pointer (some ⟨b3, 0, none⟩)), (5, .pointer (some ⟨b2, 0, none⟩))]) (fun j => [.own (some ⟨b5, 0, none⟩) 2 2 176 1 (rowV (lv2 (x k).u (g k) p0 p1 a b j)), .own (some ⟨b4, 0, none⟩) 2 2 176 1 (rowV (dy2 (x k).u p0 p1)), .own (some ⟨b2, 0, none⟩) 2 2 176 1 (rowV (two a b)), .blk b3 176 [.int .i64 0, .int .i64 0]]) (fun j => j ≤ (x k).n) (fun j => (x k).n - j) 0 fs9 ?_ ?_ ?_
  exact KSub.ofBlk pk9 rfl (fun _ _ => rfl) rfl rfl (KSub.ofBlk pk9 rfl (fun _ _ => rfl) rfl rfl (KSub.ofBlk pk9 rfl (fun _ _ => rfl) rfl rfl ks9))
  exact Nat.zero_le _
  rintro j hj Z0 hZ0
  refine TW.seq fun Y6 hY6 => ?_
  refine TW.region ?_
  refine TL.p Pu.lt ?_
  refine TL.nil ?_
  refine TQ.thenN (hY6 _ _ ?_)
  refine TW.seq fun Y7 hY7 => ?_
  refine TW.cond rfl (fun hc0 => ?_) (fun hc0 => ?_)
  try simp only [decide_eq_true_eq, decide_eq_false_iff_not, Bool.not_eq_true', Bool.not_eq_false', Bool.and_eq_true, Bool.or_eq_true, Bool.and_eq_false_iff, Bool.or_eq_false_iff, Int.not_lt, Int.not_le] at hc0
  have hjn : j < (x k).n := by omega
  have hgi := gate_in hL.hg hjn
  refine TW.skip ?_
  refine TQ.thenN (hY7 _ _ ?_)
  refine TW.seq fun Y8 hY8 => ?_
  refine TW.block ?_
  refine TW.seq fun Y9 hY9 => ?_
  refine TW.region ?_
  refine TL.p (Pu.el ty_et120) ?_
  refine TL.p (Pu.lds ty_ag138) ?_
  refine TL.m (Mk.al ty_zr138) ?_
  intro b6
  first | refine TL.st ty_sz138 ?_ | refine TL.se ty_sz138 ?_
  refine TL.nil ?_
  refine TQ.thenN (hY9 _ _ ?_)
  refine TW.seq fun Y10 hY10 => ?_
  refine TW.expl (fun (⟨x14, x15⟩ : Nat × Nat) => ([(11, .pointer (some ⟨x14, 0, none⟩)), (12, .pointer (some ⟨x15, 0, none⟩)), (27, .int .i64 (j : Int)), (26, .int .i64 ((x k).n : Int)), (25, .slice (x k).A (x k).n (x k).c), (8, .pointer (some ⟨b5, 0, none⟩)), (7, .pointer (some ⟨b4, 0, none⟩)), (6, .pointer (some ⟨b3, 0, none⟩)), (5, .pointer (some ⟨b2, 0, none⟩))] : Fr)) (fun (⟨x14, x15⟩ : Nat × Nat) => [.blk x14 176 [.int .i64 (g k j 0), .int .i64 (g k j 1)], .blk x15 176 [.int .i64 (g k j 3), .int .i64 (g k j 2)], .own (some ⟨b5, 0, none⟩) 2 2 176 1 (rowV (lv2 (x k).u (g k) p0 p1 a b j)), .own (some ⟨b4, 0, none⟩) 2 2 176 1 (rowV (dy2 (x k).u p0 p1)), .own (some ⟨b2, 0, none⟩) 2 2 176 1 (rowV (two a b)), .blk b3 176 [.int .i64 0, .int .i64 0]]) Drop.done ?_ (fun hE => ?_)
  rintro ⟨x14, x15⟩
  refine TQ.thenN (hY10 _ _ ?_)
  refine TW.seq fun Y11 hY11 => ?_
  refine TW.region ?_
  refine TL.p Pu.mv ?_
  refine TL.nil ?_
  refine TQ.thenN (hY11 _ _ ?_)
  refine TW.block ?_
  refine TW.loop1 (fun (i : Nat) => [(45, .int .i64 (i : Int)), (11, .pointer (some ⟨x14, 0, none⟩)), (12, .pointer (some ⟨x15, 0, none⟩)), (27, .int .i64 (j : Int)), (26, .int .i64 ((x k).n : Int)), (25, .slice (x k).A (x k).n (x k).c), (8, .pointer (some ⟨b5, 0, none⟩)), (7, .pointer (some ⟨b4, 0, none⟩)), (6, .pointer (some ⟨b3, 0, none⟩)), (5, .pointer (some ⟨b2, 0, none⟩))]) (fun i => [.own (some ⟨b5, 0, none⟩) 2 2 176 1 (rowV (mid2 (x k).u (g k) p0 p1 a b j i)), .own (some ⟨x14, 0, none⟩) 2 2 176 1 (rowV (two (g k j 0) (g k j 1))), .own (some ⟨x15, 0, none⟩) 2 2 176 1 (rowV (two (g k j 3) (g k j 2))), .own (some ⟨b4, 0, none⟩) 2 2 176 1 (rowV (dy2 (x k).u p0 p1)), .own (some ⟨b2, 0, none⟩) 2 2 176 1 (rowV (two a b)), .blk b3 176 [.int .i64 0, .int .i64 0]]) (fun i => i ≤ 2) (fun i => 2 - i) 0 fs9 ?_ ?_ ?_
  exact KSub.own pk9 (fun q _ => by simp only [rowV, mid2]; rw [if_neg (by omega)]) (KSub.ofBlk pk9 rfl (fun _ _ => rfl) rfl rfl (KSub.ofBlk pk9 rfl (fun _ _ => rfl) rfl rfl ks9))
  exact Nat.zero_le _
  rintro i hi Z1 hZ1
  refine TW.seq fun Y12 hY12 => ?_
  refine TW.region ?_
  refine TL.p Pu.lt ?_
  refine TL.nil ?_
  refine TQ.thenN (hY12 _ _ ?_)
  refine TW.seq fun Y13 hY13 => ?_
  refine TW.cond rfl (fun hc1 => ?_) (fun hc1 => ?_)
  try simp only [decide_eq_true_eq, decide_eq_false_iff_not, Bool.not_eq_true', Bool.not_eq_false', Bool.and_eq_true, Bool.or_eq_true, Bool.and_eq_false_iff, Bool.or_eq_false_iff, Int.not_lt, Int.not_le] at hc1
  have hi2 : i < 2 := by omega
  have z1 := two_bd ha hb i
  have z2 := two_bd (a := g k j 0) (b := g k j 1) (lo := 0) (hi := 100000) (by omega) (by omega) i
  have z3 : 1 ≤ dy2 (x k).u p0 p1 i ∧ dy2 (x k).u p0 p1 i ≤ 1000000 := two_bd (by omega) (by omega) i
  have z4 := lv2_le (u := (x k).u) (g := g k) (p0 := p0) (p1 := p1) (a := a) (b := b) (k := j) (i := i)
  refine TW.skip ?_
  refine TQ.thenN (hY13 _ _ ?_)
  refine TW.seq fun Y14 hY14 => ?_
  refine TW.block ?_
  refine TW.seq fun Y15 hY15 => ?_
  refine TW.region ?_
  refine TL.p Pu.mv ?_
  refine TL.p Pu.as ?_
  refine TL.nil ?_
  refine TQ.thenN (hY15 _ _ ?_)
  refine TW.seq fun Y16 hY16 => ?_
  refine TW.dw 8 ?_
  refine RK.tk Pu.mv ?_
  refine RK.tk (Pu.ea ty_ar176) ?_
  refine RK.tk (Pu.ld ty_sc3) ?_
  refine RK.tk Pu.mv ?_
  refine RK.tk (Pu.ea ty_ar176) ?_
  refine RK.tk (Pu.ld ty_sc3) ?_
  refine RK.tk Pu.mx ?_
  refine RK.tk Pu.as ?_
  refine RK.ch [] ?_ trivial
  refine WK.n ?_
  refine TL.nil ?_
  refine TQ.thenN (hY16 _ _ ?_)
  refine TW.seq fun Y17 hY17 => ?_
  refine TW.dw 10 ?_
  refine RK.tk Pu.mv ?_
  refine RK.tk Pu.mv ?_
  refine RK.tk (Pu.ea ty_ar176) ?_
  refine RK.tk (Pu.ld ty_sc3) ?_
  refine RK.tk Pu.ad ?_
  refine RK.tk Pu.sb ?_
  refine RK.tk Pu.mv ?_
  refine RK.tk (Pu.ea ty_ar176) ?_
  refine RK.tk (Pu.ld ty_sc3) ?_
  refine RK.tk Pu.le ?_
  refine RK.ch [] ?_ trivial
  refine WK.n ?_
  refine TL.nil ?_
  refine TQ.thenN (hY17 _ _ ?_)
  refine TW.cond rfl (fun hc2 => ?_) (fun hc2 => ?_)
  try simp only [decide_eq_true_eq, decide_eq_false_iff_not, Bool.not_eq_true', Bool.not_eq_false', Bool.and_eq_true, Bool.or_eq_true, Bool.and_eq_false_iff, Bool.or_eq_false_iff, Int.not_lt, Int.not_le] at hc2
  have hs := hidT (lv2_yes hc2)
  refine TW.region ?_
  refine TL.p Pu.mv ?_
  refine TL.p Pu.mv ?_
  refine TL.p (Pu.ea ty_ar176) ?_
  refine TL.p (Pu.ld ty_sc3) ?_
  refine TL.p Pu.mv ?_
  refine TL.m Mk.bl ?_
  intro b7
  refine TL.call rfl (enters Tryz.func132 rfl rfl) (M := [.blk b7 3 _]) (List.Perm.refl _) rfl (fun w hw => by
      exact first2_any _ _ (self1 hw)) ?_
  rintro ⟨⟩
  refine TL.p (Pu.ea ty_ar176) ?_
  first | refine TL.st ty_sz3 ?_ | refine TL.se ty_sz3 ?_
  refine TL.nil ?_
  refine TQ.blkN ?_
  refine TQ.thenN (hY14 _ _ ?_)
  refine TW.region ?_
  refine TL.p Pu.ad ?_
  refine TL.p Pu.mv ?_
  refine TL.nil ?_
  refine TQ.thenN (hZ1 (i + 1) _ _ ?_ ?_ fs9 ?_)
  exact (by omega)
  exact (by first | omega | (simp only []; omega) | (simp; omega))
  first
    | exact KSub.own pk9 (mid_upd hs.out z4) ks9
    | exact KSub.own pk9 (mid_keep hs.out) ks9
  try simp only [decide_eq_true_eq, decide_eq_false_iff_not, Bool.not_eq_true', Bool.not_eq_false', Bool.and_eq_true, Bool.or_eq_true, Bool.and_eq_false_iff, Bool.or_eq_false_iff, Int.not_lt, Int.not_le] at hc2
  have hs := hidT (lv2_no (u := (x k).u) (g := g k) (p0 := p0) (p1 := p1) (a := a) (b := b) (k := j) (i := i) (by omega))
  refine TW.skip ?_
  refine TQ.blkN ?_
  refine TQ.thenN (hY14 _ _ ?_)
  refine TW.region ?_
  refine TL.p Pu.ad ?_
  refine TL.p Pu.mv ?_
  refine TL.nil ?_
  refine TQ.thenN (hZ1 (i + 1) _ _ ?_ ?_ fs9 ?_)
  exact (by omega)
  exact (by first | omega | (simp only []; omega) | (simp; omega))
  first
    | exact KSub.own pk9 (mid_upd hs.out z4) ks9
    | exact KSub.own pk9 (mid_keep hs.out) ks9
  try simp only [decide_eq_true_eq, decide_eq_false_iff_not, Bool.not_eq_true', Bool.not_eq_false', Bool.and_eq_true, Bool.or_eq_true, Bool.and_eq_false_iff, Bool.or_eq_false_iff, Int.not_lt, Int.not_le] at hc1
  obtain rfl : i = 2 := by omega
  refine TW.exit ?_
  refine TQ.thenX ?_
  refine TQ.thenX ?_
  refine TQ.blkX ?_
  refine TQ.blkN ?_
  refine TQ.thenN (hY8 _ _ ?_)
  refine TW.region ?_
  refine TL.p Pu.ad ?_
  refine TL.p Pu.mv ?_
  refine TL.nil ?_
  refine TQ.thenN (hZ0 (j + 1) _ _ ?_ ?_ fs9 ?_)
  exact (by omega)
  exact (by first | omega | (simp only []; omega) | (simp; omega))
  exact KSub.own pk9 (fun q hq => by simp only [rowV, mid2]; rw [if_pos hq]) ks9
  refine RG.tk 0 rfl (by first | exact Pu.fb ty_fa138_0 | exact Pu.fe ty_fa138_0) ?_
  refine RG.tk 1 rfl (by first | exact Pu.fb ty_fa35_0 | exact Pu.fe ty_fa35_0) ?_
  refine RG.tk 2 rfl (Pu.ld ty_sc3) ?_
  refine RG.tk 3 rfl (by first | exact Pu.fb ty_fa138_0 | exact Pu.fe ty_fa138_0) ?_
  refine RG.tk 4 rfl (by first | exact Pu.fb ty_fa35_1 | exact Pu.fe ty_fa35_1) ?_
  refine RG.tk 5 rfl (Pu.ld ty_sc3) ?_
  refine RG.tk 6 rfl Pu.bd ?_
  refine RG.tk 7 rfl (by first | exact Pu.fb ty_fa138_1 | exact Pu.fe ty_fa138_1) ?_
  refine RG.tk 8 rfl (by first | exact Pu.fb ty_fa35_1 | exact Pu.fe ty_fa35_1) ?_
  refine RG.tk 9 rfl (Pu.ld ty_sc3) ?_
  refine RG.tk 10 rfl (by first | exact Pu.fb ty_fa138_1 | exact Pu.fe ty_fa138_1) ?_
  refine RG.tk 11 rfl (by first | exact Pu.fb ty_fa35_0 | exact Pu.fe ty_fa35_0) ?_
  refine RG.tk 12 rfl (Pu.ld ty_sc3) ?_
  refine RG.tk 13 rfl Pu.bd ?_
  refine RG.a2 14 15 rfl rfl (fun X14 hX14 => ?_) (fun X15 hX15 => ?_)
  refine TL.m (Mk.al ty_zr176) ?_
  intro x14
  refine TL.nil ?_
  refine TQ.nxt (hX14 _ _ hl9 ?_)
  refine RG.a1 15 rfl (fun X15 hX15 => ?_)
  refine TL.m (Mk.al ty_zr176) ?_
  intro x15
  refine TL.nil ?_
  refine TQ.nxt (hX15 _ _ hl9 ?_)
  refine RG.a1 16 rfl (fun X16 hX16 => ?_)
  first | refine TL.st ty_sz176 ?_ | refine TL.se ty_sz176 ?_
  refine TL.nil ?_
  refine TQ.nxt (hX16 _ _ hl9 ?_)
  refine RG.a1 17 rfl (fun X17 hX17 => ?_)
  first | refine TL.st ty_sz176 ?_ | refine TL.se ty_sz176 ?_
  refine TL.nil ?_
  refine TQ.nxt (hX17 _ _ hl9 ?_)
  exact RG.nil (TQ.sub fs9 kt9 (hE ⟨x14, x15⟩)) (by kernel_rfl)
  refine TL.m (Mk.al ty_zr176) ?_
  intro x15
  refine TL.nil ?_
  refine TQ.nxt (hX15 _ _ hl9 ?_)
  refine RG.a1 14 rfl (fun X14 hX14 => ?_)
  refine TL.m (Mk.al ty_zr176) ?_
  intro x14
  refine TL.nil ?_
  refine TQ.nxt (hX14 _ _ hl9 ?_)
  refine RG.a1 16 rfl (fun X16 hX16 => ?_)
  first | refine TL.st ty_sz176 ?_ | refine TL.se ty_sz176 ?_
  refine TL.nil ?_
  refine TQ.nxt (hX16 _ _ hl9 ?_)
  refine RG.a1 17 rfl (fun X17 hX17 => ?_)
  first | refine TL.st ty_sz176 ?_ | refine TL.se ty_sz176 ?_
  refine TL.nil ?_
  refine TQ.nxt (hX17 _ _ hl9 ?_)
  exact RG.nil (TQ.sub fs9 kt9 (hE ⟨x14, x15⟩)) (by kernel_rfl)
  try simp only [decide_eq_true_eq, decide_eq_false_iff_not, Bool.not_eq_true', Bool.not_eq_false', Bool.and_eq_true, Bool.or_eq_true, Bool.and_eq_false_iff, Bool.or_eq_false_iff, Int.not_lt, Int.not_le] at hc0
  have hjn : j = (x k).n := by omega
  refine TW.exit ?_
  refine TQ.thenX ?_
  refine TQ.thenX ?_
  refine TQ.blkX ?_
  refine TQ.thenN (hY4 _ _ ?_)
  refine TW.seq fun Y18 hY18 => ?_
  refine TW.region ?_
  refine TL.bo (b := b5) (cs := [.int .i64 (lvF (g k) 0 3 a (dyB (x k).u p1) j), .int .i64 (lvF (g k) 1 2 b (dyS (x k).u p0) j)]) pk9 rfl ?_
  refine TL.p (Pu.lds ty_ag176) ?_
  first | refine TL.st ty_sz176 ?_ | refine TL.se ty_sz176 ?_
  refine TL.nil ?_
  refine TQ.thenN (hY18 _ _ ?_)
  refine TW.ret ?_
  refine TQ.ret Tryz.results100 rfl ((RV.cs ty_ag176 .nil)) ?_
  exact fun w hw => ⟨by rw [← hjn]; rfl, Chg.ext hw.chg⟩
end
end Go.Proofs.YtmonkjnfjgidbaaGreatDoor
namespace Go.Proofs.YtmonkjnfjgidbaaGreatDoor
set_option linter.all false
set_option linter.unusedVariables false
set_option linter.unusedSimpArgs false
open Go.RowKit
section
variable {c : Cx} {Q : Exit → Act → World → Prop} {F : Fr} {K K' : List Fact} {ops : Array Oper} {rest : List Oper} {d : Option Tmp} {ty : TypeId} {pos : String} {af : Array Edge} {g : Option (Nat × Bool)} {x y : Operand} {xt yt : TypeId}
theorem Pu.sl1 {j : Nat} (hx : ev F x = some (.int .i64 1) := by rfl) (hy : ev F y = some (.int .i64 (j : Int)) := by rfl) (hj : j ≤ 62 := by omega) : Pu c F K ⟨d, .binOp .shl xt x y yt, ty, pos, af, g⟩ (.int .i64 ((2 ^ j : Nat) : Int)) := Pu.bin hx hy fun w => by
  have h1 : (2 : Nat) ^ j ≤ 4611686018427387904 := Nat.le_trans (Nat.pow_le_pow_right (by omega) hj) (by decide)
  have h2 : ((2 ^ j : Nat) : Int) = 2 ^ j := by simp
  have h3 : Nat.min j 64 = j := by rw [show Nat.min j 64 = Min.min j 64 from rfl]; omega
  go_simp
  have h4 : (0 : Int) ≤ ((2 ^ j : Nat) : Int) := Int.natCast_nonneg _
  have h5 : ((2 ^ j : Nat) : Int) ≤ 4611686018427387904 := Int.ofNat_le.2 h1
  rw [← h2]
  generalize ((2 ^ j : Nat) : Int) = X at *
  exact IntWalk.i64_in _ (by omega)
theorem Pu.srN {b i : Nat} (hx : ev F x = some (.int .i64 (b : Int)) := by rfl) (hy : ev F y = some (.int .i64 (i : Int)) := by rfl) (hj : i ≤ 62 := by omega) : Pu c F K ⟨d, .binOp .shr xt x y yt, ty, pos, af, g⟩ (.int .i64 ((b / 2 ^ i : Nat) : Int)) := Pu.bin hx hy fun w => by
  go_simp
theorem bits_and1 {m : Nat} (hm : m ≤ 9223372036854775807) : bits .and .i64 (m : Int) 1 = ((m % 2 : Nat) : Int) := by
  have h1 : (BitVec.ofInt 64 (m : Int) &&& BitVec.ofInt 64 1).toNat = m % 2 := by
    rw [BitVec.toNat_and, BitVec.toNat_ofInt, BitVec.toNat_ofInt]
    have e1 : ((m : Int) % (2 ^ 64 : Nat)).toNat = m := by omega
    have e2 : ((1 : Int) % (2 ^ 64 : Nat)).toNat = 1 := by decide
    rw [e1, e2, Nat.and_one_is_mod]
  have h2 : bits .and .i64 (m : Int) 1 = IntKind.i64.wrap ((BitVec.ofInt 64 (m : Int) &&& BitVec.ofInt 64 1).toNat : Int) := rfl
  rw [h2, h1]
  exact IntWalk.i64_in _ (by omega)
theorem Pu.an1 {m : Nat} (hx : ev F x = some (.int .i64 (m : Int)) := by rfl) (hy : ev F y = some (.int .i64 1) := by rfl) (hm : m ≤ 9223372036854775807 := by omega) : Pu c F K ⟨d, .binOp .and xt x y yt, ty, pos, af, g⟩ (.int .i64 ((m % 2 : Nat) : Int)) := Pu.bin hx hy fun w => by
  have h := bits_and1 hm
  go_simp
theorem own_clear {z : Value} {E : TypeId} {G n cp : Nat} : ∀ (m q : Nat) (r : Nat → List Value) (w : World), q + m = n → OwnR w (some ⟨G, 0, none⟩) n cp E 1 r → OwnR (w.setCells G q (List.replicate m z)) (some ⟨G, 0, none⟩) n cp E 1 (fun k => if k < q then r k else [z]) ∧ Chg [G] w (w.setCells G q (List.replicate m z))
  | 0, q, r, w, hq, h => ⟨⟨h.own.congr fun i j hi hj => by simp only [rowF]; rw [if_pos (by omega)], fun i hi => by rw [if_pos (by omega)]; exact h.len i hi⟩, Chg.refl _ _⟩
  | m + 1, q, r, w, hq, h => by
    have hl := h.len q (by omega)
    have hset := h.own.set q 0 (by omega) (by omega) z
    rw [Nat.mul_one, Nat.add_zero] at hset
    have h2 : OwnR (w.setCell ⟨G, q, none⟩ z) (some ⟨G, 0, none⟩) n cp E 1 (updR r q [z]) := by
      refine ⟨hset.congr fun i j hi hj => ?_, fun i hi => ?_⟩
      · obtain rfl : j = 0 := by omega
        simp only [rowF, updR]
        by_cases h1 : i = q
        · subst h1; simp
        · simp [h1]
      · simp only [updR]; split
        · rfl
        · exact h.len i hi
    obtain ⟨h3, h4⟩ := own_clear m (q + 1) (updR r q [z]) _ (by omega) h2
    refine ⟨⟨h3.own.congr fun i j hi hj => ?_, fun i hi => ?_⟩, (Chg.setCell w ⟨G, q, none⟩ z).trans h4⟩
    · simp only [rowF, updR]
      by_cases h1 : i < q
      · rw [if_pos (by omega), if_neg (by omega), if_pos h1]
      · by_cases h5 : i = q
        · subst h5; rw [if_pos (by omega), if_pos rfl, if_neg h1]
        · rw [if_neg (by omega), if_neg h1]
    · have := h3.len i hi
      by_cases h1 : i < q
      · rw [if_pos h1]; exact h.len i hi
      · rw [if_neg h1]; rfl
theorem TL.clr {T E : TypeId} {A : Option Addr} {n cp q m cp2 : Nat} {r : Nat → List Value} {z : Value} {bytes : Nat} {dd : Option Tmp} (hT : ElemT c.P T E 1 bytes) (hz : ∀ w, (zeroValue E).run c.P w = .ok z w) (hzc : z.cells = #[z]) (h1 : z.oneCell' = true) (h : TL c ops Q rest (fput F dd (.tuple #[])) (.own A n cp E 1 (fun k => if k < q then r k else [z]) :: K'))
    (hx : ev F x = some (.slice (slA A cp 1 q) m cp2) := by rfl) (hp : Pick K (.own A n cp E 1 r) K' := by repeat (first | exact Pick.hd | apply Pick.tl)) (hq : q + m = n := by omega) (hd : dok dd c.n = true := by rfl) :
    TL c ops Q (⟨dd, .call { callee := .builtin .clear, args := #[x], argTypes := #[T] }, ty, pos, af, none⟩ :: rest) F K := fun a w hF hK => by
  have hs := hK.pick hp
  have hb : OwnR w A n cp E 1 r := hs.holds (.own A n cp E 1 r) (by simp)
  by_cases hm : m = 0
  · subst hm
    refine wpList_eff (v := .tuple #[]) rfl (w' := w) ?_ (h _ _ (hF.fput hd _) (hs.turn (Chg.refl _ _) (by cases A <;> simp [Fact.foot]) (fun b hb => .inl (by cases A <;> exact hb)) ?_))
    · simp only [execOp, resolve, invoke, List.map_toArray, List.map_cons, List.map_nil, hF.evl hx]
      cases slA A cp 1 q <;> simp [go_sem, Builtin.clear_, run_underlying hT.ht]
    · exact ⟨hb.own.congr fun i j hi hj => by simp only [rowF]; rw [if_pos (by omega)], fun i hi => by rw [if_pos (by omega)]; exact hb.len i hi⟩
  · obtain ⟨G, c', e, _, hg, hc, hcell, hfr⟩ := hb.own.form1 (by omega)
    injection e with e1 e2 e3
    subst e1 e3
    have eA : slA (some ⟨G, 0, none⟩) cp 1 q = some ⟨G, q, none⟩ := by
      unfold slA
      rw [if_neg (by omega), Option.map_some, add_plain, Nat.zero_add, Nat.mul_one]
    rw [eA] at hx
    obtain ⟨h3, h4⟩ := own_clear m q r w hq (z := z) hb
    refine wpList_eff (v := .tuple #[]) rfl (w' := w.setCells G q (List.replicate m z)) ?_ (h _ _ (hF.fput hd _) (hs.turn h4 (by simp [Fact.foot]) (fun b hb => .inl hb) h3))
    have hr := Lib.run_clear_slice (P := c.P) w T E ty z hT.ht hz hzc h1 G q m cp2 (by omega) (fun j hj => by have := hcell (q + j) 0 (by omega) (by omega); rw [Nat.mul_one, Nat.add_zero] at this; rw [this]; rfl) (fun j hj => hfr _)
    simp only [execOp, resolve, invoke, List.map_toArray, List.map_cons, List.map_nil, hF.evl hx]
    simp only [go_sem, builtin, Sem.run_bind, hr, Result.andThen_ok, Sem.run_pure]
end
end Go.Proofs.YtmonkjnfjgidbaaGreatDoor
namespace Go.Proofs.YtmonkjnfjgidbaaGreatDoor
set_option linter.all false
set_option linter.unusedVariables false
set_option linter.unusedSimpArgs false
open Go.RowKit
section
variable {c : Cx} {F : Fr} {K K' : List Fact}
theorem TW.seqD {Q : Exit → Act → World → Prop} {x y : Code} (h : ∀ Y : Act → World → Prop, (∀ (c2 : Cx) (F : Fr) (K : List Fact), TW c2 y Q F K → (hP : c2.P = c.P := by rfl) → TQ c2 (fun _ => Y) .normal F K) → TW c x (Exit.then Y Q) F K) : TW c (.seq x y) Q F K := fun a w hF hK =>
  wp_seq (h (y.wp c.P Q) (fun c2 F K h hP a w h1 h2 => hP ▸ h a w h1 h2) a w hF hK)
end
end Go.Proofs.YtmonkjnfjgidbaaGreatDoor
namespace Go.Proofs.YtmonkjnfjgidbaaGreatDoor
set_option linter.all false
set_option linter.unusedVariables false
set_option linter.unusedSimpArgs false
open Go.RowKit
section
variable {c : Cx} {Q : Exit → Act → World → Prop} {F F' : Fr} {K K' : List Fact}
theorem TW.np {x : Code} (h : TW c x (NP Q) F K) : TW c x Q F K := fun a w hF hK => wp_mono (h a w hF hK) fun e a w he => by
  cases e with
  | panic ch => exact he.elim
  | _ => exact he
theorem TQ.npN (h : TQ c Q .normal F K) : TQ c (NP Q) .normal F K := h
end
theorem Sat.apartO {S : List Nat} {w0 w : World} {K1 K2 : List Fact} {A : Option Addr} {n c : Nat} {E : TypeId} {sz : Nat} {r : Nat → List Value} (h : Sat S w0 (K1 ++ K2) w) (hm : .own A n c E sz r ∈ K2) : Apart (feet K1) A := fun b hb hm1 => by
  have hnd := List.nodup_append.1 (feet_append K1 K2 ▸ h.nd)
  cases A with
  | none => cases hb
  | some a =>
    have e : a.block = b := by simpa using hb
    exact hnd.2.2 b hm1 b (List.mem_flatMap.2 ⟨_, hm, by simp [Fact.foot, e]⟩) rfl
theorem Sat.apartB {S : List Nat} {w0 w : World} {K1 K2 : List Fact} {b : Nat} {t : TypeId} {cs : List Value} (h : Sat S w0 (K1 ++ K2) w) (hm : .blk b t cs ∈ K2) : Apart (feet K1) (some ⟨b, 0, none⟩) := fun b' hb hm1 => by
  have hnd := List.nodup_append.1 (feet_append K1 K2 ▸ h.nd)
  have e : b = b' := by simpa using hb
  subst e
  exact hnd.2.2 b hm1 b (List.mem_flatMap.2 ⟨_, hm, by simp [Fact.foot]⟩) rfl
end Go.Proofs.YtmonkjnfjgidbaaGreatDoor
