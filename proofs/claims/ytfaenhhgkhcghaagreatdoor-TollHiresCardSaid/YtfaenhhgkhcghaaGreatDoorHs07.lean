/-
  Part 7 of the proof of tollHires_holds: declarations of several texts, in build order. No condition on a program.
-/
import Derived.Test.YtfaenhhgkhcghaaGreatDoorHs06
import Derived.ChangeKeysEq
import Derived.Test.YtfaenhhgkhcghaaGreatDoorHs03
namespace Go.Proofs.YtfaenhhgkhcghaaGreatDoor
set_option linter.all false
set_option linter.unusedVariables false
set_option linter.unusedSimpArgs false
open Go.RowKit
def great3 (nw nl : Nat) (x : Nat → Leg) : Bool := decide (20 < (nw : Int)) || decide (40 < (nl : Int)) || anyB nl fun k => decide (20 < ((x k).n : Int))
theorem anyB_hit {n k : Nat} {p : Nat → Bool} (hk : k < n) (h : p k = true) : anyB n p = true := by
 unfold anyB
 exact List.any_eq_true.2 ⟨k, List.mem_range.2 hk, h⟩
theorem anyB_none {n : Nat} {p : Nat → Bool} (h : ∀ k, k < n → p k = false) : anyB n p = false := by
 unfold anyB
 rw [List.any_eq_false]
 intro k hk
 rw [h k (List.mem_range.1 hk)]
 simp
theorem great3_any {W A : Option Addr} {nw cw nl cl : Nat} {x : Nat → Leg} {w : World} (hA : RdR w 5 A nl (fun k => legL (x k))) :
  Calls Tryz.prog 24 #[.agg (landL W nw cw A nl cl).toArray] w (Ret w (.bool (great3 nw nl x))) := by
 unfold landL
 refine K_enter (S := []) (K := []) Tryz.func24 rfl Tryz.ntmps24 rfl (Sat.start _) ?_
 refine TW.seq fun Y1 hY1 => TW.region ?_
 refine TL.m Mk.bx ?_
 intro b1
 refine TL.p Pu.as ?_
 refine TL.nil (TQ.thenN (hY1 _ _ ?_))
 refine TW.seq fun Y2 hY2 => ?_
 refine TW.seq fun Y3 hY3 => ?_
 refine TW.join [(13, .bool (decide (20 < (nw : Int)) || decide (40 < (nl : Int))))] ?_ (fun hJ1 => ?_)
 refine TQ.thenN (hY3 _ _ ?_)
 refine TW.cond rfl (fun hc0 => ?_) (fun hc0 => ?_)
 try simp only [zcb9] at hc0
 have hg : (decide (20 < (nw : Int)) || decide (40 < (nl : Int))) = true := by simpa using hc0
 refine TW.seq fun Y4 hY4 => TW.region ?_
 refine TL.p Pu.as ?_
 refine TL.nil (TQ.thenN (hY4 _ _ ?_))
 refine TW.ret ?_
 refine TQ.thenR ?_
 refine TQ.ret Tryz.results24 rfl ((.tmp rfl .nil)) ?_
 exact fun w hw => ⟨ret_bool (by unfold great3; rw [hg]; rfl), Chg.ext hw.chg⟩
 try simp only [zcb9] at hc0
 have hg : (decide (20 < (nw : Int)) || decide (40 < (nl : Int))) = false := by simpa using hc0
 have hl : nl ≤ 40 := by omega
 refine TW.skip ?_
 refine TQ.thenN (hY2 _ _ ?_)
 refine TW.seq fun Y5 hY5 => ?_
 refine TW.seq fun Y6 hY6 => TW.region ?_
 refine TL.p Pu.as ?_
 refine TL.nil (TQ.thenN (hY6 _ _ ?_))
 refine TW.block ?_
 refine TW.loop1 (fun (k : Nat) => [(3, .int .i64 (k : Int)), (1, .pointer (some ⟨b1, 0, none⟩))]) (fun k => [.blk b1 25 [.slice W nw cw, .slice A nl cl]]) (fun k => k ≤ nl ∧ ∀ j, j < k → decide (20 < ((x j).n : Int)) = false) (fun k => nl - k) 0 fs9 ?_ ?_ ?_
 exact ks9
 exact ⟨Nat.zero_le _, fun j hj => by omega⟩
 rintro k ⟨hk, hall⟩ Z0 hZ0
 refine TW.seq fun Y7 hY7 => ?_
 refine TW.seq fun Y8 hY8 => TW.region ?_
 refine TL.p Pu.mv ?_
 refine TL.p (by first | exact Pu.fb ty_fa25_1 | exact Pu.fe ty_fa25_1) ?_
 refine TL.p (Pu.ld ty_sc23) ?_
 refine TL.p (Pu.ln Tryz.underlying23) ?_
 refine TL.p Pu.lt ?_
 refine TL.nil (TQ.thenN (hY8 _ _ ?_))
 refine TW.cond rfl (fun hc1 => ?_) (fun hc1 => ?_)
 try simp only [zcb9] at hc1
 have hkn : k < nl := by omega
 refine TW.skip ?_
 refine TQ.thenN (hY7 _ _ ?_)
 refine TW.seq fun Y9 hY9 => ?_
 refine TW.block ?_
 refine TW.seq fun Y10 hY10 => TW.region ?_
 refine TL.p (by first | exact Pu.fb ty_fa25_1 | exact Pu.fe ty_fa25_1) ?_
 refine TL.p (Pu.ld ty_sc23) ?_
 refine TL.p Pu.mv ?_
 refine TL.p (Pu.el ty_et23) ?_
 refine TL.p (by first | exact Pu.fb ty_fa107_3 | exact Pu.fe ty_fa107_3) ?_
 refine TL.p (Pu.ld ty_sc105) ?_
 refine TL.p (Pu.ln Tryz.underlying105) ?_
 refine TL.p Pu.gt ?_
 refine TL.nil (TQ.thenN (hY10 _ _ ?_))
 refine TW.cond rfl (fun hc2 => ?_) (fun hc2 => ?_)
 try simp only [zcb9] at hc2
 have h9 : decide (20 < ((x k).n : Int)) = true := by simpa using hc2
 refine TW.seq fun Y11 hY11 => TW.region ?_
 refine TL.p Pu.as ?_
 refine TL.nil (TQ.thenN (hY11 _ _ ?_))
 refine TW.ret ?_
 refine TQ.blkR ?_
 refine TQ.thenR ?_
 refine TQ.thenR ?_
 refine TQ.blkR ?_
 refine TQ.thenR ?_
 refine TQ.ret Tryz.results24 rfl ((.tmp rfl .nil)) ?_
 exact fun w hw => ⟨ret_bool (by unfold great3; rw [hg, anyB_hit (p := fun k => decide (20 < ((x k).n : Int))) hkn h9]; rfl), Chg.ext hw.chg⟩
 try simp only [zcb9] at hc2
 have h9 : decide (20 < ((x k).n : Int)) = false := by simpa using hc2
 refine TW.skip ?_
 refine TQ.blkN ?_
 refine TQ.thenN (hY9 _ _ ?_)
 refine TW.region ?_
 refine TL.p Pu.mv ?_
 refine TL.p Pu.ad ?_
 refine TL.p Pu.as ?_
 refine TL.nil ?_
 refine TQ.thenN (hZ0 (k + 1) _ _ ?_ ?_ fs9 ?_)
 refine ⟨by omega, fun j hj => ?_⟩
 by_cases h : j = k
 subst h; exact h9
 exact hall j (by omega)
 exact zom9
 exact ks9
 try simp only [zcb9] at hc1
 obtain rfl : k = nl := by omega
 refine TW.exit ?_
 refine TQ.thenX ?_
 refine TQ.thenX ?_
 refine TQ.blkX ?_
 refine TQ.thenN (hY5 _ _ ?_)
 refine TW.seq fun Y12 hY12 => TW.region ?_
 refine TL.p Pu.as ?_
 refine TL.nil (TQ.thenN (hY12 _ _ ?_))
 refine TW.ret ?_
 refine TQ.ret Tryz.results24 rfl ((.tmp rfl .nil)) ?_
 exact fun w hw => ⟨ret_bool (by unfold great3; rw [hg, anyB_none hall]; rfl), Chg.ext hw.chg⟩
 refine TW.region ?_
 refine TL.p (by first | exact Pu.fb ty_fa25_0 | exact Pu.fe ty_fa25_0) ?_
 refine TL.p (Pu.ld ty_sc22) ?_
 refine TL.p (Pu.ln Tryz.underlying22) ?_
 refine TL.p Pu.gt ?_
 refine TL.p Pu.mv ?_
 refine TL.guard (t := 8) rfl (fun hg1 => ?_) (fun hg1 => ?_)
 refine TL.gs ?_
 refine TL.gs ?_
 refine TL.gs ?_
 refine TL.gs ?_
 refine TL.p Pu.kt ?_
 refine TL.nil ?_
 exact TQ.sub (by repeat (first | exact trivial | refine ⟨rfl, ?_⟩ | refine ⟨trivial, ?_⟩ | refine ⟨(by show some (Value.bool _) = some (Value.bool _); first | (simp [hg1]; done) | (refine congrArg (fun z => some (Value.bool z)) (Bool.eq_iff_iff.2 ?_); simp [hg1]; omega)), ?_⟩)) ks9 hJ1
 refine TL.gd (by first | exact Pu.fb ty_fa25_1 | exact Pu.fe ty_fa25_1) ?_
 refine TL.gd (Pu.ld ty_sc23) ?_
 refine TL.gd (Pu.ln Tryz.underlying23) ?_
 refine TL.gd Pu.gt ?_
 refine TL.p Pu.kf ?_
 refine TL.nil ?_
 exact TQ.sub (by repeat (first | exact trivial | refine ⟨rfl, ?_⟩ | refine ⟨trivial, ?_⟩ | refine ⟨(by show some (Value.bool _) = some (Value.bool _); first | (simp [hg1]; done) | (refine congrArg (fun z => some (Value.bool z)) (Bool.eq_iff_iff.2 ?_); simp [hg1]; omega)), ?_⟩)) ks9 hJ1
def troopL (hd wo : Int) (O : Option Addr) (no co : Nat) (U : Option Addr) (nu cu : Nat) (V : Option Addr) (nv cv : Nat) : List Value := [.int .i64 hd, .int .i64 wo, .slice O no co, .slice U nu cu, .slice V nv cv]
def great7 (nw nl : Nat) (x : Nat → Leg) (nc nd nb no nu nv : Nat) : Bool :=
 great3 nw nl x || decide (40 < (nc : Int)) || decide (30 < (nd : Int)) || decide (30 < (nb : Int)) || decide (12 < (no : Int)) || decide (12 < (nu : Int)) || decide (12 < (nv : Int))
set_option maxRecDepth 100000 in
set_option maxHeartbeats 1000000 in
theorem great7_any {W A C D B O U V : Option Addr} {nw cw nl cl nc cc nd cd nb cb no co nu cu nv cv : Nat} {hd wo : Int} {x : Nat → Leg} {w : World} (hA : RdR w 5 A nl (fun k => legL (x k))) :
  Calls Tryz.prog 5 #[.agg (landL W nw cw A nl cl).toArray, .agg (custL C nc cc D nd cd B nb cb).toArray, .agg (troopL hd wo O no co U nu cu V nv cv).toArray] w (Ret w (.bool (great7 nw nl x nc nd nb no nu nv))) := by
 unfold landL custL troopL
 refine K_enter (S := []) (K := []) Tryz.func5 rfl Tryz.ntmps5 rfl (Sat.start _) ?_
 refine TW.seq fun Y1 hY1 => TW.region ?_
 refine TL.m Mk.bx ?_
 intro b1
 refine TL.m Mk.bx ?_
 intro b2
 refine TL.m Mk.bx ?_
 intro b3
 refine TL.p Pu.as ?_
 refine TL.nil (TQ.thenN (hY1 _ _ ?_))
 refine TW.seq fun Y2 hY2 => ?_
 refine TW.join [(6, .bool (great7 nw nl x nc nd nb no nu nv))] ?_ (fun hJ1 => ?_)
 refine TQ.thenN (hY2 _ _ ?_)
 refine TW.ret ?_
 refine TQ.ret Tryz.results5 rfl ((.tmp rfl .nil)) ?_
 exact fun w hw => Ret.of hw
 refine TW.region ?_
 refine TL.p (Pu.lds ty_ag25) ?_
 refine TL.cr rfl (enters Tryz.func24 rfl rfl) (fun w hw => by
   exact great3_any (hA.sat hw Apart.nil)) ?_
 refine TL.p Pu.mv ?_
 refine TL.guard (t := 9) rfl (fun hg1 => ?_) (fun hg1 => ?_)
 refine TL.gs ?_
 refine TL.gs ?_
 refine TL.gs ?_
 refine TL.gs ?_
 refine TL.p Pu.kt ?_
 refine TL.p Pu.mv ?_
 refine TL.gs ?_
 refine TL.gs ?_
 refine TL.gs ?_
 refine TL.gs ?_
 refine TL.p Pu.kt ?_
 refine TL.p Pu.mv ?_
 refine TL.gs ?_
 refine TL.gs ?_
 refine TL.gs ?_
 refine TL.gs ?_
 refine TL.p Pu.kt ?_
 refine TL.p Pu.mv ?_
 refine TL.gs ?_
 refine TL.gs ?_
 refine TL.gs ?_
 refine TL.gs ?_
 refine TL.p Pu.kt ?_
 refine TL.p Pu.mv ?_
 refine TL.gs ?_
 refine TL.gs ?_
 refine TL.gs ?_
 refine TL.gs ?_
 refine TL.p Pu.kt ?_
 refine TL.p Pu.mv ?_
 refine TL.gs ?_
 refine TL.gs ?_
 refine TL.gs ?_
 refine TL.gs ?_
 refine TL.p Pu.kt ?_
 refine TL.p Pu.as ?_
 refine TL.nil ?_
 exact TQ.sub (by repeat (first | exact trivial | refine ⟨rfl, ?_⟩ | refine ⟨trivial, ?_⟩ | refine ⟨(by show some (Value.bool _) = some (Value.bool _); first | (simp [hg1, great7]; done) | (refine congrArg (fun z => some (Value.bool z)) (Bool.eq_iff_iff.2 ?_); simp [hg1, great7]; omega)), ?_⟩)) ks9 hJ1
 refine TL.gd (by first | exact Pu.fb ty_fa30_0 | exact Pu.fe ty_fa30_0) ?_
 refine TL.gd (Pu.ld ty_sc26) ?_
 refine TL.gd (Pu.ln Tryz.underlying26) ?_
 refine TL.gd Pu.gt ?_
 refine TL.p Pu.kf ?_
 refine TL.p Pu.mv ?_
 refine TL.guard (t := 15) rfl (fun hg2 => ?_) (fun hg2 => ?_)
 refine TL.gs ?_
 refine TL.gs ?_
 refine TL.gs ?_
 refine TL.gs ?_
 refine TL.p Pu.kt ?_
 refine TL.p Pu.mv ?_
 refine TL.gs ?_
 refine TL.gs ?_
 refine TL.gs ?_
 refine TL.gs ?_
 refine TL.p Pu.kt ?_
 refine TL.p Pu.mv ?_
 refine TL.gs ?_
 refine TL.gs ?_
 refine TL.gs ?_
 refine TL.gs ?_
 refine TL.p Pu.kt ?_
 refine TL.p Pu.mv ?_
 refine TL.gs ?_
 refine TL.gs ?_
 refine TL.gs ?_
 refine TL.gs ?_
 refine TL.p Pu.kt ?_
 refine TL.p Pu.mv ?_
 refine TL.gs ?_
 refine TL.gs ?_
 refine TL.gs ?_
 refine TL.gs ?_
 refine TL.p Pu.kt ?_
 refine TL.p Pu.as ?_
 refine TL.nil ?_
 exact TQ.sub (by repeat (first | exact trivial | refine ⟨rfl, ?_⟩ | refine ⟨trivial, ?_⟩ | refine ⟨(by show some (Value.bool _) = some (Value.bool _); first | (simp [hg1, hg2, great7]; done) | (refine congrArg (fun z => some (Value.bool z)) (Bool.eq_iff_iff.2 ?_); simp [hg1, hg2, great7]; omega)), ?_⟩)) ks9 hJ1
 refine TL.gd (by first | exact Pu.fb ty_fa30_1 | exact Pu.fe ty_fa30_1) ?_
 refine TL.gd (Pu.ld ty_sc27) ?_
 refine TL.gd (Pu.ln Tryz.underlying27) ?_
 refine TL.gd Pu.gt ?_
 refine TL.p Pu.kf ?_
 refine TL.p Pu.mv ?_
 refine TL.guard (t := 21) rfl (fun hg3 => ?_) (fun hg3 => ?_)
 refine TL.gs ?_
 refine TL.gs ?_
 refine TL.gs ?_
 refine TL.gs ?_
 refine TL.p Pu.kt ?_
 refine TL.p Pu.mv ?_
 refine TL.gs ?_
 refine TL.gs ?_
 refine TL.gs ?_
 refine TL.gs ?_
 refine TL.p Pu.kt ?_
 refine TL.p Pu.mv ?_
 refine TL.gs ?_
 refine TL.gs ?_
 refine TL.gs ?_
 refine TL.gs ?_
 refine TL.p Pu.kt ?_
 refine TL.p Pu.mv ?_
 refine TL.gs ?_
 refine TL.gs ?_
 refine TL.gs ?_
 refine TL.gs ?_
 refine TL.p Pu.kt ?_
 refine TL.p Pu.as ?_
 refine TL.nil ?_
 exact TQ.sub (by repeat (first | exact trivial | refine ⟨rfl, ?_⟩ | refine ⟨trivial, ?_⟩ | refine ⟨(by show some (Value.bool _) = some (Value.bool _); first | (simp [hg1, hg2, hg3, great7]; done) | (refine congrArg (fun z => some (Value.bool z)) (Bool.eq_iff_iff.2 ?_); simp [hg1, hg2, hg3, great7]; omega)), ?_⟩)) ks9 hJ1
 refine TL.gd (by first | exact Pu.fb ty_fa30_2 | exact Pu.fe ty_fa30_2) ?_
 refine TL.gd (Pu.ld ty_sc28) ?_
 refine TL.gd (Pu.ln Tryz.underlying28) ?_
 refine TL.gd Pu.gt ?_
 refine TL.p Pu.kf ?_
 refine TL.p Pu.mv ?_
 refine TL.guard (t := 27) rfl (fun hg4 => ?_) (fun hg4 => ?_)
 refine TL.gs ?_
 refine TL.gs ?_
 refine TL.gs ?_
 refine TL.gs ?_
 refine TL.p Pu.kt ?_
 refine TL.p Pu.mv ?_
 refine TL.gs ?_
 refine TL.gs ?_
 refine TL.gs ?_
 refine TL.gs ?_
 refine TL.p Pu.kt ?_
 refine TL.p Pu.mv ?_
 refine TL.gs ?_
 refine TL.gs ?_
 refine TL.gs ?_
 refine TL.gs ?_
 refine TL.p Pu.kt ?_
 refine TL.p Pu.as ?_
 refine TL.nil ?_
 exact TQ.sub (by repeat (first | exact trivial | refine ⟨rfl, ?_⟩ | refine ⟨trivial, ?_⟩ | refine ⟨(by show some (Value.bool _) = some (Value.bool _); first | (simp [hg1, hg2, hg3, hg4, great7]; done) | (refine congrArg (fun z => some (Value.bool z)) (Bool.eq_iff_iff.2 ?_); simp [hg1, hg2, hg3, hg4, great7]; omega)), ?_⟩)) ks9 hJ1
 refine TL.gd (by first | exact Pu.fb ty_fa33_2 | exact Pu.fe ty_fa33_2) ?_
 refine TL.gd (Pu.ld ty_sc31) ?_
 refine TL.gd (Pu.ln Tryz.underlying31) ?_
 refine TL.gd Pu.gt ?_
 refine TL.p Pu.kf ?_
 refine TL.p Pu.mv ?_
 refine TL.guard (t := 33) rfl (fun hg5 => ?_) (fun hg5 => ?_)
 refine TL.gs ?_
 refine TL.gs ?_
 refine TL.gs ?_
 refine TL.gs ?_
 refine TL.p Pu.kt ?_
 refine TL.p Pu.mv ?_
 refine TL.gs ?_
 refine TL.gs ?_
 refine TL.gs ?_
 refine TL.gs ?_
 refine TL.p Pu.kt ?_
 refine TL.p Pu.as ?_
 refine TL.nil ?_
 exact TQ.sub (by repeat (first | exact trivial | refine ⟨rfl, ?_⟩ | refine ⟨trivial, ?_⟩ | refine ⟨(by show some (Value.bool _) = some (Value.bool _); first | (simp [hg1, hg2, hg3, hg4, hg5, great7]; done) | (refine congrArg (fun z => some (Value.bool z)) (Bool.eq_iff_iff.2 ?_); simp [hg1, hg2, hg3, hg4, hg5, great7]; omega)), ?_⟩)) ks9 hJ1
 refine TL.gd (by first | exact Pu.fb ty_fa33_3 | exact Pu.fe ty_fa33_3) ?_
 refine TL.gd (Pu.ld ty_sc31) ?_
 refine TL.gd (Pu.ln Tryz.underlying31) ?_
 refine TL.gd Pu.gt ?_
 refine TL.p Pu.kf ?_
 refine TL.p Pu.mv ?_
 refine TL.guard (t := 39) rfl (fun hg6 => ?_) (fun hg6 => ?_)
 refine TL.gs ?_
 refine TL.gs ?_
 refine TL.gs ?_
 refine TL.gs ?_
 refine TL.p Pu.kt ?_
 refine TL.p Pu.as ?_
 refine TL.nil ?_
 exact TQ.sub (by repeat (first | exact trivial | refine ⟨rfl, ?_⟩ | refine ⟨trivial, ?_⟩ | refine ⟨(by show some (Value.bool _) = some (Value.bool _); first | (simp [hg1, hg2, hg3, hg4, hg5, hg6, great7]; done) | (refine congrArg (fun z => some (Value.bool z)) (Bool.eq_iff_iff.2 ?_); simp [hg1, hg2, hg3, hg4, hg5, hg6, great7]; omega)), ?_⟩)) ks9 hJ1
 refine TL.gd (by first | exact Pu.fb ty_fa33_4 | exact Pu.fe ty_fa33_4) ?_
 refine TL.gd (Pu.ld ty_sc31) ?_
 refine TL.gd (Pu.ln Tryz.underlying31) ?_
 refine TL.gd Pu.gt ?_
 refine TL.p Pu.kf ?_
 refine TL.p Pu.as ?_
 refine TL.nil ?_
 exact TQ.sub (by repeat (first | exact trivial | refine ⟨rfl, ?_⟩ | refine ⟨trivial, ?_⟩ | refine ⟨(by show some (Value.bool _) = some (Value.bool _); first | (simp [hg1, hg2, hg3, hg4, hg5, hg6, great7]; done) | (refine congrArg (fun z => some (Value.bool z)) (Bool.eq_iff_iff.2 ?_); simp [hg1, hg2, hg3, hg4, hg5, hg6, great7]; omega)), ?_⟩)) ks9 hJ1
end Go.Proofs.YtfaenhhgkhcghaaGreatDoor
namespace Go.Proofs.YtfaenhhgkhcghaaGreatDoor
set_option linter.all false
set_option linter.unusedVariables false
set_option linter.unusedSimpArgs false
open Go.RowKit
structure Cus where
 nc : Nat
 nd : Nat
 nb : Nat
 c : Nat → (Nat → Int) × Bool
 d : Nat → Nat → Int
 b : Nat → Nat → Int
structure Trp where
 hd : Int
 wo : Int
 no : Nat
 nu : Nat
 nv : Nat
 o : Nat → Int
 u : Nat → Int
 v : Nat → Int
structure TrpIn (w : World) (T : Trp) (O U V : Option Addr) : Prop where
 hno : T.no ≤ 1000
 hnu : T.nu ≤ 1000
 hnv : T.nv ≤ 1000
 hO : RdR w 1 O T.no (fun k => [.int .i64 (T.o k)])
 hU : RdR w 1 U T.nu (fun k => [.int .i64 (T.u k)])
 hV : RdR w 1 V T.nv (fun k => [.int .i64 (T.v k)])
theorem TrpIn.ext {w w' : World} {T : Trp} {O U V : Option Addr} (h : TrpIn w T O U V) (hb : Below w.heap.size w w') : TrpIn w' T O U V :=
 ⟨h.hno, h.hnu, h.hnv, h.hO.chg (Chg.of_ext hb) Apart.nil, h.hU.chg (Chg.of_ext hb) Apart.nil, h.hV.chg (Chg.of_ext hb) Apart.nil⟩
def triK (v : Nat → Int) (k : Nat) : Bool := inB5 0 7 (v k) && (decide (k = 0) || decide (v (k - 1) < v k))
theorem tri_no {v : Nat → Int} {n k : Nat} (hk : k < n) (h : triK v k = false) : triOk v n = false := by
 unfold triOk
 rw [Bool.eq_false_iff]
 intro h2
 have := allB_iff.1 h2 k hk
 rw [← triK, h] at this
 cases this
set_option maxRecDepth 100000 in
theorem list_any {A : Option Addr} {n cp : Nat} {v : Nat → Int} {w : World} (hn : n ≤ 1000) (hR : RdR w 1 A n (fun k => [.int .i64 (v k)])) :
  Calls Tryz.prog 63 #[.slice A n cp] w (Ret w (.bool (triOk v n))) := by
 refine K_enter (S := []) (K := []) Tryz.func63 rfl Tryz.ntmps63 rfl (Sat.start _) ?_
 refine TW.seq fun Y1 hY1 => TW.region ?_
 refine TL.p Pu.as ?_
 refine TL.nil (TQ.thenN (hY1 _ _ ?_))
 refine TW.seq fun Y2 hY2 => ?_
 refine TW.seq fun Y3 hY3 => TW.region ?_
 refine TL.p Pu.as ?_
 refine TL.nil (TQ.thenN (hY3 _ _ ?_))
 refine TW.block ?_
 refine TW.loop1 (fun (k : Nat) => [(3, .int .i64 (k : Int)), (0, .slice A n cp)]) (fun k => []) (fun k => k ≤ n ∧ ∀ j, j < k → triK v j = true) (fun k => n - k) 0 fs9 ?_ ?_ ?_
 exact ks9
 exact ⟨Nat.zero_le _, fun j hj => by omega⟩
 rintro k ⟨hk, hall⟩ Z0 hZ0
 refine TW.seq fun Y4 hY4 => ?_
 refine TW.seq fun Y5 hY5 => TW.region ?_
 refine TL.p Pu.mv ?_
 refine TL.p Pu.mv ?_
 refine TL.p (Pu.ln Tryz.underlying31) ?_
 refine TL.p Pu.lt ?_
 refine TL.nil (TQ.thenN (hY5 _ _ ?_))
 refine TW.cond rfl (fun hc0 => ?_) (fun hc0 => ?_)
 try simp only [zcb9] at hc0
 have hkn : k < n := by omega
 have e1 : (0 < (k : Int)) = ¬ (k = 0) := by simp; omega
 refine TW.skip ?_
 refine TQ.thenN (hY4 _ _ ?_)
 refine TW.seq fun Y6 hY6 => ?_
 refine TW.block ?_
 refine TW.seq fun Y7 hY7 => ?_
 refine TW.join [(31, .bool (!triK v k))] ?_ (fun hJ1 => ?_)
 refine TQ.thenN (hY7 _ _ ?_)
 refine TW.cond rfl (fun hc1 => ?_) (fun hc1 => ?_)
 try simp only [zcb9] at hc1
 have hg : triK v k = false := by simpa using hc1
 refine TW.seq fun Y8 hY8 => TW.region ?_
 refine TL.p Pu.as ?_
 refine TL.nil (TQ.thenN (hY8 _ _ ?_))
 refine TW.ret ?_
 refine TQ.blkR ?_
 refine TQ.thenR ?_
 refine TQ.thenR ?_
 refine TQ.blkR ?_
 refine TQ.thenR ?_
 refine TQ.ret Tryz.results63 rfl ((.tmp rfl .nil)) ?_
 exact fun w hw => ⟨ret_bool (by rw [tri_no hkn hg]), Chg.ext hw.chg⟩
 try simp only [zcb9] at hc1
 have hg : triK v k = true := by simpa using hc1
 refine TW.skip ?_
 refine TQ.blkN ?_
 refine TQ.thenN (hY6 _ _ ?_)
 refine TW.region ?_
 refine TL.p Pu.mv ?_
 refine TL.p Pu.ad ?_
 refine TL.p Pu.as ?_
 refine TL.nil ?_
 refine TQ.thenN (hZ0 (k + 1) _ _ ?_ ?_ fs9 ?_)
 exact ⟨by omega, fun j hj => (Nat.lt_succ_iff_lt_or_eq.1 hj).elim (hall j) (fun e => e ▸ hg)⟩
 exact zom9
 exact ks9
 refine TW.dw 22 ?_
 refine RK.tk Pu.mv ?_
 refine RK.tk Pu.mv ?_
 refine RK.tk (Pu.el ty_et31) ?_
 refine RK.tk (Pu.ld ty_sc3) ?_
 refine RK.keep ?_
 refine RK.keep ?_
 refine RK.keep ?_
 refine RK.keep ?_
 refine RK.keep ?_
 refine RK.keep ?_
 refine RK.keep ?_
 refine RK.keep ?_
 refine RK.keep ?_
 refine RK.keep ?_
 refine RK.keep ?_
 refine RK.keep ?_
 refine RK.keep ?_
 refine RK.keep ?_
 refine RK.keep ?_
 refine RK.keep ?_
 refine RK.keep ?_
 refine RK.keep ?_
 refine RK.ch [false, true, true, true, true, true, true, true, true, true, true, true, true, true, true, true, true, true] ?_ trivial
 refine WK.cr rfl (enters Tryz.func61 rfl rfl) (fun w hw => by
   exact within7_any _ _ _ _) ?_
 refine WK.p Pu.no ?_
 refine WK.p Pu.mv ?_
 refine WK.guard (t := 16) rfl (fun hg1 => ?_) (fun hg1 => ?_)
 try simp only [zgb9] at hg1
 refine WK.ps ?_
 refine WK.ps ?_
 refine WK.ps ?_
 refine WK.ps ?_
 refine WK.ps ?_
 refine WK.ps ?_
 refine WK.ps ?_
 refine WK.ps ?_
 refine WK.ps ?_
 refine WK.ps ?_
 refine WK.ps ?_
 refine WK.ps ?_
 refine WK.ps ?_
 refine WK.ps ?_
 refine WK.p Pu.kt ?_
 refine WK.n ?_
 refine TL.nil ?_
 exact TQ.sub (by repeat (first | exact trivial | refine ⟨rfl, ?_⟩ | refine ⟨trivial, ?_⟩ | refine ⟨(by show some (Value.bool _) = some (Value.bool _); first | (simp [hg1, triK]; done) | (refine congrArg (fun z => some (Value.bool z)) (Bool.eq_iff_iff.2 ?_); simp [hg1, triK]; omega)), ?_⟩)) ks9 hJ1
 try simp only [zgb9] at hg1
 refine WK.p Pu.mv ?_
 refine WK.p Pu.gt ?_
 refine WK.p Pu.mv ?_
 refine WK.guard (t := 19) rfl (fun hg2 => ?_) (fun hg2 => ?_)
 try simp only [zgb9] at hg2
 refine WK.p Pu.mv ?_
 refine WK.p Pu.mv ?_
 refine WK.p (Pu.el ty_et31) ?_
 refine WK.p (Pu.ld ty_sc3) ?_
 refine WK.p Pu.mv ?_
 refine WK.p Pu.mv ?_
 refine WK.p Pu.sb ?_
 refine WK.p (Pu.el (q := k - 1) ty_et31 (hk := by omega)) ?_
 refine WK.p (Pu.ld ty_sc3) ?_
 refine WK.p Pu.le ?_
 refine WK.p Pu.kt ?_
 refine WK.p Pu.kf ?_
 refine WK.n ?_
 refine TL.nil ?_
 exact TQ.sub (by repeat (first | exact trivial | refine ⟨rfl, ?_⟩ | refine ⟨trivial, ?_⟩ | refine ⟨(by show some (Value.bool _) = some (Value.bool _); first | (simp [hg1, hg2, triK]; done) | (refine congrArg (fun z => some (Value.bool z)) (Bool.eq_iff_iff.2 ?_); simp [hg1, hg2, triK]; omega)), ?_⟩)) ks9 hJ1
 try simp only [zgb9] at hg2
 refine WK.ps ?_
 refine WK.ps ?_
 refine WK.ps ?_
 refine WK.ps ?_
 refine WK.ps ?_
 refine WK.ps ?_
 refine WK.ps ?_
 refine WK.ps ?_
 refine WK.ps ?_
 refine WK.ps ?_
 refine WK.p Pu.kf ?_
 refine WK.p Pu.kf ?_
 refine WK.n ?_
 refine TL.nil ?_
 exact TQ.sub (by repeat (first | exact trivial | refine ⟨rfl, ?_⟩ | refine ⟨trivial, ?_⟩ | refine ⟨(by show some (Value.bool _) = some (Value.bool _); first | (simp [hg1, hg2, triK]; done) | (refine congrArg (fun z => some (Value.bool z)) (Bool.eq_iff_iff.2 ?_); simp [hg1, hg2, triK]; omega)), ?_⟩)) ks9 hJ1
 try simp only [zcb9] at hc0
 have hkn : k = n := by omega
 refine TW.exit ?_
 refine TQ.thenX ?_
 refine TQ.thenX ?_
 refine TQ.blkX ?_
 refine TQ.thenN (hY2 _ _ ?_)
 refine TW.seq fun Y9 hY9 => TW.region ?_
 refine TL.p Pu.as ?_
 refine TL.nil (TQ.thenN (hY9 _ _ ?_))
 refine TW.ret ?_
 refine TQ.ret Tryz.results63 rfl ((.tmp rfl .nil)) ?_
 exact fun w hw => ⟨ret_bool (by unfold triOk; exact allB_iff.2 fun j hj => hall j (by omega)), Chg.ext hw.chg⟩
def trpOk (T : Trp) : Bool := inB5 1 1000 T.hd && inB5 0 1000000000000 T.wo && triOk T.o T.no && triOk T.u T.nu && triOk T.v T.nv
set_option maxRecDepth 100000 in
theorem rTroop_any {T : Trp} {O U V : Option Addr} {co cu cv : Nat} {w : World} (h : TrpIn w T O U V) :
  Calls Tryz.prog 30 #[.agg (troopL T.hd T.wo O T.no co U T.nu cu V T.nv cv).toArray] w (Ret w (.bool (trpOk T))) := by
 have hO := h.hO
 have hU := h.hU
 have hV := h.hV
 unfold troopL
 refine K_enter (S := []) (K := []) Tryz.func30 rfl Tryz.ntmps30 rfl (Sat.start _) ?_
 refine TW.seq fun Y1 hY1 => TW.region ?_
 refine TL.m Mk.bx ?_
 intro b1
 refine TL.p Pu.as ?_
 refine TL.nil (TQ.thenN (hY1 _ _ ?_))
 refine TW.seq fun Y2 hY2 => ?_
 refine TW.join [(2, .bool (trpOk T))] ?_ (fun hJ1 => ?_)
 refine TQ.thenN (hY2 _ _ ?_)
 refine TW.ret ?_
 refine TQ.ret Tryz.results30 rfl ((.tmp rfl .nil)) ?_
 exact fun w hw => Ret.of hw
 refine TW.region ?_
 refine TL.p (by first | exact Pu.fb ty_fa33_0 | exact Pu.fe ty_fa33_0) ?_
 refine TL.p (Pu.ld ty_sc3) ?_
 refine TL.cr rfl (enters Tryz.func61 rfl rfl) (fun w hw => by
   exact within7_any _ _ _ _) ?_
 refine TL.p Pu.mv ?_
 refine TL.guard (t := 6) rfl (fun hg1 => ?_) (fun hg1 => ?_)
 refine TL.gd (by first | exact Pu.fb ty_fa33_1 | exact Pu.fe ty_fa33_1) ?_
 refine TL.gd (Pu.ld ty_sc3) ?_
 refine TL.cr rfl (enters Tryz.func61 rfl rfl) (fun w hw => by
   exact within7_any _ _ _ _) ?_
 refine TL.p Pu.kt ?_
 refine TL.p Pu.mv ?_
 refine TL.guard (t := 11) rfl (fun hg2 => ?_) (fun hg2 => ?_)
 refine TL.gd (by first | exact Pu.fb ty_fa33_2 | exact Pu.fe ty_fa33_2) ?_
 refine TL.gd (Pu.ld ty_sc31) ?_
 refine TL.cr rfl (enters Tryz.func63 rfl rfl) (fun w hw => by
   exact list_any h.hno (hO.sat hw Apart.nil)) ?_
 refine TL.p Pu.kt ?_
 refine TL.p Pu.mv ?_
 refine TL.guard (t := 16) rfl (fun hg3 => ?_) (fun hg3 => ?_)
 refine TL.gd (by first | exact Pu.fb ty_fa33_3 | exact Pu.fe ty_fa33_3) ?_
 refine TL.gd (Pu.ld ty_sc31) ?_
 refine TL.cr rfl (enters Tryz.func63 rfl rfl) (fun w hw => by
   exact list_any h.hnu (hU.sat hw Apart.nil)) ?_
 refine TL.p Pu.kt ?_
 refine TL.p Pu.mv ?_
 refine TL.guard (t := 21) rfl (fun hg4 => ?_) (fun hg4 => ?_)
 refine TL.gd (by first | exact Pu.fb ty_fa33_4 | exact Pu.fe ty_fa33_4) ?_
 refine TL.gd (Pu.ld ty_sc31) ?_
 refine TL.cr rfl (enters Tryz.func63 rfl rfl) (fun w hw => by
   exact list_any h.hnv (hV.sat hw Apart.nil)) ?_
 refine TL.p Pu.kt ?_
 refine TL.p Pu.as ?_
 refine TL.nil ?_
 exact TQ.sub (by repeat (first | exact trivial | refine ⟨rfl, ?_⟩ | refine ⟨trivial, ?_⟩ | refine ⟨(by show some (Value.bool _) = some (Value.bool _); first | (simp [hg1, hg2, hg3, hg4, trpOk]; done) | (refine congrArg (fun z => some (Value.bool z)) (Bool.eq_iff_iff.2 ?_); simp [hg1, hg2, hg3, hg4, trpOk]; omega)), ?_⟩)) ks9 hJ1
 refine TL.gs ?_
 refine TL.gs ?_
 refine TL.gs ?_
 refine TL.p Pu.kf ?_
 refine TL.p Pu.as ?_
 refine TL.nil ?_
 exact TQ.sub (by repeat (first | exact trivial | refine ⟨rfl, ?_⟩ | refine ⟨trivial, ?_⟩ | refine ⟨(by show some (Value.bool _) = some (Value.bool _); first | (simp [hg1, hg2, hg3, hg4, trpOk]; done) | (refine congrArg (fun z => some (Value.bool z)) (Bool.eq_iff_iff.2 ?_); simp [hg1, hg2, hg3, hg4, trpOk]; omega)), ?_⟩)) ks9 hJ1
 refine TL.gs ?_
 refine TL.gs ?_
 refine TL.gs ?_
 refine TL.p Pu.kf ?_
 refine TL.p Pu.mv ?_
 refine TL.gs ?_
 refine TL.gs ?_
 refine TL.gs ?_
 refine TL.p Pu.kf ?_
 refine TL.p Pu.as ?_
 refine TL.nil ?_
 exact TQ.sub (by repeat (first | exact trivial | refine ⟨rfl, ?_⟩ | refine ⟨trivial, ?_⟩ | refine ⟨(by show some (Value.bool _) = some (Value.bool _); first | (simp [hg1, hg2, hg3, trpOk]; done) | (refine congrArg (fun z => some (Value.bool z)) (Bool.eq_iff_iff.2 ?_); simp [hg1, hg2, hg3, trpOk]; omega)), ?_⟩)) ks9 hJ1
 refine TL.gs ?_
 refine TL.gs ?_
 refine TL.gs ?_
 refine TL.p Pu.kf ?_
 refine TL.p Pu.mv ?_
 refine TL.gs ?_
 refine TL.gs ?_
 refine TL.gs ?_
 refine TL.p Pu.kf ?_
 refine TL.p Pu.mv ?_
 refine TL.gs ?_
 refine TL.gs ?_
 refine TL.gs ?_
 refine TL.p Pu.kf ?_
 refine TL.p Pu.as ?_
 refine TL.nil ?_
 exact TQ.sub (by repeat (first | exact trivial | refine ⟨rfl, ?_⟩ | refine ⟨trivial, ?_⟩ | refine ⟨(by show some (Value.bool _) = some (Value.bool _); first | (simp [hg1, hg2, trpOk]; done) | (refine congrArg (fun z => some (Value.bool z)) (Bool.eq_iff_iff.2 ?_); simp [hg1, hg2, trpOk]; omega)), ?_⟩)) ks9 hJ1
 refine TL.gs ?_
 refine TL.gs ?_
 refine TL.gs ?_
 refine TL.p Pu.kf ?_
 refine TL.p Pu.mv ?_
 refine TL.gs ?_
 refine TL.gs ?_
 refine TL.gs ?_
 refine TL.p Pu.kf ?_
 refine TL.p Pu.mv ?_
 refine TL.gs ?_
 refine TL.gs ?_
 refine TL.gs ?_
 refine TL.p Pu.kf ?_
 refine TL.p Pu.mv ?_
 refine TL.gs ?_
 refine TL.gs ?_
 refine TL.gs ?_
 refine TL.p Pu.kf ?_
 refine TL.p Pu.as ?_
 refine TL.nil ?_
 exact TQ.sub (by repeat (first | exact trivial | refine ⟨rfl, ?_⟩ | refine ⟨trivial, ?_⟩ | refine ⟨(by show some (Value.bool _) = some (Value.bool _); first | (simp [hg1, trpOk]; done) | (refine congrArg (fun z => some (Value.bool z)) (Bool.eq_iff_iff.2 ?_); simp [hg1, trpOk]; omega)), ?_⟩)) ks9 hJ1
theorem iL_app2 {L L' : List Int} {m : Nat} {x y : Int} {s : Nat → List Value} (hm : m = L.length) (hL : L' = L ++ [x, y]) (h0 : s 0 = [.int .i64 x]) (h1 : s 1 = [.int .i64 y]) : ∀ i, i < m + 2 → catR m (iL L) s i = iL L' i := fun i hi => by
  subst hL
  simp only [catR, iL]
  rw [getD_app]
  by_cases h : i < m
  · rw [if_pos h, if_pos (by omega)]
  · rw [if_neg h, if_neg (by omega), ← hm]
    have : i - m = 0 ∨ i - m = 1 := by omega
    rcases this with e | e <;> rw [e]
    · rw [h0]; rfl
    · rw [h1]; rfl
end Go.Proofs.YtfaenhhgkhcghaaGreatDoor
namespace Go.Proofs.YtfaenhhgkhcghaaGreatDoor
set_option linter.all false
set_option linter.unusedVariables false
set_option linter.unusedSimpArgs false
open Go.RowKit
structure CusOk (Z : Cus) : Prop where
 nc : Z.nc ≤ 30
 nd : Z.nd ≤ 20
 nb : Z.nb ≤ 20
 c : ∀ k, k < Z.nc → 0 ≤ (Z.c k).1 1 ∧ (Z.c k).1 1 ≤ 7 ∧ 0 ≤ (Z.c k).1 2 ∧ (Z.c k).1 2 ≤ (Z.c k).1 3 ∧ (Z.c k).1 3 ≤ 100000 ∧ 0 ≤ (Z.c k).1 4 ∧ (Z.c k).1 4 ≤ 1000000 ∧ 0 ≤ (Z.c k).1 5 ∧ (Z.c k).1 5 ≤ 1000
 d : ∀ k, k < Z.nd → 0 ≤ Z.d k 0 ∧ Z.d k 0 ≤ 7 ∧ 0 ≤ Z.d k 1 ∧ Z.d k 1 ≤ 7 ∧ 0 ≤ Z.d k 2 ∧ Z.d k 2 ≤ Z.d k 3 ∧ Z.d k 3 ≤ 100000
 b : ∀ k, k < Z.nb → 0 ≤ Z.b k 1 ∧ Z.b k 1 ≤ Z.b k 2 ∧ Z.b k 2 ≤ 100000
theorem cusOk_of {nl : Nat} {Z : Cus} (h : custC nl Z.nc Z.nd Z.nb Z.c Z.d Z.b = 0) : CusOk Z := by
 unfold custC at h
 split at h
 · cases h
 · next h1 =>
   split at h
   · cases h
   · next h2 =>
     split at h
     · cases h
     · next h3 =>
       rw [Bool.not_eq_false, Bool.and_eq_true] at h1 h2 h3
       simp only [Bool.not_eq_true', decide_eq_false_iff_not] at h1 h2 h3
       refine ⟨by omega, by omega, by omega, fun k hk => ?_, fun k hk => ?_, fun k hk => ?_⟩
       · have := allB_iff.1 h1.1 k hk
         unfold claimOk dayOk inB5 at this
         simp only [Bool.and_eq_true, decide_eq_true_eq] at this
         omega
       · have := allB_iff.1 h2.1 k hk
         unfold feudOk dayOk inB5 at this
         simp only [Bool.and_eq_true, decide_eq_true_eq] at this
         omega
       · have := allB_iff.1 h3.1 k hk
         unfold borderOk dayOk inB5 at this
         simp only [Bool.and_eq_true, decide_eq_true_eq] at this
         omega
def rulZ (Z : Cus) (lo : Int) : List Int := rulL lo Z.nc Z.nd Z.nb Z.c Z.d Z.b
def tuD (Z : Cus) (lo hi : Int) : List Int := tuK lo hi (fun k => (rulZ Z lo).getD k 0) (rulZ Z lo).length
theorem rulZ_len {Z : Cus} {lo : Int} (h1 : Z.nc ≤ 1000) (h2 : Z.nd ≤ 1000) (h3 : Z.nb ≤ 1000) : (rulZ Z lo).length ≤ 6001 := by
 unfold rulZ
 rw [rul_len]
 omega
theorem tuD_len {Z : Cus} {lo hi : Int} (h1 : Z.nc ≤ 1000) (h2 : Z.nd ≤ 1000) (h3 : Z.nb ≤ 1000) : (tuD Z lo hi).length ≤ 6001 :=
 Nat.le_trans (tu_len _) (rulZ_len h1 h2 h3)
def r1L (Z : Cus) (lo : Int) (k : Nat) : List Int := ([lo] : List Int) ++ prsL (fun k => (Z.c k).1 2) (fun k => (Z.c k).1 3 + 1) k
def r2L (Z : Cus) (lo : Int) (k : Nat) : List Int := r1L Z lo Z.nc ++ prsL (fun k => Z.d k 2) (fun k => Z.d k 3 + 1) k
def r3L (Z : Cus) (lo : Int) (k : Nat) : List Int := r2L Z lo Z.nd ++ prsL (fun k => Z.b k 1) (fun k => Z.b k 2 + 1) k
theorem r1_len {Z : Cus} {lo : Int} {k : Nat} : (r1L Z lo k).length = 1 + 2 * k := by simp [r1L, prs_len]; omega
theorem r2_len {Z : Cus} {lo : Int} {k : Nat} : (r2L Z lo k).length = 1 + 2 * Z.nc + 2 * k := by simp [r2L, prs_len, r1_len]
theorem r3_len {Z : Cus} {lo : Int} {k : Nat} : (r3L Z lo k).length = 1 + 2 * Z.nc + 2 * Z.nd + 2 * k := by simp [r3L, prs_len, r2_len]
theorem r1_s {Z : Cus} {lo : Int} {k : Nat} : r1L Z lo (k + 1) = r1L Z lo k ++ [(Z.c k).1 2, (Z.c k).1 3 + 1] := by simp [r1L, prsL]
theorem r2_s {Z : Cus} {lo : Int} {k : Nat} : r2L Z lo (k + 1) = r2L Z lo k ++ [Z.d k 2, Z.d k 3 + 1] := by simp [r2L, prsL]
theorem r3_s {Z : Cus} {lo : Int} {k : Nat} : r3L Z lo (k + 1) = r3L Z lo k ++ [Z.b k 1, Z.b k 2 + 1] := by simp [r3L, prsL]
theorem r2_0 {Z : Cus} {lo : Int} : r1L Z lo Z.nc = r2L Z lo 0 := by simp [r2L, prsL]
theorem r3_0 {Z : Cus} {lo : Int} : r2L Z lo Z.nd = r3L Z lo 0 := by simp [r3L, prsL]
theorem tuK_s {lo hi : Int} {v : Nat → Int} {k : Nat} : tuK lo hi v (k + 1) = if (inB5 lo hi (v k) && !(tuK lo hi v k).contains (v k)) = true then tuK lo hi v k ++ [v k] else tuK lo hi v k := rfl
theorem has_mem {L : List Int} {a : Int} : hasB (fun k => L.getD k 0) L.length a = L.contains a := by
 rw [Bool.eq_iff_iff, List.contains_iff_mem]
 unfold hasB
 rw [exB_iff]
 constructor
 · rintro ⟨k, hk, e⟩
   rw [← of_decide_eq_true e]
   exact mem_getD hk
 · intro h
   obtain ⟨j, hj, e⟩ := List.mem_iff_getElem.1 h
   exact ⟨j, hj, decide_eq_true (by simp [List.getD_eq_getElem?_getD, hj, e])⟩
theorem andN {a b : Bool} (h : a = false ∨ b = true) : ¬ ((a && !b) = true) := by cases a <;> cases b <;> simp_all
section
variable {Z : Cus} {C D B : Option Addr} {cc cd cb : Nat} {w : World}
set_option maxRecDepth 100000 in
set_option maxHeartbeats 1000000 in
theorem rTurns_any (lo hi : Int) (hok : CusOk Z) (h : CustIn w C Z.nc D Z.nd B Z.nb Z.c Z.d Z.b) :
  CallsK Tryz.prog 79 #[.agg (custL C Z.nc cc D Z.nd cd B Z.nb cb).toArray, .int .i64 lo, .int .i64 hi] [] w (Option Addr × Nat) (fun y => .slice y.1 (tuD Z lo hi).length y.2) (fun y => [.own y.1 (tuD Z lo hi).length y.2 3 1 (iL (tuD Z lo hi))]) := by
 have hRC := h.hC
 have hRD := h.hD
 have hRB := h.hB
 have h1 := h.hnc
 have h2 := h.hnd
 have h3 := h.hnb
 have hl := rulZ_len (lo := lo) h1 h2 h3
 unfold custL
 refine K_enter (S := []) (K := []) Tryz.func79 rfl Tryz.ntmps79 rfl (Sat.start _) ?_
 refine TW.seq fun Y1 hY1 => TW.region ?_
 refine TL.m Mk.bx ?_
 intro b1
 refine TL.p Pu.as ?_
 refine TL.nil (TQ.thenN (hY1 _ _ ?_))
 refine TW.seq fun Y2 hY2 => TW.region ?_
 refine TL.p Pu.mv ?_
 refine TL.m Mk.bl ?_
 intro b2
 refine TL.p Pu.as ?_
 refine TL.nil (TQ.thenN (hY2 _ _ ?_))
 refine TW.seq fun Y3 hY3 => ?_
 refine TW.seq fun Y4 hY4 => TW.region ?_
 refine TL.p Pu.as ?_
 refine TL.nil (TQ.thenN (hY4 _ _ ?_))
 refine TW.block ?_
 refine TW.loop5 (fun (k : Nat) (A : Option Addr) (cp : Nat) (L : List Int) (m : Nat) => [(8, .int .i64 (k : Int)), (7, .slice A m cp), (3, .pointer (some ⟨b1, 0, none⟩)), (1, .int .i64 lo), (2, .int .i64 hi)]) (fun k A cp L m => [.own A m cp 3 1 (iL L), .blk b1 30 [.slice C Z.nc cc, .slice D Z.nd cd, .slice B Z.nb cb]]) (fun k A cp L m => k ≤ Z.nc ∧ L = r1L Z lo k ∧ m = L.length) (fun k A cp L m => Z.nc - k) 0 _ _ (r1L Z lo 0) 1 fs9 ?_ ?_ ?_
 exact KSub.ofBlk pk9 rfl (fun _ _ => rfl) rfl rfl ks9
 exact ⟨Nat.zero_le _, rfl, rfl⟩
 rintro k A cp L m ⟨hk, hL, hm⟩ Z0 hZ0
 refine TW.seq fun Y5 hY5 => ?_
 refine TW.seq fun Y6 hY6 => TW.region ?_
 refine TL.p Pu.mv ?_
 refine TL.p (by first | exact Pu.fb ty_fa30_0 | exact Pu.fe ty_fa30_0) ?_
 refine TL.p (Pu.ld ty_sc26) ?_
 refine TL.p (Pu.ln Tryz.underlying26) ?_
 refine TL.p Pu.lt ?_
 refine TL.nil (TQ.thenN (hY6 _ _ ?_))
 refine TW.cond rfl (fun hc0 => ?_) (fun hc0 => ?_)
 try simp only [zcb9] at hc0
 have hkn : k < Z.nc := by omega
 have hbd := hok.c k hkn
 have hmb : m ≤ 10000 := by rw [hm, hL, r1_len]; omega
 refine TW.skip ?_
 refine TQ.thenN (hY5 _ _ ?_)
 refine TW.seq fun Y7 hY7 => ?_
 refine TW.block ?_
 refine TW.dw 15 ?_
 refine RK.tk Pu.mv ?_
 refine RK.tk (by first | exact Pu.fb ty_fa30_0 | exact Pu.fe ty_fa30_0) ?_
 refine RK.tk (Pu.ld ty_sc26) ?_
 refine RK.tk Pu.mv ?_
 refine RK.tk (Pu.el ty_et26) ?_
 refine RK.tk (by first | exact Pu.fb ty_fa70_2 | exact Pu.fe ty_fa70_2) ?_
 refine RK.tk (Pu.ld ty_sc3) ?_
 refine RK.tk (by first | exact Pu.fb ty_fa30_0 | exact Pu.fe ty_fa30_0) ?_
 refine RK.tk (Pu.ld ty_sc26) ?_
 refine RK.tk Pu.mv ?_
 refine RK.tk (Pu.el ty_et26) ?_
 refine RK.tk (by first | exact Pu.fb ty_fa70_3 | exact Pu.fe ty_fa70_3) ?_
 refine RK.tk (Pu.ld ty_sc3) ?_
 refine RK.tk Pu.ad ?_
 refine RK.keep ?_
 refine RK.ch [false] ?_ trivial
 refine WK.m Mk.bl ?_
 intro b3
 refine WK.n ?_
 refine TL.obn (b := b3) (n := 2) (sz := 1) (r := iL [(Z.c k).1 2, (Z.c k).1 3 + 1]) pk9 rfl (fun _ _ => rfl) ?_
 first | refine TL.a0 ty_et31 ?_ | refine TL.ap ty_et31 ?_
 intro A4 c4
 refine TL.p Pu.as ?_
 refine TL.nil ?_
 refine TQ.blkN ?_
 refine TQ.thenN (hY7 _ _ ?_)
 refine TW.region ?_
 refine TL.p Pu.mv ?_
 refine TL.p Pu.ad ?_
 refine TL.p Pu.as ?_
 refine TL.nil ?_
 refine TQ.thenN (hZ0 (k + 1) _ _ (r1L Z lo (k + 1)) _ _ _ ?_ ?_ fs9 ?_)
 exact ⟨by omega, rfl, by rw [hm, hL, r1_len, r1_len]; omega⟩
 exact zom9
 exact KSub.own Pick.hd (iL_app2 hm (by rw [r1_s, hL]; rfl) rfl rfl) ks9
 try simp only [zcb9] at hc0
 obtain rfl : k = Z.nc := by omega
 refine TW.exit ?_
 refine TQ.thenX ?_
 refine TQ.thenX ?_
 refine TQ.blkX ?_
 refine TQ.thenN (hY3 _ _ ?_)
 refine TW.seq fun Y8 hY8 => ?_
 refine TW.seq fun Y9 hY9 => TW.region ?_
 refine TL.p Pu.as ?_
 refine TL.nil (TQ.thenN (hY9 _ _ ?_))
 refine TW.block ?_
 refine TW.loop5 (fun (k : Nat) (A : Option Addr) (cp : Nat) (L : List Int) (m : Nat) => [(9, .int .i64 (k : Int)), (7, .slice A m cp), (3, .pointer (some ⟨b1, 0, none⟩)), (1, .int .i64 lo), (2, .int .i64 hi)]) (fun k A cp L m => [.own A m cp 3 1 (iL L), .blk b1 30 [.slice C Z.nc cc, .slice D Z.nd cd, .slice B Z.nb cb]]) (fun k A cp L m => k ≤ Z.nd ∧ L = r2L Z lo k ∧ m = L.length) (fun k A cp L m => Z.nd - k) 0 _ _ L m fs9 ?_ ?_ ?_
 exact ks9
 exact ⟨Nat.zero_le _, by rw [hL, r2_0], hm⟩
 rintro k A cp L m ⟨hk, hL, hm⟩ Z1 hZ1
 refine TW.seq fun Y10 hY10 => ?_
 refine TW.seq fun Y11 hY11 => TW.region ?_
 refine TL.p Pu.mv ?_
 refine TL.p (by first | exact Pu.fb ty_fa30_1 | exact Pu.fe ty_fa30_1) ?_
 refine TL.p (Pu.ld ty_sc27) ?_
 refine TL.p (Pu.ln Tryz.underlying27) ?_
 refine TL.p Pu.lt ?_
 refine TL.nil (TQ.thenN (hY11 _ _ ?_))
 refine TW.cond rfl (fun hc1 => ?_) (fun hc1 => ?_)
 try simp only [zcb9] at hc1
 have hkn : k < Z.nd := by omega
 have hbd := hok.d k hkn
 have hmb : m ≤ 10000 := by rw [hm, hL, r2_len]; omega
 refine TW.skip ?_
 refine TQ.thenN (hY10 _ _ ?_)
 refine TW.seq fun Y12 hY12 => ?_
 refine TW.block ?_
 refine TW.dw 15 ?_
 refine RK.tk Pu.mv ?_
 refine RK.tk (by first | exact Pu.fb ty_fa30_1 | exact Pu.fe ty_fa30_1) ?_
 refine RK.tk (Pu.ld ty_sc27) ?_
 refine RK.tk Pu.mv ?_
 refine RK.tk (Pu.el ty_et27) ?_
 refine RK.tk (by first | exact Pu.fb ty_fa109_2 | exact Pu.fe ty_fa109_2) ?_
 refine RK.tk (Pu.ld ty_sc3) ?_
 refine RK.tk (by first | exact Pu.fb ty_fa30_1 | exact Pu.fe ty_fa30_1) ?_
 refine RK.tk (Pu.ld ty_sc27) ?_
 refine RK.tk Pu.mv ?_
 refine RK.tk (Pu.el ty_et27) ?_
 refine RK.tk (by first | exact Pu.fb ty_fa109_3 | exact Pu.fe ty_fa109_3) ?_
 refine RK.tk (Pu.ld ty_sc3) ?_
 refine RK.tk Pu.ad ?_
 refine RK.keep ?_
 refine RK.ch [false] ?_ trivial
 refine WK.m Mk.bl ?_
 intro b5
 refine WK.n ?_
 refine TL.obn (b := b5) (n := 2) (sz := 1) (r := iL [Z.d k 2, Z.d k 3 + 1]) pk9 rfl (fun _ _ => rfl) ?_
 first | refine TL.a0 ty_et31 ?_ | refine TL.ap ty_et31 ?_
 intro A6 c6
 refine TL.p Pu.as ?_
 refine TL.nil ?_
 refine TQ.blkN ?_
 refine TQ.thenN (hY12 _ _ ?_)
 refine TW.region ?_
 refine TL.p Pu.mv ?_
 refine TL.p Pu.ad ?_
 refine TL.p Pu.as ?_
 refine TL.nil ?_
 refine TQ.thenN (hZ1 (k + 1) _ _ (r2L Z lo (k + 1)) _ _ _ ?_ ?_ fs9 ?_)
 exact ⟨by omega, rfl, by rw [hm, hL, r2_len, r2_len]; omega⟩
 exact zom9
 exact KSub.own Pick.hd (iL_app2 hm (by rw [r2_s, hL]; rfl) rfl rfl) ks9
 try simp only [zcb9] at hc1
 obtain rfl : k = Z.nd := by omega
 refine TW.exit ?_
 refine TQ.thenX ?_
 refine TQ.thenX ?_
 refine TQ.blkX ?_
 refine TQ.thenN (hY8 _ _ ?_)
 refine TW.seq fun Y13 hY13 => ?_
 refine TW.seq fun Y14 hY14 => TW.region ?_
 refine TL.p Pu.as ?_
 refine TL.nil (TQ.thenN (hY14 _ _ ?_))
 refine TW.block ?_
 refine TW.loop5 (fun (k : Nat) (A : Option Addr) (cp : Nat) (L : List Int) (m : Nat) => [(10, .int .i64 (k : Int)), (7, .slice A m cp), (3, .pointer (some ⟨b1, 0, none⟩)), (1, .int .i64 lo), (2, .int .i64 hi)]) (fun k A cp L m => [.own A m cp 3 1 (iL L), .blk b1 30 [.slice C Z.nc cc, .slice D Z.nd cd, .slice B Z.nb cb]]) (fun k A cp L m => k ≤ Z.nb ∧ L = r3L Z lo k ∧ m = L.length) (fun k A cp L m => Z.nb - k) 0 _ _ L m fs9 ?_ ?_ ?_
 exact ks9
 exact ⟨Nat.zero_le _, by rw [hL, r3_0], hm⟩
 rintro k A cp L m ⟨hk, hL, hm⟩ Z2 hZ2
 refine TW.seq fun Y15 hY15 => ?_
 refine TW.seq fun Y16 hY16 => TW.region ?_
 refine TL.p Pu.mv ?_
 refine TL.p (by first | exact Pu.fb ty_fa30_2 | exact Pu.fe ty_fa30_2) ?_
 refine TL.p (Pu.ld ty_sc28) ?_
 refine TL.p (Pu.ln Tryz.underlying28) ?_
 refine TL.p Pu.lt ?_
 refine TL.nil (TQ.thenN (hY16 _ _ ?_))
 refine TW.cond rfl (fun hc2 => ?_) (fun hc2 => ?_)
 try simp only [zcb9] at hc2
 have hkn : k < Z.nb := by omega
 have hbd := hok.b k hkn
 have hmb : m ≤ 10000 := by rw [hm, hL, r3_len]; omega
 refine TW.skip ?_
 refine TQ.thenN (hY15 _ _ ?_)
 refine TW.seq fun Y17 hY17 => ?_
 refine TW.block ?_
 refine TW.dw 15 ?_
 refine RK.tk Pu.mv ?_
 refine RK.tk (by first | exact Pu.fb ty_fa30_2 | exact Pu.fe ty_fa30_2) ?_
 refine RK.tk (Pu.ld ty_sc28) ?_
 refine RK.tk Pu.mv ?_
 refine RK.tk (Pu.el ty_et28) ?_
 refine RK.tk (by first | exact Pu.fb ty_fa72_1 | exact Pu.fe ty_fa72_1) ?_
 refine RK.tk (Pu.ld ty_sc3) ?_
 refine RK.tk (by first | exact Pu.fb ty_fa30_2 | exact Pu.fe ty_fa30_2) ?_
 refine RK.tk (Pu.ld ty_sc28) ?_
 refine RK.tk Pu.mv ?_
 refine RK.tk (Pu.el ty_et28) ?_
 refine RK.tk (by first | exact Pu.fb ty_fa72_2 | exact Pu.fe ty_fa72_2) ?_
 refine RK.tk (Pu.ld ty_sc3) ?_
 refine RK.tk Pu.ad ?_
 refine RK.keep ?_
 refine RK.ch [false] ?_ trivial
 refine WK.m Mk.bl ?_
 intro b7
 refine WK.n ?_
 refine TL.obn (b := b7) (n := 2) (sz := 1) (r := iL [Z.b k 1, Z.b k 2 + 1]) pk9 rfl (fun _ _ => rfl) ?_
 first | refine TL.a0 ty_et31 ?_ | refine TL.ap ty_et31 ?_
 intro A8 c8
 refine TL.p Pu.as ?_
 refine TL.nil ?_
 refine TQ.blkN ?_
 refine TQ.thenN (hY17 _ _ ?_)
 refine TW.region ?_
 refine TL.p Pu.mv ?_
 refine TL.p Pu.ad ?_
 refine TL.p Pu.as ?_
 refine TL.nil ?_
 refine TQ.thenN (hZ2 (k + 1) _ _ (r3L Z lo (k + 1)) _ _ _ ?_ ?_ fs9 ?_)
 exact ⟨by omega, rfl, by rw [hm, hL, r3_len, r3_len]; omega⟩
 exact zom9
 exact KSub.own Pick.hd (iL_app2 hm (by rw [r3_s, hL]; rfl) rfl rfl) ks9
 try simp only [zcb9] at hc2
 obtain rfl : k = Z.nb := by omega
 refine TW.exit ?_
 refine TQ.thenX ?_
 refine TQ.thenX ?_
 refine TQ.blkX ?_
 refine TQ.thenN (hY13 _ _ ?_)
 refine TW.seq fun Y18 hY18 => TW.region ?_
 refine TL.p Pu.as ?_
 refine TL.nil (TQ.thenN (hY18 _ _ ?_))
 refine TW.seq fun Y19 hY19 => ?_
 refine TW.seq fun Y20 hY20 => TW.region ?_
 refine TL.p Pu.as ?_
 refine TL.nil (TQ.thenN (hY20 _ _ ?_))
 refine TW.block ?_
 refine TW.loop5 (fun (k : Nat) (E : Option Addr) (ce : Nat) (M : List Int) (q : Nat) => [(12, .int .i64 (k : Int)), (11, .slice E q ce), (7, .slice A m cp), (1, .int .i64 lo), (2, .int .i64 hi)]) (fun k E ce M q => [.own E q ce 3 1 (iL M), .own A m cp 3 1 (iL L)]) (fun k E ce M q => k ≤ m ∧ M = tuK lo hi (fun k => (rulZ Z lo).getD k 0) k ∧ q = M.length) (fun k E ce M q => m - k) 0 none 0 [] 0 fs9 ?_ ?_ ?_
 exact KSub.nilOwn ks9
 exact ⟨Nat.zero_le _, rfl, rfl⟩
 rintro k E ce M q ⟨hk, hM, hq⟩ Z3 hZ3
 have hLZ : L = rulZ Z lo := hL
 have hq9 : q ≤ 10000 := by rw [hq, hM]; exact Nat.le_trans (tu_len k) (by rw [hLZ] at hm; omega)
 have hm9 : m ≤ 10000 := by rw [hm, hLZ]; omega
 have hv : L.getD k 0 = (rulZ Z lo).getD k 0 := by rw [hLZ]
 refine TW.seq fun Y21 hY21 => ?_
 refine TW.seq fun Y22 hY22 => TW.region ?_
 refine TL.p Pu.mv ?_
 refine TL.p Pu.mv ?_
 refine TL.p (Pu.ln Tryz.underlying31) ?_
 refine TL.p Pu.lt ?_
 refine TL.nil (TQ.thenN (hY22 _ _ ?_))
 refine TW.cond rfl (fun hc3 => ?_) (fun hc3 => ?_)
 try simp only [zcb9] at hc3
 have hkn : k < m := by omega
 refine TW.skip ?_
 refine TQ.thenN (hY21 _ _ ?_)
 refine TW.seq fun Y23 hY23 => ?_
 refine TW.block ?_
 refine TW.seq fun Y24 hY24 => ?_
 refine TW.join [(105, .bool (inB5 lo hi (L.getD k 0) && !hasB (fun j => M.getD j 0) q (L.getD k 0)))] ?_ (fun hJ1 => ?_)
 refine TQ.thenN (hY24 _ _ ?_)
 refine TW.cond rfl (fun hc4 => ?_) (fun hc4 => ?_)
 try simp only [zcb9] at hc4
 have hstep : tuK lo hi (fun k => (rulZ Z lo).getD k 0) (k + 1) = M ++ [L.getD k 0] := by
  rw [tuK_s, ← hM, ← hv, ← has_mem, ← hq, if_pos (by simpa using hc4)]
 have hlen : q + 1 = (tuK lo hi (fun k => (rulZ Z lo).getD k 0) (k + 1)).length := by rw [hstep, List.length_append, ← hq]; rfl
 refine TW.region ?_
 refine TL.p Pu.mv ?_
 refine TL.p Pu.mv ?_
 refine TL.p Pu.mv ?_
 refine TL.p (Pu.el ty_et31) ?_
 refine TL.p (Pu.ld ty_sc3) ?_
 refine TL.m Mk.bl ?_
 intro b9
 first | refine TL.a0 ty_et31 ?_ | refine TL.ap ty_et31 ?_
 intro A10 c10
 refine TL.p Pu.as ?_
 refine TL.nil ?_
 refine TQ.blkN ?_
 refine TQ.thenN (hY23 _ _ ?_)
 refine TW.region ?_
 refine TL.p Pu.mv ?_
 refine TL.p Pu.ad ?_
 refine TL.p Pu.as ?_
 refine TL.nil ?_
 refine TQ.thenN (hZ3 (k + 1) _ _ (tuK lo hi (fun k => (rulZ Z lo).getD k 0) (k + 1)) _ _ _ ?_ ?_ fs9 ?_)
 exact ⟨by omega, rfl, hlen⟩
 exact zom9
 first
  | exact KSub.own Pick.hd (iL_app hq (by rw [hstep]; simp [hL, List.getD_eq_getElem?_getD]) rfl) ks9
  | exact KSub.own pk9 (fun i _ => by rw [hstep]) ks9
 try simp only [zcb9] at hc4
 have hstep : tuK lo hi (fun k => (rulZ Z lo).getD k 0) (k + 1) = M := by
  rw [tuK_s, ← hM, ← hv, ← has_mem, ← hq, if_neg (andN hc4)]
 have hlen : q = (tuK lo hi (fun k => (rulZ Z lo).getD k 0) (k + 1)).length := by rw [hstep, ← hq]
 refine TW.skip ?_
 refine TQ.blkN ?_
 refine TQ.thenN (hY23 _ _ ?_)
 refine TW.region ?_
 refine TL.p Pu.mv ?_
 refine TL.p Pu.ad ?_
 refine TL.p Pu.as ?_
 refine TL.nil ?_
 refine TQ.thenN (hZ3 (k + 1) _ _ (tuK lo hi (fun k => (rulZ Z lo).getD k 0) (k + 1)) _ _ _ ?_ ?_ fs9 ?_)
 exact ⟨by omega, rfl, hlen⟩
 exact zom9
 first
  | exact KSub.own Pick.hd (iL_app hq (by rw [hstep]; simp [hL, List.getD_eq_getElem?_getD]) rfl) ks9
  | exact KSub.own pk9 (fun i _ => by rw [hstep]) ks9
 refine TW.region ?_
 refine TL.p Pu.mv ?_
 refine TL.p Pu.mv ?_
 refine TL.p (Pu.el ty_et31) ?_
 refine TL.p (Pu.ld ty_sc3) ?_
 refine TL.p Pu.mv ?_
 refine TL.p Pu.mv ?_
 refine TL.cr rfl (enters Tryz.func61 rfl rfl) (fun w hw => by
   exact within7_any _ _ _ _) ?_
 refine TL.p Pu.mv ?_
 refine TL.guard (t := 97) rfl (fun hg1 => ?_) (fun hg1 => ?_)
 refine TL.gd Pu.mv ?_
 refine TL.gd Pu.mv ?_
 refine TL.gd Pu.mv ?_
 refine TL.gd (Pu.el ty_et31) ?_
 refine TL.gd (Pu.ld ty_sc3) ?_
 refine TL.cr rfl (enters Tryz.func112 rfl rfl) (fun w hw => by
   exact rHas_any (v := fun j => M.getD j 0) (a := L.getD k 0) (by omega) (OwnR.rdr (hw.holds (.own E q ce 3 1 (iL M)) (by simp)))) ?_
 refine TL.gd Pu.no ?_
 refine TL.p Pu.kt ?_
 refine TL.nil ?_
 exact TQ.sub (by repeat (first | exact trivial | refine ⟨rfl, ?_⟩ | refine ⟨trivial, ?_⟩ | refine ⟨(by show some (Value.bool _) = some (Value.bool _); first | (simp [hg1, -List.getD_eq_getElem?_getD]; done) | (refine congrArg (fun z => some (Value.bool z)) (Bool.eq_iff_iff.2 ?_); simp [hg1, -List.getD_eq_getElem?_getD]; omega)), ?_⟩)) ks9 hJ1
 refine TL.gs ?_
 refine TL.gs ?_
 refine TL.gs ?_
 refine TL.gs ?_
 refine TL.gs ?_
 refine TL.gs ?_
 refine TL.gs ?_
 refine TL.p Pu.kf ?_
 refine TL.nil ?_
 exact TQ.sub (by repeat (first | exact trivial | refine ⟨rfl, ?_⟩ | refine ⟨trivial, ?_⟩ | refine ⟨(by show some (Value.bool _) = some (Value.bool _); first | (simp [hg1, -List.getD_eq_getElem?_getD]; done) | (refine congrArg (fun z => some (Value.bool z)) (Bool.eq_iff_iff.2 ?_); simp [hg1, -List.getD_eq_getElem?_getD]; omega)), ?_⟩)) ks9 hJ1
 try simp only [zcb9] at hc3
 obtain rfl : k = m := by omega
 refine TW.exit ?_
 refine TQ.thenX ?_
 refine TQ.thenX ?_
 refine TQ.blkX ?_
 refine TQ.thenN (hY19 _ _ ?_)
 refine TW.seq fun Y25 hY25 => TW.region ?_
 refine TL.p Pu.mv ?_
 refine TL.p Pu.as ?_
 refine TL.nil (TQ.thenN (hY25 _ _ ?_))
 refine TW.ret ?_
 refine TQ.ret Tryz.results79 rfl ((.tmp rfl .nil)) ?_
 have hend : q = (tuD Z lo hi).length := by rw [hq, hM, hm]; unfold tuD; rw [hL]; rfl
 have hML : M = tuD Z lo hi := by rw [hM, hm]; unfold tuD; rw [hL]; rfl
 subst hML
 subst hend
 exact fun w hw => ⟨(E, ce), rfl, hw.sub (KSub.cons pk9 KSub.nil)⟩
def feuZ (Z : Cus) (a b day : Int) : Bool := exB Z.nd fun k => feuR a b day (Z.d k)
theorem ex_no {n : Nat} {p : Nat → Bool} (h : ∀ j, j < n → p j = false) : exB n p = false := by
 rw [Bool.eq_false_iff]
 intro hh
 obtain ⟨j, hj, e⟩ := exB_iff.1 hh
 rw [h j hj] at e
 cases e
theorem ex_yes {n k : Nat} {p : Nat → Bool} (hk : k < n) (e : p k = true) : exB n p = true := exB_iff.2 ⟨k, hk, e⟩
set_option maxRecDepth 100000 in
theorem rFeud_any (a b day : Int) (h : CustIn w C Z.nc D Z.nd B Z.nb Z.c Z.d Z.b) :
  Calls Tryz.prog 143 #[.agg (custL C Z.nc cc D Z.nd cd B Z.nb cb).toArray, .int .i64 a, .int .i64 b, .int .i64 day] w (Ret w (.bool (feuZ Z a b day))) := by
 have hRD := h.hD
 have h2 := h.hnd
 unfold custL
 refine K_enter (S := []) (K := []) Tryz.func143 rfl Tryz.ntmps143 rfl (Sat.start _) ?_
 refine TW.seq fun Y1 hY1 => TW.region ?_
 refine TL.m Mk.bx ?_
 intro b1
 refine TL.p Pu.as ?_
 refine TL.nil (TQ.thenN (hY1 _ _ ?_))
 refine TW.seq fun Y2 hY2 => ?_
 refine TW.seq fun Y3 hY3 => TW.region ?_
 refine TL.p Pu.as ?_
 refine TL.nil (TQ.thenN (hY3 _ _ ?_))
 refine TW.block ?_
 refine TW.loop1 (fun (k : Nat) => [(9, .int .i64 (k : Int)), (4, .pointer (some ⟨b1, 0, none⟩)), (1, .int .i64 a), (2, .int .i64 b), (3, .int .i64 day)]) (fun k => [.blk b1 30 [.slice C Z.nc cc, .slice D Z.nd cd, .slice B Z.nb cb]]) (fun k => k ≤ Z.nd ∧ ∀ j, j < k → feuR a b day (Z.d j) = false) (fun k => Z.nd - k) 0 fs9 ?_ ?_ ?_
 exact ks9
 exact ⟨Nat.zero_le _, fun j hj => by omega⟩
 rintro k ⟨hk, hall⟩ Z0 hZ0
 refine TW.seq fun Y4 hY4 => ?_
 refine TW.seq fun Y5 hY5 => TW.region ?_
 refine TL.p Pu.mv ?_
 refine TL.p (by first | exact Pu.fb ty_fa30_1 | exact Pu.fe ty_fa30_1) ?_
 refine TL.p (Pu.ld ty_sc27) ?_
 refine TL.p (Pu.ln Tryz.underlying27) ?_
 refine TL.p Pu.lt ?_
 refine TL.nil (TQ.thenN (hY5 _ _ ?_))
 refine TW.cond rfl (fun hc0 => ?_) (fun hc0 => ?_)
 try simp only [zcb9] at hc0
 have hkn : k < Z.nd := by omega
 refine TW.skip ?_
 refine TQ.thenN (hY4 _ _ ?_)
 refine TW.seq fun Y6 hY6 => ?_
 refine TW.block ?_
 refine TW.seq fun Y7 hY7 => TW.region ?_
 refine TL.p (by first | exact Pu.fb ty_fa30_1 | exact Pu.fe ty_fa30_1) ?_
 refine TL.p (Pu.ld ty_sc27) ?_
 refine TL.p Pu.mv ?_
 refine TL.p (Pu.el ty_et27) ?_
 refine TL.p (Pu.lds ty_ag109) ?_
 refine TL.m (Mk.al ty_zr109) ?_
 intro b2
 first | refine TL.st ty_sz109 ?_ | refine TL.se ty_sz109 ?_
 refine TL.nil (TQ.thenN (hY7 _ _ ?_))
 refine TW.seq fun Y8 hY8 => ?_
 refine TW.join [(52, .bool (feuR a b day (Z.d k)))] ?_ (fun hJ1 => ?_)
 refine TQ.thenN (hY8 _ _ ?_)
 refine TW.cond rfl (fun hc1 => ?_) (fun hc1 => ?_)
 try simp only [zcb9] at hc1
 have hg := hc1
 refine TW.seq fun Y9 hY9 => TW.region ?_
 refine TL.p Pu.as ?_
 refine TL.nil (TQ.thenN (hY9 _ _ ?_))
 refine TW.ret ?_
 refine TQ.blkR ?_
 refine TQ.thenR ?_
 refine TQ.thenR ?_
 refine TQ.blkR ?_
 refine TQ.thenR ?_
 refine TQ.ret Tryz.results143 rfl ((.tmp rfl .nil)) ?_
 exact fun w hw => ⟨ret_bool (ex_yes (p := fun k => feuR a b day (Z.d k)) hkn hg), Chg.ext hw.chg⟩
 try simp only [zcb9] at hc1
 have hg := hc1
 refine TW.skip ?_
 refine TQ.blkN ?_
 refine TQ.thenN (hY6 _ _ ?_)
 refine TW.region ?_
 refine TL.p Pu.mv ?_
 refine TL.p Pu.ad ?_
 refine TL.p Pu.as ?_
 refine TL.nil ?_
 refine TQ.thenN (hZ0 (k + 1) _ _ ?_ ?_ fs9 ?_)
 exact ⟨by omega, fun j hj => (Nat.lt_succ_iff_lt_or_eq.1 hj).elim (hall j) (fun e => e ▸ hg)⟩
 exact zom9
 exact ks9
 refine TW.region ?_
 refine TL.p Pu.mv ?_
 refine TL.p (by first | exact Pu.fb ty_fa109_2 | exact Pu.fe ty_fa109_2) ?_
 refine TL.p (Pu.ld ty_sc3) ?_
 refine TL.p (by first | exact Pu.fb ty_fa109_3 | exact Pu.fe ty_fa109_3) ?_
 refine TL.p (Pu.ld ty_sc3) ?_
 refine TL.cr rfl (enters Tryz.func61 rfl rfl) (fun w hw => by
   exact within7_any _ _ _ _) ?_
 refine TL.p Pu.mv ?_
 refine TL.guard (t := 29) rfl (fun hg1 => ?_) (fun hg1 => ?_)
 refine TL.gd (by first | exact Pu.fb ty_fa109_0 | exact Pu.fe ty_fa109_0) ?_
 refine TL.gd (Pu.ld ty_sc3) ?_
 refine TL.gd Pu.mv ?_
 refine TL.gd Pu.eq ?_
 refine TL.gd Pu.mv ?_
 refine TL.guard (t := 34) rfl (fun hg2 => ?_) (fun hg2 => ?_)
 refine TL.gd (by first | exact Pu.fb ty_fa109_1 | exact Pu.fe ty_fa109_1) ?_
 refine TL.gd (Pu.ld ty_sc3) ?_
 refine TL.gd Pu.mv ?_
 refine TL.gd Pu.eq ?_
 refine TL.gd Pu.kt ?_
 refine TL.gd Pu.mv ?_
 refine TL.guard (t := 40) rfl (fun hg3 => ?_) (fun hg3 => ?_)
 refine TL.gs ?_
 refine TL.gs ?_
 refine TL.gs ?_
 refine TL.gs ?_
 refine TL.gs ?_
 refine TL.gs ?_
 refine TL.gs ?_
 refine TL.gs ?_
 refine TL.gs ?_
 refine TL.gs ?_
 refine TL.gd Pu.kt ?_
 refine TL.p Pu.kt ?_
 refine TL.nil ?_
 exact TQ.sub (by repeat (first | exact trivial | refine ⟨rfl, ?_⟩ | refine ⟨trivial, ?_⟩ | refine ⟨(by show some (Value.bool _) = some (Value.bool _); first | (simp [hg1, hg2, hg3, feuR]; done) | (refine congrArg (fun z => some (Value.bool z)) (Bool.eq_iff_iff.2 ?_); simp [hg1, hg2, hg3, feuR]; omega)), ?_⟩)) ks9 hJ1
 refine TL.gd (by first | exact Pu.fb ty_fa109_0 | exact Pu.fe ty_fa109_0) ?_
 refine TL.gd (Pu.ld ty_sc3) ?_
 refine TL.gd Pu.mv ?_
 refine TL.gd Pu.eq ?_
 refine TL.gd Pu.mv ?_
 refine TL.guard (t := 45) rfl (fun hg4 => ?_) (fun hg4 => ?_)
 refine TL.gd (by first | exact Pu.fb ty_fa109_1 | exact Pu.fe ty_fa109_1) ?_
 refine TL.gd (Pu.ld ty_sc3) ?_
 refine TL.gd Pu.mv ?_
 refine TL.gd Pu.eq ?_
 refine TL.gd Pu.kt ?_
 refine TL.gd Pu.kf ?_
 refine TL.p Pu.kt ?_
 refine TL.nil ?_
 exact TQ.sub (by repeat (first | exact trivial | refine ⟨rfl, ?_⟩ | refine ⟨trivial, ?_⟩ | refine ⟨(by show some (Value.bool _) = some (Value.bool _); first | (simp [hg1, hg2, hg3, hg4, feuR]; done) | (refine congrArg (fun z => some (Value.bool z)) (Bool.eq_iff_iff.2 ?_); simp [hg1, hg2, hg3, hg4, feuR]; omega)), ?_⟩)) ks9 hJ1
 refine TL.gs ?_
 refine TL.gs ?_
 refine TL.gs ?_
 refine TL.gs ?_
 refine TL.gd Pu.kf ?_
 refine TL.gd Pu.kf ?_
 refine TL.p Pu.kt ?_
 refine TL.nil ?_
 exact TQ.sub (by repeat (first | exact trivial | refine ⟨rfl, ?_⟩ | refine ⟨trivial, ?_⟩ | refine ⟨(by show some (Value.bool _) = some (Value.bool _); first | (simp [hg1, hg2, hg3, hg4, feuR]; done) | (refine congrArg (fun z => some (Value.bool z)) (Bool.eq_iff_iff.2 ?_); simp [hg1, hg2, hg3, hg4, feuR]; omega)), ?_⟩)) ks9 hJ1
 refine TL.gs ?_
 refine TL.gs ?_
 refine TL.gs ?_
 refine TL.gs ?_
 refine TL.gd Pu.kf ?_
 refine TL.gd Pu.mv ?_
 refine TL.gd (by first | exact Pu.fb ty_fa109_0 | exact Pu.fe ty_fa109_0) ?_
 refine TL.gd (Pu.ld ty_sc3) ?_
 refine TL.gd Pu.mv ?_
 refine TL.gd Pu.eq ?_
 refine TL.gd Pu.mv ?_
 refine TL.guard (t := 45) rfl (fun hg5 => ?_) (fun hg5 => ?_)
 refine TL.gd (by first | exact Pu.fb ty_fa109_1 | exact Pu.fe ty_fa109_1) ?_
 refine TL.gd (Pu.ld ty_sc3) ?_
 refine TL.gd Pu.mv ?_
 refine TL.gd Pu.eq ?_
 refine TL.gd Pu.kt ?_
 refine TL.gd Pu.kf ?_
 refine TL.p Pu.kt ?_
 refine TL.nil ?_
 exact TQ.sub (by repeat (first | exact trivial | refine ⟨rfl, ?_⟩ | refine ⟨trivial, ?_⟩ | refine ⟨(by show some (Value.bool _) = some (Value.bool _); first | (simp [hg1, hg2, hg5, feuR]; done) | (refine congrArg (fun z => some (Value.bool z)) (Bool.eq_iff_iff.2 ?_); simp [hg1, hg2, hg5, feuR]; omega)), ?_⟩)) ks9 hJ1
 refine TL.gs ?_
 refine TL.gs ?_
 refine TL.gs ?_
 refine TL.gs ?_
 refine TL.gd Pu.kf ?_
 refine TL.gd Pu.kf ?_
 refine TL.p Pu.kt ?_
 refine TL.nil ?_
 exact TQ.sub (by repeat (first | exact trivial | refine ⟨rfl, ?_⟩ | refine ⟨trivial, ?_⟩ | refine ⟨(by show some (Value.bool _) = some (Value.bool _); first | (simp [hg1, hg2, hg5, feuR]; done) | (refine congrArg (fun z => some (Value.bool z)) (Bool.eq_iff_iff.2 ?_); simp [hg1, hg2, hg5, feuR]; omega)), ?_⟩)) ks9 hJ1
 refine TL.gs ?_
 refine TL.gs ?_
 refine TL.gs ?_
 refine TL.gs ?_
 refine TL.gs ?_
 refine TL.gs ?_
 refine TL.gs ?_
 refine TL.gs ?_
 refine TL.gs ?_
 refine TL.gs ?_
 refine TL.gs ?_
 refine TL.gs ?_
 refine TL.gs ?_
 refine TL.gs ?_
 refine TL.gs ?_
 refine TL.gs ?_
 refine TL.gs ?_
 refine TL.gs ?_
 refine TL.gs ?_
 refine TL.gs ?_
 refine TL.gs ?_
 refine TL.gs ?_
 refine TL.p Pu.kf ?_
 refine TL.nil ?_
 exact TQ.sub (by repeat (first | exact trivial | refine ⟨rfl, ?_⟩ | refine ⟨trivial, ?_⟩ | refine ⟨(by show some (Value.bool _) = some (Value.bool _); first | (simp [hg1, feuR]; done) | (refine congrArg (fun z => some (Value.bool z)) (Bool.eq_iff_iff.2 ?_); simp [hg1, feuR]; omega)), ?_⟩)) ks9 hJ1
 try simp only [zcb9] at hc0
 obtain rfl : k = Z.nd := by omega
 refine TW.exit ?_
 refine TQ.thenX ?_
 refine TQ.thenX ?_
 refine TQ.blkX ?_
 refine TQ.thenN (hY2 _ _ ?_)
 refine TW.seq fun Y10 hY10 => TW.region ?_
 refine TL.p Pu.as ?_
 refine TL.nil (TQ.thenN (hY10 _ _ ?_))
 refine TW.ret ?_
 refine TQ.ret Tryz.results143 rfl ((.tmp rfl .nil)) ?_
 exact fun w hw => ⟨ret_bool (ex_no hall), Chg.ext hw.chg⟩
end
end Go.Proofs.YtfaenhhgkhcghaaGreatDoor
namespace Go.Proofs.YtfaenhhgkhcghaaGreatDoor
set_option linter.all false
set_option linter.unusedVariables false
set_option linter.unusedSimpArgs false
open Go.RowKit
def closZ (Z : Cus) (leg day : Int) : Bool := exB Z.nb fun k => decide (Z.b k 0 = leg) && inB5 (Z.b k 1) (Z.b k 2) day
def holZ (Z : Cus) (leg day : Int) : Int := hb leg day Z.c Z.nc
def hclZ (Z : Cus) (leg day : Int) : (Nat → Int) × Bool := Z.c (holZ Z leg day).toNat
def peoA (T : Trp) (i : Nat) : Int := if i < T.no then T.o i else T.u (i - T.no)
def hatZ (Z : Cus) (T : Trp) (leg day : Int) : Bool := decide (0 ≤ holZ Z leg day) && exB (T.no + T.nu) fun i => feuZ Z (peoA T i) ((hclZ Z leg day).1 1) day
def losZ (Z : Cus) (T : Trp) (leg day : Int) : Bool := decide (0 ≤ holZ Z leg day) && ((hclZ Z leg day).2 && !hasB T.u T.nu ((hclZ Z leg day).1 1))
def whyZ (Z : Cus) (T : Trp) (leg day : Int) : Int := whyV (closZ Z leg day) (hatZ Z T leg day) (losZ Z T leg day)
def whoZ (Z : Cus) (leg day : Int) : Int := if 0 ≤ holZ Z leg day then (hclZ Z leg day).1 1 else -1
def payZ (Z : Cus) (T : Trp) (leg day : Int) : Int :=
 if 0 ≤ holZ Z leg day then (if hasB T.v T.nv ((hclZ Z leg day).1 1) = true then 0 else (hclZ Z leg day).1 4 * T.hd + ((hclZ Z leg day).1 5 * T.wo + 999) / 1000) else 0
theorem hol_bd {Z : Cus} {leg day : Int} : -1 ≤ holZ Z leg day ∧ holZ Z leg day < Z.nc := hb_bd _
theorem ret_u8 {a b : Int} (h : a = b) : Ending.returned (.int .u8 a) = .returned (.int .u8 b) := by rw [h]
theorem peo_row {T : Trp} : ∀ i, i < T.no + T.nu → catR T.no (fun k => [Value.int .i64 (T.o k)]) (fun k => [Value.int .i64 (T.u k)]) i = [Value.int .i64 (peoA T i)] := fun i _ => by
 unfold catR peoA
 split <;> rfl
section
variable {Z : Cus} {T : Trp} {C D B O U V : Option Addr} {cc cd cb co cu cv : Nat} {w : World}
theorem clos_no {leg day : Int} (h : ∀ j, j < Z.nb → (decide (Z.b j 0 = leg) && inB5 (Z.b j 1) (Z.b j 2) day) = false) : closZ Z leg day = false := ex_no h
theorem clos_yes {leg day : Int} {k : Nat} (hk : k < Z.nb) (h : (decide (Z.b k 0 = leg) && inB5 (Z.b k 1) (Z.b k 2) day) = true) : closZ Z leg day = true := ex_yes hk h
set_option maxRecDepth 100000 in
set_option maxHeartbeats 1000000 in
theorem rWhy_any (leg day : Int) (h : CustIn w C Z.nc D Z.nd B Z.nb Z.c Z.d Z.b) (t : TrpIn w T O U V) :
  Calls Tryz.prog 111 #[.agg (custL C Z.nc cc D Z.nd cd B Z.nb cb).toArray, .agg (troopL T.hd T.wo O T.no co U T.nu cu V T.nv cv).toArray, .int .i64 leg, .int .i64 day] w (Ret w (.int .u8 (whyZ Z T leg day))) := by
 have hRC := h.hC
 have hRD := h.hD
 have hRB := h.hB
 have h1 := h.hnc
 have h2 := h.hnd
 have h3 := h.hnb
 have hRO := t.hO
 have hRU := t.hU
 have hno := t.hno
 have hnu := t.hnu
 have hol := hol_bd (Z := Z) (leg := leg) (day := day)
 unfold custL troopL
 refine K_enter (S := []) (K := []) Tryz.func111 rfl Tryz.ntmps111 rfl (Sat.start _) ?_
 refine TW.seq fun Y1 hY1 => TW.region ?_
 refine TL.m Mk.bx ?_
 intro b1
 refine TL.m Mk.bx ?_
 intro b2
 refine TL.p Pu.as ?_
 refine TL.nil (TQ.thenN (hY1 _ _ ?_))
 refine TW.seq fun Y2 hY2 => ?_
 refine TW.seq fun Y3 hY3 => TW.region ?_
 refine TL.p Pu.as ?_
 refine TL.nil (TQ.thenN (hY3 _ _ ?_))
 refine TW.block ?_
 refine TW.loop1 (fun (k : Nat) => [(9, .int .i64 (k : Int)), (4, .pointer (some ⟨b1, 0, none⟩)), (5, .pointer (some ⟨b2, 0, none⟩)), (2, .int .i64 leg), (3, .int .i64 day)]) (fun k => [.blk b1 30 [.slice C Z.nc cc, .slice D Z.nd cd, .slice B Z.nb cb], .blk b2 33 [.int .i64 T.hd, .int .i64 T.wo, .slice O T.no co, .slice U T.nu cu, .slice V T.nv cv]]) (fun k => k ≤ Z.nb ∧ ∀ j, j < k → (decide (Z.b j 0 = leg) && inB5 (Z.b j 1) (Z.b j 2) day) = false) (fun k => Z.nb - k) 0 fs9 ?_ ?_ ?_
 exact ks9
 exact ⟨Nat.zero_le _, fun j hj => by omega⟩
 rintro k ⟨hk, hall⟩ Z0 hZ0
 refine TW.seq fun Y4 hY4 => ?_
 refine TW.seq fun Y5 hY5 => TW.region ?_
 refine TL.p Pu.mv ?_
 refine TL.p (by first | exact Pu.fb ty_fa30_2 | exact Pu.fe ty_fa30_2) ?_
 refine TL.p (Pu.ld ty_sc28) ?_
 refine TL.p (Pu.ln Tryz.underlying28) ?_
 refine TL.p Pu.lt ?_
 refine TL.nil (TQ.thenN (hY5 _ _ ?_))
 refine TW.cond rfl (fun hc0 => ?_) (fun hc0 => ?_)
 try simp only [zcb9] at hc0
 have hkn : k < Z.nb := by omega
 refine TW.skip ?_
 refine TQ.thenN (hY4 _ _ ?_)
 refine TW.seq fun Y6 hY6 => ?_
 refine TW.block ?_
 refine TW.seq fun Y7 hY7 => ?_
 refine TW.join [(44, .bool (decide (Z.b k 0 = leg) && inB5 (Z.b k 1) (Z.b k 2) day))] ?_ (fun hJ1 => ?_)
 refine TQ.thenN (hY7 _ _ ?_)
 refine TW.cond rfl (fun hc1 => ?_) (fun hc1 => ?_)
 try simp only [zcb9] at hc1
 have hcl := clos_yes hkn (by rw [Bool.and_eq_true, decide_eq_true_eq]; exact hc1)
 refine TW.seq fun Y8 hY8 => TW.region ?_
 refine TL.p Pu.as ?_
 refine TL.nil (TQ.thenN (hY8 _ _ ?_))
 refine TW.ret ?_
 refine TQ.blkR ?_
 refine TQ.thenR ?_
 refine TQ.thenR ?_
 refine TQ.blkR ?_
 refine TQ.thenR ?_
 refine TQ.ret Tryz.results111 rfl ((.tmp rfl .nil)) ?_
 exact fun w hw => ⟨ret_u8 (by unfold whyZ whyV; rw [hcl]; rfl), Chg.ext hw.chg⟩
 try simp only [zcb9] at hc1
 have hg : (decide (Z.b k 0 = leg) && inB5 (Z.b k 1) (Z.b k 2) day) = false := by rw [Bool.and_eq_false_iff, decide_eq_false_iff_not]; exact hc1
 refine TW.skip ?_
 refine TQ.blkN ?_
 refine TQ.thenN (hY6 _ _ ?_)
 refine TW.region ?_
 refine TL.p Pu.mv ?_
 refine TL.p Pu.ad ?_
 refine TL.p Pu.as ?_
 refine TL.nil ?_
 refine TQ.thenN (hZ0 (k + 1) _ _ ?_ ?_ fs9 ?_)
 exact ⟨by omega, fun j hj => (Nat.lt_succ_iff_lt_or_eq.1 hj).elim (hall j) (fun e => e ▸ hg)⟩
 exact zom9
 exact ks9
 refine TW.dw 24 ?_
 refine RK.tk (by first | exact Pu.fb ty_fa30_2 | exact Pu.fe ty_fa30_2) ?_
 refine RK.tk (Pu.ld ty_sc28) ?_
 refine RK.tk Pu.mv ?_
 refine RK.tk (Pu.el ty_et28) ?_
 refine RK.tk (by first | exact Pu.fb ty_fa72_0 | exact Pu.fe ty_fa72_0) ?_
 refine RK.tk (Pu.ld ty_sc3) ?_
 refine RK.tk Pu.mv ?_
 refine RK.tk Pu.eq ?_
 refine RK.tk Pu.mv ?_
 refine RK.guard (t := 29) rfl (fun hg1 => ?_) (fun hg1 => ?_)
 refine RK.tk Pu.mv ?_
 refine RK.tk (by first | exact Pu.fb ty_fa30_2 | exact Pu.fe ty_fa30_2) ?_
 refine RK.tk (Pu.ld ty_sc28) ?_
 refine RK.tk Pu.mv ?_
 refine RK.tk (Pu.el ty_et28) ?_
 refine RK.tk (by first | exact Pu.fb ty_fa72_1 | exact Pu.fe ty_fa72_1) ?_
 refine RK.tk (Pu.ld ty_sc3) ?_
 refine RK.tk (by first | exact Pu.fb ty_fa30_2 | exact Pu.fe ty_fa30_2) ?_
 refine RK.tk (Pu.ld ty_sc28) ?_
 refine RK.tk Pu.mv ?_
 refine RK.tk (Pu.el ty_et28) ?_
 refine RK.tk (by first | exact Pu.fb ty_fa72_2 | exact Pu.fe ty_fa72_2) ?_
 refine RK.tk (Pu.ld ty_sc3) ?_
 refine RK.keep ?_
 refine RK.keep ?_
 refine RK.ch [false, true] ?_ trivial
 refine WK.cr rfl (enters Tryz.func61 rfl rfl) (fun w hw => by
   exact within7_any _ _ _ _) ?_
 refine WK.p Pu.kt ?_
 refine WK.n ?_
 refine TL.nil ?_
 exact TQ.sub (by repeat (first | exact trivial | refine ⟨rfl, ?_⟩ | refine ⟨trivial, ?_⟩ | refine ⟨(by show some (Value.bool _) = some (Value.bool _); first | (simp [hg1]; done) | (refine congrArg (fun z => some (Value.bool z)) (Bool.eq_iff_iff.2 ?_); simp [hg1]; omega)), ?_⟩)) ks9 hJ1
 refine RK.s ?_
 refine RK.s ?_
 refine RK.s ?_
 refine RK.s ?_
 refine RK.s ?_
 refine RK.s ?_
 refine RK.s ?_
 refine RK.s ?_
 refine RK.s ?_
 refine RK.s ?_
 refine RK.s ?_
 refine RK.s ?_
 refine RK.s ?_
 refine RK.keep ?_
 refine RK.keep ?_
 refine RK.ch [false, true] ?_ trivial
 refine WK.gs ?_
 refine WK.p Pu.kf ?_
 refine WK.n ?_
 refine TL.nil ?_
 exact TQ.sub (by repeat (first | exact trivial | refine ⟨rfl, ?_⟩ | refine ⟨trivial, ?_⟩ | refine ⟨(by show some (Value.bool _) = some (Value.bool _); first | (simp [hg1]; done) | (refine congrArg (fun z => some (Value.bool z)) (Bool.eq_iff_iff.2 ?_); simp [hg1]; omega)), ?_⟩)) ks9 hJ1
 try simp only [zcb9] at hc0
 obtain rfl : k = Z.nb := by omega
 have hcl := clos_no hall
 refine TW.exit ?_
 refine TQ.thenX ?_
 refine TQ.thenX ?_
 refine TQ.blkX ?_
 refine TQ.thenN (hY2 _ _ ?_)
 refine TW.seq fun Y9 hY9 => TW.region ?_
 refine TL.p (Pu.lds ty_ag30) ?_
 refine TL.p Pu.mv ?_
 refine TL.p Pu.mv ?_
 refine TL.cr rfl (enters Tryz.func127 rfl rfl) (fun w hw => by
   exact holderOf_any leg day _ h1 (hRC.sat hw Apart.nil)) ?_
 refine TL.p Pu.as ?_
 refine TL.nil (TQ.thenN (hY9 _ _ ?_))
 refine TW.seq fun Y10 hY10 => ?_
 refine TW.seq fun Y11 hY11 => TW.region ?_
 refine TL.p Pu.mv ?_
 refine TL.p Pu.lt ?_
 refine TL.nil (TQ.thenN (hY11 _ _ ?_))
 refine TW.cond rfl (fun hc2 => ?_) (fun hc2 => ?_)
 try simp only [zcb9] at hc2
 have hh : ¬ 0 ≤ holZ Z leg day := by unfold holZ; omega
 refine TW.seq fun Y12 hY12 => TW.region ?_
 refine TL.p Pu.as ?_
 refine TL.nil (TQ.thenN (hY12 _ _ ?_))
 refine TW.ret ?_
 refine TQ.thenR ?_
 refine TQ.ret Tryz.results111 rfl ((.tmp rfl .nil)) ?_
 exact fun w hw => ⟨ret_u8 (by unfold whyZ whyV hatZ losZ; rw [hcl]; simp [hh]), Chg.ext hw.chg⟩
 try simp only [zcb9] at hc2
 have hh : 0 ≤ holZ Z leg day := by unfold holZ; omega
 have hhc : hclZ Z leg day = Z.c (hb leg day Z.c Z.nc).toNat := rfl
 have hol2 : hb leg day Z.c Z.nc < Z.nc := hol.2
 refine TW.skip ?_
 refine TQ.thenN (hY10 _ _ ?_)
 refine TW.seq fun Y13 hY13 => TW.region ?_
 refine TL.p (by first | exact Pu.fb ty_fa30_0 | exact Pu.fe ty_fa30_0) ?_
 refine TL.p (Pu.ld ty_sc26) ?_
 refine TL.p Pu.mv ?_
 refine TL.p (Pu.el (q := (hb leg day Z.c Z.nc).toNat) ty_et26 (hk := rfl)) ?_
 refine TL.p (by first | exact Pu.fb ty_fa70_1 | exact Pu.fe ty_fa70_1) ?_
 refine TL.p (Pu.ld ty_sc3) ?_
 refine TL.p Pu.as ?_
 refine TL.nil (TQ.thenN (hY13 _ _ ?_))
 refine TW.seq fun Y14 hY14 => ?_
 refine TW.ex0 Drop.done ?_
 refine RG.tk 1 rfl (by first | exact Pu.fb ty_fa33_2 | exact Pu.fe ty_fa33_2) ?_
 refine RG.tk 2 rfl (Pu.ld ty_sc31) ?_
 refine RG.tk 4 rfl (by first | exact Pu.fb ty_fa33_3 | exact Pu.fe ty_fa33_3) ?_
 refine RG.tk 5 rfl (Pu.ld ty_sc31) ?_
 refine RG.a1 0 rfl (fun X0 hX0 => ?_)
 refine TL.m Mk.bl ?_
 intro b3
 refine TL.nil ?_
 refine TQ.nxt (hX0 _ _ hl9 ?_)
 refine RG.a1 3 rfl (fun X3 hX3 => ?_)
 refine TL.ob (b := b3) (sz := 1) (r := fun _ => []) pk9 rfl ?_
 first | refine TL.a0 ty_et31 ?_ | refine TL.ap ty_et31 ?_
 intro A4 c4
 refine TL.nil ?_
 refine TQ.nxt (hX3 _ _ hl9 ?_)
 refine RG.a1 6 rfl (fun X6 hX6 => ?_)
 first | refine TL.a0 ty_et31 ?_ | refine TL.ap ty_et31 ?_
 intro A5 c5
 refine TL.nil ?_
 refine TQ.nxt (hX6 _ _ hl9 ?_)
 refine RG.tk 7 rfl Pu.as ?_
 refine RG.nil ?_ (by kernel_rfl)
 refine TQ.thenN (hY14 _ _ ?_)
 refine TW.seq fun Y15 hY15 => ?_
 refine TW.seq fun Y16 hY16 => TW.region ?_
 refine TL.p Pu.as ?_
 refine TL.nil (TQ.thenN (hY16 _ _ ?_))
 refine TW.block ?_
 refine TW.loop1 (fun (k : Nat) => [(13, .int .i64 (k : Int)), (12, .slice A5 (T.no + T.nu) c5), (10, .int .i64 (hb leg day Z.c Z.nc)), (11, .int .i64 ((Z.c (hb leg day Z.c Z.nc).toNat).1 1)), (4, .pointer (some ⟨b1, 0, none⟩)), (5, .pointer (some ⟨b2, 0, none⟩)), (2, .int .i64 leg), (3, .int .i64 day)]) (fun k => [.own A5 (T.no + T.nu) c5 3 1 (fun k => [.int .i64 (peoA T k)]), .blk b1 30 [.slice C Z.nc cc, .slice D Z.nd cd, .slice B Z.nb cb], .blk b2 33 [.int .i64 T.hd, .int .i64 T.wo, .slice O T.no co, .slice U T.nu cu, .slice V T.nv cv]]) (fun k => k ≤ T.no + T.nu ∧ ∀ j, j < k → feuZ Z (peoA T j) ((hclZ Z leg day).1 1) day = false) (fun k => T.no + T.nu - k) 0 fs9 ?_ ?_ ?_
 exact KSub.own pk9 peo_row ks9
 exact ⟨Nat.zero_le _, fun j hj => by omega⟩
 rintro k ⟨hk, hall⟩ Z1 hZ1
 refine TW.seq fun Y17 hY17 => ?_
 refine TW.seq fun Y18 hY18 => TW.region ?_
 refine TL.p Pu.mv ?_
 refine TL.p Pu.mv ?_
 refine TL.p (Pu.ln Tryz.underlying31) ?_
 refine TL.p Pu.lt ?_
 refine TL.nil (TQ.thenN (hY18 _ _ ?_))
 refine TW.cond rfl (fun hc3 => ?_) (fun hc3 => ?_)
 try simp only [zcb9] at hc3
 have hkn : k < T.no + T.nu := by omega
 refine TW.skip ?_
 refine TQ.thenN (hY17 _ _ ?_)
 refine TW.seq fun Y19 hY19 => ?_
 refine TW.block ?_
 refine TW.seq fun Y20 hY20 => ?_
 refine TW.dw 8 ?_
 refine RK.tk (Pu.lds ty_ag30) ?_
 refine RK.tk Pu.mv ?_
 refine RK.tk Pu.mv ?_
 refine RK.tk (Pu.el ty_et31) ?_
 refine RK.tk (Pu.ld ty_sc3) ?_
 refine RK.tk Pu.mv ?_
 refine RK.tk Pu.mv ?_
 refine RK.keep ?_
 refine RK.ch [false] ?_ trivial
 refine WK.cr rfl (enters Tryz.func143 rfl rfl) (fun w hw => by
   exact rFeud_any _ _ _ (h.ext (Chg.ext hw.chg))) ?_
 refine WK.n ?_
 refine TL.nil (TQ.thenN (hY20 _ _ ?_))
 refine TW.cond rfl (fun hc4 => ?_) (fun hc4 => ?_)
 try simp only [zcb9] at hc4
 have hat : hatZ Z T leg day = true := by unfold hatZ; rw [ex_yes (p := fun i => feuZ Z (peoA T i) ((hclZ Z leg day).1 1) day) hkn hc4, Bool.and_true]; exact decide_eq_true hh
 refine TW.seq fun Y21 hY21 => TW.region ?_
 refine TL.p Pu.as ?_
 refine TL.nil (TQ.thenN (hY21 _ _ ?_))
 refine TW.ret ?_
 refine TQ.blkR ?_
 refine TQ.thenR ?_
 refine TQ.thenR ?_
 refine TQ.blkR ?_
 refine TQ.thenR ?_
 refine TQ.ret Tryz.results111 rfl ((.tmp rfl .nil)) ?_
 exact fun w hw => ⟨ret_u8 (by unfold whyZ whyV; rw [hcl, hat]; rfl), Chg.ext hw.chg⟩
 try simp only [zcb9] at hc4
 have hg : feuZ Z (peoA T k) ((hclZ Z leg day).1 1) day = false := hc4
 refine TW.skip ?_
 refine TQ.blkN ?_
 refine TQ.thenN (hY19 _ _ ?_)
 refine TW.region ?_
 refine TL.p Pu.mv ?_
 refine TL.p Pu.ad ?_
 refine TL.p Pu.as ?_
 refine TL.nil ?_
 refine TQ.thenN (hZ1 (k + 1) _ _ ?_ ?_ fs9 ?_)
 exact ⟨by omega, fun j hj => (Nat.lt_succ_iff_lt_or_eq.1 hj).elim (hall j) (fun e => e ▸ hg)⟩
 exact zom9
 exact ks9
 try simp only [zcb9] at hc3
 have hkn : k = T.no + T.nu := by omega
 have hat : hatZ Z T leg day = false := by unfold hatZ; rw [ex_no (hkn ▸ hall), Bool.and_false]
 refine TW.exit ?_
 refine TQ.thenX ?_
 refine TQ.thenX ?_
 refine TQ.blkX ?_
 refine TQ.thenN (hY15 _ _ ?_)
 refine TW.seq fun Y22 hY22 => ?_
 refine TW.seq fun Y23 hY23 => ?_
 refine TW.join [(90, .bool (losZ Z T leg day))] ?_ (fun hJ2 => ?_)
 refine TQ.thenN (hY23 _ _ ?_)
 refine TW.cond rfl (fun hc5 => ?_) (fun hc5 => ?_)
 try simp only [zcb9] at hc5
 have hlo : losZ Z T leg day = true := hc5
 refine TW.seq fun Y24 hY24 => TW.region ?_
 refine TL.p Pu.as ?_
 refine TL.nil (TQ.thenN (hY24 _ _ ?_))
 refine TW.ret ?_
 refine TQ.thenR ?_
 refine TQ.ret Tryz.results111 rfl ((.tmp rfl .nil)) ?_
 exact fun w hw => ⟨ret_u8 (by unfold whyZ whyV; rw [hcl, hat, hlo]; rfl), Chg.ext hw.chg⟩
 try simp only [zcb9] at hc5
 have hlo : losZ Z T leg day = false := hc5
 refine TW.skip ?_
 refine TQ.thenN (hY22 _ _ ?_)
 refine TW.seq fun Y25 hY25 => TW.region ?_
 refine TL.p Pu.as ?_
 refine TL.nil (TQ.thenN (hY25 _ _ ?_))
 refine TW.ret ?_
 refine TQ.ret Tryz.results111 rfl ((.tmp rfl .nil)) ?_
 exact fun w hw => ⟨ret_u8 (by unfold whyZ whyV; rw [hcl, hat, hlo]; rfl), Chg.ext hw.chg⟩
 refine TW.region ?_
 refine TL.p (by first | exact Pu.fb ty_fa30_0 | exact Pu.fe ty_fa30_0) ?_
 refine TL.p (Pu.ld ty_sc26) ?_
 refine TL.p Pu.mv ?_
 refine TL.p (Pu.el (q := (hb leg day Z.c Z.nc).toNat) ty_et26 (hk := rfl)) ?_
 refine TL.p (by first | exact Pu.fb ty_fa70_6 | exact Pu.fe ty_fa70_6) ?_
 refine TL.p (Pu.ld ty_sc4) ?_
 refine TL.p Pu.mv ?_
 refine TL.guard (t := 84) rfl (fun hg2 => ?_) (fun hg2 => ?_)
 refine TL.gd (by first | exact Pu.fb ty_fa33_3 | exact Pu.fe ty_fa33_3) ?_
 refine TL.gd (Pu.ld ty_sc31) ?_
 refine TL.gd Pu.mv ?_
 refine TL.cr rfl (enters Tryz.func112 rfl rfl) (fun w hw => by
   exact rHas_any (v := T.u) (by omega) (hRU.sat hw Apart.nil)) ?_
 refine TL.gd Pu.no ?_
 refine TL.p Pu.kt ?_
 refine TL.nil ?_
 exact TQ.sub (by repeat (first | exact trivial | refine ⟨rfl, ?_⟩ | refine ⟨trivial, ?_⟩ | refine ⟨(by show some (Value.bool _) = some (Value.bool _); first | (simp [hg2, losZ, hh, hhc]; done) | (refine congrArg (fun z => some (Value.bool z)) (Bool.eq_iff_iff.2 ?_); simp [hg2, losZ, hh, hhc]; omega)), ?_⟩)) ks9 hJ2
 refine TL.gs ?_
 refine TL.gs ?_
 refine TL.gs ?_
 refine TL.gs ?_
 refine TL.gs ?_
 refine TL.p Pu.kf ?_
 refine TL.nil ?_
 exact TQ.sub (by repeat (first | exact trivial | refine ⟨rfl, ?_⟩ | refine ⟨trivial, ?_⟩ | refine ⟨(by show some (Value.bool _) = some (Value.bool _); first | (simp [hg2, losZ, hh, hhc]; done) | (refine congrArg (fun z => some (Value.bool z)) (Bool.eq_iff_iff.2 ?_); simp [hg2, losZ, hh, hhc]; omega)), ?_⟩)) ks9 hJ2
theorem ret_pair {a b a' b' : Int} (h1 : a = a') (h2 : b = b') : Ending.returned (.tuple #[.int .i64 a, .int .i64 b]) = .returned (.tuple #[.int .i64 a', .int .i64 b']) := by rw [h1, h2]
set_option maxRecDepth 100000 in
theorem rToll_any (leg day : Int) (hok : CusOk Z) (ht : trpOk T = true) (h : CustIn w C Z.nc D Z.nd B Z.nb Z.c Z.d Z.b) (t : TrpIn w T O U V) :
  Calls Tryz.prog 80 #[.agg (custL C Z.nc cc D Z.nd cd B Z.nb cb).toArray, .agg (troopL T.hd T.wo O T.no co U T.nu cu V T.nv cv).toArray, .int .i64 leg, .int .i64 day] w (Ret w (.tuple #[.int .i64 (whoZ Z leg day), .int .i64 (payZ Z T leg day)])) := by
 have hRC := h.hC
 have h1 := h.hnc
 have hRV := t.hV
 have hnv := t.hnv
 have hol := hol_bd (Z := Z) (leg := leg) (day := day)
 unfold trpOk inB5 at ht
 simp only [Bool.and_eq_true, decide_eq_true_eq] at ht
 obtain ⟨⟨⟨⟨⟨h10, h11⟩, h12, h13⟩, _⟩, _⟩, _⟩ := ht
 unfold custL troopL
 refine K_enter (S := []) (K := []) Tryz.func80 rfl Tryz.ntmps80 rfl (Sat.start _) ?_
 refine TW.seq fun Y1 hY1 => TW.region ?_
 refine TL.m Mk.bx ?_
 intro b1
 refine TL.m Mk.bx ?_
 intro b2
 refine TL.p Pu.as ?_
 refine TL.p Pu.as ?_
 refine TL.nil (TQ.thenN (hY1 _ _ ?_))
 refine TW.seq fun Y2 hY2 => TW.region ?_
 refine TL.p (Pu.lds ty_ag30) ?_
 refine TL.p Pu.mv ?_
 refine TL.p Pu.mv ?_
 refine TL.cr rfl (enters Tryz.func127 rfl rfl) (fun w hw => by
   exact holderOf_any leg day _ h1 (hRC.sat hw Apart.nil)) ?_
 refine TL.p Pu.as ?_
 refine TL.nil (TQ.thenN (hY2 _ _ ?_))
 refine TW.seq fun Y3 hY3 => ?_
 refine TW.seq fun Y4 hY4 => TW.region ?_
 refine TL.p Pu.mv ?_
 refine TL.p Pu.lt ?_
 refine TL.nil (TQ.thenN (hY4 _ _ ?_))
 refine TW.cond rfl (fun hc0 => ?_) (fun hc0 => ?_)
 try simp only [zcb9] at hc0
 have hh : ¬ 0 ≤ holZ Z leg day := by unfold holZ; omega
 refine TW.seq fun Y5 hY5 => TW.region ?_
 refine TL.p Pu.as ?_
 refine TL.p Pu.as ?_
 refine TL.nil (TQ.thenN (hY5 _ _ ?_))
 refine TW.ret ?_
 refine TQ.thenR ?_
 refine TQ.ret Tryz.results80 rfl ((.tmp rfl (.tmp rfl .nil))) ?_
 exact fun w hw => ⟨ret_pair (by unfold whoZ; rw [if_neg hh]) (by unfold payZ; rw [if_neg hh]), Chg.ext hw.chg⟩
 try simp only [zcb9] at hc0
 have hh : 0 ≤ holZ Z leg day := by unfold holZ; omega
 have hhc : hclZ Z leg day = Z.c (hb leg day Z.c Z.nc).toNat := rfl
 have hol2 : hb leg day Z.c Z.nc < Z.nc := hol.2
 have hbd := hok.c (hb leg day Z.c Z.nc).toNat (by omega)
 have q1 : 0 ≤ (Z.c (hb leg day Z.c Z.nc).toNat).1 4 * T.hd ∧ (Z.c (hb leg day Z.c Z.nc).toNat).1 4 * T.hd ≤ 1000000 * 1000 := ⟨Int.mul_nonneg (by omega) (by omega), Int.mul_le_mul (by omega) h11 (by omega) (by omega)⟩
 have q2 : 0 ≤ (Z.c (hb leg day Z.c Z.nc).toNat).1 5 * T.wo ∧ (Z.c (hb leg day Z.c Z.nc).toNat).1 5 * T.wo ≤ 1000 * 1000000000000 := ⟨Int.mul_nonneg (by omega) (by omega), Int.mul_le_mul (by omega) h13 (by omega) (by omega)⟩
 refine TW.skip ?_
 refine TQ.thenN (hY3 _ _ ?_)
 refine TW.seq fun Y6 hY6 => TW.region ?_
 refine TL.p (by first | exact Pu.fb ty_fa30_0 | exact Pu.fe ty_fa30_0) ?_
 refine TL.p (Pu.ld ty_sc26) ?_
 refine TL.p Pu.mv ?_
 refine TL.p (Pu.el (q := (hb leg day Z.c Z.nc).toNat) ty_et26 (hk := rfl)) ?_
 refine TL.p (Pu.lds ty_ag70) ?_
 refine TL.m (Mk.al ty_zr70) ?_
 intro b3
 first | refine TL.st ty_sz70 ?_ | refine TL.se ty_sz70 ?_
 refine TL.nil (TQ.thenN (hY6 _ _ ?_))
 refine TW.seq fun Y7 hY7 => ?_
 refine TW.seq fun Y8 hY8 => TW.region ?_
 refine TL.p (by first | exact Pu.fb ty_fa33_4 | exact Pu.fe ty_fa33_4) ?_
 refine TL.p (Pu.ld ty_sc31) ?_
 refine TL.p (by first | exact Pu.fb ty_fa70_1 | exact Pu.fe ty_fa70_1) ?_
 refine TL.p (Pu.ld ty_sc3) ?_
 refine TL.cr rfl (enters Tryz.func112 rfl rfl) (fun w hw => by
   exact rHas_any (v := T.v) (by omega) (hRV.sat hw Apart.nil)) ?_
 refine TL.nil (TQ.thenN (hY8 _ _ ?_))
 refine TW.cond rfl (fun hc1 => ?_) (fun hc1 => ?_)
 try simp only [zcb9] at hc1
 skip
 refine TW.seq fun Y9 hY9 => TW.region ?_
 refine TL.p (by first | exact Pu.fb ty_fa70_1 | exact Pu.fe ty_fa70_1) ?_
 refine TL.p (Pu.ld ty_sc3) ?_
 refine TL.p Pu.as ?_
 refine TL.p Pu.as ?_
 refine TL.nil (TQ.thenN (hY9 _ _ ?_))
 refine TW.ret ?_
 refine TQ.thenR ?_
 refine TQ.ret Tryz.results80 rfl ((.tmp rfl (.tmp rfl .nil))) ?_
 exact fun w hw => ⟨ret_pair (by unfold whoZ; rw [if_pos hh, hhc]) (by unfold payZ; rw [if_pos hh, hhc, if_pos hc1]), Chg.ext hw.chg⟩
 try simp only [zcb9] at hc1
 skip
 refine TW.skip ?_
 refine TQ.thenN (hY7 _ _ ?_)
 refine TW.seq fun Y10 hY10 => ?_
 refine TW.dw 17 ?_
 refine RK.tk (by first | exact Pu.fb ty_fa70_1 | exact Pu.fe ty_fa70_1) ?_
 refine RK.tk (Pu.ld ty_sc3) ?_
 refine RK.tk (by first | exact Pu.fb ty_fa70_4 | exact Pu.fe ty_fa70_4) ?_
 refine RK.tk (Pu.ld ty_sc3) ?_
 refine RK.tk (by first | exact Pu.fb ty_fa33_0 | exact Pu.fe ty_fa33_0) ?_
 refine RK.tk (Pu.ld ty_sc3) ?_
 refine RK.tk Pu.ml ?_
 refine RK.tk (by first | exact Pu.fb ty_fa70_5 | exact Pu.fe ty_fa70_5) ?_
 refine RK.tk (Pu.ld ty_sc3) ?_
 refine RK.tk (by first | exact Pu.fb ty_fa33_1 | exact Pu.fe ty_fa33_1) ?_
 refine RK.tk (Pu.ld ty_sc3) ?_
 refine RK.tk Pu.ml ?_
 refine RK.tk Pu.ad ?_
 refine RK.tk Pu.qu ?_
 refine RK.tk Pu.ad ?_
 refine RK.tk Pu.as ?_
 refine RK.tk Pu.as ?_
 refine RK.ch [] ?_ trivial
 refine WK.n ?_
 refine TL.nil (TQ.thenN (hY10 _ _ ?_))
 refine TW.ret ?_
 refine TQ.ret Tryz.results80 rfl ((.tmp rfl (.tmp rfl .nil))) ?_
 exact fun w hw => ⟨ret_pair (by unfold whoZ; rw [if_pos hh, hhc]) (by unfold payZ; rw [if_pos hh, hhc, if_neg (by rw [hc1]; simp)]), Chg.ext hw.chg⟩
end
end Go.Proofs.YtfaenhhgkhcghaaGreatDoor
namespace Go.Proofs.YtfaenhhgkhcghaaGreatDoor
set_option linter.all false
set_option linter.unusedVariables false
set_option linter.unusedSimpArgs false
open Go.RowKit
def stopL (s : Nat → Int) : List Value := [.int .i64 (s 0), .int .i64 (s 1), .int .i64 (s 2), .int .i64 (s 3), .int .i64 (s 4), .int .i64 (s 5)]
structure StpIn (w : World) (n : Nat) (st : Nat → Nat → Int) (S : Option Addr) : Prop where
 hn : n ≤ 1000
 hR : RdR w 6 S n (fun k => stopL (st k))
 bd : ∀ k, k < n → 0 ≤ st k 2 ∧ st k 2 ≤ st k 3 ∧ st k 3 < st k 5 ∧ st k 5 ≤ 100001
theorem StpIn.ext {w w' : World} {n : Nat} {st : Nat → Nat → Int} {S : Option Addr} (h : StpIn w n st S) (hb : Below w.heap.size w w') : StpIn w' n st S := ⟨h.hn, h.hR.chg (Chg.of_ext hb) Apart.nil, h.bd⟩
def brF (f : Nat → Int) : Nat → Int × Int
 | 0 => (0, 0)
 | k + 1 => if 0 < (brF f k).1 then brF f k else if 0 < f k then (f k, (k : Int)) else (0, 0)
theorem brF_no {f : Nat → Int} : ∀ k, (∀ j, j < k → ¬ 0 < f j) → brF f k = (0, 0)
 | 0, _ => rfl
 | k + 1, h => by
  simp only [brF]
  rw [brF_no k fun j hj => h j (by omega), if_neg (by simp), if_neg (h k (by omega))]
theorem brF_yes {f : Nat → Int} {k : Nat} (hk : 0 < f k) (h0 : ∀ j, j < k → ¬ 0 < f j) : ∀ n, k < n → brF f n = (f k, (k : Int))
 | 0, h => by omega
 | n + 1, h => by
  simp only [brF]
  by_cases e : k = n
  · subst e
    rw [brF_no k h0, if_neg (by simp), if_pos hk]
  · rw [brF_yes hk h0 n (by omega), if_pos hk]
def whyD (Z : Cus) (T : Trp) (s : Nat → Int) : Int := wrK (fun t => whyZ Z T (s 0) t) (tuD Z (s 2) (s 5 - 1)) 0
def barD (Z : Cus) (T : Trp) (n : Nat) (st : Nat → Nat → Int) : Int × Int := brF (fun i => whyD Z T (st i)) n
theorem whyZ_bd {Z : Cus} {T : Trp} {leg day : Int} : 0 ≤ whyZ Z T leg day ∧ whyZ Z T leg day ≤ 3 := whyV_bd
theorem drop_get {L : List Int} {k : Nat} (h : k < L.length) : L.drop k = L.getD k 0 :: L.drop (k + 1) := by
 rw [List.drop_eq_getElem_cons h, List.getD_eq_getElem?_getD, List.getElem?_eq_getElem h]
 rfl
theorem ret_u8i {a b a' b' : Int} (h1 : a = a') (h2 : b = b') : Ending.returned (.tuple #[.int .u8 a, .int .i64 b]) = .returned (.tuple #[.int .u8 a', .int .i64 b']) := by rw [h1, h2]
section
variable {Z : Cus} {T : Trp} {C D B O U V S : Option Addr} {cc cd cb co cu cv n cs : Nat} {st : Nat → Nat → Int} {w : World}
set_option maxRecDepth 100000 in
set_option maxHeartbeats 1000000 in
theorem rbarred_any (hok : CusOk Z) (h : CustIn w C Z.nc D Z.nd B Z.nb Z.c Z.d Z.b) (t : TrpIn w T O U V) (s : StpIn w n st S) :
  Calls Tryz.prog 65 #[.agg (custL C Z.nc cc D Z.nd cd B Z.nb cb).toArray, .agg (troopL T.hd T.wo O T.no co U T.nu cu V T.nv cv).toArray, .slice S n cs] w (Ret w (.tuple #[.int .u8 (barD Z T n st).1, .int .i64 (barD Z T n st).2])) := by
 have h1 := h.hnc
 have h2 := h.hnd
 have h3 := h.hnb
 have hRS := s.hR
 have hn := s.hn
 unfold custL troopL
 refine K_enter (S := []) (K := []) Tryz.func65 rfl Tryz.ntmps65 rfl (Sat.start _) ?_
 refine TW.seq fun Y1 hY1 => TW.region ?_
 refine TL.m Mk.bx ?_
 intro b1
 refine TL.m Mk.bx ?_
 intro b2
 refine TL.p Pu.as ?_
 refine TL.p Pu.as ?_
 refine TL.nil (TQ.thenN (hY1 _ _ ?_))
 refine TW.seq fun Y2 hY2 => ?_
 refine TW.seq fun Y3 hY3 => TW.region ?_
 refine TL.p Pu.as ?_
 refine TL.nil (TQ.thenN (hY3 _ _ ?_))
 refine TW.block ?_
 refine TW.loop1 (fun (i : Nat) => [(8, .int .i64 (i : Int)), (3, .pointer (some ⟨b1, 0, none⟩)), (4, .pointer (some ⟨b2, 0, none⟩)), (2, .slice S n cs)]) (fun i => [.blk b1 30 [.slice C Z.nc cc, .slice D Z.nd cd, .slice B Z.nb cb], .blk b2 33 [.int .i64 T.hd, .int .i64 T.wo, .slice O T.no co, .slice U T.nu cu, .slice V T.nv cv]]) (fun i => i ≤ n ∧ ∀ j, j < i → ¬ 0 < whyD Z T (st j)) (fun i => n - i) 0 fs9 ?_ ?_ ?_
 exact ks9
 exact ⟨Nat.zero_le _, fun j hj => by omega⟩
 rintro i ⟨hi, hall⟩ Z0 hZ0
 refine TW.seq fun Y4 hY4 => ?_
 refine TW.seq fun Y5 hY5 => TW.region ?_
 refine TL.p Pu.mv ?_
 refine TL.p Pu.mv ?_
 refine TL.p (Pu.ln Tryz.underlying83) ?_
 refine TL.p Pu.lt ?_
 refine TL.nil (TQ.thenN (hY5 _ _ ?_))
 refine TW.cond rfl (fun hc0 => ?_) (fun hc0 => ?_)
 try simp only [zcb9] at hc0
 have hin : i < n := by omega
 have hbd := s.bd i hin
 have htl := tuD_len (lo := st i 2) (hi := st i 5 - 1) h1 h2 h3
 refine TW.skip ?_
 refine TQ.thenN (hY4 _ _ ?_)
 refine TW.seq fun Y6 hY6 => ?_
 refine TW.block ?_
 refine TW.seq fun Y7 hY7 => TW.region ?_
 refine TL.p Pu.mv ?_
 refine TL.p Pu.mv ?_
 refine TL.p (Pu.el ty_et83) ?_
 refine TL.p (Pu.lds ty_ag160) ?_
 refine TL.m (Mk.al ty_zr160) ?_
 intro b3
 first | refine TL.st ty_sz160 ?_ | refine TL.se ty_sz160 ?_
 refine TL.nil (TQ.thenN (hY7 _ _ ?_))
 refine TW.seq fun Y8 hY8 => TW.region ?_
 refine TL.p (Pu.lds ty_ag30) ?_
 refine TL.p (by first | exact Pu.fb ty_fa160_2 | exact Pu.fe ty_fa160_2) ?_
 refine TL.p (by first | exact Pu.fb ty_fa36_0 | exact Pu.fe ty_fa36_0) ?_
 refine TL.p (Pu.ld ty_sc3) ?_
 refine TL.p (by first | exact Pu.fb ty_fa160_3 | exact Pu.fe ty_fa160_3) ?_
 refine TL.p (by first | exact Pu.fb ty_fa36_1 | exact Pu.fe ty_fa36_1) ?_
 refine TL.p (Pu.ld ty_sc3) ?_
 refine TL.p Pu.sb ?_
 refine TL.call (M := []) rfl (enters Tryz.func79 rfl rfl) (List.Perm.refl _) rfl (fun w hw => by
   exact rTurns_any _ _ hok (h.ext (Chg.ext hw.chg))) ?_
 rintro ⟨A, ca⟩
 refine TL.p Pu.as ?_
 refine TL.nil (TQ.thenN (hY8 _ _ ?_))
 refine TW.seq fun Y9 hY9 => TW.region ?_
 refine TL.p Pu.as ?_
 refine TL.nil (TQ.thenN (hY9 _ _ ?_))
 refine TW.seq fun Y10 hY10 => ?_
 refine TW.seq fun Y11 hY11 => TW.region ?_
 refine TL.p Pu.as ?_
 refine TL.nil (TQ.thenN (hY11 _ _ ?_))
 refine TW.block ?_
 refine TW.loop2 (fun (k : Nat) (a : Int) => [(12, .int .i64 (k : Int)), (11, .int .u8 a), (10, .slice A (tuD Z (st i 2) (st i 5 - 1)).length ca), (9, .pointer (some ⟨b3, 0, none⟩)), (8, .int .i64 (i : Int)), (3, .pointer (some ⟨b1, 0, none⟩)), (4, .pointer (some ⟨b2, 0, none⟩)), (2, .slice S n cs)]) (fun k a => [.own A (tuD Z (st i 2) (st i 5 - 1)).length ca 3 1 (iL (tuD Z (st i 2) (st i 5 - 1))), .blk b3 160 (stopL (st i)), .blk b1 30 [.slice C Z.nc cc, .slice D Z.nd cd, .slice B Z.nb cb], .blk b2 33 [.int .i64 T.hd, .int .i64 T.wo, .slice O T.no co, .slice U T.nu cu, .slice V T.nv cv]]) (fun k a => k ≤ (tuD Z (st i 2) (st i 5 - 1)).length ∧ 0 ≤ a ∧ a ≤ 3 ∧ wrK (fun t => whyZ Z T (st i 0) t) ((tuD Z (st i 2) (st i 5 - 1)).drop k) a = whyD Z T (st i)) (fun k a => (tuD Z (st i 2) (st i 5 - 1)).length - k) 0 0 fs9 ?_ ?_ ?_
 exact ks9
 exact ⟨Nat.zero_le _, by omega, by omega, rfl⟩
 rintro k a ⟨hk, ha0, ha3, hw9⟩ Z1 hZ1
 replace hw9 := hidT hw9
 refine TW.seq fun Y12 hY12 => ?_
 refine TW.seq fun Y13 hY13 => TW.region ?_
 refine TL.p Pu.mv ?_
 refine TL.p Pu.mv ?_
 refine TL.p (Pu.ln Tryz.underlying31) ?_
 refine TL.p Pu.lt ?_
 refine TL.nil (TQ.thenN (hY13 _ _ ?_))
 refine TW.cond rfl (fun hc1 => ?_) (fun hc1 => ?_)
 try simp only [zcb9] at hc1
 have hkn : k < (tuD Z (st i 2) (st i 5 - 1)).length := by omega
 refine TW.skip ?_
 refine TQ.thenN (hY12 _ _ ?_)
 refine TW.seq fun Y14 hY14 => ?_
 refine TW.block ?_
 refine TW.seq fun Y15 hY15 => ?_
 refine TW.dw 10 ?_
 refine RK.tk (Pu.lds ty_ag30) ?_
 refine RK.tk (Pu.lds ty_ag33) ?_
 refine RK.tk (by first | exact Pu.fb ty_fa160_0 | exact Pu.fe ty_fa160_0) ?_
 refine RK.tk (Pu.ld ty_sc3) ?_
 refine RK.tk Pu.mv ?_
 refine RK.tk Pu.mv ?_
 refine RK.tk (Pu.el ty_et31) ?_
 refine RK.tk (Pu.ld ty_sc3) ?_
 refine RK.keep ?_
 refine RK.keep ?_
 refine RK.ch [false, true] ?_ trivial
 refine WK.cr rfl (enters Tryz.func111 rfl rfl) (fun w hw => by
   exact rWhy_any _ _ (h.ext (Chg.ext hw.chg)) (t.ext (Chg.ext hw.chg))) ?_
 refine WK.p Pu.as ?_
 refine WK.n ?_
 refine TL.nil (TQ.thenN (hY15 _ _ ?_))
 refine TW.seq fun Y16 hY16 => ?_
 refine TW.join [(58, .bool (decide (0 < whyZ Z T (st i 0) ((tuD Z (st i 2) (st i 5 - 1)).getD k 0) ∧ (a = 0 ∨ whyZ Z T (st i 0) ((tuD Z (st i 2) (st i 5 - 1)).getD k 0) < a))))] ?_ (fun hJ1 => ?_)
 refine TQ.thenN (hY16 _ _ ?_)
 refine TW.cond rfl (fun hc2 => ?_) (fun hc2 => ?_)
 try simp only [zcb9] at hc2
 have hb := whyZ_bd (Z := Z) (T := T) (leg := st i 0) (day := (tuD Z (st i 2) (st i 5 - 1)).getD k 0)
 have hs : wrK (fun t => whyZ Z T (st i 0) t) ((tuD Z (st i 2) (st i 5 - 1)).drop (k + 1)) (whyZ Z T (st i 0) ((tuD Z (st i 2) (st i 5 - 1)).getD k 0)) = whyD Z T (st i) := by
  rw [← hw9.out, drop_get hkn]; simp only [wrK]; rw [if_pos hc2]
 refine TW.region ?_
 refine TL.p Pu.mv ?_
 refine TL.p Pu.as ?_
 refine TL.nil ?_
 refine TQ.blkN ?_
 refine TQ.thenN (hY14 _ _ ?_)
 refine TW.region ?_
 refine TL.p Pu.mv ?_
 refine TL.p Pu.ad ?_
 refine TL.p Pu.as ?_
 refine TL.nil ?_
 refine TQ.thenN (hZ1 (k + 1) _ _ _ ?_ ?_ fs9 ?_)
 first | exact ⟨by omega, by omega, by omega, hs⟩ | exact ⟨by omega, hb.1, hb.2, hs⟩
 exact zom9
 exact ks9
 try simp only [zcb9] at hc2
 have hb := whyZ_bd (Z := Z) (T := T) (leg := st i 0) (day := (tuD Z (st i 2) (st i 5 - 1)).getD k 0)
 have hs : wrK (fun t => whyZ Z T (st i 0) t) ((tuD Z (st i 2) (st i 5 - 1)).drop (k + 1)) a = whyD Z T (st i) := by
  rw [← hw9.out, drop_get hkn]; simp only [wrK]; rw [if_neg hc2]
 refine TW.skip ?_
 refine TQ.blkN ?_
 refine TQ.thenN (hY14 _ _ ?_)
 refine TW.region ?_
 refine TL.p Pu.mv ?_
 refine TL.p Pu.ad ?_
 refine TL.p Pu.as ?_
 refine TL.nil ?_
 refine TQ.thenN (hZ1 (k + 1) _ _ _ ?_ ?_ fs9 ?_)
 first | exact ⟨by omega, by omega, by omega, hs⟩ | exact ⟨by omega, hb.1, hb.2, hs⟩
 exact zom9
 exact ks9
 refine TW.region ?_
 refine TL.p Pu.mv ?_
 refine TL.p Pu.gt ?_
 refine TL.p Pu.mv ?_
 refine TL.guard (t := 50) rfl (fun hg1 => ?_) (fun hg1 => ?_)
 refine TL.gd Pu.mv ?_
 refine TL.gd Pu.eq ?_
 refine TL.gd Pu.mv ?_
 refine TL.guard (t := 53) rfl (fun hg2 => ?_) (fun hg2 => ?_)
 refine TL.gs ?_
 refine TL.gs ?_
 refine TL.gs ?_
 refine TL.gd Pu.kt ?_
 refine TL.p Pu.kt ?_
 refine TL.nil ?_
 exact TQ.sub (by repeat (first | exact trivial | refine ⟨rfl, ?_⟩ | refine ⟨trivial, ?_⟩ | refine ⟨(by show some (Value.bool _) = some (Value.bool _); first | (simp [hg1, hg2, -List.getD_eq_getElem?_getD]; done) | (refine congrArg (fun z => some (Value.bool z)) (Bool.eq_iff_iff.2 ?_); simp [hg1, hg2, -List.getD_eq_getElem?_getD]; omega)), ?_⟩)) ks9 hJ1
 refine TL.gd Pu.mv ?_
 refine TL.gd Pu.mv ?_
 refine TL.gd Pu.lt ?_
 refine TL.gd Pu.kf ?_
 refine TL.p Pu.kt ?_
 refine TL.nil ?_
 exact TQ.sub (by repeat (first | exact trivial | refine ⟨rfl, ?_⟩ | refine ⟨trivial, ?_⟩ | refine ⟨(by show some (Value.bool _) = some (Value.bool _); first | (simp [hg1, hg2, -List.getD_eq_getElem?_getD]; done) | (refine congrArg (fun z => some (Value.bool z)) (Bool.eq_iff_iff.2 ?_); simp [hg1, hg2, -List.getD_eq_getElem?_getD]; omega)), ?_⟩)) ks9 hJ1
 refine TL.gs ?_
 refine TL.gs ?_
 refine TL.gs ?_
 refine TL.gs ?_
 refine TL.gs ?_
 refine TL.gs ?_
 refine TL.gs ?_
 refine TL.p Pu.kf ?_
 refine TL.nil ?_
 exact TQ.sub (by repeat (first | exact trivial | refine ⟨rfl, ?_⟩ | refine ⟨trivial, ?_⟩ | refine ⟨(by show some (Value.bool _) = some (Value.bool _); first | (simp [hg1, -List.getD_eq_getElem?_getD]; done) | (refine congrArg (fun z => some (Value.bool z)) (Bool.eq_iff_iff.2 ?_); simp [hg1, -List.getD_eq_getElem?_getD]; omega)), ?_⟩)) ks9 hJ1
 try simp only [zcb9] at hc1
 have hkn : k = (tuD Z (st i 2) (st i 5 - 1)).length := by omega
 have hwi : whyD Z T (st i) = a := by rw [← hw9.out, hkn, List.drop_length]; rfl
 replace hwi := hidT hwi
 refine TW.exit ?_
 refine TQ.thenX ?_
 refine TQ.thenX ?_
 refine TQ.blkX ?_
 refine TQ.thenN (hY10 _ _ ?_)
 refine TW.seq fun Y17 hY17 => TW.region ?_
 refine TL.p Pu.mv ?_
 refine TL.p Pu.gt ?_
 refine TL.nil (TQ.thenN (hY17 _ _ ?_))
 refine TW.cond rfl (fun hc3 => ?_) (fun hc3 => ?_)
 try simp only [zcb9] at hc3
 have hpos : 0 < whyD Z T (st i) := by rw [hwi.out]; omega
 refine TW.seq fun Y18 hY18 => TW.region ?_
 refine TL.p Pu.mv ?_
 refine TL.p Pu.mv ?_
 refine TL.p Pu.as ?_
 refine TL.p Pu.as ?_
 refine TL.nil (TQ.thenN (hY18 _ _ ?_))
 refine TW.ret ?_
 refine TQ.blkR ?_
 refine TQ.thenR ?_
 refine TQ.thenR ?_
 refine TQ.blkR ?_
 refine TQ.thenR ?_
 refine TQ.ret Tryz.results65 rfl ((.tmp rfl (.tmp rfl .nil))) ?_
 exact fun w hw => ⟨ret_u8i (by unfold barD; rw [brF_yes (f := fun i => whyD Z T (st i)) hpos hall n hin]; exact hwi.out.symm) (by unfold barD; rw [brF_yes (f := fun i => whyD Z T (st i)) hpos hall n hin]), Chg.ext hw.chg⟩
 try simp only [zcb9] at hc3
 have hpos : ¬ 0 < whyD Z T (st i) := by rw [hwi.out]; omega
 refine TW.skip ?_
 refine TQ.blkN ?_
 refine TQ.thenN (hY6 _ _ ?_)
 refine TW.region ?_
 refine TL.p Pu.mv ?_
 refine TL.p Pu.ad ?_
 refine TL.p Pu.as ?_
 refine TL.nil ?_
 refine TQ.thenN (hZ0 (i + 1) _ _ ?_ ?_ fs9 ?_)
 exact ⟨by omega, fun j hj => (Nat.lt_succ_iff_lt_or_eq.1 hj).elim (hall j) (fun e => e ▸ hpos)⟩
 exact zom9
 exact ks9
 try simp only [zcb9] at hc0
 obtain rfl : i = n := by omega
 refine TW.exit ?_
 refine TQ.thenX ?_
 refine TQ.thenX ?_
 refine TQ.blkX ?_
 refine TQ.thenN (hY2 _ _ ?_)
 refine TW.seq fun Y19 hY19 => TW.region ?_
 refine TL.p Pu.as ?_
 refine TL.p Pu.as ?_
 refine TL.nil (TQ.thenN (hY19 _ _ ?_))
 refine TW.ret ?_
 refine TQ.ret Tryz.results65 rfl ((.tmp rfl (.tmp rfl .nil))) ?_
 exact fun w hw => ⟨ret_u8i (by unfold barD; rw [brF_no _ hall]) (by unfold barD; rw [brF_no _ hall]), Chg.ext hw.chg⟩
end
end Go.Proofs.YtfaenhhgkhcghaaGreatDoor
