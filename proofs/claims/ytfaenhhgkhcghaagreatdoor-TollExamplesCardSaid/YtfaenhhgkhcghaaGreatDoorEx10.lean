/-
  Part 10 of the proof of tollExamples_holds: declarations of several texts, in build order. No condition on a program.
-/
import Derived.Test.YtfaenhhgkhcghaaGreatDoorEx09
import Derived.Test.YtfaenhhgkhcghaaGreatDoorEx03
import Derived.Test.YtfaenhhgkhcghaaGreatDoorEx06
import Derived.Test.YtfaenhhgkhcghaaGreatDoorEx08
import Derived.Test.YtfaenhhgkhcghaaGreatDoorEx07
namespace Go.Proofs.YtfaenhhgkhcghaaGreatDoor
set_option linter.all false
set_option linter.unusedVariables false
set_option linter.unusedSimpArgs false
open Go.RowKit
set_option maxRecDepth 100000 in
theorem neToll (x y : Operand) (v : TlX) (w : World) : (do eqGuard .neq 98 x y (.agg (tolL v).toArray) (.agg (tolL v).toArray); binOp .neq 98 (.agg (tolL v).toArray) (.agg (tolL v).toArray) : Sem Value).run Tryz.prog w = .ok (.bool false) w := by
 unfold tolL
 go_simp
set_option maxRecDepth 100000 in
theorem sameTolls_any {A B : Option Addr} {L : List TlX} {c1 c2 : Nat} {w : World} (hn : L.length ≤ 1000000) (hA : RdR w 4 A L.length (rowsT L)) (hB : RdR w 4 B L.length (rowsT L)) :
  Calls Tryz.prog 38 #[.slice A L.length c1, .slice B L.length c2] w (Ret w (.bool true)) := by
 unfold rowsT at hA hB
 refine K_enter (S := []) (K := []) Tryz.func38 rfl Tryz.ntmps38 rfl (Sat.start _) ?_
 refine TW.seq fun Y1 hY1 => TW.region ?_
 refine TL.p Pu.as ?_
 refine TL.nil (TQ.thenN (hY1 _ _ ?_))
 refine TW.seq fun Y2 hY2 => ?_
 refine TW.seq fun Y3 hY3 => TW.region ?_
 refine TL.p Pu.mv ?_
 refine TL.p (Pu.ln Tryz.underlying65) ?_
 refine TL.p Pu.mv ?_
 refine TL.p (Pu.ln Tryz.underlying65) ?_
 refine TL.p Pu.ne ?_
 refine TL.nil (TQ.thenN (hY3 _ _ ?_))
 refine TW.condF rfl ((by simp)) ?_
 refine TW.skip ?_
 refine TQ.thenN (hY2 _ _ ?_)
 refine TW.seq fun Y4 hY4 => ?_
 refine TW.seq fun Y5 hY5 => TW.region ?_
 refine TL.p Pu.as ?_
 refine TL.nil (TQ.thenN (hY5 _ _ ?_))
 refine TW.block ?_
 refine TW.loop1 (fun (i : Nat) => [(5, .int .i64 (i : Int)), (0, .slice A L.length c1), (1, .slice B L.length c2)]) (fun i => []) (fun i => i ≤ L.length) (fun i => L.length - i) 0 fs9 ?_ ?_ ?_
 exact ks9
 exact Nat.zero_le _
 rintro i hi Z0 hZ0
 refine TW.seq fun Y6 hY6 => ?_
 refine TW.seq fun Y7 hY7 => TW.region ?_
 refine TL.p Pu.mv ?_
 refine TL.p Pu.mv ?_
 refine TL.p (Pu.ln Tryz.underlying65) ?_
 refine TL.p Pu.lt ?_
 refine TL.nil (TQ.thenN (hY7 _ _ ?_))
 refine TW.cond rfl (fun hc1 => ?_) (fun hc1 => ?_)
 try simp only [zcb9] at hc1
 have hin : i < L.length := by omega
 refine TW.skip ?_
 refine TQ.thenN (hY6 _ _ ?_)
 refine TW.seq fun Y8 hY8 => ?_
 refine TW.block ?_
 refine TW.seq fun Y9 hY9 => ?_
 refine TW.dw 9 ?_
 refine RK.tk Pu.mv ?_
 refine RK.tk Pu.mv ?_
 refine RK.tk (Pu.el ty_et65) ?_
 refine RK.tk (Pu.lds ty_ag98) ?_
 refine RK.tk Pu.mv ?_
 refine RK.tk Pu.mv ?_
 refine RK.tk (Pu.el ty_et65) ?_
 refine RK.tk (Pu.lds ty_ag98) ?_
 refine RK.tk (Pu.bn rfl rfl (fun w => neToll _ _ (L.getD i (0, 0, 0, 0)) w)) ?_
 refine RK.ch [] ?_ trivial
 refine WK.n ?_
 refine TL.nil (TQ.thenN (hY9 _ _ ?_))
 refine TW.condF rfl (rfl) ?_
 refine TW.skip ?_
 refine TQ.blkN ?_
 refine TQ.thenN (hY8 _ _ ?_)
 refine TW.region ?_
 refine TL.p Pu.mv ?_
 refine TL.p Pu.ad ?_
 refine TL.p Pu.as ?_
 refine TL.nil ?_
 refine TQ.thenN (hZ0 (i + 1) _ _ ?_ ?_ fs9 ?_)
 exact (by omega)
 exact zom9
 exact ks9
 try simp only [zcb9] at hc1
 have hin : i = L.length := by omega
 refine TW.exit ?_
 refine TQ.thenX ?_
 refine TQ.thenX ?_
 refine TQ.blkX ?_
 refine TQ.thenN (hY4 _ _ ?_)
 refine TW.seq fun Y10 hY10 => TW.region ?_
 refine TL.p Pu.as ?_
 refine TL.nil (TQ.thenN (hY10 _ _ ?_))
 refine TW.ret ?_
 refine TQ.ret Tryz.results38 rfl ((.tmp rfl .nil)) ?_
 exact fun w hw => Ret.of hw
def sameN (n1 : Nat) (v1 : Nat → Int) (n2 : Nat) (v2 : Nat → Int) : Bool := decide (n1 = n2) && allB n1 (fun k => decide (v1 k = v2 k))
theorem sameN_self {n : Nat} {v : Nat → Int} : sameN n v n v = true := by
 unfold sameN
 rw [decide_eq_true rfl, Bool.true_and, allB_iff]
 exact fun _ _ => decide_eq_true rfl
set_option maxRecDepth 100000 in
theorem sameInts3_any {A B : Option Addr} {n1 n2 c1 c2 : Nat} {v1 v2 : Nat → Int} {w : World} (hn : n1 ≤ 1000000000) (hA : RdR w 1 A n1 (fun k => [.int .i64 (v1 k)])) (hB : RdR w 1 B n2 (fun k => [.int .i64 (v2 k)])) :
  Calls Tryz.prog 11 #[.slice A n1 c1, .slice B n2 c2] w (Ret w (.bool (sameN n1 v1 n2 v2))) := by
 refine K_enter (S := []) (K := []) Tryz.func11 rfl Tryz.ntmps11 rfl (Sat.start _) ?_
 refine TW.seq fun Y1 hY1 => TW.region ?_
 refine TL.p Pu.as ?_
 refine TL.nil (TQ.thenN (hY1 _ _ ?_))
 refine TW.seq fun Y2 hY2 => ?_
 refine TW.seq fun Y3 hY3 => TW.region ?_
 refine TL.p Pu.mv ?_
 refine TL.p (Pu.ln Tryz.underlying31) ?_
 refine TL.p Pu.mv ?_
 refine TL.p (Pu.ln Tryz.underlying31) ?_
 refine TL.p Pu.ne ?_
 refine TL.nil (TQ.thenN (hY3 _ _ ?_))
 refine TW.cond rfl (fun hc0 => ?_) (fun hc0 => ?_)
 try simp only [zcb9] at hc0
 refine TW.seq fun Y4 hY4 => TW.region ?_
 refine TL.p Pu.as ?_
 refine TL.nil (TQ.thenN (hY4 _ _ ?_))
 refine TW.ret ?_
 refine TQ.thenR ?_
 refine TQ.ret Tryz.results11 rfl ((.tmp rfl .nil)) ?_
 exact fun w hw => ⟨ret_bool (by
  have : ¬ n1 = n2 := fun e => by subst e; simp at hc0
  simp [sameN, this]), Chg.ext hw.chg⟩
 try simp only [zcb9] at hc0
 have hnn : n1 = n2 := by
  have : ¬ ¬ ((n1 : Int) = (n2 : Int)) := by simpa using hc0
  omega
 refine TW.skip ?_
 refine TQ.thenN (hY2 _ _ ?_)
 refine TW.seq fun Y5 hY5 => ?_
 refine TW.seq fun Y6 hY6 => TW.region ?_
 refine TL.p Pu.as ?_
 refine TL.nil (TQ.thenN (hY6 _ _ ?_))
 refine TW.block ?_
 refine TW.loop1 (fun (k : Nat) => [(5, .int .i64 (k : Int)), (0, .slice A n1 c1), (1, .slice B n2 c2)]) (fun k => []) (fun k => k ≤ n1 ∧ ∀ j, j < k → v1 j = v2 j) (fun k => n1 - k) 0 fs9 ?_ ?_ ?_
 exact ks9
 exact ⟨by omega, fun j hj => by omega⟩
 rintro k ⟨hk, hall⟩ Z0 hZ0
 refine TW.seq fun Y7 hY7 => ?_
 refine TW.seq fun Y8 hY8 => TW.region ?_
 refine TL.p Pu.mv ?_
 refine TL.p Pu.mv ?_
 refine TL.p (Pu.ln Tryz.underlying31) ?_
 refine TL.p Pu.lt ?_
 refine TL.nil (TQ.thenN (hY8 _ _ ?_))
 refine TW.cond rfl (fun hc1 => ?_) (fun hc1 => ?_)
 try simp only [zcb9] at hc1
 refine TW.skip ?_
 refine TQ.thenN (hY7 _ _ ?_)
 refine TW.seq fun Y9 hY9 => ?_
 refine TW.block ?_
 refine TW.seq fun Y10 hY10 => ?_
 refine TW.dw 9 ?_
 refine RK.tk Pu.mv ?_
 refine RK.tk Pu.mv ?_
 refine RK.tk (Pu.el ty_et31) ?_
 refine RK.tk (Pu.ld ty_sc3) ?_
 refine RK.tk Pu.mv ?_
 refine RK.tk Pu.mv ?_
 refine RK.tk (Pu.el ty_et31) ?_
 refine RK.tk (Pu.ld ty_sc3) ?_
 refine RK.tk Pu.ne ?_
 refine RK.ch [] ?_ trivial
 refine WK.n ?_
 refine TL.nil (TQ.thenN (hY10 _ _ ?_))
 refine TW.cond rfl (fun hc2 => ?_) (fun hc2 => ?_)
 try simp only [zcb9] at hc2
 have hbad : ¬ v1 k = v2 k := by simpa using hc2
 refine TW.seq fun Y11 hY11 => TW.region ?_
 refine TL.p Pu.as ?_
 refine TL.nil (TQ.thenN (hY11 _ _ ?_))
 refine TW.ret ?_
 refine TQ.blkR ?_
 refine TQ.thenR ?_
 refine TQ.thenR ?_
 refine TQ.blkR ?_
 refine TQ.thenR ?_
 refine TQ.ret Tryz.results11 rfl ((.tmp rfl .nil)) ?_
 exact fun w hw => ⟨ret_bool (by
  cases h : sameN n1 v1 n2 v2 with
  | false => rfl
  | true =>
   simp only [sameN, Bool.and_eq_true, allB_iff, decide_eq_true_eq] at h
   exact absurd (h.2 k (by omega)) hbad), Chg.ext hw.chg⟩
 try simp only [zcb9] at hc2
 have hgood : v1 k = v2 k := by simpa using hc2
 refine TW.skip ?_
 refine TQ.blkN ?_
 refine TQ.thenN (hY9 _ _ ?_)
 refine TW.region ?_
 refine TL.p Pu.mv ?_
 refine TL.p Pu.ad ?_
 refine TL.p Pu.as ?_
 refine TL.nil ?_
 refine TQ.thenN (hZ0 (k + 1) _ _ ?_ ?_ fs9 ?_)
 refine ⟨by omega, fun j hj => ?_⟩
 by_cases h : j = k
 subst h; exact hgood
 exact hall j (by omega)
 exact zom9
 exact ks9
 try simp only [zcb9] at hc1
 refine TW.exit ?_
 refine TQ.thenX ?_
 refine TQ.thenX ?_
 refine TQ.blkX ?_
 refine TQ.thenN (hY5 _ _ ?_)
 refine TW.seq fun Y12 hY12 => TW.region ?_
 refine TL.p Pu.as ?_
 refine TL.nil (TQ.thenN (hY12 _ _ ?_))
 refine TW.ret ?_
 refine TQ.ret Tryz.results11 rfl ((.tmp rfl .nil)) ?_
 exact fun w hw => ⟨ret_bool (by
  obtain rfl : k = n1 := by omega
  simp only [sameN, Bool.and_eq_true, allB_iff, decide_eq_true_eq]
  exact ⟨hnn, hall⟩), Chg.ext hw.chg⟩
theorem same3_true {A B : Option Addr} {n c1 c2 : Nat} {v : Nat → Int} {w : World} (hn : n ≤ 1000000000) (hA : RdR w 1 A n (fun k => [.int .i64 (v k)])) (hB : RdR w 1 B n (fun k => [.int .i64 (v k)])) :
  Calls Tryz.prog 11 #[.slice A n c1, .slice B n c2] w (Ret w (.bool true)) := by
 have h := sameInts3_any (c1 := c1) (c2 := c2) hn hA hB
 rwa [sameN_self] at h
section
variable {T : Trp} {O U V O' U' V' : Option Addr} {co cu cv co' cu' cv' : Nat} {w w0 : World} {S : List Nat} {K : List Fact}
end
end Go.Proofs.YtfaenhhgkhcghaaGreatDoor
namespace Go.Proofs.YtfaenhhgkhcghaaGreatDoor
set_option linter.all false
set_option linter.unusedVariables false
set_option linter.unusedSimpArgs false
open Go.RowKit
section
variable {W A C D B : Option Addr} {nw nl nc nd nb : Nat} {f : Nat → Nat → Int} {x : Nat → Leg} {g : Nat → Nat → Nat → Int} {c : Nat → (Nat → Int) × Bool} {d b : Nat → Nat → Int} {w w0 : World} {S : List Nat} {K : List Fact}
theorem OwnR.cap {A : Option Addr} {n cp : Nat} {E : TypeId} {sz : Nat} {r : Nat → List Value} (h : OwnR w A n cp E sz r) : n ≤ cp := by
 obtain ⟨A', c', e, h1, _⟩ := h.own.form
 cases e
 exact h1
variable {cw cl cc cd cb : Nat} {a : Nat → Option Addr} {e : Nat → Nat}
theorem tollHolder_tw (leg day : Int) (h : LandIn w W nw A nl f (fun k => lgA (x k) (a k) (e k)) g) (k : CustIn w C nc D nd B nb c d b) :
 Calls Tryz.prog 14 #[.agg (landL W nw cw A nl cl).toArray, .agg (custL C nc cc D nd cd B nb cb).toArray, .int .i64 leg, .int .i64 day] w (Ret w (.tuple #[.int .i64 (holdA (checkC nw nl f x g nc nd nb c d b) nl leg day (hb leg day c nc)), .int .i64 (holdE (checkC nw nl f x g nc nd nb c d b) nl leg day)])) := tollHolder_any (x := fun k => lgA (x k) (a k) (e k)) leg day h k
theorem tollDisputes_tw (h : LandIn w W nw A nl f (fun k => lgA (x k) (a k) (e k)) g) (k : CustIn w C nc D nd B nb c d b) (hcc : nc ≤ cc) :
 CallsK Tryz.prog 21 #[.agg (landL W nw cw A nl cl).toArray, .agg (custL C nc cc D nd cd B nb cb).toArray] [] w (Option Addr × Nat) (fun a => .tuple #[.slice a.1 (disL (checkC nw nl f x g nc nd nb c d b) nc c).length a.2, .int .i64 (checkC nw nl f x g nc nd nb c d b)]) (fun a => [.own a.1 (disL (checkC nw nl f x g nc nd nb c d b) nc c).length a.2 100 2 (rowsP (disL (checkC nw nl f x g nc nd nb c d b) nc c))]) := tollDisputes_any (x := fun k => lgA (x k) (a k) (e k)) h k hcc
end
end Go.Proofs.YtfaenhhgkhcghaaGreatDoor
namespace Go.Proofs.YtfaenhhgkhcghaaGreatDoor
set_option linter.all false
set_option linter.unusedVariables false
set_option linter.unusedSimpArgs false
open Go.RowKit
def Yt (Y : Wy) (a : Nat → Option Addr) (e : Nat → Nat) : Wy := { Y with x := fun k => lgA (Y.x k) (a k) (e k) }
section
variable {Y : Wy} {Z : Cus} {T : Trp} {a : Nat → Option Addr} {e : Nat → Nat}
end
section
variable {nw nl nc nd nb : Nat} {f : Nat → Nat → Int} {x : Nat → Leg} {g : Nat → Nat → Nat → Int} {c : Nat → (Nat → Int) × Bool} {d b : Nat → Nat → Int} {T : Trp} {w w0 : World} {S : List Nat} {K : List Fact}
end
section
variable {Y : Wy} {Z : Cus} {T : Trp} {W A L C D B O U V : Option Addr} {cw cl cn cc cd cb co cu cv : Nat} {w : World} {a : Nat → Option Addr} {e : Nat → Nat}
theorem tollBarred_tw (hL : LandIn w W Y.nw A Y.nl Y.f (fun k => lgA (Y.x k) (a k) (e k)) Y.g) (hn : Y.n ≤ 1000) (hR : RdR w 1 L Y.n (fun k => [.int .i64 (Y.ls k)])) (h : CustIn w C Z.nc D Z.nd B Z.nb Z.c Z.d Z.b) (t : TrpIn w T O U V) (hG : OldB w 0 barsL) :
  Calls Tryz.prog 17 #[.agg (landL W Y.nw cw A Y.nl cl).toArray, .agg (custL C Z.nc cc D Z.nd cd B Z.nb cb).toArray, .agg (troopL T.hd T.wo O T.no co U T.nu cu V T.nv cv).toArray, .int .i64 Y.start, .int .i64 Y.day, .agg #[.int .i64 Y.p0, .int .i64 Y.p1], .slice L Y.n cn] w (Ret w (.tuple #[.int .u8 (barA Y Z T).1, .int .i64 (barA Y Z T).2, .int .i64 (tolC Y Z T)])) :=
 tollBarred_any (Y := Yt Y a e) hL hn hR h t hG
theorem tollDue_tw (hL : LandIn w W Y.nw A Y.nl Y.f (fun k => lgA (Y.x k) (a k) (e k)) Y.g) (hn : Y.n ≤ 1000) (hR : RdR w 1 L Y.n (fun k => [.int .i64 (Y.ls k)])) (h : CustIn w C Z.nc D Z.nd B Z.nb Z.c Z.d Z.b) (t : TrpIn w T O U V) :
  CallsK Tryz.prog 22 #[.agg (landL W Y.nw cw A Y.nl cl).toArray, .agg (custL C Z.nc cc D Z.nd cd B Z.nb cb).toArray, .agg (troopL T.hd T.wo O T.no co U T.nu cu V T.nv cv).toArray, .int .i64 Y.start, .int .i64 Y.day, .agg #[.int .i64 Y.p0, .int .i64 Y.p1], .slice L Y.n cn] [] w (Option Addr × Nat) (dueV Y Z T) (dueK Y Z T) :=
 tollDue_any (Y := Yt Y a e) hL hn hR h t
end
end Go.Proofs.YtfaenhhgkhcghaaGreatDoor
namespace Go.Proofs.YtfaenhhgkhcghaaGreatDoor
set_option linter.all false
set_option linter.unusedVariables false
set_option linter.unusedSimpArgs false
open Go.RowKit
def gx (ns : List Int) (j : Nat) : Int := ns.getD j 0
def exX (k : Nat) : Leg := ⟨gx [(k : Int), (k : Int) + 1, 100000, 100000], none, 1, 1⟩
def exG : Nat → Int := gx [0, 0, 1000, 1000]
def exY : Wy := ⟨3, 2, fun _ _ => 0, exX, fun _ _ => exG, 20000, 25000, 0, 10, 2, fun k => (k : Int)⟩
def exC : Nat → (Nat → Int) × Bool
 | 0 => (gx [0, 1, 0, 12, 5, 0], false)
 | 1 => (gx [0, 2, 5, 100, 8, 0], true)
 | _ => (gx [1, 3, 0, 14, 0, 10], false)
def exD (_ : Nat) : Nat → Int := gx [2, 4, 13, 20]
def exZ : Cus := ⟨3, 1, 0, exC, exD, fun _ _ => 0⟩
def exP : Cus := ⟨3, 0, 0, exC, fun _ _ => 0, fun _ _ => 0⟩
def exT : Trp := ⟨10, 1000, 1, 0, 0, fun _ => 4, fun _ => 0, fun _ => 0⟩
def exE : Fes := ⟨2, fun k => (k : Int) + 1, fun k => 10 * (k : Int) + 20⟩
theorem eHold : holdA (checkC 3 2 (fun _ _ => 0) exX (fun _ _ => exG) 3 1 0 exC exD (fun _ _ => 0)) 2 0 12 (hb 0 12 exC 3) = 0 ∧ holdE (checkC 3 2 (fun _ _ => 0) exX (fun _ _ => exG) 3 1 0 exC exD (fun _ _ => 0)) 2 0 12 = 0 := by decide +kernel
theorem eBar : barA exY exZ exT = (2, 0) ∧ tolC exY exZ exT = 0 := by decide +kernel
theorem eDue : dueL exY exZ exT = [(0, 1, 50, 50), (1, 3, 0, 10)] ∧ dueLo exY exZ exT = 50 ∧ dueHi exY exZ exT = 60 := by decide +kernel
theorem eHir : hirL exY exP exT exE = [2] ∧ hirN exY exP exT exE = 30 ∧ hirC exY exP exT exE = 0 := by decide +kernel
theorem eDis : disL (checkC 3 2 (fun _ _ => 0) exX (fun _ _ => exG) 3 1 0 exC exD (fun _ _ => 0)) 3 exC = [(0, 1)] ∧ checkC 3 2 (fun _ _ => 0) exX (fun _ _ => exG) 3 1 0 exC exD (fun _ _ => 0) = 0 := by decide +kernel
end Go.Proofs.YtfaenhhgkhcghaaGreatDoor
namespace Go.Proofs.YtfaenhhgkhcghaaGreatDoor
set_option linter.all false
set_option linter.unusedVariables false
set_option linter.unusedSimpArgs false
open Go.RowKit
theorem span7_any (a b : Int) (w : World) : Calls Tryz.prog 39 #[.int .i64 a, .int .i64 b] w (Ret w (.agg #[.int .i64 a, .int .i64 b])) := by
 refine K_enter (S := []) (K := []) Tryz.func39 rfl Tryz.ntmps39 rfl (Sat.start _) ?_
 refine TW.seq fun Y1 hY1 => TW.region ?_
 refine TL.m (Mk.al ty_zr36) ?_
 intro b1
 refine TL.nil (TQ.thenN (hY1 _ _ ?_))
 refine TW.seq fun Y2 hY2 => TW.region ?_
 refine TL.p Pu.mv ?_
 refine TL.p Pu.mv ?_
 refine TL.p Pu.bd ?_
 first | refine TL.st ty_sz36 ?_ | refine TL.se ty_sz36 ?_
 refine TL.nil (TQ.thenN (hY2 _ _ ?_))
 refine TW.ret ?_
 refine TQ.ret Tryz.results39 rfl ((RV.cs ty_ag36 .nil)) ?_
 exact fun w hw => Ret.of hw
theorem speed_any (w : World) : Calls Tryz.prog 20 #[] w (Ret w (.agg #[.int .i64 20000, .int .i64 25000])) := by
 refine K_enter (S := []) (K := []) Tryz.func20 rfl Tryz.ntmps20 rfl (Sat.start _) ?_
 refine TW.seq fun Y1 hY1 => TW.region ?_
 refine TL.m (Mk.al ty_zr36) ?_
 intro b1
 refine TL.nil (TQ.thenN (hY1 _ _ ?_))
 refine TW.seq fun Y2 hY2 => TW.region ?_
 refine TL.cr rfl (enters Tryz.func39 rfl rfl) (fun w hw => by
  exact span7_any _ _ _) ?_
 first | refine TL.st ty_sz36 ?_ | refine TL.se ty_sz36 ?_
 refine TL.nil (TQ.thenN (hY2 _ _ ?_))
 refine TW.ret ?_
 refine TQ.ret Tryz.results20 rfl ((RV.cs ty_ag36 .nil)) ?_
 exact fun w hw => Ret.of hw
def exLf (x : Nat × Nat × Nat) : List Fact := [.own (some ⟨x.1, 0, none⟩) 3 3 170 9 (fun _ => wellL (fun _ => 0)), .own (some ⟨x.2.1, 0, none⟩) 2 2 107 5 (fun k => legL (lgA (exX k) (some ⟨x.2.2, 0, none⟩) 1)), .own (some ⟨x.2.2, 0, none⟩) 1 1 104 4 (fun _ => gateL exG)]
theorem exLand_in {w : World} {x : Nat × Nat × Nat} (h : (bun (exLf x)).holds w) : LandIn w (some ⟨x.1, 0, none⟩) exY.nw (some ⟨x.2.1, 0, none⟩) exY.nl exY.f (fun k => lgA (exY.x k) (some ⟨x.2.2, 0, none⟩) 1) exY.g :=
 ⟨by decide, by decide, OwnR.rdr (h.now _ (List.mem_cons_self ..)), OwnR.rdr (h.now _ (List.mem_cons_of_mem _ (List.mem_cons_self ..))), fun _ _ => by show 1 ≤ 1000; decide, fun _ _ => OwnR.rdr (h.now _ (List.mem_cons_of_mem _ (List.mem_cons_of_mem _ (List.mem_cons_self ..))))⟩
set_option maxRecDepth 100000 in
theorem exLand_any (w : World) : CallsK Tryz.prog 15 #[] [] w (Nat × Nat × Nat) (fun x => .agg (landL (some ⟨x.1, 0, none⟩) 3 3 (some ⟨x.2.1, 0, none⟩) 2 2).toArray) (fun x => [bun (exLf x)]) := by
 unfold landL
 refine K_enter (S := []) (K := []) Tryz.func15 rfl Tryz.ntmps15 rfl (Sat.start _) ?_
 refine TW.seq fun Y1 hY1 => TW.region ?_
 refine TL.m (Mk.al ty_zr25) ?_
 intro b1
 refine TL.nil (TQ.thenN (hY1 _ _ ?_))
 refine TW.seq fun Y2 hY2 => TW.region ?_
 refine TL.cr rfl (enters Tryz.func39 rfl rfl) (fun w hw => by
  exact span7_any _ _ _) ?_
 refine TL.p Pu.bd ?_
 refine TL.m Mk.bl ?_
 intro b2
 refine TL.p Pu.as ?_
 refine TL.nil (TQ.thenN (hY2 _ _ ?_))
 refine TW.seq fun Y3 hY3 => TW.region ?_
 refine TL.cr rfl (enters Tryz.func39 rfl rfl) (fun w hw => by
  exact span7_any _ _ _) ?_
 refine TL.m (Mk.al ty_zr36) ?_
 intro b3
 first | refine TL.st ty_sz36 ?_ | refine TL.se ty_sz36 ?_
 refine TL.nil (TQ.thenN (hY3 _ _ ?_))
 refine TW.seq fun Y4 hY4 => ?_
 refine TW.expk [.blk b3 36 [.int .i64 100000, .int .i64 100000]] (fun (⟨b0, x7⟩ : Nat × Nat) => ([(0, .pointer (some ⟨b1, 0, none⟩))] : Fr)) (fun (⟨b0, x7⟩ : Nat × Nat) => [.blk b1 25 [.slice (some ⟨b0, 0, none⟩) 3 3, .slice (some ⟨x7, 0, none⟩) 2 2], .own (some ⟨b0, 0, none⟩) 3 3 170 9 (fun _ => wellL (fun _ => 0)), .blk x7 107 [.int .i64 0, .int .i64 1, .int .i64 100000, .int .i64 100000, .slice (some ⟨b2, 0, none⟩) 1 1, .int .i64 1, .int .i64 2, .int .i64 100000, .int .i64 100000, .slice (some ⟨b2, 0, none⟩) 1 1], .blk b2 104 [.int .i64 0, .int .i64 0, .int .i64 1000, .int .i64 1000]]) ?_ (fun hE => ?_)
 rintro ⟨b0, x7⟩
 refine TQ.thenN (hY4 _ _ ?_)
 refine TW.ret ?_
 refine TQ.ret Tryz.results15 rfl ((RV.cs ty_ag25 .nil)) ?_
 refine fun w hw => ⟨(b0, x7, b2), rfl, ?_⟩
 have h1 := hw.sub (L := exLf (b0, x7, b2)) (KSub.cons pk9 (KSub.ofBlk pk9 rfl (fun i hi => rfl) rfl rfl (KSub.ofBlk pk9 rfl (fun i hi => rfl) rfl rfl KSub.nil)))
 exact Sat.bun (K := []) (by rw [List.append_nil]; exact h1)
 refine RG.tk 1 rfl (Pu.lds ty_ag36) ?_
 refine RG.tk 2 rfl Pu.mv ?_
 refine RG.tk 3 rfl Pu.bd ?_
 refine RG.tk 4 rfl (Pu.lds ty_ag36) ?_
 refine RG.tk 5 rfl Pu.mv ?_
 refine RG.tk 6 rfl Pu.bd ?_
 refine RG.a2 0 7 rfl rfl (fun X0 hX0 => ?_) (fun X7 hX7 => ?_)
 refine TL.ms ty_et22 ty_zr170 ?_
 intro b0
 refine TL.nil ?_
 refine TQ.nxt (hX0 _ _ hl9 ?_)
 refine RG.a1 7 rfl (fun X7 hX7 => ?_)
 refine TL.m Mk.bl ?_
 intro x7
 refine TL.nil ?_
 refine TQ.nxt (hX7 _ _ hl9 ?_)
 refine RG.tk 8 rfl Pu.bd ?_
 refine RG.a1 9 rfl (fun X9 hX9 => ?_)
 first | refine TL.st ty_sz25 ?_ | refine TL.se ty_sz25 ?_
 refine TL.nil ?_
 refine TQ.nxt (hX9 _ _ hl9 ?_)
 exact RG.nil (TQ.sub fs9 kt9 (hE ⟨b0, x7⟩)) (by kernel_rfl)
 refine TL.m Mk.bl ?_
 intro x7
 refine TL.nil ?_
 refine TQ.nxt (hX7 _ _ hl9 ?_)
 refine RG.a1 0 rfl (fun X0 hX0 => ?_)
 refine TL.ms ty_et22 ty_zr170 ?_
 intro b0
 refine TL.nil ?_
 refine TQ.nxt (hX0 _ _ hl9 ?_)
 refine RG.tk 8 rfl Pu.bd ?_
 refine RG.a1 9 rfl (fun X9 hX9 => ?_)
 first | refine TL.st ty_sz25 ?_ | refine TL.se ty_sz25 ?_
 refine TL.nil ?_
 refine TQ.nxt (hX9 _ _ hl9 ?_)
 exact RG.nil (TQ.sub fs9 kt9 (hE ⟨b0, x7⟩)) (by kernel_rfl)
def exCf (x : Nat × Nat) : List Fact := [.own (some ⟨x.1, 0, none⟩) 3 3 70 7 (fun k => claimL (exC k)), .own (some ⟨x.2, 0, none⟩) 1 1 109 4 (fun k => feudL (exD k))]
theorem exCus_in {w : World} {x : Nat × Nat} (h : (bun (exCf x)).holds w) : CustIn w (some ⟨x.1, 0, none⟩) exZ.nc (some ⟨x.2, 0, none⟩) exZ.nd none exZ.nb exZ.c exZ.d exZ.b :=
 ⟨by decide, by decide, by decide, OwnR.rdr (h.now _ (List.mem_cons_self ..)), OwnR.rdr (h.now _ (List.mem_cons_of_mem _ (List.mem_cons_self ..))), ⟨Rd.nil, fun i hi => (by exact absurd hi (Nat.not_lt_zero _))⟩⟩
theorem exPea_in {w : World} {x : Nat × Nat} (h : (bun (exCf x)).holds w) : CustIn w (some ⟨x.1, 0, none⟩) exP.nc none exP.nd none exP.nb exP.c exP.d exP.b :=
 ⟨by decide, by decide, by decide, OwnR.rdr (h.now _ (List.mem_cons_self ..)), ⟨Rd.nil, fun i hi => (by exact absurd hi (Nat.not_lt_zero _))⟩, ⟨Rd.nil, fun i hi => (by exact absurd hi (Nat.not_lt_zero _))⟩⟩
set_option maxRecDepth 100000 in
theorem exCus_any (w : World) : CallsK Tryz.prog 16 #[] [] w (Nat × Nat) (fun x => .agg (custL (some ⟨x.1, 0, none⟩) 3 3 (some ⟨x.2, 0, none⟩) 1 1 none 0 0).toArray) (fun x => [bun (exCf x)]) := by
 unfold custL
 refine K_enter (S := []) (K := []) Tryz.func16 rfl Tryz.ntmps16 rfl (Sat.start _) ?_
 refine TW.seq fun Y1 hY1 => TW.region ?_
 refine TL.m (Mk.al ty_zr30) ?_
 intro b1
 refine TL.nil (TQ.thenN (hY1 _ _ ?_))
 refine TW.seq fun Y2 hY2 => TW.region ?_
 refine TL.p Pu.bd ?_
 refine TL.p Pu.bd ?_
 refine TL.p Pu.bd ?_
 refine TL.m Mk.bl ?_
 intro b2
 refine TL.p Pu.bd ?_
 refine TL.m Mk.bl ?_
 intro b3
 refine TL.p Pu.bd ?_
 first | refine TL.st ty_sz30 ?_ | refine TL.se ty_sz30 ?_
 refine TL.nil (TQ.thenN (hY2 _ _ ?_))
 refine TW.ret ?_
 refine TQ.ret Tryz.results16 rfl ((RV.cs ty_ag30 .nil)) ?_
 refine fun w hw => ⟨(b2, b3), rfl, ?_⟩
 have h1 := hw.sub (L := exCf (b2, b3)) (KSub.ofBlk pk9 rfl (fun i hi => rfl) rfl rfl (KSub.ofBlk pk9 rfl (fun i hi => rfl) rfl rfl KSub.nil))
 exact Sat.bun (K := []) (by rw [List.append_nil]; exact h1)
set_option maxRecDepth 100000 in
theorem exPea_any (w : World) : CallsK Tryz.prog 18 #[] [] w (Nat × Nat) (fun x => .agg (custL (some ⟨x.1, 0, none⟩) 3 3 none 0 0 none 0 0).toArray) (fun x => [bun (exCf x)]) := by
 have fC := fun (w' : World) => exCus_any w'
 unfold custL at fC ⊢
 refine K_enter (S := []) (K := []) Tryz.func18 rfl Tryz.ntmps18 rfl (Sat.start _) ?_
 refine TW.seq fun Y1 hY1 => TW.region ?_
 refine TL.m (Mk.al ty_zr30) ?_
 intro b1
 refine TL.nil (TQ.thenN (hY1 _ _ ?_))
 refine TW.seq fun Y2 hY2 => TW.region ?_
 refine TL.call (M := []) rfl (enters Tryz.func16 rfl rfl) (List.Perm.refl _) rfl (fun w hw => by
  exact fC _) ?_
 rintro ⟨bC, bD⟩
 refine TL.p Pu.fd ?_
 refine TL.p Pu.bd ?_
 first | refine TL.st ty_sz30 ?_ | refine TL.se ty_sz30 ?_
 refine TL.nil (TQ.thenN (hY2 _ _ ?_))
 refine TW.ret ?_
 refine TQ.ret Tryz.results18 rfl ((RV.cs ty_ag30 .nil)) ?_
 exact fun w hw => ⟨(bC, bD), rfl, hw.sub (KSub.cons pk9 KSub.nil)⟩
set_option maxRecDepth 100000 in
theorem exTrp_any {U : Option Addr} {nu cu : Nat} (w : World) : CallsK Tryz.prog 19 #[.slice U nu cu] [] w Nat (fun x => .agg (troopL 10 1000 (some ⟨x, 0, none⟩) 1 1 U nu cu none 0 0).toArray) (fun x => [.own (some ⟨x, 0, none⟩) 1 1 3 1 (fun _ => [.int .i64 4])]) := by
 unfold troopL
 refine K_enter (S := []) (K := []) Tryz.func19 rfl Tryz.ntmps19 rfl (Sat.start _) ?_
 refine TW.seq fun Y1 hY1 => TW.region ?_
 refine TL.m (Mk.al ty_zr33) ?_
 intro b1
 refine TL.nil (TQ.thenN (hY1 _ _ ?_))
 refine TW.seq fun Y2 hY2 => TW.region ?_
 refine TL.m Mk.bl ?_
 intro b2
 refine TL.p Pu.mv ?_
 refine TL.p Pu.bd ?_
 first | refine TL.st ty_sz33 ?_ | refine TL.se ty_sz33 ?_
 refine TL.nil (TQ.thenN (hY2 _ _ ?_))
 refine TW.ret ?_
 refine TQ.ret Tryz.results19 rfl ((RV.cs ty_ag33 .nil)) ?_
 exact fun w hw => ⟨b2, rfl, hw.sub (KSub.ofBlk pk9 rfl (fun i hi => rfl) rfl rfl KSub.nil)⟩
theorem exTrp_in {w : World} {b : Nat} (h : (Fact.own (some ⟨b, 0, none⟩) 1 1 3 1 (fun _ => [.int .i64 4])).holds w) : TrpIn w exT (some ⟨b, 0, none⟩) none none :=
 ⟨by decide, by decide, by decide, OwnR.rdr h, ⟨Rd.nil, fun i hi => (by exact absurd hi (Nat.not_lt_zero _))⟩, ⟨Rd.nil, fun i hi => (by exact absurd hi (Nat.not_lt_zero _))⟩⟩
end Go.Proofs.YtfaenhhgkhcghaaGreatDoor
namespace Go.Proofs.YtfaenhhgkhcghaaGreatDoor
set_option linter.all false
set_option linter.unusedVariables false
set_option linter.unusedSimpArgs false
open Go.RowKit
theorem CallsK.to {P : Program} {f : FuncId} {args : Array Value} {M : List Fact} {w : World} {X : Type} {val val2 : X → Value} {L L2 : X → List Fact} (h : CallsK P f args M w X val L) (hv : ∀ x, val x = val2 x) (hL : ∀ x, KSub (L x) (L2 x)) : CallsK P f args M w X val2 L2 :=
 h.mono fun _ _ ⟨x, e, hs⟩ => ⟨x, by rw [e, hv], hs.sub (hL x)⟩
section
variable {w : World} {x : Nat × Nat × Nat} {y : Nat × Nat} {b bl bf : Nat}
abbrev exLa (x : Nat × Nat × Nat) : Value := .agg (landL (some ⟨x.1, 0, none⟩) 3 3 (some ⟨x.2.1, 0, none⟩) 2 2).toArray
abbrev exCa (y : Nat × Nat) : Value := .agg (custL (some ⟨y.1, 0, none⟩) 3 3 (some ⟨y.2, 0, none⟩) 1 1 none 0 0).toArray
abbrev exPa (y : Nat × Nat) : Value := .agg (custL (some ⟨y.1, 0, none⟩) 3 3 none 0 0 none 0 0).toArray
abbrev exTa (b : Nat) : Value := .agg (troopL 10 1000 (some ⟨b, 0, none⟩) 1 1 none 0 0 none 0 0).toArray
abbrev exTo (b : Nat) : Fact := .own (some ⟨b, 0, none⟩) 1 1 3 1 (fun _ => [.int .i64 4])
theorem exLegs {E : TypeId} (h : Blk w bl E #[.int .i64 0, .int .i64 1]) : RdR w 1 (some ⟨bl, 0, none⟩) exY.n (fun k => [.int .i64 (exY.ls k)]) := RdR.blk (cs := [.int .i64 0, .int .i64 1]) (n := 2) (sz := 1) h rfl (fun _ _ => rfl)
set_option maxRecDepth 100000 in
theorem exHold (hL : (bun (exLf x)).holds w) (hC : (bun (exCf y)).holds w) : Calls Tryz.prog 14 #[exLa x, exCa y, .int .i64 0, .int .i64 12] w (Ret w (.tuple #[.int .i64 0, .int .i64 0])) := by
 have h := tollHolder_tw (x := exY.x) (a := fun _ => some ⟨x.2.2, 0, none⟩) (e := fun _ => 1) (cw := 3) (cl := 2) (cc := 3) (cd := 1) (cb := 0) 0 12 (exLand_in hL) (exCus_in hC)
 rw [show holdA (checkC exY.nw exY.nl exY.f exY.x exY.g exZ.nc exZ.nd exZ.nb exZ.c exZ.d exZ.b) exY.nl 0 12 (hb 0 12 exZ.c exZ.nc) = 0 from eHold.1, show holdE (checkC exY.nw exY.nl exY.f exY.x exY.g exZ.nc exZ.nd exZ.nb exZ.c exZ.d exZ.b) exY.nl 0 12 = 0 from eHold.2] at h
 exact h
set_option maxRecDepth 100000 in
theorem exBarr {E : TypeId} (hL : (bun (exLf x)).holds w) (hC : (bun (exCf y)).holds w) (hT : (exTo b).holds w) (hl : Blk w bl E #[.int .i64 0, .int .i64 1]) (hG : OldB w 0 barsL) : Calls Tryz.prog 17 #[exLa x, exCa y, exTa b, .int .i64 0, .int .i64 10, .agg #[.int .i64 20000, .int .i64 25000], .slice (some ⟨bl, 0, none⟩) 2 2] w (Ret w (.tuple #[.int .u8 2, .int .i64 0, .int .i64 0])) := by
 have h := tollBarred_tw (Y := exY) (Z := exZ) (T := exT) (a := fun _ => some ⟨x.2.2, 0, none⟩) (e := fun _ => 1) (cw := 3) (cl := 2) (cn := 2) (cc := 3) (cd := 1) (cb := 0) (co := 1) (cu := 0) (cv := 0) (exLand_in hL) (by decide) (exLegs hl) (exCus_in hC) (exTrp_in hT) hG
 rw [eBar.1, eBar.2] at h
 exact h
set_option maxRecDepth 100000 in
theorem exDues {E : TypeId} (hL : (bun (exLf x)).holds w) (hC : (bun (exCf y)).holds w) (hT : (exTo b).holds w) (hl : Blk w bl E #[.int .i64 0, .int .i64 1]) : CallsK Tryz.prog 22 #[exLa x, exCa y, exTa b, .int .i64 0, .int .i64 10, .agg #[.int .i64 20000, .int .i64 25000], .slice (some ⟨bl, 0, none⟩) 2 2] [] w (Option Addr × Nat) (fun z => .tuple #[.slice z.1 2 z.2, .agg #[.int .i64 50, .int .i64 60], .int .i64 0]) (fun z => [.own z.1 2 z.2 98 4 (rowsT [(0, 1, 50, 50), (1, 3, 0, 10)])]) := by
 have h := tollDue_tw (Y := exY) (Z := exZ) (T := exT) (a := fun _ => some ⟨x.2.2, 0, none⟩) (e := fun _ => 1) (cw := 3) (cl := 2) (cn := 2) (cc := 3) (cd := 1) (cb := 0) (co := 1) (cu := 0) (cv := 0) (exLand_in hL) (by decide) (exLegs hl) (exCus_in hC) (exTrp_in hT)
 refine h.to (fun z => ?_) (fun z => ?_)
 · unfold dueV
   rw [eDue.1, eDue.2.1, eDue.2.2, eBar.2]
   rfl
 · unfold dueK
   rw [eDue.1]
   exact KSub.refl _
theorem tollHire_tw {Y : Wy} {Z : Cus} {T : Trp} {E : Fes} {W A L C D B O U V G : Option Addr} {cw cl cn cc cd cb co cu cv cg : Nat} {a : Nat → Option Addr} {e : Nat → Nat} (hL : LandIn w W Y.nw A Y.nl Y.f (fun k => lgA (Y.x k) (a k) (e k)) Y.g) (hn : Y.n ≤ 1000) (hR : RdR w 1 L Y.n (fun k => [.int .i64 (Y.ls k)])) (h : CustIn w C Z.nc D Z.nd B Z.nb Z.c Z.d Z.b) (t : TrpIn w T O U V) (hG : OldB w 0 barsL) (hnf : E.nf ≤ 1000) (hE : RdR w 2 G E.nf (feeL E)) :
  CallsK Tryz.prog 7 #[.agg (landL W Y.nw cw A Y.nl cl).toArray, .agg (custL C Z.nc cc D Z.nd cd B Z.nb cb).toArray, .agg (troopL T.hd T.wo O T.no co U T.nu cu V T.nv cv).toArray, .slice G E.nf cg, .int .i64 Y.start, .int .i64 Y.day, .agg #[.int .i64 Y.p0, .int .i64 Y.p1], .slice L Y.n cn] [] w (Option Addr × Nat) (hirA Y Z T E) (hirF Y Z T E) :=
 tollHire_any (Y := Yt Y a e) hL hn hR h t hG hnf hE
set_option maxRecDepth 100000 in
theorem exHire {E E2 : TypeId} (hL : (bun (exLf x)).holds w) (hC : (bun (exCf y)).holds w) (hT : (exTo b).holds w) (hl : Blk w bl E #[.int .i64 0, .int .i64 1]) (hf : Blk w bf E2 #[.int .i64 1, .int .i64 20, .int .i64 2, .int .i64 30]) (hG : OldB w 0 barsL) : CallsK Tryz.prog 7 #[exLa x, exPa y, exTa b, .slice (some ⟨bf, 0, none⟩) 2 2, .int .i64 0, .int .i64 10, .agg #[.int .i64 20000, .int .i64 25000], .slice (some ⟨bl, 0, none⟩) 2 2] [] w (Option Addr × Nat) (fun z => .tuple #[.slice z.1 1 z.2, .int .i64 30, .int .i64 0]) (fun z => [.own z.1 1 z.2 3 1 (iL [2])]) := by
 have h := tollHire_tw (Y := exY) (Z := exP) (T := exT) (E := exE) (a := fun _ => some ⟨x.2.2, 0, none⟩) (e := fun _ => 1) (cw := 3) (cl := 2) (cn := 2) (cc := 3) (cd := 0) (cb := 0) (co := 1) (cu := 0) (cv := 0) (cg := 2) (exLand_in hL) (by decide) (exLegs hl) (exPea_in hC) (exTrp_in hT) hG (by decide) (RdR.blk (cs := [.int .i64 1, .int .i64 20, .int .i64 2, .int .i64 30]) (n := 2) (sz := 2) hf rfl (fun _ _ => rfl))
 refine h.to (fun z => ?_) (fun z => ?_)
 · unfold hirA
   rw [eHir.1, eHir.2.1, eHir.2.2]
   rfl
 · unfold hirF
   rw [eHir.1]
   exact KSub.refl _
set_option maxRecDepth 100000 in
theorem exDisp (hL : (bun (exLf x)).holds w) (hC : (bun (exCf y)).holds w) : CallsK Tryz.prog 21 #[exLa x, exCa y] [] w (Option Addr × Nat) (fun z => .tuple #[.slice z.1 1 z.2, .int .i64 0]) (fun z => [.own z.1 1 z.2 100 2 (rowsP [(0, 1)])]) := by
 have h := tollDisputes_tw (x := exY.x) (a := fun _ => some ⟨x.2.2, 0, none⟩) (e := fun _ => 1) (cw := 3) (cl := 2) (cc := 3) (cd := 1) (cb := 0) (exLand_in hL) (exCus_in hC) (by decide)
 have e1 : disL (checkC exY.nw exY.nl exY.f exY.x exY.g exZ.nc exZ.nd exZ.nb exZ.c exZ.d exZ.b) exZ.nc exZ.c = [(0, 1)] := eDis.1
 have e2 : checkC exY.nw exY.nl exY.f exY.x exY.g exZ.nc exZ.nd exZ.nb exZ.c exZ.d exZ.b = 0 := eDis.2
 refine h.to (fun z => ?_) (fun z => ?_)
 · rw [e1, e2]
   rfl
 · rw [e1]
   exact KSub.refl _
set_option maxRecDepth 100000 in
set_option maxHeartbeats 4000000 in
theorem alive_any (hG : OldB w 0 barsL) : Calls Tryz.prog 13 #[] w (Ret w (.bool true)) := by
 have fL := fun (w' : World) => exLand_any w'
 have fC := fun (w' : World) => exCus_any w'
 have fP := fun (w' : World) => exPea_any w'
 have fT := fun (w' : World) => exTrp_any (U := none) (nu := 0) (cu := 0) w'
 refine K_enter (S := []) (K := []) Tryz.func13 rfl Tryz.ntmps13 rfl (Sat.start _) ?_
 refine TW.seq fun Y1 hY1 => TW.region ?_
 refine TL.p Pu.as ?_
 refine TL.nil (TQ.thenN (hY1 _ _ ?_))
 refine TW.seq fun Y2 hY2 => TW.region ?_
 refine TL.call (M := []) rfl (enters Tryz.func15 rfl rfl) (List.Perm.refl _) rfl (fun w hw => by
  exact fL _) ?_
 rintro x1
 dsimp only [List.cons_append, List.nil_append]
 refine TL.call (M := []) rfl (enters Tryz.func16 rfl rfl) (List.Perm.refl _) rfl (fun w hw => by
  exact fC _) ?_
 rintro y1
 dsimp only [List.cons_append, List.nil_append]
 refine TL.cr rfl (enters Tryz.func14 rfl rfl) (fun w hw => by
  exact exHold (x := x1) (y := y1) (hw.holds _ (by simp)) (hw.holds _ (by simp))) ?_
 refine TL.p Pu.mv ?_
 refine TL.p Pu.ex ?_
 refine TL.p Pu.ex ?_
 refine TL.p Pu.as ?_
 refine TL.p Pu.as ?_
 refine TL.nil (TQ.thenN (hY2 _ _ ?_))
 refine TW.seq fun Y3 hY3 => TW.region ?_
 refine TL.call (M := []) rfl (enters Tryz.func15 rfl rfl) (List.Perm.refl _) rfl (fun w hw => by
  exact fL _) ?_
 rintro x2
 dsimp only [List.cons_append, List.nil_append]
 refine TL.call (M := []) rfl (enters Tryz.func16 rfl rfl) (List.Perm.refl _) rfl (fun w hw => by
  exact fC _) ?_
 rintro y2
 dsimp only [List.cons_append, List.nil_append]
 refine TL.call (M := []) rfl (enters Tryz.func19 rfl rfl) (List.Perm.refl _) rfl (fun w hw => by
  exact fT _) ?_
 rintro z2
 dsimp only [List.cons_append, List.nil_append]
 refine TL.cr rfl (enters Tryz.func20 rfl rfl) (fun w hw => by
  exact speed_any _) ?_
 refine TL.m Mk.bl ?_
 intro b1
 refine TL.cr rfl (enters Tryz.func17 rfl rfl) (fun w hw => by
  exact exBarr (x := x2) (y := y2) (b := z2) (hw.holds _ (by simp)) (hw.holds _ (by simp)) (hw.holds _ (by simp)) (hw.holds _ (List.mem_cons_self ..)) (hG.ext (Chg.ext hw.chg))) ?_
 refine TL.p Pu.mv ?_
 refine TL.p Pu.ex ?_
 refine TL.p Pu.ex ?_
 refine TL.p Pu.ex ?_
 refine TL.p Pu.as ?_
 refine TL.p Pu.as ?_
 refine TL.p Pu.as ?_
 refine TL.nil (TQ.thenN (hY3 _ _ ?_))
 refine TW.seq fun Y4 hY4 => TW.region ?_
 refine TL.call (M := []) rfl (enters Tryz.func15 rfl rfl) (List.Perm.refl _) rfl (fun w hw => by
  exact fL _) ?_
 rintro x3
 dsimp only [List.cons_append, List.nil_append]
 refine TL.call (M := []) rfl (enters Tryz.func16 rfl rfl) (List.Perm.refl _) rfl (fun w hw => by
  exact fC _) ?_
 rintro y3
 dsimp only [List.cons_append, List.nil_append]
 refine TL.call (M := []) rfl (enters Tryz.func19 rfl rfl) (List.Perm.refl _) rfl (fun w hw => by
  exact fT _) ?_
 rintro z3
 dsimp only [List.cons_append, List.nil_append]
 refine TL.cr rfl (enters Tryz.func20 rfl rfl) (fun w hw => by
  exact speed_any _) ?_
 refine TL.m Mk.bl ?_
 intro b2
 refine TL.call (M := []) rfl (enters Tryz.func22 rfl rfl) (List.Perm.refl _) rfl (fun w hw => by
  exact exDues (x := x3) (y := y3) (b := z3) (hw.holds _ (by simp)) (hw.holds _ (by simp)) (hw.holds _ (by simp)) (hw.holds _ (List.mem_cons_self ..))) ?_
 rintro ⟨P1, p1⟩
 dsimp only [List.cons_append, List.nil_append]
 refine TL.p Pu.mv ?_
 refine TL.p Pu.ex ?_
 refine TL.p Pu.ex ?_
 refine TL.p Pu.ex ?_
 refine TL.m (Mk.al ty_zr36) ?_
 intro b3
 refine TL.p Pu.as ?_
 first | refine TL.st ty_sz36 ?_ | refine TL.se ty_sz36 ?_
 refine TL.p Pu.as ?_
 refine TL.nil (TQ.thenN (hY4 _ _ ?_))
 refine TW.seq fun Y5 hY5 => TW.region ?_
 refine TL.call (M := []) rfl (enters Tryz.func15 rfl rfl) (List.Perm.refl _) rfl (fun w hw => by
  exact fL _) ?_
 rintro x4
 dsimp only [List.cons_append, List.nil_append]
 refine TL.call (M := []) rfl (enters Tryz.func18 rfl rfl) (List.Perm.refl _) rfl (fun w hw => by
  exact fP _) ?_
 rintro y4
 dsimp only [List.cons_append, List.nil_append]
 refine TL.call (M := []) rfl (enters Tryz.func19 rfl rfl) (List.Perm.refl _) rfl (fun w hw => by
  exact fT _) ?_
 rintro z4
 dsimp only [List.cons_append, List.nil_append]
 refine TL.p Pu.bd ?_
 refine TL.p Pu.bd ?_
 refine TL.m Mk.bl ?_
 intro b4
 refine TL.cr rfl (enters Tryz.func20 rfl rfl) (fun w hw => by
  exact speed_any _) ?_
 refine TL.m Mk.bl ?_
 intro b5
 refine TL.call (M := []) rfl (enters Tryz.func7 rfl rfl) (List.Perm.refl _) rfl (fun w hw => by
  exact exHire (x := x4) (y := y4) (b := z4) (hw.holds _ (by simp)) (hw.holds _ (by simp)) (hw.holds _ (by simp)) (hw.holds _ (List.mem_cons_self ..)) (hw.holds _ (List.mem_cons_of_mem _ (List.mem_cons_self ..))) (hG.ext (Chg.ext hw.chg))) ?_
 rintro ⟨P2, p2⟩
 dsimp only [List.cons_append, List.nil_append]
 refine TL.p Pu.mv ?_
 refine TL.p Pu.ex ?_
 refine TL.p Pu.ex ?_
 refine TL.p Pu.ex ?_
 refine TL.p Pu.as ?_
 refine TL.p Pu.as ?_
 refine TL.p Pu.as ?_
 refine TL.nil (TQ.thenN (hY5 _ _ ?_))
 refine TW.seq fun Y6 hY6 => TW.region ?_
 refine TL.call (M := []) rfl (enters Tryz.func15 rfl rfl) (List.Perm.refl _) rfl (fun w hw => by
  exact fL _) ?_
 rintro x5
 dsimp only [List.cons_append, List.nil_append]
 refine TL.call (M := []) rfl (enters Tryz.func16 rfl rfl) (List.Perm.refl _) rfl (fun w hw => by
  exact fC _) ?_
 rintro y5
 dsimp only [List.cons_append, List.nil_append]
 refine TL.call (M := []) rfl (enters Tryz.func21 rfl rfl) (List.Perm.refl _) rfl (fun w hw => by
  exact exDisp (x := x5) (y := y5) (hw.holds _ (by simp)) (hw.holds _ (by simp))) ?_
 rintro ⟨P3, p3⟩
 dsimp only [List.cons_append, List.nil_append]
 refine TL.p Pu.mv ?_
 refine TL.p Pu.ex ?_
 refine TL.p Pu.ex ?_
 refine TL.p Pu.as ?_
 refine TL.p Pu.as ?_
 refine TL.nil (TQ.thenN (hY6 _ _ ?_))
 refine TW.seq fun Y7 hY7 => ?_
 refine TW.dw 60 ?_
 refine RK.tk Pu.mv ?_
 refine RK.tk Pu.eq ?_
 refine RK.tk Pu.mv ?_
 refine RK.tk Pu.mv ?_
 refine RK.tk Pu.eq ?_
 refine RK.tk Pu.kt ?_
 refine RK.tk Pu.mv ?_
 refine RK.tk Pu.mv ?_
 refine RK.tk Pu.eq ?_
 refine RK.tk Pu.kt ?_
 refine RK.tk Pu.mv ?_
 refine RK.tk Pu.mv ?_
 refine RK.tk Pu.eq ?_
 refine RK.tk Pu.kt ?_
 refine RK.tk Pu.mv ?_
 refine RK.tk Pu.mv ?_
 refine RK.tk Pu.eq ?_
 refine RK.tk Pu.kt ?_
 refine RK.tk Pu.mv ?_
 refine RK.tk Pu.mv ?_
 refine RK.tk Pu.eq ?_
 refine RK.tk Pu.kt ?_
 refine RK.tk Pu.mv ?_
 refine RK.tk Pu.mv ?_
 refine RK.keep ?_
 refine RK.keep ?_
 refine RK.keep ?_
 refine RK.keep ?_
 refine RK.keep ?_
 refine RK.keep ?_
 refine RK.keep ?_
 refine RK.keep ?_
 refine RK.keep ?_
 refine RK.keep ?_
 refine RK.keep ?_
 refine RK.keep ?_
 refine RK.keep ?_
 refine RK.keep ?_
 refine RK.keep ?_
 refine RK.keep ?_
 refine RK.keep ?_
 refine RK.keep ?_
 refine RK.keep ?_
 refine RK.keep ?_
 refine RK.keep ?_
 refine RK.keep ?_
 refine RK.keep ?_
 refine RK.keep ?_
 refine RK.keep ?_
 refine RK.keep ?_
 refine RK.keep ?_
 refine RK.keep ?_
 refine RK.keep ?_
 refine RK.keep ?_
 refine RK.keep ?_
 refine RK.keep ?_
 refine RK.keep ?_
 refine RK.keep ?_
 refine RK.keep ?_
 refine RK.keep ?_
 refine RK.ch [false, true, false, true, false, false, true, true, true, false, true, true, true, true, true, true, true, true, true, true, true, true, false, false, true, true, true, true, true, true, true, true, false, false, true, true] ?_ trivial
 refine WK.cr rfl (enters Tryz.func39 rfl rfl) (fun w hw => by
  exact span7_any _ _ _) ?_
 refine WK.p Pu.bd ?_
 refine WK.cr rfl (enters Tryz.func39 rfl rfl) (fun w hw => by
  exact span7_any _ _ _) ?_
 refine WK.p Pu.bd ?_
 refine WK.gm Mk.bl ?_
 intro b6
 refine WK.cr rfl (enters Tryz.func38 rfl rfl) (fun w hw => by
  exact sameTolls_any (L := [(0, 1, 50, 50), (1, 3, 0, 10)]) (by decide) (OwnR.rdr (hw.holds (.own P1 2 p1 98 4 (rowsT [(0, 1, 50, 50), (1, 3, 0, 10)])) (by simp))) (RdR.blk (cs := [.int .i64 0, .int .i64 1, .int .i64 50, .int .i64 50, .int .i64 1, .int .i64 3, .int .i64 0, .int .i64 10]) (n := 2) (sz := 4) (hw.holds _ (List.mem_cons_self ..)) rfl (fun _ _ => rfl))) ?_
 refine WK.p Pu.kt ?_
 refine WK.p Pu.mv ?_
 refine WK.p (Pu.lds ty_ag36) ?_
 refine WK.cr rfl (enters Tryz.func39 rfl rfl) (fun w hw => by
  exact span7_any _ _ _) ?_
 refine WK.p (Pu.q2 ty_q2_36) ?_
 refine WK.lit (t := 93) (b' := true) rfl ((by simp)) ?_
 refine WK.p Pu.kt ?_
 refine WK.p Pu.mv ?_
 refine WK.p Pu.mv ?_
 refine WK.p Pu.eq ?_
 refine WK.lit (t := 97) (b' := true) rfl (rfl) ?_
 refine WK.p Pu.kt ?_
 refine WK.p Pu.mv ?_
 refine WK.p Pu.mv ?_
 refine WK.p Pu.eq ?_
 refine WK.lit (t := 101) (b' := true) rfl (rfl) ?_
 refine WK.p Pu.kt ?_
 refine WK.p Pu.mv ?_
 refine WK.p Pu.mv ?_
 refine WK.gm Mk.bl ?_
 intro b7
 refine WK.cr rfl (enters Tryz.func11 rfl rfl) (fun w hw => by
  exact same3_true (n := 1) (v := fun k => ([2] : List Int).getD k 0) (by decide) (OwnR.rdr (hw.holds (.own P2 1 p2 3 1 (iL [2])) (by simp))) (RdR.blk (cs := [.int .i64 2]) (n := 1) (sz := 1) (hw.holds _ (List.mem_cons_self ..)) rfl (fun _ _ => rfl))) ?_
 refine WK.p Pu.kt ?_
 refine WK.p Pu.mv ?_
 refine WK.p Pu.mv ?_
 refine WK.p Pu.eq ?_
 refine WK.lit (t := 110) (b' := true) rfl (rfl) ?_
 refine WK.p Pu.kt ?_
 refine WK.p Pu.mv ?_
 refine WK.p Pu.mv ?_
 refine WK.p Pu.bd ?_
 refine WK.gm Mk.bl ?_
 intro b8
 refine WK.cr rfl (enters Tryz.func40 rfl rfl) (fun w hw => by
  exact samePairs_any (n := 1) (v := fun k => ([(0, 1)] : List (Int × Int)).getD k (0, 0)) (by decide) (OwnR.rdr (hw.holds (.own P3 1 p3 100 2 (rowsP [(0, 1)])) (by simp))) (RdR.blk (cs := [.int .i64 0, .int .i64 1]) (n := 1) (sz := 2) (hw.holds _ (List.mem_cons_self ..)) rfl (fun _ _ => rfl))) ?_
 refine WK.p Pu.kt ?_
 refine WK.p Pu.as ?_
 refine WK.n ?_
 refine TL.nil (TQ.thenN (hY7 _ _ ?_))
 refine TW.ret ?_
 refine TQ.ret Tryz.results13 rfl ((.tmp rfl .nil)) ?_
 exact fun w hw => Ret.of hw
end
end Go.Proofs.YtfaenhhgkhcghaaGreatDoor
namespace Go.Proofs.YtfaenhhgkhcghaaGreatDoor
set_option linter.all false
set_option linter.unusedVariables false
set_option linter.unusedSimpArgs false
open Go.RowKit Go.MapKept
abbrev Gl := List (Int × Value × Nat)
def entG (kk : IntKind) (x : Int × Value × Nat) : MapEntry := { key := .int kk x.1, val := x.2.1, born := x.2.2 }
def gO (kk : IntKind) (t : Gl) (n : Nat) : Obj := .map (t.map (entG kk)).toArray n
def gl (t : Gl) : List (Int × Value) := t.map fun x => (x.1, x.2.1)
def mdel (i : Int) : List (Int × Value) → List (Int × Value)
 | [] => []
 | (k, u) :: l => if i = k then l else (k, u) :: mdel i l
theorem findNow_entG (kk : IntKind) (i : Int) : ∀ (t : Gl) (q : Nat), Instr.findNow (.int kk) (.int kk i) (t.map (entG kk)) q = some (mfind i q (gl t))
  | [], _ => rfl
  | (k, v, s) :: l, q => by
    by_cases h : i = k
    · subst h; simp [entG, gl, Instr.findNow, Instr.sameNow, mfind]
    · have hb : (i == k) = false := by simpa using h
      have ih := findNow_entG kk i l (q + 1)
      simp only [List.map_cons, gl] at ih ⊢
      simp [entG, Instr.findNow, Instr.sameNow, mfind, h, hb]
      simpa [entG] using ih
theorem mfind_at {i : Int} {u : Value} : ∀ {t : Gl} {q p : Nat}, mfind i q (gl t) = some (q + p, u) → ∃ b, t[p]? = some (i, u, b) ∧ gl (t.eraseIdx p) = mdel i (gl t) ∧ ∀ v, gl (t.modify p fun x => (i, v, x.2.2)) = mput i v (gl t)
  | [], _, _, h => by simp [gl, mfind] at h
  | (k, w, s) :: l, q, p, h => by
    by_cases hk : i = k
    · simp [gl, mfind, hk] at h
      obtain ⟨h1, h2⟩ := h
      subst h1 h2 hk
      exact ⟨s, by simp, by simp [gl, mdel], fun v => by simp [gl, mput]⟩
    · have h' : mfind i (q + 1) (gl l) = some (q + p, u) := by simpa [gl, mfind, hk] using h
      have hp : 0 < p := by
        have := mput_some.mfind_ge h'
        omega
      obtain ⟨p', rfl⟩ : ∃ p', p = p' + 1 := ⟨p - 1, by omega⟩
      rw [show q + (p' + 1) = (q + 1) + p' by omega] at h'
      obtain ⟨b, h1, h2, h3⟩ := mfind_at h'
      refine ⟨b, by simpa using h1, ?_, fun v => ?_⟩
      · simp only [List.eraseIdx_cons_succ]
        show (k, w) :: gl (l.eraseIdx p') = mdel i ((k, w) :: gl l)
        rw [h2]; simp [mdel, hk]
      · simp only [List.modify_succ_cons]
        show (k, w) :: gl (l.modify p' _) = mput i v ((k, w) :: gl l)
        rw [h3 v]; simp [mput, hk]
theorem mput_no {i : Int} {v : Value} : ∀ {l : List (Int × Value)} {q : Nat}, mfind i q l = none → mput i v l = l ++ [(i, v)]
  | [], _, _ => rfl
  | (k, u) :: l, q, h => by
    by_cases hk : i = k
    · simp [mfind, hk] at h
    · have h' : mfind i (q + 1) l = none := by simpa [mfind, hk] using h
      simp [mput, hk, mput_no h']
theorem mdel_no {i : Int} : ∀ {l : List (Int × Value)} {q : Nat}, mfind i q l = none → mdel i l = l
  | [], _, _ => rfl
  | (k, u) :: l, q, h => by
    by_cases hk : i = k
    · simp [mfind, hk] at h
    · have h' : mfind i (q + 1) l = none := by simpa [mfind, hk] using h
      simp [mdel, hk, mdel_no h']
theorem erase_map {α β : Type} (f : α → β) : ∀ (l : List α) (p : Nat), (l.map f).eraseIdx p = (l.eraseIdx p).map f
 | [], _ => rfl
 | _ :: _, 0 => rfl
 | x :: l, p + 1 => by simp [erase_map f l p]
theorem run_getObj_g {P : Program} {w : World} {b n : Nat} {kk : IntKind} {t : Gl} (hb : w.heap[b]? = some (gO kk t n)) : (getObj b).run P w = .ok (.map (t.map (entG kk)).toArray n) w := by
 unfold gO at hb
 exact Go.MapKept.run_getObj_map hb
theorem run_setObj_g {P : Program} {w : World} {b n : Nat} {kk : IntKind} {t : Gl} (o : Obj) (hb : w.heap[b]? = some (gO kk t n)) : (setObj b o).run P w = .ok () { w with heap := w.heap.setIfInBounds b o } := by
 unfold gO at hb
 exact Go.MapKept.run_setObj_map o hb
theorem run_lookup_g {P : Program} {T kt et : TypeId} {kk : IntKind} {w : World} {b n : Nat} {t : Gl} {i : Int} {z : Value} (hT : MapT P T kt et kk) (hb : w.heap[b]? = some (gO kk t n)) (hz : (zeroValue et).run P w = .ok z w) (ok : Bool) :
  (Instr.lookup T (.map (some b)) (.int kk i) ok).run P w = .ok (if ok then .tuple #[(mlook i (gl t)).getD z, .bool (mlook i (gl t)).isSome] else (mlook i (gl t)).getD z) w := by
 have h0 := findNow_entG kk i t 0
 have hf : (Instr.findKey kt (.int kk i) (t.map (entG kk))).run P w = .ok (mfind i 0 (gl t)) w := run_findKey hT.key h0
 have hl := mfind_look i (gl t) 0
 unfold Instr.lookup
 simp only [Sem.run_bind, run_underlying hT.map, Result.andThen_ok, run_getObj_g hb, Sem.run_pure, run_checkKey hT.key (isKey_int kk i), hf]
 cases hm : mfind i 0 (gl t) with
 | none =>
  rw [hm] at hl
  have hl' : mlook i (gl t) = none := by simpa using hl.symm
  simp [hz, hl', Result.andThen_ok]
 | some x =>
  rw [hm] at hl
  have hl' : mlook i (gl t) = some x.2 := by simpa using hl.symm
  simp [hl', Result.andThen_ok]
theorem run_mapUpdate_g {P : Program} {T kt et : TypeId} {kk : IntKind} {w : World} {b n : Nat} {t : Gl} {i : Int} {v : Value} (hT : MapT P T kt et kk) (hb : w.heap[b]? = some (gO kk t n)) :
  ∃ t' n', gl t' = mput i v (gl t) ∧ (Instr.mapUpdate T (.map (some b)) (.int kk i) v).run P w = .ok () { w with heap := w.heap.setIfInBounds b (gO kk t' n') } := by
 have h0 := findNow_entG kk i t 0
 have hf : (Instr.findKey kt (.int kk i) (t.map (entG kk))).run P w = .ok (mfind i 0 (gl t)) w := run_findKey hT.key h0
 unfold Instr.mapUpdate
 simp only [Sem.run_bind, run_underlying hT.map, Result.andThen_ok, run_getObj_g hb, run_checkKey hT.key (isKey_int kk i), hf]
 cases hm : mfind i 0 (gl t) with
 | none =>
  refine ⟨t ++ [(i, v, n)], n + 1, by rw [mput_no hm]; simp [gl], ?_⟩
  simp only [run_setObj_g _ hb]
  unfold gO
  simp [entG]
 | some x =>
  obtain ⟨p, u⟩ := x
  obtain ⟨c, h3, _, h4⟩ := mfind_at (q := 0) (p := p) (by rw [hm, Nat.zero_add])
  refine ⟨_, n, h4 v, ?_⟩
  have hk : ((((t.map (entG kk)).toArray[p]?).map (·.key)).getD (Value.int kk i)) = .int kk i := by simp [h3, entG]
  have hkeep : (Instr.keyThatStays (.int kk i) (.int kk i)).run P w = .ok (.int kk i) w := by simp [Instr.keyThatStays, Instr.sameBits]
  simp only [hk, hkeep, Sem.run_bind, Result.andThen_ok, run_setObj_g _ hb]
  have e : (t.map (entG kk)).modify p (fun e => { e with key := .int kk i, val := v }) = (t.modify p fun x => (i, v, x.2.2)).map (entG kk) := by
   apply List.ext_getElem?
   intro j
   simp only [List.getElem?_map, List.getElem?_modify]
   by_cases hj : p = j <;> cases t[j]? <;> simp [hj, entG]
  unfold gO
  simp [← e]
theorem run_delete_g {P : Program} {T kt kt' et ty : TypeId} {kk : IntKind} {w : World} {b n : Nat} {t : Gl} {i : Int} (hT : MapT P T kt et kk) (hb : w.heap[b]? = some (gO kk t n)) :
  ∃ t', gl t' = mdel i (gl t) ∧ (Builtin.delete_ #[T, kt'] ty #[.map (some b), .int kk i]).run P w = .ok (.tuple #[]) { w with heap := w.heap.setIfInBounds b (gO kk t' n) } := by
 have h0 := findNow_entG kk i t 0
 have hf : (Instr.findKey kt (.int kk i) (t.map (entG kk))).run P w = .ok (mfind i 0 (gl t)) w := run_findKey hT.key h0
 cases hm : mfind i 0 (gl t) with
 | none =>
  refine ⟨t, (mdel_no hm).symm, ?_⟩
  rw [hm] at hf
  simp [Builtin.delete_, run_underlying hT.map, run_getObj_g hb, run_checkKey hT.key (isKey_int kk i), hf, run_setObj_g _ hb, Result.andThen, gO]
 | some x =>
  obtain ⟨p, u⟩ := x
  obtain ⟨c, h3, h4, _⟩ := mfind_at (q := 0) (p := p) (by rw [hm, Nat.zero_add])
  refine ⟨_, h4, ?_⟩
  rw [hm] at hf
  have hp : p < (t.map (entG kk)).toArray.size := by
   have := (List.getElem?_eq_some_iff.1 h3).1
   simpa using this
  have e : (t.map (entG kk)).toArray.eraseIdxIfInBounds p = ((t.eraseIdx p).map (entG kk)).toArray := by
   unfold Array.eraseIdxIfInBounds
   rw [dif_pos hp]
   simp [erase_map]
  simp [Builtin.delete_, run_underlying hT.map, run_getObj_g hb, run_checkKey hT.key (isKey_int kk i), hf, run_setObj_g _ hb, Result.andThen, gO, erase_map]
section
variable {c : Cx} {Q : Exit → Act → World → Prop} {F F' : Fr} {K K' K0 : List Fact} {ops : Array Oper} {rest : List Oper} {d : Option Tmp} {ty : TypeId} {pos : String} {af : Array Edge} {g : Option (Nat × Bool)} {k fuel t nf : Nat}
theorem TL.mmG {T : TypeId} {kk : IntKind} (h : ∀ b, TL c ops Q rest ((t, .map (some b)) :: F) (.obj b (gO kk [] 0) :: K)) (hd : Nat.blt t c.n = true := by rfl) : TL c ops Q (⟨some t, .makeMap T none, ty, pos, af, none⟩ :: rest) F K :=
 TL.mm (kk := kk) h hd
theorem TL.muG {m x y : Operand} {T kt et : TypeId} {kk : IntKind} {b n : Nat} {i : Int} {v : Value} {l : Gl} (hT : MapT c.P T kt et kk) (h : ∀ l' n', gl l' = mput i v (gl l) → TL c ops Q rest F (.obj b (gO kk l' n') :: K')) (hm : ev F m = some (.map (some b)) := by rfl) (hx : ev F x = some (.int kk i) := by rfl) (hy : ev F y = some v := by rfl)
    (hp : Pick K (.obj b (gO kk l n)) K' := by repeat (first | exact Pick.hd | apply Pick.tl)) : TL c ops Q (⟨none, .mapUpdate T m x y, ty, pos, af, none⟩ :: rest) F K := fun a w hF hK => by
  have hs := hK.pick hp
  have hb : w.heap[b]? = some (gO kk l n) := (hs.holds (.obj b (gO kk l n)) (by simp)).1
  obtain ⟨l', n', hl, hr⟩ := run_mapUpdate_g (i := i) (v := v) hT hb
  refine wpList_skip rfl (w' := { w with heap := w.heap.setIfInBounds b (gO kk l' n') }) ?_ (h l' n' hl a _ hF (hs.turn ?_ (by simp [Fact.foot]) (fun q hq => .inl hq) ⟨(heap_set hb).1, rfl⟩))
  · simp [execOp, hF.evl hm, hF.evl hx, hF.evl hy, hr]
  · exact ⟨rfl, rfl, rfl, by simp, fun q _ hq => (heap_set hb).2 q (by simpa [Fact.foot] using hq)⟩
end
end Go.Proofs.YtfaenhhgkhcghaaGreatDoor
namespace Go.Proofs.YtfaenhhgkhcghaaGreatDoor
set_option linter.all false
set_option linter.unusedVariables false
set_option linter.unusedSimpArgs false
open Go.RowKit Go.MapKept
section
variable {P : Program} {fn : Func} {R : Ending → World → Prop} {t : Array Value}
def LeavesB (P : Program) (fn : Func) (t : Array Value) (R : Ending → World → Prop) : List Deferred → World → Prop
 | [], w => ∃ v, (results fn t).run P w = .ok v w ∧ R (.returned v) w
 | d :: ds, w => (∃ r w', d.target = .collected r ∧ (Instr.takeDeferred r).run P w = .ok [] w' ∧ LeavesB P fn t R ds w') ∨
  (∃ b ts ty cs v w', d.target = .builtin b ts ty cs ∧ (invoke d.target d.args).run P w = .ok (.value v) w' ∧ LeavesB P fn t R ds w')
theorem step_blt {fr : Frame} {cs : List Frame} {w w' : World} {d : Deferred} {ds : List Deferred} {b : Builtin} {ts : Array TypeId} {ty : TypeId} {co : Array Bool} {v : Value}
  (hm : fr.mode = .returning) (hd : fr.defers = d :: ds) (ht : d.target = .builtin b ts ty co) (hk : (invoke d.target d.args).run P w = .ok (.value v) w') :
  step P (lone fr cs w) = .next (lone { fr with defers := ds } cs w') := by
 obtain ⟨g, a⟩ := d
 simp only at ht
 subst ht
 refine step_lone_go ?_
 simp [stepG, unwind, callDeferred, hm, hd, Sem.runT_eq, hk, GStep.bare_after]
theorem leavesB_steps {n : Nat} : ∀ (ds : List Deferred) (w : World) (fr : Frame) (cs : List Frame), fr.mode = .returning → fr.defers = ds → fr.tmps = t → P.funcs[fr.fn]? = some fn → fr.kind = .normal → Fence.wide.fn fr.fn → Fence.wide.room (cs.length + 1 + n) → LeavesB P fn t R ds w →
    ∃ e w' fr', R e w' ∧ ComesIn (Machine.fenced P Fence.wide) P (lone fr cs w) (lone fr' cs w') e ∧ fr'.fn = fr.fn ∧ fr'.leaving P w' e
  | [], w, fr, cs, hu, hd, ht, hf, hk, hb, hr, h => leaves_stepsIn (n := n) [] .returning w fr cs hu hd ht hf hk hb hr h
  | d :: ds, w, fr, cs, hu, hd, ht, hf, hk, hb, hr, h => by
    rcases h with ⟨r, w', htar, htake, hrest⟩ | ⟨b, ts, ty, co, v, w', htar, hinv, hrest⟩
    · have h1 := step_collected (cs := cs) (by rw [hu]; simp) hd htar htake
      have i1 : (lone fr cs w).fenced P Fence.wide := fenced_out hb hr (by rw [hu]; simp) hd (fun g hg => by rw [htar] at hg; simp [Target.leads] at hg)
      obtain ⟨e, w2, fr2, hR, hs, hfn, hl⟩ := leavesB_steps ds w' { fr with defers := [] ++ ds } cs hu rfl ht hf hk hb hr hrest
      exact ⟨e, w2, fr2, hR, ComesIn.of_steps (.one i1 h1) hs, hfn, hl⟩
    · have h1 := step_blt (cs := cs) hu hd htar hinv
      have i1 : (lone fr cs w).fenced P Fence.wide := fenced_out hb hr (by rw [hu]; simp) hd (fun g hg => by rw [htar] at hg; simp [Target.leads] at hg)
      obtain ⟨e, w2, fr2, hR, hs, hfn, hl⟩ := leavesB_steps ds w' { fr with defers := ds } cs hu rfl ht hf hk hb hr hrest
      exact ⟨e, w2, fr2, hR, ComesIn.of_steps (.one i1 h1) hs, hfn, hl⟩
def bodyPostB (P : Program) (fn : Func) (R : Ending → World → Prop) : Exit → Act → World → Prop
 | .normal, a, w => LeavesB P fn a.tmps R a.defers w
 | .ret, a, w => LeavesB P fn a.tmps R a.defers w
 | _, _, _ => False
theorem calls_of_blt {f : FuncId} {c : Code} {args : Array Value} {w : World} (hf : P.funcs[f]? = some fn) (hb : fn.body = some c)
  (h : c.wp P (bodyPostB P fn R) { tmps := args ++ Array.replicate (fn.ntmps - args.size) undef, defers := [] } w) : Calls P f args w R := by
 refine (callsIn_wide (n := 2)).1 ⟨trivial, fun cs hr => ?_⟩
 let b : Frame := { (default : Frame) with fn := f, kind := .normal, roundOf := none }
 have henter : Frame.enter P f args .normal = b.atR { tmps := args ++ Array.replicate (fn.ntmps - args.size) undef, defers := [] } [.code c] := by
  simp [Frame.enter, Frame.atR, hf, hb, b]
 obtain ⟨e, a', w', hq, harr⟩ := (wpIn_wide (n := 2)).2 h b [] cs rfl trivial hr
 rw [← henter] at harr
 cases e with
 | normal =>
  obtain ⟨e', w'', fr', hR, hs, hfn, hl⟩ := leavesB_steps (n := 2) a'.defers w' { b.atR a' [] with mode := .returning } cs rfl rfl rfl hf rfl trivial hr hq
  exact ⟨e', w'', fr', hR, ComesIn.of_steps (StepsIn.trans harr (.one (fenced_calm (fr := b.atR a' []) trivial hr rfl) (stepR_end rfl))) hs, hfn, hl⟩
 | ret =>
  obtain ⟨todo, hs₀⟩ := harr.1 rfl
  obtain ⟨e', w'', fr', hR, hs, hfn, hl⟩ := leavesB_steps (n := 2) a'.defers w' { b.atR a' todo with mode := .returning } cs rfl rfl rfl hf rfl trivial hr hq
  exact ⟨e', w'', fr', hR, ComesIn.of_steps hs₀ hs, hfn, hl⟩
 | panic chain => exact hq.elim
 | exit id => exact hq.elim
 | goto l => exact hq.elim
 | outgrown => exact hq.elim
end
theorem K_enterB {P : Program} {f : FuncId} {fn : Func} {code : Code} {n : Nat} {args : List Value} {R : Ending → World → Prop} {w w0 : World} {S : List Nat} {K : List Fact} (hf : P.funcs[f]? = some fn) (hb : fn.body = some code) (hn : fn.ntmps = n) (hl : Nat.ble args.length n = true) (hS : Sat S w0 K w)
  (h : TW ⟨P, n, [], S, w0⟩ code (bodyPostB P fn R) (zipF 0 args) K) : Calls P f args.toArray w R := by
 refine calls_of_blt hf hb ?_
 rw [hn]
 exact h _ _ (FS.start (Nat.le_of_ble_eq_true hl)) hS
section
variable {c : Cx} {Q : Exit → Act → World → Prop} {F F' : Fr} {K K' K1 K2 : List Fact} {ops : Array Oper} {rest : List Oper} {d : Option Tmp} {ty : TypeId} {pos : String} {af : Array Edge} {g : Option (Nat × Bool)}
theorem TQ.retB0 {fn : Func} {R : Ending → World → Prop} {rs : List ResultVar} {vs : List Value} (hr : fn.results = rs.toArray) (hv : RV c F K rs vs) (h : ∀ w, Sat c.S c.w0 K w → R (.returned (retV vs)) w) (hD : c.D = [] := by rfl) : TQ c (bodyPostB c.P fn R) .ret F K := fun a w hF hK => by
 obtain ⟨t, ds⟩ := a
 have e : ds = [] := hF.dfs.trans hD
 subst e
 exact ⟨_, hv.results hr hF hK, h w hK⟩
def bltD (b : Builtin) (ts : Array TypeId) (ty : TypeId) (co : Array Bool) (us : List Value) : Deferred := { target := .builtin b ts ty co, args := us.toArray }
theorem TQ.retB {fn : Func} {R : Ending → World → Prop} {rs : List ResultVar} {vs : List Value} {D b n : Nat} {l : Gl} {T kt kt' et : TypeId} {kk : IntKind} {i : Int} {tz : TypeId} {co : Array Bool} (hT : MapT c.P T kt et kk) (hr : fn.results = rs.toArray) (hp : Pick K (.obj D (.deferred (some []))) K1) (hm : Pick K1 (.obj b (gO kk l n)) K2)
  (hv : ∀ l', RV c F (.obj b (gO kk l' n) :: K2) rs vs) (h : ∀ l', gl l' = mdel i (gl l) → ∀ w, Sat c.S c.w0 (.obj b (gO kk l' n) :: K2) w → R (.returned (retV vs)) w) (hD : c.D = [{ target := .collected D, args := #[] }, bltD .delete #[T, kt'] tz co [.map (some b), .int kk i]] := by rfl) : TQ c (bodyPostB c.P fn R) .ret F K := fun a w hF hK => by
 have h1 := hK.pick hp
 have hd : w.heap[D]? = some (.deferred (some [])) := (h1.holds (.obj _ _) (by simp)).1
 have h2 : Sat c.S c.w0 K1 (w.putObj D (.deferred none)) := (h1.putO (o' := .deferred none) rfl).sub (KSub.drop (KSub.refl _))
 obtain ⟨t, ds⟩ := a
 have e : ds = _ := hF.dfs.trans hD
 subst e
 have h3 := h2.pick hm
 have hb : (w.putObj D (.deferred none)).heap[b]? = some (gO kk l n) := (h3.holds (.obj b (gO kk l n)) (by simp)).1
 obtain ⟨l', hl, hrun⟩ := run_delete_g (i := i) (kt' := kt') (ty := tz) hT hb
 have h4 : Sat c.S c.w0 (.obj b (gO kk l' n) :: K2) { w.putObj D (.deferred none) with heap := (w.putObj D (.deferred none)).heap.setIfInBounds b (gO kk l' n) } :=
  h3.turn ⟨rfl, rfl, rfl, by simp, fun q _ hq => (heap_set hb).2 q (by simpa [Fact.foot] using hq)⟩ (by simp [Fact.foot]) (fun q hq => .inl hq) ⟨(heap_set hb).1, rfl⟩
 generalize ({ w.putObj D (.deferred none) with heap := (w.putObj D (.deferred none)).heap.setIfInBounds b (gO kk l' n) } : World) = W2 at hrun h4
 have h5 : LeavesB c.P fn t R [] W2 := ⟨_, (hv l').results hr hF h4, h l' hl _ h4⟩
 have h6 : (invoke (bltD .delete #[T, kt'] tz co [.map (some b), .int kk i]).target (bltD .delete #[T, kt'] tz co [.map (some b), .int kk i]).args).run c.P (w.putObj D (.deferred none)) = .ok (.value (.tuple #[])) W2 := by
  simp [bltD, invoke, builtin, hrun]
 have h7 : LeavesB c.P fn t R [bltD .delete #[T, kt'] tz co [.map (some b), .int kk i]] (w.putObj D (.deferred none)) := Or.inr ⟨.delete, _, _, _, .tuple #[], W2, rfl, h6, h5⟩
 exact Or.inl ⟨D, _, rfl, run_takeDeferred hd, h7⟩
theorem TL.dfb {b : Builtin} {xs : List Operand} {ts : Array TypeId} {us : List Value} (hx : evs F xs = some us) (h : ∀ co, TL { c with D := bltD b ts ty co us :: c.D } ops Q rest F K) : TL c ops Q (⟨none, .defer { callee := .builtin b, args := xs.toArray, argTypes := ts }, ty, pos, af, none⟩ :: rest) F K := fun a w hF hK => by
 refine wpList_plain rfl fun Z hZ => ?_
 have hr : ∃ co, (execOp a.eval ⟨none, .defer { callee := .builtin b, args := xs.toArray, argTypes := ts }, ty, pos, af, none⟩).run c.P w = .ok (.defer (bltD b ts ty co us)) w := by
  have e2 := hF.evsl hx
  simp [execOp, resolve, e2, bltD]
 obtain ⟨co, hr⟩ := hr
 unfold Oper.wp
 rw [hr]
 exact hZ _ _ (h co _ w ⟨hF.size, by show _ :: a.defers = _; rw [hF.dfs], hF.get⟩ hK)
end
end Go.Proofs.YtfaenhhgkhcghaaGreatDoor
namespace Go.Proofs.YtfaenhhgkhcghaaGreatDoor
set_option linter.all false
set_option linter.unusedVariables false
set_option linter.unusedSimpArgs false
open Go.RowKit
def wysN (f : Int × Int → List (List Int) → List (List Int)) (bn : List Int) (L : List (Int × Int)) (o : List (List Int)) : Nat → List (List Int)
 | 0 => o
 | q + 1 => if 200 < (wysN f bn L o q).length then wysN f bn L o q else if (L.getD q (0, 0)).2 ∈ bn then wysN f bn L o q else f (L.getD q (0, 0)) (wysN f bn L o q)
def wys (ld : Int → List (Int × Int)) (ar : Int → Int → Int) (to un : Int) : Nat → Int → Int → List Int → List Int → List (List Int) → List (List Int)
 | 0, _, _, _, _, out => out
 | r + 1, well, day, been, way, out =>
  if un < day then out else if well = to then out ++ [way] else wysN (fun y o => wys ld ar to un r y.2 (ar y.1 day) (been ++ [well]) (way ++ [y.1]) o) (been ++ [well]) (ld well) out (ld well).length
section
variable {f : Int × Int → List (List Int) → List (List Int)} {bn : List Int} {L : List (Int × Int)} {o : List (List Int)} {q : Nat}
theorem wysN_skip (h : ¬ 200 < (wysN f bn L o q).length) (hm : (L.getD q (0, 0)).2 ∈ bn) : wysN f bn L o (q + 1) = wysN f bn L o q := by
 simp only [wysN]
 rw [if_neg h, if_pos hm]
theorem wysN_go (h : ¬ 200 < (wysN f bn L o q).length) (hm : ¬ (L.getD q (0, 0)).2 ∈ bn) : wysN f bn L o (q + 1) = f (L.getD q (0, 0)) (wysN f bn L o q) := by
 simp only [wysN]
 rw [if_neg h, if_neg hm]
theorem wysN_stop (h : 200 < (wysN f bn L o q).length) : ∀ k, q ≤ k → wysN f bn L o k = wysN f bn L o q
  | 0, hk => by obtain rfl : q = 0 := by omega
                rfl
  | k + 1, hk => by
    by_cases e : q = k + 1
    · subst e; rfl
    · have ih := wysN_stop h k (by omega)
      simp only [wysN]
      rw [ih, if_pos h]
end
def cntB (p : Nat → Bool) : Nat → Nat
 | 0 => 0
 | n + 1 => cntB p n + (if p n = true then 1 else 0)
theorem cntB_le {p q : Nat → Bool} (h : ∀ i, p i = true → q i = true) : ∀ n, cntB p n ≤ cntB q n
 | 0 => Nat.le_refl _
 | n + 1 => by
  have := cntB_le h n
  simp only [cntB]
  by_cases e : p n = true
  · rw [if_pos e, if_pos (h n e)]; omega
  · rw [if_neg e]; omega
theorem cntB_lt {p q : Nat → Bool} (h : ∀ i, p i = true → q i = true) {k : Nat} (h1 : q k = true) (h2 : p k = false) : ∀ n, k < n → cntB p n < cntB q n
  | 0, hk => by omega
  | n + 1, hk => by
    simp only [cntB]
    by_cases e : k = n
    · subst e
      have := cntB_le h k
      rw [if_pos h1, if_neg (by rw [h2]; simp)]
      omega
    · have := cntB_lt h h1 h2 n (by omega)
      by_cases e : p n = true
      · rw [if_pos e, if_pos (h n e)]; omega
      · rw [if_neg e]; omega
def lftN (nw : Nat) (been : List Int) : Nat := cntB (fun i => !been.contains (i : Int)) nw
theorem lft_less {nw : Nat} {been : List Int} {a : Int} (h0 : 0 ≤ a) (h1 : a < nw) (h : a ∉ been) : lftN nw (been ++ [a]) < lftN nw been := by
  refine cntB_lt (k := a.toNat) (fun i hi => ?_) ?_ ?_ nw (by omega)
  · simp only [Bool.not_eq_true', List.contains_eq_mem, decide_eq_false_iff_not, List.mem_append, not_or] at hi ⊢
    exact hi.1
  · have e : ((a.toNat : Nat) : Int) = a := by omega
    simp only [e, Bool.not_eq_true', List.contains_eq_mem, decide_eq_false_iff_not]
    exact h
  · have e : ((a.toNat : Nat) : Int) = a := by omega
    simp [e]
def blM (been : List Int) : List (Int × Value) := been.map fun i => (i, .bool true)
theorem bl_look {i : Int} : ∀ {been : List Int}, mlook i (blM been) = if i ∈ been then some (.bool true) else none
 | [] => by simp [blM, mlook]
 | a :: l => by
  have ih := bl_look (i := i) (been := l)
  simp only [blM, List.map_cons, mlook] at ih ⊢
  by_cases e : i = a
  · rw [if_pos e, if_pos (by rw [e]; simp)]
  · rw [if_neg e, ih]
    by_cases e2 : i ∈ l
    · rw [if_pos e2, if_pos (List.mem_cons_of_mem _ e2)]
    · rw [if_neg e2, if_neg (by simp [e, e2])]
theorem bl_put {i : Int} : ∀ {been : List Int}, i ∉ been → mput i (.bool true) (blM been) = blM (been ++ [i])
 | [], _ => rfl
 | a :: l, h => by
  have ih := bl_put (i := i) (been := l) (fun e => h (List.mem_cons_of_mem _ e))
  simp only [blM, List.map_cons, List.cons_append, mput] at ih ⊢
  rw [if_neg (fun e => h (by rw [e]; simp)), ih]
theorem bl_del {i : Int} : ∀ {been : List Int}, i ∉ been → mdel i (blM (been ++ [i])) = blM been
 | [], _ => by simp [blM, mdel]
 | a :: l, h => by
  have ih := bl_del (i := i) (been := l) (fun e => h (List.mem_cons_of_mem _ e))
  simp only [blM, List.map_cons, List.cons_append, mdel] at ih ⊢
  rw [if_neg (fun e => h (by rw [e]; simp)), ih]
def lksK (out : List (List Int)) (ia : Nat → Option Addr) (ic : Nat → Nat) : List Fact := ownsE 3 1 ia (fun k => (out.getD k []).length) ic (fun k => iL (out.getD k [])) out.length
def lksR (out : List (List Int)) (ia : Nat → Option Addr) (ic : Nat → Nat) (k : Nat) : List Value := [.slice (ia k) (out.getD k []).length (ic k)]
theorem getW_app {out : List (List Int)} {w : List Int} {k : Nat} (h : k < out.length) : (out ++ [w]).getD k [] = out.getD k [] := by
 rw [List.getD_eq_getElem?_getD, List.getD_eq_getElem?_getD, List.getElem?_append_left h]
theorem getD_last {out : List (List Int)} {w : List Int} : (out ++ [w]).getD out.length [] = w := by
 rw [List.getD_eq_getElem?_getD, List.getElem?_append_right (Nat.le_refl _), Nat.sub_self]
 rfl
theorem ownsE_congr9 {E : TypeId} {sz : Nat} {A A2 : Nat → Option Addr} {l l2 c c2 : Nat → Nat} {r r2 : Nat → Nat → List Value} : ∀ {n : Nat}, (∀ i, i < n → A i = A2 i ∧ l i = l2 i ∧ c i = c2 i ∧ r i = r2 i) → ownsE E sz A l c r n = ownsE E sz A2 l2 c2 r2 n
 | 0, _ => rfl
 | n + 1, h => by
  obtain ⟨h1, h2, h3, h4⟩ := h n (by omega)
  simp only [ownsE, h1, h2, h3, h4, ownsE_congr9 (n := n) fun i hi => h i (by omega)]
theorem lks_app {out : List (List Int)} {ia : Nat → Option Addr} {ic : Nat → Nat} {A8 : Option Addr} {c8 : Nat} {way : List Int} : lksK (out ++ [way]) (updA ia out.length A8) (updA ic out.length c8) = .own A8 way.length c8 3 1 (iL way) :: lksK out ia ic := by
 unfold lksK
 rw [List.length_append, List.length_singleton]
 simp only [ownsE, getD_last]
 have e1 : updA ia out.length A8 out.length = A8 := if_pos rfl
 have e2 : updA ic out.length c8 out.length = c8 := if_pos rfl
 rw [e1, e2]
 congr 1
 refine ownsE_congr9 fun i hi => ?_
 rw [getW_app hi]
 exact ⟨if_neg (by omega), rfl, if_neg (by omega), rfl⟩
theorem lks_row {out : List (List Int)} {ia : Nat → Option Addr} {ic : Nat → Nat} {A8 : Option Addr} {c8 : Nat} {way : List Int} : ∀ i, i < out.length + 1 → catR out.length (lksR out ia ic) (fun _ => [.slice A8 way.length c8]) i = lksR (out ++ [way]) (updA ia out.length A8) (updA ic out.length c8) i := fun i hi => by
  unfold catR lksR
  by_cases h : i < out.length
  · rw [if_pos h, getW_app h]
    show _ = [Value.slice (if i = out.length then A8 else ia i) _ (if i = out.length then c8 else ic i)]
    rw [if_neg (by omega), if_neg (by omega)]
  · obtain rfl : i = out.length := by omega
    rw [if_neg h, getD_last]
    show _ = [Value.slice (if out.length = out.length then A8 else ia out.length) _ (if out.length = out.length then c8 else ic out.length)]
    rw [if_pos rfl, if_pos rfl]
theorem sat_bunC {S : List Nat} {w0 w : World} {φ : Fact} {L K : List Fact} (h : Sat S w0 (φ :: bun L :: K) w) : Sat S w0 (bun (φ :: L) :: K) w := by
 have e : feet (bun (φ :: L) :: K) = feet (φ :: bun L :: K) := by
   show feet (φ :: L) ++ feet K = φ.foot ++ (feet L ++ feet K)
   show (φ.foot ++ feet L) ++ feet K = _
   rw [List.append_assoc]
 refine ⟨h.chg, by rw [e]; exact h.nd, by rw [e]; exact h.ge, fun ψ hψ => ?_⟩
 rcases List.mem_cons.1 hψ with rfl | hψ
 · refine bun_holds fun χ hχ => ?_
   rcases List.mem_cons.1 hχ with rfl | hχ
   · exact h.holds _ (List.mem_cons_self ..)
   · exact (h.holds (bun L) (by simp)).now χ hχ
 · exact h.holds ψ (by simp [hψ])
theorem tl_bunC {c : Cx} {Q : Exit → Act → World → Prop} {F : Fr} {φ : Fact} {L L2 K K1 K2 : List Fact} {ops : Array Oper} {rest : List Oper} (h1 : Pick K φ K1) (h2 : Pick K1 (bun L) K2) (e : L2 = φ :: L) (h : TL c ops Q rest F (bun L2 :: K2)) : TL c ops Q rest F K := fun a w hF hK => by
 subst e
 have hs : Sat c.S c.w0 (φ :: bun L :: K2) w := (hK.pick h1).sub (KSub.cons .hd (KSub.cons h2 (KSub.refl _)))
 exact h a w hF (sat_bunC hs)
def arW (x : Nat → Leg) (g : Nat → Nat → Nat → Int) (p0 k t : Int) : Int := arV (lvF (g k.toNat) 1 2 t (dyS (x k.toNat).u p0) (x k.toNat).n) (dyS (x k.toNat).u p0)
structure LegsOk (nw nl : Nat) (x : Nat → Leg) (g : Nat → Nat → Nat → Int) : Prop where
 l : ∀ k, k < nl → LegIn (x k).u (x k).n (g k)
 e : ∀ k, k < nl → 0 ≤ (x k).u 0 ∧ (x k).u 0 < nw ∧ 0 ≤ (x k).u 1 ∧ (x k).u 1 < nw
theorem lead_at {nw nl : Nat} {x : Nat → Leg} {g : Nat → Nat → Nat → Int} (h : LegsOk nw nl x g) {well : Int} {q : Nat} (hq : q < (ldL (fun k => (x k).u) well nl).length) :
   ∃ k : Nat, k < nl ∧ ((ldL (fun k => (x k).u) well nl).getD q (0, 0)).1 = (k : Int) ∧ 0 ≤ ((ldL (fun k => (x k).u) well nl).getD q (0, 0)).2 ∧ ((ldL (fun k => (x k).u) well nl).getD q (0, 0)).2 < nw := by
 obtain ⟨k, hk, ha, e⟩ := ld_in nl (getD_in hq)
 have he := h.e k hk
 refine ⟨k, hk, by rw [e], ?_⟩
 rw [e]
 show 0 ≤ othV (x k).u well ∧ othV (x k).u well < nw
 unfold othV
 rcases ha with ha | ha
 · rw [if_pos ha]; omega
 · split
   · omega
   · omega
theorem arW_bd {nw nl : Nat} {x : Nat → Leg} {g : Nat → Nat → Nat → Int} (h : LegsOk nw nl x g) {p0 p1 t : Int} {k : Nat} (hk : k < nl) (h0 : 1 ≤ p0) (h1 : p0 ≤ p1) (ht : 0 ≤ t ∧ t ≤ 100001) : 0 ≤ arW x g p0 k t ∧ arW x g p0 k t ≤ 100001 := by
 have hl := h.l k hk
 have hd := dy_bd h0 h1 hl.l0 hl.l1 hl.l2
 have hg := lv_ge (g := g k) (op := 1) (sh := 2) (n := dyS (x k).u p0) ht.2 (x k).n
 unfold arW arV
 rw [Int.toNat_natCast]
 omega
end Go.Proofs.YtfaenhhgkhcghaaGreatDoor
namespace Go.Proofs.YtfaenhhgkhcghaaGreatDoor
set_option linter.all false
set_option linter.unusedVariables false
set_option linter.unusedSimpArgs false
open Go.RowKit
theorem rd_cells {w : World} {sz m : Nat} {p : Addr} {g : Nat → Nat → Value} (hz : 0 < sz) (hr : Rd w sz (some p) m g) : ∀ q u, (flat sz m g)[q]? = some u → w.cell? (p.add q) = some u := fun q u hq => by
 have hql : q < m * sz := by have := (List.getElem?_eq_some_iff.1 hq).1; rw [flat_length] at this; exact this
 have hm : 0 < m := by
   rcases Nat.eq_zero_or_pos m with rfl | h
   · simp at hql
   · exact h
 obtain ⟨b, off, e0, hlt, hc⟩ := hr hm
 injection e0 with e0
 subst e0
 have hi' : q / sz < m := Nat.div_lt_of_lt_mul (by rw [Nat.mul_comm]; exact hql)
 have hj' : q % sz < sz := Nat.mod_lt _ hz
 have e : q = q / sz * sz + q % sz := by rw [Nat.mul_comm]; exact (Nat.div_add_mod q sz).symm
 have h2 := flat_get (f := g) hi' hj'
 rw [← e, hq] at h2
 have h3 := hc _ _ hi' hj'
 rw [Nat.add_assoc, ← e, ← h2] at h3
 rw [← h3]
 unfold Addr.add
 by_cases hq0 : q = 0
 · subst hq0; rfl
 · rw [if_neg hq0]
theorem run_append_F {P : Program} {w : World} {t ty E : TypeId} {sz bytes : Nat} (T : ElemT P t E sz bytes) {A A2 : Option Addr} {n m c : Nat} {f g : Nat → Nat → Value} (hf : Rd w sz A n f) (hr : Rd w sz A2 m g) (h0 : 0 < m) (h1 : ∀ i j, i < m → j < sz → (g i j).oneCell' = true) (hm : n + m ≤ 1000000000) (hby : bytes ≤ 10000) :
  ∃ v' w', (Builtin.append_ #[t, t] ty #[.slice A n n, .slice A2 m c]).run P w = .ok v' w' ∧ Own w' 0 E sz v' (n + m) (cat n f g) ∧ w.grownBy w' none ∧ (∀ q, v'.ownBlock = some q → w.heap.size ≤ q) := by
 cases A with
 | none =>
  have hn : n = 0 := by
    rcases Nat.eq_zero_or_pos n with h | h
    · exact h
    · obtain ⟨b, off, e, _⟩ := hf h
      cases e
  subst hn
  have hown : Own w 0 E sz (.slice none 0 0) 0 f := ⟨by simp [flat], .inl ⟨rfl, rfl⟩⟩
  obtain ⟨v', w', h2, h3, h4, h5⟩ := run_append_R (ty := ty) T hown hr (fun _ => .inr trivial) h1 hm hby (Nat.zero_le _)
  refine ⟨v', w', h2, h3, h4, fun q hq => ?_⟩
  rcases h5 with h5 | h5
  · rw [h5] at hq; simp [Value.ownBlock] at hq
  · rw [h5] at hq; cases hq; exact Nat.le_refl _
 | some p =>
  obtain ⟨i, z, hi, hz, hs, hb, hzs⟩ := T.hi
  obtain ⟨b2, off, rfl, hlt, hc⟩ := hr h0
  obtain ⟨v', w', hrun, h2, h3⟩ := run_append_arg_grows (P := P) w t ty E i z sz bytes T.ht hi hz hs hb hzs T.pos p n n (flat sz n f) (flat_length _ _ _) (rd_cells T.pos hf) ⟨b2, off, none⟩ m c (flat sz m g) (flat_length _ _ _) (rd_cells T.pos hr) (by omega) (by simp only [maxLen]; omega) (Nat.le_trans (Nat.mul_le_mul hm hby) (by decide))
  have h4 : Own w' w.heap.size E sz v' (n + m) (cat n f g) := by
    unfold Own
    rw [flat_cat]
    exact h2
  refine ⟨v', w', hrun, ?_, h3, ?_⟩
  · rcases h4 with ⟨k1, k2⟩
    refine ⟨k1, ?_⟩
    rcases k2 with k2 | ⟨g', cap, cur, e, hge, rest⟩
    · exact .inl k2
    · exact .inr ⟨g', cap, cur, e, Nat.zero_le _, rest⟩
  · intro q hq
    rcases h4.2 with ⟨e, _⟩ | ⟨g', cap, cur, e, hge, _⟩
    · rw [e] at hq; simp [Value.ownBlock] at hq
    · rw [e] at hq; simp [Value.ownBlock] at hq; rw [← hq]; exact hge
section
variable {c : Cx} {Q : Exit → Act → World → Prop} {F F' : Fr} {K K' K0 : List Fact} {ops : Array Oper} {rest : List Oper} {d : Option Tmp} {ty : TypeId} {pos : String} {af : Array Edge} {g : Option (Nat × Bool)}
theorem TL.apF {x y : Operand} {t E : TypeId} {sz bytes : Nat} {A A2 : Option Addr} {n m cp2 : Nat} {r s : Nat → List Value} (T : ElemT c.P t E sz bytes) (h : ∀ A' cp', TL c ops Q rest (fput F d (.slice A' (n + m) cp')) (.own A' (n + m) cp' E sz (catR n r s) :: K)) (hx : ev F x = some (.slice A n n) := by rfl) (hy : ev F y = some (.slice A2 m cp2) := by rfl) (hd : dok d c.n = true := by rfl)
    (hs1 : Src c K sz A n r := by first | exact Src.old (by assumption) (by first | exact Apart.nil | assumption) | exact Src.own pk9) (hs2 : Src c K sz A2 m s := by first | exact Src.blk1 pk9 rfl | exact Src.old (by assumption) (by first | exact Apart.nil | assumption) | exact Src.own pk9)
    (h0 : 0 < m := by omega) (h1 : ∀ i, i < m → (s i).all Value.oneCell' = true := by first | (intro i hi; rfl) | assumption) (hm : n + m ≤ 1000000000 := by omega) (hby : bytes ≤ 10000 := by decide) :
    TL c ops Q (⟨d, .call { callee := .builtin .append, args := #[x, y], argTypes := #[t, t] }, ty, pos, af, none⟩ :: rest) F K := fun a w hF hK => by
  have hr := hs1 w hK
  have hq := hs2 w hK
  obtain ⟨v', w', hrun, hown, hg, hge⟩ := run_append_F (ty := ty) (c := cp2) T hr.rd hq.rd h0 (fun i j hi hj => by
    have := h1 i hi
    rw [List.all_eq_true] at this
    have hlen := hq.len i hi
    have e : rowF s i j = (s i)[j]'(by omega) := by simp [rowF, List.getD_eq_getElem?_getD, List.getElem?_eq_getElem (show j < (s i).length by omega)]
    rw [e]
    exact this _ (List.getElem_mem _)) hm hby
  refine wpList_plain rfl fun Z hZ => ?_
  unfold Oper.wp execOp
  simp only [resolve, invoke, builtin, Sem.run_bind, Sem.run_pure, Result.andThen_ok, List.map_toArray, List.map_cons, List.map_nil, hF.evl hx, hF.evl hy]
  rw [hrun]
  obtain ⟨A', cp', rfl, _, _, _⟩ := hown.form
  have hbe : Below w.heap.size w w' := (Below.refl _ _).grown hg (Nat.le_refl _) (fun k hk => by cases hk)
  have hnew : Sat [] w [.own A' (n + m) cp' E sz (catR n r s)] w' := by
    refine Sat.one (Chg.of_ext hbe) (by rw [own_foot]; cases (Value.slice A' (n + m) cp').ownBlock <;> simp) (fun q hq => .inr ?_) ⟨hown.congr fun i j hi hj => ?_, fun i hi => ?_⟩
    · rw [own_foot] at hq
      exact hge q (by cases e : (Value.slice A' (n + m) cp').ownBlock with
        | none => rw [e] at hq; cases hq
        | some b => rw [e] at hq; simp at hq; rw [hq])
    · simp only [cat, rowF, catR]; split <;> rfl
    · simp only [catR]; split
      · exact hr.len i ‹_›
      · exact hq.len _ (by omega)
  exact hZ _ _ (h A' cp' _ _ (hF.fput hd _) (hK.add hnew))
theorem Pu.s3 {T E : TypeId} {sz bytes : Nat} {x y z : Operand} {A : Option Addr} {n cp : Nat} {i j : Int} (hT : ElemT c.P T E sz bytes) (hx : ev F x = some (.slice A n cp) := by rfl) (hy : ev F y = some (.int .i64 i) := by rfl) (hz : ev F z = some (.int .i64 j) := by rfl) (h1 : i = n := by rfl) (h2 : j = n := by rfl) (h3 : n ≤ cp := by omega) : Pu c F K ⟨d, .slice T x none (some y) (some z), ty, pos, af, g⟩ (.slice A n n) := fun a w hF _ => by
 obtain ⟨i', z', hi, hz', hs, hb, hzs⟩ := hT.hi
 have hsz : (sizeOf E).run c.P w = .ok sz w := by simp [sizeOf, typeInfo, hi, hs]
 have hA : A.map (fun x => x.add 0) = A := by
  cases A with
  | none => rfl
  | some p => simp [Addr.add]
 subst h1 h2
 simp [execOp, Instr.sliceAt, Instr.slice, hF.evl hx, hF.evl hy, hF.evl hz, run_underlying hT.ht, Instr.sliceBounds, Instr.sliceBound, asIntOf, h3, hsz, hA]
end
end Go.Proofs.YtfaenhhgkhcghaaGreatDoor
namespace Go.Proofs.YtfaenhhgkhcghaaGreatDoor
set_option linter.all false
set_option linter.unusedVariables false
set_option linter.unusedSimpArgs false
open Go.RowKit
theorem clip_any {A : Option Addr} {n cp : Nat} (h : n ≤ cp) (w : World) : Calls Tryz.prog 119 #[.slice A n cp] w (Ret w (.slice A n n)) := by
 refine K_enter (S := []) (K := []) Tryz.func119 rfl Tryz.ntmps119 rfl (Sat.start _) ?_
 refine TW.seq fun Y1 hY1 => TW.region ?_
 refine TL.p Pu.as ?_
 refine TL.nil (TQ.thenN (hY1 _ _ ?_))
 refine TW.seq fun Y2 hY2 => TW.region ?_
 refine TL.p Pu.mv ?_
 refine TL.p Pu.mv ?_
 refine TL.p (Pu.ln Tryz.underlying31) ?_
 refine TL.p Pu.mv ?_
 refine TL.p (Pu.ln Tryz.underlying31) ?_
 refine TL.p (Pu.s3 ty_et31) ?_
 refine TL.p Pu.as ?_
 refine TL.nil (TQ.thenN (hY2 _ _ ?_))
 refine TW.ret ?_
 refine TQ.ret Tryz.results119 rfl ((.tmp rfl .nil)) ?_
 exact fun w hw => Ret.of hw
theorem clone_way {A : Option Addr} {cp : Nat} {way : List Int} {w : World} (hn : way.length ≤ 1000000000) (hR : RdR w 1 A way.length (iL way)) :
  CallsK Tryz.prog 71 #[.slice A way.length cp] [] w (Option Addr × Nat) (fun x => .slice x.1 way.length x.2) (fun x => [.own x.1 way.length x.2 3 1 (iL way)]) := by
 have h := cloneI_any (cp := cp) (v := fun k => way.getD k 0) hn hR
 rw [toI_getD] at h
 exact h
theorem more_any {A : Option Addr} {cp : Nat} {way : List Int} {x : Int} {w : World} (hn : way.length ≤ 100000000) (hR : RdR w 1 A way.length (iL way)) :
  CallsK Tryz.prog 74 #[.slice A way.length cp, .int .i64 x] [] w (Option Addr × Nat) (fun y => .slice y.1 (way ++ [x]).length y.2) (fun y => [.own y.1 (way ++ [x]).length y.2 3 1 (iL (way ++ [x]))]) := by
 have hl : (way ++ [x]).length = way.length + 1 := by rw [List.length_append]; rfl
 refine K_enter (S := []) (K := []) Tryz.func74 rfl Tryz.ntmps74 rfl (Sat.start _) ?_
 refine TW.seq fun Y1 hY1 => TW.region ?_
 refine TL.p Pu.as ?_
 refine TL.nil (TQ.thenN (hY1 _ _ ?_))
 refine TW.seq fun Y2 hY2 => TW.region ?_
 refine TL.p Pu.mv ?_
 refine TL.call (M := []) rfl (enters Tryz.func71 rfl rfl) (List.Perm.refl _) rfl (fun w hw => by
   exact clone_way (by omega) (hR.sat hw Apart.nil)) ?_
 rintro ⟨A1, c1⟩
 refine TL.cr rfl (enters Tryz.func119 rfl rfl) (fun w hw => by
   have hle := OwnR.cap (hw.holds (.own A1 way.length c1 3 1 (iL way)) (Pick.mem pk9))
   exact clip_any hle _) ?_
 refine TL.p Pu.mv ?_
 refine TL.m Mk.bl ?_
 intro b1
 refine TL.apF ty_et31 ?_
 intro A8 c8
 refine TL.p Pu.as ?_
 refine TL.nil (TQ.thenN (hY2 _ _ ?_))
 refine TW.ret ?_
 refine TQ.ret Tryz.results74 rfl ((.tmp rfl .nil)) ?_
 exact fun w hw => ⟨(A8, c8), by rw [hl]; rfl, by rw [hl]; exact hw.sub (KSub.own pk9 (iL_app rfl rfl rfl) KSub.nil)⟩
end Go.Proofs.YtfaenhhgkhcghaaGreatDoor
