/-
  The statement LoadNarrowCardSaid: for every input the law LoadNarrow returns true, and its arguments read afterwards as before; load.none reads as the program's text lays it, by the tie that is given. No other condition.
-/
import Derived.Test.YtjephihlkjpohaaGreatDoorNarr11
import Derived.Test.YtjephihlkjpohaaGreatDoorNarr10
import Derived.Test.YtjephihlkjpohaaGreatDoorNarr06
import Derived.Test.YtjephihlkjpohaaGreatDoorNarr02
import Derived.ProofKit
import Derived.Deep.Slices
import Derived.Carry
import Derived.Test.YtjephihlkjpohaaGreatDoorNarr04
import Derived.Test.YtjephihlkjpohaaGreatDoorRows
import Derived.LaidMore
import Derived.OpenShut
import Derived.Stop.Joined
import Derived.Test.YtjephihlkjpohaaGreatDoorNarr09
import Derived.Test.YtjephihlkjpohaaGreatDoorTie
import Derived.Test.YtjephihlkjpohaaGreatDoorCards
import Derived.SevenTiedAt
namespace Go.Proofs.YtjephihlkjpohaaGreatDoor
set_option linter.all false
set_option linter.unusedVariables false
set_option linter.unusedSimpArgs false
open Go.RowKit
theorem own_some {w : World} {A : Option Addr} {n c : Nat} {E : TypeId} {sz : Nat} {r : Nat → List Value} (h : OwnR w A n c E sz r) (hn : 0 < n) : ∃ g, A = some ⟨g, 0, none⟩ := by
  rcases h.own.2 with ⟨e, h2⟩ | ⟨g, cap, cur, e, _⟩
  · exfalso
    first | omega | (cases e; omega)
  · cases e
    exact ⟨g, rfl⟩
theorem TL.some {c : Cx} {Q : Exit → Act → World → Prop} {F : Fr} {K K' : List Fact} {ops : Array Oper} {rest : List Oper} {A : Option Addr} {n cp sz : Nat} {E : TypeId} {r : Nat → List Value} (hp : Pick K (.own A n cp E sz r) K') (hn : 0 < n) (h : ∀ g, A = some ⟨g, 0, none⟩ → TL c ops Q rest F K) : TL c ops Q rest F K := fun a w hF hK => by
  obtain ⟨g, e⟩ := own_some ((hK.pick hp).holds (.own A n cp E sz r) (List.mem_cons_self ..)) hn
  exact h g e a w hF hK
theorem updR_same {r : Nat → List Value} {k : Nat} {row : List Value} : updR r k row k = row := if_pos rfl
theorem within2_any (a0 a1 b0 b1 : Int) (w : World) : Calls Tryz.prog 32 #[.agg #[.int .i64 a0, .int .i64 a1], .agg #[.int .i64 b0, .int .i64 b1]] w (Ret w (.bool (decide (b0 ≤ a0) && decide (a1 ≤ b1)))) := by
  refine K_enter (S := []) (K := []) Tryz.func32 rfl Tryz.ntmps32 rfl (Sat.start _) ?_
  refine TW.seq fun Y1 hY1 => ?_
  refine TW.region ?_
  refine TL.m Mk.bx ?_
  intro b1
  refine TL.m Mk.bx ?_
  intro b2
  refine TL.p Pu.as ?_
  refine TL.nil ?_
  refine TQ.thenN (hY1 _ _ ?_)
  refine TW.seq fun Y2 hY2 => ?_
  refine TW.region ?_
  refine TL.p (by first | exact Pu.fb ty_fa43_0 | exact Pu.fe ty_fa43_0) ?_
  refine TL.p (Pu.ld ty_sc3) ?_
  refine TL.p (by first | exact Pu.fb ty_fa43_0 | exact Pu.fe ty_fa43_0) ?_
  refine TL.p (Pu.ld ty_sc3) ?_
  refine TL.p Pu.ge ?_
  refine TL.p Pu.mv ?_
  refine TL.guard (t := 10) rfl (fun hg1 => ?_) (fun hg1 => ?_)
  · try simp only [decide_eq_true_eq, decide_eq_false_iff_not, Bool.not_eq_true', Bool.not_eq_false', Int.natCast_pos] at hg1
    refine TL.gd (by first | exact Pu.fb ty_fa43_1 | exact Pu.fe ty_fa43_1) ?_
    refine TL.gd (Pu.ld ty_sc3) ?_
    refine TL.gd (by first | exact Pu.fb ty_fa43_1 | exact Pu.fe ty_fa43_1) ?_
    refine TL.gd (Pu.ld ty_sc3) ?_
    refine TL.gd Pu.le ?_
    refine TL.p Pu.kt ?_
    refine TL.p Pu.as ?_
    refine TL.nil ?_
    refine TQ.thenN (hY2 _ _ ?_)
    refine TW.ret ?_
    refine TQ.ret Tryz.results32 rfl ((.tmp rfl .nil)) ?_
    exact fun w hw => ⟨ret_bool (by first | rfl | (simp [hg1]) | simp), Chg.ext hw.chg⟩
  · try simp only [decide_eq_true_eq, decide_eq_false_iff_not, Bool.not_eq_true', Bool.not_eq_false', Int.natCast_pos] at hg1
    refine TL.gs ?_
    refine TL.gs ?_
    refine TL.gs ?_
    refine TL.gs ?_
    refine TL.gs ?_
    refine TL.p Pu.kf ?_
    refine TL.p Pu.as ?_
    refine TL.nil ?_
    refine TQ.thenN (hY2 _ _ ?_)
    refine TW.ret ?_
    refine TQ.ret Tryz.results32 rfl ((.tmp rfl .nil)) ?_
    exact fun w hw => ⟨ret_bool (by first | rfl | (simp [hg1]) | simp), Chg.ext hw.chg⟩
def nlo (n : Nat) (u : Nat → Int) (s0 s1 : Int) (i : Nat) : Int := insV s0 s1 (chU n u (2 * i))
def nhi (n : Nat) (u : Nat → Int) (s0 s1 : Int) (i : Nat) : Int := insV (nlo n u s0 s1 i) s1 (chU n u (2 * i + 1))
theorem nar_in {n : Nat} {u : Nat → Int} {s0 s1 : Int} {i : Nat} (h : s0 ≤ s1) : s0 ≤ nlo n u s0 s1 i ∧ nlo n u s0 s1 i ≤ nhi n u s0 s1 i ∧ nhi n u s0 s1 i ≤ s1 := by
  have h1 := insV_in (c := chU n u (2 * i)) h
  have h2 := insV_in (lo := nlo n u s0 s1 i) (c := chU n u (2 * i + 1)) h1.2
  exact ⟨h1.1, h2.1, h2.2⟩
set_option maxRecDepth 100000 in
theorem narPart_any {w : World} {b9 n cb : Nat} {B : Option Addr} {u : Nat → Int} {s0 s1 : Int} (i : Nat) (hi : i ≤ 10) (hb : OldB w b9 [.slice B n cb]) (hn : n ≤ cb) (hU : U32 n u) (hB : RdR w 1 B n (fun k => [.int .u32 (u k)])) (hs : 0 ≤ s0 ∧ s0 ≤ s1 ∧ s1 ≤ 6000000) :
    Calls Tryz.prog 30 #[.agg #[.int .i64 s0, .int .i64 s1], .int .i64 (i : Int), .pointer (some ⟨b9, 0, none⟩)] w (Ret w (.agg #[.int .i64 (nlo n u s0 s1 i), .int .i64 (nhi n u s0 s1 i)])) := by
  have h1 := insV_in (c := chU n u (2 * i)) hs.2.1
  refine K_enter (S := []) (K := []) Tryz.func30 rfl Tryz.ntmps30 rfl (Sat.start _) ?_
  refine TW.seq fun Y1 hY1 => ?_
  refine TW.region ?_
  refine TL.m Mk.bx ?_
  intro b1
  refine TL.m (Mk.al ty_zr43) ?_
  intro b2
  refine TL.nil ?_
  refine TQ.thenN (hY1 _ _ ?_)
  refine TW.seq fun Y2 hY2 => ?_
  refine TW.dw 7 ?_
  refine RK.tk (by first | exact (Pu.lds ty_ag43) | exact (Pu.ldso ty_ag43)) ?_
  refine RK.tk (by first | exact (Pu.ld ty_sc46) | exact (Pu.ldo ty_sc46)) ?_
  refine RK.tk Pu.mv ?_
  refine RK.tk Pu.ml ?_
  refine RK.keep ?_
  refine RK.keep ?_
  refine RK.keep ?_
  refine RK.ch [false, false, true] ?_ trivial
  refine WK.cr rfl (enters Tryz.func26 rfl rfl) (fun w hw => by
      have h9 := choose_any (2 * i) (by omega) hn (hB.sat hw Apart.nil)
      rw [show ((2 * i : Nat) : Int) = 2 * (i : Int) by omega] at h9
      exact h9) ?_
  refine WK.cr rfl (enters Tryz.func25 rfl rfl) (fun w hw => by
      exact inside_any hs (chU_in hU _)) ?_
  refine WK.p Pu.as ?_
  refine WK.n ?_
  refine TL.nil ?_
  refine TQ.thenN (hY2 _ _ ?_)
  refine TW.seq fun Y3 hY3 => ?_
  refine TW.dw 12 ?_
  refine RK.tk Pu.mv ?_
  refine RK.tk Pu.mv ?_
  refine RK.tk (by first | exact Pu.fb ty_fa43_1 | exact Pu.fe ty_fa43_1) ?_
  refine RK.tk (by first | exact (Pu.ld ty_sc3) | exact (Pu.ldo ty_sc3)) ?_
  refine RK.keep ?_
  refine RK.tk (by first | exact (Pu.ld ty_sc46) | exact (Pu.ldo ty_sc46)) ?_
  refine RK.tk Pu.mv ?_
  refine RK.tk Pu.ml ?_
  refine RK.tk Pu.ad ?_
  refine RK.keep ?_
  refine RK.keep ?_
  refine RK.keep ?_
  refine RK.ch [false, false, false, false] ?_ trivial
  refine WK.cr rfl (enters Tryz.func31 rfl rfl) (fun w hw => by
      exact span_any _ _ _) ?_
  refine WK.cr rfl (enters Tryz.func26 rfl rfl) (fun w hw => by
      have h9 := choose_any (2 * i + 1) (by omega) hn (hB.sat hw Apart.nil)
      rw [show ((2 * i + 1 : Nat) : Int) = 2 * (i : Int) + 1 by omega] at h9
      exact h9) ?_
  refine WK.cr rfl (enters Tryz.func25 rfl rfl) (fun w hw => by
      exact inside_any (by omega) (chU_in hU _)) ?_
  refine WK.cr rfl (enters Tryz.func31 rfl rfl) (fun w hw => by
      exact span_any _ _ _) ?_
  refine WK.n ?_
  first | refine TL.st ty_sz43 ?_ | refine TL.se ty_sz43 ?_
  refine TL.nil ?_
  refine TQ.thenN (hY3 _ _ ?_)
  refine TW.ret ?_
  refine TQ.ret Tryz.results30 rfl ((RV.cs ty_ag43 .nil)) ?_
  exact fun w hw => Ret.of hw
theorem nar_two {p q : Nat → Int} (h : NarP p q) (hp : packOk p = true) : ∃ x0 x1 x2 x3 x4 y0 y1 y2 y3 y4 : Int, restK p = [.agg #[.int .i64 x0, .int .i64 x1], .agg #[.int .i64 x2, .int .i64 x3], .int .u8 x4, .int .i64 0] ∧ restK q = [.agg #[.int .i64 y0, .int .i64 y1], .agg #[.int .i64 y2, .int .i64 y3], .int .u8 y4, .int .i64 0] ∧ x0 ≤ y0 ∧ y1 ≤ x1 ∧ x2 ≤ y2 ∧ y3 ≤ x3 ∧ (x4 = 1 ∨ y4 = x4) :=
  have T := h.rest hp
  ⟨_, _, _, _, _, _, _, _, _, _, by unfold restK; rw [if_pos hp]; rfl, by unfold restK; rw [if_pos (h.ok hp)]; rfl, T.1, T.2.1, T.2.2.1, T.2.2.2.1, T.2.2.2.2⟩
def betP (p : Nat → Int) (n : Nat) (u : Nat → Int) (j : Nat) : Int := ([p 0, nlo n u (p 1) (p 2) 0, nhi n u (p 1) (p 2) 0, nlo n u (p 3) (p 4) 1, nhi n u (p 3) (p 4) 1, nlo n u (p 5) (p 6) 2, nhi n u (p 5) (p 6) 2, nlo n u (p 7) (p 8) 3, nhi n u (p 7) (p 8) 3, p 9, p 10] : List Int).getD j 0
theorem bet_spans {p : Nat → Int} (hp : packOk p = true) : (0 ≤ p 1 ∧ p 1 ≤ p 2 ∧ p 2 ≤ 6000000) ∧ (0 ≤ p 3 ∧ p 3 ≤ p 4 ∧ p 4 ≤ 6000000) ∧ (0 ≤ p 5 ∧ p 5 ≤ p 6 ∧ p 6 ≤ 6000000) ∧ 0 ≤ p 7 ∧ p 7 ≤ p 8 ∧ p 8 ≤ 6000000 := by
  obtain ⟨a, k⟩ := (packOk_iff p).1 hp
  unfold okF at a
  rcases k with k | k | k <;> omega
theorem bet_nar {p : Nat → Int} {n : Nat} {u : Nat → Int} (hp : packOk p = true) : NarP p (betP p n u) := by
  obtain ⟨h1, h2, h3, h4⟩ := bet_spans hp
  exact ⟨fun j hj => by rcases hj with rfl | rfl | rfl <;> rfl, nar_in (i := 0) h1.2.1, nar_in (i := 1) h2.2.1, nar_in (i := 2) h3.2.1, nar_in (i := 3) h4.2.1⟩
def betK (pk : Nat → Nat → Int) (q n : Nat) (u : Nat → Int) (k : Nat) : Nat → Int := if k = q then betP (pk k) n u else pk k
theorem betK_nar {np : Nat} {pk : Nat → Nat → Int} {q n : Nat} {u : Nat → Int} (hp : ∀ k, k < np → packOk (pk k) = true) : ∀ k, k < np → NarP (pk k) (betK pk q n u k) := fun k hk => by
  unfold betK
  split
  · exact bet_nar (hp k hk)
  · exact NarP.refl (hp k hk)
end Go.Proofs.YtjephihlkjpohaaGreatDoor
namespace Go.Proofs.YtjephihlkjpohaaGreatDoor
set_option linter.all false
set_option linter.unusedVariables false
set_option linter.unusedSimpArgs false
open Go.RowKit
theorem great_no {np m : Nat} {l : Nat → Nat → Nat} (h : greatB np m l = false) : np ≤ 40 ∧ m ≤ 12 ∧ ∀ i, i < m → tot (l i) 3 ≤ 48 := by
  simp only [greatB, Bool.or_eq_false_iff, decide_eq_false_iff_not, anyB_false] at h
  refine ⟨by omega, by omega, fun i hi => ?_⟩
  have := h.2 i hi
  simp only [bigT, Bool.or_eq_false_iff, decide_eq_false_iff_not] at this
  rw [tot3]
  omega
end Go.Proofs.YtjephihlkjpohaaGreatDoor
namespace Go.Proofs.YtjephihlkjpohaaGreatDoor
set_option linter.all false
set_option linter.unusedVariables false
set_option linter.unusedSimpArgs false
open Go.RowKit
set_option maxRecDepth 100000 in
set_option maxHeartbeats 4000000 in
theorem lawNarrow_any {w : World} {A B : Option Addr} {np cp n cb : Nat} {pk : Nat → Nat → Int} {a : Nat → Option Addr} {l c : Nat → Nat} {v : Nat → Nat → Int} {u : Nat → Int} {b which : Int}
    (hG : None0 w) (hR : RdR w 11 A np (fun k => packL (pk k))) (hI : ∀ j, j < 3 → RdR w 1 (a j) (l j) (fun k => [.int .i64 (v j k)])) (hwh : 0 ≤ which ∧ which ≤ 255) (hn : n ≤ cb) (hU : U32 n u) (hB : RdR w 1 B n (fun k => [.int .u32 (u k)])) :
    Calls Tryz.prog 7 #[.slice A np cp, .agg (tieL a l c).toArray, .int .i64 b, .int .u8 which, .slice B n cb] w (Ret w (.bool true)) := by
  refine K_enter (S := []) (K := []) Tryz.func7 rfl Tryz.ntmps7 rfl (Sat.start _) ?_
  refine TW.seq fun Y1 hY1 => ?_
  refine TW.region ?_
  refine TL.m Mk.bx ?_
  intro b1
  refine TL.m Mk.bx ?_
  intro b2
  refine TL.p Pu.as ?_
  refine TL.nil ?_
  refine TQ.thenN (hY1 _ _ ?_)
  refine TW.seq fun Y2 hY2 => ?_
  refine TW.region ?_
  refine TL.cr rfl (enters Tryz.func21 rfl rfl) (fun w hw => by
      exact alive_any _ (hG.sat hw (by simp))) ?_
  refine TL.p Pu.as ?_
  refine TL.nil ?_
  refine TQ.thenN (hY2 _ _ ?_)
  refine TW.seq fun Y3 hY3 => ?_
  refine TW.seq fun Y4 hY4 => ?_
  refine TW.region ?_
  refine TL.p Pu.mv ?_
  refine TL.p (Pu.lds ty_ag36) ?_
  refine TL.m Mk.bl ?_
  intro b3
  refine TL.cr rfl (enters Tryz.func13 rfl rfl) (fun w hw => by
      exact great_any (m := 1) (a := fun _ => a) (l := fun _ => l) (c := fun _ => c) (RdR.blk (n := 1) (cs := tieL a l c) (E := 36) (hw.holds (.blk b3 36 (tieL a l c)) (by simp [tieL])) rfl (fun i _ => rfl))) ?_
  refine TL.p Pu.mv ?_
  refine TL.guard (t := 37) rfl (fun hg1 => ?_) (fun hg1 => ?_)
  · try simp only [decide_eq_true_eq, decide_eq_false_iff_not, Bool.not_eq_true', Bool.not_eq_false', Int.natCast_pos] at hg1
    refine TL.gs ?_
    refine TL.gs ?_
    refine TL.gs ?_
    refine TL.p Pu.kt ?_
    refine TL.p Pu.mv ?_
    refine TL.gs ?_
    refine TL.gs ?_
    refine TL.gs ?_
    refine TL.gs ?_
    refine TL.gs ?_
    refine TL.p Pu.kt ?_
    refine TL.p Pu.mv ?_
    refine TL.gs ?_
    refine TL.gs ?_
    refine TL.p Pu.kt ?_
    refine TL.p Pu.mv ?_
    refine TL.gs ?_
    refine TL.gs ?_
    refine TL.p Pu.kt ?_
    refine TL.p Pu.mv ?_
    refine TL.gs ?_
    refine TL.gs ?_
    refine TL.p Pu.kt ?_
    refine TL.nil ?_
    refine TQ.thenN (hY4 _ _ ?_)
    refine TW.condT rfl rfl ?_
    refine TW.seq fun Y5 hY5 => ?_
    refine TW.region ?_
    refine TL.p Pu.mv ?_
    refine TL.p Pu.as ?_
    refine TL.nil ?_
    refine TQ.thenN (hY5 _ _ ?_)
    refine TW.ret ?_
    refine TQ.thenR ?_
    refine TQ.ret Tryz.results7 rfl ((.tmp rfl .nil)) ?_
    refine fun w hw => ⟨?_, Chg.ext hw.chg⟩
    refine congrArg (fun b => Ending.returned (Value.bool b)) ?_
    first
      | rfl
      | (simp; omega)
      | omega
  · try simp only [decide_eq_true_eq, decide_eq_false_iff_not, Bool.not_eq_true', Bool.not_eq_false', Int.natCast_pos] at hg1
    refine TL.gd Pu.mv ?_
    refine TL.gd (Pu.ln Tryz.underlying22) ?_
    refine TL.gd Pu.eq ?_
    refine TL.p Pu.kf ?_
    refine TL.p Pu.mv ?_
    refine TL.guard (t := 42) rfl (fun hg2 => ?_) (fun hg2 => ?_)
    · try simp only [decide_eq_true_eq, decide_eq_false_iff_not, Bool.not_eq_true', Bool.not_eq_false', Int.natCast_pos] at hg2
      refine TL.gs ?_
      refine TL.gs ?_
      refine TL.gs ?_
      refine TL.gs ?_
      refine TL.gs ?_
      refine TL.p Pu.kt ?_
      refine TL.p Pu.mv ?_
      refine TL.gs ?_
      refine TL.gs ?_
      refine TL.p Pu.kt ?_
      refine TL.p Pu.mv ?_
      refine TL.gs ?_
      refine TL.gs ?_
      refine TL.p Pu.kt ?_
      refine TL.p Pu.mv ?_
      refine TL.gs ?_
      refine TL.gs ?_
      refine TL.p Pu.kt ?_
      refine TL.nil ?_
      refine TQ.thenN (hY4 _ _ ?_)
      refine TW.condT rfl rfl ?_
      refine TW.seq fun Y6 hY6 => ?_
      refine TW.region ?_
      refine TL.p Pu.mv ?_
      refine TL.p Pu.as ?_
      refine TL.nil ?_
      refine TQ.thenN (hY6 _ _ ?_)
      refine TW.ret ?_
      refine TQ.thenR ?_
      refine TQ.ret Tryz.results7 rfl ((.tmp rfl .nil)) ?_
      refine fun w hw => ⟨?_, Chg.ext hw.chg⟩
      refine congrArg (fun b => Ending.returned (Value.bool b)) ?_
      first
        | rfl
        | (simp; omega)
        | omega
    · try simp only [decide_eq_true_eq, decide_eq_false_iff_not, Bool.not_eq_true', Bool.not_eq_false', Int.natCast_pos] at hg2
      have hno : greatB np 1 (fun _ => l) = false := hg1
      obtain ⟨hnp40, hm12, hl48⟩ := great_no hno
      have hl48 := hl48 0 (by omega)
      have hL : Lay1 w A np pk a l v := ⟨hG, by omega, hR, hI, by omega⟩
      refine TL.gd Pu.mv ?_
      refine TL.gd (Pu.lds ty_ag36) ?_
      refine TL.gm Mk.bl ?_
      intro b4
      refine TL.cr rfl (enters Tryz.func27 rfl rfl) (fun w hw => by
          exact refCheck1_any (E := 36) (c := c) (hL.ext (Chg.ext hw.chg)) (hw.holds (.blk b4 36 (tieL a l c)) (by simp [tieL]))) ?_
      refine TL.gd Pu.ne ?_
      refine TL.p Pu.kf ?_
      refine TL.p Pu.mv ?_
      refine TL.guard (t := 49) rfl (fun hg3 => ?_) (fun hg3 => ?_)
      · try simp only [decide_eq_true_eq, decide_eq_false_iff_not, Bool.not_eq_true', Bool.not_eq_false', Int.natCast_pos] at hg3
        refine TL.gs ?_
        refine TL.gs ?_
        refine TL.p Pu.kt ?_
        refine TL.p Pu.mv ?_
        refine TL.gs ?_
        refine TL.gs ?_
        refine TL.p Pu.kt ?_
        refine TL.p Pu.mv ?_
        refine TL.gs ?_
        refine TL.gs ?_
        refine TL.p Pu.kt ?_
        refine TL.nil ?_
        refine TQ.thenN (hY4 _ _ ?_)
        refine TW.condT rfl rfl ?_
        refine TW.seq fun Y7 hY7 => ?_
        refine TW.region ?_
        refine TL.p Pu.mv ?_
        refine TL.p Pu.as ?_
        refine TL.nil ?_
        refine TQ.thenN (hY7 _ _ ?_)
        refine TW.ret ?_
        refine TQ.thenR ?_
        refine TQ.ret Tryz.results7 rfl ((.tmp rfl .nil)) ?_
        refine fun w hw => ⟨?_, Chg.ext hw.chg⟩
        refine congrArg (fun b => Ending.returned (Value.bool b)) ?_
        first
          | rfl
          | (simp; omega)
          | omega
      · try simp only [decide_eq_true_eq, decide_eq_false_iff_not, Bool.not_eq_true', Bool.not_eq_false', Int.natCast_pos] at hg3
        refine TL.gd Pu.mv ?_
        refine TL.gd Pu.lt ?_
        refine TL.p Pu.kf ?_
        refine TL.p Pu.mv ?_
        refine TL.guard (t := 53) rfl (fun hg4 => ?_) (fun hg4 => ?_)
        · try simp only [decide_eq_true_eq, decide_eq_false_iff_not, Bool.not_eq_true', Bool.not_eq_false', Int.natCast_pos] at hg4
          refine TL.gs ?_
          refine TL.gs ?_
          refine TL.p Pu.kt ?_
          refine TL.p Pu.mv ?_
          refine TL.gs ?_
          refine TL.gs ?_
          refine TL.p Pu.kt ?_
          refine TL.nil ?_
          refine TQ.thenN (hY4 _ _ ?_)
          refine TW.condT rfl rfl ?_
          refine TW.seq fun Y8 hY8 => ?_
          refine TW.region ?_
          refine TL.p Pu.mv ?_
          refine TL.p Pu.as ?_
          refine TL.nil ?_
          refine TQ.thenN (hY8 _ _ ?_)
          refine TW.ret ?_
          refine TQ.thenR ?_
          refine TQ.ret Tryz.results7 rfl ((.tmp rfl .nil)) ?_
          refine fun w hw => ⟨?_, Chg.ext hw.chg⟩
          refine congrArg (fun b => Ending.returned (Value.bool b)) ?_
          first
            | rfl
            | (simp; omega)
            | omega
        · try simp only [decide_eq_true_eq, decide_eq_false_iff_not, Bool.not_eq_true', Bool.not_eq_false', Int.natCast_pos] at hg4
          refine TL.gd Pu.mv ?_
          refine TL.gd Pu.gt ?_
          refine TL.p Pu.kf ?_
          refine TL.p Pu.mv ?_
          refine TL.guard (t := 57) rfl (fun hg5 => ?_) (fun hg5 => ?_)
          · try simp only [decide_eq_true_eq, decide_eq_false_iff_not, Bool.not_eq_true', Bool.not_eq_false', Int.natCast_pos] at hg5
            refine TL.gs ?_
            refine TL.gs ?_
            refine TL.p Pu.kt ?_
            refine TL.nil ?_
            refine TQ.thenN (hY4 _ _ ?_)
            refine TW.condT rfl rfl ?_
            refine TW.seq fun Y9 hY9 => ?_
            refine TW.region ?_
            refine TL.p Pu.mv ?_
            refine TL.p Pu.as ?_
            refine TL.nil ?_
            refine TQ.thenN (hY9 _ _ ?_)
            refine TW.ret ?_
            refine TQ.thenR ?_
            refine TQ.ret Tryz.results7 rfl ((.tmp rfl .nil)) ?_
            refine fun w hw => ⟨?_, Chg.ext hw.chg⟩
            refine congrArg (fun b => Ending.returned (Value.bool b)) ?_
            first
              | rfl
              | (simp; omega)
              | omega
          · try simp only [decide_eq_true_eq, decide_eq_false_iff_not, Bool.not_eq_true', Bool.not_eq_false', Int.natCast_pos] at hg5
            refine TL.gd Pu.mv ?_
            refine TL.gd Pu.no ?_
            refine TL.p Pu.kf ?_
            refine TL.nil ?_
            refine TQ.thenN (hY4 _ _ ?_)
            refine TW.condF rfl rfl ?_
            refine TW.skip ?_
            refine TQ.thenN (hY3 _ _ ?_)
            refine TW.seq fun Y10 hY10 => ?_
            refine TW.region ?_
            have hc : check1 np pk l v = 0 := by simpa using hg3
            have hb : 0 ≤ b ∧ b ≤ 1000000000 := by omega
            have hp0 : 0 < np := by omega
            obtain ⟨k1, k2, k3, k4⟩ := check1_ok hc
            have hq1 := Int.emod_nonneg which (b := (np : Int)) (by omega)
            have hq2 := Int.emod_lt_of_pos which (b := (np : Int)) (by omega)
            obtain ⟨q, hq⟩ : ∃ q : Nat, which % (np : Int) = q := ⟨(which % (np : Int)).toNat, by omega⟩
            have hqn : q < np := by omega
            have hpq := k2 q hqn
            obtain ⟨s1, s2, s3, s4⟩ := bet_spans hpq
            have hnar := betK_nar (q := q) (n := n) (u := u) k2
            obtain ⟨x0, x1, x2, x3, x4, y0, y1, y2, y3, y4, hx, hy, i0, i1, i2, i3, i4⟩ := nar_two (hnar q hqn) hpq
            obtain ⟨ak1, ak2, hbal⟩ := nar_balR hc hb hnar
            have hset := nar_sett hc hb hnar
            have hc2 := nar_check hc hnar
            refine TL.p Pu.fn ?_
            refine TL.p Pu.as ?_
            refine TL.nil ?_
            refine TQ.thenN (hY10 _ _ ?_)
            refine TW.seq fun Y11 hY11 => ?_
            refine TW.region ?_
            refine TL.m Mk.bl ?_
            intro b5
            refine TL.p Pu.mv ?_
            refine TL.ob (b := b5) (sz := 11) (r := fun _ => []) (by repeat (first | exact Pick.hd | apply Pick.tl)) rfl ?_
            first | refine TL.a0 ty_et22 ?_ | refine TL.ap ty_et22 ?_
            intro A6 c6
            refine TL.p Pu.as ?_
            refine TL.nil ?_
            refine TQ.thenN (hY11 _ _ ?_)
            refine TW.seq fun Y12 hY12 => ?_
            refine TW.region ?_
            refine TL.some (by repeat (first | exact Pick.hd | apply Pick.tl)) hp0 (fun gB hgB => ?_)
            subst hgB
            refine TL.p Pu.mv ?_
            refine TL.p Pu.mv ?_
            refine TL.p (Pu.cv (v := .int .i64 which) rfl (fun w => by go_simp; rw [IntWalk.i64_in which (by omega)])) ?_
            refine TL.p Pu.mv ?_
            refine TL.p (Pu.ln Tryz.underlying22) ?_
            refine TL.p Pu.rm ?_
            refine TL.p (Pu.el (q := q) ty_et22 (hk := by omega)) ?_
            refine TL.p Pu.as ?_
            refine TL.nil ?_
            refine TQ.thenN (hY12 _ _ ?_)
            refine TW.seq fun Y13 hY13 => ?_
            refine TW.region ?_
            refine TL.p Pu.mv ?_
            refine TL.p (by first | exact Pu.nn | exact Pu.nc) ?_
            refine TL.p (Pu.lds ty_ag45) ?_
            refine TL.m (Mk.al ty_zr45) ?_
            intro b7
            first | refine TL.st ty_sz45 ?_ | refine TL.se ty_sz45 ?_
            refine TL.nil ?_
            refine TQ.thenN (hY13 _ _ ?_)
            refine TW.seq fun Y14 hY14 => ?_
            refine TW.exu 30 [.own (some ⟨gB, 0, none⟩) np c6 45 11 (fun k => packL (pk k))] ?_
            refine RU.tm 0 rfl Pu.mv ?_
            refine RU.tm 1 rfl Pu.mv ?_
            refine RU.tm 2 rfl Pu.mv ?_
            refine RU.tm 3 rfl Pu.mv ?_
            refine RU.tm 4 rfl Pu.mv ?_
            refine RU.tm 5 rfl Pu.mv ?_
            refine RU.tm 6 rfl (by first | exact Pu.nn | exact Pu.nc) ?_
            refine RU.tm 7 rfl (by first | exact Pu.fb ty_fa45_1 | exact Pu.fs ty_fa45_1) ?_
            refine RU.tk 8 rfl (Pu.lds ty_ag43) ?_
            refine RU.tm 10 rfl Pu.mv ?_
            refine RU.tm 11 rfl Pu.mv ?_
            refine RU.tm 12 rfl (by first | exact Pu.nn | exact Pu.nc) ?_
            refine RU.tm 13 rfl (by first | exact Pu.fb ty_fa45_2 | exact Pu.fs ty_fa45_2) ?_
            refine RU.tk 14 rfl (Pu.lds ty_ag43) ?_
            refine RU.tm 16 rfl Pu.mv ?_
            refine RU.tm 17 rfl Pu.mv ?_
            refine RU.tm 18 rfl (by first | exact Pu.nn | exact Pu.nc) ?_
            refine RU.tm 19 rfl (by first | exact Pu.fb ty_fa45_3 | exact Pu.fs ty_fa45_3) ?_
            refine RU.tk 20 rfl (Pu.lds ty_ag43) ?_
            refine RU.tm 22 rfl Pu.mv ?_
            refine RU.tm 23 rfl Pu.mv ?_
            refine RU.tm 24 rfl (by first | exact Pu.nn | exact Pu.nc) ?_
            refine RU.tm 25 rfl (by first | exact Pu.fb ty_fa45_4 | exact Pu.fs ty_fa45_4) ?_
            refine RU.tk 26 rfl (Pu.lds ty_ag43) ?_
            refine RU.a1 9 rfl (fun X9 hX9 => ?_)
            refine TL.cv rfl rfl (enters Tryz.func30 rfl rfl) (fun w hw => by
                exact narPart_any 0 (by omega) (OldB.of_blk (hw.holds (.blk b2 46 [.slice B n cb]) (by simp))) hn hU (hB.sat hw Apart.nil) s1) ?_
            refine TL.nil ?_
            refine TQ.nxt (hX9 _ _ (by repeat (first | exact HasL.nil | refine HasL.cons (by repeat (first | exact Pick.hd | apply Pick.tl)) ?_)) ?_)
            refine RU.a1 15 rfl (fun X15 hX15 => ?_)
            refine TL.cv rfl rfl (enters Tryz.func30 rfl rfl) (fun w hw => by
                exact narPart_any 1 (by omega) (OldB.of_blk (hw.holds (.blk b2 46 [.slice B n cb]) (by simp))) hn hU (hB.sat hw Apart.nil) s2) ?_
            refine TL.nil ?_
            refine TQ.nxt (hX15 _ _ (by repeat (first | exact HasL.nil | refine HasL.cons (by repeat (first | exact Pick.hd | apply Pick.tl)) ?_)) ?_)
            refine RU.a1 21 rfl (fun X21 hX21 => ?_)
            refine TL.cv rfl rfl (enters Tryz.func30 rfl rfl) (fun w hw => by
                exact narPart_any 2 (by omega) (OldB.of_blk (hw.holds (.blk b2 46 [.slice B n cb]) (by simp))) hn hU (hB.sat hw Apart.nil) s3) ?_
            refine TL.nil ?_
            refine TQ.nxt (hX21 _ _ (by repeat (first | exact HasL.nil | refine HasL.cons (by repeat (first | exact Pick.hd | apply Pick.tl)) ?_)) ?_)
            refine RU.a1 27 rfl (fun X27 hX27 => ?_)
            refine TL.cv rfl rfl (enters Tryz.func30 rfl rfl) (fun w hw => by
                exact narPart_any 3 (by omega) (OldB.of_blk (hw.holds (.blk b2 46 [.slice B n cb]) (by simp))) hn hU (hB.sat hw Apart.nil) s4) ?_
            refine TL.nil ?_
            refine TQ.nxt (hX27 _ _ (by repeat (first | exact HasL.nil | refine HasL.cons (by repeat (first | exact Pick.hd | apply Pick.tl)) ?_)) ?_)
            refine RU.tm 28 rfl (by first | exact Pu.nn | exact Pu.nc) ?_
            refine RU.tm 29 rfl (by first | exact Pu.fb ty_fa45_1 | exact Pu.fs ty_fa45_1) ?_
            refine RU.st rfl (fun X30 hX30 => ?_)
            first | refine TL.st ty_sz43 ?_ | refine TL.se ty_sz43 ?_
            refine TL.nil ?_
            refine TQ.nxt (hX30 _ _ ?_)
            refine RG.a1 31 rfl (fun X31 hX31 => ?_)
            refine TL.p (by first | exact Pu.nn | exact Pu.nc) ?_
            refine TL.nil ?_
            refine TQ.nxt (hX31 _ _ (by repeat (first | exact HasL.nil | refine HasL.cons (by repeat (first | exact Pick.hd | apply Pick.tl)) ?_)) ?_)
            refine RG.tk 32 rfl (by first | exact Pu.fb ty_fa45_2 | exact Pu.fs ty_fa45_2) ?_
            refine RG.a1 33 rfl (fun X33 hX33 => ?_)
            refine TL.se ty_sz43 ?_ (hput := by rw [updR_same]; repeat (first | exact PutL.nil | apply PutL.put | apply PutL.pass))
            refine TL.nil ?_
            refine TQ.nxt (hX33 _ _ (by repeat (first | exact HasL.nil | refine HasL.cons (by repeat (first | exact Pick.hd | apply Pick.tl)) ?_)) ?_)
            refine RG.a1 34 rfl (fun X34 hX34 => ?_)
            refine TL.p (by first | exact Pu.nn | exact Pu.nc) ?_
            refine TL.nil ?_
            refine TQ.nxt (hX34 _ _ (by repeat (first | exact HasL.nil | refine HasL.cons (by repeat (first | exact Pick.hd | apply Pick.tl)) ?_)) ?_)
            refine RG.tk 35 rfl (by first | exact Pu.fb ty_fa45_3 | exact Pu.fs ty_fa45_3) ?_
            refine RG.a1 36 rfl (fun X36 hX36 => ?_)
            refine TL.se ty_sz43 ?_ (hput := by rw [updR_same]; repeat (first | exact PutL.nil | apply PutL.put | apply PutL.pass))
            refine TL.nil ?_
            refine TQ.nxt (hX36 _ _ (by repeat (first | exact HasL.nil | refine HasL.cons (by repeat (first | exact Pick.hd | apply Pick.tl)) ?_)) ?_)
            refine RG.a1 37 rfl (fun X37 hX37 => ?_)
            refine TL.p (by first | exact Pu.nn | exact Pu.nc) ?_
            refine TL.nil ?_
            refine TQ.nxt (hX37 _ _ (by repeat (first | exact HasL.nil | refine HasL.cons (by repeat (first | exact Pick.hd | apply Pick.tl)) ?_)) ?_)
            refine RG.tk 38 rfl (by first | exact Pu.fb ty_fa45_4 | exact Pu.fs ty_fa45_4) ?_
            refine RG.a1 39 rfl (fun X39 hX39 => ?_)
            refine TL.se ty_sz43 ?_ (hput := by rw [updR_same]; repeat (first | exact PutL.nil | apply PutL.put | apply PutL.pass))
            refine TL.nil ?_
            refine TQ.nxt (hX39 _ _ (by repeat (first | exact HasL.nil | refine HasL.cons (by repeat (first | exact Pick.hd | apply Pick.tl)) ?_)) ?_)
            refine RG.nil ?_ (by kernel_rfl)
            refine TQ.thenN (hY14 _ _ ?_)
            refine TW.seq fun Y15 hY15 => ?_
            refine TW.region ?_
            refine TL.subK (KSub.own (s := fun k => packL (betK pk q n u k)) (by repeat (first | exact Pick.hd | apply Pick.tl)) (fun i hi => ?_) (KSub.refl _)) ?_
            · unfold updR betK
              by_cases h : i = q
              · subst h
                simp only [if_true]
                rfl
              · simp only [if_neg h]
            refine TL.p (Pu.lds ty_ag45) ?_
            refine TL.cr rfl (enters Tryz.func23 rfl rfl) (fun w hw => by
                have h := rest_any (pk q) w (hG.sat hw (by simp)); rw [hx] at h; exact h) ?_
            refine TL.p Pu.mv ?_
            refine TL.p Pu.ex ?_
            refine TL.p Pu.ex ?_
            refine TL.p Pu.ex ?_
            refine TL.p Pu.ex ?_
            refine TL.m (Mk.al ty_zr43) ?_
            intro b8
            refine TL.m (Mk.al ty_zr43) ?_
            intro b9
            first | refine TL.st ty_sz43 ?_ | refine TL.se ty_sz43 ?_
            first | refine TL.st ty_sz43 ?_ | refine TL.se ty_sz43 ?_
            refine TL.p Pu.as ?_
            refine TL.p Pu.as ?_
            refine TL.nil ?_
            refine TQ.thenN (hY15 _ _ ?_)
            refine TW.seq fun Y16 hY16 => ?_
            refine TW.region ?_
            refine TL.p Pu.mv ?_
            refine TL.p (by first | exact Pu.nn | exact Pu.nc) ?_
            refine TL.p (Pu.lds ty_ag45) ?_
            refine TL.cr rfl (enters Tryz.func23 rfl rfl) (fun w hw => by
                have h := rest_any (betK pk q n u q) w (hG.sat hw (by simp)); rw [hy] at h; exact h) ?_
            refine TL.p Pu.mv ?_
            refine TL.p Pu.ex ?_
            refine TL.p Pu.ex ?_
            refine TL.p Pu.ex ?_
            refine TL.p Pu.ex ?_
            refine TL.m (Mk.al ty_zr43) ?_
            intro b10
            refine TL.m (Mk.al ty_zr43) ?_
            intro b11
            first | refine TL.st ty_sz43 ?_ | refine TL.se ty_sz43 ?_
            first | refine TL.st ty_sz43 ?_ | refine TL.se ty_sz43 ?_
            refine TL.p Pu.as ?_
            refine TL.p Pu.as ?_
            refine TL.nil ?_
            refine TQ.thenN (hY16 _ _ ?_)
            refine TW.seq fun Y17 hY17 => ?_
            refine TW.seq fun Y18 hY18 => ?_
            refine TW.region ?_
            refine TL.p Pu.mv ?_
            refine TL.p Pu.ne ?_
            refine TL.p Pu.mv ?_
            refine TL.lit (t := 130) (b' := false) rfl (rfl) ?_
            refine TL.gd Pu.mv ?_
            refine TL.gd Pu.ne ?_
            refine TL.p Pu.kf ?_
            refine TL.p Pu.mv ?_
            refine TL.lit (t := 134) (b' := false) rfl (rfl) ?_
            refine TL.gd (Pu.lds ty_ag43) ?_
            refine TL.gd (Pu.lds ty_ag43) ?_
            refine TL.cr rfl (enters Tryz.func32 rfl rfl) (fun w hw => by
                exact within2_any _ _ _ _ _) ?_
            refine TL.gd Pu.no ?_
            refine TL.p Pu.kf ?_
            refine TL.p Pu.mv ?_
            refine TL.lit (t := 140) (b' := false) rfl ((by simp; omega)) ?_
            refine TL.gd (Pu.lds ty_ag43) ?_
            refine TL.gd (Pu.lds ty_ag43) ?_
            refine TL.cr rfl (enters Tryz.func32 rfl rfl) (fun w hw => by
                exact within2_any _ _ _ _ _) ?_
            refine TL.gd Pu.no ?_
            refine TL.p Pu.kf ?_
            refine TL.p Pu.mv ?_
            refine TL.lit (t := 146) (b' := false) rfl ((by simp; omega)) ?_
            refine TL.gd Pu.mv ?_
            refine TL.gd Pu.ne ?_
            refine TL.gd Pu.mv ?_
            refine TL.guard (t := 149) rfl (fun hg6 => ?_) (fun hg6 => ?_)
            · try simp only [decide_eq_true_eq, decide_eq_false_iff_not, Bool.not_eq_true', Bool.not_eq_false', Int.natCast_pos] at hg6
              refine TL.gd Pu.mv ?_
              refine TL.gd Pu.mv ?_
              refine TL.gd Pu.ne ?_
              refine TL.gd Pu.kt ?_
              refine TL.p Pu.kf ?_
              refine TL.nil ?_
              refine TQ.thenN (hY18 _ _ ?_)
              refine TW.condF rfl ((by first | rfl | (simp; omega) | simp)) ?_
              refine TW.skip ?_
              refine TQ.thenN (hY17 _ _ ?_)
              refine TW.seq fun Y19 hY19 => ?_
              refine TW.region ?_
              refine TL.p Pu.mv ?_
              refine TL.p (Pu.lds ty_ag36) ?_
              refine TL.p Pu.mv ?_
              refine TL.cr rfl (enters Tryz.func28 rfl rfl) (fun w hw => by
                  have h := loadBalance_any (cp := cp) (c := c) (b := b) (hL.sat hw); rw [ak1] at h; exact h) ?_
              refine TL.p Pu.mv ?_
              refine TL.p Pu.ex ?_
              refine TL.p Pu.ex ?_
              refine TL.p Pu.as ?_
              refine TL.p Pu.as ?_
              refine TL.nil ?_
              refine TQ.thenN (hY19 _ _ ?_)
              refine TW.seq fun Y20 hY20 => ?_
              refine TW.region ?_
              refine TL.p Pu.mv ?_
              refine TL.p (Pu.lds ty_ag36) ?_
              refine TL.p Pu.mv ?_
              refine TL.cr rfl (enters Tryz.func28 rfl rfl) (fun w hw => by
                  have hLw := hL.sat hw
                  have h := loadBalance_any (A := some ⟨gB, 0, none⟩) (pk := betK pk q n u) (cp := c6) (c := c) (b := b) ⟨hLw.hG, hLw.hnp, OwnR.rdr (hw.holds (.own (some ⟨gB, 0, none⟩) np c6 45 11 (fun k => packL (betK pk q n u k))) (by simp)), hLw.hI, hLw.hL⟩
                  rw [ak2] at h
                  exact h) ?_
              refine TL.p Pu.mv ?_
              refine TL.p Pu.ex ?_
              refine TL.p Pu.ex ?_
              refine TL.p Pu.as ?_
              refine TL.p Pu.as ?_
              refine TL.nil ?_
              refine TQ.thenN (hY20 _ _ ?_)
              refine TW.seq fun Y21 hY21 => ?_
              refine TW.seq fun Y22 hY22 => ?_
              refine TW.region ?_
              refine TL.p Pu.mv ?_
              refine TL.p Pu.ne ?_
              refine TL.p Pu.mv ?_
              refine TL.lit (t := 171) (b' := false) rfl (rfl) ?_
              refine TL.gd Pu.mv ?_
              refine TL.gd Pu.ne ?_
              refine TL.p Pu.kf ?_
              refine TL.p Pu.mv ?_
              refine TL.lit (t := 175) (b' := false) rfl (rfl) ?_
              refine TL.gd Pu.mv ?_
              refine TL.gd Pu.ne ?_
              refine TL.gd Pu.mv ?_
              refine TL.guard (t := 178) rfl (fun hg7 => ?_) (fun hg7 => ?_)
              · try simp only [decide_eq_true_eq, decide_eq_false_iff_not, Bool.not_eq_true', Bool.not_eq_false', Int.natCast_pos] at hg7
                refine TL.gd Pu.mv ?_
                refine TL.gd Pu.mv ?_
                refine TL.gd Pu.ne ?_
                refine TL.gd Pu.kt ?_
                refine TL.p Pu.kf ?_
                refine TL.nil ?_
                refine TQ.thenN (hY22 _ _ ?_)
                refine TW.condF rfl ((by first | rfl | (simp; omega) | simp)) ?_
                refine TW.skip ?_
                refine TQ.thenN (hY21 _ _ ?_)
                refine TW.seq fun Y23 hY23 => ?_
                refine TW.region ?_
                refine TL.p Pu.mv ?_
                refine TL.p (Pu.lds ty_ag36) ?_
                refine TL.p Pu.mv ?_
                refine TL.call (M := []) rfl (enters Tryz.func19 rfl rfl) (List.Perm.refl _) rfl (fun w hw => by
                    exact loadSettle_any (hL.sat hw)) ?_
                rintro ⟨As, cs⟩
                refine TL.p Pu.mv ?_
                refine TL.p Pu.ex ?_
                refine TL.p Pu.ex ?_
                refine TL.p Pu.as ?_
                refine TL.p Pu.as ?_
                refine TL.nil ?_
                refine TQ.thenN (hY23 _ _ ?_)
                refine TW.seq fun Y24 hY24 => ?_
                refine TW.region ?_
                refine TL.p Pu.mv ?_
                refine TL.p (Pu.lds ty_ag36) ?_
                refine TL.p Pu.mv ?_
                refine TL.call (M := []) rfl (enters Tryz.func19 rfl rfl) (List.Perm.refl _) rfl (fun w hw => by
                    have hLw := hL.sat hw
                    exact loadSettle_any (A := some ⟨gB, 0, none⟩) (pk := betK pk q n u) (cp := c6) ⟨hLw.hG, hLw.hnp, OwnR.rdr (hw.holds (.own (some ⟨gB, 0, none⟩) np c6 45 11 (fun k => packL (betK pk q n u k))) (by simp)), hLw.hI, hLw.hL⟩) ?_
                rintro ⟨Az, cz⟩
                refine TL.p Pu.mv ?_
                refine TL.p Pu.ex ?_
                refine TL.p Pu.ex ?_
                refine TL.p Pu.as ?_
                refine TL.p Pu.as ?_
                refine TL.nil ?_
                refine TQ.thenN (hY24 _ _ ?_)
                refine TW.seq fun Y25 hY25 => ?_
                refine TW.region ?_
                refine TL.p Pu.mv ?_
                refine TL.p Pu.mv ?_
                refine TL.lit (t := 199) (b' := true) rfl (rfl) ?_
                refine TL.gd Pu.mv ?_
                refine TL.gd Pu.ne ?_
                refine TL.gd Pu.mv ?_
                refine TL.guard (t := 202) rfl (fun hg8 => ?_) (fun hg8 => ?_)
                · try simp only [decide_eq_true_eq, decide_eq_false_iff_not, Bool.not_eq_true', Bool.not_eq_false', Int.natCast_pos] at hg8
                  refine TL.gs ?_
                  refine TL.gs ?_
                  refine TL.gs ?_
                  refine TL.gs ?_
                  refine TL.gs ?_
                  refine TL.gs ?_
                  refine TL.gs ?_
                  refine TL.gs ?_
                  refine TL.gs ?_
                  refine TL.gd Pu.kt ?_
                  refine TL.p Pu.kt ?_
                  refine TL.p Pu.as ?_
                  refine TL.nil ?_
                  refine TQ.thenN (hY25 _ _ ?_)
                  refine TW.ret ?_
                  refine TQ.ret Tryz.results7 rfl ((.tmp rfl .nil)) ?_
                  refine fun w hw => ⟨?_, Chg.ext hw.chg⟩
                  refine congrArg (fun b => Ending.returned (Value.bool b)) ?_
                  first
                    | rfl
                    | (simp; omega)
                    | omega
                · try simp only [decide_eq_true_eq, decide_eq_false_iff_not, Bool.not_eq_true', Bool.not_eq_false', Int.natCast_pos] at hg8
                  refine TL.gd Pu.mv ?_
                  refine TL.gd Pu.eq ?_
                  refine TL.gd Pu.mv ?_
                  refine TL.guard (t := 205) rfl (fun hg9 => ?_) (fun hg9 => ?_)
                  · try simp only [decide_eq_true_eq, decide_eq_false_iff_not, Bool.not_eq_true', Bool.not_eq_false', Int.natCast_pos] at hg9
                    refine TL.gd Pu.mv ?_
                    refine TL.gd (Pu.ln Tryz.underlying24) ?_
                    refine TL.gd Pu.mv ?_
                    refine TL.gd (Pu.ln Tryz.underlying24) ?_
                    refine TL.gd Pu.le ?_
                    refine TL.gd Pu.kt ?_
                    refine TL.gd Pu.kf ?_
                    refine TL.p Pu.kt ?_
                    refine TL.p Pu.as ?_
                    refine TL.nil ?_
                    refine TQ.thenN (hY25 _ _ ?_)
                    refine TW.ret ?_
                    refine TQ.ret Tryz.results7 rfl ((.tmp rfl .nil)) ?_
                    refine fun w hw => ⟨?_, Chg.ext hw.chg⟩
                    refine congrArg (fun b => Ending.returned (Value.bool b)) ?_
                    first
                      | rfl
                      | (simp; omega)
                      | omega
                  · try simp only [decide_eq_true_eq, decide_eq_false_iff_not, Bool.not_eq_true', Bool.not_eq_false', Int.natCast_pos] at hg9
                    refine TL.gs ?_
                    refine TL.gs ?_
                    refine TL.gs ?_
                    refine TL.gs ?_
                    refine TL.gs ?_
                    refine TL.gd Pu.kf ?_
                    refine TL.gd Pu.kf ?_
                    refine TL.p Pu.kt ?_
                    refine TL.p Pu.as ?_
                    refine TL.nil ?_
                    refine TQ.thenN (hY25 _ _ ?_)
                    refine TW.ret ?_
                    refine TQ.ret Tryz.results7 rfl ((.tmp rfl .nil)) ?_
                    refine fun w hw => ⟨?_, Chg.ext hw.chg⟩
                    refine congrArg (fun b => Ending.returned (Value.bool b)) ?_
                    first
                      | rfl
                      | (simp; omega)
                      | omega
              · try simp only [decide_eq_true_eq, decide_eq_false_iff_not, Bool.not_eq_true', Bool.not_eq_false', Int.natCast_pos] at hg7
                refine TL.gs ?_
                refine TL.gs ?_
                refine TL.gs ?_
                refine TL.gd Pu.kf ?_
                refine TL.p Pu.kf ?_
                refine TL.nil ?_
                refine TQ.thenN (hY22 _ _ ?_)
                refine TW.condF rfl rfl ?_
                refine TW.skip ?_
                refine TQ.thenN (hY21 _ _ ?_)
                refine TW.seq fun Y26 hY26 => ?_
                refine TW.region ?_
                refine TL.p Pu.mv ?_
                refine TL.p (Pu.lds ty_ag36) ?_
                refine TL.p Pu.mv ?_
                refine TL.call (M := []) rfl (enters Tryz.func19 rfl rfl) (List.Perm.refl _) rfl (fun w hw => by
                    exact loadSettle_any (hL.sat hw)) ?_
                rintro ⟨As, cs⟩
                refine TL.p Pu.mv ?_
                refine TL.p Pu.ex ?_
                refine TL.p Pu.ex ?_
                refine TL.p Pu.as ?_
                refine TL.p Pu.as ?_
                refine TL.nil ?_
                refine TQ.thenN (hY26 _ _ ?_)
                refine TW.seq fun Y27 hY27 => ?_
                refine TW.region ?_
                refine TL.p Pu.mv ?_
                refine TL.p (Pu.lds ty_ag36) ?_
                refine TL.p Pu.mv ?_
                refine TL.call (M := []) rfl (enters Tryz.func19 rfl rfl) (List.Perm.refl _) rfl (fun w hw => by
                    have hLw := hL.sat hw
                    exact loadSettle_any (A := some ⟨gB, 0, none⟩) (pk := betK pk q n u) (cp := c6) ⟨hLw.hG, hLw.hnp, OwnR.rdr (hw.holds (.own (some ⟨gB, 0, none⟩) np c6 45 11 (fun k => packL (betK pk q n u k))) (by simp)), hLw.hI, hLw.hL⟩) ?_
                rintro ⟨Az, cz⟩
                refine TL.p Pu.mv ?_
                refine TL.p Pu.ex ?_
                refine TL.p Pu.ex ?_
                refine TL.p Pu.as ?_
                refine TL.p Pu.as ?_
                refine TL.nil ?_
                refine TQ.thenN (hY27 _ _ ?_)
                refine TW.seq fun Y28 hY28 => ?_
                refine TW.region ?_
                refine TL.p Pu.mv ?_
                refine TL.p Pu.mv ?_
                refine TL.lit (t := 199) (b' := true) rfl (rfl) ?_
                refine TL.gd Pu.mv ?_
                refine TL.gd Pu.ne ?_
                refine TL.gd Pu.mv ?_
                refine TL.guard (t := 202) rfl (fun hg10 => ?_) (fun hg10 => ?_)
                · try simp only [decide_eq_true_eq, decide_eq_false_iff_not, Bool.not_eq_true', Bool.not_eq_false', Int.natCast_pos] at hg10
                  refine TL.gs ?_
                  refine TL.gs ?_
                  refine TL.gs ?_
                  refine TL.gs ?_
                  refine TL.gs ?_
                  refine TL.gs ?_
                  refine TL.gs ?_
                  refine TL.gs ?_
                  refine TL.gs ?_
                  refine TL.gd Pu.kt ?_
                  refine TL.p Pu.kt ?_
                  refine TL.p Pu.as ?_
                  refine TL.nil ?_
                  refine TQ.thenN (hY28 _ _ ?_)
                  refine TW.ret ?_
                  refine TQ.ret Tryz.results7 rfl ((.tmp rfl .nil)) ?_
                  refine fun w hw => ⟨?_, Chg.ext hw.chg⟩
                  refine congrArg (fun b => Ending.returned (Value.bool b)) ?_
                  first
                    | rfl
                    | (simp; omega)
                    | omega
                · try simp only [decide_eq_true_eq, decide_eq_false_iff_not, Bool.not_eq_true', Bool.not_eq_false', Int.natCast_pos] at hg10
                  refine TL.gd Pu.mv ?_
                  refine TL.gd Pu.eq ?_
                  refine TL.gd Pu.mv ?_
                  refine TL.guard (t := 205) rfl (fun hg11 => ?_) (fun hg11 => ?_)
                  · try simp only [decide_eq_true_eq, decide_eq_false_iff_not, Bool.not_eq_true', Bool.not_eq_false', Int.natCast_pos] at hg11
                    refine TL.gd Pu.mv ?_
                    refine TL.gd (Pu.ln Tryz.underlying24) ?_
                    refine TL.gd Pu.mv ?_
                    refine TL.gd (Pu.ln Tryz.underlying24) ?_
                    refine TL.gd Pu.le ?_
                    refine TL.gd Pu.kt ?_
                    refine TL.gd Pu.kf ?_
                    refine TL.p Pu.kt ?_
                    refine TL.p Pu.as ?_
                    refine TL.nil ?_
                    refine TQ.thenN (hY28 _ _ ?_)
                    refine TW.ret ?_
                    refine TQ.ret Tryz.results7 rfl ((.tmp rfl .nil)) ?_
                    refine fun w hw => ⟨?_, Chg.ext hw.chg⟩
                    refine congrArg (fun b => Ending.returned (Value.bool b)) ?_
                    first
                      | rfl
                      | (simp; omega)
                      | omega
                  · try simp only [decide_eq_true_eq, decide_eq_false_iff_not, Bool.not_eq_true', Bool.not_eq_false', Int.natCast_pos] at hg11
                    refine TL.gs ?_
                    refine TL.gs ?_
                    refine TL.gs ?_
                    refine TL.gs ?_
                    refine TL.gs ?_
                    refine TL.gd Pu.kf ?_
                    refine TL.gd Pu.kf ?_
                    refine TL.p Pu.kt ?_
                    refine TL.p Pu.as ?_
                    refine TL.nil ?_
                    refine TQ.thenN (hY28 _ _ ?_)
                    refine TW.ret ?_
                    refine TQ.ret Tryz.results7 rfl ((.tmp rfl .nil)) ?_
                    refine fun w hw => ⟨?_, Chg.ext hw.chg⟩
                    refine congrArg (fun b => Ending.returned (Value.bool b)) ?_
                    first
                      | rfl
                      | (simp; omega)
                      | omega
            · try simp only [decide_eq_true_eq, decide_eq_false_iff_not, Bool.not_eq_true', Bool.not_eq_false', Int.natCast_pos] at hg6
              refine TL.gs ?_
              refine TL.gs ?_
              refine TL.gs ?_
              refine TL.gd Pu.kf ?_
              refine TL.p Pu.kf ?_
              refine TL.nil ?_
              refine TQ.thenN (hY18 _ _ ?_)
              refine TW.condF rfl rfl ?_
              refine TW.skip ?_
              refine TQ.thenN (hY17 _ _ ?_)
              refine TW.seq fun Y29 hY29 => ?_
              refine TW.region ?_
              refine TL.p Pu.mv ?_
              refine TL.p (Pu.lds ty_ag36) ?_
              refine TL.p Pu.mv ?_
              refine TL.cr rfl (enters Tryz.func28 rfl rfl) (fun w hw => by
                  have h := loadBalance_any (cp := cp) (c := c) (b := b) (hL.sat hw); rw [ak1] at h; exact h) ?_
              refine TL.p Pu.mv ?_
              refine TL.p Pu.ex ?_
              refine TL.p Pu.ex ?_
              refine TL.p Pu.as ?_
              refine TL.p Pu.as ?_
              refine TL.nil ?_
              refine TQ.thenN (hY29 _ _ ?_)
              refine TW.seq fun Y30 hY30 => ?_
              refine TW.region ?_
              refine TL.p Pu.mv ?_
              refine TL.p (Pu.lds ty_ag36) ?_
              refine TL.p Pu.mv ?_
              refine TL.cr rfl (enters Tryz.func28 rfl rfl) (fun w hw => by
                  have hLw := hL.sat hw
                  have h := loadBalance_any (A := some ⟨gB, 0, none⟩) (pk := betK pk q n u) (cp := c6) (c := c) (b := b) ⟨hLw.hG, hLw.hnp, OwnR.rdr (hw.holds (.own (some ⟨gB, 0, none⟩) np c6 45 11 (fun k => packL (betK pk q n u k))) (by simp)), hLw.hI, hLw.hL⟩
                  rw [ak2] at h
                  exact h) ?_
              refine TL.p Pu.mv ?_
              refine TL.p Pu.ex ?_
              refine TL.p Pu.ex ?_
              refine TL.p Pu.as ?_
              refine TL.p Pu.as ?_
              refine TL.nil ?_
              refine TQ.thenN (hY30 _ _ ?_)
              refine TW.seq fun Y31 hY31 => ?_
              refine TW.seq fun Y32 hY32 => ?_
              refine TW.region ?_
              refine TL.p Pu.mv ?_
              refine TL.p Pu.ne ?_
              refine TL.p Pu.mv ?_
              refine TL.lit (t := 171) (b' := false) rfl (rfl) ?_
              refine TL.gd Pu.mv ?_
              refine TL.gd Pu.ne ?_
              refine TL.p Pu.kf ?_
              refine TL.p Pu.mv ?_
              refine TL.lit (t := 175) (b' := false) rfl (rfl) ?_
              refine TL.gd Pu.mv ?_
              refine TL.gd Pu.ne ?_
              refine TL.gd Pu.mv ?_
              refine TL.guard (t := 178) rfl (fun hg12 => ?_) (fun hg12 => ?_)
              · try simp only [decide_eq_true_eq, decide_eq_false_iff_not, Bool.not_eq_true', Bool.not_eq_false', Int.natCast_pos] at hg12
                refine TL.gd Pu.mv ?_
                refine TL.gd Pu.mv ?_
                refine TL.gd Pu.ne ?_
                refine TL.gd Pu.kt ?_
                refine TL.p Pu.kf ?_
                refine TL.nil ?_
                refine TQ.thenN (hY32 _ _ ?_)
                refine TW.condF rfl ((by first | rfl | (simp; omega) | simp)) ?_
                refine TW.skip ?_
                refine TQ.thenN (hY31 _ _ ?_)
                refine TW.seq fun Y33 hY33 => ?_
                refine TW.region ?_
                refine TL.p Pu.mv ?_
                refine TL.p (Pu.lds ty_ag36) ?_
                refine TL.p Pu.mv ?_
                refine TL.call (M := []) rfl (enters Tryz.func19 rfl rfl) (List.Perm.refl _) rfl (fun w hw => by
                    exact loadSettle_any (hL.sat hw)) ?_
                rintro ⟨As, cs⟩
                refine TL.p Pu.mv ?_
                refine TL.p Pu.ex ?_
                refine TL.p Pu.ex ?_
                refine TL.p Pu.as ?_
                refine TL.p Pu.as ?_
                refine TL.nil ?_
                refine TQ.thenN (hY33 _ _ ?_)
                refine TW.seq fun Y34 hY34 => ?_
                refine TW.region ?_
                refine TL.p Pu.mv ?_
                refine TL.p (Pu.lds ty_ag36) ?_
                refine TL.p Pu.mv ?_
                refine TL.call (M := []) rfl (enters Tryz.func19 rfl rfl) (List.Perm.refl _) rfl (fun w hw => by
                    have hLw := hL.sat hw
                    exact loadSettle_any (A := some ⟨gB, 0, none⟩) (pk := betK pk q n u) (cp := c6) ⟨hLw.hG, hLw.hnp, OwnR.rdr (hw.holds (.own (some ⟨gB, 0, none⟩) np c6 45 11 (fun k => packL (betK pk q n u k))) (by simp)), hLw.hI, hLw.hL⟩) ?_
                rintro ⟨Az, cz⟩
                refine TL.p Pu.mv ?_
                refine TL.p Pu.ex ?_
                refine TL.p Pu.ex ?_
                refine TL.p Pu.as ?_
                refine TL.p Pu.as ?_
                refine TL.nil ?_
                refine TQ.thenN (hY34 _ _ ?_)
                refine TW.seq fun Y35 hY35 => ?_
                refine TW.region ?_
                refine TL.p Pu.mv ?_
                refine TL.p Pu.mv ?_
                refine TL.lit (t := 199) (b' := true) rfl (rfl) ?_
                refine TL.gd Pu.mv ?_
                refine TL.gd Pu.ne ?_
                refine TL.gd Pu.mv ?_
                refine TL.guard (t := 202) rfl (fun hg13 => ?_) (fun hg13 => ?_)
                · try simp only [decide_eq_true_eq, decide_eq_false_iff_not, Bool.not_eq_true', Bool.not_eq_false', Int.natCast_pos] at hg13
                  refine TL.gs ?_
                  refine TL.gs ?_
                  refine TL.gs ?_
                  refine TL.gs ?_
                  refine TL.gs ?_
                  refine TL.gs ?_
                  refine TL.gs ?_
                  refine TL.gs ?_
                  refine TL.gs ?_
                  refine TL.gd Pu.kt ?_
                  refine TL.p Pu.kt ?_
                  refine TL.p Pu.as ?_
                  refine TL.nil ?_
                  refine TQ.thenN (hY35 _ _ ?_)
                  refine TW.ret ?_
                  refine TQ.ret Tryz.results7 rfl ((.tmp rfl .nil)) ?_
                  refine fun w hw => ⟨?_, Chg.ext hw.chg⟩
                  refine congrArg (fun b => Ending.returned (Value.bool b)) ?_
                  first
                    | rfl
                    | (simp; omega)
                    | omega
                · try simp only [decide_eq_true_eq, decide_eq_false_iff_not, Bool.not_eq_true', Bool.not_eq_false', Int.natCast_pos] at hg13
                  refine TL.gd Pu.mv ?_
                  refine TL.gd Pu.eq ?_
                  refine TL.gd Pu.mv ?_
                  refine TL.guard (t := 205) rfl (fun hg14 => ?_) (fun hg14 => ?_)
                  · try simp only [decide_eq_true_eq, decide_eq_false_iff_not, Bool.not_eq_true', Bool.not_eq_false', Int.natCast_pos] at hg14
                    refine TL.gd Pu.mv ?_
                    refine TL.gd (Pu.ln Tryz.underlying24) ?_
                    refine TL.gd Pu.mv ?_
                    refine TL.gd (Pu.ln Tryz.underlying24) ?_
                    refine TL.gd Pu.le ?_
                    refine TL.gd Pu.kt ?_
                    refine TL.gd Pu.kf ?_
                    refine TL.p Pu.kt ?_
                    refine TL.p Pu.as ?_
                    refine TL.nil ?_
                    refine TQ.thenN (hY35 _ _ ?_)
                    refine TW.ret ?_
                    refine TQ.ret Tryz.results7 rfl ((.tmp rfl .nil)) ?_
                    refine fun w hw => ⟨?_, Chg.ext hw.chg⟩
                    refine congrArg (fun b => Ending.returned (Value.bool b)) ?_
                    first
                      | rfl
                      | (simp; omega)
                      | omega
                  · try simp only [decide_eq_true_eq, decide_eq_false_iff_not, Bool.not_eq_true', Bool.not_eq_false', Int.natCast_pos] at hg14
                    refine TL.gs ?_
                    refine TL.gs ?_
                    refine TL.gs ?_
                    refine TL.gs ?_
                    refine TL.gs ?_
                    refine TL.gd Pu.kf ?_
                    refine TL.gd Pu.kf ?_
                    refine TL.p Pu.kt ?_
                    refine TL.p Pu.as ?_
                    refine TL.nil ?_
                    refine TQ.thenN (hY35 _ _ ?_)
                    refine TW.ret ?_
                    refine TQ.ret Tryz.results7 rfl ((.tmp rfl .nil)) ?_
                    refine fun w hw => ⟨?_, Chg.ext hw.chg⟩
                    refine congrArg (fun b => Ending.returned (Value.bool b)) ?_
                    first
                      | rfl
                      | (simp; omega)
                      | omega
              · try simp only [decide_eq_true_eq, decide_eq_false_iff_not, Bool.not_eq_true', Bool.not_eq_false', Int.natCast_pos] at hg12
                refine TL.gs ?_
                refine TL.gs ?_
                refine TL.gs ?_
                refine TL.gd Pu.kf ?_
                refine TL.p Pu.kf ?_
                refine TL.nil ?_
                refine TQ.thenN (hY32 _ _ ?_)
                refine TW.condF rfl rfl ?_
                refine TW.skip ?_
                refine TQ.thenN (hY31 _ _ ?_)
                refine TW.seq fun Y36 hY36 => ?_
                refine TW.region ?_
                refine TL.p Pu.mv ?_
                refine TL.p (Pu.lds ty_ag36) ?_
                refine TL.p Pu.mv ?_
                refine TL.call (M := []) rfl (enters Tryz.func19 rfl rfl) (List.Perm.refl _) rfl (fun w hw => by
                    exact loadSettle_any (hL.sat hw)) ?_
                rintro ⟨As, cs⟩
                refine TL.p Pu.mv ?_
                refine TL.p Pu.ex ?_
                refine TL.p Pu.ex ?_
                refine TL.p Pu.as ?_
                refine TL.p Pu.as ?_
                refine TL.nil ?_
                refine TQ.thenN (hY36 _ _ ?_)
                refine TW.seq fun Y37 hY37 => ?_
                refine TW.region ?_
                refine TL.p Pu.mv ?_
                refine TL.p (Pu.lds ty_ag36) ?_
                refine TL.p Pu.mv ?_
                refine TL.call (M := []) rfl (enters Tryz.func19 rfl rfl) (List.Perm.refl _) rfl (fun w hw => by
                    have hLw := hL.sat hw
                    exact loadSettle_any (A := some ⟨gB, 0, none⟩) (pk := betK pk q n u) (cp := c6) ⟨hLw.hG, hLw.hnp, OwnR.rdr (hw.holds (.own (some ⟨gB, 0, none⟩) np c6 45 11 (fun k => packL (betK pk q n u k))) (by simp)), hLw.hI, hLw.hL⟩) ?_
                rintro ⟨Az, cz⟩
                refine TL.p Pu.mv ?_
                refine TL.p Pu.ex ?_
                refine TL.p Pu.ex ?_
                refine TL.p Pu.as ?_
                refine TL.p Pu.as ?_
                refine TL.nil ?_
                refine TQ.thenN (hY37 _ _ ?_)
                refine TW.seq fun Y38 hY38 => ?_
                refine TW.region ?_
                refine TL.p Pu.mv ?_
                refine TL.p Pu.mv ?_
                refine TL.lit (t := 199) (b' := true) rfl (rfl) ?_
                refine TL.gd Pu.mv ?_
                refine TL.gd Pu.ne ?_
                refine TL.gd Pu.mv ?_
                refine TL.guard (t := 202) rfl (fun hg15 => ?_) (fun hg15 => ?_)
                · try simp only [decide_eq_true_eq, decide_eq_false_iff_not, Bool.not_eq_true', Bool.not_eq_false', Int.natCast_pos] at hg15
                  refine TL.gs ?_
                  refine TL.gs ?_
                  refine TL.gs ?_
                  refine TL.gs ?_
                  refine TL.gs ?_
                  refine TL.gs ?_
                  refine TL.gs ?_
                  refine TL.gs ?_
                  refine TL.gs ?_
                  refine TL.gd Pu.kt ?_
                  refine TL.p Pu.kt ?_
                  refine TL.p Pu.as ?_
                  refine TL.nil ?_
                  refine TQ.thenN (hY38 _ _ ?_)
                  refine TW.ret ?_
                  refine TQ.ret Tryz.results7 rfl ((.tmp rfl .nil)) ?_
                  refine fun w hw => ⟨?_, Chg.ext hw.chg⟩
                  refine congrArg (fun b => Ending.returned (Value.bool b)) ?_
                  first
                    | rfl
                    | (simp; omega)
                    | omega
                · try simp only [decide_eq_true_eq, decide_eq_false_iff_not, Bool.not_eq_true', Bool.not_eq_false', Int.natCast_pos] at hg15
                  refine TL.gd Pu.mv ?_
                  refine TL.gd Pu.eq ?_
                  refine TL.gd Pu.mv ?_
                  refine TL.guard (t := 205) rfl (fun hg16 => ?_) (fun hg16 => ?_)
                  · try simp only [decide_eq_true_eq, decide_eq_false_iff_not, Bool.not_eq_true', Bool.not_eq_false', Int.natCast_pos] at hg16
                    refine TL.gd Pu.mv ?_
                    refine TL.gd (Pu.ln Tryz.underlying24) ?_
                    refine TL.gd Pu.mv ?_
                    refine TL.gd (Pu.ln Tryz.underlying24) ?_
                    refine TL.gd Pu.le ?_
                    refine TL.gd Pu.kt ?_
                    refine TL.gd Pu.kf ?_
                    refine TL.p Pu.kt ?_
                    refine TL.p Pu.as ?_
                    refine TL.nil ?_
                    refine TQ.thenN (hY38 _ _ ?_)
                    refine TW.ret ?_
                    refine TQ.ret Tryz.results7 rfl ((.tmp rfl .nil)) ?_
                    refine fun w hw => ⟨?_, Chg.ext hw.chg⟩
                    refine congrArg (fun b => Ending.returned (Value.bool b)) ?_
                    first
                      | rfl
                      | (simp; omega)
                      | omega
                  · try simp only [decide_eq_true_eq, decide_eq_false_iff_not, Bool.not_eq_true', Bool.not_eq_false', Int.natCast_pos] at hg16
                    refine TL.gs ?_
                    refine TL.gs ?_
                    refine TL.gs ?_
                    refine TL.gs ?_
                    refine TL.gs ?_
                    refine TL.gd Pu.kf ?_
                    refine TL.gd Pu.kf ?_
                    refine TL.p Pu.kt ?_
                    refine TL.p Pu.as ?_
                    refine TL.nil ?_
                    refine TQ.thenN (hY38 _ _ ?_)
                    refine TW.ret ?_
                    refine TQ.ret Tryz.results7 rfl ((.tmp rfl .nil)) ?_
                    refine fun w hw => ⟨?_, Chg.ext hw.chg⟩
                    refine congrArg (fun b => Ending.returned (Value.bool b)) ?_
                    first
                      | rfl
                      | (simp; omega)
                      | omega
end Go.Proofs.YtjephihlkjpohaaGreatDoor
namespace Go.Proofs.YtjephihlkjpohaaGreatDoor
set_option linter.all false
set_option linter.unusedVariables false
set_option linter.unusedSimpArgs false
open Go.ChangeShapes Go.WideShapes Go.RowKit Go.Deep
section
variable {H : Type} {enc : TypeId × Value → H} {P : Program} {w : World} {base : Nat} {spare : Nat → Bool} {held : Bool}
def kindsL (P : Program) (g : TypeId → Option (List IntKind)) : List Field → Nat → Option (List IntKind)
  | [], _ => some []
  | f :: fs, off => match g f.type with
    | some a => if f.offset = off ∧ a.length = P.cellsOf f.type then match kindsL P g fs (off + a.length) with
      | some b => some (a ++ b)
      | none => none
      else none
    | none => none
def kindsF (P : Program) : Nat → TypeId → Option (List IntKind)
  | 0, _ => none
  | d + 1, t => match P.underlying t with
    | some (.int k) => some [k]
    | some (.struct fs) => match kindsL P (kindsF P d) fs.toList 0 with
      | some a => if a.length = P.cellsOf t then some a else none
      | none => none
    | _ => none
def ints (ks : List IntKind) (ns : List Int) : List Value := List.zipWith Value.int ks ns
theorem ints_append {a b : List IntKind} {x y : List Int} (h : x.length = a.length) : ints (a ++ b) (x ++ y) = ints a x ++ ints b y := by
  unfold ints; rw [List.zipWith_append h.symm]
theorem ints_length {a : List IntKind} {x : List Int} (h : x.length = a.length) : (ints a x).length = a.length := by simp [ints, h]
theorem kindsL_spec {g : TypeId → Option (List IntKind)} (hg : ∀ t ks, g t = some ks → ∀ fuel cs x, DataW.trod enc P w base spare held fuel t cs = some x → ∃ ns : List Int, cs = ints ks ns ∧ ns.length = ks.length) :
    ∀ (fs : List Field) (off : Nat) (ks : List IntKind) (cs : List Value), kindsL P g fs off = some ks → cs.length = off + ks.length →
      (∀ f ∈ fs, ∃ n x, DataW.trod enc P w base spare held n f.type ((cs.drop f.offset).take (P.cellsOf f.type)) = some x) → ∃ ns : List Int, cs.drop off = ints ks ns ∧ ns.length = ks.length
  | [], off, ks, cs, h, hl, _ => by cases h; exact ⟨[], by simp at hl; simp [ints, hl], rfl⟩
  | f :: fs, off, ks, cs, h, hl, hf => by
    simp only [kindsL] at h
    cases h1 : g f.type with
    | none => rw [h1] at h; cases h
    | some a =>
      rw [h1] at h
      simp only at h
      split at h
      · rename_i h2
        obtain ⟨h2, h3⟩ := h2
        cases h4 : kindsL P g fs (off + a.length) with
        | none => rw [h4] at h; cases h
        | some b =>
          rw [h4] at h
          cases h
          obtain ⟨n, x, hx⟩ := hf f (by simp)
          rw [h2, ← h3] at hx
          obtain ⟨ns, e1, e2⟩ := hg _ _ h1 _ _ _ hx
          obtain ⟨ms, e3, e4⟩ := kindsL_spec hg fs (off + a.length) b cs h4 (by rw [hl]; simp; omega) (fun f' hf' => hf f' (by simp [hf']))
          refine ⟨ns ++ ms, ?_, by simp [e2, e4]⟩
          rw [ints_append e2, ← e1, ← e3, ← List.drop_drop, List.take_append_drop]
      · cases h
theorem kindsF_spec : ∀ (d : Nat) (t : TypeId) (ks : List IntKind), kindsF P d t = some ks → ∀ fuel cs x, DataW.trod enc P w base spare held fuel t cs = some x → ∃ ns : List Int, cs = ints ks ns ∧ ns.length = ks.length
  | 0, _, _, h, _, _, _, _ => by cases h
  | d + 1, t, ks, h, fuel, cs, x, hx => by
    simp only [kindsF] at h
    cases hu : P.underlying t with
    | none => rw [hu] at h; cases h
    | some desc =>
      rw [hu] at h
      match desc, hu, h with
      | .int k, hu, h =>
        injection h with h
        subst h
        obtain ⟨n, rfl, _, _⟩ := DataW.trod_int hu hx
        exact ⟨[n], rfl, rfl⟩
      | .struct fs, hu, h =>
        simp only at h
        cases h1 : kindsL P (kindsF P d) fs.toList 0 with
        | none => rw [h1] at h; cases h
        | some a =>
          rw [h1] at h
          simp only at h
          split at h
          · rename_i h2
            cases h
            obtain ⟨xs, n, _, _, hlen, hxl, hf⟩ := DataW.trod_struct hu hx
            obtain ⟨ns, e1, e2⟩ := kindsL_spec (kindsF_spec d) fs.toList 0 _ cs h1 (by omega) (fun f hf' => by
              obtain ⟨i, hi, rfl⟩ := List.getElem_of_mem hf'
              have hi' : i < fs.size := by simpa using hi
              have := hf i fs[i] (by simp [hi'])
              rw [List.getElem?_eq_getElem (by omega)] at this
              exact ⟨n, _, this⟩)
            exact ⟨ns, by simpa using e1, e2⟩
          · cases h
theorem open_flat_slice {t e : TypeId} {fuel : Nat} {cs : List Value} {x : DataW H × List MemPlace} (d : Nat) {ks : List IntKind} (ht : P.underlying t = some (.slice e)) (hk : kindsF P d e = some ks) (hC : P.cellsOf e = ks.length) (h0 : Nat.blt 0 ks.length = true) (h : DataW.trod enc P w base spare held fuel t cs = some x) :
    ∃ (A : Option Addr) (len cap : Nat) (g : Nat → List Int), cs = [.slice A len cap] ∧ (∀ i, i < len → (g i).length = ks.length) ∧ RdR w ks.length A len (fun i => ints ks (g i)) ∧ (A = none → len = 0 ∧ cap = 0) ∧ len ≤ cap ∧ cap ≤ maxLen := by
  have h0 : 0 < ks.length := Nat.le_of_ble_eq_true h0
  rcases open_slice ht h with ⟨rfl, rfl⟩ | ⟨a, len, cap, m, n, D, Pl, rfl, hb, hl, hm, hmm, _, hi⟩
  · exact ⟨none, 0, 0, fun _ => [], rfl, fun i hi => by omega, ⟨Rd.nil, fun i hi => by omega⟩, fun _ => ⟨rfl, rfl⟩, Nat.le_refl _, Nat.zero_le _⟩
  · have hlm : len ≤ m := by rw [hmm]; split <;> omega
    have key : ∀ i, i < len → ∃ ns : List Int, ns.length = ks.length ∧ ∀ j, j < ks.length → w.cell? (a.add (i * ks.length + j)) = (ints ks ns)[j]? := fun i hil => by
      obtain ⟨cs', hc, hx⟩ := hi i (by omega)
      obtain ⟨_, hcl, hat⟩ := World.cells?_some hc
      obtain ⟨ns, rfl, e2⟩ := kindsF_spec d e ks hk _ _ _ hx
      refine ⟨ns, e2, fun j hj => ?_⟩
      have := hat j (by rw [hC]; exact hj)
      rw [hC] at this
      rw [← this, ← add_add]
    refine ⟨some a, len, cap, fun i => if hi : i < len then (key i hi).choose else [], rfl, fun i hi => ?_, ⟨fun hn => ?_, fun i hi => ?_⟩, fun h => (by cases h), hl, hm⟩
    · simp only [hi, dite_true]; exact (key i hi).choose_spec.1
    · have h1 := (key 0 hn).choose_spec.2 0 h0
      have hsome : (ints ks (key 0 hn).choose)[0]? = some ((ints ks (key 0 hn).choose)[0]'(by rw [ints_length (key 0 hn).choose_spec.1]; exact h0)) := List.getElem?_eq_getElem _
      rw [hsome] at h1
      have hadd : a.add (0 * ks.length + 0) = a := by simp [Addr.add]
      rw [hadd] at h1
      have hsp : a.spot = none := by
        unfold World.cell? at h1
        split at h1
        · cases hs : a.spot with
          | none => rfl
          | some s => simp [hs] at h1
        · cases h1
      have hlt : a.block < w.heap.size := World.block_lt_of_cell? w a h1
      obtain ⟨b, o, s⟩ := a
      simp only at hsp
      subst hsp
      refine ⟨b, o, rfl, hlt, fun i j hi hj => ?_⟩
      have h2 := (key i hi).choose_spec.2 j hj
      rw [add_plain] at h2
      rw [show o + i * ks.length + j = o + (i * ks.length + j) by omega, h2]
      simp only [rowF, hi, dite_true]
      have hl2 : j < (ints ks (key i hi).choose).length := by rw [ints_length (key i hi).choose_spec.1]; exact hj
      rw [List.getElem?_eq_getElem hl2]
      simp [List.getD_eq_getElem?_getD, List.getElem?_eq_getElem hl2]
    · simp only [hi, dite_true]
      exact ints_length (key i hi).choose_spec.1
theorem open_rows {r : Reach} {b0 : Nat} {t e : TypeId} {v : Value} {dd : DataW H} {p : List MemPlace} (d : Nat) (ks : List IntKind) (ht : P.underlying t = some (.slice e)) (hk : kindsF P d e = some ks) (hC : P.cellsOf e = ks.length) (h0 : Nat.blt 0 ks.length = true) (hv : Value.okWide P w r b0 t v) (h : DataW.Trod enc P w base spare held t v dd p) :
    ∃ (A : Option Addr) (len cap : Nat) (g : Nat → List Int), v = .slice A len cap ∧ (∀ i, i < len → (g i).length = ks.length) ∧ RdR w ks.length A len (fun i => ints ks (g i)) ∧ (A = none → len = 0 ∧ cap = 0) ∧ len ≤ cap ∧ cap ≤ maxLen := by
  obtain ⟨a, n, c, rfl⟩ := okWide_slice ht hv
  obtain ⟨fuel, h⟩ := h
  obtain ⟨A, len, cap, g, e, h1⟩ := open_flat_slice d ht hk hC h0 h
  simp only [Value.cells, List.cons.injEq, Value.slice.injEq, and_true] at e
  obtain ⟨rfl, rfl, rfl⟩ := e
  exact ⟨_, _, _, g, rfl, h1⟩
def gi (ns : List Int) (j : Nat) : Int := ns.getD j 0
def rowK : List IntKind → (Nat → Int) → List Value
  | [], _ => []
  | k :: ks, f => .int k (f 0) :: rowK ks fun j => f (j + 1)
theorem ints_rowK : ∀ (ks : List IntKind) (ns : List Int), ns.length = ks.length → ints ks ns = rowK ks (gi ns)
  | [], [], _ => rfl
  | k :: ks, n :: ns, h => by
    show Value.int k n :: ints ks ns = _
    rw [ints_rowK ks ns (by simpa using h)]
    rfl
theorem RdR.rowK {sz n : Nat} {A : Option Addr} {ks : List IntKind} {g : Nat → List Int} (h : RdR w sz A n (fun i => ints ks (g i))) (hl : ∀ i, i < n → (g i).length = ks.length) : RdR w sz A n (fun i => rowK ks (gi (g i))) :=
  ⟨h.rd.congr fun i j hi hj => by simp only [rowF, ints_rowK ks (g i) (hl i hi)], fun i hi => by rw [← ints_rowK ks (g i) (hl i hi)]; exact h.len i hi⟩
theorem trodAll_stays (hl : laidOutB P = true) {W W' : World} (hb : Below W.heap.size W W') {sp' : Nat → Bool} : ∀ {ts : List TypeId} {vs : List Value} {ds : List (DataW H)} {ps : List MemPlace}, ts.all (fun t => P.readableRec t && decide (t < P.types.size)) = true →
    DataW.TrodAll enc P W 0 (fun _ => true) true ts vs ds ps → (∀ p ∈ ps, p.block < W.heap.size) → (∀ p ∈ ps, sp' p.block = true) → DataW.TrodAll enc P W' 0 sp' true ts vs ds ps
  | [], [], [], ps, _, h, _, _ => h
  | t :: ts, v :: vs, d :: ds, ps, ht, h, hlt, hs => by
    simp only [List.all_cons, Bool.and_eq_true, decide_eq_true_eq] at ht
    obtain ⟨p, q, h1, h2, rfl⟩ := h
    exact ⟨p, q, WideElems.Trod_stays hl ht.1.1 ht.1.2 h1 (fun x hx => hb.same (hlt x (by simp [hx]))) (fun x hx => hs x (by simp [hx])), trodAll_stays hl hb ht.2 h2 (fun x hx => hlt x (by simp [hx])) (fun x hx => hs x (by simp [hx])), rfl⟩
theorem law_post {f : Func} {s : ChangeSpec} {apart fresh handsOn again : Bool} {W W' : World} {args : Array Value} {ds : List (DataW H)} {p : List MemPlace} {tb : TypeId} (hl : laidOutB P = true) (hvars : s.vars = [])
    (hW : DataW.Whole enc P f.params.toList s.vars apart W args.toList ds [] p) (hA : DataW.TrodAll enc P W 0 (fun _ => true) true f.params.toList args.toList ds p)
    (ht : f.params.toList.all (fun t => P.readableRec t && decide (t < P.types.size)) = true) (hrt : f.resultTypes = #[tb]) (htb : P.underlying tb = some .bool) (hfn : s.fn H ds = { results := [.lit (.bool true)], args := ds }) (hb : Below W.heap.size W W') :
    s.post enc P f apart fresh handsOn again W args (.bool true) W' := by
  have hlt : ∀ q ∈ p, q.block < W.heap.size := fun q hq => hW.lt q hq
  have hold : ∀ q ∈ p, (fun b => decide (b < W.heap.size)) q.block = true := fun q hq => by simpa using hW.lt q hq
  have hres : ∀ (b : Nat) (sp : Nat → Bool) (hd : Bool), DataW.TrodAll enc P W' b sp hd f.resultTypes.toList ((Value.bool true).resultList f.resultTypes.size) (s.fn H (ds ++ [])).results [] := fun b sp hd => by
    rw [List.append_nil, hfn, hrt]
    exact ⟨[], [], shut_bool htb true, rfl, rfl⟩
  have hargs : ∀ sp : Nat → Bool, (∀ q ∈ p, sp q.block = true) → DataW.TrodAll enc P W' 0 sp true f.params.toList args.toList (s.fn H (ds ++ [])).args p := fun sp hs => by
    rw [List.append_nil, hfn]
    exact trodAll_stays hl hb ht hA (fun q hq => hW.lt q hq) hs
  have hv : ∀ sp : Nat → Bool, DataW.TrodVars enc P W' sp s.vars (s.fn H (ds ++ [])).vars [] := fun sp => by
    rw [List.append_nil, hfn, hvars]; exact rfl
  have hok : ∀ (j : Nat) (t : TypeId) (r : Value), f.resultTypes[j]? = some t → ((Value.bool true).resultList f.resultTypes.size)[j]? = some r → Value.okWide P W' .any 0 t r := ok_one (by rw [hrt]) rfl (okWide_bool_mk htb true)
  refine ⟨ds, [], p, [], p, [], hW, hres _ _ _, hargs _ hold, hv _, World.keptBut_mono (fun q hq => ⟨hq, by simpa using hq⟩) (hb.frame (· ∈ p)), fun _ => ?_⟩
  obtain ⟨_, _, _, _, _, hz, hn⟩ := hW
  refine ⟨hok, _, _, ([] ++ p) ++ [], ⟨[] ++ p, [], trodAll_append (hargs _ (fun _ _ => rfl)) (hres _ _ _), hv _, rfl, ?_, ?_⟩, ?_⟩
  · intro b off hp
    have hin : MemPlace.cell b off ∈ p := by simpa using hp
    rw [hb.frozen (hlt _ hin)]
    exact hz b off hin
  · intro ha
    have := hn ha
    simpa using this
  · intro q hq _
    simpa using hq
end
end Go.Proofs.YtjephihlkjpohaaGreatDoor
namespace Go.Proofs.YtjephihlkjpohaaGreatDoor
set_option linter.all false
set_option linter.unusedVariables false
set_option linter.unusedSimpArgs false
open Go.ChangeShapes Go.WideShapes Go.RowKit Go.Deep
section
variable {H : Type} {enc : TypeId × Value → H} {P : Program} {w : World} {base : Nat} {spare : Nat → Bool} {held : Bool}
theorem open_slice_any {t e : TypeId} {fuel : Nat} {cs : List Value} {x : DataW H × List MemPlace} {sz : Nat} (ht : P.underlying t = some (.slice e)) (hC : P.cellsOf e = sz) (h0 : Nat.blt 0 sz = true) (h : DataW.trod enc P w base spare held fuel t cs = some x) :
    ∃ (A : Option Addr) (len cap : Nat) (G : Nat → List Value), cs = [.slice A len cap] ∧ RdR w sz A len G ∧ (∀ i, i < len → ∃ n y, DataW.trod enc P w base spare held n e (G i) = some y) ∧ (A = none → len = 0 ∧ cap = 0) ∧ len ≤ cap ∧ cap ≤ maxLen := by
  have h0 : 0 < sz := Nat.le_of_ble_eq_true h0
  rcases open_slice ht h with ⟨rfl, rfl⟩ | ⟨a, len, cap, m, n, D, Pl, rfl, hb, hl, hm, hmm, _, hi⟩
  · exact ⟨none, 0, 0, fun _ => [], rfl, ⟨Rd.nil, fun i hi => by omega⟩, fun i hi => by omega, fun _ => ⟨rfl, rfl⟩, Nat.le_refl _, Nat.zero_le _⟩
  · have hlm : len ≤ m := by rw [hmm]; split <;> omega
    have key : ∀ i, i < len → ∃ cs' : List Value, cs'.length = sz ∧ (∀ j, j < sz → w.cell? (a.add (i * sz + j)) = cs'[j]?) ∧ ∃ n y, DataW.trod enc P w base spare held n e cs' = some y := fun i hil => by
      obtain ⟨cs', hc, hx⟩ := hi i (by omega)
      obtain ⟨_, hcl, hat⟩ := World.cells?_some hc
      refine ⟨cs', by rw [hcl, hC], fun j hj => ?_, n, _, hx⟩
      have := hat j (by rw [hC]; exact hj)
      rw [hC] at this
      rw [← this, ← add_add]
    refine ⟨some a, len, cap, fun i => if hi : i < len then (key i hi).choose else [], rfl, ⟨fun hn => ?_, fun i hi => ?_⟩, fun i hi => ?_, fun h => (by cases h), hl, hm⟩
    · have h1 := (key 0 hn).choose_spec.2.1 0 h0
      have hsome : ((key 0 hn).choose)[0]? = some ((key 0 hn).choose[0]'(by rw [(key 0 hn).choose_spec.1]; exact h0)) := List.getElem?_eq_getElem _
      rw [hsome] at h1
      have hadd : a.add (0 * sz + 0) = a := by simp [Addr.add]
      rw [hadd] at h1
      have hsp : a.spot = none := by
        unfold World.cell? at h1
        split at h1
        · cases hs : a.spot with
          | none => rfl
          | some s => simp [hs] at h1
        · cases h1
      have hlt : a.block < w.heap.size := World.block_lt_of_cell? w a h1
      obtain ⟨b, o, s⟩ := a
      simp only at hsp
      subst hsp
      refine ⟨b, o, rfl, hlt, fun i j hi hj => ?_⟩
      have h2 := (key i hi).choose_spec.2.1 j hj
      rw [add_plain] at h2
      rw [show o + i * sz + j = o + (i * sz + j) by omega, h2]
      simp only [rowF, hi, dite_true]
      have hl2 : j < (key i hi).choose.length := by rw [(key i hi).choose_spec.1]; exact hj
      rw [List.getD_eq_getElem?_getD, List.getElem?_eq_getElem hl2]
      rfl
    · simp only [hi, dite_true]
      exact (key i hi).choose_spec.1
    · simp only [hi, dite_true]
      exact (key i hi).choose_spec.2.2
theorem trod_fields {t : TypeId} {fs : Array Field} {fuel : Nat} {cs : List Value} {x : DataW H × List MemPlace} (ht : P.underlying t = some (.struct fs)) (h : DataW.trod enc P w base spare held fuel t cs = some x) :
    cs.length = P.cellsOf t ∧ ∀ (i : Nat) (f : Field), fs[i]? = some f → ∃ n y, DataW.trod enc P w base spare held n f.type ((cs.drop f.offset).take (P.cellsOf f.type)) = some y := by
  obtain ⟨xs, n, _, _, hlen, hxl, hf⟩ := DataW.trod_struct ht h
  refine ⟨hlen, fun i f hi => ?_⟩
  have h1 := hf i f hi
  have hi' : i < fs.size := (Array.getElem?_eq_some_iff.1 hi).1
  rw [List.getElem?_eq_getElem (by omega)] at h1
  exact ⟨n, _, h1⟩
theorem open_ints_in {t e : TypeId} {k : IntKind} {fuel : Nat} {cs : List Value} {x : DataW H × List MemPlace} (ht : P.underlying t = some (.slice e)) (he : P.underlying e = some (.int k)) (hC : P.cellsOf e = 1) (h : DataW.trod enc P w base spare held fuel t cs = some x) :
    ∃ (A : Option Addr) (len cap : Nat) (v : Nat → Int), cs = [.slice A len cap] ∧ RdR w 1 A len (fun q => [.int k (v q)]) ∧ (A = none → len = 0 ∧ cap = 0) ∧ len ≤ cap ∧ cap ≤ maxLen := by
  obtain ⟨A, len, cap, g, rfl, hg, hR, h1, h2, h3⟩ := open_flat_slice (ks := [k]) 1 ht (by simp only [kindsF, he]) hC rfl h
  refine ⟨A, len, cap, fun q => gi (g q) 0, rfl, ⟨hR.rd.congr fun i j hi hj => ?_, fun i hi => rfl⟩, h1, h2, h3⟩
  show (ints [k] (g i)).getD j undef = _
  rw [ints_rowK [k] (g i) (hg i hi)]
  rfl
theorem trodAll_five {t0 t1 t2 t3 t4 : TypeId} {args : Array Value} {ds : List (DataW H)} {ps : List MemPlace} (h : DataW.TrodAll enc P w base spare held [t0, t1, t2, t3, t4] args.toList ds ps) :
    ∃ v0 v1 v2 v3 v4 d0 d1 d2 d3 d4 p0 p1 p2 p3 p4, args = #[v0, v1, v2, v3, v4] ∧ ds = [d0, d1, d2, d3, d4] ∧ ps = p0 ++ (p1 ++ (p2 ++ (p3 ++ p4))) ∧ DataW.Trod enc P w base spare held t0 v0 d0 p0 ∧ DataW.Trod enc P w base spare held t1 v1 d1 p1 ∧ DataW.Trod enc P w base spare held t2 v2 d2 p2 ∧ DataW.Trod enc P w base spare held t3 v3 d3 p3 ∧ DataW.Trod enc P w base spare held t4 v4 d4 p4 := by
  obtain ⟨v0, vs0, d0, ds0, p0, q0, hargs, rfl, rfl, h0, hr0⟩ := trodAll_cons h
  obtain ⟨v1, vs1, d1, ds1, p1, q1, rfl, rfl, rfl, h1, hr1⟩ := trodAll_cons hr0
  obtain ⟨v2, vs2, d2, ds2, p2, q2, rfl, rfl, rfl, h2, hr2⟩ := trodAll_cons hr1
  obtain ⟨v3, vs3, d3, ds3, p3, q3, rfl, rfl, rfl, h3, hr3⟩ := trodAll_cons hr2
  obtain ⟨v4, vs4, d4, ds4, p4, q4, rfl, rfl, rfl, h4, hr4⟩ := trodAll_cons hr3
  obtain ⟨rfl, rfl, rfl⟩ := trodAll_nil hr4
  exact ⟨v0, v1, v2, v3, v4, d0, d1, d2, d3, d4, p0, p1, p2, p3, p4, by cases args; simp_all, rfl, by simp, h0, h1, h2, h3, h4⟩
end
end Go.Proofs.YtjephihlkjpohaaGreatDoor
namespace Go.Proofs.YtjephihlkjpohaaGreatDoor
set_option linter.all false
set_option linter.unusedVariables false
set_option linter.unusedSimpArgs false
open Go.ChangeShapes Go.WideShapes Go.ChangeAt Go.RowKit Go.Deep
theorem Tryz.own : ownKnob Tryz.prog.godebug = none := by kernel_rfl
theorem Tryz.laidOut : laidOutB Tryz.prog = true := by kernel_rfl
section
variable {H : Type} {enc : TypeId × Value → H} {w : World} {base : Nat} {spare : Nat → Bool} {held : Bool}
theorem gNone : Tryz.prog.globalNamed "azalai/load.none" = some 0 := by kernel_rfl
theorem tNone : (Tryz.prog.globals[0]?).map (·.type) = some 43 := by kernel_rfl
set_option maxRecDepth 100000 in
theorem none0_of_laid {W : World} (h : laidMetH Tryz.prog [("azalai/load.none", Rows.laid_azalai_load_none)] W) : None0 W := by
  rw [MakeChecks.laidMetH_plain _ _ _ (by kernel_rfl)] at h
  obtain ⟨ps, ⟨g0, t0, cs0, f0, p0, q0, hg0, ht0, hv0, hd0, _⟩, _, _⟩ := h
  obtain rfl := Option.some.inj (gNone.symm.trans hg0)
  obtain rfl := Option.some.inj (tNone.symm.trans ht0)
  obtain ⟨ns, e1, e2⟩ := kindsF_spec 2 43 [.i64, .i64] (by kernel_rfl) _ _ _ hd0
  match ns, e2, e1 with
  | [x, y], _, e1 =>
    have e1 : cs0.toList = [.int .i64 x, .int .i64 y] := e1
    obtain ⟨y0, y1, n, hx, hl, h0, h1⟩ := trod_struct2 Tryz.underlying43 hd0
    rw [e1] at h0 h1
    obtain ⟨k0, i0, rfl, _⟩ := DataW.trod_int Tryz.underlying3 h0
    obtain ⟨k1, i1, rfl, _⟩ := DataW.trod_int Tryz.underlying3 h1
    have hc1 : Tryz.prog.cellsOf 3 = 1 := by kernel_rfl
    have j0 : [Value.int .i64 x] = [.int .i64 k0] := by simpa [hc1] using i0
    have j1 : [Value.int .i64 y] = [.int .i64 k1] := by simpa [hc1] using i1
    clear i0 i1
    simp only [Rows.laid_azalai_load_none, Prod.mk.injEq, DataW.agg.injEq, List.cons.injEq, DataW.lit.injEq, Lit.int.injEq, and_true, true_and, List.append_nil, Value.int.injEq] at hx j0 j1
    obtain ⟨⟨rfl, rfl⟩, _⟩ := hx
    subst j0 j1
    have hc := World.var?_cell hg0 hv0
    have e3 : cs0 = #[.int .i64 0, .int .i64 0] := by cases cs0; simpa using e1
    subst e3
    exact ⟨World.block_lt_of_cell? W ⟨0, 0, none⟩ (hc 0), fun j v hj => by rw [hc j]; simpa using hj⟩
set_option maxRecDepth 100000 in
theorem tied_of_trod {fuel : Nat} {G : List Value} {y : DataW H × List MemPlace} (hl3 : G.length = 3) (hy : DataW.trod enc Tryz.prog w base spare held fuel 36 G = some y) :
    ∃ (a : Nat → Option Addr) (l c : Nat → Nat) (u : Nat → Nat → Int), G = tieL a l c ∧ ∀ j, j < 3 → RdR w 1 (a j) (l j) (fun k => [.int .i64 (u j k)]) := by
  obtain ⟨hl, hf⟩ := trod_fields Tryz.underlying36 hy
  have h0 := hf 0 _ rfl
  have h1 := hf 1 _ rfl
  have h2 := hf 2 _ rfl
  obtain ⟨n0, y0, h0⟩ := h0
  obtain ⟨n1, y1, h1⟩ := h1
  obtain ⟨n2, y2, h2⟩ := h2
  obtain ⟨a0, l0, c0, u0, e0, r0, _⟩ := open_ints_in Tryz.underlying24 Tryz.underlying3 (by kernel_rfl) h0
  obtain ⟨a1, l1, c1, u1, e1, r1, _⟩ := open_ints_in Tryz.underlying24 Tryz.underlying3 (by kernel_rfl) h1
  obtain ⟨a2, l2, c2, u2, e2, r2, _⟩ := open_ints_in Tryz.underlying24 Tryz.underlying3 (by kernel_rfl) h2
  refine ⟨fun j => if j = 0 then a0 else if j = 1 then a1 else a2, fun j => if j = 0 then l0 else if j = 1 then l1 else l2, fun j => if j = 0 then c0 else if j = 1 then c1 else c2, fun j => if j = 0 then u0 else if j = 1 then u1 else u2, ?_, fun j hj => ?_⟩
  · match G, hl3 with
    | [x0, x1, x2], _ =>
      have hc1 : Tryz.prog.cellsOf 24 = 1 := by kernel_rfl
      have e0 : [x0] = [.slice a0 l0 c0] := by simpa [hc1] using e0
      have e1 : [x1] = [.slice a1 l1 c1] := by simpa [hc1] using e1
      have e2 : [x2] = [.slice a2 l2 c2] := by simpa [hc1] using e2
      cases e0; cases e1; cases e2
      rfl
  · have : j = 0 ∨ j = 1 ∨ j = 2 := by omega
    rcases this with rfl | rfl | rfl
    · exact r0
    · exact r1
    · exact r2
set_option maxRecDepth 100000 in
theorem open_packs {r : Reach} {b0 : Nat} {v : Value} {dd : DataW H} {p : List MemPlace} (hv : Value.okWide Tryz.prog w r b0 22 v) (h : DataW.Trod enc Tryz.prog w base spare held 22 v dd p) :
    ∃ (A : Option Addr) (n cp : Nat) (pk : Nat → Nat → Int), v = .slice A n cp ∧ RdR w 11 A n (fun k => packL (pk k)) := by
  obtain ⟨A, n, cp, g, rfl, hg, hR, _, _, _⟩ := open_rows 3 (.u8 :: List.replicate 10 .i64) Tryz.underlying22 (by kernel_rfl) (by kernel_rfl) rfl hv h
  exact ⟨A, n, cp, fun i => gi (g i), rfl, hR.rowK hg⟩
end
end Go.Proofs.YtjephihlkjpohaaGreatDoor
namespace Go.Proofs.YtjephihlkjpohaaGreatDoor
set_option linter.all false
set_option linter.unusedVariables false
set_option linter.unusedSimpArgs false
open Go.ChangeShapes Go.WideShapes Go.ChangeAt Go.RowKit Go.Deep
section
variable {H : Type} {enc : TypeId × Value → H} {w : World} {base : Nat} {spare : Nat → Bool} {held : Bool}
theorem RdR.cong {sz n : Nat} {A : Option Addr} {r r' : Nat → List Value} (h : RdR w sz A n r) (he : ∀ i, i < n → r i = r' i) : RdR w sz A n r' := ⟨h.rd.congr fun i j hi _ => by simp only [rowF, he i hi], fun i hi => by rw [← he i hi]; exact h.len i hi⟩
theorem wf_in {k : IntKind} {n : Int} (h : (Lit.int k n).wf = true) : k.min ≤ n ∧ n ≤ k.max := by simpa [Lit.wf] using h
theorem u8_in {n : Int} (h : (Lit.int .u8 n).wf = true) : 0 ≤ n ∧ n ≤ 255 := wf_in h
theorem trod_int {P : Program} {n : Nat} {t : TypeId} {k : IntKind} {cs : List Value} {y : DataW H × List MemPlace} (ht : P.underlying t = some (.int k)) (h : DataW.trod enc P w base spare held n t cs = some y) : ∃ x : Int, cs = [.int k x] ∧ k.min ≤ x ∧ x ≤ k.max := by
  cases n with
  | zero => cases h
  | succ n =>
    unfold DataW.trod at h
    rw [ht] at h
    split at h <;> first | (rename_i e _; cases e; done) | skip
    all_goals first | (rename_i k1 k2 x e; cases e; split at h; (rename_i hx; obtain ⟨rfl, hw⟩ := hx; simp only [Lit.wf, Bool.and_eq_true, decide_eq_true_eq] at hw; exact ⟨x, rfl, hw.1, hw.2⟩); cases h) | (cases h; done) | (rename_i e; cases e; done) | (rename_i e _ _; cases e; done) | (rename_i e _ _ _; cases e; done)
set_option maxRecDepth 100000 in
theorem open_choices {r : Reach} {b0 : Nat} {v : Value} {dd : DataW H} {p : List MemPlace} (hv : Value.okWide Tryz.prog w r b0 46 v) (h : DataW.Trod enc Tryz.prog w base spare held 46 v dd p) :
    ∃ (A : Option Addr) (n cp : Nat) (u : Nat → Int), v = .slice A n cp ∧ n ≤ cp ∧ U32 n u ∧ RdR w 1 A n (fun k => [.int .u32 (u k)]) := by
  obtain ⟨A0, n0, c0, rfl⟩ := okWide_slice Tryz.underlying46 hv
  obtain ⟨fuel, h⟩ := h
  obtain ⟨A, m, cp, G, e, hR, hel, _, hc, _⟩ := open_slice_any (sz := 1) Tryz.underlying46 (by kernel_rfl) rfl h
  simp only [Value.cells, List.cons.injEq, Value.slice.injEq, and_true] at e
  obtain ⟨rfl, rfl, rfl⟩ := e
  have key : ∀ i, i < n0 → ∃ x : Int, G i = [.int .u32 x] ∧ 0 ≤ x ∧ x < 4294967296 := fun i hi => by
    obtain ⟨n, y, hy⟩ := hel i hi
    obtain ⟨x, e, h1, h2⟩ := trod_int Tryz.underlying54 hy
    exact ⟨x, e, h1, Int.lt_of_le_of_lt h2 (by decide)⟩
  refine ⟨A0, n0, c0, fun i => if hi : i < n0 then (key i hi).choose else 0, rfl, hc, fun i hi => ?_, ?_⟩
  · simp only [dif_pos hi]; exact (key i hi).choose_spec.2
  · exact hR.cong fun i hi => by simp only [dif_pos hi]; exact (key i hi).choose_spec.1
end
end Go.Proofs.YtjephihlkjpohaaGreatDoor
namespace Go.Proofs.YtjephihlkjpohaaGreatDoor
set_option linter.all false
set_option linter.unusedVariables false
set_option linter.unusedSimpArgs false
open Go.ChangeShapes Go.WideShapes Go.ChangeAt Go.RowKit Go.Deep
section
variable {H : Type} {enc : TypeId × Value → H} {w : World} {base : Nat} {spare : Nat → Bool} {held : Bool}
set_option maxRecDepth 100000 in
theorem open_tied {r : Reach} {b0 : Nat} {v : Value} {dd : DataW H} {p : List MemPlace} (hv : Value.okWide Tryz.prog w r b0 36 v) (h : DataW.Trod enc Tryz.prog w base spare held 36 v dd p) :
    ∃ (a : Nat → Option Addr) (l c : Nat → Nat) (u : Nat → Nat → Int), v = .agg (tieL a l c).toArray ∧ ∀ j, j < 3 → RdR w 1 (a j) (l j) (fun k => [.int .i64 (u j k)]) := by
  obtain ⟨cs, rfl, hlen⟩ := okWide_struct Tryz.underlying36 hv
  obtain ⟨fuel, hf⟩ := h
  have hc3 : Tryz.prog.cellsOf 36 = 3 := by kernel_rfl
  obtain ⟨a, l, c, u, e, hI⟩ := tied_of_trod (by rw [(trod_fields Tryz.underlying36 hf).1, hc3]) hf
  refine ⟨a, l, c, u, ?_, hI⟩
  rw [← e]
  simp [Value.cells]
end
end Go.Proofs.YtjephihlkjpohaaGreatDoor
namespace Go.Proofs.YtjephihlkjpohaaGreatDoor
set_option linter.all false
set_option linter.unusedVariables false
set_option linter.unusedSimpArgs false
open Go.ChangeShapes Go.WideShapes Go.ChangeAt Go.RowKit Go.Deep
set_option maxRecDepth 100000 in
theorem loadNarrow_door (os : Os) (args : Array Value) : laidMetH Tryz.prog Rows.loadNarrowRow.laid ((World.doorLaid Tryz.prog 14 os).forCall (fun _ _ => 0) ⟨#[], args, []⟩).memory :=
  laidMetH_of_parts3 (fuel := 8) (laidMet_of_run' 8 (by kernel_rfl) (by kernel_rfl)) (by kernel_rfl) (by kernel_rfl)
set_option maxRecDepth 100000 in
theorem loadNarrow_lifted (os : Os) (started : os.Started) (H : Type) (enc : TypeId × Value → H) :
    ReturnsInHanded {} Tryz.checked os 7 .any (fun w args => (Rows.loadNarrowSpec.pre enc Tryz.prog Tryz.f7 [] false w args ∧ laidMetH Tryz.prog Rows.loadNarrowRow.laid w) ∧ sizedMet enc Tryz.prog Tryz.f7 (OpenSpec.ofChange Rows.loadNarrowSpec) false w args) (Rows.loadNarrowSpec.post enc Tryz.prog Tryz.f7 false true false false) := by
  refine returnsInHanded_of_change_and (C := Tryz.checked) (X := fun w _ => laidMetH Tryz.prog Rows.loadNarrowRow.laid w) (fun _ _ _ hh h => h.of_heap hh) Tryz.own started (by kernel_rfl) Tryz.func7
    (ChangeSpec.witness_shaped (enc := enc) (C := Tryz.checked) (os := os) (X := fun w _ => laidMetH Tryz.prog Rows.loadNarrowRow.laid w) false (World.doorLaid Tryz.prog 14 os) #[.slice none 0 0, .agg #[.slice none 0 0, .slice none 0 0, .slice none 0 0], .int .i64 0, .int .u8 0, .slice none 0 0] 8 rfl (World.shaped_of_RefB (by kernel_rfl) (by kernel_rfl)) (by kernel_rfl) (by kernel_rfl) (by kernel_rfl) (loadNarrow_door os _)) ?_
  intro W base args ds gs before hval0 hW _ _ hLd _
  have hval : ∀ (j : Nat) t v, Tryz.f7.params[j]? = some t → args[j]? = some v → Value.okWide Tryz.prog W .any base t v := hval0
  have hW' := hW
  obtain ⟨p, q, hA0, hV, rfl, hfz, hnd⟩ := hW
  have hA : DataW.TrodAll enc Tryz.prog W 0 (fun _ => true) true Tryz.f7.params.toList args.toList ds p := hA0
  have hA1 := hA
  rw [Tryz.params7] at hA hval
  obtain ⟨v0, v1, v2, v3, v4, d0, d1, d2, d3, d4, p0, p1, p2, p3, p4, rfl, rfl, rfl, h0, h1, h2, h3, h4⟩ := trodAll_five hA
  obtain ⟨rfl, rfl⟩ := trodVars_none hV
  have hG : None0 W := none0_of_laid hLd
  obtain ⟨A, np, cp, pk, rfl, hR⟩ := open_packs (hval 0 22 v0 rfl rfl) h0
  obtain ⟨a, l, c, v, rfl, hI⟩ := open_tied (hval 1 36 v1 rfl rfl) h1
  obtain ⟨b, rfl, _⟩ := open_int Tryz.underlying3 (hval 2 3 v2 rfl rfl) h2
  obtain ⟨which, rfl, _, _, hwh⟩ := open_int Tryz.underlying5 (hval 3 5 v3 rfl rfl) h3
  obtain ⟨B, n, cb, u, rfl, hc, hU, hB⟩ := open_choices (hval 4 46 v4 rfl rfl) h4
  clear hA0 hval0
  simp only [List.append_nil] at hW'
  refine (lawNarrow_any hG hR hI (u8_in hwh) hc hU hB).mono ?_
  rintro e W' ⟨rfl, hb⟩
  exact ⟨_, rfl, law_post Tryz.laidOut rfl hW' hA1 (by kernel_rfl) (by kernel_rfl) Tryz.underlying4 rfl hb⟩
theorem loadNarrow_row : Rows.LoadNarrowSaid :=
  OpenClaim.holds_of_wide 7 Tryz.f7 rfl rfl rfl rfl rfl rfl rfl ⟨rfl, rfl, rfl, rfl, rfl⟩ rfl rfl rfl rfl rfl (by kernel_rfl) Tryz.func7 (by kernel_rfl)
    (of_decide_eq_true (by kernel_rfl)) (by unfold Func.isWrapper; first | (rw [if_pos (by decide +kernel)]; kernel_rfl) | (rw [if_neg (by decide +kernel)]; exact ⟨rfl, rfl⟩))
    (fun os started H enc _ => loadNarrow_lifted os started H enc)
theorem loadNarrow_holds : Rows.LoadNarrowCardSaid :=
  Claim7.holds_tied_plain_at .later [] [.data] true _ true
    loadNarrow_row (fun _ h => by cases h) (by kernel_rfl) (fun _ h => by cases h) loadNarrow_row_tie rfl ⟨rfl, rfl⟩ (by kernel_rfl) rfl
    (fun f fn hf hfn => by
      obtain rfl : f = 7 := Option.some.inj ((show Tryz.prog.funcNamed "azalai/azalailaw05.LoadNarrow" = some 7 by kernel_rfl).symm.trans hf) |>.symm
      obtain rfl : fn = Tryz.f7 := (Option.some.inj (Tryz.func7.symm.trans hfn)).symm
      exact ⟨by kernel_rfl, fun j t ht => by
        have hall : (Tryz.f7.params.toList.all fun u => !Tryz.prog.wantsStandIn u) = true := by kernel_rfl
        have hm : t ∈ Tryz.f7.params.toList := by simpa using Array.mem_of_getElem? ht
        exact (show Tryz.prog.wantsStandIn t = false by simpa using List.all_eq_true.1 hall t hm)⟩)
    (by kernel_rfl)
end Go.Proofs.YtjephihlkjpohaaGreatDoor
