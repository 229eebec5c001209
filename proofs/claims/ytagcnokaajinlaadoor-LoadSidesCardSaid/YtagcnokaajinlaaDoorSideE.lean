/-
  The reference's Sides, asked, Balance; load's Balance.
-/
import Derived.Test.YtagcnokaajinlaaDoorSideD
namespace Go.Proofs.YtagcnokaajinlaaDoor
set_option linter.all false
set_option linter.unusedVariables false
set_option linter.unusedSimpArgs false
open Go.RowKit
section
variable {w : World} {A : Option Addr} {np cp : Nat} {pk : Nat → Nat → Int} {a : Nat → Option Addr} {l c : Nat → Nat} {v : Nat → Nat → Int}
theorem refCheck1_any {b E cn : Nat} (h : Lay1 w A np pk a l v) (hB : Blk w b E (tieL a l c).toArray) :
    Calls Tryd.prog 14 #[.slice A np cp, .slice (some ⟨b, 0, none⟩) 1 cn] w (Ret w (.int .i64 (check1 np pk l v))) := refCheck_any (h.lay hB)
theorem ret_sides {w w' : World} {x y z : Value} {code code' : Int} {r : List Int} (hc : code = code') (h : sidesR np pk l v = r) (hx : x = .agg (sp2 r 0).toArray) (hy : y = .agg (sp2 r 2).toArray) (hz : z = .agg (sp2 r 4).toArray) (hb : Below w.heap.size w w') :
    Ret w (.tuple #[.agg (sp2 (sidesR np pk l v) 0).toArray, .agg (sp2 (sidesR np pk l v) 2).toArray, .agg (sp2 (sidesR np pk l v) 4).toArray, .int .i64 code']) (.returned (.tuple #[x, y, z, .int .i64 code])) w' := by
  subst hc h hx hy hz
  exact ⟨rfl, hb⟩
set_option maxRecDepth 100000 in
set_option maxHeartbeats 1000000 in
theorem refSides_any (hL : Lay1 w A np pk a l v) :
    Calls Tryd.prog 20 #[.slice A np cp, .agg (tieL a l c).toArray] w (Ret w (.tuple #[.agg (sp2 (sidesR np pk l v) 0).toArray, .agg (sp2 (sidesR np pk l v) 2).toArray, .agg (sp2 (sidesR np pk l v) 4).toArray, .int .i64 (check1 np pk l v)])) := by
  refine K_enter (S := []) (K := []) Tryd.func20 rfl Tryd.ntmps20 rfl (Sat.start _) ?_
  refine TW.seq fun Y1 hY1 => ?_
  refine TW.region ?_
  refine TL.m Mk.bx ?_
  intro b1
  refine TL.m (Mk.al ty_zr23) ?_
  intro b2
  refine TL.m (Mk.al ty_zr23) ?_
  intro b3
  refine TL.m (Mk.al ty_zr23) ?_
  intro b4
  refine TL.p Pu.as ?_
  refine TL.nil ?_
  refine TQ.thenN (hY1 _ _ ?_)
  refine TW.seq fun Y2 hY2 => ?_
  refine TW.seq fun Y3 hY3 => ?_
  refine TW.region ?_
  refine TL.p Pu.mv ?_
  refine TL.p (Pu.lds ty_ag59) ?_
  refine TL.m Mk.bl ?_
  intro b5
  refine TL.cr rfl (enters Tryd.func14 rfl rfl) (fun w hw => by
      exact refCheck1_any (c := c) (E := 59) (hL.sat hw) (hw.holds (.blk b5 59 (tieL a l c)) (by simp [tieL]))) ?_
  refine TL.p Pu.as ?_
  refine TL.nil ?_
  refine TQ.thenN (hY3 _ _ ?_)
  refine TW.seq fun Y4 hY4 => ?_
  refine TW.region ?_
  refine TL.p Pu.mv ?_
  refine TL.p Pu.ne ?_
  refine TL.nil ?_
  refine TQ.thenN (hY4 _ _ ?_)
  refine TW.cond rfl (fun hc0 => ?_) (fun hc0 => ?_)
  · try simp only [decide_eq_true_eq, decide_eq_false_iff_not, Bool.not_eq_true', Bool.not_eq_false', Bool.and_eq_true, Bool.or_eq_true, Bool.and_eq_false_iff, Bool.or_eq_false_iff, Int.not_lt, Int.not_le] at hc0
    have hbad : check1 np pk l v ≠ 0 := hc0
    refine TW.seq fun Y5 hY5 => ?_
    refine TW.region ?_
    refine TL.p Pu.bd ?_
    refine TL.p Pu.bd ?_
    refine TL.p Pu.bd ?_
    refine TL.p Pu.mv ?_
    first | refine TL.st ty_sz23 ?_ | refine TL.se ty_sz23 ?_
    first | refine TL.st ty_sz23 ?_ | refine TL.se ty_sz23 ?_
    first | refine TL.st ty_sz23 ?_ | refine TL.se ty_sz23 ?_
    refine TL.p Pu.as ?_
    refine TL.nil ?_
    refine TQ.thenN (hY5 _ _ ?_)
    refine TW.ret ?_
    refine TQ.thenR ?_
    refine TQ.ret Tryd.results20 rfl ((RV.cs ty_ag23 (RV.cs ty_ag23 (RV.cs ty_ag23 (.tmp rfl .nil))))) ?_
    exact fun w hw => ret_sides rfl (show sidesR np pk l v = [0, 0, 0, 0, 0, 0] from if_neg hbad) rfl rfl rfl (Chg.ext hw.chg)
  · try simp only [decide_eq_true_eq, decide_eq_false_iff_not, Bool.not_eq_true', Bool.not_eq_false', Bool.and_eq_true, Bool.or_eq_true, Bool.and_eq_false_iff, Bool.or_eq_false_iff, Int.not_lt, Int.not_le] at hc0
    have hgood : check1 np pk l v = 0 := by simpa using hc0
    obtain ⟨k1, k2, k3, k4⟩ := check1_ok hgood
    have k4' := k4
    rw [tot3] at k4
    refine TW.skip ?_
    refine TQ.thenN (hY2 _ _ ?_)
    refine TW.seq fun Y6 hY6 => ?_
    refine TW.dw 12 ?_
    refine RK.tk Pu.mv ?_
    refine RK.tk (by first | exact Pu.fb ty_fa59_0 | exact Pu.fe ty_fa59_0) ?_
    refine RK.tk (Pu.ld ty_sc47) ?_
    refine RK.keep ?_
    refine RK.tk Pu.mv ?_
    refine RK.tk (by first | exact Pu.fb ty_fa59_1 | exact Pu.fe ty_fa59_1) ?_
    refine RK.tk (Pu.ld ty_sc47) ?_
    refine RK.keep ?_
    refine RK.tk Pu.mv ?_
    refine RK.tk (Pu.lds ty_ag59) ?_
    refine RK.keep ?_
    refine RK.keep ?_
    refine RK.ch [false, false, false, false] ?_ trivial
    refine WK.cr rfl (enters Tryd.func53 rfl rfl) (fun w hw => by
        exact refSum_any (show l 0 ≤ 1000 by omega) k2 (k3 0 (by omega)) (hL.sat hw).hR ((hL.sat hw).hI 0 (by omega))) ?_
    refine WK.cr rfl (enters Tryd.func53 rfl rfl) (fun w hw => by
        exact refSum_any (show l 1 ≤ 1000 by omega) k2 (k3 1 (by omega)) (hL.sat hw).hR ((hL.sat hw).hI 1 (by omega))) ?_
    refine WK.call rfl (enters Tryd.func40 rfl rfl) rfl (fun w hw => by
        have h9 := refList_any (a := a) (l := l) (c := c) (v := v) (by omega) (hL.sat hw).hI
        rw [catN_catI] at h9
        exact h9) ?_
    rintro ⟨Ac, cc⟩
    refine WK.cr rfl (enters Tryd.func53 rfl rfl) (fun w hw => by
        exact refSum_any (v := catI l v) (show tot l 3 ≤ 1000 by omega) k2 (inx_cat k3) (hL.sat hw).hR (OwnR.rdr (hw.holds (.own Ac (tot l 3) cc 3 1 (fun k => [.int .i64 (catI l v k)])) (by simp)))) ?_
    refine WK.n ?_
    first | refine TL.st ty_sz23 ?_ | refine TL.se ty_sz23 ?_
    first | refine TL.st ty_sz23 ?_ | refine TL.se ty_sz23 ?_
    first | refine TL.st ty_sz23 ?_ | refine TL.se ty_sz23 ?_
    refine TL.p Pu.as ?_
    refine TL.nil ?_
    refine TQ.thenN (hY6 _ _ ?_)
    refine TW.ret ?_
    refine TQ.ret Tryd.results20 rfl ((RV.cs ty_ag23 (RV.cs ty_ag23 (RV.cs ty_ag23 (.tmp rfl .nil))))) ?_
    exact fun w hw => ret_sides hgood.symm (if_pos hgood) rfl rfl rfl (Chg.ext hw.chg)
/-- The error of packs, a load and a bound. -/
def askedV (np : Nat) (pk : Nat → Nat → Int) (l : Nat → Nat) (v : Nat → Nat → Int) (b : Int) : Int := if check1 np pk l v = 0 then (if inB5 0 1000000000 b then 0 else 2) else check1 np pk l v
def balF (pk : Nat → Nat → Int) (l : Nat → Nat) (v : Nat → Nat → Int) (b : Int) : Int := balV (wlo pk (v 0) (l 0)) (whi pk (v 0) (l 0)) (wlo pk (v 1) (l 1)) (whi pk (v 1) (l 1)) b
def balR (np : Nat) (pk : Nat → Nat → Int) (l : Nat → Nat) (v : Nat → Nat → Int) (b : Int) : Int := if askedV np pk l v b = 0 then balF pk l v b else 0
theorem asked_ok {b : Int} (h : askedV np pk l v b = 0) : check1 np pk l v = 0 ∧ 0 ≤ b ∧ b ≤ 1000000000 := by
  unfold askedV at h
  split at h
  · rename_i h1
    refine ⟨h1, ?_⟩
    split at h
    · rename_i h2
      simpa [inB5] using h2
    · simp at h
  · contradiction
theorem refAsked_any {b : Int} (hL : Lay1 w A np pk a l v) :
    Calls Tryd.prog 57 #[.slice A np cp, .agg (tieL a l c).toArray, .int .i64 b] w (Ret w (.int .i64 (askedV np pk l v b))) := by
  refine K_enter (S := []) (K := []) Tryd.func57 rfl Tryd.ntmps57 rfl (Sat.start _) ?_
  refine TW.seq fun Y1 hY1 => ?_
  refine TW.region ?_
  refine TL.m Mk.bx ?_
  intro b1
  refine TL.p Pu.as ?_
  refine TL.nil ?_
  refine TQ.thenN (hY1 _ _ ?_)
  refine TW.seq fun Y2 hY2 => ?_
  refine TW.seq fun Y3 hY3 => ?_
  refine TW.region ?_
  refine TL.p Pu.mv ?_
  refine TL.p (Pu.lds ty_ag59) ?_
  refine TL.m Mk.bl ?_
  intro b2
  refine TL.cr rfl (enters Tryd.func14 rfl rfl) (fun w hw => by
      exact refCheck1_any (c := c) (E := 59) (hL.sat hw) (hw.holds (.blk b2 59 (tieL a l c)) (by simp [tieL]))) ?_
  refine TL.p Pu.as ?_
  refine TL.nil ?_
  refine TQ.thenN (hY3 _ _ ?_)
  refine TW.seq fun Y4 hY4 => ?_
  refine TW.region ?_
  refine TL.p Pu.mv ?_
  refine TL.p Pu.ne ?_
  refine TL.nil ?_
  refine TQ.thenN (hY4 _ _ ?_)
  refine TW.cond rfl (fun hc0 => ?_) (fun hc0 => ?_)
  · try simp only [decide_eq_true_eq, decide_eq_false_iff_not, Bool.not_eq_true', Bool.not_eq_false', Bool.and_eq_true, Bool.or_eq_true, Bool.and_eq_false_iff, Bool.or_eq_false_iff, Int.not_lt, Int.not_le] at hc0
    have hbad : check1 np pk l v ≠ 0 := hc0
    refine TW.seq fun Y5 hY5 => ?_
    refine TW.region ?_
    refine TL.p Pu.mv ?_
    refine TL.p Pu.as ?_
    refine TL.nil ?_
    refine TQ.thenN (hY5 _ _ ?_)
    refine TW.ret ?_
    refine TQ.thenR ?_
    refine TQ.ret Tryd.results57 rfl ((.tmp rfl .nil)) ?_
    exact fun w hw => ⟨ret_int (by unfold askedV; rw [if_neg hbad]), Chg.ext hw.chg⟩
  · try simp only [decide_eq_true_eq, decide_eq_false_iff_not, Bool.not_eq_true', Bool.not_eq_false', Bool.and_eq_true, Bool.or_eq_true, Bool.and_eq_false_iff, Bool.or_eq_false_iff, Int.not_lt, Int.not_le] at hc0
    have hgood : check1 np pk l v = 0 := by simpa using hc0
    refine TW.skip ?_
    refine TQ.thenN (hY2 _ _ ?_)
    refine TW.seq fun Y6 hY6 => ?_
    refine TW.seq fun Y7 hY7 => ?_
    refine TW.region ?_
    refine TL.p Pu.mv ?_
    refine TL.cr rfl (enters Tryd.func39 rfl rfl) (fun w hw => by
        exact within5_any _ _ _ _) ?_
    refine TL.p Pu.no ?_
    refine TL.nil ?_
    refine TQ.thenN (hY7 _ _ ?_)
    refine TW.cond rfl (fun hc1 => ?_) (fun hc1 => ?_)
    · try simp only [decide_eq_true_eq, decide_eq_false_iff_not, Bool.not_eq_true', Bool.not_eq_false', Bool.and_eq_true, Bool.or_eq_true, Bool.and_eq_false_iff, Bool.or_eq_false_iff, Int.not_lt, Int.not_le] at hc1
      refine TW.seq fun Y8 hY8 => ?_
      refine TW.region ?_
      refine TL.p Pu.as ?_
      refine TL.nil ?_
      refine TQ.thenN (hY8 _ _ ?_)
      refine TW.ret ?_
      refine TQ.thenR ?_
      refine TQ.ret Tryd.results57 rfl ((.tmp rfl .nil)) ?_
      exact fun w hw => ⟨ret_int (by unfold askedV; rw [if_pos hgood]; simp [hc1]), Chg.ext hw.chg⟩
    · try simp only [decide_eq_true_eq, decide_eq_false_iff_not, Bool.not_eq_true', Bool.not_eq_false', Bool.and_eq_true, Bool.or_eq_true, Bool.and_eq_false_iff, Bool.or_eq_false_iff, Int.not_lt, Int.not_le] at hc1
      refine TW.skip ?_
      refine TQ.thenN (hY6 _ _ ?_)
      refine TW.seq fun Y9 hY9 => ?_
      refine TW.region ?_
      refine TL.p Pu.as ?_
      refine TL.nil ?_
      refine TQ.thenN (hY9 _ _ ?_)
      refine TW.ret ?_
      refine TQ.ret Tryd.results57 rfl ((.tmp rfl .nil)) ?_
      exact fun w hw => ⟨ret_int (by unfold askedV; rw [if_pos hgood]; simp [hc1]), Chg.ext hw.chg⟩
set_option maxRecDepth 100000 in
theorem refBalance_any {b : Int} (hL : Lay1 w A np pk a l v) :
    Calls Tryd.prog 22 #[.slice A np cp, .agg (tieL a l c).toArray, .int .i64 b] w (Ret w (.tuple #[.int .u8 (balR np pk l v b), .int .i64 (askedV np pk l v b)])) := by
  refine K_enter (S := []) (K := []) Tryd.func22 rfl Tryd.ntmps22 rfl (Sat.start _) ?_
  refine TW.seq fun Y1 hY1 => ?_
  refine TW.region ?_
  refine TL.m Mk.bx ?_
  intro b1
  refine TL.p Pu.as ?_
  refine TL.p Pu.as ?_
  refine TL.nil ?_
  refine TQ.thenN (hY1 _ _ ?_)
  refine TW.seq fun Y2 hY2 => ?_
  refine TW.seq fun Y3 hY3 => ?_
  refine TW.region ?_
  refine TL.p Pu.mv ?_
  refine TL.p (Pu.lds ty_ag59) ?_
  refine TL.p Pu.mv ?_
  refine TL.cr rfl (enters Tryd.func57 rfl rfl) (fun w hw => by
      exact refAsked_any (hL.sat hw)) ?_
  refine TL.p Pu.as ?_
  refine TL.nil ?_
  refine TQ.thenN (hY3 _ _ ?_)
  refine TW.seq fun Y4 hY4 => ?_
  refine TW.region ?_
  refine TL.p Pu.mv ?_
  refine TL.p Pu.ne ?_
  refine TL.nil ?_
  refine TQ.thenN (hY4 _ _ ?_)
  refine TW.cond rfl (fun hc0 => ?_) (fun hc0 => ?_)
  · try simp only [decide_eq_true_eq, decide_eq_false_iff_not, Bool.not_eq_true', Bool.not_eq_false', Bool.and_eq_true, Bool.or_eq_true, Bool.and_eq_false_iff, Bool.or_eq_false_iff, Int.not_lt, Int.not_le] at hc0
    have hbad : askedV np pk l v b ≠ 0 := hc0
    refine TW.seq fun Y5 hY5 => ?_
    refine TW.region ?_
    refine TL.p Pu.mv ?_
    refine TL.p Pu.as ?_
    refine TL.p Pu.as ?_
    refine TL.nil ?_
    refine TQ.thenN (hY5 _ _ ?_)
    refine TW.ret ?_
    refine TQ.thenR ?_
    refine TQ.ret Tryd.results22 rfl ((.tmp rfl (.tmp rfl .nil))) ?_
    exact fun w hw => ⟨by unfold balR; rw [if_neg hbad]; rfl, Chg.ext hw.chg⟩
  · try simp only [decide_eq_true_eq, decide_eq_false_iff_not, Bool.not_eq_true', Bool.not_eq_false', Bool.and_eq_true, Bool.or_eq_true, Bool.and_eq_false_iff, Bool.or_eq_false_iff, Int.not_lt, Int.not_le] at hc0
    have hgood : askedV np pk l v b = 0 := by simpa using hc0
    obtain ⟨k0, kb1, kb2⟩ := asked_ok hgood
    obtain ⟨k1, k2, k3, k4⟩ := check1_ok k0
    rw [tot3] at k4
    have e0 := (RestOk.of_packs k2).wS (k3 0 (by omega)) (show l 0 ≤ 1000 by omega)
    have e1 := (RestOk.of_packs k2).wS (k3 1 (by omega)) (show l 1 ≤ 1000 by omega)
    refine TW.skip ?_
    refine TQ.thenN (hY2 _ _ ?_)
    refine TW.seq fun Y6 hY6 => ?_
    refine TW.dw 12 ?_
    refine RK.tk Pu.mv ?_
    refine RK.tk (by first | exact Pu.fb ty_fa59_0 | exact Pu.fe ty_fa59_0) ?_
    refine RK.tk (Pu.ld ty_sc47) ?_
    refine RK.keep ?_
    refine RK.tk Pu.mv ?_
    refine RK.tk (by first | exact Pu.fb ty_fa59_1 | exact Pu.fe ty_fa59_1) ?_
    refine RK.tk (Pu.ld ty_sc47) ?_
    refine RK.keep ?_
    refine RK.tk Pu.mv ?_
    refine RK.keep ?_
    refine RK.keep ?_
    refine RK.keep ?_
    refine RK.ch [false, false, false, true, true] ?_ trivial
    refine WK.cr rfl (enters Tryd.func53 rfl rfl) (fun w hw => by
        exact refSum_any (show l 0 ≤ 1000 by omega) k2 (k3 0 (by omega)) (hL.sat hw).hR ((hL.sat hw).hI 0 (by omega))) ?_
    refine WK.cr rfl (enters Tryd.func53 rfl rfl) (fun w hw => by
        exact refSum_any (show l 1 ≤ 1000 by omega) k2 (k3 1 (by omega)) (hL.sat hw).hR ((hL.sat hw).hI 1 (by omega))) ?_
    refine WK.cr rfl (enters Tryd.func54 rfl rfl) (fun w hw => by
        exact refBalance5_any _ _ _ _ _ _ (by omega) (by omega) (by omega) (by omega) (by omega)) ?_
    refine WK.p Pu.as ?_
    refine WK.p Pu.as ?_
    refine WK.n ?_
    refine TL.nil ?_
    refine TQ.thenN (hY6 _ _ ?_)
    refine TW.ret ?_
    refine TQ.ret Tryd.results22 rfl ((.tmp rfl (.tmp rfl .nil))) ?_
    exact fun w hw => ⟨by unfold balR; rw [if_pos hgood, hgood]; rfl, Chg.ext hw.chg⟩
end
set_option maxRecDepth 100000 in
set_option maxHeartbeats 400000 in
theorem balance1_any {W0 w : World} {A : Option Addr} {np cp bp bt bb x : Nat} {pk : Nat → Nat → Int} {a : Nat → Option Addr} {l c : Nat → Nat} {v : Nat → Nat → Int} {b : Int}
    (hL : Lay1 W0 A np pk a l v) (hb : Below W0.heap.size W0 w) (hS : ∀ b ∈ [x], W0.heap.size ≤ b)
    (h1 : OldB w bp [.slice A np cp]) (h2 : OldB w bt (tieL a l c)) (h3 : OldB w bb [.int .i64 b]) (n1 : bp ∉ [x]) (n2 : bt ∉ [x]) (n3 : bb ∉ [x])
    (hM : Sat [x] w [.blk x 5 [.int .u8 0]] w) :
    Doing Tryd.prog 56 #[.pointer (some ⟨bp, 0, none⟩), .pointer (some ⟨bt, 0, none⟩), .pointer (some ⟨bb, 0, none⟩), .pointer (some ⟨x, 0, none⟩)] [.blk x 5 [.int .u8 0]] Unit
      (fun _ => if askedV np pk l v b = 0 then [.blk x 5 [.int .u8 (balF pk l v b)]] else [.blk x 5 [.int .u8 0]]) (askedV np pk l v b) w := by
  have hnp := hL.hnp
  have ap1 := apart_of n1
  have ap2 := apart_of n2
  have ap3 := apart_of n3
  have hL1 := hL.ext hb
  refine K_enter (args := [.pointer (some ⟨bp, 0, none⟩), .pointer (some ⟨bt, 0, none⟩), .pointer (some ⟨bb, 0, none⟩), .pointer (some ⟨x, 0, none⟩)]) (S := [x]) (K := [.blk x 5 [.int .u8 0]]) Tryd.func56 rfl Tryd.ntmps56 rfl hM ?_
  refine TW.seq fun Y1 hY1 => ?_
  refine TW.region ?_
  refine TL.p (by first | exact (Pu.ld ty_sc26) | exact (Pu.ldo ty_sc26)) ?_
  refine TL.p (by first | exact (Pu.lds ty_ag59) | exact (Pu.ldso ty_ag59)) ?_
  refine TL.m Mk.bl ?_
  intro b1
  refine TL.ct rfl (enters Tryd.func31 rfl rfl) (fun w hw => by
      have hLw := (hL.ext (old_below hb hw hS)).lay (c := c) (b := b1) (E := 59) (hw.holds (.blk b1 59 (tieL a l c)) (by simp [tieL]))
      exact hLw.check) (fun hp1 => ?_) (fun hp1 => ?_)
  rotate_left
  · have hp1' : check1 np pk l v ≠ 0 := hp1
    have hcode : askedV np pk l v b = check1 np pk l v := if_neg hp1'
    refine TQ.thenP ?_
    refine TQ.pan rfl ?_
    exact fun w hw => Doing.no () (by first | exact hp2 | exact hp1) hcode (fun h => if_neg h) hw (by repeat (first | exact KSub.nil | refine KSub.cons (by repeat (first | exact Pick.hd | apply Pick.tl)) ?_))
  refine TL.nil ?_
  refine TQ.thenN (hY1 _ _ ?_)
  refine TW.seq fun Y2 hY2 => ?_
  refine TW.region ?_
  refine TL.p (by first | exact (Pu.ld ty_sc3) | exact (Pu.ldo ty_sc3)) ?_
  refine TL.ct rfl (enters Tryd.func45 rfl rfl) (fun w hw => by
      exact bounded_any _ _) (fun hp2 => ?_) (fun hp2 => ?_)
  rotate_left
  · have hp1' : check1 np pk l v = 0 := hp1
    have hcode : askedV np pk l v b = (if inB5 0 1000000000 b then 0 else 2) := if_pos hp1'
    refine TQ.thenP ?_
    refine TQ.pan rfl ?_
    exact fun w hw => Doing.no () (by first | exact hp2 | exact hp1) hcode (fun h => if_neg h) hw (by repeat (first | exact KSub.nil | refine KSub.cons (by repeat (first | exact Pick.hd | apply Pick.tl)) ?_))
  refine TL.nil ?_
  refine TQ.thenN (hY2 _ _ ?_)
  refine TW.dw 6 ?_
  refine RK.tk (by first | exact (Pu.lds ty_ag59) | exact (Pu.ldso ty_ag59)) ?_
  refine RK.tk (by first | exact (Pu.ld ty_sc26) | exact (Pu.ldo ty_sc26)) ?_
  refine RK.keep ?_
  refine RK.keep ?_
  refine RK.tk (by first | exact (Pu.ld ty_sc3) | exact (Pu.ldo ty_sc3)) ?_
  refine RK.keep ?_
  refine RK.ch [false, true, false] ?_ trivial
  refine WK.call rfl (enters Tryd.func46 rfl rfl) rfl (fun w hw => by
      have hLw := hL.ext (old_below hb hw hS)
      exact rests_any hLw.hG hnp (check1_ok hp1).2.1 hLw.hR) ?_
  rintro ⟨Ar, cr⟩
  refine WK.p Pu.bd ?_
  refine WK.cr rfl (enters Tryd.func48 rfl rfl) (fun w hw => by
      have hLw := hL.ext (old_below hb hw hS)
      obtain ⟨k1, k2, k3, k4⟩ := check1_ok hp1
      rw [tot3] at k4
      have hRr := OwnR.rdr (hw.holds (.own Ar np cr 23 2 (fun q => spL (rl (pk q)) (rh (pk q)))) (by simp))
      have hbb := need_yes (by decide) hp2
      have hl2 : ∀ j, j < 2 → l j ≤ 1000 := fun j hj => by
        have : j = 0 ∨ j = 1 := by omega
        rcases this with rfl | rfl <;> omega
      simp only [inB5, Bool.and_eq_true, decide_eq_true_eq] at hbb
      exact balance_any (a := a) (l := l) (c := c) (Ar := Ar) (cr := cr) (RestOk.of_packs k2) (by omega) hl2 (fun j hj => k3 j (by omega)) hRr (fun j hj => hLw.hI j (by omega))) ?_
  refine WK.n ?_
  first | refine TL.st ty_sz5 ?_ | refine TL.se ty_sz5 ?_
  refine TL.nil ?_
  refine TQ.end Tryd.results56 rfl (.nil) ?_
  exact fun w hw => Doing.yes () (by unfold askedV; rw [if_pos (show check1 np pk l v = 0 from hp1)]; exact hp2) (fun h => if_pos h) hw (by repeat (first | exact KSub.nil | refine KSub.cons (by repeat (first | exact Pick.hd | apply Pick.tl)) ?_))
set_option maxRecDepth 100000 in
set_option maxHeartbeats 1000000 in
theorem loadBalance_any {w : World} {A : Option Addr} {np cp : Nat} {pk : Nat → Nat → Int} {a : Nat → Option Addr} {l c : Nat → Nat} {v : Nat → Nat → Int} {b : Int} (hL : Lay1 w A np pk a l v) :
    Calls Tryd.prog 21 #[.slice A np cp, .agg (tieL a l c).toArray, .int .i64 b] w (Ret w (.tuple #[.int .u8 (balR np pk l v b), .int .i64 (askedV np pk l v b)])) := by
  refine K_enter (S := []) (K := []) Tryd.func21 rfl Tryd.ntmps21 rfl (Sat.start _) ?_
  refine TW.seq fun Y1 hY1 => ?_
  refine TW.region ?_
  refine TL.m Mk.bx ?_
  intro b1
  refine TL.m Mk.bx ?_
  intro b2
  refine TL.m Mk.bx ?_
  intro b3
  refine TL.m (Mk.al ty_zr5) ?_
  intro b4
  refine TL.p Pu.as ?_
  refine TL.nil ?_
  refine TQ.thenN (hY1 _ _ ?_)
  refine TW.seq fun Y2 hY2 => ?_
  refine TW.region ?_
  refine TL.p Pu.fn ?_
  refine TL.call rfl (enters Tryd.func29 rfl rfl) (M := [.blk b4 5 [.int .u8 0]]) (List.Perm.refl _) rfl (fun w hw => by
      have hB1 : Blk w b1 26 #[.slice A np cp] := hw.holds (.blk b1 26 [.slice A np cp]) (by simp)
      have hB2 : Blk w b2 59 (tieL a l c).toArray := hw.holds (.blk b2 59 (tieL a l c)) (by simp [tieL])
      have hB3 : Blk w b3 3 #[.int .i64 b] := hw.holds (.blk b3 3 [.int .i64 b]) (by simp)
      have hnd := hw.nd
      simp [feet, Fact.foot] at hnd
      obtain ⟨hself, hge⟩ := feet_new (M := [.blk b4 5 [.int .u8 0]]) hw (List.Perm.refl _)
      have hbel := Chg.ext hw.chg
      have m1 : b1 ∉ [b4] := by simp; omega
      have m2 : b2 ∉ [b4] := by simp; omega
      have m3 : b3 ∉ [b4] := by simp; omega
      have ht := trying_any (M := [.blk b4 5 [.int .u8 0]]) (code := askedV np pk l v b) (fs := []) (cs := [.pointer (some ⟨b1, 0, none⟩), .pointer (some ⟨b2, 0, none⟩), .pointer (some ⟨b3, 0, none⟩), .pointer (some ⟨b4, 0, none⟩)]) (enters Tryd.func56 rfl rfl) hself fun w' hw' =>
        balance1_any (c := c) (cp := cp) hL (old_below hbel hw' hge) hge ((OldB.of_blk (cs := [_]) hB1).sat hw' m1) ((OldB.of_blk hB2).sat hw' m2) ((OldB.of_blk (cs := [_]) hB3).sat hw' m3) m1 m2 m3 hw'.self
      refine Calls.mono (R' := fun e w' => ∃ x : Unit, e = .returned (.int .i64 (askedV np pk l v b)) ∧ Sat (feet [.blk b4 5 [.int .u8 0]]) w [.blk b4 5 [.int .u8 (balR np pk l v b)]] w') ht ?_
      rintro e w' ⟨x, he, hs⟩
      refine ⟨(), he, ?_⟩
      unfold balR
      by_cases h0 : askedV np pk l v b = 0
      · replace hs : Sat _ w (if askedV np pk l v b = 0 then _ else _) w' := hs
        rw [if_pos h0] at hs
        rw [if_pos h0]
        exact hs
      · replace hs : Sat _ w (if askedV np pk l v b = 0 then _ else _) w' := hs
        rw [if_neg h0] at hs
        rw [if_neg h0]
        exact hs) ?_
  rintro ⟨⟩
  refine TL.p Pu.as ?_
  refine TL.nil ?_
  refine TQ.thenN (hY2 _ _ ?_)
  refine TW.seq fun Y3 hY3 => ?_
  refine TW.region ?_
  refine TL.p (Pu.ld ty_sc5) ?_
  refine TL.p Pu.mv ?_
  first | refine TL.st ty_sz5 ?_ | refine TL.se ty_sz5 ?_
  refine TL.p Pu.as ?_
  refine TL.nil ?_
  refine TQ.thenN (hY3 _ _ ?_)
  refine TW.ret ?_
  refine TQ.ret Tryd.results21 rfl ((RV.c1 ty_sc5 (.tmp rfl .nil))) ?_
  exact fun w hw => Ret.of hw
end Go.Proofs.YtagcnokaajinlaaDoor
