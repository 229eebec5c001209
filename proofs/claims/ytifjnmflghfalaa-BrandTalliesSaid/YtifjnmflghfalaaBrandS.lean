/-
  The reference's Tally, walked in the K layer.
-/
import Derived.Test.YtifjnmflghfalaaBrandQ
namespace Go.Proofs.Ytifjnmflghfalaa
set_option linter.all false
set_option linter.unusedVariables false
set_option linter.unusedSimpArgs false
open Go.RowKit
/-- What the reference's tally hands back. -/
def RefPost (w : World) (a b : Int) (n : Nat) (f : Nat → Nat → Int) (e : Ending) (w' : World) : Prop := match tErr a b n f with
  | some (i, c) => Ret w (.tuple #[.slice none 0 0, .slice none 0 0, .int .i64 i, .int .i64 c]) e w'
  | none => ∃ A1 c1 A2 c2, e = .returned (.tuple #[.slice A1 (n + 1) c1, .slice A2 n c2, .int .i64 0, .int .i64 0]) ∧ Sat [] w [.own A1 (n + 1) c1 23 2 (fun i => spL (counts a b f n i).1 (counts a b f n i).2), .own A2 n c2 34 14 (fun i => rowL (known f (counts a b f n) i))] w'
theorem spanB_ord (a b : Int) : (decide (0 ≤ a) && decide (a ≤ b) && decide (b ≤ 100000)) = spanB a b := by
  unfold spanB
  rw [Bool.and_comm (decide (0 ≤ a))]
theorem ordered_span (a b : Int) (w : World) : Calls Try.prog 29 #[.agg #[.int .i64 a, .int .i64 b], .int .i64 0, .int .i64 100000] w (Ret w (.bool (spanB a b))) := by
  rw [← spanB_ord]; exact ordered_any _ _ _ _ _
def cRow (c : Nat → Int × Int) : Nat → List Value := fun i => spL (c i).1 (c i).2
theorem backs_snoc (f : Nat → Nat → Int) (c : Nat → Int × Int) (n p x : Nat) (hx : x = n - 1 - p) (hp : p < n) : backs f c ((List.range n).reverse.take (p + 1)) = back1 f (backs f c ((List.range n).reverse.take p)) x := by
  have : (List.range n).reverse.take (p + 1) = (List.range n).reverse.take p ++ [x] := by
    rw [List.take_succ_eq_append_getElem (by simpa using hp)]
    simp [hx]
  rw [this]
  simp [backs]
theorem fwd_row (a b : Int) (f : Nat → Nat → Int) (q : Nat) : [Value.int .i64 (max (f q 12) ((cnt a b f q).1 + (f q 0 + f q 2 + f q 4) - (f q 7 + f q 9 + f q 11))), .int .i64 (min (f q 13) ((cnt a b f q).2 + (f q 1 + f q 3 + f q 5) - (f q 6 + f q 8 + f q 10)))] = cRow (cnt a b f) (q + 1) := by
  have e1 : (cnt a b f q).1 + (f q 0 + f q 2 + f q 4) - (f q 7 + f q 9 + f q 11) = (cnt a b f q).1 + growLo (f q) 3 := by simp [growLo]; omega
  have e2 : (cnt a b f q).2 + (f q 1 + f q 3 + f q 5) - (f q 6 + f q 8 + f q 10) = (cnt a b f q).2 + growHi (f q) 3 := by simp [growHi]; omega
  rw [e1, e2]; rfl
theorem back_row (f : Nat → Nat → Int) (c : Nat → Int × Int) (x : Nat) : [Value.int .i64 (max (c x).1 ((c (x + 1)).1 - (f x 1 + f x 3 + f x 5) + (f x 6 + f x 8 + f x 10))), .int .i64 (min (c x).2 ((c (x + 1)).2 - (f x 0 + f x 2 + f x 4) + (f x 7 + f x 9 + f x 11)))] = cRow (back1 f c x) x := by
  have e1 : (c (x + 1)).1 - (f x 1 + f x 3 + f x 5) + (f x 6 + f x 8 + f x 10) = (c (x + 1)).1 - growHi (f x) 3 := by simp [growHi]; omega
  have e2 : (c (x + 1)).2 - (f x 0 + f x 2 + f x 4) + (f x 7 + f x 9 + f x 11) = (c (x + 1)).2 - growLo (f x) 3 := by simp [growLo]; omega
  rw [e1, e2]; simp [cRow, spL, back1]
theorem known_row (f : Nat → Nat → Int) (c : Nat → Int × Int) (p : Nat) {lo hi l2 h2 : Int} (e1 : lo = overLo f c p) (e2 : hi = overHi f c p) (e3 : l2 = -overHi f c p) (e4 : h2 = -overLo f c p) :
    [Value.int .i64 (max (f p 0) (lo + f p 1)), .int .i64 (min (f p 1) (hi + f p 0)), .int .i64 (max (f p 2) (lo + f p 3)), .int .i64 (min (f p 3) (hi + f p 2)), .int .i64 (max (f p 4) (lo + f p 5)), .int .i64 (min (f p 5) (hi + f p 4)),
      .int .i64 (max (f p 6) (l2 + f p 7)), .int .i64 (min (f p 7) (h2 + f p 6)), .int .i64 (max (f p 8) (l2 + f p 9)), .int .i64 (min (f p 9) (h2 + f p 8)), .int .i64 (max (f p 10) (l2 + f p 11)), .int .i64 (min (f p 11) (h2 + f p 10)), .int .i64 (c (p + 1)).1, .int .i64 (c (p + 1)).2] = rowL (known f c p) := by
  subst e1 e2 e3 e4
  simp [rowL, known]
  refine ⟨?_, ?_, ?_, ?_, ?_, ?_⟩ <;> congr 1 <;> omega
set_option maxRecDepth 100000 in
set_option maxHeartbeats 4000000 in
theorem refTally_any (a b : Int) (A : Option Addr) (n cp : Nat) (f : Nat → Nat → Int) (w : World) (hR : RdR w 14 A n fun i => rowL (f i)) (hn : n ≤ 1000000) :
    Calls Try.prog 6 #[.agg #[.int .i64 a, .int .i64 b], .slice A n cp] w (RefPost w a b n f) := by
  refine K_enter (S := []) (K := []) Try.func6 rfl Try.ntmps6 rfl (Sat.start _) ?_
  refine TW.seq fun Y1 hY1 => ?_
  refine TW.region ?_
  refine TL.m Mk.bx ?_
  intro b1
  refine TL.p Pu.as ?_
  refine TL.p Pu.as ?_
  refine TL.p Pu.as ?_
  refine TL.p Pu.as ?_
  refine TL.nil ?_
  refine TQ.thenN (hY1 _ _ ?_)
  refine TW.seq fun Y2 hY2 => ?_
  refine TW.seq fun Y3 hY3 => ?_
  refine TW.region ?_
  refine TL.p (Pu.lds ty_ag23) ?_
  refine TL.cr rfl (enters Try.func29 rfl rfl) (fun w hw => by
      exact ordered_span _ _ _) ?_
  refine TL.p Pu.no ?_
  refine TL.nil ?_
  refine TQ.thenN (hY3 _ _ ?_)
  refine TW.cond rfl (fun hc0 => ?_) (fun hc0 => ?_)
  · try simp only [decide_eq_true_eq, decide_eq_false_iff_not, Bool.not_eq_true', Bool.not_eq_false', Bool.and_eq_true, Bool.or_eq_true, Bool.and_eq_false_iff, Bool.or_eq_false_iff, Int.not_lt, Int.not_le] at hc0
    have hs : spanB a b = false := hc0
    refine TW.seq fun Y4 hY4 => ?_
    refine TW.region ?_
    refine TL.p Pu.as ?_
    refine TL.p Pu.as ?_
    refine TL.p Pu.as ?_
    refine TL.p Pu.as ?_
    refine TL.nil ?_
    refine TQ.thenN (hY4 _ _ ?_)
    refine TW.ret ?_
    refine TQ.thenR ?_
    refine TQ.ret Try.results6 rfl ((.tmp rfl (.tmp rfl (.tmp rfl (.tmp rfl .nil))))) ?_
    intro w' hw
    have e : tErr a b n f = some (0, 2) := by simp only [tErr, hs, if_true]
    unfold RefPost
    rw [e]
    exact Ret.of hw
  · try simp only [decide_eq_true_eq, decide_eq_false_iff_not, Bool.not_eq_true', Bool.not_eq_false', Bool.and_eq_true, Bool.or_eq_true, Bool.and_eq_false_iff, Bool.or_eq_false_iff, Int.not_lt, Int.not_le] at hc0
    have hs : spanB a b = true := hc0
    refine TW.skip ?_
    refine TQ.thenN (hY2 _ _ ?_)
    refine TW.seq fun Y5 hY5 => ?_
    refine TW.seq fun Y6 hY6 => ?_
    refine TW.region ?_
    refine TL.p Pu.mv ?_
    refine TL.p (Pu.ln Try.underlying24) ?_
    refine TL.p Pu.gt ?_
    refine TL.nil ?_
    refine TQ.thenN (hY6 _ _ ?_)
    refine TW.cond rfl (fun hc1 => ?_) (fun hc1 => ?_)
    · try simp only [decide_eq_true_eq, decide_eq_false_iff_not, Bool.not_eq_true', Bool.not_eq_false', Bool.and_eq_true, Bool.or_eq_true, Bool.and_eq_false_iff, Bool.or_eq_false_iff, Int.not_lt, Int.not_le] at hc1
      have hn40 : 40 < n := by omega
      refine TW.seq fun Y7 hY7 => ?_
      refine TW.region ?_
      refine TL.p Pu.as ?_
      refine TL.p Pu.as ?_
      refine TL.p Pu.as ?_
      refine TL.p Pu.as ?_
      refine TL.nil ?_
      refine TQ.thenN (hY7 _ _ ?_)
      refine TW.ret ?_
      refine TQ.thenR ?_
      refine TQ.ret Try.results6 rfl ((.tmp rfl (.tmp rfl (.tmp rfl (.tmp rfl .nil))))) ?_
      intro w' hw
      have e : tErr a b n f = some (0, 4) := by simp only [tErr, hs, hn40, if_true, if_false, Bool.true_eq_false]
      unfold RefPost
      rw [e]
      exact Ret.of hw
    · try simp only [decide_eq_true_eq, decide_eq_false_iff_not, Bool.not_eq_true', Bool.not_eq_false', Bool.and_eq_true, Bool.or_eq_true, Bool.and_eq_false_iff, Bool.or_eq_false_iff, Int.not_lt, Int.not_le] at hc1
      have hn40 : ¬ 40 < n := by omega
      refine TW.skip ?_
      refine TQ.thenN (hY5 _ _ ?_)
      refine TW.seq fun Y8 hY8 => ?_
      refine TW.seq fun Y9 hY9 => ?_
      refine TW.region ?_
      refine TL.p Pu.as ?_
      refine TL.nil ?_
      refine TQ.thenN (hY9 _ _ ?_)
      refine TW.block ?_
      refine TW.loop1 (fun (k : Nat) => [(8, .int .i64 (k : Int)), (1, .slice A n cp), (2, .pointer (some ⟨b1, 0, none⟩))]) (fun k => [.blk b1 23 (spL a b)]) (fun k => k ≤ n ∧ ∀ j, j < k → rowOk (f j) = true) (fun k => n - k) 0 (by repeat (first | exact trivial | refine ⟨rfl, ?_⟩ | refine ⟨trivial, ?_⟩)) ?_ ?_ ?_
      · exact (by repeat (first | exact KSub.nil | refine KSub.cons (by repeat (first | exact Pick.hd | apply Pick.tl)) ?_))
      · exact ⟨by omega, fun j hj => by omega⟩
      rintro k ⟨hk, hall⟩ Z0 hZ0
      refine TW.seq fun Y10 hY10 => ?_
      refine TW.seq fun Y11 hY11 => ?_
      refine TW.region ?_
      refine TL.p Pu.mv ?_
      refine TL.p Pu.mv ?_
      refine TL.p (Pu.ln Try.underlying24) ?_
      refine TL.p Pu.lt ?_
      refine TL.nil ?_
      refine TQ.thenN (hY11 _ _ ?_)
      refine TW.cond rfl (fun hc2 => ?_) (fun hc2 => ?_)
      · try simp only [decide_eq_true_eq, decide_eq_false_iff_not, Bool.not_eq_true', Bool.not_eq_false', Bool.and_eq_true, Bool.or_eq_true, Bool.and_eq_false_iff, Bool.or_eq_false_iff, Int.not_lt, Int.not_le] at hc2
        refine TW.skip ?_
        refine TQ.thenN (hY10 _ _ ?_)
        refine TW.seq fun Y12 hY12 => ?_
        refine TW.block ?_
        refine TW.seq fun Y13 hY13 => ?_
        refine TW.region ?_
        refine TL.p Pu.mv ?_
        refine TL.p Pu.mv ?_
        refine TL.p (Pu.el ty_et24) ?_
        refine TL.p (Pu.lds ty_ag34) ?_
        refine TL.cr rfl (enters Try.func30 rfl rfl) (fun w hw => by
            exact row_any (f k) _) ?_
        refine TL.p Pu.no ?_
        refine TL.nil ?_
        refine TQ.thenN (hY13 _ _ ?_)
        refine TW.cond rfl (fun hc3 => ?_) (fun hc3 => ?_)
        · try simp only [decide_eq_true_eq, decide_eq_false_iff_not, Bool.not_eq_true', Bool.not_eq_false', Bool.and_eq_true, Bool.or_eq_true, Bool.and_eq_false_iff, Bool.or_eq_false_iff, Int.not_lt, Int.not_le] at hc3
          have hr : rowOk (f k) = false := hc3
          refine TW.seq fun Y14 hY14 => ?_
          refine TW.region ?_
          refine TL.p Pu.mv ?_
          refine TL.p Pu.as ?_
          refine TL.p Pu.as ?_
          refine TL.p Pu.as ?_
          refine TL.p Pu.as ?_
          refine TL.nil ?_
          refine TQ.thenN (hY14 _ _ ?_)
          refine TW.ret ?_
          refine TQ.blkR ?_
          refine TQ.thenR ?_
          refine TQ.thenR ?_
          refine TQ.blkR ?_
          refine TQ.thenR ?_
          refine TQ.ret Try.results6 rfl ((.tmp rfl (.tmp rfl (.tmp rfl (.tmp rfl .nil))))) ?_
          intro w' hw
          have e : tErr a b n f = some (k, 24) := by simp only [tErr, hs, hn40, if_false, Bool.true_eq_false, firstNot_some (p := fun i => rowOk (f i)) (show k < n by omega) hr hall]
          unfold RefPost
          rw [e]
          exact Ret.of hw
        · try simp only [decide_eq_true_eq, decide_eq_false_iff_not, Bool.not_eq_true', Bool.not_eq_false', Bool.and_eq_true, Bool.or_eq_true, Bool.and_eq_false_iff, Bool.or_eq_false_iff, Int.not_lt, Int.not_le] at hc3
          have hr : rowOk (f k) = true := hc3
          refine TW.skip ?_
          refine TQ.blkN ?_
          refine TQ.thenN (hY12 _ _ ?_)
          refine TW.region ?_
          refine TL.p Pu.mv ?_
          refine TL.p Pu.ad ?_
          refine TL.p Pu.as ?_
          refine TL.nil ?_
          refine TQ.thenN (hZ0 (k + 1) _ _ ?_ ?_ (by repeat (first | exact trivial | refine ⟨rfl, ?_⟩ | refine ⟨trivial, ?_⟩)) ?_)
          · refine ⟨by omega, fun j hj => ?_⟩
            rcases Nat.lt_or_ge j k with h | h
            · exact hall j h
            · obtain rfl : j = k := by omega
              exact hr
          · exact (by first | omega | (simp only []; omega) | (simp; omega))
          · exact (by repeat (first | exact KSub.nil | refine KSub.cons (by repeat (first | exact Pick.hd | apply Pick.tl)) ?_))
      · try simp only [decide_eq_true_eq, decide_eq_false_iff_not, Bool.not_eq_true', Bool.not_eq_false', Bool.and_eq_true, Bool.or_eq_true, Bool.and_eq_false_iff, Bool.or_eq_false_iff, Int.not_lt, Int.not_le] at hc2
        refine TW.exit ?_
        refine TQ.thenX ?_
        refine TQ.thenX ?_
        refine TQ.blkX ?_
        refine TQ.thenN (hY8 _ _ ?_)
        refine TW.seq fun Y15 hY15 => ?_
        refine TW.region ?_
        refine TL.p (Pu.lds ty_ag23) ?_
        refine TL.m Mk.bs ?_
        intro b2
        refine TL.p Pu.as ?_
        refine TL.nil ?_
        refine TQ.thenN (hY15 _ _ ?_)
        refine TW.seq fun Y16 hY16 => ?_
        refine TW.seq fun Y17 hY17 => ?_
        refine TW.region ?_
        refine TL.p Pu.as ?_
        refine TL.nil ?_
        refine TQ.thenN (hY17 _ _ ?_)
        refine TW.block ?_
        obtain rfl : k = n := by omega
        have hrows := hall
        refine TW.loop3 (fun (q : Nat) (A1 : Option Addr) (c1 : Nat) => [(10, .int .i64 (q : Int)), (9, .slice A1 (q + 1) c1), (1, .slice A k cp)]) (fun q A1 c1 => [.own A1 (q + 1) c1 23 2 (cRow (cnt a b f))]) (fun q A1 c1 => q ≤ k ∧ ∀ j, j < q → decide ((cnt a b f (j + 1)).1 ≤ (cnt a b f (j + 1)).2) = true) (fun q A1 c1 => k - q) 0 _ _ (by repeat (first | exact trivial | refine ⟨rfl, ?_⟩ | refine ⟨trivial, ?_⟩)) ?_ ?_ ?_
        · exact KSub.ofBlk Pick.hd rfl (fun _ _ => rfl) rfl rfl KSub.nil
        · exact ⟨by omega, fun j hj => by omega⟩
        rintro q A1 c1 ⟨hq, hcs⟩ Z1 hZ1
        have hcb := cnt_bd (f := f) hs (fun i (hi : i < q) => hrows i (by omega)) hcs
        refine TW.seq fun Y18 hY18 => ?_
        refine TW.seq fun Y19 hY19 => ?_
        refine TW.region ?_
        refine TL.p Pu.mv ?_
        refine TL.p Pu.mv ?_
        refine TL.p (Pu.ln Try.underlying24) ?_
        refine TL.p Pu.lt ?_
        refine TL.nil ?_
        refine TQ.thenN (hY19 _ _ ?_)
        refine TW.cond rfl (fun hc4 => ?_) (fun hc4 => ?_)
        · try simp only [decide_eq_true_eq, decide_eq_false_iff_not, Bool.not_eq_true', Bool.not_eq_false', Bool.and_eq_true, Bool.or_eq_true, Bool.and_eq_false_iff, Bool.or_eq_false_iff, Int.not_lt, Int.not_le] at hc4
          have hgb := grow_bd (hrows q (by omega))
          have hbd := rowOk_bd (hrows q (by omega))
          have z0 := hbd 0 (by omega)
          have z1 := hbd 1 (by omega)
          have z2 := hbd 2 (by omega)
          have z3 := hbd 3 (by omega)
          have z4 := hbd 4 (by omega)
          have z5 := hbd 5 (by omega)
          have z6 := hbd 6 (by omega)
          have z7 := hbd 7 (by omega)
          have z8 := hbd 8 (by omega)
          have z9 := hbd 9 (by omega)
          have z10 := hbd 10 (by omega)
          have z11 := hbd 11 (by omega)
          have z12 := hbd 12 (by omega)
          have z13 := hbd 13 (by omega)
          refine TW.skip ?_
          refine TQ.thenN (hY18 _ _ ?_)
          refine TW.seq fun Y20 hY20 => ?_
          refine TW.block ?_
          refine TW.seq fun Y21 hY21 => ?_
          refine TW.dw 17 ?_
          refine RK.tk Pu.mv ?_
          refine RK.tk Pu.mv ?_
          refine RK.tk (Pu.el ty_et25) ?_
          refine RK.tk (Pu.lds ty_ag23) ?_
          refine RK.tk Pu.mv ?_
          refine RK.tk Pu.mv ?_
          refine RK.tk (Pu.el ty_et24) ?_
          refine RK.tk (Pu.lds ty_ag34) ?_
          refine RK.keep ?_
          refine RK.tk Pu.mv ?_
          refine RK.tk Pu.mv ?_
          refine RK.tk (Pu.el ty_et24) ?_
          refine RK.tk (Pu.lds ty_ag34) ?_
          refine RK.keep ?_
          refine RK.float [.int .i64 0, .int .i64 0] ?_
          refine RK.float [.int .i64 0, .int .i64 0] ?_
          refine RK.float [.int .i64 0, .int .i64 0] ?_
          refine RK.ch ?_ ⟨ty_zr23, ty_zr23, ty_zr23, trivial⟩
          refine WK.cr rfl (enters Try.func31 rfl rfl) (fun w hw => by
              exact came_any (f _) _ (fun i hi => by have := hbd i hi; unfold Small; omega)) ?_
          refine WK.cr rfl (enters Try.func32 rfl rfl) (fun w hw => by
              exact went_any (f _) _ (fun i hi => by have := hbd i hi; unfold Small; omega)) ?_
          refine WK.n ?_
          intro b3
          intro b4
          intro b5
          first | refine TL.st ty_sz23 ?_ | refine TL.se ty_sz23 ?_
          first | refine TL.st ty_sz23 ?_ | refine TL.se ty_sz23 ?_
          first | refine TL.st ty_sz23 ?_ | refine TL.se ty_sz23 ?_
          refine TL.nil ?_
          refine TQ.thenN (hY21 _ _ ?_)
          refine TW.seq fun Y22 hY22 => ?_
          refine TW.dw 24 ?_
          refine RK.tk Pu.mv ?_
          refine RK.tk Pu.mv ?_
          refine RK.tk (Pu.el ty_et24) ?_
          refine RK.tk (by first | exact Pu.fb ty_fa34_6 | exact Pu.fe ty_fa34_6) ?_
          refine RK.tk (Pu.lds ty_ag23) ?_
          refine RK.tk (by first | exact Pu.fb ty_fa23_0 | exact Pu.fe ty_fa23_0) ?_
          refine RK.tk (Pu.ld ty_sc3) ?_
          refine RK.tk (by first | exact Pu.fb ty_fa23_0 | exact Pu.fe ty_fa23_0) ?_
          refine RK.tk (Pu.ld ty_sc3) ?_
          refine RK.tk Pu.ad ?_
          refine RK.tk (by first | exact Pu.fb ty_fa23_1 | exact Pu.fe ty_fa23_1) ?_
          refine RK.tk (Pu.ld ty_sc3) ?_
          refine RK.tk Pu.sb ?_
          refine RK.tk (by first | exact Pu.fb ty_fa23_1 | exact Pu.fe ty_fa23_1) ?_
          refine RK.tk (Pu.ld ty_sc3) ?_
          refine RK.tk (by first | exact Pu.fb ty_fa23_1 | exact Pu.fe ty_fa23_1) ?_
          refine RK.tk (Pu.ld ty_sc3) ?_
          refine RK.tk Pu.ad ?_
          refine RK.tk (by first | exact Pu.fb ty_fa23_0 | exact Pu.fe ty_fa23_0) ?_
          refine RK.tk (Pu.ld ty_sc3) ?_
          refine RK.tk Pu.sb ?_
          refine RK.tk Pu.bd ?_
          refine RK.keep ?_
          refine RK.float [.int .i64 0, .int .i64 0] ?_
          refine RK.ch ?_ ⟨ty_zr23, trivial⟩
          refine WK.cr rfl (enters Try.func33 rfl rfl) (fun w hw => by
              exact cut_any _ _ _ _ _) ?_
          refine WK.n ?_
          intro b6
          first | refine TL.st ty_sz23 ?_ | refine TL.se ty_sz23 ?_
          refine TL.nil ?_
          refine TQ.thenN (hY22 _ _ ?_)
          refine TW.seq fun Y23 hY23 => ?_
          refine TW.seq fun Y24 hY24 => ?_
          refine TW.region ?_
          refine TL.p (by first | exact Pu.fb ty_fa23_0 | exact Pu.fe ty_fa23_0) ?_
          refine TL.p (Pu.ld ty_sc3) ?_
          refine TL.p (by first | exact Pu.fb ty_fa23_1 | exact Pu.fe ty_fa23_1) ?_
          refine TL.p (Pu.ld ty_sc3) ?_
          refine TL.p Pu.gt ?_
          refine TL.nil ?_
          refine TQ.thenN (hY24 _ _ ?_)
          refine TW.cond rfl (fun hc5 => ?_) (fun hc5 => ?_)
          · try simp only [decide_eq_true_eq, decide_eq_false_iff_not, Bool.not_eq_true', Bool.not_eq_false', Bool.and_eq_true, Bool.or_eq_true, Bool.and_eq_false_iff, Bool.or_eq_false_iff, Int.not_lt, Int.not_le] at hc5
            have hf := fwd_row a b f q
            simp only [cRow, spL, List.cons.injEq, Value.int.injEq, true_and, and_true] at hf
            have hbad : decide ((cnt a b f (q + 1)).1 ≤ (cnt a b f (q + 1)).2) = false := by rw [← hf.1, ← hf.2]; simpa using hc5
            refine TW.seq fun Y25 hY25 => ?_
            refine TW.region ?_
            refine TL.p Pu.mv ?_
            refine TL.p Pu.as ?_
            refine TL.p Pu.as ?_
            refine TL.p Pu.as ?_
            refine TL.p Pu.as ?_
            refine TL.nil ?_
            refine TQ.thenN (hY25 _ _ ?_)
            refine TW.ret ?_
            refine TQ.thenR ?_
            refine TQ.blkR ?_
            refine TQ.thenR ?_
            refine TQ.thenR ?_
            refine TQ.blkR ?_
            refine TQ.thenR ?_
            refine TQ.ret Try.results6 rfl ((.tmp rfl (.tmp rfl (.tmp rfl (.tmp rfl .nil))))) ?_
            intro w' hw
            have e : tErr a b k f = some (q, 25) := by
              simp only [tErr, hs, hn40, if_false, Bool.true_eq_false, firstNot_none (p := fun i => rowOk (f i)) hrows]
              rw [firstNot_some (p := fun i => decide ((cnt a b f (i + 1)).1 ≤ (cnt a b f (i + 1)).2)) (show q < k by omega) hbad hcs]
            unfold RefPost
            rw [e]
            exact Ret.of hw
          · try simp only [decide_eq_true_eq, decide_eq_false_iff_not, Bool.not_eq_true', Bool.not_eq_false', Bool.and_eq_true, Bool.or_eq_true, Bool.and_eq_false_iff, Bool.or_eq_false_iff, Int.not_lt, Int.not_le] at hc5
            have hf := fwd_row a b f q
            simp only [cRow, spL, List.cons.injEq, Value.int.injEq, true_and, and_true] at hf
            have hgood : decide ((cnt a b f (q + 1)).1 ≤ (cnt a b f (q + 1)).2) = true := by rw [← hf.1, ← hf.2]; simpa using hc5
            refine TW.skip ?_
            refine TQ.thenN (hY23 _ _ ?_)
            refine TW.region ?_
            refine TL.p Pu.mv ?_
            refine TL.p (Pu.lds ty_ag23) ?_
            refine TL.m Mk.bs ?_
            intro b7
            first | refine TL.a0 ty_et25 ?_ | refine TL.ap ty_et25 ?_
            intro A8 c8
            refine TL.p Pu.as ?_
            refine TL.nil ?_
            refine TQ.blkN ?_
            refine TQ.thenN (hY20 _ _ ?_)
            refine TW.region ?_
            refine TL.p Pu.mv ?_
            refine TL.p Pu.ad ?_
            refine TL.p Pu.as ?_
            refine TL.nil ?_
            refine TQ.thenN (hZ1 (q + 1) _ _ _ _ ?_ ?_ (by repeat (first | exact trivial | refine ⟨rfl, ?_⟩ | refine ⟨trivial, ?_⟩)) ?_)
            · refine ⟨by omega, fun j hj => ?_⟩
              rcases Nat.lt_or_ge j q with h | h
              · exact hcs j h
              · obtain rfl : j = q := by omega
                exact hgood
            · exact (by first | omega | (simp only []; omega) | (simp; omega))
            · refine KSub.own Pick.hd (fun i hi => ?_) KSub.nil
              simp only [catR]
              split
              · rfl
              · obtain rfl : i = q + 1 := by omega
                first | rfl | exact fwd_row a b f q
        · try simp only [decide_eq_true_eq, decide_eq_false_iff_not, Bool.not_eq_true', Bool.not_eq_false', Bool.and_eq_true, Bool.or_eq_true, Bool.and_eq_false_iff, Bool.or_eq_false_iff, Int.not_lt, Int.not_le] at hc4
          refine TW.exit ?_
          refine TQ.thenX ?_
          refine TQ.thenX ?_
          refine TQ.blkX ?_
          refine TQ.thenN (hY16 _ _ ?_)
          refine TW.seq fun Y26 hY26 => ?_
          refine TW.seq fun Y27 hY27 => ?_
          refine TW.region ?_
          refine TL.p Pu.mv ?_
          refine TL.p (Pu.ln Try.underlying24) ?_
          refine TL.p Pu.sb ?_
          refine TL.p Pu.as ?_
          refine TL.nil ?_
          refine TQ.thenN (hY27 _ _ ?_)
          refine TW.block ?_
          obtain rfl : q = k := by omega
          refine TW.loop2 (fun (p : Nat) (i : Int) => [(15, .int .i64 i), (9, .slice A1 (q + 1) c1), (1, .slice A q cp)]) (fun p i => [.own A1 (q + 1) c1 23 2 (cRow (backs f (cnt a b f) ((List.range q).reverse.take (q - p))))]) (fun p i => p ≤ q ∧ i = (p : Int) - 1) (fun p i => p) q _ (by repeat (first | exact trivial | refine ⟨rfl, ?_⟩ | refine ⟨trivial, ?_⟩)) ?_ ?_ ?_
          · rw [Nat.sub_self]
            exact KSub.cons Pick.hd KSub.nil
          · exact ⟨by omega, rfl⟩
          rintro p i ⟨hp, hi⟩ Z2 hZ2
          have hbk := backs_bd (f := f) (n := q) hrows ((List.range q).reverse.take (q - p)) 0 (cnt a b f) (fun i hi => by
            have := cnt_bd (f := f) hs (k := i) (fun j hj => hrows j (by omega)) (fun j hj => hcs j (by omega))
            simp; omega) (fun i hi => by have := List.mem_of_mem_take hi; simpa using this)
          generalize hc : backs f (cnt a b f) ((List.range q).reverse.take (q - p)) = c at hbk
          simp only [List.length_take, List.length_reverse, List.length_range, Nat.zero_add] at hbk
          refine TW.seq fun Y28 hY28 => ?_
          refine TW.seq fun Y29 hY29 => ?_
          refine TW.region ?_
          refine TL.p Pu.mv ?_
          refine TL.p Pu.ge ?_
          refine TL.nil ?_
          refine TQ.thenN (hY29 _ _ ?_)
          refine TW.cond rfl (fun hc6 => ?_) (fun hc6 => ?_)
          · try simp only [decide_eq_true_eq, decide_eq_false_iff_not, Bool.not_eq_true', Bool.not_eq_false', Bool.and_eq_true, Bool.or_eq_true, Bool.and_eq_false_iff, Bool.or_eq_false_iff, Int.not_lt, Int.not_le] at hc6
            obtain ⟨x, rfl⟩ : ∃ x : Nat, i = (x : Int) := ⟨i.toNat, by omega⟩
            obtain rfl : p = x + 1 := by omega
            have hbd := rowOk_bd (hrows x (by omega))
            have z0 := hbd 0 (by omega)
            have z1 := hbd 1 (by omega)
            have z2 := hbd 2 (by omega)
            have z3 := hbd 3 (by omega)
            have z4 := hbd 4 (by omega)
            have z5 := hbd 5 (by omega)
            have z6 := hbd 6 (by omega)
            have z7 := hbd 7 (by omega)
            have z8 := hbd 8 (by omega)
            have z9 := hbd 9 (by omega)
            have z10 := hbd 10 (by omega)
            have z11 := hbd 11 (by omega)
            have z12 := hbd 12 (by omega)
            have z13 := hbd 13 (by omega)
            have hb1 := hbk x (by omega)
            have hb2 := hbk (x + 1) (by omega)
            refine TW.skip ?_
            refine TQ.thenN (hY28 _ _ ?_)
            refine TW.seq fun Y30 hY30 => ?_
            refine TW.block ?_
            refine TW.seq fun Y31 hY31 => ?_
            refine TW.dw 18 ?_
            refine RK.tk Pu.mv ?_
            refine RK.tk Pu.mv ?_
            refine RK.tk Pu.ad ?_
            refine RK.tk (Pu.el ty_et25) ?_
            refine RK.tk (Pu.lds ty_ag23) ?_
            refine RK.tk Pu.mv ?_
            refine RK.tk Pu.mv ?_
            refine RK.tk (Pu.el ty_et24) ?_
            refine RK.tk (Pu.lds ty_ag34) ?_
            refine RK.keep ?_
            refine RK.tk Pu.mv ?_
            refine RK.tk Pu.mv ?_
            refine RK.tk (Pu.el ty_et24) ?_
            refine RK.tk (Pu.lds ty_ag34) ?_
            refine RK.keep ?_
            refine RK.float [.int .i64 0, .int .i64 0] ?_
            refine RK.float [.int .i64 0, .int .i64 0] ?_
            refine RK.float [.int .i64 0, .int .i64 0] ?_
            refine RK.ch ?_ ⟨ty_zr23, ty_zr23, ty_zr23, trivial⟩
            refine WK.cr rfl (enters Try.func31 rfl rfl) (fun w hw => by
                exact came_any (f _) _ (fun i hi => by have := hbd i hi; unfold Small; omega)) ?_
            refine WK.cr rfl (enters Try.func32 rfl rfl) (fun w hw => by
                exact went_any (f _) _ (fun i hi => by have := hbd i hi; unfold Small; omega)) ?_
            refine WK.n ?_
            intro b9
            intro b10
            intro b11
            first | refine TL.st ty_sz23 ?_ | refine TL.se ty_sz23 ?_
            first | refine TL.st ty_sz23 ?_ | refine TL.se ty_sz23 ?_
            first | refine TL.st ty_sz23 ?_ | refine TL.se ty_sz23 ?_
            refine TL.nil ?_
            refine TQ.thenN (hY31 _ _ ?_)
            refine TW.dw 25 ?_
            refine RK.tk Pu.mv ?_
            refine RK.tk Pu.mv ?_
            refine RK.tk Pu.mv ?_
            refine RK.tk Pu.mv ?_
            refine RK.tk (Pu.el ty_et25) ?_
            refine RK.tk (Pu.lds ty_ag23) ?_
            refine RK.tk (by first | exact Pu.fb ty_fa23_0 | exact Pu.fe ty_fa23_0) ?_
            refine RK.tk (Pu.ld ty_sc3) ?_
            refine RK.tk (by first | exact Pu.fb ty_fa23_1 | exact Pu.fe ty_fa23_1) ?_
            refine RK.tk (Pu.ld ty_sc3) ?_
            refine RK.tk Pu.sb ?_
            refine RK.tk (by first | exact Pu.fb ty_fa23_0 | exact Pu.fe ty_fa23_0) ?_
            refine RK.tk (Pu.ld ty_sc3) ?_
            refine RK.tk Pu.ad ?_
            refine RK.tk (by first | exact Pu.fb ty_fa23_1 | exact Pu.fe ty_fa23_1) ?_
            refine RK.tk (Pu.ld ty_sc3) ?_
            refine RK.tk (by first | exact Pu.fb ty_fa23_0 | exact Pu.fe ty_fa23_0) ?_
            refine RK.tk (Pu.ld ty_sc3) ?_
            refine RK.tk Pu.sb ?_
            refine RK.tk (by first | exact Pu.fb ty_fa23_1 | exact Pu.fe ty_fa23_1) ?_
            refine RK.tk (Pu.ld ty_sc3) ?_
            refine RK.tk Pu.ad ?_
            refine RK.tk Pu.bd ?_
            refine RK.keep ?_
            refine RK.keep ?_
            refine RK.ch ?_ trivial
            refine WK.cr rfl (enters Try.func33 rfl rfl) (fun w hw => by
                exact cut_any _ _ _ _ _) ?_
            refine WK.p (Pu.el ty_et25) ?_
            refine WK.n ?_
            first | refine TL.st ty_sz23 ?_ | refine TL.se ty_sz23 ?_
            refine TL.nil ?_
            refine TQ.blkN ?_
            refine TQ.thenN (hY30 _ _ ?_)
            refine TW.region ?_
            refine TL.p Pu.mv ?_
            refine TL.p Pu.sb ?_
            refine TL.p Pu.as ?_
            refine TL.nil ?_
            refine TQ.thenN (hZ2 x _ _ _ ?_ ?_ (by repeat (first | exact trivial | refine ⟨rfl, ?_⟩ | refine ⟨trivial, ?_⟩)) ?_)
            · exact ⟨by omega, rfl⟩
            · exact (by first | omega | (simp only []; omega) | (simp; omega))
            · refine KSub.own Pick.hd (fun i hi => ?_) KSub.nil
              have e := backs_snoc f (cnt a b f) q (q - (x + 1)) x (by omega) (by omega)
              rw [hc, show q - (x + 1) + 1 = q - x by omega] at e
              rw [e]
              by_cases hix : i = x
              · subst hix
                simp only [updR, if_true]
                exact back_row f c i
              · simp [updR, hix, cRow, back1]
          · try simp only [decide_eq_true_eq, decide_eq_false_iff_not, Bool.not_eq_true', Bool.not_eq_false', Bool.and_eq_true, Bool.or_eq_true, Bool.and_eq_false_iff, Bool.or_eq_false_iff, Int.not_lt, Int.not_le] at hc6
            refine TW.exit ?_
            refine TQ.thenX ?_
            refine TQ.thenX ?_
            refine TQ.blkX ?_
            refine TQ.thenN (hY26 _ _ ?_)
            refine TW.seq fun Y32 hY32 => ?_
            refine TW.region ?_
            refine TL.p Pu.as ?_
            refine TL.nil ?_
            refine TQ.thenN (hY32 _ _ ?_)
            refine TW.seq fun Y33 hY33 => ?_
            refine TW.seq fun Y34 hY34 => ?_
            refine TW.region ?_
            refine TL.p Pu.as ?_
            refine TL.nil ?_
            refine TQ.thenN (hY34 _ _ ?_)
            refine TW.block ?_
            obtain rfl : p = 0 := by omega
            rw [Nat.sub_zero, List.take_of_length_le (by simp)] at hc
            refine TW.loop3 (fun (p : Nat) (A2 : Option Addr) (c2 : Nat) => [(20, .int .i64 (p : Int)), (19, .slice A2 p c2), (9, .slice A1 (q + 1) c1), (1, .slice A q cp)]) (fun p A2 c2 => [.own A2 p c2 34 14 (fun i => rowL (known f c i)), .own A1 (q + 1) c1 23 2 (cRow c)]) (fun p A2 c2 => p ≤ q) (fun p A2 c2 => q - p) 0 _ _ (by repeat (first | exact trivial | refine ⟨rfl, ?_⟩ | refine ⟨trivial, ?_⟩)) ?_ ?_ ?_
            · exact KSub.nilOwn (KSub.cons Pick.hd KSub.nil)
            · exact Nat.zero_le _
            rintro p A2 c2 hp Z3 hZ3
            refine TW.seq fun Y35 hY35 => ?_
            refine TW.seq fun Y36 hY36 => ?_
            refine TW.region ?_
            refine TL.p Pu.mv ?_
            refine TL.p Pu.mv ?_
            refine TL.p (Pu.ln Try.underlying24) ?_
            refine TL.p Pu.lt ?_
            refine TL.nil ?_
            refine TQ.thenN (hY36 _ _ ?_)
            refine TW.cond rfl (fun hc7 => ?_) (fun hc7 => ?_)
            · try simp only [decide_eq_true_eq, decide_eq_false_iff_not, Bool.not_eq_true', Bool.not_eq_false', Bool.and_eq_true, Bool.or_eq_true, Bool.and_eq_false_iff, Bool.or_eq_false_iff, Int.not_lt, Int.not_le] at hc7
              have hbd := rowOk_bd (hrows p (by omega))
              have z0 := hbd 0 (by omega)
              have z1 := hbd 1 (by omega)
              have z2 := hbd 2 (by omega)
              have z3 := hbd 3 (by omega)
              have z4 := hbd 4 (by omega)
              have z5 := hbd 5 (by omega)
              have z6 := hbd 6 (by omega)
              have z7 := hbd 7 (by omega)
              have z8 := hbd 8 (by omega)
              have z9 := hbd 9 (by omega)
              have z10 := hbd 10 (by omega)
              have z11 := hbd 11 (by omega)
              have z12 := hbd 12 (by omega)
              have z13 := hbd 13 (by omega)
              have hb1 := hbk p (by omega)
              have hb2 := hbk (p + 1) (by omega)
              refine TW.skip ?_
              refine TQ.thenN (hY35 _ _ ?_)
              refine TW.seq fun Y37 hY37 => ?_
              refine TW.block ?_
              refine TW.seq fun Y38 hY38 => ?_
              refine TW.region ?_
              refine TL.p Pu.mv ?_
              refine TL.p Pu.mv ?_
              refine TL.p (Pu.el ty_et24) ?_
              refine TL.p (Pu.lds ty_ag34) ?_
              refine TL.m (Mk.al ty_zr34) ?_
              intro b12
              first | refine TL.st ty_sz34 ?_ | refine TL.se ty_sz34 ?_
              refine TL.nil ?_
              refine TQ.thenN (hY38 _ _ ?_)
              refine TW.seq fun Y39 hY39 => ?_
              refine TW.dw 26 ?_
              refine RK.tk Pu.mv ?_
              refine RK.tk Pu.mv ?_
              refine RK.tk Pu.ad ?_
              refine RK.tk (Pu.el ty_et25) ?_
              refine RK.tk (by first | exact Pu.fb ty_fa23_0 | exact Pu.fe ty_fa23_0) ?_
              refine RK.tk (Pu.ld ty_sc3) ?_
              refine RK.tk Pu.mv ?_
              refine RK.tk Pu.mv ?_
              refine RK.tk (Pu.el ty_et25) ?_
              refine RK.tk (by first | exact Pu.fb ty_fa23_1 | exact Pu.fe ty_fa23_1) ?_
              refine RK.tk (Pu.ld ty_sc3) ?_
              refine RK.tk Pu.sb ?_
              refine RK.tk Pu.mv ?_
              refine RK.tk Pu.mv ?_
              refine RK.tk Pu.ad ?_
              refine RK.tk (Pu.el ty_et25) ?_
              refine RK.tk (by first | exact Pu.fb ty_fa23_1 | exact Pu.fe ty_fa23_1) ?_
              refine RK.tk (Pu.ld ty_sc3) ?_
              refine RK.tk Pu.mv ?_
              refine RK.tk Pu.mv ?_
              refine RK.tk (Pu.el ty_et25) ?_
              refine RK.tk (by first | exact Pu.fb ty_fa23_0 | exact Pu.fe ty_fa23_0) ?_
              refine RK.tk (Pu.ld ty_sc3) ?_
              refine RK.tk Pu.sb ?_
              refine RK.tk Pu.bd ?_
              refine RK.float [.int .i64 0, .int .i64 0] ?_
              refine RK.ch ?_ ⟨ty_zr23, trivial⟩
              refine WK.n ?_
              intro b13
              first | refine TL.st ty_sz23 ?_ | refine TL.se ty_sz23 ?_
              refine TL.nil ?_
              refine TQ.thenN (hY39 _ _ ?_)
              refine TW.seq fun Y40 hY40 => ?_
              refine TW.dw 6 ?_
              refine RK.tk (Pu.lds ty_ag34) ?_
              refine RK.keep ?_
              refine RK.tk (Pu.lds ty_ag34) ?_
              refine RK.keep ?_
              refine RK.float [.int .i64 0, .int .i64 0] ?_
              refine RK.float [.int .i64 0, .int .i64 0] ?_
              refine RK.ch ?_ ⟨ty_zr23, ty_zr23, trivial⟩
              refine WK.cr rfl (enters Try.func31 rfl rfl) (fun w hw => by
                  exact came_any (f _) _ (fun i hi => by have := hbd i hi; unfold Small; omega)) ?_
              refine WK.cr rfl (enters Try.func32 rfl rfl) (fun w hw => by
                  exact went_any (f _) _ (fun i hi => by have := hbd i hi; unfold Small; omega)) ?_
              refine WK.n ?_
              intro b14
              intro b15
              first | refine TL.st ty_sz23 ?_ | refine TL.se ty_sz23 ?_
              first | refine TL.st ty_sz23 ?_ | refine TL.se ty_sz23 ?_
              refine TL.nil ?_
              refine TQ.thenN (hY40 _ _ ?_)
              refine TW.seq fun Y41 hY41 => ?_
              refine TW.region ?_
              refine TL.p (Pu.lds ty_ag34) ?_
              refine TL.m (Mk.al ty_zr34) ?_
              intro b16
              first | refine TL.st ty_sz34 ?_ | refine TL.se ty_sz34 ?_
              refine TL.nil ?_
              refine TQ.thenN (hY41 _ _ ?_)
              refine TW.seq fun Y42 hY42 => ?_
              refine TW.region ?_
              refine TL.p (Pu.lds ty_ag23) ?_
              refine TL.p (Pu.lds ty_ag23) ?_
              refine TL.p (Pu.lds ty_ag23) ?_
              refine TL.cr rfl (enters Try.func34 rfl rfl) (fun w hw => by
                  exact arrived_any _ _ _ _ _ _ _ (by unfold Small; omega) (by unfold Small; omega) (by unfold Small; omega) (by unfold Small; omega) (by unfold Small; omega) (by unfold Small; omega)) ?_
              refine TL.m (Mk.al ty_zr23) ?_
              intro b17
              first | refine TL.st ty_sz23 ?_ | refine TL.se ty_sz23 ?_
              refine TL.nil ?_
              refine TQ.thenN (hY42 _ _ ?_)
              refine TW.seq fun Y43 hY43 => ?_
              refine TW.region ?_
              refine TL.p (Pu.lds ty_ag23) ?_
              refine TL.p (Pu.lds ty_ag23) ?_
              refine TL.p (Pu.lds ty_ag23) ?_
              refine TL.cr rfl (enters Try.func35 rfl rfl) (fun w hw => by
                  exact departed_any _ _ _ _ _ _ _ (by unfold Small; omega) (by unfold Small; omega) (by unfold Small; omega) (by unfold Small; omega) (by unfold Small; omega) (by unfold Small; omega)) ?_
              refine TL.m (Mk.al ty_zr23) ?_
              intro b18
              first | refine TL.st ty_sz23 ?_ | refine TL.se ty_sz23 ?_
              refine TL.nil ?_
              refine TQ.thenN (hY43 _ _ ?_)
              refine TW.seq fun Y44 hY44 => ?_
              refine TW.region ?_
              refine TL.p (by first | exact Pu.fb ty_fa34_0 | exact Pu.fe ty_fa34_0) ?_
              refine TL.p (Pu.lds ty_ag23) ?_
              refine TL.p (by first | exact Pu.fb ty_fa23_0 | exact Pu.fe ty_fa23_0) ?_
              refine TL.p (Pu.ld ty_sc3) ?_
              refine TL.p (by first | exact Pu.fb ty_fa34_0 | exact Pu.fe ty_fa34_0) ?_
              refine TL.p (by first | exact Pu.fb ty_fa23_1 | exact Pu.fe ty_fa23_1) ?_
              refine TL.p (Pu.ld ty_sc3) ?_
              refine TL.p Pu.ad ?_
              refine TL.p (by first | exact Pu.fb ty_fa23_1 | exact Pu.fe ty_fa23_1) ?_
              refine TL.p (Pu.ld ty_sc3) ?_
              refine TL.p (by first | exact Pu.fb ty_fa34_0 | exact Pu.fe ty_fa34_0) ?_
              refine TL.p (by first | exact Pu.fb ty_fa23_0 | exact Pu.fe ty_fa23_0) ?_
              refine TL.p (Pu.ld ty_sc3) ?_
              refine TL.p Pu.ad ?_
              refine TL.p Pu.bd ?_
              refine TL.cr rfl (enters Try.func33 rfl rfl) (fun w hw => by
                  exact cut_any _ _ _ _ _) ?_
              refine TL.p (by first | exact Pu.fb ty_fa34_0 | exact Pu.fe ty_fa34_0) ?_
              first | refine TL.st ty_sz23 ?_ | refine TL.se ty_sz23 ?_
              refine TL.nil ?_
              refine TQ.thenN (hY44 _ _ ?_)
              refine TW.seq fun Y45 hY45 => ?_
              refine TW.region ?_
              refine TL.p (by first | exact Pu.fb ty_fa34_1 | exact Pu.fe ty_fa34_1) ?_
              refine TL.p (Pu.lds ty_ag23) ?_
              refine TL.p (by first | exact Pu.fb ty_fa23_0 | exact Pu.fe ty_fa23_0) ?_
              refine TL.p (Pu.ld ty_sc3) ?_
              refine TL.p (by first | exact Pu.fb ty_fa34_1 | exact Pu.fe ty_fa34_1) ?_
              refine TL.p (by first | exact Pu.fb ty_fa23_1 | exact Pu.fe ty_fa23_1) ?_
              refine TL.p (Pu.ld ty_sc3) ?_
              refine TL.p Pu.ad ?_
              refine TL.p (by first | exact Pu.fb ty_fa23_1 | exact Pu.fe ty_fa23_1) ?_
              refine TL.p (Pu.ld ty_sc3) ?_
              refine TL.p (by first | exact Pu.fb ty_fa34_1 | exact Pu.fe ty_fa34_1) ?_
              refine TL.p (by first | exact Pu.fb ty_fa23_0 | exact Pu.fe ty_fa23_0) ?_
              refine TL.p (Pu.ld ty_sc3) ?_
              refine TL.p Pu.ad ?_
              refine TL.p Pu.bd ?_
              refine TL.cr rfl (enters Try.func33 rfl rfl) (fun w hw => by
                  exact cut_any _ _ _ _ _) ?_
              refine TL.p (by first | exact Pu.fb ty_fa34_1 | exact Pu.fe ty_fa34_1) ?_
              first | refine TL.st ty_sz23 ?_ | refine TL.se ty_sz23 ?_
              refine TL.nil ?_
              refine TQ.thenN (hY45 _ _ ?_)
              refine TW.seq fun Y46 hY46 => ?_
              refine TW.region ?_
              refine TL.p (by first | exact Pu.fb ty_fa34_2 | exact Pu.fe ty_fa34_2) ?_
              refine TL.p (Pu.lds ty_ag23) ?_
              refine TL.p (by first | exact Pu.fb ty_fa23_0 | exact Pu.fe ty_fa23_0) ?_
              refine TL.p (Pu.ld ty_sc3) ?_
              refine TL.p (by first | exact Pu.fb ty_fa34_2 | exact Pu.fe ty_fa34_2) ?_
              refine TL.p (by first | exact Pu.fb ty_fa23_1 | exact Pu.fe ty_fa23_1) ?_
              refine TL.p (Pu.ld ty_sc3) ?_
              refine TL.p Pu.ad ?_
              refine TL.p (by first | exact Pu.fb ty_fa23_1 | exact Pu.fe ty_fa23_1) ?_
              refine TL.p (Pu.ld ty_sc3) ?_
              refine TL.p (by first | exact Pu.fb ty_fa34_2 | exact Pu.fe ty_fa34_2) ?_
              refine TL.p (by first | exact Pu.fb ty_fa23_0 | exact Pu.fe ty_fa23_0) ?_
              refine TL.p (Pu.ld ty_sc3) ?_
              refine TL.p Pu.ad ?_
              refine TL.p Pu.bd ?_
              refine TL.cr rfl (enters Try.func33 rfl rfl) (fun w hw => by
                  exact cut_any _ _ _ _ _) ?_
              refine TL.p (by first | exact Pu.fb ty_fa34_2 | exact Pu.fe ty_fa34_2) ?_
              first | refine TL.st ty_sz23 ?_ | refine TL.se ty_sz23 ?_
              refine TL.nil ?_
              refine TQ.thenN (hY46 _ _ ?_)
              refine TW.seq fun Y47 hY47 => ?_
              refine TW.region ?_
              refine TL.p (by first | exact Pu.fb ty_fa34_3 | exact Pu.fe ty_fa34_3) ?_
              refine TL.p (Pu.lds ty_ag23) ?_
              refine TL.p (by first | exact Pu.fb ty_fa23_0 | exact Pu.fe ty_fa23_0) ?_
              refine TL.p (Pu.ld ty_sc3) ?_
              refine TL.p (by first | exact Pu.fb ty_fa34_3 | exact Pu.fe ty_fa34_3) ?_
              refine TL.p (by first | exact Pu.fb ty_fa23_1 | exact Pu.fe ty_fa23_1) ?_
              refine TL.p (Pu.ld ty_sc3) ?_
              refine TL.p Pu.ad ?_
              refine TL.p (by first | exact Pu.fb ty_fa23_1 | exact Pu.fe ty_fa23_1) ?_
              refine TL.p (Pu.ld ty_sc3) ?_
              refine TL.p (by first | exact Pu.fb ty_fa34_3 | exact Pu.fe ty_fa34_3) ?_
              refine TL.p (by first | exact Pu.fb ty_fa23_0 | exact Pu.fe ty_fa23_0) ?_
              refine TL.p (Pu.ld ty_sc3) ?_
              refine TL.p Pu.ad ?_
              refine TL.p Pu.bd ?_
              refine TL.cr rfl (enters Try.func33 rfl rfl) (fun w hw => by
                  exact cut_any _ _ _ _ _) ?_
              refine TL.p (by first | exact Pu.fb ty_fa34_3 | exact Pu.fe ty_fa34_3) ?_
              first | refine TL.st ty_sz23 ?_ | refine TL.se ty_sz23 ?_
              refine TL.nil ?_
              refine TQ.thenN (hY47 _ _ ?_)
              refine TW.seq fun Y48 hY48 => ?_
              refine TW.region ?_
              refine TL.p (by first | exact Pu.fb ty_fa34_4 | exact Pu.fe ty_fa34_4) ?_
              refine TL.p (Pu.lds ty_ag23) ?_
              refine TL.p (by first | exact Pu.fb ty_fa23_0 | exact Pu.fe ty_fa23_0) ?_
              refine TL.p (Pu.ld ty_sc3) ?_
              refine TL.p (by first | exact Pu.fb ty_fa34_4 | exact Pu.fe ty_fa34_4) ?_
              refine TL.p (by first | exact Pu.fb ty_fa23_1 | exact Pu.fe ty_fa23_1) ?_
              refine TL.p (Pu.ld ty_sc3) ?_
              refine TL.p Pu.ad ?_
              refine TL.p (by first | exact Pu.fb ty_fa23_1 | exact Pu.fe ty_fa23_1) ?_
              refine TL.p (Pu.ld ty_sc3) ?_
              refine TL.p (by first | exact Pu.fb ty_fa34_4 | exact Pu.fe ty_fa34_4) ?_
              refine TL.p (by first | exact Pu.fb ty_fa23_0 | exact Pu.fe ty_fa23_0) ?_
              refine TL.p (Pu.ld ty_sc3) ?_
              refine TL.p Pu.ad ?_
              refine TL.p Pu.bd ?_
              refine TL.cr rfl (enters Try.func33 rfl rfl) (fun w hw => by
                  exact cut_any _ _ _ _ _) ?_
              refine TL.p (by first | exact Pu.fb ty_fa34_4 | exact Pu.fe ty_fa34_4) ?_
              first | refine TL.st ty_sz23 ?_ | refine TL.se ty_sz23 ?_
              refine TL.nil ?_
              refine TQ.thenN (hY48 _ _ ?_)
              refine TW.seq fun Y49 hY49 => ?_
              refine TW.region ?_
              refine TL.p (by first | exact Pu.fb ty_fa34_5 | exact Pu.fe ty_fa34_5) ?_
              refine TL.p (Pu.lds ty_ag23) ?_
              refine TL.p (by first | exact Pu.fb ty_fa23_0 | exact Pu.fe ty_fa23_0) ?_
              refine TL.p (Pu.ld ty_sc3) ?_
              refine TL.p (by first | exact Pu.fb ty_fa34_5 | exact Pu.fe ty_fa34_5) ?_
              refine TL.p (by first | exact Pu.fb ty_fa23_1 | exact Pu.fe ty_fa23_1) ?_
              refine TL.p (Pu.ld ty_sc3) ?_
              refine TL.p Pu.ad ?_
              refine TL.p (by first | exact Pu.fb ty_fa23_1 | exact Pu.fe ty_fa23_1) ?_
              refine TL.p (Pu.ld ty_sc3) ?_
              refine TL.p (by first | exact Pu.fb ty_fa34_5 | exact Pu.fe ty_fa34_5) ?_
              refine TL.p (by first | exact Pu.fb ty_fa23_0 | exact Pu.fe ty_fa23_0) ?_
              refine TL.p (Pu.ld ty_sc3) ?_
              refine TL.p Pu.ad ?_
              refine TL.p Pu.bd ?_
              refine TL.cr rfl (enters Try.func33 rfl rfl) (fun w hw => by
                  exact cut_any _ _ _ _ _) ?_
              refine TL.p (by first | exact Pu.fb ty_fa34_5 | exact Pu.fe ty_fa34_5) ?_
              first | refine TL.st ty_sz23 ?_ | refine TL.se ty_sz23 ?_
              refine TL.nil ?_
              refine TQ.thenN (hY49 _ _ ?_)
              refine TW.seq fun Y50 hY50 => ?_
              refine TW.region ?_
              refine TL.p Pu.mv ?_
              refine TL.p Pu.mv ?_
              refine TL.p Pu.ad ?_
              refine TL.p (Pu.el ty_et25) ?_
              refine TL.p (Pu.lds ty_ag23) ?_
              refine TL.p (by first | exact Pu.fb ty_fa34_6 | exact Pu.fe ty_fa34_6) ?_
              first | refine TL.st ty_sz23 ?_ | refine TL.se ty_sz23 ?_
              refine TL.nil ?_
              refine TQ.thenN (hY50 _ _ ?_)
              refine TW.region ?_
              refine TL.p Pu.mv ?_
              refine TL.p (Pu.lds ty_ag34) ?_
              refine TL.m Mk.bs ?_
              intro b19
              first | refine TL.a0 ty_et24 ?_ | refine TL.ap ty_et24 ?_
              intro A20 c20
              refine TL.p Pu.as ?_
              refine TL.nil ?_
              refine TQ.blkN ?_
              refine TQ.thenN (hY37 _ _ ?_)
              refine TW.region ?_
              refine TL.p Pu.mv ?_
              refine TL.p Pu.ad ?_
              refine TL.p Pu.as ?_
              refine TL.nil ?_
              refine TQ.thenN (hZ3 (p + 1) _ _ _ _ ?_ ?_ (by repeat (first | exact trivial | refine ⟨rfl, ?_⟩ | refine ⟨trivial, ?_⟩)) ?_)
              · exact (by omega)
              · exact (by first | omega | (simp only []; omega) | (simp; omega))
              · refine KSub.own Pick.hd (fun i hi => ?_) (KSub.cons (by repeat (first | exact Pick.hd | apply Pick.tl)) KSub.nil)
                simp only [catR]
                split
                · rfl
                · obtain rfl : i = p := by omega
                  exact known_row f c i (by simp [overLo, growHi]; omega) (by simp [overHi, growLo]; omega) (by simp [overHi, growLo]; omega) (by simp [overLo, growHi]; omega)
            · try simp only [decide_eq_true_eq, decide_eq_false_iff_not, Bool.not_eq_true', Bool.not_eq_false', Bool.and_eq_true, Bool.or_eq_true, Bool.and_eq_false_iff, Bool.or_eq_false_iff, Int.not_lt, Int.not_le] at hc7
              refine TW.exit ?_
              refine TQ.thenX ?_
              refine TQ.thenX ?_
              refine TQ.blkX ?_
              refine TQ.thenN (hY33 _ _ ?_)
              refine TW.seq fun Y51 hY51 => ?_
              refine TW.region ?_
              refine TL.p Pu.mv ?_
              refine TL.p Pu.mv ?_
              refine TL.p Pu.as ?_
              refine TL.p Pu.as ?_
              refine TL.p Pu.as ?_
              refine TL.p Pu.as ?_
              refine TL.nil ?_
              refine TQ.thenN (hY51 _ _ ?_)
              refine TW.ret ?_
              refine TQ.ret Try.results6 rfl ((.tmp rfl (.tmp rfl (.tmp rfl (.tmp rfl .nil))))) ?_
              intro w' hw
              obtain rfl : p = q := by omega
              have e : tErr a b p f = none := by
                simp only [tErr, hs, hn40, if_false, Bool.true_eq_false, firstNot_none (p := fun i => rowOk (f i)) hrows, firstNot_none (p := fun i => decide ((cnt a b f (i + 1)).1 ≤ (cnt a b f (i + 1)).2)) hcs]
              unfold RefPost
              rw [e]
              have hcc : counts a b f p = c := hc
              rw [hcc]
              exact ⟨A1, c1, A2, c2, rfl, hw.sub (KSub.cons (by repeat (first | exact Pick.hd | apply Pick.tl)) (KSub.cons Pick.hd KSub.nil))⟩
end Go.Proofs.Ytifjnmflghfalaa
