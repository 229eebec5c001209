/-
  The law BrandTallies, walked: brand.Tally and the reference's Tally hand back the same. No condition.
-/
import Derived.Test.YtifjnmflghfalaaBrandS
import Derived.Test.YtifjnmflghfalaaBrandF
import Derived.Test.YtifjnmflghfalaaKr
namespace Go.Proofs.Ytifjnmflghfalaa
set_option linter.all false
set_option linter.unusedVariables false
set_option linter.unusedSimpArgs false
open Go.RowKit
section
variable {w : World} {A B : Option Addr} {n c d : Nat}
set_option maxRecDepth 100000 in
theorem sameSpans_any (f : Nat → Nat → Int) (hA : RdR w 2 A n fun i => spL (f i 0) (f i 1)) (hB : RdR w 2 B n fun i => spL (f i 0) (f i 1)) (hn : n ≤ 1000000) :
    Calls Try.prog 7 #[.slice A n c, .slice B n d] w (Ret w (.bool true)) := by
  refine K_enter (S := []) (K := []) Try.func7 rfl Try.ntmps7 rfl (Sat.start _) ?_
  refine TW.seq fun Y1 hY1 => ?_
  refine TW.region ?_
  refine TL.p Pu.as ?_
  refine TL.nil ?_
  refine TQ.thenN (hY1 _ _ ?_)
  refine TW.seq fun Y2 hY2 => ?_
  refine TW.seq fun Y3 hY3 => ?_
  refine TW.region ?_
  refine TL.p Pu.mv ?_
  refine TL.p (Pu.ln Try.underlying25) ?_
  refine TL.p Pu.mv ?_
  refine TL.p (Pu.ln Try.underlying25) ?_
  refine TL.p Pu.ne ?_
  refine TL.nil ?_
  refine TQ.thenN (hY3 _ _ ?_)
  refine TW.condF rfl ((by simp)) ?_
  refine TW.skip ?_
  refine TQ.thenN (hY2 _ _ ?_)
  refine TW.seq fun Y4 hY4 => ?_
  refine TW.seq fun Y5 hY5 => ?_
  refine TW.region ?_
  refine TL.p Pu.as ?_
  refine TL.nil ?_
  refine TQ.thenN (hY5 _ _ ?_)
  refine TW.block ?_
  refine TW.loop1 (fun (k : Nat) => [(5, .int .i64 (k : Int)), (0, .slice A n c), (1, .slice B n d)]) (fun k => []) (fun k => k ≤ n) (fun k => n - k) 0 (by repeat (first | exact trivial | refine ⟨rfl, ?_⟩ | refine ⟨trivial, ?_⟩)) ?_ ?_ ?_
  · exact (by repeat (first | exact KSub.nil | refine KSub.cons (by repeat (first | exact Pick.hd | apply Pick.tl)) ?_))
  · exact Nat.zero_le _
  rintro k hk Z0 hZ0
  refine TW.seq fun Y6 hY6 => ?_
  refine TW.seq fun Y7 hY7 => ?_
  refine TW.region ?_
  refine TL.p Pu.mv ?_
  refine TL.p Pu.mv ?_
  refine TL.p (Pu.ln Try.underlying25) ?_
  refine TL.p Pu.lt ?_
  refine TL.nil ?_
  refine TQ.thenN (hY7 _ _ ?_)
  refine TW.cond rfl (fun hc1 => ?_) (fun hc1 => ?_)
  · try simp only [decide_eq_true_eq, decide_eq_false_iff_not, Bool.not_eq_true', Bool.not_eq_false', Bool.and_eq_true, Bool.or_eq_true, Bool.and_eq_false_iff, Bool.or_eq_false_iff, Int.not_lt, Int.not_le] at hc1
    refine TW.skip ?_
    refine TQ.thenN (hY6 _ _ ?_)
    refine TW.seq fun Y8 hY8 => ?_
    refine TW.block ?_
    refine TW.seq fun Y9 hY9 => ?_
    refine TW.dw 9 ?_
    refine RK.tk Pu.mv ?_
    refine RK.tk Pu.mv ?_
    refine RK.tk (Pu.el ty_et25) ?_
    refine RK.tk (Pu.lds ty_ag23) ?_
    refine RK.tk Pu.mv ?_
    refine RK.tk Pu.mv ?_
    refine RK.tk (Pu.el ty_et25) ?_
    refine RK.tk (Pu.lds ty_ag23) ?_
    refine RK.tk Pu.bn ?_
    refine RK.ch ?_ trivial
    refine WK.n ?_
    refine TL.nil ?_
    refine TQ.thenN (hY9 _ _ ?_)
    refine TW.condF rfl ((by simp)) ?_
    refine TW.skip ?_
    refine TQ.blkN ?_
    refine TQ.thenN (hY8 _ _ ?_)
    refine TW.region ?_
    refine TL.p Pu.mv ?_
    refine TL.p Pu.ad ?_
    refine TL.p Pu.as ?_
    refine TL.nil ?_
    refine TQ.thenN (hZ0 (k + 1) _ _ ?_ ?_ (by repeat (first | exact trivial | refine ⟨rfl, ?_⟩ | refine ⟨trivial, ?_⟩)) ?_)
    · exact (by omega)
    · exact (by first | omega | (simp only []; omega) | (simp; omega))
    · exact (by repeat (first | exact KSub.nil | refine KSub.cons (by repeat (first | exact Pick.hd | apply Pick.tl)) ?_))
  · try simp only [decide_eq_true_eq, decide_eq_false_iff_not, Bool.not_eq_true', Bool.not_eq_false', Bool.and_eq_true, Bool.or_eq_true, Bool.and_eq_false_iff, Bool.or_eq_false_iff, Int.not_lt, Int.not_le] at hc1
    refine TW.exit ?_
    refine TQ.thenX ?_
    refine TQ.thenX ?_
    refine TQ.blkX ?_
    refine TQ.thenN (hY4 _ _ ?_)
    refine TW.seq fun Y10 hY10 => ?_
    refine TW.region ?_
    refine TL.p Pu.as ?_
    refine TL.nil ?_
    refine TQ.thenN (hY10 _ _ ?_)
    refine TW.ret ?_
    refine TQ.ret Try.results7 rfl ((.tmp rfl .nil)) ?_
    exact fun w hw => Ret.of hw
set_option maxRecDepth 100000 in
theorem sameRows_any (f : Nat → Nat → Int) (hA : RdR w 14 A n fun i => rowL (f i)) (hB : RdR w 14 B n fun i => rowL (f i)) (hn : n ≤ 1000000) :
    Calls Try.prog 8 #[.slice A n c, .slice B n d] w (Ret w (.bool true)) := by
  refine K_enter (S := []) (K := []) Try.func8 rfl Try.ntmps8 rfl (Sat.start _) ?_
  refine TW.seq fun Y1 hY1 => ?_
  refine TW.region ?_
  refine TL.p Pu.as ?_
  refine TL.nil ?_
  refine TQ.thenN (hY1 _ _ ?_)
  refine TW.seq fun Y2 hY2 => ?_
  refine TW.seq fun Y3 hY3 => ?_
  refine TW.region ?_
  refine TL.p Pu.mv ?_
  refine TL.p (Pu.ln Try.underlying24) ?_
  refine TL.p Pu.mv ?_
  refine TL.p (Pu.ln Try.underlying24) ?_
  refine TL.p Pu.ne ?_
  refine TL.nil ?_
  refine TQ.thenN (hY3 _ _ ?_)
  refine TW.condF rfl ((by simp)) ?_
  refine TW.skip ?_
  refine TQ.thenN (hY2 _ _ ?_)
  refine TW.seq fun Y4 hY4 => ?_
  refine TW.seq fun Y5 hY5 => ?_
  refine TW.region ?_
  refine TL.p Pu.as ?_
  refine TL.nil ?_
  refine TQ.thenN (hY5 _ _ ?_)
  refine TW.block ?_
  refine TW.loop1 (fun (k : Nat) => [(5, .int .i64 (k : Int)), (0, .slice A n c), (1, .slice B n d)]) (fun k => []) (fun k => k ≤ n) (fun k => n - k) 0 (by repeat (first | exact trivial | refine ⟨rfl, ?_⟩ | refine ⟨trivial, ?_⟩)) ?_ ?_ ?_
  · exact (by repeat (first | exact KSub.nil | refine KSub.cons (by repeat (first | exact Pick.hd | apply Pick.tl)) ?_))
  · exact Nat.zero_le _
  rintro k hk Z0 hZ0
  refine TW.seq fun Y6 hY6 => ?_
  refine TW.seq fun Y7 hY7 => ?_
  refine TW.region ?_
  refine TL.p Pu.mv ?_
  refine TL.p Pu.mv ?_
  refine TL.p (Pu.ln Try.underlying24) ?_
  refine TL.p Pu.lt ?_
  refine TL.nil ?_
  refine TQ.thenN (hY7 _ _ ?_)
  refine TW.cond rfl (fun hc1 => ?_) (fun hc1 => ?_)
  · try simp only [decide_eq_true_eq, decide_eq_false_iff_not, Bool.not_eq_true', Bool.not_eq_false', Bool.and_eq_true, Bool.or_eq_true, Bool.and_eq_false_iff, Bool.or_eq_false_iff, Int.not_lt, Int.not_le] at hc1
    refine TW.skip ?_
    refine TQ.thenN (hY6 _ _ ?_)
    refine TW.seq fun Y8 hY8 => ?_
    refine TW.block ?_
    refine TW.seq fun Y9 hY9 => ?_
    refine TW.dw 9 ?_
    refine RK.tk Pu.mv ?_
    refine RK.tk Pu.mv ?_
    refine RK.tk (Pu.el ty_et24) ?_
    refine RK.tk (Pu.lds ty_ag34) ?_
    refine RK.tk Pu.mv ?_
    refine RK.tk Pu.mv ?_
    refine RK.tk (Pu.el ty_et24) ?_
    refine RK.tk (Pu.lds ty_ag34) ?_
    refine RK.tk Pu.bn ?_
    refine RK.ch ?_ trivial
    refine WK.n ?_
    refine TL.nil ?_
    refine TQ.thenN (hY9 _ _ ?_)
    refine TW.condF rfl ((by simp)) ?_
    refine TW.skip ?_
    refine TQ.blkN ?_
    refine TQ.thenN (hY8 _ _ ?_)
    refine TW.region ?_
    refine TL.p Pu.mv ?_
    refine TL.p Pu.ad ?_
    refine TL.p Pu.as ?_
    refine TL.nil ?_
    refine TQ.thenN (hZ0 (k + 1) _ _ ?_ ?_ (by repeat (first | exact trivial | refine ⟨rfl, ?_⟩ | refine ⟨trivial, ?_⟩)) ?_)
    · exact (by omega)
    · exact (by first | omega | (simp only []; omega) | (simp; omega))
    · exact (by repeat (first | exact KSub.nil | refine KSub.cons (by repeat (first | exact Pick.hd | apply Pick.tl)) ?_))
  · try simp only [decide_eq_true_eq, decide_eq_false_iff_not, Bool.not_eq_true', Bool.not_eq_false', Bool.and_eq_true, Bool.or_eq_true, Bool.and_eq_false_iff, Bool.or_eq_false_iff, Int.not_lt, Int.not_le] at hc1
    refine TW.exit ?_
    refine TQ.thenX ?_
    refine TQ.thenX ?_
    refine TQ.blkX ?_
    refine TQ.thenN (hY4 _ _ ?_)
    refine TW.seq fun Y10 hY10 => ?_
    refine TW.region ?_
    refine TL.p Pu.as ?_
    refine TL.nil ?_
    refine TQ.thenN (hY10 _ _ ?_)
    refine TW.ret ?_
    refine TQ.ret Try.results8 rfl ((.tmp rfl .nil)) ?_
    exact fun w hw => Ret.of hw
end
/-- What a tally hands back, as facts. -/
def tN (e : Option (Nat × Int)) (m : Nat) : Nat := match e with
  | none => m
  | some _ => 0
def tI (e : Option (Nat × Int)) : Int := match e with
  | none => 0
  | some x => x.1
def tC (e : Option (Nat × Int)) : Int := match e with
  | none => 0
  | some x => x.2
abbrev TX := Option Addr × Nat × Option Addr × Nat
def tallyV (e : Option (Nat × Int)) (n : Nat) (x : TX) : Value := match x with
  | (A1, c1, A2, c2) => .tuple #[.slice A1 (tN e (n + 1)) c1, .slice A2 (tN e n) c2, .int .i64 (tI e), .int .i64 (tC e)]
def tallyL (a b : Int) (f : Nat → Nat → Int) (e : Option (Nat × Int)) (n : Nat) (x : TX) : List Fact := match x with
  | (A1, c1, A2, c2) => [.own A1 (tN e (n + 1)) c1 23 2 (fun i => spL (if (0 : Nat) = 0 then (counts a b f n i).1 else 0) (counts a b f n i).2), .own A2 (tN e n) c2 34 14 (fun i => rowL (known f (counts a b f n) i))]
theorem refTally_K (a b : Int) (A : Option Addr) (n cp : Nat) (f : Nat → Nat → Int) (w : World) (hR : RdR w 14 A n fun i => rowL (f i)) (hn : n ≤ 1000000) :
    CallsK Try.prog 6 #[.agg #[.int .i64 a, .int .i64 b], .slice A n cp] [] w TX (tallyV (tErr a b n f) n) (tallyL a b f (tErr a b n f) n) := by
  refine (refTally_any a b A n cp f w hR hn).mono ?_
  intro e w' h
  unfold RefPost at h
  cases ht : tErr a b n f with
  | none =>
    rw [ht] at h
    obtain ⟨A1, c1, A2, c2, rfl, hs⟩ := h
    exact ⟨(A1, c1, A2, c2), rfl, hs⟩
  | some x =>
    obtain ⟨i, c⟩ := x
    rw [ht] at h
    obtain ⟨rfl, hb⟩ := h
    exact ⟨(none, 0, none, 0), rfl, (Sat.nil (Chg.of_ext hb)).sub (KSub.nilOwn (KSub.nilOwn KSub.nil))⟩
theorem rowL_rowF (f : Nat → Int) (j : Nat) (hj : j < 14) : (rowL f).getD j undef = .int .i64 (f j) := by
  have : j = 0 ∨ j = 1 ∨ j = 2 ∨ j = 3 ∨ j = 4 ∨ j = 5 ∨ j = 6 ∨ j = 7 ∨ j = 8 ∨ j = 9 ∨ j = 10 ∨ j = 11 ∨ j = 12 ∨ j = 13 := by omega
  rcases this with rfl | rfl | rfl | rfl | rfl | rfl | rfl | rfl | rfl | rfl | rfl | rfl | rfl | rfl <;> rfl
theorem tally_K (a b : Int) (A : Option Addr) (n cp : Nat) (E : TypeId) (f : Nat → Nat → Int) (w : World) (h : OwnR w A n cp E 14 fun i => rowL (f i)) (hn : n ≤ 1000000) :
    CallsK Try.prog 5 #[.agg #[.int .i64 a, .int .i64 b], .slice A n cp] [] w TX (tallyV (tErr a b n f) n) (tallyL a b f (tErr a b n f) n) := by
  refine (tally_any a b A n cp f w (h.rdr.rd.congr fun i j hi hj => rowL_rowF (f i) j hj) hn (fun e => by subst e; exact h.noneZero.symm)).mono ?_
  rintro e w' ⟨hb, h⟩
  cases ht : tErr a b n f with
  | none =>
    rw [ht] at h
    obtain ⟨v1, v2, rfl, h1, h2⟩ := h
    obtain ⟨A1, c1, rfl, _, _, _⟩ := h1.form
    obtain ⟨A2, c2, rfl, _, _, _⟩ := h2.form
    refine ⟨(A1, c1, A2, c2), rfl, Chg.of_ext hb, ?_, fun q hq => ?_, fun φ hφ => ?_⟩
    · show ((Fact.own A1 (n + 1) c1 23 2 _).foot ++ ((Fact.own A2 n c2 34 14 _).foot ++ [])).Nodup
      rw [own_foot, own_foot, List.append_nil]
      refine List.nodup_append.2 ⟨?_, ?_, fun x hx y hy e => ?_⟩
      · cases (Value.slice A1 (n + 1) c1).ownBlock <;> simp
      · cases (Value.slice A2 n c2).ownBlock <;> simp
      · subst e
        simp only [Option.mem_toList] at hx hy
        rcases h1.2 with ⟨e1, _⟩ | ⟨g1, k1, u1, e1, _, q1, _⟩
        · rw [e1] at hx; cases hx
        · rcases h2.2 with ⟨e2, _⟩ | ⟨g2, k2, u2, e2, _, q2, _⟩
          · rw [e2] at hy; cases hy
          · rw [e1] at hx; rw [e2] at hy
            have hx' : g1 = x := by simpa [Value.ownBlock] using hx
            have hy' : g2 = x := by simpa [Value.ownBlock] using hy
            subst hx'
            subst hy'
            rw [q1] at q2
            cases q2
    · have hq' : q ∈ (Fact.own A1 (n + 1) c1 23 2 (fun _ => [])).foot ∨ q ∈ (Fact.own A2 n c2 34 14 (fun _ => [])).foot := by
        have : q ∈ (Fact.own A1 (n + 1) c1 23 2 (fun _ => [])).foot ++ ((Fact.own A2 n c2 34 14 (fun _ => [])).foot ++ []) := by
          rw [own_foot, own_foot]; rw [show feet (tallyL a b f none n (A1, c1, A2, c2)) = _ from rfl] at hq; simpa [feet, tallyL, own_foot, tN] using hq
        simpa using this
      rw [own_foot, own_foot] at hq'
      rcases hq' with hq' | hq'
      · exact .inr (h1.blk (by simpa using hq')).1
      · exact .inr (h2.blk (by simpa using hq')).1
    · have : φ = .own A1 (n + 1) c1 23 2 (fun i => spL (if (0 : Nat) = 0 then (counts a b f n i).1 else 0) (counts a b f n i).2) ∨ φ = .own A2 n c2 34 14 (fun i => rowL (known f (counts a b f n) i)) := by simpa [tallyL, tN] using hφ
      rcases this with rfl | rfl
      · exact ⟨(h1.mono (Nat.zero_le _)).congr fun i j hi hj => by
          have h2 : j = 0 ∨ j = 1 := by omega
          rcases h2 with rfl | rfl <;> rfl, fun _ _ => rfl⟩
      · exact ⟨(h2.mono (Nat.zero_le _)).congr fun i j hi hj => (rowL_rowF _ j hj).symm, fun _ _ => rfl⟩
  | some x =>
    obtain ⟨i, c⟩ := x
    rw [ht] at h
    subst h
    exact ⟨(none, 0, none, 0), rfl, (Sat.nil (Chg.of_ext hb)).sub (KSub.nilOwn (KSub.nilOwn KSub.nil))⟩
theorem tally_K' (a b : Int) (A : Option Addr) (n cp : Nat) (E : TypeId) (f : Nat → Nat → Int) (w : World) {e : Option (Nat × Int)} (h : OwnR w A n cp E 14 fun i => rowL (f i)) (hn : n ≤ 1000000) (he : tErr a b n f = e) :
    CallsK Try.prog 5 #[.agg #[.int .i64 a, .int .i64 b], .slice A n cp] [] w TX (tallyV e n) (tallyL a b f e n) := he ▸ tally_K a b A n cp E f w h hn
theorem refTally_K' (a b : Int) (A : Option Addr) (n cp : Nat) (f : Nat → Nat → Int) (w : World) {e : Option (Nat × Int)} (hR : RdR w 14 A n fun i => rowL (f i)) (hn : n ≤ 1000000) (he : tErr a b n f = e) :
    CallsK Try.prog 6 #[.agg #[.int .i64 a, .int .i64 b], .slice A n cp] [] w TX (tallyV e n) (tallyL a b f e n) := he ▸ refTally_K a b A n cp f w hR hn
/-- The rows handed back, k of them spoilt. -/
def spoilt (g : Nat → Nat → Int) (k : Nat) : Nat → Nat → Int := fun i j => if i < k ∧ j = 12 then -7 else g i j
set_option maxRecDepth 100000 in
theorem law_any (a b : Int) (A : Option Addr) (n cp : Nat) (f : Nat → Nat → Int) (w : World) (hR : RdR w 14 A n fun i => rowL (f i)) :
    Calls Try.prog 3 #[.agg #[.int .i64 a, .int .i64 b], .slice A n cp] w (Ret w (.bool true)) := by
  generalize he : tErr a b n f = e
  generalize hc : counts a b f n = cc
  refine K_enter (S := []) (K := []) Try.func3 rfl Try.ntmps3 rfl (Sat.start _) ?_
  refine TW.seq fun Y1 hY1 => ?_
  refine TW.region ?_
  refine TL.m Mk.bx ?_
  intro b1
  refine TL.p Pu.as ?_
  refine TL.nil ?_
  refine TQ.thenN (hY1 _ _ ?_)
  refine TW.seq fun Y2 hY2 => ?_
  refine TW.seq fun Y3 hY3 => ?_
  refine TW.region ?_
  refine TL.p Pu.mv ?_
  refine TL.p (Pu.ln Try.underlying24) ?_
  refine TL.p Pu.gt ?_
  refine TL.nil ?_
  refine TQ.thenN (hY3 _ _ ?_)
  refine TW.cond rfl (fun hc0 => ?_) (fun hc0 => ?_)
  · try simp only [decide_eq_true_eq, decide_eq_false_iff_not, Bool.not_eq_true', Bool.not_eq_false', Bool.and_eq_true, Bool.or_eq_true, Bool.and_eq_false_iff, Bool.or_eq_false_iff, Int.not_lt, Int.not_le] at hc0
    refine TW.seq fun Y4 hY4 => ?_
    refine TW.region ?_
    refine TL.p Pu.as ?_
    refine TL.nil ?_
    refine TQ.thenN (hY4 _ _ ?_)
    refine TW.ret ?_
    refine TQ.thenR ?_
    refine TQ.ret Try.results3 rfl ((.tmp rfl .nil)) ?_
    exact fun w hw => Ret.of hw
  · try simp only [decide_eq_true_eq, decide_eq_false_iff_not, Bool.not_eq_true', Bool.not_eq_false', Bool.and_eq_true, Bool.or_eq_true, Bool.and_eq_false_iff, Bool.or_eq_false_iff, Int.not_lt, Int.not_le] at hc0
    refine TW.skip ?_
    refine TQ.thenN (hY2 _ _ ?_)
    refine TW.seq fun Y5 hY5 => ?_
    refine TW.region ?_
    refine TL.m Mk.bs ?_
    intro b2
    refine TL.p Pu.mv ?_
    refine TL.subK (KSub.ofBlk Pick.hd (n := 0) (sz := 14) (r := fun _ => []) rfl (fun i hi => by omega) rfl rfl (KSub.cons Pick.hd KSub.nil)) ?_
    first | refine TL.a0 ty_et24 ?_ | refine TL.ap ty_et24 ?_
    intro A3 c3
    refine TL.p Pu.as ?_
    refine TL.nil ?_
    refine TQ.thenN (hY5 _ _ ?_)
    refine TW.seq fun Y6 hY6 => ?_
    refine TW.region ?_
    refine TL.p (Pu.lds ty_ag23) ?_
    refine TL.p Pu.mv ?_
    refine TL.call (M := []) rfl (enters Try.func5 rfl rfl) (List.Perm.refl _) rfl (fun w hw => by
        exact tally_K' a b _ _ _ _ f w (hw.own (by repeat (first | exact Pick.hd | apply Pick.tl))) (by omega) he) ?_
    rintro ⟨A1, c1, A2, c2⟩
    refine TL.p Pu.mv ?_
    refine TL.p Pu.ex ?_
    refine TL.p Pu.ex ?_
    refine TL.p Pu.ex ?_
    refine TL.p Pu.ex ?_
    refine TL.p Pu.as ?_
    refine TL.p Pu.as ?_
    refine TL.p Pu.as ?_
    refine TL.p Pu.as ?_
    refine TL.nil ?_
    refine TQ.thenN (hY6 _ _ ?_)
    refine TW.seq fun Y7 hY7 => ?_
    refine TW.region ?_
    refine TL.p (Pu.lds ty_ag23) ?_
    refine TL.p Pu.mv ?_
    refine TL.call (M := []) rfl (enters Try.func6 rfl rfl) (List.Perm.refl _) rfl (fun w hw => by
        exact refTally_K' a b A n cp f w (Src.old hR Apart.nil w hw) (by omega) he) ?_
    rintro ⟨B1, d1, B2, d2⟩
    refine TL.p Pu.mv ?_
    refine TL.p Pu.ex ?_
    refine TL.p Pu.ex ?_
    refine TL.p Pu.ex ?_
    refine TL.p Pu.ex ?_
    refine TL.p Pu.as ?_
    refine TL.p Pu.as ?_
    refine TL.p Pu.as ?_
    refine TL.p Pu.as ?_
    refine TL.nil ?_
    refine TQ.thenN (hY7 _ _ ?_)
    refine TW.seq fun Y8 hY8 => ?_
    refine TW.region ?_
    refine TL.p Pu.mv ?_
    refine TL.p Pu.mv ?_
    refine TL.cr rfl (enters Try.func7 rfl rfl) (fun w hw => by
        exact sameSpans_any (fun i j => if j = 0 then (counts a b f n i).1 else (counts a b f n i).2) (Src.own (by repeat (first | exact Pick.hd | apply Pick.tl)) w hw) (Src.own (by repeat (first | exact Pick.hd | apply Pick.tl)) w hw) (by cases e <;> simp [tN] <;> omega)) ?_
    refine TL.p Pu.mv ?_
    refine TL.gd Pu.mv ?_
    refine TL.gd Pu.mv ?_
    refine TL.cr rfl (enters Try.func8 rfl rfl) (fun w hw => by
        exact sameRows_any (fun i => known f (counts a b f n) i) (Src.own (by repeat (first | exact Pick.hd | apply Pick.tl)) w hw) (Src.own (by repeat (first | exact Pick.hd | apply Pick.tl)) w hw) (by cases e <;> simp [tN] <;> omega)) ?_
    refine TL.lit (t := 44) (b' := true) rfl (rfl) ?_
    refine TL.p Pu.kt ?_
    refine TL.p Pu.mv ?_
    refine TL.gd Pu.mv ?_
    refine TL.gd Pu.mv ?_
    refine TL.gd Pu.eq ?_
    refine TL.lit (t := 49) (b' := true) rfl (by simp) ?_
    refine TL.p Pu.kt ?_
    refine TL.p Pu.mv ?_
    refine TL.gd Pu.mv ?_
    refine TL.gd Pu.mv ?_
    refine TL.gd Pu.eq ?_
    refine TL.lit (t := 54) (b' := true) rfl (by simp) ?_
    refine TL.p Pu.kt ?_
    refine TL.p Pu.as ?_
    refine TL.nil ?_
    refine TQ.thenN (hY8 _ _ ?_)
    refine TW.seq fun Y9 hY9 => ?_
    refine TW.seq fun Y10 hY10 => ?_
    refine TW.region ?_
    refine TL.p Pu.mv ?_
    refine TL.p (Pu.ln Try.underlying24) ?_
    refine TL.p Pu.mv ?_
    refine TL.nil ?_
    refine TQ.thenN (hY10 _ _ ?_)
    refine TW.block ?_
    refine TW.loop1 (fun (k : Nat) => [(58, .int .i64 (k : Int)), (57, .int .i64 (tN e n : Nat)), (14, .bool true), (7, .slice A2 (tN e n) c2), (5, .slice A3 n c3), (1, .slice A n cp)]) (fun k => [.own A2 (tN e n) c2 34 14 (fun i => rowL (spoilt (known f cc) k i)), .own A3 n c3 34 14 (fun i => rowL (f i))]) (fun k => k ≤ tN e n) (fun k => tN e n - k) 0 (by repeat (first | exact trivial | refine ⟨rfl, ?_⟩ | refine ⟨trivial, ?_⟩)) ?_ ?_ ?_
    · refine KSub.own (by repeat (first | exact Pick.hd | apply Pick.tl)) (fun i hi => ?_) (KSub.cons (by repeat (first | exact Pick.hd | apply Pick.tl)) KSub.nil)
      rw [hc]
      have e0 : spoilt (known f cc) 0 i = known f cc i := by funext j; simp [spoilt]
      rw [e0]
    · exact Nat.zero_le _
    rintro k hk Z0 hZ0
    have hm : tN e n ≤ n := by cases e <;> simp [tN]
    refine TW.seq fun Y11 hY11 => ?_
    refine TW.region ?_
    refine TL.p Pu.lt ?_
    refine TL.nil ?_
    refine TQ.thenN (hY11 _ _ ?_)
    refine TW.seq fun Y12 hY12 => ?_
    refine TW.cond rfl (fun hc1 => ?_) (fun hc1 => ?_)
    · try simp only [decide_eq_true_eq, decide_eq_false_iff_not, Bool.not_eq_true', Bool.not_eq_false', Bool.and_eq_true, Bool.or_eq_true, Bool.and_eq_false_iff, Bool.or_eq_false_iff, Int.not_lt, Int.not_le] at hc1
      refine TW.skip ?_
      refine TQ.thenN (hY12 _ _ ?_)
      refine TW.seq fun Y13 hY13 => ?_
      refine TW.block ?_
      refine TW.seq fun Y14 hY14 => ?_
      refine TW.region ?_
      refine TL.p Pu.mv ?_
      refine TL.p Pu.as ?_
      refine TL.nil ?_
      refine TQ.thenN (hY14 _ _ ?_)
      refine TW.region ?_
      refine TL.p Pu.mv ?_
      refine TL.p Pu.mv ?_
      refine TL.p (Pu.el ty_et24) ?_
      refine TL.p (by first | exact Pu.fb ty_fa34_6 | exact Pu.fe ty_fa34_6) ?_
      refine TL.p (by first | exact Pu.fb ty_fa23_0 | exact Pu.fe ty_fa23_0) ?_
      first | refine TL.st ty_sz3 ?_ | refine TL.se ty_sz3 ?_
      refine TL.nil ?_
      refine TQ.blkN ?_
      refine TQ.thenN (hY13 _ _ ?_)
      refine TW.region ?_
      refine TL.p Pu.ad ?_
      refine TL.p Pu.mv ?_
      refine TL.nil ?_
      refine TQ.thenN (hZ0 (k + 1) _ _ ?_ ?_ (by repeat (first | exact trivial | refine ⟨rfl, ?_⟩ | refine ⟨trivial, ?_⟩)) ?_)
      · exact (by omega)
      · exact (by first | omega | (simp only []; omega) | (simp; omega))
      · refine KSub.own (by repeat (first | exact Pick.hd | apply Pick.tl)) (fun i hi => ?_) (KSub.cons (by repeat (first | exact Pick.hd | apply Pick.tl)) KSub.nil)
        by_cases hik : i = k
        · subst hik
          simp [updR, rowL, spoilt]
        · have e0 : spoilt (known f cc) (k + 1) i = spoilt (known f cc) k i := by
            funext j
            simp only [spoilt]
            have : (i < k + 1 ∧ j = 12) ↔ (i < k ∧ j = 12) := by omega
            simp only [this]
          simp only [updR, hik, if_false, e0]
    · try simp only [decide_eq_true_eq, decide_eq_false_iff_not, Bool.not_eq_true', Bool.not_eq_false', Bool.and_eq_true, Bool.or_eq_true, Bool.and_eq_false_iff, Bool.or_eq_false_iff, Int.not_lt, Int.not_le] at hc1
      refine TW.exit ?_
      refine TQ.thenX ?_
      refine TQ.thenX ?_
      refine TQ.blkX ?_
      refine TQ.thenN (hY9 _ _ ?_)
      refine TW.seq fun Y15 hY15 => ?_
      refine TW.region ?_
      refine TL.p Pu.mv ?_
      refine TL.lit (t := 67) (b' := true) rfl (rfl) ?_
      refine TL.p Pu.mv ?_
      refine TL.gd Pu.mv ?_
      refine TL.gd Pu.mv ?_
      refine TL.cr rfl (enters Try.func8 rfl rfl) (fun w hw => by
          exact sameRows_any f (Src.own (by repeat (first | exact Pick.hd | apply Pick.tl)) w hw) (Src.old hR Apart.nil w hw) (by omega)) ?_
      refine TL.lit (t := 71) (b' := true) rfl (rfl) ?_
      refine TL.p Pu.kt ?_
      refine TL.p Pu.as ?_
      refine TL.nil ?_
      refine TQ.thenN (hY15 _ _ ?_)
      refine TW.ret ?_
      refine TQ.ret Try.results3 rfl ((.tmp rfl .nil)) ?_
      exact fun w hw => Ret.of hw
end Go.Proofs.Ytifjnmflghfalaa
