/-
  load: Check. The reference's Packs, List, rising.
-/
import Derived.Test.YtagcnokaajinlaaDoorLoadK
namespace Go.Proofs.YtagcnokaajinlaaDoor
set_option linter.all false
set_option linter.unusedVariables false
set_option linter.unusedSimpArgs false
open Go.RowKit
/-- Packs and loads, as the functions of layer 5 get them. -/
structure Lay (w : World) (A A2 : Option Addr) (np m : Nat) (pk : Nat → Nat → Int) (a : Nat → Nat → Option Addr) (l c : Nat → Nat → Nat) (v : Nat → Nat → Nat → Int) : Prop where
  hG : None0 w
  hnp : np ≤ 1000000000
  hm : m ≤ 1000
  hR : RdR w 11 A np (fun k => packL (pk k))
  hT : RdR w 3 A2 m (fun i => tieL (a i) (l i) (c i))
  hI : ∀ i, i < m → ∀ j, j < 3 → RdR w 1 (a i j) (l i j) (fun k => [.int .i64 (v i j k)])
  hL : ∀ i, i < m → tot (l i) 3 ≤ 1000
section
variable {w w' : World} {A A2 : Option Addr} {np m : Nat} {pk : Nat → Nat → Int} {a : Nat → Nat → Option Addr} {l c : Nat → Nat → Nat} {v : Nat → Nat → Nat → Int}
theorem Lay.sat {K : List Fact} (h : Lay w A A2 np m pk a l c v) (hs : Sat [] w K w') : Lay w' A A2 np m pk a l c v :=
  ⟨h.hG.sat hs (by simp), h.hnp, h.hm, h.hR.sat hs Apart.nil, h.hT.sat hs Apart.nil, fun i hi j hj => (h.hI i hi j hj).sat hs Apart.nil, h.hL⟩
theorem Lay.ext (h : Lay w A A2 np m pk a l c v) (hb : Below w.heap.size w w') : Lay w' A A2 np m pk a l c v := h.sat (Sat.nil (Chg.of_ext hb))
theorem Lay.check {cp cp2 : Nat} (h : Lay w A A2 np m pk a l c v) : Calls Tryd.prog 31 #[.slice A np cp, .slice A2 m cp2] w (Try w errs (checkV np pk m l v) (.tuple #[])) :=
  check_any h.hG h.hnp h.hm h.hR h.hT h.hI h.hL
theorem check1_any {cp cp2 b1 b2 : Nat} (h : Lay w A A2 np m pk a l c v) (h1 : OldB w b1 [.slice A np cp]) (h2 : OldB w b2 [.slice A2 m cp2]) :
    Calls Tryd.prog 41 #[.pointer (some ⟨b1, 0, none⟩), .pointer (some ⟨b2, 0, none⟩)] w (Try w errs (checkV np pk m l v) (.tuple #[])) := by
  refine K_enter (S := []) (K := []) Tryd.func41 rfl Tryd.ntmps41 rfl (Sat.start _) ?_
  refine TW.region ?_
  refine TL.p (by first | exact (Pu.ld ty_sc26) | exact (Pu.ldo ty_sc26)) ?_
  refine TL.p (by first | exact (Pu.ld ty_sc27) | exact (Pu.ldo ty_sc27)) ?_
  refine TL.ct rfl (enters Tryd.func31 rfl rfl) (fun w hw => by
      exact (h.sat hw).check) (fun hp1 => ?_) (fun hp1 => ?_)
  rotate_left
  · refine TQ.pan rfl ?_
    exact fun w hw => Try.no hp1 hw
  refine TL.nil ?_
  refine TQ.end Tryd.results41 rfl (.nil) ?_
  exact fun w hw => Try.ok hp1 hw
theorem loadCheck_any {cp cp2 : Nat} (h : Lay w A A2 np m pk a l c v) :
    Calls Tryd.prog 13 #[.slice A np cp, .slice A2 m cp2] w (Ret w (.int .i64 (checkV np pk m l v))) := by
  refine K_enter (S := []) (K := []) Tryd.func13 rfl Tryd.ntmps13 rfl (Sat.start _) ?_
  refine TW.seq fun Y1 hY1 => ?_
  refine TW.region ?_
  refine TL.m Mk.bx ?_
  intro b1
  refine TL.m Mk.bx ?_
  intro b2
  refine TL.p Pu.as ?_
  refine TL.nil ?_
  refine TQ.thenN (hY1 _ _ ?_)
  refine TW.seq fun Y2 hY2 => ?_
  refine TW.region ?_
  refine TL.p Pu.fn ?_
  refine TL.cr rfl (enters Tryd.func29 rfl rfl) (fun w hw => by
      have hB1 : Blk w b1 26 #[.slice A np cp] := hw.holds (.blk b1 26 [.slice A np cp]) (by simp)
      have hB2 : Blk w b2 27 #[.slice A2 m cp2] := hw.holds (.blk b2 27 [.slice A2 m cp2]) (by simp)
      have h0 := h.sat hw
      refine CallsK.retOf (trying_any (M := []) (X := Unit) (L := fun _ => []) (code := checkV np pk m l v) (fs := []) (cs := [.pointer (some ⟨b1, 0, none⟩), .pointer (some ⟨b2, 0, none⟩)]) (enters Tryd.func41 rfl rfl) (Sat.start w) fun w' hw' => ?_) (fun _ => rfl)
      refine Calls.mono (check1_any (h0.sat hw') ((OldB.of_blk (cs := [_]) hB1).sat hw' (by simp [feet])) ((OldB.of_blk (cs := [_]) hB2).sat hw' (by simp [feet]))) ?_
      exact fun e w2 ⟨h1, h2⟩ => ⟨(), Sat.nil (Chg.of_ext h1), h2⟩) ?_
  refine TL.p Pu.as ?_
  refine TL.nil ?_
  refine TQ.thenN (hY2 _ _ ?_)
  refine TW.ret ?_
  refine TQ.ret Tryd.results13 rfl ((.tmp rfl .nil)) ?_
  exact fun w hw => Ret.of hw
end
theorem within5_any (x lo hi : Int) (w : World) : Calls Tryd.prog 39 #[.int .i64 x, .int .i64 lo, .int .i64 hi] w (Ret w (.bool (inB5 lo hi x))) := refWithin_any x lo hi w
theorem refPacks_any {A : Option Addr} {np cp : Nat} {pk : Nat → Nat → Int} {w : World} (hnp : np ≤ 1000000000) (hR : RdR w 11 A np (fun k => packL (pk k))) :
    Calls Tryd.prog 42 #[.slice A np cp] w (Ret w (.bool (packsOk np pk))) := by
  refine K_enter (S := []) (K := []) Tryd.func42 rfl Tryd.ntmps42 rfl (Sat.start _) ?_
  refine TW.seq fun Y1 hY1 => ?_
  refine TW.region ?_
  refine TL.p Pu.as ?_
  refine TL.nil ?_
  refine TQ.thenN (hY1 _ _ ?_)
  refine TW.seq fun Y2 hY2 => ?_
  refine TW.seq fun Y3 hY3 => ?_
  refine TW.region ?_
  refine TL.p Pu.mv ?_
  refine TL.p (Pu.ln Tryd.underlying26) ?_
  refine TL.p Pu.gt ?_
  refine TL.nil ?_
  refine TQ.thenN (hY3 _ _ ?_)
  refine TW.cond rfl (fun hc0 => ?_) (fun hc0 => ?_)
  · try simp only [decide_eq_true_eq, decide_eq_false_iff_not, Bool.not_eq_true', Bool.not_eq_false', Bool.and_eq_true, Bool.or_eq_true, Bool.and_eq_false_iff, Bool.or_eq_false_iff, Int.not_lt, Int.not_le] at hc0
    refine TW.seq fun Y4 hY4 => ?_
    refine TW.region ?_
    refine TL.p Pu.as ?_
    refine TL.nil ?_
    refine TQ.thenN (hY4 _ _ ?_)
    refine TW.ret ?_
    refine TQ.thenR ?_
    refine TQ.ret Tryd.results42 rfl ((.tmp rfl .nil)) ?_
    exact fun w hw => ⟨ret_bool (by unfold packsOk; rw [show decide ((np : Int) ≤ 30) = false by simp; omega]; rfl), Chg.ext hw.chg⟩
  · try simp only [decide_eq_true_eq, decide_eq_false_iff_not, Bool.not_eq_true', Bool.not_eq_false', Bool.and_eq_true, Bool.or_eq_true, Bool.and_eq_false_iff, Bool.or_eq_false_iff, Int.not_lt, Int.not_le] at hc0
    refine TW.skip ?_
    refine TQ.thenN (hY2 _ _ ?_)
    refine TW.seq fun Y5 hY5 => ?_
    refine TW.seq fun Y6 hY6 => ?_
    refine TW.region ?_
    refine TL.p Pu.as ?_
    refine TL.nil ?_
    refine TQ.thenN (hY6 _ _ ?_)
    refine TW.block ?_
    refine TW.loop1 (fun (k : Nat) => [(3, .int .i64 (k : Int)), (0, .slice A np cp)]) (fun k => []) (fun k => k ≤ np ∧ ∀ j, j < k → packOk (pk j) = true) (fun k => np - k) 0 (by repeat (first | exact trivial | refine ⟨rfl, ?_⟩ | refine ⟨trivial, ?_⟩)) ?_ ?_ ?_
    · exact (by repeat (first | exact KSub.nil | refine KSub.cons (by repeat (first | exact Pick.hd | apply Pick.tl)) ?_))
    · exact ⟨by omega, fun j hj => by omega⟩
    rintro k ⟨hk, hall⟩ Z0 hZ0
    refine TW.seq fun Y7 hY7 => ?_
    refine TW.seq fun Y8 hY8 => ?_
    refine TW.region ?_
    refine TL.p Pu.mv ?_
    refine TL.p Pu.mv ?_
    refine TL.p (Pu.ln Tryd.underlying26) ?_
    refine TL.p Pu.lt ?_
    refine TL.nil ?_
    refine TQ.thenN (hY8 _ _ ?_)
    refine TW.cond rfl (fun hc1 => ?_) (fun hc1 => ?_)
    · try simp only [decide_eq_true_eq, decide_eq_false_iff_not, Bool.not_eq_true', Bool.not_eq_false', Bool.and_eq_true, Bool.or_eq_true, Bool.and_eq_false_iff, Bool.or_eq_false_iff, Int.not_lt, Int.not_le] at hc1
      refine TW.skip ?_
      refine TQ.thenN (hY7 _ _ ?_)
      refine TW.seq fun Y9 hY9 => ?_
      refine TW.block ?_
      refine TW.seq fun Y10 hY10 => ?_
      refine TW.region ?_
      refine TL.p Pu.mv ?_
      refine TL.p Pu.mv ?_
      refine TL.p (Pu.el ty_et26) ?_
      refine TL.p (Pu.lds ty_ag25) ?_
      refine TL.cr rfl (enters Tryd.func27 rfl rfl) (fun w hw => by
          exact refPack_any (pk k) _) ?_
      refine TL.p Pu.no ?_
      refine TL.nil ?_
      refine TQ.thenN (hY10 _ _ ?_)
      refine TW.cond rfl (fun hc2 => ?_) (fun hc2 => ?_)
      · try simp only [decide_eq_true_eq, decide_eq_false_iff_not, Bool.not_eq_true', Bool.not_eq_false', Bool.and_eq_true, Bool.or_eq_true, Bool.and_eq_false_iff, Bool.or_eq_false_iff, Int.not_lt, Int.not_le] at hc2
        have hbad : packOk (pk k) = false := hc2
        refine TW.seq fun Y11 hY11 => ?_
        refine TW.region ?_
        refine TL.p Pu.as ?_
        refine TL.nil ?_
        refine TQ.thenN (hY11 _ _ ?_)
        refine TW.ret ?_
        refine TQ.blkR ?_
        refine TQ.thenR ?_
        refine TQ.thenR ?_
        refine TQ.blkR ?_
        refine TQ.thenR ?_
        refine TQ.ret Tryd.results42 rfl ((.tmp rfl .nil)) ?_
        exact fun w hw => ⟨ret_bool (by
          have : allB np (fun k => packOk (pk k)) = false := by
            cases h : allB np (fun k => packOk (pk k)) with
            | false => rfl
            | true => have := allB_iff.1 h k (by omega); rw [hbad] at this; cases this
          unfold packsOk; rw [this, Bool.and_false]), Chg.ext hw.chg⟩
      · try simp only [decide_eq_true_eq, decide_eq_false_iff_not, Bool.not_eq_true', Bool.not_eq_false', Bool.and_eq_true, Bool.or_eq_true, Bool.and_eq_false_iff, Bool.or_eq_false_iff, Int.not_lt, Int.not_le] at hc2
        have hgood : packOk (pk k) = true := hc2
        refine TW.skip ?_
        refine TQ.blkN ?_
        refine TQ.thenN (hY9 _ _ ?_)
        refine TW.region ?_
        refine TL.p Pu.mv ?_
        refine TL.p Pu.ad ?_
        refine TL.p Pu.as ?_
        refine TL.nil ?_
        refine TQ.thenN (hZ0 (k + 1) _ _ ?_ ?_ (by repeat (first | exact trivial | refine ⟨rfl, ?_⟩ | refine ⟨trivial, ?_⟩)) ?_)
        · refine ⟨by omega, fun j hj => ?_⟩
          by_cases h : j = k
          · subst h; exact hgood
          · exact hall j (by omega)
        · exact (by first | omega | (simp only []; omega) | (simp; omega))
        · exact (by repeat (first | exact KSub.nil | refine KSub.cons (by repeat (first | exact Pick.hd | apply Pick.tl)) ?_))
    · try simp only [decide_eq_true_eq, decide_eq_false_iff_not, Bool.not_eq_true', Bool.not_eq_false', Bool.and_eq_true, Bool.or_eq_true, Bool.and_eq_false_iff, Bool.or_eq_false_iff, Int.not_lt, Int.not_le] at hc1
      refine TW.exit ?_
      refine TQ.thenX ?_
      refine TQ.thenX ?_
      refine TQ.blkX ?_
      refine TQ.thenN (hY5 _ _ ?_)
      refine TW.seq fun Y12 hY12 => ?_
      refine TW.region ?_
      refine TL.p Pu.as ?_
      refine TL.nil ?_
      refine TQ.thenN (hY12 _ _ ?_)
      refine TW.ret ?_
      refine TQ.ret Tryd.results42 rfl ((.tmp rfl .nil)) ?_
      exact fun w hw => ⟨ret_bool (by
        obtain rfl : k = np := by omega
        unfold packsOk; rw [allB_iff.2 hall, show decide ((k : Int) ≤ 30) = true by simp; omega]; rfl), Chg.ext hw.chg⟩
theorem tot3 (l : Nat → Nat) : tot l 3 = l 0 + l 1 + l 2 := by simp [tot]
theorem cat3 (l : Nat → Nat) (s : Nat → Nat → List Value) : catN l s 3 = catR (l 0 + l 1) (catR (l 0) (s 0) (s 1)) (s 2) := by
  have e : catR 0 (fun _ => []) (s 0) = s 0 := by funext i; simp [catR]
  simp [catN, tot, e]
theorem refList_any {a : Nat → Option Addr} {l c : Nat → Nat} {v : Nat → Nat → Int} {w : World} (ht : tot l 3 ≤ 1000000000) (hI : ∀ i, i < 3 → RdR w 1 (a i) (l i) (fun k => [.int .i64 (v i k)])) :
    CallsK Tryd.prog 40 #[.agg (tieL a l c).toArray] [] w (Option Addr × Nat) (fun x => .slice x.1 (tot l 3) x.2) (fun x => [.own x.1 (tot l 3) x.2 3 1 (catN l (fun i k => [.int .i64 (v i k)]) 3)]) := by
  rw [tot3] at ht
  have h0 := hI 0 (by omega)
  have h1 := hI 1 (by omega)
  have h2 := hI 2 (by omega)
  rw [tot3, cat3]
  refine K_enter (S := []) (K := []) Tryd.func40 rfl Tryd.ntmps40 rfl (Sat.start _) ?_
  refine TW.seq fun Y1 hY1 => ?_
  refine TW.region ?_
  refine TL.m Mk.bx ?_
  intro b1
  refine TL.p Pu.as ?_
  refine TL.nil ?_
  refine TQ.thenN (hY1 _ _ ?_)
  refine TW.seq fun Y2 hY2 => ?_
  refine TW.region ?_
  refine TL.m Mk.bl ?_
  intro b2
  refine TL.p (by first | exact Pu.fb ty_fa59_0 | exact Pu.fe ty_fa59_0) ?_
  refine TL.p (Pu.ld ty_sc47) ?_
  refine TL.subK (KSub.ofBlk (n := 0) (sz := 1) (r := fun _ => []) Pick.hd rfl (fun _ h => by omega) rfl rfl (KSub.cons Pick.hd KSub.nil)) ?_
  first | refine TL.a0 ty_et47 ?_ | refine TL.ap ty_et47 ?_
  intro A3 c3
  refine TL.p Pu.as ?_
  refine TL.nil ?_
  refine TQ.thenN (hY2 _ _ ?_)
  refine TW.seq fun Y3 hY3 => ?_
  refine TW.region ?_
  refine TL.p Pu.mv ?_
  refine TL.p (by first | exact Pu.fb ty_fa59_1 | exact Pu.fe ty_fa59_1) ?_
  refine TL.p (Pu.ld ty_sc47) ?_
  first | refine TL.a0 ty_et47 ?_ | refine TL.ap ty_et47 ?_
  intro A4 c4
  refine TL.p Pu.as ?_
  refine TL.nil ?_
  refine TQ.thenN (hY3 _ _ ?_)
  refine TW.seq fun Y4 hY4 => ?_
  refine TW.region ?_
  refine TL.p Pu.mv ?_
  refine TL.p (by first | exact Pu.fb ty_fa59_2 | exact Pu.fe ty_fa59_2) ?_
  refine TL.p (Pu.ld ty_sc47) ?_
  first | refine TL.a0 ty_et47 ?_ | refine TL.ap ty_et47 ?_
  intro A5 c5
  refine TL.p Pu.as ?_
  refine TL.nil ?_
  refine TQ.thenN (hY4 _ _ ?_)
  refine TW.ret ?_
  refine TQ.ret Tryd.results40 rfl ((.tmp rfl .nil)) ?_
  exact fun w hw => ⟨(A5, c5), rfl, hw.sub (KSub.cons Pick.hd KSub.nil)⟩
def refP (v : Nat → Int) (N : Int) (k : Nat) : Bool := inB5 0 (N - 1) (v k) && !(decide (0 < k) && decide (v k ≤ v (k - 1)))
theorem tnP (k : Nat) : ((k : Int) - 1).toNat = k - 1 := by omega
theorem rise_ref (v : Nat → Int) (N : Int) (n : Nat) : allB n (refP v N) = allB n (riseP v N) := by
  rw [Bool.eq_iff_iff, allB_iff, allB_iff]
  constructor
  · intro h k hk
    have h1 := h k hk
    simp only [refP, riseP, inB5, Bool.and_eq_true, decide_eq_true_eq, Bool.not_eq_true', Bool.and_eq_false_iff, decide_eq_false_iff_not] at h1 ⊢
    cases k with
    | zero => simp only [lastV]; omega
    | succ k => simp only [lastV, Nat.add_sub_cancel] at h1 ⊢; omega
  · intro h k hk
    have hlo : ∀ q, q < n → -1 ≤ lastV v q := fun q => by
      induction q with
      | zero => intro _; simp only [lastV]; omega
      | succ q ih =>
        intro hq
        have h1 := h q (by omega)
        have h2 := ih (by omega)
        simp only [riseP, inB5, Bool.and_eq_true, decide_eq_true_eq] at h1
        simp only [lastV]
        omega
    have h1 := h k hk
    have h2 := hlo k hk
    simp only [refP, riseP, inB5, Bool.and_eq_true, decide_eq_true_eq, Bool.not_eq_true', Bool.and_eq_false_iff, decide_eq_false_iff_not] at h1 ⊢
    cases k with
    | zero => simp only [lastV] at h1; omega
    | succ k => simp only [lastV, Nat.add_sub_cancel] at h1 h2 ⊢; omega
theorem refRising_any {A : Option Addr} {n cp : Nat} {v : Nat → Int} {N : Int} {w : World} (hn : n ≤ 1000000000) (hR : RdR w 1 A n (fun k => [.int .i64 (v k)])) (h3 : 0 ≤ N) (h4 : N ≤ 1000000000) :
    Calls Tryd.prog 78 #[.slice A n cp, .int .i64 N] w (Ret w (.bool (allB n (riseP v N)))) := by
  rw [← rise_ref]
  refine K_enter (S := []) (K := []) Tryd.func78 rfl Tryd.ntmps78 rfl (Sat.start _) ?_
  refine TW.seq fun Y1 hY1 => ?_
  refine TW.region ?_
  refine TL.p Pu.as ?_
  refine TL.nil ?_
  refine TQ.thenN (hY1 _ _ ?_)
  refine TW.seq fun Y2 hY2 => ?_
  refine TW.seq fun Y3 hY3 => ?_
  refine TW.region ?_
  refine TL.p Pu.as ?_
  refine TL.nil ?_
  refine TQ.thenN (hY3 _ _ ?_)
  refine TW.block ?_
  refine TW.loop1 (fun (k : Nat) => [(5, .int .i64 (k : Int)), (0, .slice A n cp), (1, .int .i64 N)]) (fun k => []) (fun k => k ≤ n ∧ ∀ j, j < k → refP v N j = true) (fun k => n - k) 0 (by repeat (first | exact trivial | refine ⟨rfl, ?_⟩ | refine ⟨trivial, ?_⟩)) ?_ ?_ ?_
  · exact (by repeat (first | exact KSub.nil | refine KSub.cons (by repeat (first | exact Pick.hd | apply Pick.tl)) ?_))
  · exact ⟨by omega, fun j hj => by omega⟩
  rintro k ⟨hk, hall⟩ Z0 hZ0
  refine TW.seq fun Y4 hY4 => ?_
  refine TW.seq fun Y5 hY5 => ?_
  refine TW.region ?_
  refine TL.p Pu.mv ?_
  refine TL.p Pu.mv ?_
  refine TL.p (Pu.ln Tryd.underlying47) ?_
  refine TL.p Pu.lt ?_
  refine TL.nil ?_
  refine TQ.thenN (hY5 _ _ ?_)
  refine TW.cond rfl (fun hc0 => ?_) (fun hc0 => ?_)
  · try simp only [decide_eq_true_eq, decide_eq_false_iff_not, Bool.not_eq_true', Bool.not_eq_false', Bool.and_eq_true, Bool.or_eq_true, Bool.and_eq_false_iff, Bool.or_eq_false_iff, Int.not_lt, Int.not_le] at hc0
    refine TW.skip ?_
    refine TQ.thenN (hY4 _ _ ?_)
    refine TW.seq fun Y6 hY6 => ?_
    refine TW.block ?_
    refine TW.seq fun Y7 hY7 => ?_
    refine TW.join [(35, .bool (!refP v N k))] ?_ (fun hJ1 => ?_)
    · refine TQ.thenN (hY7 _ _ ?_)
      refine TW.cond rfl (fun hc1 => ?_) (fun hc1 => ?_)
      · try simp only [decide_eq_true_eq, decide_eq_false_iff_not, Bool.not_eq_true', Bool.not_eq_false', Bool.and_eq_true, Bool.or_eq_true, Bool.and_eq_false_iff, Bool.or_eq_false_iff, Int.not_lt, Int.not_le] at hc1
        have hbad : refP v N k = false := by simpa using hc1
        refine TW.seq fun Y8 hY8 => ?_
        refine TW.region ?_
        refine TL.p Pu.as ?_
        refine TL.nil ?_
        refine TQ.thenN (hY8 _ _ ?_)
        refine TW.ret ?_
        refine TQ.blkR ?_
        refine TQ.thenR ?_
        refine TQ.thenR ?_
        refine TQ.blkR ?_
        refine TQ.thenR ?_
        refine TQ.ret Tryd.results78 rfl ((.tmp rfl .nil)) ?_
        exact fun w hw => ⟨ret_bool (by
          cases h : allB n (refP v N) with
          | false => rfl
          | true => have := allB_iff.1 h k (by omega); rw [hbad] at this; cases this), Chg.ext hw.chg⟩
      · try simp only [decide_eq_true_eq, decide_eq_false_iff_not, Bool.not_eq_true', Bool.not_eq_false', Bool.and_eq_true, Bool.or_eq_true, Bool.and_eq_false_iff, Bool.or_eq_false_iff, Int.not_lt, Int.not_le] at hc1
        have hgood : refP v N k = true := by simpa using hc1
        refine TW.skip ?_
        refine TQ.blkN ?_
        refine TQ.thenN (hY6 _ _ ?_)
        refine TW.region ?_
        refine TL.p Pu.mv ?_
        refine TL.p Pu.ad ?_
        refine TL.p Pu.as ?_
        refine TL.nil ?_
        refine TQ.thenN (hZ0 (k + 1) _ _ ?_ ?_ (by repeat (first | exact trivial | refine ⟨rfl, ?_⟩ | refine ⟨trivial, ?_⟩)) ?_)
        · refine ⟨by omega, fun j hj => ?_⟩
          by_cases h : j = k
          · subst h; exact hgood
          · exact hall j (by omega)
        · exact (by first | omega | (simp only []; omega) | (simp; omega))
        · exact (by repeat (first | exact KSub.nil | refine KSub.cons (by repeat (first | exact Pick.hd | apply Pick.tl)) ?_))
    refine TW.dw 24 ?_
    refine RK.tk Pu.mv ?_
    refine RK.tk Pu.mv ?_
    refine RK.tk (Pu.el ty_et47) ?_
    refine RK.tk (Pu.ld ty_sc3) ?_
    refine RK.tk Pu.mv ?_
    refine RK.tk Pu.sb ?_
    refine RK.keep ?_
    refine RK.keep ?_
    refine RK.keep ?_
    refine RK.keep ?_
    refine RK.keep ?_
    refine RK.keep ?_
    refine RK.keep ?_
    refine RK.keep ?_
    refine RK.keep ?_
    refine RK.keep ?_
    refine RK.keep ?_
    refine RK.keep ?_
    refine RK.keep ?_
    refine RK.keep ?_
    refine RK.keep ?_
    refine RK.keep ?_
    refine RK.keep ?_
    refine RK.keep ?_
    refine RK.ch [false, true, true, true, true, true, true, true, true, true, true, true, true, true, true, true, true, true] ?_ trivial
    refine WK.cr rfl (enters Tryd.func39 rfl rfl) (fun w hw => by
        exact within5_any _ _ _ _) ?_
    refine WK.p Pu.no ?_
    refine WK.p Pu.mv ?_
    refine WK.guard (t := 20) rfl (fun hg1 => ?_) (fun hg1 => ?_)
    · try simp only [decide_eq_true_eq, decide_eq_false_iff_not, Bool.not_eq_true', Bool.not_eq_false', Int.natCast_pos] at hg1
      refine WK.ps ?_
      refine WK.ps ?_
      refine WK.ps ?_
      refine WK.ps ?_
      refine WK.ps ?_
      refine WK.ps ?_
      refine WK.ps ?_
      refine WK.ps ?_
      refine WK.ps ?_
      refine WK.ps ?_
      refine WK.ps ?_
      refine WK.ps ?_
      refine WK.ps ?_
      refine WK.ps ?_
      refine WK.p Pu.kt ?_
      refine WK.n ?_
      refine TL.nil ?_
      exact TQ.sub (by repeat (first | exact trivial | refine ⟨rfl, ?_⟩ | refine ⟨trivial, ?_⟩ | refine ⟨(by show some (Value.bool _) = some (Value.bool _); simp [hg1, refP, tnP]), ?_⟩)) (by repeat (first | exact KSub.nil | refine KSub.cons (by repeat (first | exact Pick.hd | apply Pick.tl)) ?_)) hJ1
    · try simp only [decide_eq_true_eq, decide_eq_false_iff_not, Bool.not_eq_true', Bool.not_eq_false', Int.natCast_pos] at hg1
      refine WK.p Pu.mv ?_
      refine WK.p Pu.gt ?_
      refine WK.p Pu.mv ?_
      refine WK.guard (t := 23) rfl (fun hg2 => ?_) (fun hg2 => ?_)
      · try simp only [decide_eq_true_eq, decide_eq_false_iff_not, Bool.not_eq_true', Bool.not_eq_false', Int.natCast_pos] at hg2
        refine WK.p Pu.mv ?_
        refine WK.p Pu.mv ?_
        refine WK.p (Pu.el ty_et47) ?_
        refine WK.p (Pu.ld ty_sc3) ?_
        refine WK.p Pu.mv ?_
        refine WK.p Pu.mv ?_
        refine WK.p Pu.sb ?_
        refine WK.p (Pu.el (q := k - 1) ty_et47 (hk := tnP k)) ?_
        refine WK.p (Pu.ld ty_sc3) ?_
        refine WK.p Pu.le ?_
        refine WK.p Pu.kt ?_
        refine WK.p Pu.kf ?_
        refine WK.n ?_
        refine TL.nil ?_
        exact TQ.sub (by repeat (first | exact trivial | refine ⟨rfl, ?_⟩ | refine ⟨trivial, ?_⟩ | refine ⟨(by show some (Value.bool _) = some (Value.bool _); simp [hg1, hg2, refP, tnP]), ?_⟩)) (by repeat (first | exact KSub.nil | refine KSub.cons (by repeat (first | exact Pick.hd | apply Pick.tl)) ?_)) hJ1
      · try simp only [decide_eq_true_eq, decide_eq_false_iff_not, Bool.not_eq_true', Bool.not_eq_false', Int.natCast_pos] at hg2
        refine WK.ps ?_
        refine WK.ps ?_
        refine WK.ps ?_
        refine WK.ps ?_
        refine WK.ps ?_
        refine WK.ps ?_
        refine WK.ps ?_
        refine WK.ps ?_
        refine WK.ps ?_
        refine WK.ps ?_
        refine WK.p Pu.kf ?_
        refine WK.p Pu.kf ?_
        refine WK.n ?_
        refine TL.nil ?_
        exact TQ.sub (by repeat (first | exact trivial | refine ⟨rfl, ?_⟩ | refine ⟨trivial, ?_⟩ | refine ⟨(by show some (Value.bool _) = some (Value.bool _); simp [hg1, hg2, refP, tnP]), ?_⟩)) (by repeat (first | exact KSub.nil | refine KSub.cons (by repeat (first | exact Pick.hd | apply Pick.tl)) ?_)) hJ1
  · try simp only [decide_eq_true_eq, decide_eq_false_iff_not, Bool.not_eq_true', Bool.not_eq_false', Bool.and_eq_true, Bool.or_eq_true, Bool.and_eq_false_iff, Bool.or_eq_false_iff, Int.not_lt, Int.not_le] at hc0
    refine TW.exit ?_
    refine TQ.thenX ?_
    refine TQ.thenX ?_
    refine TQ.blkX ?_
    refine TQ.thenN (hY2 _ _ ?_)
    refine TW.seq fun Y9 hY9 => ?_
    refine TW.region ?_
    refine TL.p Pu.as ?_
    refine TL.nil ?_
    refine TQ.thenN (hY9 _ _ ?_)
    refine TW.ret ?_
    refine TQ.ret Tryd.results78 rfl ((.tmp rfl .nil)) ?_
    exact fun w hw => ⟨ret_bool (by
      obtain rfl : k = n := by omega
      exact allB_iff.2 hall), Chg.ext hw.chg⟩
end Go.Proofs.YtagcnokaajinlaaDoor
