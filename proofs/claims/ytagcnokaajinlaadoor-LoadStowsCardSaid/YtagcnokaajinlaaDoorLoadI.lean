/-
  load: need, rising, lists, all; slices.Grow at nil, slices.Concat.
-/
import Derived.Test.YtagcnokaajinlaaDoorLoadH
import Derived.Test.YtagcnokaajinlaaDoorT
namespace Go.Proofs.YtagcnokaajinlaaDoor
set_option linter.all false
set_option linter.unusedVariables false
set_option linter.unusedSimpArgs false
open Go.RowKit
theorem grow_any (k : Nat) (w : World) (hk : k ≤ 1000000000) (r : Nat → List Value) :
    CallsK Tryd.prog 91 #[.slice none 0 0, .int .i64 k] [] w (Option Addr × Nat) (fun x => .slice x.1 0 x.2) (fun x => [.own x.1 0 x.2 3 1 r]) := by
  refine K_enter (S := []) (K := []) Tryd.func91 rfl Tryd.ntmps91 rfl (Sat.start _) ?_
  refine TW.seq fun Y1 hY1 => ?_
  refine TW.region ?_
  refine TL.p Pu.as ?_
  refine TL.nil ?_
  refine TQ.thenN (hY1 _ _ ?_)
  refine TW.seq fun Y2 hY2 => ?_
  refine TW.seq fun Y3 hY3 => ?_
  refine TW.region ?_
  refine TL.p Pu.mv ?_
  refine TL.p Pu.lt ?_
  refine TL.nil ?_
  refine TQ.thenN (hY3 _ _ ?_)
  refine TW.condF rfl ((by first | (simp; done) | (simp; omega))) ?_
  refine TW.skip ?_
  refine TQ.thenN (hY2 _ _ ?_)
  refine TW.seq fun Y4 hY4 => ?_
  refine TW.seq fun Y5 hY5 => ?_
  refine TW.region ?_
  refine TL.p Pu.mv ?_
  refine TL.p Pu.mv ?_
  refine TL.p (Pu.cp Tryd.underlying47) ?_
  refine TL.p Pu.mv ?_
  refine TL.p (Pu.ln Tryd.underlying47) ?_
  refine TL.p Pu.sb ?_
  refine TL.p Pu.sb ?_
  refine TL.p Pu.as ?_
  refine TL.nil ?_
  refine TQ.thenN (hY5 _ _ ?_)
  refine TW.seq fun Y6 hY6 => ?_
  refine TW.region ?_
  refine TL.p Pu.mv ?_
  refine TL.p Pu.gt ?_
  refine TL.nil ?_
  refine TQ.thenN (hY6 _ _ ?_)
  refine TW.cond rfl (fun hc1 => ?_) (fun hc1 => ?_)
  · try simp only [decide_eq_true_eq, decide_eq_false_iff_not, Bool.not_eq_true', Bool.not_eq_false', Bool.and_eq_true, Bool.or_eq_true, Bool.and_eq_false_iff, Bool.or_eq_false_iff, Int.not_lt, Int.not_le] at hc1
    refine TW.region ?_
    refine TL.p Pu.mv ?_
    refine TL.p Pu.mv ?_
    refine TL.p (Pu.cp Tryd.underlying47) ?_
    refine TL.p (Pu.sh ty_et47) ?_
    refine TL.p Pu.mv ?_
    refine TL.az (r := r) ty_et47 Tryd.underlying3 ?_
    intro g1 c1 hc1 hm1
    refine TL.p Pu.mv ?_
    refine TL.p (Pu.ln Tryd.underlying47) ?_
    refine TL.p (Pu.sh ty_et47) ?_
    refine TL.p Pu.as ?_
    refine TL.nil ?_
    refine TQ.thenN (hY4 _ _ ?_)
    refine TW.seq fun Y7 hY7 => ?_
    refine TW.region ?_
    refine TL.p Pu.mv ?_
    refine TL.p Pu.as ?_
    refine TL.nil ?_
    refine TQ.thenN (hY7 _ _ ?_)
    refine TW.ret ?_
    refine TQ.ret Tryd.results91 rfl ((.tmp rfl .nil)) ?_
    exact fun w hw => ⟨(some ⟨g1, 0, none⟩, c1), rfl, hw⟩
  · try simp only [decide_eq_true_eq, decide_eq_false_iff_not, Bool.not_eq_true', Bool.not_eq_false', Bool.and_eq_true, Bool.or_eq_true, Bool.and_eq_false_iff, Bool.or_eq_false_iff, Int.not_lt, Int.not_le] at hc1
    refine TW.skip ?_
    refine TQ.thenN (hY4 _ _ ?_)
    refine TW.seq fun Y8 hY8 => ?_
    refine TW.region ?_
    refine TL.p Pu.mv ?_
    refine TL.p Pu.as ?_
    refine TL.nil ?_
    refine TQ.thenN (hY8 _ _ ?_)
    refine TW.ret ?_
    refine TQ.ret Tryd.results91 rfl ((.tmp rfl .nil)) ?_
    exact fun w hw => ⟨(none, 0), rfl, hw.sub (KSub.nilOwn KSub.nil)⟩
def tot (l : Nat → Nat) : Nat → Nat
  | 0 => 0
  | q + 1 => tot l q + l q
def catN (l : Nat → Nat) (s : Nat → Nat → List Value) : Nat → Nat → List Value
  | 0 => fun _ => []
  | q + 1 => catR (tot l q) (catN l s q) (s q)
theorem tot_mono {l : Nat → Nat} {p q : Nat} (h : p ≤ q) : tot l p ≤ tot l q := by
  induction q with
  | zero => have : p = 0 := by omega
            subst this; exact Nat.le_refl _
  | succ q ih =>
    by_cases hp : p = q + 1
    · subst hp; exact Nat.le_refl _
    · have := ih (by omega); simp only [tot]; omega
theorem concat_any {A : Option Addr} {m cp : Nat} {a : Nat → Option Addr} {l c : Nat → Nat} {v : Nat → Nat → Int} {w : World} (hm : m ≤ 1000000000) (ht : tot l m ≤ 1000000000)
    (hR : RdR w 1 A m (fun i => [.slice (a i) (l i) (c i)])) (hI : ∀ i, i < m → RdR w 1 (a i) (l i) (fun k => [.int .i64 (v i k)])) :
    CallsK Tryd.prog 80 #[.slice A m cp] [] w (Option Addr × Nat) (fun x => .slice x.1 (tot l m) x.2) (fun x => [.own x.1 (tot l m) x.2 3 1 (catN l (fun i k => [.int .i64 (v i k)]) m)]) := by
  refine K_enter (S := []) (K := []) Tryd.func80 rfl Tryd.ntmps80 rfl (Sat.start _) ?_
  refine TW.seq fun Y1 hY1 => ?_
  refine TW.region ?_
  refine TL.p Pu.as ?_
  refine TL.nil ?_
  refine TQ.thenN (hY1 _ _ ?_)
  refine TW.seq fun Y2 hY2 => ?_
  refine TW.region ?_
  refine TL.p Pu.as ?_
  refine TL.nil ?_
  refine TQ.thenN (hY2 _ _ ?_)
  refine TW.seq fun Y3 hY3 => ?_
  refine TW.seq fun Y4 hY4 => ?_
  refine TW.region ?_
  refine TL.p Pu.mv ?_
  refine TL.p (Pu.ln Tryd.underlying95) ?_
  refine TL.p Pu.mv ?_
  refine TL.nil ?_
  refine TQ.thenN (hY4 _ _ ?_)
  refine TW.block ?_
  refine TW.loop2 (fun (q : Nat) (z : Int) => [(11, .int .i64 (q : Int)), (10, .int .i64 (m : Int)), (9, .slice A m cp), (0, .slice A m cp), (3, .int .i64 z)]) (fun q z => []) (fun q z => q ≤ m ∧ z = (tot l q : Int)) (fun q z => m - q) 0 _ (by repeat (first | exact trivial | refine ⟨rfl, ?_⟩ | refine ⟨trivial, ?_⟩)) ?_ ?_ ?_
  · exact (by repeat (first | exact KSub.nil | refine KSub.cons (by repeat (first | exact Pick.hd | apply Pick.tl)) ?_))
  · exact ⟨by omega, rfl⟩
  rintro q z ⟨hq, hz⟩ Z0 hZ0
  refine TW.seq fun Y5 hY5 => ?_
  refine TW.region ?_
  refine TL.p Pu.lt ?_
  refine TL.nil ?_
  refine TQ.thenN (hY5 _ _ ?_)
  refine TW.seq fun Y6 hY6 => ?_
  refine TW.cond rfl (fun hc0 => ?_) (fun hc0 => ?_)
  · try simp only [decide_eq_true_eq, decide_eq_false_iff_not, Bool.not_eq_true', Bool.not_eq_false', Bool.and_eq_true, Bool.or_eq_true, Bool.and_eq_false_iff, Bool.or_eq_false_iff, Int.not_lt, Int.not_le] at hc0
    have hqm : q < m := by omega
    have h1 := tot_mono (l := l) (show q + 1 ≤ m by omega)
    simp only [tot] at h1
    refine TW.skip ?_
    refine TQ.thenN (hY6 _ _ ?_)
    refine TW.seq fun Y7 hY7 => ?_
    refine TW.block ?_
    refine TW.seq fun Y8 hY8 => ?_
    refine TW.region ?_
    refine TL.p (Pu.el ty_et95) ?_
    refine TL.p (Pu.ld ty_sc47) ?_
    refine TL.p Pu.as ?_
    refine TL.nil ?_
    refine TQ.thenN (hY8 _ _ ?_)
    refine TW.seq fun Y9 hY9 => ?_
    refine TW.region ?_
    refine TL.p Pu.mv ?_
    refine TL.p Pu.mv ?_
    refine TL.p (Pu.ln Tryd.underlying47) ?_
    refine TL.p Pu.ad ?_
    refine TL.p Pu.as ?_
    refine TL.nil ?_
    refine TQ.thenN (hY9 _ _ ?_)
    refine TW.seq fun Y10 hY10 => ?_
    refine TW.region ?_
    refine TL.p Pu.mv ?_
    refine TL.p Pu.lt ?_
    refine TL.nil ?_
    refine TQ.thenN (hY10 _ _ ?_)
    refine TW.condF rfl ((by first | (simp; done) | (simp; omega))) ?_
    refine TW.skip ?_
    refine TQ.blkN ?_
    refine TQ.thenN (hY7 _ _ ?_)
    refine TW.region ?_
    refine TL.p Pu.ad ?_
    refine TL.p Pu.mv ?_
    refine TL.nil ?_
    refine TQ.thenN (hZ0 (q + 1) _ _ _ ?_ ?_ (by repeat (first | exact trivial | refine ⟨rfl, ?_⟩ | refine ⟨trivial, ?_⟩)) ?_)
    · exact ⟨by omega, by simp only [tot]; omega⟩
    · exact (by first | omega | (simp only []; omega) | (simp; omega))
    · exact (by repeat (first | exact KSub.nil | refine KSub.cons (by repeat (first | exact Pick.hd | apply Pick.tl)) ?_))
  · try simp only [decide_eq_true_eq, decide_eq_false_iff_not, Bool.not_eq_true', Bool.not_eq_false', Bool.and_eq_true, Bool.or_eq_true, Bool.and_eq_false_iff, Bool.or_eq_false_iff, Int.not_lt, Int.not_le] at hc0
    refine TW.exit ?_
    refine TQ.thenX ?_
    refine TQ.thenX ?_
    refine TQ.blkX ?_
    refine TQ.thenN (hY3 _ _ ?_)
    refine TW.seq fun Y11 hY11 => ?_
    refine TW.region ?_
    refine TL.p Pu.mv ?_
    refine TL.call (M := []) rfl (enters Tryd.func91 rfl rfl) (List.Perm.refl _) rfl (fun w hw => by
        obtain rfl : q = m := by omega
        subst hz
        exact grow_any _ w ht (fun _ => [])) ?_
    rintro ⟨A0, c0⟩
    refine TL.p Pu.as ?_
    refine TL.nil ?_
    refine TQ.thenN (hY11 _ _ ?_)
    refine TW.seq fun Y12 hY12 => ?_
    refine TW.seq fun Y13 hY13 => ?_
    refine TW.region ?_
    refine TL.p Pu.mv ?_
    refine TL.p (Pu.ln Tryd.underlying95) ?_
    refine TL.p Pu.mv ?_
    refine TL.nil ?_
    refine TQ.thenN (hY13 _ _ ?_)
    refine TW.block ?_
    refine TW.loop3 (fun (q : Nat) (A1 : Option Addr) (c1 : Nat) => [(27, .int .i64 (q : Int)), (26, .int .i64 (m : Int)), (25, .slice A m cp), (6, .slice A1 (tot l q) c1)]) (fun q A1 c1 => [.own A1 (tot l q) c1 3 1 (catN l (fun i k => [.int .i64 (v i k)]) q)]) (fun q A1 c1 => q ≤ m) (fun q A1 c1 => m - q) 0 _ _ (by repeat (first | exact trivial | refine ⟨rfl, ?_⟩ | refine ⟨trivial, ?_⟩)) ?_ ?_ ?_
    · exact (by repeat (first | exact KSub.nil | refine KSub.cons (by repeat (first | exact Pick.hd | apply Pick.tl)) ?_))
    · exact Nat.zero_le _
    rintro q A1 c1 hq Z1 hZ1
    refine TW.seq fun Y14 hY14 => ?_
    refine TW.region ?_
    refine TL.p Pu.lt ?_
    refine TL.nil ?_
    refine TQ.thenN (hY14 _ _ ?_)
    refine TW.seq fun Y15 hY15 => ?_
    refine TW.cond rfl (fun hc2 => ?_) (fun hc2 => ?_)
    · try simp only [decide_eq_true_eq, decide_eq_false_iff_not, Bool.not_eq_true', Bool.not_eq_false', Bool.and_eq_true, Bool.or_eq_true, Bool.and_eq_false_iff, Bool.or_eq_false_iff, Int.not_lt, Int.not_le] at hc2
      have hqm : q < m := by omega
      have h1 := tot_mono (l := l) (show q + 1 ≤ m by omega)
      simp only [tot] at h1
      have hIq := hI q hqm
      refine TW.skip ?_
      refine TQ.thenN (hY15 _ _ ?_)
      refine TW.seq fun Y16 hY16 => ?_
      refine TW.block ?_
      refine TW.seq fun Y17 hY17 => ?_
      refine TW.region ?_
      refine TL.p (Pu.el ty_et95) ?_
      refine TL.p (Pu.ld ty_sc47) ?_
      refine TL.p Pu.as ?_
      refine TL.nil ?_
      refine TQ.thenN (hY17 _ _ ?_)
      refine TW.region ?_
      refine TL.p Pu.mv ?_
      refine TL.p Pu.mv ?_
      first | refine TL.a0 ty_et47 ?_ | refine TL.ap ty_et47 ?_
      intro A1 c1
      refine TL.p Pu.as ?_
      refine TL.nil ?_
      refine TQ.blkN ?_
      refine TQ.thenN (hY16 _ _ ?_)
      refine TW.region ?_
      refine TL.p Pu.ad ?_
      refine TL.p Pu.mv ?_
      refine TL.nil ?_
      refine TQ.thenN (hZ1 (q + 1) _ _ _ _ ?_ ?_ (by repeat (first | exact trivial | refine ⟨rfl, ?_⟩ | refine ⟨trivial, ?_⟩)) ?_)
      · exact (by omega)
      · exact (by first | omega | (simp only []; omega) | (simp; omega))
      · exact (by repeat (first | exact KSub.nil | refine KSub.cons (by repeat (first | exact Pick.hd | apply Pick.tl)) ?_))
    · try simp only [decide_eq_true_eq, decide_eq_false_iff_not, Bool.not_eq_true', Bool.not_eq_false', Bool.and_eq_true, Bool.or_eq_true, Bool.and_eq_false_iff, Bool.or_eq_false_iff, Int.not_lt, Int.not_le] at hc2
      obtain rfl : q = m := by omega
      refine TW.exit ?_
      refine TQ.thenX ?_
      refine TQ.thenX ?_
      refine TQ.blkX ?_
      refine TQ.thenN (hY12 _ _ ?_)
      refine TW.seq fun Y18 hY18 => ?_
      refine TW.region ?_
      refine TL.p Pu.mv ?_
      refine TL.p Pu.as ?_
      refine TL.nil ?_
      refine TQ.thenN (hY18 _ _ ?_)
      refine TW.ret ?_
      refine TQ.ret Tryd.results80 rfl ((.tmp rfl .nil)) ?_
      exact fun w hw => ⟨(A1, c1), rfl, hw⟩
end Go.Proofs.YtagcnokaajinlaaDoor
