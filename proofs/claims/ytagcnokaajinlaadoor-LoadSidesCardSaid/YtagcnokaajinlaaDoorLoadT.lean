/-
  The reference's TwinTies: loads once more, in memory of their own.
-/
import Derived.Test.YtagcnokaajinlaaDoorLoadS
import Derived.Test.YtagcnokaajinlaaDoorT
namespace Go.Proofs.YtagcnokaajinlaaDoor
set_option linter.all false
set_option linter.unusedVariables false
set_option linter.unusedSimpArgs false
open Go.RowKit
/-- The lists of the loads so far, each in memory of its own. -/
def innerK (b : Nat → Nat → Option Addr) (l d : Nat → Nat → Nat) (v : Nat → Nat → Nat → Int) : Nat → List Fact
  | 0 => []
  | q + 1 => .own (b q 0) (l q 0) (d q 0) 3 1 (fun k => [.int .i64 (v q 0 k)]) :: .own (b q 1) (l q 1) (d q 1) 3 1 (fun k => [.int .i64 (v q 1 k)]) :: .own (b q 2) (l q 2) (d q 2) 3 1 (fun k => [.int .i64 (v q 2 k)]) :: innerK b l d v q
theorem innerK_congr {b b' : Nat → Nat → Option Addr} {l d d' : Nat → Nat → Nat} {v : Nat → Nat → Nat → Int} : ∀ q, (∀ i, i < q → b i = b' i ∧ d i = d' i) → innerK b l d v q = innerK b' l d' v q
  | 0, _ => rfl
  | q + 1, h => by
    obtain ⟨h1, h2⟩ := h q (by omega)
    simp only [innerK, h1, h2, innerK_congr q fun i hi => h i (by omega)]
def upd3 {α : Type} (f : Nat → Nat → α) (q : Nat) (x y z : α) : Nat → Nat → α := fun i j => if i = q then (if j = 0 then x else if j = 1 then y else z) else f i j
set_option maxRecDepth 100000 in
set_option maxHeartbeats 8000000 in
theorem twin_any {AT : Option Addr} {m cpT : Nat} {a : Nat → Nat → Option Addr} {l c : Nat → Nat → Nat} {v : Nat → Nat → Nat → Int} {w : World} (hm : m ≤ 1000) (hl : ∀ i, i < m → tot (l i) 3 ≤ 1000)
    (hT : RdR w 3 AT m (fun i => tieL (a i) (l i) (c i))) (hI : ∀ i, i < m → ∀ j, j < 3 → RdR w 1 (a i j) (l i j) (fun k => [.int .i64 (v i j k)])) :
    CallsK Tryd.prog 7 #[.slice AT m cpT] [] w ((Option Addr × Nat) × (Nat → Nat → Option Addr) × (Nat → Nat → Nat)) (fun x => .slice x.1.1 m x.1.2) (fun x => .own x.1.1 m x.1.2 59 3 (fun i => tieL (x.2.1 i) (l i) (x.2.2 i)) :: innerK x.2.1 l x.2.2 v m) := by
  refine K_enter (S := []) (K := []) Tryd.func7 rfl Tryd.ntmps7 rfl (Sat.start _) ?_
  refine TW.seq fun Y1 hY1 => ?_
  refine TW.region ?_
  refine TL.p Pu.as ?_
  refine TL.nil ?_
  refine TQ.thenN (hY1 _ _ ?_)
  refine TW.seq fun Y2 hY2 => ?_
  refine TW.region ?_
  refine TL.p Pu.as ?_
  refine TL.nil ?_
  refine TQ.thenN (hY2 _ _ ?_)
  refine TW.seq fun Y3 hY3 => ?_
  refine TW.seq fun Y4 hY4 => ?_
  refine TW.region ?_
  refine TL.p Pu.as ?_
  refine TL.nil ?_
  refine TQ.thenN (hY4 _ _ ?_)
  refine TW.block ?_
  refine TW.loop5 (fun (q : Nat) (Ao : Option Addr) (co : Nat) (b : Nat → Nat → Option Addr) (d : Nat → Nat → Nat) => [(4, .int .i64 (q : Int)), (3, .slice Ao q co), (0, .slice AT m cpT)]) (fun q Ao co b d => .own Ao q co 59 3 (fun i => tieL (b i) (l i) (d i)) :: innerK b l d v q) (fun q Ao co b d => q ≤ m) (fun q Ao co b d => m - q) 0 none 0 (fun _ _ => none) (fun _ _ => 0) (by repeat (first | exact trivial | refine ⟨rfl, ?_⟩ | refine ⟨trivial, ?_⟩)) ?_ ?_ ?_
  · exact KSub.nilOwn KSub.nil
  · exact Nat.zero_le _
  rintro q Ao co b d hq Z0 hZ0
  refine TW.seq fun Y5 hY5 => ?_
  refine TW.seq fun Y6 hY6 => ?_
  refine TW.region ?_
  refine TL.p Pu.mv ?_
  refine TL.p Pu.mv ?_
  refine TL.p (Pu.ln Tryd.underlying27) ?_
  refine TL.p Pu.lt ?_
  refine TL.nil ?_
  refine TQ.thenN (hY6 _ _ ?_)
  refine TW.cond rfl (fun hc0 => ?_) (fun hc0 => ?_)
  · try simp only [decide_eq_true_eq, decide_eq_false_iff_not, Bool.not_eq_true', Bool.not_eq_false', Bool.and_eq_true, Bool.or_eq_true, Bool.and_eq_false_iff, Bool.or_eq_false_iff, Int.not_lt, Int.not_le] at hc0
    have hqm : q < m := by omega
    have hlq := hl q hqm
    rw [tot3] at hlq
    have hI0 := hI q hqm 0 (by omega)
    have hI1 := hI q hqm 1 (by omega)
    have hI2 := hI q hqm 2 (by omega)
    refine TW.skip ?_
    refine TQ.thenN (hY5 _ _ ?_)
    refine TW.seq fun Y7 hY7 => ?_
    refine TW.block ?_
    refine TW.exn (fun (⟨A24, c24, A7, c7, A14, c14, A21, c21⟩ : Option Addr × Nat × Option Addr × Nat × Option Addr × Nat × Option Addr × Nat) => ([(3, .slice A24 (q + 1) c24), (4, .int .i64 (q : Int)), (0, .slice AT m cpT)] : Fr)) (fun (⟨A24, c24, A7, c7, A14, c14, A21, c21⟩ : Option Addr × Nat × Option Addr × Nat × Option Addr × Nat × Option Addr × Nat) => .own A24 (q + 1) c24 59 3 (catR q (fun i => tieL (b i) (l i) (d i)) (fun _ => [.slice A7 (l q 0) c7, .slice A14 (l q 1) c14, .slice A21 (l q 2) c21])) :: .own A7 (l q 0) c7 3 1 (fun k => [.int .i64 (v q 0 k)]) :: .own A14 (l q 1) c14 3 1 (fun k => [.int .i64 (v q 1 k)]) :: .own A21 (l q 2) c21 3 1 (fun k => [.int .i64 (v q 2 k)]) :: innerK b l d v q) ?_ (fun hE => ?_)
    · rintro ⟨A24, c24, A7, c7, A14, c14, A21, c21⟩
      refine TQ.blkN ?_
      refine TQ.thenN (hY7 _ _ ?_)
      refine TW.region ?_
      refine TL.p Pu.mv ?_
      refine TL.p Pu.ad ?_
      refine TL.p Pu.as ?_
      refine TL.nil ?_
      refine TQ.thenN (hZ0 (q + 1) A24 c24 (upd3 b q A7 A14 A21) (upd3 d q c7 c14 c21) _ _ ?_ ?_ (by repeat (first | exact trivial | refine ⟨rfl, ?_⟩ | refine ⟨trivial, ?_⟩)) ?_)
      · exact (by omega)
      · exact (by first | omega | (simp only []; omega) | (simp; omega))
      · have e : innerK (upd3 b q A7 A14 A21) l (upd3 d q c7 c14 c21) v q = innerK b l d v q := innerK_congr q fun i hi => ⟨by funext j; simp [upd3, show ¬ i = q by omega], by funext j; simp [upd3, show ¬ i = q by omega]⟩
        simp only [innerK, e]
        refine KSub.own Pick.hd (fun i hi => ?_) (KSub.cons (by simp only [upd3]; exact Pick.hd) (KSub.cons (by simp only [upd3]; exact Pick.hd) (KSub.cons (by simp only [upd3]; exact Pick.hd) (KSub.refl _))))
        simp only [catR]
        by_cases h : i < q
        · rw [if_pos h]; simp [tieL, upd3, show ¬ i = q by omega]
        · obtain rfl : i = q := by omega
          rw [if_neg h]; simp [tieL, upd3]
    refine RG.tk 0 rfl Pu.mv ?_
    refine RG.tk 2 rfl Pu.mv ?_
    refine RG.tk 3 rfl Pu.mv ?_
    refine RG.tk 4 rfl (Pu.el ty_et27) ?_
    refine RG.tk 5 rfl (by first | exact Pu.fb ty_fa59_0 | exact Pu.fe ty_fa59_0) ?_
    refine RG.tk 6 rfl (Pu.ld ty_sc47) ?_
    refine RG.tk 9 rfl Pu.mv ?_
    refine RG.tk 10 rfl Pu.mv ?_
    refine RG.tk 11 rfl (Pu.el ty_et27) ?_
    refine RG.tk 12 rfl (by first | exact Pu.fb ty_fa59_1 | exact Pu.fe ty_fa59_1) ?_
    refine RG.tk 13 rfl (Pu.ld ty_sc47) ?_
    refine RG.tk 16 rfl Pu.mv ?_
    refine RG.tk 17 rfl Pu.mv ?_
    refine RG.tk 18 rfl (Pu.el ty_et27) ?_
    refine RG.tk 19 rfl (by first | exact Pu.fb ty_fa59_2 | exact Pu.fe ty_fa59_2) ?_
    refine RG.tk 20 rfl (Pu.ld ty_sc47) ?_
    refine RG.a3 1 8 15 rfl rfl rfl (fun X1 hX1 => ?_) (fun X8 hX8 => ?_) (fun X15 hX15 => ?_)
    · refine TL.m Mk.bl ?_
      intro x1
      refine TL.nil ?_
      refine TQ.nxt (hX1 _ _ (by repeat (first | exact HasL.nil | refine HasL.cons (by repeat (first | exact Pick.hd | apply Pick.tl)) ?_)) ?_)
      refine RG.a3 7 8 15 rfl rfl rfl (fun X7 hX7 => ?_) (fun X8 hX8 => ?_) (fun X15 hX15 => ?_)
      · refine TL.ob (b := x1) (sz := 1) (r := fun _ => []) (by repeat (first | exact Pick.hd | apply Pick.tl)) rfl ?_
        first | refine TL.a0 ty_et47 ?_ | refine TL.ap ty_et47 ?_
        intro A7 c7
        refine TL.nil ?_
        refine TQ.nxt (hX7 _ _ (by repeat (first | exact HasL.nil | refine HasL.cons (by repeat (first | exact Pick.hd | apply Pick.tl)) ?_)) ?_)
        refine RG.a2 8 15 rfl rfl (fun X8 hX8 => ?_) (fun X15 hX15 => ?_)
        · refine TL.m Mk.bl ?_
          intro x8
          refine TL.nil ?_
          refine TQ.nxt (hX8 _ _ (by repeat (first | exact HasL.nil | refine HasL.cons (by repeat (first | exact Pick.hd | apply Pick.tl)) ?_)) ?_)
          refine RG.a2 14 15 rfl rfl (fun X14 hX14 => ?_) (fun X15 hX15 => ?_)
          · refine TL.ob (b := x8) (sz := 1) (r := fun _ => []) (by repeat (first | exact Pick.hd | apply Pick.tl)) rfl ?_
            first | refine TL.a0 ty_et47 ?_ | refine TL.ap ty_et47 ?_
            intro A14 c14
            refine TL.nil ?_
            refine TQ.nxt (hX14 _ _ (by repeat (first | exact HasL.nil | refine HasL.cons (by repeat (first | exact Pick.hd | apply Pick.tl)) ?_)) ?_)
            refine RG.a1 15 rfl (fun X15 hX15 => ?_)
            refine TL.m Mk.bl ?_
            intro x15
            refine TL.nil ?_
            refine TQ.nxt (hX15 _ _ (by repeat (first | exact HasL.nil | refine HasL.cons (by repeat (first | exact Pick.hd | apply Pick.tl)) ?_)) ?_)
            refine RG.a1 21 rfl (fun X21 hX21 => ?_)
            refine TL.ob (b := x15) (sz := 1) (r := fun _ => []) (by repeat (first | exact Pick.hd | apply Pick.tl)) rfl ?_
            first | refine TL.a0 ty_et47 ?_ | refine TL.ap ty_et47 ?_
            intro A21 c21
            refine TL.nil ?_
            refine TQ.nxt (hX21 _ _ (by repeat (first | exact HasL.nil | refine HasL.cons (by repeat (first | exact Pick.hd | apply Pick.tl)) ?_)) ?_)
            refine RG.tk 22 rfl Pu.bd ?_
            refine RG.a1 23 rfl (fun X23 hX23 => ?_)
            refine TL.m Mk.bl ?_
            intro x23
            refine TL.nil ?_
            refine TQ.nxt (hX23 _ _ (by repeat (first | exact HasL.nil | refine HasL.cons (by repeat (first | exact Pick.hd | apply Pick.tl)) ?_)) ?_)
            refine RG.a1 24 rfl (fun X24 hX24 => ?_)
            first | refine TL.a0 ty_et27 ?_ | refine TL.ap ty_et27 ?_
            intro A24 c24
            refine TL.nil ?_
            refine TQ.nxt (hX24 _ _ (by repeat (first | exact HasL.nil | refine HasL.cons (by repeat (first | exact Pick.hd | apply Pick.tl)) ?_)) ?_)
            refine RG.tk 25 rfl Pu.as ?_
            exact RG.nil (TQ.sub (by repeat (first | exact trivial | refine ⟨rfl, ?_⟩ | refine ⟨trivial, ?_⟩)) (by repeat (first | exact KSub.nil | refine KSub.cons (by repeat (first | exact Pick.hd | apply Pick.tl)) ?_ | exact KSub.refl _ | exact KSub.drop (KSub.refl _))) (hE ⟨A24, c24, A7, c7, A14, c14, A21, c21⟩)) (by kernel_rfl)
          · refine TL.m Mk.bl ?_
            intro x15
            refine TL.nil ?_
            refine TQ.nxt (hX15 _ _ (by repeat (first | exact HasL.nil | refine HasL.cons (by repeat (first | exact Pick.hd | apply Pick.tl)) ?_)) ?_)
            refine RG.a1 14 rfl (fun X14 hX14 => ?_)
            refine TL.ob (b := x8) (sz := 1) (r := fun _ => []) (by repeat (first | exact Pick.hd | apply Pick.tl)) rfl ?_
            first | refine TL.a0 ty_et47 ?_ | refine TL.ap ty_et47 ?_
            intro A14 c14
            refine TL.nil ?_
            refine TQ.nxt (hX14 _ _ (by repeat (first | exact HasL.nil | refine HasL.cons (by repeat (first | exact Pick.hd | apply Pick.tl)) ?_)) ?_)
            refine RG.a1 21 rfl (fun X21 hX21 => ?_)
            refine TL.ob (b := x15) (sz := 1) (r := fun _ => []) (by repeat (first | exact Pick.hd | apply Pick.tl)) rfl ?_
            first | refine TL.a0 ty_et47 ?_ | refine TL.ap ty_et47 ?_
            intro A21 c21
            refine TL.nil ?_
            refine TQ.nxt (hX21 _ _ (by repeat (first | exact HasL.nil | refine HasL.cons (by repeat (first | exact Pick.hd | apply Pick.tl)) ?_)) ?_)
            refine RG.tk 22 rfl Pu.bd ?_
            refine RG.a1 23 rfl (fun X23 hX23 => ?_)
            refine TL.m Mk.bl ?_
            intro x23
            refine TL.nil ?_
            refine TQ.nxt (hX23 _ _ (by repeat (first | exact HasL.nil | refine HasL.cons (by repeat (first | exact Pick.hd | apply Pick.tl)) ?_)) ?_)
            refine RG.a1 24 rfl (fun X24 hX24 => ?_)
            first | refine TL.a0 ty_et27 ?_ | refine TL.ap ty_et27 ?_
            intro A24 c24
            refine TL.nil ?_
            refine TQ.nxt (hX24 _ _ (by repeat (first | exact HasL.nil | refine HasL.cons (by repeat (first | exact Pick.hd | apply Pick.tl)) ?_)) ?_)
            refine RG.tk 25 rfl Pu.as ?_
            exact RG.nil (TQ.sub (by repeat (first | exact trivial | refine ⟨rfl, ?_⟩ | refine ⟨trivial, ?_⟩)) (by repeat (first | exact KSub.nil | refine KSub.cons (by repeat (first | exact Pick.hd | apply Pick.tl)) ?_ | exact KSub.refl _ | exact KSub.drop (KSub.refl _))) (hE ⟨A24, c24, A7, c7, A14, c14, A21, c21⟩)) (by kernel_rfl)
        · refine TL.m Mk.bl ?_
          intro x15
          refine TL.nil ?_
          refine TQ.nxt (hX15 _ _ (by repeat (first | exact HasL.nil | refine HasL.cons (by repeat (first | exact Pick.hd | apply Pick.tl)) ?_)) ?_)
          refine RG.a1 8 rfl (fun X8 hX8 => ?_)
          refine TL.m Mk.bl ?_
          intro x8
          refine TL.nil ?_
          refine TQ.nxt (hX8 _ _ (by repeat (first | exact HasL.nil | refine HasL.cons (by repeat (first | exact Pick.hd | apply Pick.tl)) ?_)) ?_)
          refine RG.a1 14 rfl (fun X14 hX14 => ?_)
          refine TL.ob (b := x8) (sz := 1) (r := fun _ => []) (by repeat (first | exact Pick.hd | apply Pick.tl)) rfl ?_
          first | refine TL.a0 ty_et47 ?_ | refine TL.ap ty_et47 ?_
          intro A14 c14
          refine TL.nil ?_
          refine TQ.nxt (hX14 _ _ (by repeat (first | exact HasL.nil | refine HasL.cons (by repeat (first | exact Pick.hd | apply Pick.tl)) ?_)) ?_)
          refine RG.a1 21 rfl (fun X21 hX21 => ?_)
          refine TL.ob (b := x15) (sz := 1) (r := fun _ => []) (by repeat (first | exact Pick.hd | apply Pick.tl)) rfl ?_
          first | refine TL.a0 ty_et47 ?_ | refine TL.ap ty_et47 ?_
          intro A21 c21
          refine TL.nil ?_
          refine TQ.nxt (hX21 _ _ (by repeat (first | exact HasL.nil | refine HasL.cons (by repeat (first | exact Pick.hd | apply Pick.tl)) ?_)) ?_)
          refine RG.tk 22 rfl Pu.bd ?_
          refine RG.a1 23 rfl (fun X23 hX23 => ?_)
          refine TL.m Mk.bl ?_
          intro x23
          refine TL.nil ?_
          refine TQ.nxt (hX23 _ _ (by repeat (first | exact HasL.nil | refine HasL.cons (by repeat (first | exact Pick.hd | apply Pick.tl)) ?_)) ?_)
          refine RG.a1 24 rfl (fun X24 hX24 => ?_)
          first | refine TL.a0 ty_et27 ?_ | refine TL.ap ty_et27 ?_
          intro A24 c24
          refine TL.nil ?_
          refine TQ.nxt (hX24 _ _ (by repeat (first | exact HasL.nil | refine HasL.cons (by repeat (first | exact Pick.hd | apply Pick.tl)) ?_)) ?_)
          refine RG.tk 25 rfl Pu.as ?_
          exact RG.nil (TQ.sub (by repeat (first | exact trivial | refine ⟨rfl, ?_⟩ | refine ⟨trivial, ?_⟩)) (by repeat (first | exact KSub.nil | refine KSub.cons (by repeat (first | exact Pick.hd | apply Pick.tl)) ?_ | exact KSub.refl _ | exact KSub.drop (KSub.refl _))) (hE ⟨A24, c24, A7, c7, A14, c14, A21, c21⟩)) (by kernel_rfl)
      · refine TL.m Mk.bl ?_
        intro x8
        refine TL.nil ?_
        refine TQ.nxt (hX8 _ _ (by repeat (first | exact HasL.nil | refine HasL.cons (by repeat (first | exact Pick.hd | apply Pick.tl)) ?_)) ?_)
        refine RG.a2 7 15 rfl rfl (fun X7 hX7 => ?_) (fun X15 hX15 => ?_)
        · refine TL.ob (b := x1) (sz := 1) (r := fun _ => []) (by repeat (first | exact Pick.hd | apply Pick.tl)) rfl ?_
          first | refine TL.a0 ty_et47 ?_ | refine TL.ap ty_et47 ?_
          intro A7 c7
          refine TL.nil ?_
          refine TQ.nxt (hX7 _ _ (by repeat (first | exact HasL.nil | refine HasL.cons (by repeat (first | exact Pick.hd | apply Pick.tl)) ?_)) ?_)
          refine RG.a2 14 15 rfl rfl (fun X14 hX14 => ?_) (fun X15 hX15 => ?_)
          · refine TL.ob (b := x8) (sz := 1) (r := fun _ => []) (by repeat (first | exact Pick.hd | apply Pick.tl)) rfl ?_
            first | refine TL.a0 ty_et47 ?_ | refine TL.ap ty_et47 ?_
            intro A14 c14
            refine TL.nil ?_
            refine TQ.nxt (hX14 _ _ (by repeat (first | exact HasL.nil | refine HasL.cons (by repeat (first | exact Pick.hd | apply Pick.tl)) ?_)) ?_)
            refine RG.a1 15 rfl (fun X15 hX15 => ?_)
            refine TL.m Mk.bl ?_
            intro x15
            refine TL.nil ?_
            refine TQ.nxt (hX15 _ _ (by repeat (first | exact HasL.nil | refine HasL.cons (by repeat (first | exact Pick.hd | apply Pick.tl)) ?_)) ?_)
            refine RG.a1 21 rfl (fun X21 hX21 => ?_)
            refine TL.ob (b := x15) (sz := 1) (r := fun _ => []) (by repeat (first | exact Pick.hd | apply Pick.tl)) rfl ?_
            first | refine TL.a0 ty_et47 ?_ | refine TL.ap ty_et47 ?_
            intro A21 c21
            refine TL.nil ?_
            refine TQ.nxt (hX21 _ _ (by repeat (first | exact HasL.nil | refine HasL.cons (by repeat (first | exact Pick.hd | apply Pick.tl)) ?_)) ?_)
            refine RG.tk 22 rfl Pu.bd ?_
            refine RG.a1 23 rfl (fun X23 hX23 => ?_)
            refine TL.m Mk.bl ?_
            intro x23
            refine TL.nil ?_
            refine TQ.nxt (hX23 _ _ (by repeat (first | exact HasL.nil | refine HasL.cons (by repeat (first | exact Pick.hd | apply Pick.tl)) ?_)) ?_)
            refine RG.a1 24 rfl (fun X24 hX24 => ?_)
            first | refine TL.a0 ty_et27 ?_ | refine TL.ap ty_et27 ?_
            intro A24 c24
            refine TL.nil ?_
            refine TQ.nxt (hX24 _ _ (by repeat (first | exact HasL.nil | refine HasL.cons (by repeat (first | exact Pick.hd | apply Pick.tl)) ?_)) ?_)
            refine RG.tk 25 rfl Pu.as ?_
            exact RG.nil (TQ.sub (by repeat (first | exact trivial | refine ⟨rfl, ?_⟩ | refine ⟨trivial, ?_⟩)) (by repeat (first | exact KSub.nil | refine KSub.cons (by repeat (first | exact Pick.hd | apply Pick.tl)) ?_ | exact KSub.refl _ | exact KSub.drop (KSub.refl _))) (hE ⟨A24, c24, A7, c7, A14, c14, A21, c21⟩)) (by kernel_rfl)
          · refine TL.m Mk.bl ?_
            intro x15
            refine TL.nil ?_
            refine TQ.nxt (hX15 _ _ (by repeat (first | exact HasL.nil | refine HasL.cons (by repeat (first | exact Pick.hd | apply Pick.tl)) ?_)) ?_)
            refine RG.a1 14 rfl (fun X14 hX14 => ?_)
            refine TL.ob (b := x8) (sz := 1) (r := fun _ => []) (by repeat (first | exact Pick.hd | apply Pick.tl)) rfl ?_
            first | refine TL.a0 ty_et47 ?_ | refine TL.ap ty_et47 ?_
            intro A14 c14
            refine TL.nil ?_
            refine TQ.nxt (hX14 _ _ (by repeat (first | exact HasL.nil | refine HasL.cons (by repeat (first | exact Pick.hd | apply Pick.tl)) ?_)) ?_)
            refine RG.a1 21 rfl (fun X21 hX21 => ?_)
            refine TL.ob (b := x15) (sz := 1) (r := fun _ => []) (by repeat (first | exact Pick.hd | apply Pick.tl)) rfl ?_
            first | refine TL.a0 ty_et47 ?_ | refine TL.ap ty_et47 ?_
            intro A21 c21
            refine TL.nil ?_
            refine TQ.nxt (hX21 _ _ (by repeat (first | exact HasL.nil | refine HasL.cons (by repeat (first | exact Pick.hd | apply Pick.tl)) ?_)) ?_)
            refine RG.tk 22 rfl Pu.bd ?_
            refine RG.a1 23 rfl (fun X23 hX23 => ?_)
            refine TL.m Mk.bl ?_
            intro x23
            refine TL.nil ?_
            refine TQ.nxt (hX23 _ _ (by repeat (first | exact HasL.nil | refine HasL.cons (by repeat (first | exact Pick.hd | apply Pick.tl)) ?_)) ?_)
            refine RG.a1 24 rfl (fun X24 hX24 => ?_)
            first | refine TL.a0 ty_et27 ?_ | refine TL.ap ty_et27 ?_
            intro A24 c24
            refine TL.nil ?_
            refine TQ.nxt (hX24 _ _ (by repeat (first | exact HasL.nil | refine HasL.cons (by repeat (first | exact Pick.hd | apply Pick.tl)) ?_)) ?_)
            refine RG.tk 25 rfl Pu.as ?_
            exact RG.nil (TQ.sub (by repeat (first | exact trivial | refine ⟨rfl, ?_⟩ | refine ⟨trivial, ?_⟩)) (by repeat (first | exact KSub.nil | refine KSub.cons (by repeat (first | exact Pick.hd | apply Pick.tl)) ?_ | exact KSub.refl _ | exact KSub.drop (KSub.refl _))) (hE ⟨A24, c24, A7, c7, A14, c14, A21, c21⟩)) (by kernel_rfl)
        · refine TL.m Mk.bl ?_
          intro x15
          refine TL.nil ?_
          refine TQ.nxt (hX15 _ _ (by repeat (first | exact HasL.nil | refine HasL.cons (by repeat (first | exact Pick.hd | apply Pick.tl)) ?_)) ?_)
          refine RG.a1 7 rfl (fun X7 hX7 => ?_)
          refine TL.ob (b := x1) (sz := 1) (r := fun _ => []) (by repeat (first | exact Pick.hd | apply Pick.tl)) rfl ?_
          first | refine TL.a0 ty_et47 ?_ | refine TL.ap ty_et47 ?_
          intro A7 c7
          refine TL.nil ?_
          refine TQ.nxt (hX7 _ _ (by repeat (first | exact HasL.nil | refine HasL.cons (by repeat (first | exact Pick.hd | apply Pick.tl)) ?_)) ?_)
          refine RG.a1 14 rfl (fun X14 hX14 => ?_)
          refine TL.ob (b := x8) (sz := 1) (r := fun _ => []) (by repeat (first | exact Pick.hd | apply Pick.tl)) rfl ?_
          first | refine TL.a0 ty_et47 ?_ | refine TL.ap ty_et47 ?_
          intro A14 c14
          refine TL.nil ?_
          refine TQ.nxt (hX14 _ _ (by repeat (first | exact HasL.nil | refine HasL.cons (by repeat (first | exact Pick.hd | apply Pick.tl)) ?_)) ?_)
          refine RG.a1 21 rfl (fun X21 hX21 => ?_)
          refine TL.ob (b := x15) (sz := 1) (r := fun _ => []) (by repeat (first | exact Pick.hd | apply Pick.tl)) rfl ?_
          first | refine TL.a0 ty_et47 ?_ | refine TL.ap ty_et47 ?_
          intro A21 c21
          refine TL.nil ?_
          refine TQ.nxt (hX21 _ _ (by repeat (first | exact HasL.nil | refine HasL.cons (by repeat (first | exact Pick.hd | apply Pick.tl)) ?_)) ?_)
          refine RG.tk 22 rfl Pu.bd ?_
          refine RG.a1 23 rfl (fun X23 hX23 => ?_)
          refine TL.m Mk.bl ?_
          intro x23
          refine TL.nil ?_
          refine TQ.nxt (hX23 _ _ (by repeat (first | exact HasL.nil | refine HasL.cons (by repeat (first | exact Pick.hd | apply Pick.tl)) ?_)) ?_)
          refine RG.a1 24 rfl (fun X24 hX24 => ?_)
          first | refine TL.a0 ty_et27 ?_ | refine TL.ap ty_et27 ?_
          intro A24 c24
          refine TL.nil ?_
          refine TQ.nxt (hX24 _ _ (by repeat (first | exact HasL.nil | refine HasL.cons (by repeat (first | exact Pick.hd | apply Pick.tl)) ?_)) ?_)
          refine RG.tk 25 rfl Pu.as ?_
          exact RG.nil (TQ.sub (by repeat (first | exact trivial | refine ⟨rfl, ?_⟩ | refine ⟨trivial, ?_⟩)) (by repeat (first | exact KSub.nil | refine KSub.cons (by repeat (first | exact Pick.hd | apply Pick.tl)) ?_ | exact KSub.refl _ | exact KSub.drop (KSub.refl _))) (hE ⟨A24, c24, A7, c7, A14, c14, A21, c21⟩)) (by kernel_rfl)
      · refine TL.m Mk.bl ?_
        intro x15
        refine TL.nil ?_
        refine TQ.nxt (hX15 _ _ (by repeat (first | exact HasL.nil | refine HasL.cons (by repeat (first | exact Pick.hd | apply Pick.tl)) ?_)) ?_)
        refine RG.a2 7 8 rfl rfl (fun X7 hX7 => ?_) (fun X8 hX8 => ?_)
        · refine TL.ob (b := x1) (sz := 1) (r := fun _ => []) (by repeat (first | exact Pick.hd | apply Pick.tl)) rfl ?_
          first | refine TL.a0 ty_et47 ?_ | refine TL.ap ty_et47 ?_
          intro A7 c7
          refine TL.nil ?_
          refine TQ.nxt (hX7 _ _ (by repeat (first | exact HasL.nil | refine HasL.cons (by repeat (first | exact Pick.hd | apply Pick.tl)) ?_)) ?_)
          refine RG.a1 8 rfl (fun X8 hX8 => ?_)
          refine TL.m Mk.bl ?_
          intro x8
          refine TL.nil ?_
          refine TQ.nxt (hX8 _ _ (by repeat (first | exact HasL.nil | refine HasL.cons (by repeat (first | exact Pick.hd | apply Pick.tl)) ?_)) ?_)
          refine RG.a1 14 rfl (fun X14 hX14 => ?_)
          refine TL.ob (b := x8) (sz := 1) (r := fun _ => []) (by repeat (first | exact Pick.hd | apply Pick.tl)) rfl ?_
          first | refine TL.a0 ty_et47 ?_ | refine TL.ap ty_et47 ?_
          intro A14 c14
          refine TL.nil ?_
          refine TQ.nxt (hX14 _ _ (by repeat (first | exact HasL.nil | refine HasL.cons (by repeat (first | exact Pick.hd | apply Pick.tl)) ?_)) ?_)
          refine RG.a1 21 rfl (fun X21 hX21 => ?_)
          refine TL.ob (b := x15) (sz := 1) (r := fun _ => []) (by repeat (first | exact Pick.hd | apply Pick.tl)) rfl ?_
          first | refine TL.a0 ty_et47 ?_ | refine TL.ap ty_et47 ?_
          intro A21 c21
          refine TL.nil ?_
          refine TQ.nxt (hX21 _ _ (by repeat (first | exact HasL.nil | refine HasL.cons (by repeat (first | exact Pick.hd | apply Pick.tl)) ?_)) ?_)
          refine RG.tk 22 rfl Pu.bd ?_
          refine RG.a1 23 rfl (fun X23 hX23 => ?_)
          refine TL.m Mk.bl ?_
          intro x23
          refine TL.nil ?_
          refine TQ.nxt (hX23 _ _ (by repeat (first | exact HasL.nil | refine HasL.cons (by repeat (first | exact Pick.hd | apply Pick.tl)) ?_)) ?_)
          refine RG.a1 24 rfl (fun X24 hX24 => ?_)
          first | refine TL.a0 ty_et27 ?_ | refine TL.ap ty_et27 ?_
          intro A24 c24
          refine TL.nil ?_
          refine TQ.nxt (hX24 _ _ (by repeat (first | exact HasL.nil | refine HasL.cons (by repeat (first | exact Pick.hd | apply Pick.tl)) ?_)) ?_)
          refine RG.tk 25 rfl Pu.as ?_
          exact RG.nil (TQ.sub (by repeat (first | exact trivial | refine ⟨rfl, ?_⟩ | refine ⟨trivial, ?_⟩)) (by repeat (first | exact KSub.nil | refine KSub.cons (by repeat (first | exact Pick.hd | apply Pick.tl)) ?_ | exact KSub.refl _ | exact KSub.drop (KSub.refl _))) (hE ⟨A24, c24, A7, c7, A14, c14, A21, c21⟩)) (by kernel_rfl)
        · refine TL.m Mk.bl ?_
          intro x8
          refine TL.nil ?_
          refine TQ.nxt (hX8 _ _ (by repeat (first | exact HasL.nil | refine HasL.cons (by repeat (first | exact Pick.hd | apply Pick.tl)) ?_)) ?_)
          refine RG.a1 7 rfl (fun X7 hX7 => ?_)
          refine TL.ob (b := x1) (sz := 1) (r := fun _ => []) (by repeat (first | exact Pick.hd | apply Pick.tl)) rfl ?_
          first | refine TL.a0 ty_et47 ?_ | refine TL.ap ty_et47 ?_
          intro A7 c7
          refine TL.nil ?_
          refine TQ.nxt (hX7 _ _ (by repeat (first | exact HasL.nil | refine HasL.cons (by repeat (first | exact Pick.hd | apply Pick.tl)) ?_)) ?_)
          refine RG.a1 14 rfl (fun X14 hX14 => ?_)
          refine TL.ob (b := x8) (sz := 1) (r := fun _ => []) (by repeat (first | exact Pick.hd | apply Pick.tl)) rfl ?_
          first | refine TL.a0 ty_et47 ?_ | refine TL.ap ty_et47 ?_
          intro A14 c14
          refine TL.nil ?_
          refine TQ.nxt (hX14 _ _ (by repeat (first | exact HasL.nil | refine HasL.cons (by repeat (first | exact Pick.hd | apply Pick.tl)) ?_)) ?_)
          refine RG.a1 21 rfl (fun X21 hX21 => ?_)
          refine TL.ob (b := x15) (sz := 1) (r := fun _ => []) (by repeat (first | exact Pick.hd | apply Pick.tl)) rfl ?_
          first | refine TL.a0 ty_et47 ?_ | refine TL.ap ty_et47 ?_
          intro A21 c21
          refine TL.nil ?_
          refine TQ.nxt (hX21 _ _ (by repeat (first | exact HasL.nil | refine HasL.cons (by repeat (first | exact Pick.hd | apply Pick.tl)) ?_)) ?_)
          refine RG.tk 22 rfl Pu.bd ?_
          refine RG.a1 23 rfl (fun X23 hX23 => ?_)
          refine TL.m Mk.bl ?_
          intro x23
          refine TL.nil ?_
          refine TQ.nxt (hX23 _ _ (by repeat (first | exact HasL.nil | refine HasL.cons (by repeat (first | exact Pick.hd | apply Pick.tl)) ?_)) ?_)
          refine RG.a1 24 rfl (fun X24 hX24 => ?_)
          first | refine TL.a0 ty_et27 ?_ | refine TL.ap ty_et27 ?_
          intro A24 c24
          refine TL.nil ?_
          refine TQ.nxt (hX24 _ _ (by repeat (first | exact HasL.nil | refine HasL.cons (by repeat (first | exact Pick.hd | apply Pick.tl)) ?_)) ?_)
          refine RG.tk 25 rfl Pu.as ?_
          exact RG.nil (TQ.sub (by repeat (first | exact trivial | refine ⟨rfl, ?_⟩ | refine ⟨trivial, ?_⟩)) (by repeat (first | exact KSub.nil | refine KSub.cons (by repeat (first | exact Pick.hd | apply Pick.tl)) ?_ | exact KSub.refl _ | exact KSub.drop (KSub.refl _))) (hE ⟨A24, c24, A7, c7, A14, c14, A21, c21⟩)) (by kernel_rfl)
    · refine TL.m Mk.bl ?_
      intro x8
      refine TL.nil ?_
      refine TQ.nxt (hX8 _ _ (by repeat (first | exact HasL.nil | refine HasL.cons (by repeat (first | exact Pick.hd | apply Pick.tl)) ?_)) ?_)
      refine RG.a2 1 15 rfl rfl (fun X1 hX1 => ?_) (fun X15 hX15 => ?_)
      · refine TL.m Mk.bl ?_
        intro x1
        refine TL.nil ?_
        refine TQ.nxt (hX1 _ _ (by repeat (first | exact HasL.nil | refine HasL.cons (by repeat (first | exact Pick.hd | apply Pick.tl)) ?_)) ?_)
        refine RG.a2 7 15 rfl rfl (fun X7 hX7 => ?_) (fun X15 hX15 => ?_)
        · refine TL.ob (b := x1) (sz := 1) (r := fun _ => []) (by repeat (first | exact Pick.hd | apply Pick.tl)) rfl ?_
          first | refine TL.a0 ty_et47 ?_ | refine TL.ap ty_et47 ?_
          intro A7 c7
          refine TL.nil ?_
          refine TQ.nxt (hX7 _ _ (by repeat (first | exact HasL.nil | refine HasL.cons (by repeat (first | exact Pick.hd | apply Pick.tl)) ?_)) ?_)
          refine RG.a2 14 15 rfl rfl (fun X14 hX14 => ?_) (fun X15 hX15 => ?_)
          · refine TL.ob (b := x8) (sz := 1) (r := fun _ => []) (by repeat (first | exact Pick.hd | apply Pick.tl)) rfl ?_
            first | refine TL.a0 ty_et47 ?_ | refine TL.ap ty_et47 ?_
            intro A14 c14
            refine TL.nil ?_
            refine TQ.nxt (hX14 _ _ (by repeat (first | exact HasL.nil | refine HasL.cons (by repeat (first | exact Pick.hd | apply Pick.tl)) ?_)) ?_)
            refine RG.a1 15 rfl (fun X15 hX15 => ?_)
            refine TL.m Mk.bl ?_
            intro x15
            refine TL.nil ?_
            refine TQ.nxt (hX15 _ _ (by repeat (first | exact HasL.nil | refine HasL.cons (by repeat (first | exact Pick.hd | apply Pick.tl)) ?_)) ?_)
            refine RG.a1 21 rfl (fun X21 hX21 => ?_)
            refine TL.ob (b := x15) (sz := 1) (r := fun _ => []) (by repeat (first | exact Pick.hd | apply Pick.tl)) rfl ?_
            first | refine TL.a0 ty_et47 ?_ | refine TL.ap ty_et47 ?_
            intro A21 c21
            refine TL.nil ?_
            refine TQ.nxt (hX21 _ _ (by repeat (first | exact HasL.nil | refine HasL.cons (by repeat (first | exact Pick.hd | apply Pick.tl)) ?_)) ?_)
            refine RG.tk 22 rfl Pu.bd ?_
            refine RG.a1 23 rfl (fun X23 hX23 => ?_)
            refine TL.m Mk.bl ?_
            intro x23
            refine TL.nil ?_
            refine TQ.nxt (hX23 _ _ (by repeat (first | exact HasL.nil | refine HasL.cons (by repeat (first | exact Pick.hd | apply Pick.tl)) ?_)) ?_)
            refine RG.a1 24 rfl (fun X24 hX24 => ?_)
            first | refine TL.a0 ty_et27 ?_ | refine TL.ap ty_et27 ?_
            intro A24 c24
            refine TL.nil ?_
            refine TQ.nxt (hX24 _ _ (by repeat (first | exact HasL.nil | refine HasL.cons (by repeat (first | exact Pick.hd | apply Pick.tl)) ?_)) ?_)
            refine RG.tk 25 rfl Pu.as ?_
            exact RG.nil (TQ.sub (by repeat (first | exact trivial | refine ⟨rfl, ?_⟩ | refine ⟨trivial, ?_⟩)) (by repeat (first | exact KSub.nil | refine KSub.cons (by repeat (first | exact Pick.hd | apply Pick.tl)) ?_ | exact KSub.refl _ | exact KSub.drop (KSub.refl _))) (hE ⟨A24, c24, A7, c7, A14, c14, A21, c21⟩)) (by kernel_rfl)
          · refine TL.m Mk.bl ?_
            intro x15
            refine TL.nil ?_
            refine TQ.nxt (hX15 _ _ (by repeat (first | exact HasL.nil | refine HasL.cons (by repeat (first | exact Pick.hd | apply Pick.tl)) ?_)) ?_)
            refine RG.a1 14 rfl (fun X14 hX14 => ?_)
            refine TL.ob (b := x8) (sz := 1) (r := fun _ => []) (by repeat (first | exact Pick.hd | apply Pick.tl)) rfl ?_
            first | refine TL.a0 ty_et47 ?_ | refine TL.ap ty_et47 ?_
            intro A14 c14
            refine TL.nil ?_
            refine TQ.nxt (hX14 _ _ (by repeat (first | exact HasL.nil | refine HasL.cons (by repeat (first | exact Pick.hd | apply Pick.tl)) ?_)) ?_)
            refine RG.a1 21 rfl (fun X21 hX21 => ?_)
            refine TL.ob (b := x15) (sz := 1) (r := fun _ => []) (by repeat (first | exact Pick.hd | apply Pick.tl)) rfl ?_
            first | refine TL.a0 ty_et47 ?_ | refine TL.ap ty_et47 ?_
            intro A21 c21
            refine TL.nil ?_
            refine TQ.nxt (hX21 _ _ (by repeat (first | exact HasL.nil | refine HasL.cons (by repeat (first | exact Pick.hd | apply Pick.tl)) ?_)) ?_)
            refine RG.tk 22 rfl Pu.bd ?_
            refine RG.a1 23 rfl (fun X23 hX23 => ?_)
            refine TL.m Mk.bl ?_
            intro x23
            refine TL.nil ?_
            refine TQ.nxt (hX23 _ _ (by repeat (first | exact HasL.nil | refine HasL.cons (by repeat (first | exact Pick.hd | apply Pick.tl)) ?_)) ?_)
            refine RG.a1 24 rfl (fun X24 hX24 => ?_)
            first | refine TL.a0 ty_et27 ?_ | refine TL.ap ty_et27 ?_
            intro A24 c24
            refine TL.nil ?_
            refine TQ.nxt (hX24 _ _ (by repeat (first | exact HasL.nil | refine HasL.cons (by repeat (first | exact Pick.hd | apply Pick.tl)) ?_)) ?_)
            refine RG.tk 25 rfl Pu.as ?_
            exact RG.nil (TQ.sub (by repeat (first | exact trivial | refine ⟨rfl, ?_⟩ | refine ⟨trivial, ?_⟩)) (by repeat (first | exact KSub.nil | refine KSub.cons (by repeat (first | exact Pick.hd | apply Pick.tl)) ?_ | exact KSub.refl _ | exact KSub.drop (KSub.refl _))) (hE ⟨A24, c24, A7, c7, A14, c14, A21, c21⟩)) (by kernel_rfl)
        · refine TL.m Mk.bl ?_
          intro x15
          refine TL.nil ?_
          refine TQ.nxt (hX15 _ _ (by repeat (first | exact HasL.nil | refine HasL.cons (by repeat (first | exact Pick.hd | apply Pick.tl)) ?_)) ?_)
          refine RG.a1 7 rfl (fun X7 hX7 => ?_)
          refine TL.ob (b := x1) (sz := 1) (r := fun _ => []) (by repeat (first | exact Pick.hd | apply Pick.tl)) rfl ?_
          first | refine TL.a0 ty_et47 ?_ | refine TL.ap ty_et47 ?_
          intro A7 c7
          refine TL.nil ?_
          refine TQ.nxt (hX7 _ _ (by repeat (first | exact HasL.nil | refine HasL.cons (by repeat (first | exact Pick.hd | apply Pick.tl)) ?_)) ?_)
          refine RG.a1 14 rfl (fun X14 hX14 => ?_)
          refine TL.ob (b := x8) (sz := 1) (r := fun _ => []) (by repeat (first | exact Pick.hd | apply Pick.tl)) rfl ?_
          first | refine TL.a0 ty_et47 ?_ | refine TL.ap ty_et47 ?_
          intro A14 c14
          refine TL.nil ?_
          refine TQ.nxt (hX14 _ _ (by repeat (first | exact HasL.nil | refine HasL.cons (by repeat (first | exact Pick.hd | apply Pick.tl)) ?_)) ?_)
          refine RG.a1 21 rfl (fun X21 hX21 => ?_)
          refine TL.ob (b := x15) (sz := 1) (r := fun _ => []) (by repeat (first | exact Pick.hd | apply Pick.tl)) rfl ?_
          first | refine TL.a0 ty_et47 ?_ | refine TL.ap ty_et47 ?_
          intro A21 c21
          refine TL.nil ?_
          refine TQ.nxt (hX21 _ _ (by repeat (first | exact HasL.nil | refine HasL.cons (by repeat (first | exact Pick.hd | apply Pick.tl)) ?_)) ?_)
          refine RG.tk 22 rfl Pu.bd ?_
          refine RG.a1 23 rfl (fun X23 hX23 => ?_)
          refine TL.m Mk.bl ?_
          intro x23
          refine TL.nil ?_
          refine TQ.nxt (hX23 _ _ (by repeat (first | exact HasL.nil | refine HasL.cons (by repeat (first | exact Pick.hd | apply Pick.tl)) ?_)) ?_)
          refine RG.a1 24 rfl (fun X24 hX24 => ?_)
          first | refine TL.a0 ty_et27 ?_ | refine TL.ap ty_et27 ?_
          intro A24 c24
          refine TL.nil ?_
          refine TQ.nxt (hX24 _ _ (by repeat (first | exact HasL.nil | refine HasL.cons (by repeat (first | exact Pick.hd | apply Pick.tl)) ?_)) ?_)
          refine RG.tk 25 rfl Pu.as ?_
          exact RG.nil (TQ.sub (by repeat (first | exact trivial | refine ⟨rfl, ?_⟩ | refine ⟨trivial, ?_⟩)) (by repeat (first | exact KSub.nil | refine KSub.cons (by repeat (first | exact Pick.hd | apply Pick.tl)) ?_ | exact KSub.refl _ | exact KSub.drop (KSub.refl _))) (hE ⟨A24, c24, A7, c7, A14, c14, A21, c21⟩)) (by kernel_rfl)
      · refine TL.m Mk.bl ?_
        intro x15
        refine TL.nil ?_
        refine TQ.nxt (hX15 _ _ (by repeat (first | exact HasL.nil | refine HasL.cons (by repeat (first | exact Pick.hd | apply Pick.tl)) ?_)) ?_)
        refine RG.a1 1 rfl (fun X1 hX1 => ?_)
        refine TL.m Mk.bl ?_
        intro x1
        refine TL.nil ?_
        refine TQ.nxt (hX1 _ _ (by repeat (first | exact HasL.nil | refine HasL.cons (by repeat (first | exact Pick.hd | apply Pick.tl)) ?_)) ?_)
        refine RG.a1 7 rfl (fun X7 hX7 => ?_)
        refine TL.ob (b := x1) (sz := 1) (r := fun _ => []) (by repeat (first | exact Pick.hd | apply Pick.tl)) rfl ?_
        first | refine TL.a0 ty_et47 ?_ | refine TL.ap ty_et47 ?_
        intro A7 c7
        refine TL.nil ?_
        refine TQ.nxt (hX7 _ _ (by repeat (first | exact HasL.nil | refine HasL.cons (by repeat (first | exact Pick.hd | apply Pick.tl)) ?_)) ?_)
        refine RG.a1 14 rfl (fun X14 hX14 => ?_)
        refine TL.ob (b := x8) (sz := 1) (r := fun _ => []) (by repeat (first | exact Pick.hd | apply Pick.tl)) rfl ?_
        first | refine TL.a0 ty_et47 ?_ | refine TL.ap ty_et47 ?_
        intro A14 c14
        refine TL.nil ?_
        refine TQ.nxt (hX14 _ _ (by repeat (first | exact HasL.nil | refine HasL.cons (by repeat (first | exact Pick.hd | apply Pick.tl)) ?_)) ?_)
        refine RG.a1 21 rfl (fun X21 hX21 => ?_)
        refine TL.ob (b := x15) (sz := 1) (r := fun _ => []) (by repeat (first | exact Pick.hd | apply Pick.tl)) rfl ?_
        first | refine TL.a0 ty_et47 ?_ | refine TL.ap ty_et47 ?_
        intro A21 c21
        refine TL.nil ?_
        refine TQ.nxt (hX21 _ _ (by repeat (first | exact HasL.nil | refine HasL.cons (by repeat (first | exact Pick.hd | apply Pick.tl)) ?_)) ?_)
        refine RG.tk 22 rfl Pu.bd ?_
        refine RG.a1 23 rfl (fun X23 hX23 => ?_)
        refine TL.m Mk.bl ?_
        intro x23
        refine TL.nil ?_
        refine TQ.nxt (hX23 _ _ (by repeat (first | exact HasL.nil | refine HasL.cons (by repeat (first | exact Pick.hd | apply Pick.tl)) ?_)) ?_)
        refine RG.a1 24 rfl (fun X24 hX24 => ?_)
        first | refine TL.a0 ty_et27 ?_ | refine TL.ap ty_et27 ?_
        intro A24 c24
        refine TL.nil ?_
        refine TQ.nxt (hX24 _ _ (by repeat (first | exact HasL.nil | refine HasL.cons (by repeat (first | exact Pick.hd | apply Pick.tl)) ?_)) ?_)
        refine RG.tk 25 rfl Pu.as ?_
        exact RG.nil (TQ.sub (by repeat (first | exact trivial | refine ⟨rfl, ?_⟩ | refine ⟨trivial, ?_⟩)) (by repeat (first | exact KSub.nil | refine KSub.cons (by repeat (first | exact Pick.hd | apply Pick.tl)) ?_ | exact KSub.refl _ | exact KSub.drop (KSub.refl _))) (hE ⟨A24, c24, A7, c7, A14, c14, A21, c21⟩)) (by kernel_rfl)
    · refine TL.m Mk.bl ?_
      intro x15
      refine TL.nil ?_
      refine TQ.nxt (hX15 _ _ (by repeat (first | exact HasL.nil | refine HasL.cons (by repeat (first | exact Pick.hd | apply Pick.tl)) ?_)) ?_)
      refine RG.a2 1 8 rfl rfl (fun X1 hX1 => ?_) (fun X8 hX8 => ?_)
      · refine TL.m Mk.bl ?_
        intro x1
        refine TL.nil ?_
        refine TQ.nxt (hX1 _ _ (by repeat (first | exact HasL.nil | refine HasL.cons (by repeat (first | exact Pick.hd | apply Pick.tl)) ?_)) ?_)
        refine RG.a2 7 8 rfl rfl (fun X7 hX7 => ?_) (fun X8 hX8 => ?_)
        · refine TL.ob (b := x1) (sz := 1) (r := fun _ => []) (by repeat (first | exact Pick.hd | apply Pick.tl)) rfl ?_
          first | refine TL.a0 ty_et47 ?_ | refine TL.ap ty_et47 ?_
          intro A7 c7
          refine TL.nil ?_
          refine TQ.nxt (hX7 _ _ (by repeat (first | exact HasL.nil | refine HasL.cons (by repeat (first | exact Pick.hd | apply Pick.tl)) ?_)) ?_)
          refine RG.a1 8 rfl (fun X8 hX8 => ?_)
          refine TL.m Mk.bl ?_
          intro x8
          refine TL.nil ?_
          refine TQ.nxt (hX8 _ _ (by repeat (first | exact HasL.nil | refine HasL.cons (by repeat (first | exact Pick.hd | apply Pick.tl)) ?_)) ?_)
          refine RG.a1 14 rfl (fun X14 hX14 => ?_)
          refine TL.ob (b := x8) (sz := 1) (r := fun _ => []) (by repeat (first | exact Pick.hd | apply Pick.tl)) rfl ?_
          first | refine TL.a0 ty_et47 ?_ | refine TL.ap ty_et47 ?_
          intro A14 c14
          refine TL.nil ?_
          refine TQ.nxt (hX14 _ _ (by repeat (first | exact HasL.nil | refine HasL.cons (by repeat (first | exact Pick.hd | apply Pick.tl)) ?_)) ?_)
          refine RG.a1 21 rfl (fun X21 hX21 => ?_)
          refine TL.ob (b := x15) (sz := 1) (r := fun _ => []) (by repeat (first | exact Pick.hd | apply Pick.tl)) rfl ?_
          first | refine TL.a0 ty_et47 ?_ | refine TL.ap ty_et47 ?_
          intro A21 c21
          refine TL.nil ?_
          refine TQ.nxt (hX21 _ _ (by repeat (first | exact HasL.nil | refine HasL.cons (by repeat (first | exact Pick.hd | apply Pick.tl)) ?_)) ?_)
          refine RG.tk 22 rfl Pu.bd ?_
          refine RG.a1 23 rfl (fun X23 hX23 => ?_)
          refine TL.m Mk.bl ?_
          intro x23
          refine TL.nil ?_
          refine TQ.nxt (hX23 _ _ (by repeat (first | exact HasL.nil | refine HasL.cons (by repeat (first | exact Pick.hd | apply Pick.tl)) ?_)) ?_)
          refine RG.a1 24 rfl (fun X24 hX24 => ?_)
          first | refine TL.a0 ty_et27 ?_ | refine TL.ap ty_et27 ?_
          intro A24 c24
          refine TL.nil ?_
          refine TQ.nxt (hX24 _ _ (by repeat (first | exact HasL.nil | refine HasL.cons (by repeat (first | exact Pick.hd | apply Pick.tl)) ?_)) ?_)
          refine RG.tk 25 rfl Pu.as ?_
          exact RG.nil (TQ.sub (by repeat (first | exact trivial | refine ⟨rfl, ?_⟩ | refine ⟨trivial, ?_⟩)) (by repeat (first | exact KSub.nil | refine KSub.cons (by repeat (first | exact Pick.hd | apply Pick.tl)) ?_ | exact KSub.refl _ | exact KSub.drop (KSub.refl _))) (hE ⟨A24, c24, A7, c7, A14, c14, A21, c21⟩)) (by kernel_rfl)
        · refine TL.m Mk.bl ?_
          intro x8
          refine TL.nil ?_
          refine TQ.nxt (hX8 _ _ (by repeat (first | exact HasL.nil | refine HasL.cons (by repeat (first | exact Pick.hd | apply Pick.tl)) ?_)) ?_)
          refine RG.a1 7 rfl (fun X7 hX7 => ?_)
          refine TL.ob (b := x1) (sz := 1) (r := fun _ => []) (by repeat (first | exact Pick.hd | apply Pick.tl)) rfl ?_
          first | refine TL.a0 ty_et47 ?_ | refine TL.ap ty_et47 ?_
          intro A7 c7
          refine TL.nil ?_
          refine TQ.nxt (hX7 _ _ (by repeat (first | exact HasL.nil | refine HasL.cons (by repeat (first | exact Pick.hd | apply Pick.tl)) ?_)) ?_)
          refine RG.a1 14 rfl (fun X14 hX14 => ?_)
          refine TL.ob (b := x8) (sz := 1) (r := fun _ => []) (by repeat (first | exact Pick.hd | apply Pick.tl)) rfl ?_
          first | refine TL.a0 ty_et47 ?_ | refine TL.ap ty_et47 ?_
          intro A14 c14
          refine TL.nil ?_
          refine TQ.nxt (hX14 _ _ (by repeat (first | exact HasL.nil | refine HasL.cons (by repeat (first | exact Pick.hd | apply Pick.tl)) ?_)) ?_)
          refine RG.a1 21 rfl (fun X21 hX21 => ?_)
          refine TL.ob (b := x15) (sz := 1) (r := fun _ => []) (by repeat (first | exact Pick.hd | apply Pick.tl)) rfl ?_
          first | refine TL.a0 ty_et47 ?_ | refine TL.ap ty_et47 ?_
          intro A21 c21
          refine TL.nil ?_
          refine TQ.nxt (hX21 _ _ (by repeat (first | exact HasL.nil | refine HasL.cons (by repeat (first | exact Pick.hd | apply Pick.tl)) ?_)) ?_)
          refine RG.tk 22 rfl Pu.bd ?_
          refine RG.a1 23 rfl (fun X23 hX23 => ?_)
          refine TL.m Mk.bl ?_
          intro x23
          refine TL.nil ?_
          refine TQ.nxt (hX23 _ _ (by repeat (first | exact HasL.nil | refine HasL.cons (by repeat (first | exact Pick.hd | apply Pick.tl)) ?_)) ?_)
          refine RG.a1 24 rfl (fun X24 hX24 => ?_)
          first | refine TL.a0 ty_et27 ?_ | refine TL.ap ty_et27 ?_
          intro A24 c24
          refine TL.nil ?_
          refine TQ.nxt (hX24 _ _ (by repeat (first | exact HasL.nil | refine HasL.cons (by repeat (first | exact Pick.hd | apply Pick.tl)) ?_)) ?_)
          refine RG.tk 25 rfl Pu.as ?_
          exact RG.nil (TQ.sub (by repeat (first | exact trivial | refine ⟨rfl, ?_⟩ | refine ⟨trivial, ?_⟩)) (by repeat (first | exact KSub.nil | refine KSub.cons (by repeat (first | exact Pick.hd | apply Pick.tl)) ?_ | exact KSub.refl _ | exact KSub.drop (KSub.refl _))) (hE ⟨A24, c24, A7, c7, A14, c14, A21, c21⟩)) (by kernel_rfl)
      · refine TL.m Mk.bl ?_
        intro x8
        refine TL.nil ?_
        refine TQ.nxt (hX8 _ _ (by repeat (first | exact HasL.nil | refine HasL.cons (by repeat (first | exact Pick.hd | apply Pick.tl)) ?_)) ?_)
        refine RG.a1 1 rfl (fun X1 hX1 => ?_)
        refine TL.m Mk.bl ?_
        intro x1
        refine TL.nil ?_
        refine TQ.nxt (hX1 _ _ (by repeat (first | exact HasL.nil | refine HasL.cons (by repeat (first | exact Pick.hd | apply Pick.tl)) ?_)) ?_)
        refine RG.a1 7 rfl (fun X7 hX7 => ?_)
        refine TL.ob (b := x1) (sz := 1) (r := fun _ => []) (by repeat (first | exact Pick.hd | apply Pick.tl)) rfl ?_
        first | refine TL.a0 ty_et47 ?_ | refine TL.ap ty_et47 ?_
        intro A7 c7
        refine TL.nil ?_
        refine TQ.nxt (hX7 _ _ (by repeat (first | exact HasL.nil | refine HasL.cons (by repeat (first | exact Pick.hd | apply Pick.tl)) ?_)) ?_)
        refine RG.a1 14 rfl (fun X14 hX14 => ?_)
        refine TL.ob (b := x8) (sz := 1) (r := fun _ => []) (by repeat (first | exact Pick.hd | apply Pick.tl)) rfl ?_
        first | refine TL.a0 ty_et47 ?_ | refine TL.ap ty_et47 ?_
        intro A14 c14
        refine TL.nil ?_
        refine TQ.nxt (hX14 _ _ (by repeat (first | exact HasL.nil | refine HasL.cons (by repeat (first | exact Pick.hd | apply Pick.tl)) ?_)) ?_)
        refine RG.a1 21 rfl (fun X21 hX21 => ?_)
        refine TL.ob (b := x15) (sz := 1) (r := fun _ => []) (by repeat (first | exact Pick.hd | apply Pick.tl)) rfl ?_
        first | refine TL.a0 ty_et47 ?_ | refine TL.ap ty_et47 ?_
        intro A21 c21
        refine TL.nil ?_
        refine TQ.nxt (hX21 _ _ (by repeat (first | exact HasL.nil | refine HasL.cons (by repeat (first | exact Pick.hd | apply Pick.tl)) ?_)) ?_)
        refine RG.tk 22 rfl Pu.bd ?_
        refine RG.a1 23 rfl (fun X23 hX23 => ?_)
        refine TL.m Mk.bl ?_
        intro x23
        refine TL.nil ?_
        refine TQ.nxt (hX23 _ _ (by repeat (first | exact HasL.nil | refine HasL.cons (by repeat (first | exact Pick.hd | apply Pick.tl)) ?_)) ?_)
        refine RG.a1 24 rfl (fun X24 hX24 => ?_)
        first | refine TL.a0 ty_et27 ?_ | refine TL.ap ty_et27 ?_
        intro A24 c24
        refine TL.nil ?_
        refine TQ.nxt (hX24 _ _ (by repeat (first | exact HasL.nil | refine HasL.cons (by repeat (first | exact Pick.hd | apply Pick.tl)) ?_)) ?_)
        refine RG.tk 25 rfl Pu.as ?_
        exact RG.nil (TQ.sub (by repeat (first | exact trivial | refine ⟨rfl, ?_⟩ | refine ⟨trivial, ?_⟩)) (by repeat (first | exact KSub.nil | refine KSub.cons (by repeat (first | exact Pick.hd | apply Pick.tl)) ?_ | exact KSub.refl _ | exact KSub.drop (KSub.refl _))) (hE ⟨A24, c24, A7, c7, A14, c14, A21, c21⟩)) (by kernel_rfl)
  · try simp only [decide_eq_true_eq, decide_eq_false_iff_not, Bool.not_eq_true', Bool.not_eq_false', Bool.and_eq_true, Bool.or_eq_true, Bool.and_eq_false_iff, Bool.or_eq_false_iff, Int.not_lt, Int.not_le] at hc0
    obtain rfl : m = q := by omega
    refine TW.exit ?_
    refine TQ.thenX ?_
    refine TQ.thenX ?_
    refine TQ.blkX ?_
    refine TQ.thenN (hY3 _ _ ?_)
    refine TW.seq fun Y8 hY8 => ?_
    refine TW.region ?_
    refine TL.p Pu.mv ?_
    refine TL.p Pu.as ?_
    refine TL.nil ?_
    refine TQ.thenN (hY8 _ _ ?_)
    refine TW.ret ?_
    refine TQ.ret Tryd.results7 rfl ((.tmp rfl .nil)) ?_
    exact fun w hw => ⟨((Ao, co), b, d), rfl, hw⟩
end Go.Proofs.YtagcnokaajinlaaDoor
