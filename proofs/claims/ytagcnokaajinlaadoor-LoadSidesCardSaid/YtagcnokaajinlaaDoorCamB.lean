/-
  camel: how fit an animal is, and what it can carry.
-/
import Derived.Test.YtagcnokaajinlaaDoorCamA
namespace Go.Proofs.YtagcnokaajinlaaDoor
set_option linter.all false
set_option linter.unusedVariables false
set_option linter.unusedSimpArgs false
open Go.RowKit
def upD (a b : Int) : Int := (a + b - 1) / b
def prodT (t : Nat → Int) (x : Int) : Nat → Int
  | 0 => x
  | k + 1 => prodT t x k * t k
theorem ceil_any (a b : Int) (w : World) (ha : 0 ≤ a) (ha2 : a ≤ 1000000000000000) (hb : 0 < b) (hb2 : b ≤ 1000000000000) : Calls Tryd.prog 95 #[.int .i64 a, .int .i64 b] w (Ret w (.int .i64 (upD a b))) := by
  refine K_enter (S := []) (K := []) Tryd.func95 rfl Tryd.ntmps95 rfl (Sat.start _) ?_
  refine TW.seq fun Y1 hY1 => ?_
  refine TW.region ?_
  refine TL.p Pu.as ?_
  refine TL.nil ?_
  refine TQ.thenN (hY1 _ _ ?_)
  refine TW.seq fun Y2 hY2 => ?_
  refine TW.region ?_
  refine TL.p Pu.mv ?_
  refine TL.p Pu.mv ?_
  refine TL.p Pu.ad ?_
  refine TL.p Pu.sb ?_
  refine TL.p Pu.mv ?_
  refine TL.p Pu.qu ?_
  refine TL.p Pu.as ?_
  refine TL.nil ?_
  refine TQ.thenN (hY2 _ _ ?_)
  refine TW.ret ?_
  refine TQ.ret Tryd.results95 rfl ((.tmp rfl .nil)) ?_
  exact fun w hw => Ret.of hw
theorem camRest_any (n x y : Int) (w : World) (hn : 0 ≤ n ∧ n ≤ 1000000000000) (hx : 0 ≤ x ∧ x ≤ 1000000000000) (hy : 0 ≤ y ∧ y ≤ 1000000000000) : Calls Tryd.prog 103 #[.int .i64 n, .agg (spL x y).toArray] w (Ret w (.agg #[.int .i64 (n - y), .int .i64 (n - x)])) := by
  refine K_enter (S := []) (K := []) Tryd.func103 rfl Tryd.ntmps103 rfl (Sat.start _) ?_
  refine TW.seq fun Y1 hY1 => ?_
  refine TW.region ?_
  refine TL.m Mk.bx ?_
  intro b1
  refine TL.m (Mk.al ty_zr23) ?_
  intro b2
  refine TL.nil ?_
  refine TQ.thenN (hY1 _ _ ?_)
  refine TW.seq fun Y2 hY2 => ?_
  refine TW.region ?_
  refine TL.p Pu.mv ?_
  refine TL.p (by first | exact Pu.fb ty_fa23_1 | exact Pu.fe ty_fa23_1) ?_
  refine TL.p (Pu.ld ty_sc3) ?_
  refine TL.p Pu.sb ?_
  refine TL.p Pu.mv ?_
  refine TL.p (by first | exact Pu.fb ty_fa23_0 | exact Pu.fe ty_fa23_0) ?_
  refine TL.p (Pu.ld ty_sc3) ?_
  refine TL.p Pu.sb ?_
  refine TL.p Pu.bd ?_
  first | refine TL.st ty_sz23 ?_ | refine TL.se ty_sz23 ?_
  refine TL.nil ?_
  refine TQ.thenN (hY2 _ _ ?_)
  refine TW.ret ?_
  refine TQ.ret Tryd.results103 rfl ((RV.cs ty_ag23 .nil)) ?_
  exact fun w hw => Ret.of hw
theorem scaled_any {T : Option Addr} {n cp : Nat} {t : Nat → Int} (x y b : Int) (w : World) (hR : RdR w 1 T n (fun k => [.int .i64 (t k)])) (hn : n ≤ 1000) (hx : ∀ k, k ≤ n → 0 ≤ prodT t x k ∧ prodT t x k ≤ 1000000000000000) (hy : ∀ k, k ≤ n → 0 ≤ prodT t y k ∧ prodT t y k ≤ 1000000000000000) (hb : 0 < b ∧ b ≤ 1000000000000) :
    Calls Tryd.prog 102 #[.agg (spL x y).toArray, .int .i64 b, .slice T n cp] w (Ret w (.agg #[.int .i64 (prodT t x n / b), .int .i64 (upD (prodT t y n) b)])) := by
  have hxn := hx n (Nat.le_refl _)
  have hyn := hy n (Nat.le_refl _)
  refine K_enter (S := []) (K := []) Tryd.func102 rfl Tryd.ntmps102 rfl (Sat.start _) ?_
  refine TW.seq fun Y1 hY1 => ?_
  refine TW.region ?_
  refine TL.m Mk.bx ?_
  intro b1
  refine TL.m (Mk.al ty_zr23) ?_
  intro b2
  refine TL.nil ?_
  refine TQ.thenN (hY1 _ _ ?_)
  refine TW.seq fun Y2 hY2 => ?_
  refine TW.seq fun Y3 hY3 => ?_
  refine TW.region ?_
  refine TL.p Pu.mv ?_
  refine TL.p (Pu.ln Tryd.underlying47) ?_
  refine TL.p Pu.mv ?_
  refine TL.nil ?_
  refine TQ.thenN (hY3 _ _ ?_)
  refine TW.block ?_
  refine TW.loop1 (fun (k : Nat) => [(11, .int .i64 (k : Int)), (10, .int .i64 (n : Int)), (9, .slice T n cp), (3, .pointer (some ⟨b1, 0, none⟩)), (6, .pointer (some ⟨b2, 0, none⟩)), (1, .int .i64 b)]) (fun k => [.blk b1 23 (spL (prodT t x k) (prodT t y k)), .blk b2 23 (spL 0 0)]) (fun k => k ≤ n) (fun k => n - k) 0 (by repeat (first | exact trivial | refine ⟨rfl, ?_⟩ | refine ⟨trivial, ?_⟩)) ?_ ?_ ?_
  · exact (by repeat (first | exact KSub.nil | refine KSub.cons (by repeat (first | exact Pick.hd | apply Pick.tl)) ?_))
  · exact Nat.zero_le _
  rintro k hk Z0 hZ0
  refine TW.seq fun Y4 hY4 => ?_
  refine TW.region ?_
  refine TL.p Pu.lt ?_
  refine TL.nil ?_
  refine TQ.thenN (hY4 _ _ ?_)
  refine TW.seq fun Y5 hY5 => ?_
  refine TW.cond rfl (fun hc0 => ?_) (fun hc0 => ?_)
  · try simp only [decide_eq_true_eq, decide_eq_false_iff_not, Bool.not_eq_true', Bool.not_eq_false', Bool.and_eq_true, Bool.or_eq_true, Bool.and_eq_false_iff, Bool.or_eq_false_iff, Int.not_lt, Int.not_le] at hc0
    have hkn : k < n := by omega
    have hxk := hx (k + 1) (by omega)
    have hyk := hy (k + 1) (by omega)
    simp only [prodT] at hxk hyk
    refine TW.skip ?_
    refine TQ.thenN (hY5 _ _ ?_)
    refine TW.seq fun Y6 hY6 => ?_
    refine TW.block ?_
    refine TW.seq fun Y7 hY7 => ?_
    refine TW.region ?_
    refine TL.p (Pu.el ty_et47) ?_
    refine TL.p (Pu.ld ty_sc3) ?_
    refine TL.p Pu.as ?_
    refine TL.nil ?_
    refine TQ.thenN (hY7 _ _ ?_)
    refine TW.region ?_
    refine TL.p (by first | exact Pu.fb ty_fa23_0 | exact Pu.fe ty_fa23_0) ?_
    refine TL.p (Pu.ld ty_sc3) ?_
    refine TL.p Pu.mv ?_
    refine TL.p Pu.ml ?_
    refine TL.p (by first | exact Pu.fb ty_fa23_1 | exact Pu.fe ty_fa23_1) ?_
    refine TL.p (Pu.ld ty_sc3) ?_
    refine TL.p Pu.mv ?_
    refine TL.p Pu.ml ?_
    refine TL.p (by first | exact Pu.fb ty_fa23_0 | exact Pu.fe ty_fa23_0) ?_
    first | refine TL.st ty_sz3 ?_ | refine TL.se ty_sz3 ?_
    refine TL.p (by first | exact Pu.fb ty_fa23_1 | exact Pu.fe ty_fa23_1) ?_
    first | refine TL.st ty_sz3 ?_ | refine TL.se ty_sz3 ?_
    refine TL.nil ?_
    refine TQ.blkN ?_
    refine TQ.thenN (hY6 _ _ ?_)
    refine TW.region ?_
    refine TL.p Pu.ad ?_
    refine TL.p Pu.mv ?_
    refine TL.nil ?_
    refine TQ.thenN (hZ0 (k + 1) _ _ ?_ ?_ (by repeat (first | exact trivial | refine ⟨rfl, ?_⟩ | refine ⟨trivial, ?_⟩)) ?_)
    · exact (by omega)
    · exact (by first | omega | (simp only []; omega) | (simp; omega))
    · exact (by repeat (first | exact KSub.nil | refine KSub.cons (by repeat (first | exact Pick.hd | apply Pick.tl)) ?_))
  · try simp only [decide_eq_true_eq, decide_eq_false_iff_not, Bool.not_eq_true', Bool.not_eq_false', Bool.and_eq_true, Bool.or_eq_true, Bool.and_eq_false_iff, Bool.or_eq_false_iff, Int.not_lt, Int.not_le] at hc0
    obtain rfl : k = n := by omega
    refine TW.exit ?_
    refine TQ.thenX ?_
    refine TQ.thenX ?_
    refine TQ.blkX ?_
    refine TQ.thenN (hY2 _ _ ?_)
    refine TW.seq fun Y8 hY8 => ?_
    refine TW.dw 9 ?_
    refine RK.tk (by first | exact Pu.fb ty_fa23_0 | exact Pu.fe ty_fa23_0) ?_
    refine RK.tk (Pu.ld ty_sc3) ?_
    refine RK.tk Pu.mv ?_
    refine RK.tk Pu.qu ?_
    refine RK.tk (by first | exact Pu.fb ty_fa23_1 | exact Pu.fe ty_fa23_1) ?_
    refine RK.tk (Pu.ld ty_sc3) ?_
    refine RK.tk Pu.mv ?_
    refine RK.keep ?_
    refine RK.keep ?_
    refine RK.ch [false, true] ?_ trivial
    refine WK.cr rfl (enters Tryd.func95 rfl rfl) (fun w hw => by
        exact ceil_any _ _ _ (by omega) (by omega) (by omega) (by omega)) ?_
    refine WK.p Pu.bd ?_
    refine WK.n ?_
    first | refine TL.st ty_sz23 ?_ | refine TL.se ty_sz23 ?_
    refine TL.nil ?_
    refine TQ.thenN (hY8 _ _ ?_)
    refine TW.ret ?_
    refine TQ.ret Tryd.results102 rfl ((RV.cs ty_ag23 .nil)) ?_
    exact fun w hw => Ret.of hw
/-- A span times 2000, divided. -/
theorem scaled2_any {b1 E : Nat} (x y b : Int) (w : World) (hB : Blk w b1 E #[.int .i64 2, .int .i64 1000]) (hx : 0 ≤ x ∧ x ≤ 1000000) (hy : 0 ≤ y ∧ y ≤ 1000000) (hb : 0 < b ∧ b ≤ 1000000000000) :
    Calls Tryd.prog 102 #[.agg (spL x y).toArray, .int .i64 b, .slice (some ⟨b1, 0, none⟩) 2 2] w (Ret w (.agg #[.int .i64 (2000 * x / b), .int .i64 (upD (2000 * y) b)])) := by
  have e : ∀ x : Int, prodT (fun k => if k = 0 then 2 else 1000) x 2 = 2000 * x := fun x => by
    simp only [prodT]
    simp
    omega
  have hq : ∀ x : Int, 0 ≤ x ∧ x ≤ 1000000 → ∀ k, k ≤ 2 → 0 ≤ prodT (fun k => if k = 0 then 2 else 1000) x k ∧ prodT (fun k => if k = 0 then 2 else 1000) x k ≤ 1000000000000000 := fun x hx k hk => by
    have : k = 0 ∨ k = 1 ∨ k = 2 := by omega
    rcases this with rfl | rfl | rfl
    · simp only [prodT]; omega
    · simp only [prodT]; simp; omega
    · rw [e]; omega
  have := scaled_any (n := 2) (cp := 2) (t := fun k => if k = 0 then 2 else 1000) x y b w (RdR.blk (cs := [.int .i64 2, .int .i64 1000]) hB rfl (fun _ _ => rfl)) (by omega) (hq x hx) (hq y hy) hb
  rw [e, e] at this
  exact this
theorem breedOk_iff (f : Nat → Int) : breedOk f = true ↔ (1 ≤ f 0 ∧ f 0 ≤ 1000000) ∧ (1 ≤ f 1 ∧ f 1 ≤ 1000000) ∧ (0 ≤ f 2 ∧ f 2 ≤ f 3 ∧ f 3 ≤ 100000) ∧ (0 ≤ f 4 ∧ f 4 ≤ f 5 ∧ f 5 ≤ 100000) ∧ (0 ≤ f 6 ∧ f 6 ≤ f 7 ∧ f 7 ≤ 100000) ∧ (0 ≤ f 8 ∧ f 8 ≤ f 9 ∧ f 9 ≤ 100000) ∧ (0 ≤ f 10 ∧ f 10 ≤ f 11 ∧ f 11 ≤ 100000) ∧ (0 ≤ f 12 ∧ f 12 ≤ f 13 ∧ f 13 ≤ 100000) ∧ (0 ≤ f 15 ∧ f 15 ≤ f 16 ∧ f 16 ≤ 1000000) ∧ 0 ≤ f 14 ∧ f 14 ≤ 1000 := by
  unfold breedOk ordB5 inB5
  simp only [Bool.and_eq_true, decide_eq_true_eq]
  omega
theorem camOk_iff (f g : Nat → Int) : camOk f g = true ↔ (0 ≤ g 0 ∧ g 0 ≤ g 1 ∧ g 1 ≤ f 0) ∧ (0 ≤ g 2 ∧ g 2 ≤ g 3 ∧ g 3 ≤ f 1) ∧ (0 ≤ g 4 ∧ g 4 ≤ g 5 ∧ g 5 ≤ 1000) := by
  unfold camOk ordB5
  simp only [Bool.and_eq_true, decide_eq_true_eq]
  omega
def minK (c : Int) (x : Nat → Int) : Nat → Int
  | 0 => c
  | k + 1 => min (minK c x k) (x k)
def fitLo (f g : Nat → Int) : Int := min (min (min 1000 (2000 * g 0 / f 0)) (2000 * g 2 / f 1)) (1000 - g 5)
def fitHi (f g : Nat → Int) : Int := min (min (min 1000 (upD (2000 * g 1) (f 0))) (upD (2000 * g 3) (f 1))) (1000 - g 4)
def spans3 (x y : Nat → Int) : List Value := [.int .i64 (x 0), .int .i64 (y 0), .int .i64 (x 1), .int .i64 (y 1), .int .i64 (x 2), .int .i64 (y 2)]
set_option maxRecDepth 100000 in
theorem index_sp3 (x y : Nat → Int) (j : Nat) (hj : j < 3) (w : World) : (Instr.index 141 (.agg (spans3 x y).toArray) (.int .i64 (j : Int))).run Tryd.prog w = .ok (.agg #[.int .i64 (x j), .int .i64 (y j)]) w := by
  have h : j = 0 ∨ j = 1 ∨ j = 2 := by omega
  rcases h with rfl | rfl | rfl
  · unfold spans3; go_simp; rfl
  · unfold spans3; go_simp; rfl
  · unfold spans3; go_simp; rfl
def fitX (f g : Nat → Int) : Nat → Int
  | 0 => 2000 * g 0 / f 0
  | 1 => 2000 * g 2 / f 1
  | _ => 1000 - g 5
def fitY (f g : Nat → Int) : Nat → Int
  | 0 => upD (2000 * g 1) (f 0)
  | 1 => upD (2000 * g 3) (f 1)
  | _ => 1000 - g 4
theorem fit_minK (f g : Nat → Int) : minK 1000 (fitX f g) 3 = fitLo f g ∧ minK 1000 (fitY f g) 3 = fitHi f g := ⟨rfl, rfl⟩
def beastL (f g : Nat → Int) (m : Bool) : List Value := breedL f ++ camL g m
set_option maxRecDepth 100000 in
set_option maxHeartbeats 1000000 in
theorem fitness_any (f g : Nat → Int) (m : Bool) (w : World) (hf : breedOk f = true) (hg : camOk f g = true) :
    Calls Tryd.prog 94 #[.agg (beastL f g m).toArray] w (Ret w (.agg #[.int .i64 (fitLo f g), .int .i64 (fitHi f g)])) := by
  have h1 := (breedOk_iff f).1 hf
  have h2 := (camOk_iff f g).1 hg
  unfold beastL breedL camL
  refine K_enter (S := []) (K := []) Tryd.func94 rfl Tryd.ntmps94 rfl (Sat.start _) ?_
  refine TW.seq fun Y1 hY1 => ?_
  refine TW.region ?_
  refine TL.m Mk.bx ?_
  intro b1
  refine TL.m (Mk.al ty_zr23) ?_
  intro b2
  refine TL.nil ?_
  refine TQ.thenN (hY1 _ _ ?_)
  refine TW.seq fun Y2 hY2 => ?_
  refine TW.region ?_
  refine TL.p Pu.bd ?_
  refine TL.m (Mk.al ty_zr23) ?_
  intro b3
  first | refine TL.st ty_sz23 ?_ | refine TL.se ty_sz23 ?_
  refine TL.nil ?_
  refine TQ.thenN (hY2 _ _ ?_)
  refine TW.seq fun Y3 hY3 => ?_
  refine TW.seq fun Y4 hY4 => ?_
  refine TW.expl (fun (x6 : Nat) => ([(28, .int .i64 0), (27, .agg (spans3 (fitX f g) (fitY f g)).toArray), (3, .pointer (some ⟨b3, 0, none⟩)), (2, .pointer (some ⟨b2, 0, none⟩))] : Fr)) (fun (x6 : Nat) => [.blk b3 23 (spL 1000 1000), .blk b2 23 (spL 0 0)]) Drop.done ?_ (fun hE => ?_)
  · rintro x6
    refine TQ.thenN (hY4 _ _ ?_)
    refine TW.block ?_
    refine TW.loop1 (fun (k : Nat) => [(28, .int .i64 (k : Int)), (27, .agg (spans3 (fitX f g) (fitY f g)).toArray), (3, .pointer (some ⟨b3, 0, none⟩)), (2, .pointer (some ⟨b2, 0, none⟩))]) (fun k => [.blk b3 23 (spL (minK 1000 (fitX f g) k) (minK 1000 (fitY f g) k)), .blk b2 23 (spL 0 0)]) (fun k => k ≤ 3) (fun k => 3 - k) 0 (by repeat (first | exact trivial | refine ⟨rfl, ?_⟩ | refine ⟨trivial, ?_⟩)) ?_ ?_ ?_
    · exact (by repeat (first | exact KSub.nil | refine KSub.cons (by repeat (first | exact Pick.hd | apply Pick.tl)) ?_))
    · exact Nat.zero_le _
    rintro k hk Z0 hZ0
    refine TW.seq fun Y5 hY5 => ?_
    refine TW.region ?_
    refine TL.p Pu.lt ?_
    refine TL.nil ?_
    refine TQ.thenN (hY5 _ _ ?_)
    refine TW.seq fun Y6 hY6 => ?_
    refine TW.cond rfl (fun hc0 => ?_) (fun hc0 => ?_)
    · try simp only [decide_eq_true_eq, decide_eq_false_iff_not, Bool.not_eq_true', Bool.not_eq_false', Bool.and_eq_true, Bool.or_eq_true, Bool.and_eq_false_iff, Bool.or_eq_false_iff, Int.not_lt, Int.not_le] at hc0
      refine TW.skip ?_
      refine TQ.thenN (hY6 _ _ ?_)
      refine TW.seq fun Y7 hY7 => ?_
      refine TW.block ?_
      refine TW.seq fun Y8 hY8 => ?_
      refine TW.region ?_
      refine TL.p (Pu.ix rfl rfl (fun w => index_sp3 _ _ k (by omega) w)) ?_
      refine TL.m (Mk.al ty_zr23) ?_
      intro b4
      first | refine TL.st ty_sz23 ?_ | refine TL.se ty_sz23 ?_
      refine TL.nil ?_
      refine TQ.thenN (hY8 _ _ ?_)
      refine TW.region ?_
      refine TL.p (by first | exact Pu.fb ty_fa23_0 | exact Pu.fe ty_fa23_0) ?_
      refine TL.p (Pu.ld ty_sc3) ?_
      refine TL.p (by first | exact Pu.fb ty_fa23_0 | exact Pu.fe ty_fa23_0) ?_
      refine TL.p (Pu.ld ty_sc3) ?_
      refine TL.p Pu.mn ?_
      refine TL.p (by first | exact Pu.fb ty_fa23_1 | exact Pu.fe ty_fa23_1) ?_
      refine TL.p (Pu.ld ty_sc3) ?_
      refine TL.p (by first | exact Pu.fb ty_fa23_1 | exact Pu.fe ty_fa23_1) ?_
      refine TL.p (Pu.ld ty_sc3) ?_
      refine TL.p Pu.mn ?_
      refine TL.p Pu.bd ?_
      first | refine TL.st ty_sz23 ?_ | refine TL.se ty_sz23 ?_
      refine TL.nil ?_
      refine TQ.blkN ?_
      refine TQ.thenN (hY7 _ _ ?_)
      refine TW.region ?_
      refine TL.p Pu.ad ?_
      refine TL.p Pu.mv ?_
      refine TL.nil ?_
      refine TQ.thenN (hZ0 (k + 1) _ _ ?_ ?_ (by repeat (first | exact trivial | refine ⟨rfl, ?_⟩ | refine ⟨trivial, ?_⟩)) ?_)
      · exact (by omega)
      · exact (by first | omega | (simp only []; omega) | (simp; omega))
      · exact (by repeat (first | exact KSub.nil | refine KSub.cons (by repeat (first | exact Pick.hd | apply Pick.tl)) ?_))
    · try simp only [decide_eq_true_eq, decide_eq_false_iff_not, Bool.not_eq_true', Bool.not_eq_false', Bool.and_eq_true, Bool.or_eq_true, Bool.and_eq_false_iff, Bool.or_eq_false_iff, Int.not_lt, Int.not_le] at hc0
      obtain rfl : k = 3 := by omega
      refine TW.exit ?_
      refine TQ.thenX ?_
      refine TQ.thenX ?_
      refine TQ.blkX ?_
      refine TQ.thenN (hY3 _ _ ?_)
      refine TW.seq fun Y9 hY9 => ?_
      refine TW.region ?_
      refine TL.p (Pu.lds ty_ag23) ?_
      first | refine TL.st ty_sz23 ?_ | refine TL.se ty_sz23 ?_
      refine TL.nil ?_
      refine TQ.thenN (hY9 _ _ ?_)
      refine TW.ret ?_
      refine TQ.ret Tryd.results94 rfl ((RV.cs ty_ag23 .nil)) ?_
      exact fun w hw => Ret.of hw
  refine RG.tk 0 rfl (by first | exact Pu.fb ty_fa124_1 | exact Pu.fe ty_fa124_1) ?_
  refine RG.tk 1 rfl (by first | exact Pu.fb ty_fa57_0 | exact Pu.fe ty_fa57_0) ?_
  refine RG.tk 2 rfl (Pu.lds ty_ag23) ?_
  refine RG.tk 3 rfl (by first | exact Pu.fb ty_fa124_0 | exact Pu.fe ty_fa124_0) ?_
  refine RG.tk 4 rfl (by first | exact Pu.fb ty_fa55_0 | exact Pu.fe ty_fa55_0) ?_
  refine RG.tk 5 rfl (Pu.ld ty_sc3) ?_
  refine RG.tk 8 rfl (by first | exact Pu.fb ty_fa124_1 | exact Pu.fe ty_fa124_1) ?_
  refine RG.tk 9 rfl (by first | exact Pu.fb ty_fa57_1 | exact Pu.fe ty_fa57_1) ?_
  refine RG.tk 10 rfl (Pu.lds ty_ag23) ?_
  refine RG.tk 11 rfl (by first | exact Pu.fb ty_fa124_0 | exact Pu.fe ty_fa124_0) ?_
  refine RG.tk 12 rfl (by first | exact Pu.fb ty_fa55_1 | exact Pu.fe ty_fa55_1) ?_
  refine RG.tk 13 rfl (Pu.ld ty_sc3) ?_
  refine RG.tk 16 rfl (by first | exact Pu.fb ty_fa124_1 | exact Pu.fe ty_fa124_1) ?_
  refine RG.tk 17 rfl (by first | exact Pu.fb ty_fa57_2 | exact Pu.fe ty_fa57_2) ?_
  refine RG.tk 18 rfl (Pu.lds ty_ag23) ?_
  refine RG.tk 21 rfl Pu.mv ?_
  refine RG.a2 6 14 rfl rfl (fun X6 hX6 => ?_) (fun X14 hX14 => ?_)
  · refine TL.m Mk.bl ?_
    intro x6
    refine TL.nil ?_
    refine TQ.nxt (hX6 _ _ (by repeat (first | exact HasL.nil | refine HasL.cons (by repeat (first | exact Pick.hd | apply Pick.tl)) ?_)) ?_)
    refine RG.a2 7 14 rfl rfl (fun X7 hX7 => ?_) (fun X14 hX14 => ?_)
    · refine TL.cr rfl (enters Tryd.func102 rfl rfl) (fun w hw => by
          exact scaled2_any _ _ _ _ (hw.holds (.blk x6 3 [.int .i64 2, .int .i64 1000]) (by simp)) (by omega) (by omega) (by omega)) ?_
      refine TL.nil ?_
      refine TQ.nxt (hX7 _ _ (by repeat (first | exact HasL.nil | refine HasL.cons (by repeat (first | exact Pick.hd | apply Pick.tl)) ?_)) ?_)
      refine RG.a1 14 rfl (fun X14 hX14 => ?_)
      refine TL.m Mk.bl ?_
      intro x14
      refine TL.nil ?_
      refine TQ.nxt (hX14 _ _ (by repeat (first | exact HasL.nil | refine HasL.cons (by repeat (first | exact Pick.hd | apply Pick.tl)) ?_)) ?_)
      refine RG.a1 15 rfl (fun X15 hX15 => ?_)
      refine TL.cr rfl (enters Tryd.func102 rfl rfl) (fun w hw => by
          exact scaled2_any _ _ _ _ (hw.holds (.blk x14 3 [.int .i64 2, .int .i64 1000]) (by simp)) (by omega) (by omega) (by omega)) ?_
      refine TL.nil ?_
      refine TQ.nxt (hX15 _ _ (by repeat (first | exact HasL.nil | refine HasL.cons (by repeat (first | exact Pick.hd | apply Pick.tl)) ?_)) ?_)
      refine RG.a1 19 rfl (fun X19 hX19 => ?_)
      refine TL.cr rfl (enters Tryd.func103 rfl rfl) (fun w hw => by
          exact camRest_any _ _ _ _ (by omega) (by omega) (by omega)) ?_
      refine TL.nil ?_
      refine TQ.nxt (hX19 _ _ (by repeat (first | exact HasL.nil | refine HasL.cons (by repeat (first | exact Pick.hd | apply Pick.tl)) ?_)) ?_)
      refine RG.tk 20 rfl Pu.bd ?_
      exact RG.nil (TQ.sub (by repeat (first | exact trivial | refine ⟨rfl, ?_⟩ | refine ⟨trivial, ?_⟩)) (by repeat (first | exact KSub.nil | refine KSub.cons (by repeat (first | exact Pick.hd | apply Pick.tl)) ?_ | exact KSub.refl _ | exact KSub.drop (KSub.refl _))) (hE x6)) (by kernel_rfl)
    · refine TL.m Mk.bl ?_
      intro x14
      refine TL.nil ?_
      refine TQ.nxt (hX14 _ _ (by repeat (first | exact HasL.nil | refine HasL.cons (by repeat (first | exact Pick.hd | apply Pick.tl)) ?_)) ?_)
      refine RG.a1 7 rfl (fun X7 hX7 => ?_)
      refine TL.cr rfl (enters Tryd.func102 rfl rfl) (fun w hw => by
          exact scaled2_any _ _ _ _ (hw.holds (.blk x6 3 [.int .i64 2, .int .i64 1000]) (by simp)) (by omega) (by omega) (by omega)) ?_
      refine TL.nil ?_
      refine TQ.nxt (hX7 _ _ (by repeat (first | exact HasL.nil | refine HasL.cons (by repeat (first | exact Pick.hd | apply Pick.tl)) ?_)) ?_)
      refine RG.a1 15 rfl (fun X15 hX15 => ?_)
      refine TL.cr rfl (enters Tryd.func102 rfl rfl) (fun w hw => by
          exact scaled2_any _ _ _ _ (hw.holds (.blk x14 3 [.int .i64 2, .int .i64 1000]) (by simp)) (by omega) (by omega) (by omega)) ?_
      refine TL.nil ?_
      refine TQ.nxt (hX15 _ _ (by repeat (first | exact HasL.nil | refine HasL.cons (by repeat (first | exact Pick.hd | apply Pick.tl)) ?_)) ?_)
      refine RG.a1 19 rfl (fun X19 hX19 => ?_)
      refine TL.cr rfl (enters Tryd.func103 rfl rfl) (fun w hw => by
          exact camRest_any _ _ _ _ (by omega) (by omega) (by omega)) ?_
      refine TL.nil ?_
      refine TQ.nxt (hX19 _ _ (by repeat (first | exact HasL.nil | refine HasL.cons (by repeat (first | exact Pick.hd | apply Pick.tl)) ?_)) ?_)
      refine RG.tk 20 rfl Pu.bd ?_
      exact RG.nil (TQ.sub (by repeat (first | exact trivial | refine ⟨rfl, ?_⟩ | refine ⟨trivial, ?_⟩)) (by repeat (first | exact KSub.nil | refine KSub.cons (by repeat (first | exact Pick.hd | apply Pick.tl)) ?_ | exact KSub.refl _ | exact KSub.drop (KSub.refl _))) (hE x6)) (by kernel_rfl)
  · refine TL.m Mk.bl ?_
    intro x14
    refine TL.nil ?_
    refine TQ.nxt (hX14 _ _ (by repeat (first | exact HasL.nil | refine HasL.cons (by repeat (first | exact Pick.hd | apply Pick.tl)) ?_)) ?_)
    refine RG.a1 6 rfl (fun X6 hX6 => ?_)
    refine TL.m Mk.bl ?_
    intro x6
    refine TL.nil ?_
    refine TQ.nxt (hX6 _ _ (by repeat (first | exact HasL.nil | refine HasL.cons (by repeat (first | exact Pick.hd | apply Pick.tl)) ?_)) ?_)
    refine RG.a1 7 rfl (fun X7 hX7 => ?_)
    refine TL.cr rfl (enters Tryd.func102 rfl rfl) (fun w hw => by
        exact scaled2_any _ _ _ _ (hw.holds (.blk x6 3 [.int .i64 2, .int .i64 1000]) (by simp)) (by omega) (by omega) (by omega)) ?_
    refine TL.nil ?_
    refine TQ.nxt (hX7 _ _ (by repeat (first | exact HasL.nil | refine HasL.cons (by repeat (first | exact Pick.hd | apply Pick.tl)) ?_)) ?_)
    refine RG.a1 15 rfl (fun X15 hX15 => ?_)
    refine TL.cr rfl (enters Tryd.func102 rfl rfl) (fun w hw => by
        exact scaled2_any _ _ _ _ (hw.holds (.blk x14 3 [.int .i64 2, .int .i64 1000]) (by simp)) (by omega) (by omega) (by omega)) ?_
    refine TL.nil ?_
    refine TQ.nxt (hX15 _ _ (by repeat (first | exact HasL.nil | refine HasL.cons (by repeat (first | exact Pick.hd | apply Pick.tl)) ?_)) ?_)
    refine RG.a1 19 rfl (fun X19 hX19 => ?_)
    refine TL.cr rfl (enters Tryd.func103 rfl rfl) (fun w hw => by
        exact camRest_any _ _ _ _ (by omega) (by omega) (by omega)) ?_
    refine TL.nil ?_
    refine TQ.nxt (hX19 _ _ (by repeat (first | exact HasL.nil | refine HasL.cons (by repeat (first | exact Pick.hd | apply Pick.tl)) ?_)) ?_)
    refine RG.tk 20 rfl Pu.bd ?_
    exact RG.nil (TQ.sub (by repeat (first | exact trivial | refine ⟨rfl, ?_⟩ | refine ⟨trivial, ?_⟩)) (by repeat (first | exact KSub.nil | refine KSub.cons (by repeat (first | exact Pick.hd | apply Pick.tl)) ?_ | exact KSub.refl _ | exact KSub.drop (KSub.refl _))) (hE x6)) (by kernel_rfl)
end Go.Proofs.YtagcnokaajinlaaDoor
