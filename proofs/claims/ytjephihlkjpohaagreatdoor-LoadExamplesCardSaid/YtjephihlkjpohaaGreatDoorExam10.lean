/-
  Part 10 of the proof of loadExamples_holds: declarations of several texts, in build order. No condition on a program.
-/
import Derived.Test.YtjephihlkjpohaaGreatDoorExam09
import Derived.Test.YtjephihlkjpohaaGreatDoorExam06
namespace Go.Proofs.YtjephihlkjpohaaGreatDoor
set_option linter.all false
set_option linter.unusedVariables false
set_option linter.unusedSimpArgs false
open Go.RowKit
def upD (a b : Int) : Int := (a + b - 1) / b
def prodT (t : Nat → Int) (x : Int) : Nat → Int
  | 0 => x
  | k + 1 => prodT t x k * t k
theorem ceil_any (a b : Int) (w : World) (ha : 0 ≤ a) (ha2 : a ≤ 1000000000000000) (hb : 0 < b) (hb2 : b ≤ 1000000000000) : Calls Tryz.prog 117 #[.int .i64 a, .int .i64 b] w (Ret w (.int .i64 (upD a b))) := by
  refine K_enter (S := []) (K := []) Tryz.func117 rfl Tryz.ntmps117 rfl (Sat.start _) ?_
  refine TW.seq fun Y1 hY1 => ?_
  refine TW.region ?_
  refine TL.p Pu.as ?_
  refine TL.nil ?_
  refine TQ.thenN (hY1 _ _ ?_)
  refine TW.seq fun Y2 hY2 => ?_
  refine TW.region ?_
  refine TL.p Pu.mv ?_
  refine TL.p Pu.mv ?_
  refine TL.p Pu.ad ?_
  refine TL.p Pu.sb ?_
  refine TL.p Pu.mv ?_
  refine TL.p Pu.qu ?_
  refine TL.p Pu.as ?_
  refine TL.nil ?_
  refine TQ.thenN (hY2 _ _ ?_)
  refine TW.ret ?_
  refine TQ.ret Tryz.results117 rfl ((.tmp rfl .nil)) ?_
  exact fun w hw => Ret.of hw
theorem camRest_any (n x y : Int) (w : World) (hn : 0 ≤ n ∧ n ≤ 1000000000000) (hx : 0 ≤ x ∧ x ≤ 1000000000000) (hy : 0 ≤ y ∧ y ≤ 1000000000000) : Calls Tryz.prog 150 #[.int .i64 n, .agg (spL x y).toArray] w (Ret w (.agg #[.int .i64 (n - y), .int .i64 (n - x)])) := by
  refine K_enter (S := []) (K := []) Tryz.func150 rfl Tryz.ntmps150 rfl (Sat.start _) ?_
  refine TW.seq fun Y1 hY1 => ?_
  refine TW.region ?_
  refine TL.m Mk.bx ?_
  intro b1
  refine TL.m (Mk.al ty_zr43) ?_
  intro b2
  refine TL.nil ?_
  refine TQ.thenN (hY1 _ _ ?_)
  refine TW.seq fun Y2 hY2 => ?_
  refine TW.region ?_
  refine TL.p Pu.mv ?_
  refine TL.p (by first | exact Pu.fb ty_fa43_1 | exact Pu.fe ty_fa43_1) ?_
  refine TL.p (Pu.ld ty_sc3) ?_
  refine TL.p Pu.sb ?_
  refine TL.p Pu.mv ?_
  refine TL.p (by first | exact Pu.fb ty_fa43_0 | exact Pu.fe ty_fa43_0) ?_
  refine TL.p (Pu.ld ty_sc3) ?_
  refine TL.p Pu.sb ?_
  refine TL.p Pu.bd ?_
  first | refine TL.st ty_sz43 ?_ | refine TL.se ty_sz43 ?_
  refine TL.nil ?_
  refine TQ.thenN (hY2 _ _ ?_)
  refine TW.ret ?_
  refine TQ.ret Tryz.results150 rfl ((RV.cs ty_ag43 .nil)) ?_
  exact fun w hw => Ret.of hw
theorem scaled_any {T : Option Addr} {n cp : Nat} {t : Nat → Int} (x y b : Int) (w : World) (hR : RdR w 1 T n (fun k => [.int .i64 (t k)])) (hn : n ≤ 1000) (hx : ∀ k, k ≤ n → 0 ≤ prodT t x k ∧ prodT t x k ≤ 1000000000000000) (hy : ∀ k, k ≤ n → 0 ≤ prodT t y k ∧ prodT t y k ≤ 1000000000000000) (hb : 0 < b ∧ b ≤ 1000000000000) :
    Calls Tryz.prog 149 #[.agg (spL x y).toArray, .int .i64 b, .slice T n cp] w (Ret w (.agg #[.int .i64 (prodT t x n / b), .int .i64 (upD (prodT t y n) b)])) := by
  have hxn := hx n (Nat.le_refl _)
  have hyn := hy n (Nat.le_refl _)
  refine K_enter (S := []) (K := []) Tryz.func149 rfl Tryz.ntmps149 rfl (Sat.start _) ?_
  refine TW.seq fun Y1 hY1 => ?_
  refine TW.region ?_
  refine TL.m Mk.bx ?_
  intro b1
  refine TL.m (Mk.al ty_zr43) ?_
  intro b2
  refine TL.nil ?_
  refine TQ.thenN (hY1 _ _ ?_)
  refine TW.seq fun Y2 hY2 => ?_
  refine TW.seq fun Y3 hY3 => ?_
  refine TW.region ?_
  refine TL.p Pu.mv ?_
  refine TL.p (Pu.ln Tryz.underlying24) ?_
  refine TL.p Pu.mv ?_
  refine TL.nil ?_
  refine TQ.thenN (hY3 _ _ ?_)
  refine TW.block ?_
  refine TW.loop1 (fun (k : Nat) => [(11, .int .i64 (k : Int)), (10, .int .i64 (n : Int)), (9, .slice T n cp), (3, .pointer (some ⟨b1, 0, none⟩)), (6, .pointer (some ⟨b2, 0, none⟩)), (1, .int .i64 b)]) (fun k => [.blk b1 43 (spL (prodT t x k) (prodT t y k)), .blk b2 43 (spL 0 0)]) (fun k => k ≤ n) (fun k => n - k) 0 (by repeat (first | exact trivial | refine ⟨rfl, ?_⟩ | refine ⟨trivial, ?_⟩)) ?_ ?_ ?_
  · exact (by repeat (first | exact KSub.nil | refine KSub.cons (by repeat (first | exact Pick.hd | apply Pick.tl)) ?_))
  · exact Nat.zero_le _
  rintro k hk Z0 hZ0
  refine TW.seq fun Y4 hY4 => ?_
  refine TW.region ?_
  refine TL.p Pu.lt ?_
  refine TL.nil ?_
  refine TQ.thenN (hY4 _ _ ?_)
  refine TW.seq fun Y5 hY5 => ?_
  refine TW.cond rfl (fun hc0 => ?_) (fun hc0 => ?_)
  · try simp only [decide_eq_true_eq, decide_eq_false_iff_not, Bool.not_eq_true', Bool.not_eq_false', Bool.and_eq_true, Bool.or_eq_true, Bool.and_eq_false_iff, Bool.or_eq_false_iff, Int.not_lt, Int.not_le] at hc0
    have hkn : k < n := by omega
    have hxk := hx (k + 1) (by omega)
    have hyk := hy (k + 1) (by omega)
    simp only [prodT] at hxk hyk
    refine TW.skip ?_
    refine TQ.thenN (hY5 _ _ ?_)
    refine TW.seq fun Y6 hY6 => ?_
    refine TW.block ?_
    refine TW.seq fun Y7 hY7 => ?_
    refine TW.region ?_
    refine TL.p (Pu.el ty_et24) ?_
    refine TL.p (Pu.ld ty_sc3) ?_
    refine TL.p Pu.as ?_
    refine TL.nil ?_
    refine TQ.thenN (hY7 _ _ ?_)
    refine TW.region ?_
    refine TL.p (by first | exact Pu.fb ty_fa43_0 | exact Pu.fe ty_fa43_0) ?_
    refine TL.p (Pu.ld ty_sc3) ?_
    refine TL.p Pu.mv ?_
    refine TL.p Pu.ml ?_
    refine TL.p (by first | exact Pu.fb ty_fa43_1 | exact Pu.fe ty_fa43_1) ?_
    refine TL.p (Pu.ld ty_sc3) ?_
    refine TL.p Pu.mv ?_
    refine TL.p Pu.ml ?_
    refine TL.p (by first | exact Pu.fb ty_fa43_0 | exact Pu.fe ty_fa43_0) ?_
    first | refine TL.st ty_sz3 ?_ | refine TL.se ty_sz3 ?_
    refine TL.p (by first | exact Pu.fb ty_fa43_1 | exact Pu.fe ty_fa43_1) ?_
    first | refine TL.st ty_sz3 ?_ | refine TL.se ty_sz3 ?_
    refine TL.nil ?_
    refine TQ.blkN ?_
    refine TQ.thenN (hY6 _ _ ?_)
    refine TW.region ?_
    refine TL.p Pu.ad ?_
    refine TL.p Pu.mv ?_
    refine TL.nil ?_
    refine TQ.thenN (hZ0 (k + 1) _ _ ?_ ?_ (by repeat (first | exact trivial | refine ⟨rfl, ?_⟩ | refine ⟨trivial, ?_⟩)) ?_)
    · exact (by omega)
    · exact (by first | omega | (simp only []; omega) | (simp; omega))
    · exact (by repeat (first | exact KSub.nil | refine KSub.cons (by repeat (first | exact Pick.hd | apply Pick.tl)) ?_))
  · try simp only [decide_eq_true_eq, decide_eq_false_iff_not, Bool.not_eq_true', Bool.not_eq_false', Bool.and_eq_true, Bool.or_eq_true, Bool.and_eq_false_iff, Bool.or_eq_false_iff, Int.not_lt, Int.not_le] at hc0
    obtain rfl : k = n := by omega
    refine TW.exit ?_
    refine TQ.thenX ?_
    refine TQ.thenX ?_
    refine TQ.blkX ?_
    refine TQ.thenN (hY2 _ _ ?_)
    refine TW.seq fun Y8 hY8 => ?_
    refine TW.dw 9 ?_
    refine RK.tk (by first | exact Pu.fb ty_fa43_0 | exact Pu.fe ty_fa43_0) ?_
    refine RK.tk (Pu.ld ty_sc3) ?_
    refine RK.tk Pu.mv ?_
    refine RK.tk Pu.qu ?_
    refine RK.tk (by first | exact Pu.fb ty_fa43_1 | exact Pu.fe ty_fa43_1) ?_
    refine RK.tk (Pu.ld ty_sc3) ?_
    refine RK.tk Pu.mv ?_
    refine RK.keep ?_
    refine RK.keep ?_
    refine RK.ch [false, true] ?_ trivial
    refine WK.cr rfl (enters Tryz.func117 rfl rfl) (fun w hw => by
        exact ceil_any _ _ _ (by omega) (by omega) (by omega) (by omega)) ?_
    refine WK.p Pu.bd ?_
    refine WK.n ?_
    first | refine TL.st ty_sz43 ?_ | refine TL.se ty_sz43 ?_
    refine TL.nil ?_
    refine TQ.thenN (hY8 _ _ ?_)
    refine TW.ret ?_
    refine TQ.ret Tryz.results149 rfl ((RV.cs ty_ag43 .nil)) ?_
    exact fun w hw => Ret.of hw
theorem scaled2_any {b1 E : Nat} (x y b : Int) (w : World) (hB : Blk w b1 E #[.int .i64 2, .int .i64 1000]) (hx : 0 ≤ x ∧ x ≤ 1000000) (hy : 0 ≤ y ∧ y ≤ 1000000) (hb : 0 < b ∧ b ≤ 1000000000000) :
    Calls Tryz.prog 149 #[.agg (spL x y).toArray, .int .i64 b, .slice (some ⟨b1, 0, none⟩) 2 2] w (Ret w (.agg #[.int .i64 (2000 * x / b), .int .i64 (upD (2000 * y) b)])) := by
  have e : ∀ x : Int, prodT (fun k => if k = 0 then 2 else 1000) x 2 = 2000 * x := fun x => by
    simp only [prodT]
    simp
    omega
  have hq : ∀ x : Int, 0 ≤ x ∧ x ≤ 1000000 → ∀ k, k ≤ 2 → 0 ≤ prodT (fun k => if k = 0 then 2 else 1000) x k ∧ prodT (fun k => if k = 0 then 2 else 1000) x k ≤ 1000000000000000 := fun x hx k hk => by
    have : k = 0 ∨ k = 1 ∨ k = 2 := by omega
    rcases this with rfl | rfl | rfl
    · simp only [prodT]; omega
    · simp only [prodT]; simp; omega
    · rw [e]; omega
  have := scaled_any (n := 2) (cp := 2) (t := fun k => if k = 0 then 2 else 1000) x y b w (RdR.blk (cs := [.int .i64 2, .int .i64 1000]) hB rfl (fun _ _ => rfl)) (by omega) (hq x hx) (hq y hy) hb
  rw [e, e] at this
  exact this
theorem breedOk_iff (f : Nat → Int) : breedOk f = true ↔ (1 ≤ f 0 ∧ f 0 ≤ 1000000) ∧ (1 ≤ f 1 ∧ f 1 ≤ 1000000) ∧ (0 ≤ f 2 ∧ f 2 ≤ f 3 ∧ f 3 ≤ 100000) ∧ (0 ≤ f 4 ∧ f 4 ≤ f 5 ∧ f 5 ≤ 100000) ∧ (0 ≤ f 6 ∧ f 6 ≤ f 7 ∧ f 7 ≤ 100000) ∧ (0 ≤ f 8 ∧ f 8 ≤ f 9 ∧ f 9 ≤ 100000) ∧ (0 ≤ f 10 ∧ f 10 ≤ f 11 ∧ f 11 ≤ 100000) ∧ (0 ≤ f 12 ∧ f 12 ≤ f 13 ∧ f 13 ≤ 100000) ∧ (0 ≤ f 15 ∧ f 15 ≤ f 16 ∧ f 16 ≤ 1000000) ∧ 0 ≤ f 14 ∧ f 14 ≤ 1000 := by
  unfold breedOk ordB5 inB5
  simp only [Bool.and_eq_true, decide_eq_true_eq]
  omega
theorem camOk_iff (f g : Nat → Int) : camOk f g = true ↔ (0 ≤ g 0 ∧ g 0 ≤ g 1 ∧ g 1 ≤ f 0) ∧ (0 ≤ g 2 ∧ g 2 ≤ g 3 ∧ g 3 ≤ f 1) ∧ (0 ≤ g 4 ∧ g 4 ≤ g 5 ∧ g 5 ≤ 1000) := by
  unfold camOk ordB5
  simp only [Bool.and_eq_true, decide_eq_true_eq]
  omega
def minK (c : Int) (x : Nat → Int) : Nat → Int
  | 0 => c
  | k + 1 => min (minK c x k) (x k)
def fitLo (f g : Nat → Int) : Int := min (min (min 1000 (2000 * g 0 / f 0)) (2000 * g 2 / f 1)) (1000 - g 5)
def fitHi (f g : Nat → Int) : Int := min (min (min 1000 (upD (2000 * g 1) (f 0))) (upD (2000 * g 3) (f 1))) (1000 - g 4)
def spans3 (x y : Nat → Int) : List Value := [.int .i64 (x 0), .int .i64 (y 0), .int .i64 (x 1), .int .i64 (y 1), .int .i64 (x 2), .int .i64 (y 2)]
set_option maxRecDepth 100000 in
theorem index_sp3 (x y : Nat → Int) (j : Nat) (hj : j < 3) (w : World) : (Instr.index 196 (.agg (spans3 x y).toArray) (.int .i64 (j : Int))).run Tryz.prog w = .ok (.agg #[.int .i64 (x j), .int .i64 (y j)]) w := by
  have h : j = 0 ∨ j = 1 ∨ j = 2 := by omega
  rcases h with rfl | rfl | rfl
  · unfold spans3; go_simp; rfl
  · unfold spans3; go_simp; rfl
  · unfold spans3; go_simp; rfl
def fitX (f g : Nat → Int) : Nat → Int
  | 0 => 2000 * g 0 / f 0
  | 1 => 2000 * g 2 / f 1
  | _ => 1000 - g 5
def fitY (f g : Nat → Int) : Nat → Int
  | 0 => upD (2000 * g 1) (f 0)
  | 1 => upD (2000 * g 3) (f 1)
  | _ => 1000 - g 4
def beastL (f g : Nat → Int) (m : Bool) : List Value := breedL f ++ camL g m
set_option maxRecDepth 100000 in
set_option maxHeartbeats 1000000 in
theorem fitness_any (f g : Nat → Int) (m : Bool) (w : World) (hf : breedOk f = true) (hg : camOk f g = true) :
    Calls Tryz.prog 116 #[.agg (beastL f g m).toArray] w (Ret w (.agg #[.int .i64 (fitLo f g), .int .i64 (fitHi f g)])) := by
  have h1 := (breedOk_iff f).1 hf
  have h2 := (camOk_iff f g).1 hg
  unfold beastL breedL camL
  refine K_enter (S := []) (K := []) Tryz.func116 rfl Tryz.ntmps116 rfl (Sat.start _) ?_
  refine TW.seq fun Y1 hY1 => ?_
  refine TW.region ?_
  refine TL.m Mk.bx ?_
  intro b1
  refine TL.m (Mk.al ty_zr43) ?_
  intro b2
  refine TL.nil ?_
  refine TQ.thenN (hY1 _ _ ?_)
  refine TW.seq fun Y2 hY2 => ?_
  refine TW.region ?_
  refine TL.p Pu.bd ?_
  refine TL.m (Mk.al ty_zr43) ?_
  intro b3
  first | refine TL.st ty_sz43 ?_ | refine TL.se ty_sz43 ?_
  refine TL.nil ?_
  refine TQ.thenN (hY2 _ _ ?_)
  refine TW.seq fun Y3 hY3 => ?_
  refine TW.seq fun Y4 hY4 => ?_
  refine TW.expl (fun (x6 : Nat) => ([(28, .int .i64 0), (27, .agg (spans3 (fitX f g) (fitY f g)).toArray), (3, .pointer (some ⟨b3, 0, none⟩)), (2, .pointer (some ⟨b2, 0, none⟩))] : Fr)) (fun (x6 : Nat) => [.blk b3 43 (spL 1000 1000), .blk b2 43 (spL 0 0)]) Drop.done ?_ (fun hE => ?_)
  · rintro x6
    refine TQ.thenN (hY4 _ _ ?_)
    refine TW.block ?_
    refine TW.loop1 (fun (k : Nat) => [(28, .int .i64 (k : Int)), (27, .agg (spans3 (fitX f g) (fitY f g)).toArray), (3, .pointer (some ⟨b3, 0, none⟩)), (2, .pointer (some ⟨b2, 0, none⟩))]) (fun k => [.blk b3 43 (spL (minK 1000 (fitX f g) k) (minK 1000 (fitY f g) k)), .blk b2 43 (spL 0 0)]) (fun k => k ≤ 3) (fun k => 3 - k) 0 (by repeat (first | exact trivial | refine ⟨rfl, ?_⟩ | refine ⟨trivial, ?_⟩)) ?_ ?_ ?_
    · exact (by repeat (first | exact KSub.nil | refine KSub.cons (by repeat (first | exact Pick.hd | apply Pick.tl)) ?_))
    · exact Nat.zero_le _
    rintro k hk Z0 hZ0
    refine TW.seq fun Y5 hY5 => ?_
    refine TW.region ?_
    refine TL.p Pu.lt ?_
    refine TL.nil ?_
    refine TQ.thenN (hY5 _ _ ?_)
    refine TW.seq fun Y6 hY6 => ?_
    refine TW.cond rfl (fun hc0 => ?_) (fun hc0 => ?_)
    · try simp only [decide_eq_true_eq, decide_eq_false_iff_not, Bool.not_eq_true', Bool.not_eq_false', Bool.and_eq_true, Bool.or_eq_true, Bool.and_eq_false_iff, Bool.or_eq_false_iff, Int.not_lt, Int.not_le] at hc0
      refine TW.skip ?_
      refine TQ.thenN (hY6 _ _ ?_)
      refine TW.seq fun Y7 hY7 => ?_
      refine TW.block ?_
      refine TW.seq fun Y8 hY8 => ?_
      refine TW.region ?_
      refine TL.p (Pu.ix rfl rfl (fun w => index_sp3 _ _ k (by omega) w)) ?_
      refine TL.m (Mk.al ty_zr43) ?_
      intro b4
      first | refine TL.st ty_sz43 ?_ | refine TL.se ty_sz43 ?_
      refine TL.nil ?_
      refine TQ.thenN (hY8 _ _ ?_)
      refine TW.region ?_
      refine TL.p (by first | exact Pu.fb ty_fa43_0 | exact Pu.fe ty_fa43_0) ?_
      refine TL.p (Pu.ld ty_sc3) ?_
      refine TL.p (by first | exact Pu.fb ty_fa43_0 | exact Pu.fe ty_fa43_0) ?_
      refine TL.p (Pu.ld ty_sc3) ?_
      refine TL.p Pu.mn ?_
      refine TL.p (by first | exact Pu.fb ty_fa43_1 | exact Pu.fe ty_fa43_1) ?_
      refine TL.p (Pu.ld ty_sc3) ?_
      refine TL.p (by first | exact Pu.fb ty_fa43_1 | exact Pu.fe ty_fa43_1) ?_
      refine TL.p (Pu.ld ty_sc3) ?_
      refine TL.p Pu.mn ?_
      refine TL.p Pu.bd ?_
      first | refine TL.st ty_sz43 ?_ | refine TL.se ty_sz43 ?_
      refine TL.nil ?_
      refine TQ.blkN ?_
      refine TQ.thenN (hY7 _ _ ?_)
      refine TW.region ?_
      refine TL.p Pu.ad ?_
      refine TL.p Pu.mv ?_
      refine TL.nil ?_
      refine TQ.thenN (hZ0 (k + 1) _ _ ?_ ?_ (by repeat (first | exact trivial | refine ⟨rfl, ?_⟩ | refine ⟨trivial, ?_⟩)) ?_)
      · exact (by omega)
      · exact (by first | omega | (simp only []; omega) | (simp; omega))
      · exact (by repeat (first | exact KSub.nil | refine KSub.cons (by repeat (first | exact Pick.hd | apply Pick.tl)) ?_))
    · try simp only [decide_eq_true_eq, decide_eq_false_iff_not, Bool.not_eq_true', Bool.not_eq_false', Bool.and_eq_true, Bool.or_eq_true, Bool.and_eq_false_iff, Bool.or_eq_false_iff, Int.not_lt, Int.not_le] at hc0
      obtain rfl : k = 3 := by omega
      refine TW.exit ?_
      refine TQ.thenX ?_
      refine TQ.thenX ?_
      refine TQ.blkX ?_
      refine TQ.thenN (hY3 _ _ ?_)
      refine TW.seq fun Y9 hY9 => ?_
      refine TW.region ?_
      refine TL.p (Pu.lds ty_ag43) ?_
      first | refine TL.st ty_sz43 ?_ | refine TL.se ty_sz43 ?_
      refine TL.nil ?_
      refine TQ.thenN (hY9 _ _ ?_)
      refine TW.ret ?_
      refine TQ.ret Tryz.results116 rfl ((RV.cs ty_ag43 .nil)) ?_
      exact fun w hw => Ret.of hw
  refine RG.tk 0 rfl (by first | exact Pu.fb ty_fa139_1 | exact Pu.fe ty_fa139_1) ?_
  refine RG.tk 1 rfl (by first | exact Pu.fb ty_fa81_0 | exact Pu.fe ty_fa81_0) ?_
  refine RG.tk 2 rfl (Pu.lds ty_ag43) ?_
  refine RG.tk 3 rfl (by first | exact Pu.fb ty_fa139_0 | exact Pu.fe ty_fa139_0) ?_
  refine RG.tk 4 rfl (by first | exact Pu.fb ty_fa79_0 | exact Pu.fe ty_fa79_0) ?_
  refine RG.tk 5 rfl (Pu.ld ty_sc3) ?_
  refine RG.tk 8 rfl (by first | exact Pu.fb ty_fa139_1 | exact Pu.fe ty_fa139_1) ?_
  refine RG.tk 9 rfl (by first | exact Pu.fb ty_fa81_1 | exact Pu.fe ty_fa81_1) ?_
  refine RG.tk 10 rfl (Pu.lds ty_ag43) ?_
  refine RG.tk 11 rfl (by first | exact Pu.fb ty_fa139_0 | exact Pu.fe ty_fa139_0) ?_
  refine RG.tk 12 rfl (by first | exact Pu.fb ty_fa79_1 | exact Pu.fe ty_fa79_1) ?_
  refine RG.tk 13 rfl (Pu.ld ty_sc3) ?_
  refine RG.tk 16 rfl (by first | exact Pu.fb ty_fa139_1 | exact Pu.fe ty_fa139_1) ?_
  refine RG.tk 17 rfl (by first | exact Pu.fb ty_fa81_2 | exact Pu.fe ty_fa81_2) ?_
  refine RG.tk 18 rfl (Pu.lds ty_ag43) ?_
  refine RG.tk 21 rfl Pu.mv ?_
  refine RG.a2 6 14 rfl rfl (fun X6 hX6 => ?_) (fun X14 hX14 => ?_)
  · refine TL.m Mk.bl ?_
    intro x6
    refine TL.nil ?_
    refine TQ.nxt (hX6 _ _ (by repeat (first | exact HasL.nil | refine HasL.cons (by repeat (first | exact Pick.hd | apply Pick.tl)) ?_)) ?_)
    refine RG.a2 7 14 rfl rfl (fun X7 hX7 => ?_) (fun X14 hX14 => ?_)
    · refine TL.cr rfl (enters Tryz.func149 rfl rfl) (fun w hw => by
          exact scaled2_any _ _ _ _ (hw.holds (.blk x6 3 [.int .i64 2, .int .i64 1000]) (by simp)) (by omega) (by omega) (by omega)) ?_
      refine TL.nil ?_
      refine TQ.nxt (hX7 _ _ (by repeat (first | exact HasL.nil | refine HasL.cons (by repeat (first | exact Pick.hd | apply Pick.tl)) ?_)) ?_)
      refine RG.a1 14 rfl (fun X14 hX14 => ?_)
      refine TL.m Mk.bl ?_
      intro x14
      refine TL.nil ?_
      refine TQ.nxt (hX14 _ _ (by repeat (first | exact HasL.nil | refine HasL.cons (by repeat (first | exact Pick.hd | apply Pick.tl)) ?_)) ?_)
      refine RG.a1 15 rfl (fun X15 hX15 => ?_)
      refine TL.cr rfl (enters Tryz.func149 rfl rfl) (fun w hw => by
          exact scaled2_any _ _ _ _ (hw.holds (.blk x14 3 [.int .i64 2, .int .i64 1000]) (by simp)) (by omega) (by omega) (by omega)) ?_
      refine TL.nil ?_
      refine TQ.nxt (hX15 _ _ (by repeat (first | exact HasL.nil | refine HasL.cons (by repeat (first | exact Pick.hd | apply Pick.tl)) ?_)) ?_)
      refine RG.a1 19 rfl (fun X19 hX19 => ?_)
      refine TL.cr rfl (enters Tryz.func150 rfl rfl) (fun w hw => by
          exact camRest_any _ _ _ _ (by omega) (by omega) (by omega)) ?_
      refine TL.nil ?_
      refine TQ.nxt (hX19 _ _ (by repeat (first | exact HasL.nil | refine HasL.cons (by repeat (first | exact Pick.hd | apply Pick.tl)) ?_)) ?_)
      refine RG.tk 20 rfl Pu.bd ?_
      exact RG.nil (TQ.sub (by repeat (first | exact trivial | refine ⟨rfl, ?_⟩ | refine ⟨trivial, ?_⟩)) (by repeat (first | exact KSub.nil | refine KSub.cons (by repeat (first | exact Pick.hd | apply Pick.tl)) ?_ | exact KSub.refl _ | refine KSub.drop ?_)) (hE x6)) (by kernel_rfl)
    · refine TL.m Mk.bl ?_
      intro x14
      refine TL.nil ?_
      refine TQ.nxt (hX14 _ _ (by repeat (first | exact HasL.nil | refine HasL.cons (by repeat (first | exact Pick.hd | apply Pick.tl)) ?_)) ?_)
      refine RG.a1 7 rfl (fun X7 hX7 => ?_)
      refine TL.cr rfl (enters Tryz.func149 rfl rfl) (fun w hw => by
          exact scaled2_any _ _ _ _ (hw.holds (.blk x6 3 [.int .i64 2, .int .i64 1000]) (by simp)) (by omega) (by omega) (by omega)) ?_
      refine TL.nil ?_
      refine TQ.nxt (hX7 _ _ (by repeat (first | exact HasL.nil | refine HasL.cons (by repeat (first | exact Pick.hd | apply Pick.tl)) ?_)) ?_)
      refine RG.a1 15 rfl (fun X15 hX15 => ?_)
      refine TL.cr rfl (enters Tryz.func149 rfl rfl) (fun w hw => by
          exact scaled2_any _ _ _ _ (hw.holds (.blk x14 3 [.int .i64 2, .int .i64 1000]) (by simp)) (by omega) (by omega) (by omega)) ?_
      refine TL.nil ?_
      refine TQ.nxt (hX15 _ _ (by repeat (first | exact HasL.nil | refine HasL.cons (by repeat (first | exact Pick.hd | apply Pick.tl)) ?_)) ?_)
      refine RG.a1 19 rfl (fun X19 hX19 => ?_)
      refine TL.cr rfl (enters Tryz.func150 rfl rfl) (fun w hw => by
          exact camRest_any _ _ _ _ (by omega) (by omega) (by omega)) ?_
      refine TL.nil ?_
      refine TQ.nxt (hX19 _ _ (by repeat (first | exact HasL.nil | refine HasL.cons (by repeat (first | exact Pick.hd | apply Pick.tl)) ?_)) ?_)
      refine RG.tk 20 rfl Pu.bd ?_
      exact RG.nil (TQ.sub (by repeat (first | exact trivial | refine ⟨rfl, ?_⟩ | refine ⟨trivial, ?_⟩)) (by repeat (first | exact KSub.nil | refine KSub.cons (by repeat (first | exact Pick.hd | apply Pick.tl)) ?_ | exact KSub.refl _ | refine KSub.drop ?_)) (hE x6)) (by kernel_rfl)
  · refine TL.m Mk.bl ?_
    intro x14
    refine TL.nil ?_
    refine TQ.nxt (hX14 _ _ (by repeat (first | exact HasL.nil | refine HasL.cons (by repeat (first | exact Pick.hd | apply Pick.tl)) ?_)) ?_)
    refine RG.a1 6 rfl (fun X6 hX6 => ?_)
    refine TL.m Mk.bl ?_
    intro x6
    refine TL.nil ?_
    refine TQ.nxt (hX6 _ _ (by repeat (first | exact HasL.nil | refine HasL.cons (by repeat (first | exact Pick.hd | apply Pick.tl)) ?_)) ?_)
    refine RG.a1 7 rfl (fun X7 hX7 => ?_)
    refine TL.cr rfl (enters Tryz.func149 rfl rfl) (fun w hw => by
        exact scaled2_any _ _ _ _ (hw.holds (.blk x6 3 [.int .i64 2, .int .i64 1000]) (by simp)) (by omega) (by omega) (by omega)) ?_
    refine TL.nil ?_
    refine TQ.nxt (hX7 _ _ (by repeat (first | exact HasL.nil | refine HasL.cons (by repeat (first | exact Pick.hd | apply Pick.tl)) ?_)) ?_)
    refine RG.a1 15 rfl (fun X15 hX15 => ?_)
    refine TL.cr rfl (enters Tryz.func149 rfl rfl) (fun w hw => by
        exact scaled2_any _ _ _ _ (hw.holds (.blk x14 3 [.int .i64 2, .int .i64 1000]) (by simp)) (by omega) (by omega) (by omega)) ?_
    refine TL.nil ?_
    refine TQ.nxt (hX15 _ _ (by repeat (first | exact HasL.nil | refine HasL.cons (by repeat (first | exact Pick.hd | apply Pick.tl)) ?_)) ?_)
    refine RG.a1 19 rfl (fun X19 hX19 => ?_)
    refine TL.cr rfl (enters Tryz.func150 rfl rfl) (fun w hw => by
        exact camRest_any _ _ _ _ (by omega) (by omega) (by omega)) ?_
    refine TL.nil ?_
    refine TQ.nxt (hX19 _ _ (by repeat (first | exact HasL.nil | refine HasL.cons (by repeat (first | exact Pick.hd | apply Pick.tl)) ?_)) ?_)
    refine RG.tk 20 rfl Pu.bd ?_
    exact RG.nil (TQ.sub (by repeat (first | exact trivial | refine ⟨rfl, ?_⟩ | refine ⟨trivial, ?_⟩)) (by repeat (first | exact KSub.nil | refine KSub.cons (by repeat (first | exact Pick.hd | apply Pick.tl)) ?_ | exact KSub.refl _ | refine KSub.drop ?_)) (hE x6)) (by kernel_rfl)
end Go.Proofs.YtjephihlkjpohaaGreatDoor
namespace Go.Proofs.YtjephihlkjpohaaGreatDoor
set_option linter.all false
set_option linter.unusedVariables false
set_option linter.unusedSimpArgs false
open Go.RowKit
theorem upD_nn {a b : Int} (ha : 0 ≤ a) (hb : 0 < b) : 0 ≤ upD a b := Int.ediv_nonneg (by omega) (by omega)
theorem fit_bd {f g : Nat → Int} (hf : breedOk f = true) (hg : camOk f g = true) : 0 ≤ fitLo f g ∧ fitLo f g ≤ 1000 ∧ 0 ≤ fitHi f g ∧ fitHi f g ≤ 1000 := by
  have h1 := (breedOk_iff f).1 hf
  have h2 := (camOk_iff f g).1 hg
  have a1 : 0 ≤ 2000 * g 0 / f 0 := Int.ediv_nonneg (by omega) (by omega)
  have a2 : 0 ≤ 2000 * g 2 / f 1 := Int.ediv_nonneg (by omega) (by omega)
  have a3 : 0 ≤ upD (2000 * g 1) (f 0) := upD_nn (by omega) (by omega)
  have a4 : 0 ≤ upD (2000 * g 3) (f 1) := upD_nn (by omega) (by omega)
  unfold fitLo fitHi
  omega
def carLo (f g : Nat → Int) : Int := f 15 * fitLo f g / 1000
def carHi (f g : Nat → Int) : Int := upD (f 16 * fitHi f g) 1000
theorem camCode_ok {f g : Nat → Int} (h : camCode f g = 0) : breedOk f = true ∧ camOk f g = true := by
  unfold camCode at h
  cases h1 : breedOk f with
  | false => rw [h1] at h; simp at h
  | true =>
    cases h2 : camOk f g with
    | false => rw [h1, h2] at h; simp at h
    | true => exact ⟨rfl, rfl⟩
set_option maxRecDepth 100000 in
theorem carries1_any (f g : Nat → Int) (m : Bool) (w : World) (hf : breedOk f = true) (hg : camOk f g = true) :
    Calls Tryz.prog 74 #[.agg (beastL f g m).toArray] w (Ret w (.agg #[.int .i64 (carLo f g), .int .i64 (carHi f g)])) := by
  have h1 := (breedOk_iff f).1 hf
  have h3 := fit_bd hf hg
  have m1 : 0 ≤ f 15 * fitLo f g ∧ f 15 * fitLo f g ≤ 1000000 * 1000 := mulB (by omega) (by omega) (by omega) (by omega)
  have m2 : 0 ≤ f 16 * fitHi f g ∧ f 16 * fitHi f g ≤ 1000000 * 1000 := mulB (by omega) (by omega) (by omega) (by omega)
  have hfit := fitness_any f g m w hf hg
  unfold beastL breedL camL
  refine K_enter (S := []) (K := []) Tryz.func74 rfl Tryz.ntmps74 rfl (Sat.start _) ?_
  refine TW.seq fun Y1 hY1 => ?_
  refine TW.region ?_
  refine TL.m Mk.bx ?_
  intro b1
  refine TL.m (Mk.al ty_zr43) ?_
  intro b2
  refine TL.nil ?_
  refine TQ.thenN (hY1 _ _ ?_)
  refine TW.seq fun Y2 hY2 => ?_
  refine TW.region ?_
  refine TL.p (Pu.lds ty_ag139) ?_
  refine TL.cr rfl (enters Tryz.func116 rfl rfl) (fun w hw => by
      exact fitness_any f g m _ hf hg) ?_
  refine TL.m (Mk.al ty_zr43) ?_
  intro b3
  first | refine TL.st ty_sz43 ?_ | refine TL.se ty_sz43 ?_
  refine TL.nil ?_
  refine TQ.thenN (hY2 _ _ ?_)
  refine TW.seq fun Y3 hY3 => ?_
  refine TW.dw 17 ?_
  refine RK.tk (by first | exact Pu.fb ty_fa139_0 | exact Pu.fe ty_fa139_0) ?_
  refine RK.tk (by first | exact Pu.fb ty_fa79_9 | exact Pu.fe ty_fa79_9) ?_
  refine RK.tk (by first | exact Pu.fb ty_fa43_0 | exact Pu.fe ty_fa43_0) ?_
  refine RK.tk (Pu.ld ty_sc3) ?_
  refine RK.tk (by first | exact Pu.fb ty_fa43_0 | exact Pu.fe ty_fa43_0) ?_
  refine RK.tk (Pu.ld ty_sc3) ?_
  refine RK.tk Pu.ml ?_
  refine RK.tk Pu.qu ?_
  refine RK.tk (by first | exact Pu.fb ty_fa139_0 | exact Pu.fe ty_fa139_0) ?_
  refine RK.tk (by first | exact Pu.fb ty_fa79_9 | exact Pu.fe ty_fa79_9) ?_
  refine RK.tk (by first | exact Pu.fb ty_fa43_1 | exact Pu.fe ty_fa43_1) ?_
  refine RK.tk (Pu.ld ty_sc3) ?_
  refine RK.tk (by first | exact Pu.fb ty_fa43_1 | exact Pu.fe ty_fa43_1) ?_
  refine RK.tk (Pu.ld ty_sc3) ?_
  refine RK.tk Pu.ml ?_
  refine RK.keep ?_
  refine RK.keep ?_
  refine RK.ch [false, true] ?_ trivial
  refine WK.cr rfl (enters Tryz.func117 rfl rfl) (fun w hw => by
      exact ceil_any _ _ _ (by omega) (by omega) (by omega) (by omega)) ?_
  refine WK.p Pu.bd ?_
  refine WK.n ?_
  first | refine TL.st ty_sz43 ?_ | refine TL.se ty_sz43 ?_
  refine TL.nil ?_
  refine TQ.thenN (hY3 _ _ ?_)
  refine TW.ret ?_
  refine TQ.ret Tryz.results74 rfl ((RV.cs ty_ag43 .nil)) ?_
  exact fun w hw => Ret.of hw
def carR (f g : Nat → Int) : List Value := if camCode f g = 0 then [.agg #[.int .i64 (carLo f g), .int .i64 (carHi f g)], .int .i64 0] else [.agg #[.int .i64 0, .int .i64 0], .int .i64 (camCode f g)]
set_option maxRecDepth 100000 in
theorem carries_any (f g : Nat → Int) (m : Bool) (w : World) : Calls Tryz.prog 34 #[.agg (breedL f).toArray, .agg (camL g m).toArray] w (Ret w (.tuple (carR f g).toArray)) := by
  refine K_enter (S := []) (K := []) Tryz.func34 rfl Tryz.ntmps34 rfl (Sat.start _) ?_
  refine TW.seq fun Y1 hY1 => ?_
  refine TW.region ?_
  refine TL.m Mk.bx ?_
  intro b1
  refine TL.m Mk.bx ?_
  intro b2
  refine TL.m (Mk.al ty_zr43) ?_
  intro b3
  refine TL.p Pu.as ?_
  refine TL.nil ?_
  refine TQ.thenN (hY1 _ _ ?_)
  refine TW.seq fun Y2 hY2 => ?_
  refine TW.seq fun Y3 hY3 => ?_
  refine TW.region ?_
  refine TL.p (Pu.lds ty_ag79) ?_
  refine TL.p (Pu.lds ty_ag81) ?_
  refine TL.cr rfl (enters Tryz.func73 rfl rfl) (fun w hw => by
      exact checkCamel_any f g m _) ?_
  refine TL.p Pu.as ?_
  refine TL.nil ?_
  refine TQ.thenN (hY3 _ _ ?_)
  refine TW.seq fun Y4 hY4 => ?_
  refine TW.region ?_
  refine TL.p Pu.mv ?_
  refine TL.p Pu.ne ?_
  refine TL.nil ?_
  refine TQ.thenN (hY4 _ _ ?_)
  refine TW.cond rfl (fun hc0 => ?_) (fun hc0 => ?_)
  · try simp only [decide_eq_true_eq, decide_eq_false_iff_not, Bool.not_eq_true', Bool.not_eq_false', Bool.and_eq_true, Bool.or_eq_true, Bool.and_eq_false_iff, Bool.or_eq_false_iff, Int.not_lt, Int.not_le] at hc0
    have hbad : camCode f g ≠ 0 := hc0
    refine TW.seq fun Y5 hY5 => ?_
    refine TW.region ?_
    refine TL.p Pu.bd ?_
    refine TL.p Pu.mv ?_
    first | refine TL.st ty_sz43 ?_ | refine TL.se ty_sz43 ?_
    refine TL.p Pu.as ?_
    refine TL.nil ?_
    refine TQ.thenN (hY5 _ _ ?_)
    refine TW.ret ?_
    refine TQ.thenR ?_
    refine TQ.ret Tryz.results34 rfl ((RV.cs ty_ag43 (.tmp rfl .nil))) ?_
    exact fun w hw => ⟨by unfold carR; rw [if_neg hbad]; rfl, Chg.ext hw.chg⟩
  · try simp only [decide_eq_true_eq, decide_eq_false_iff_not, Bool.not_eq_true', Bool.not_eq_false', Bool.and_eq_true, Bool.or_eq_true, Bool.and_eq_false_iff, Bool.or_eq_false_iff, Int.not_lt, Int.not_le] at hc0
    have hgood : camCode f g = 0 := by simpa using hc0
    obtain ⟨hf, hg⟩ := camCode_ok hgood
    refine TW.skip ?_
    refine TQ.thenN (hY2 _ _ ?_)
    refine TW.seq fun Y6 hY6 => ?_
    refine TW.region ?_
    refine TL.p (Pu.lds ty_ag79) ?_
    refine TL.p (Pu.lds ty_ag81) ?_
    refine TL.p Pu.bd ?_
    refine TL.cr rfl (enters Tryz.func74 rfl rfl) (fun w hw => by
        exact carries1_any f g m _ hf hg) ?_
    first | refine TL.st ty_sz43 ?_ | refine TL.se ty_sz43 ?_
    refine TL.p Pu.as ?_
    refine TL.nil ?_
    refine TQ.thenN (hY6 _ _ ?_)
    refine TW.ret ?_
    refine TQ.ret Tryz.results34 rfl ((RV.cs ty_ag43 (.tmp rfl .nil))) ?_
    exact fun w hw => ⟨by unfold carR; rw [if_pos hgood]; first | rfl | skip, Chg.ext hw.chg⟩
section
variable {c : Cx} {F : Fr} {K : List Fact} {d : Option Tmp} {ty : TypeId} {pos : String} {af : Array Edge} {g : Option (Nat × Bool)} {k : IntKind} {i j m n : Int} {x y z u : Operand}
end
end Go.Proofs.YtjephihlkjpohaaGreatDoor
namespace Go.Proofs.YtjephihlkjpohaaGreatDoor
set_option linter.all false
set_option linter.unusedVariables false
set_option linter.unusedSimpArgs false
open Go.RowKit
theorem KSub.val {K K' L : List Fact} {b : Nat} {E : TypeId} {k : IntKind} {i j : Int} (hp : Pick K (.blk b E [.int k i]) K') (e : i = j) (h : KSub K' L) : KSub K (.blk b E [.int k j] :: L) := by
  subst e; exact .cons hp h
def readyV (bal wl wh cl ch : Int) : Int := if ch < wl then 0 else if bal = 2 ∧ cl < wh then 1 else bal
theorem balV_form (a b c d e : Int) : balV a b c d e = 0 ∨ balV a b c d e = 1 ∨ balV a b c d e = 2 := by
  unfold balV
  split
  · exact .inr (.inr rfl)
  · split
    · exact .inl rfl
    · exact .inr (.inl rfl)
def readyC (np : Nat) (pk : Nat → Nat → Int) (l : Nat → Nat) (v : Nat → Nat → Int) (b : Int) (f g : Nat → Int) : Int :=
  if check1 np pk l v = 0 then (if camCode f g = 0 then (if inB5 0 1000000000 b then 0 else 2) else camCode f g) else check1 np pk l v
def readyF (pk : Nat → Nat → Int) (l : Nat → Nat) (v : Nat → Nat → Int) (b : Int) (f g : Nat → Int) : Int :=
  readyV (balF pk l v b) (wlo pk (catI l v) (tot l 3)) (whi pk (catI l v) (tot l 3)) (carLo f g) (carHi f g)
def readyR (np : Nat) (pk : Nat → Nat → Int) (l : Nat → Nat) (v : Nat → Nat → Int) (b : Int) (f g : Nat → Int) : Int := if readyC np pk l v b f g = 0 then readyF pk l v b f g else 0
theorem readyC_ok {np : Nat} {pk : Nat → Nat → Int} {l : Nat → Nat} {v : Nat → Nat → Int} {b : Int} {f g : Nat → Int} (h1 : check1 np pk l v = 0) (h2 : camCode f g = 0) (h3 : inB5 0 1000000000 b = true) : readyC np pk l v b f g = 0 := by
  unfold readyC; rw [if_pos h1, if_pos h2, h3]; rfl
theorem carR_ok {f g : Nat → Int} (h : camCode f g = 0) : carR f g = [.agg #[.int .i64 (carLo f g), .int .i64 (carHi f g)], .int .i64 (camCode f g)] := by
  unfold carR; rw [if_pos h, h]
theorem carR_no {f g : Nat → Int} (h : camCode f g ≠ 0) : carR f g = [.agg #[.int .i64 0, .int .i64 0], .int .i64 (camCode f g)] := by
  unfold carR; rw [if_neg h]
def canLo (f g : Nat → Int) : Int := if camCode f g = 0 then carLo f g else 0
def canHi (f g : Nat → Int) : Int := if camCode f g = 0 then carHi f g else 0
theorem carR_form (f g : Nat → Int) : carR f g = [.agg #[.int .i64 (canLo f g), .int .i64 (canHi f g)], .int .i64 (camCode f g)] := by
  unfold canLo canHi
  by_cases h : camCode f g = 0
  · rw [if_pos h, if_pos h]; exact carR_ok h
  · rw [if_neg h, if_neg h]; exact carR_no h
theorem need_self (e : Int) (w : World) : Calls Tryz.prog 76 #[.bool (decide (e = 0)), .int .i64 e] w (Try w errs e (.tuple #[])) := by
  refine K_enter (S := []) (K := []) Tryz.func76 rfl Tryz.ntmps76 rfl (Sat.start _) ?_
  refine TW.seq fun Y1 hY1 => ?_
  refine TW.region ?_
  refine TL.p Pu.mv ?_
  refine TL.p Pu.no ?_
  refine TL.nil ?_
  refine TQ.thenN (hY1 _ _ ?_)
  refine TW.cond rfl (fun hc0 => ?_) (fun hc0 => ?_)
  · try simp only [decide_eq_true_eq, decide_eq_false_iff_not, Bool.not_eq_true', Bool.not_eq_false', Bool.and_eq_true, Bool.or_eq_true, Bool.and_eq_false_iff, Bool.or_eq_false_iff, Int.not_lt, Int.not_le] at hc0
    have hb : e ≠ 0 := by simpa using hc0
    refine TW.region ?_
    refine TL.p Pu.mv ?_
    refine TL.p Pu.fc ?_
    refine TL.pn rfl (by intro w; first | (go_simp; done) | (go_simp; rfl)) ?_
    refine TQ.pan rfl ?_
    exact fun w hw => Try.no (L := []) hb hw
  · try simp only [decide_eq_true_eq, decide_eq_false_iff_not, Bool.not_eq_true', Bool.not_eq_false', Bool.and_eq_true, Bool.or_eq_true, Bool.and_eq_false_iff, Bool.or_eq_false_iff, Int.not_lt, Int.not_le] at hc0
    have hb : e = 0 := by simpa using hc0
    refine TW.skip ?_
    refine TQ.end Tryz.results76 rfl (.nil) ?_
    exact fun w hw => Try.ok (L := []) hb hw
set_option maxRecDepth 100000 in
set_option maxHeartbeats 800000 in
theorem ready1_any {W0 w : World} {A : Option Addr} {np cp bp bt bf bg bb x : Nat} {pk : Nat → Nat → Int} {a : Nat → Option Addr} {l c : Nat → Nat} {v : Nat → Nat → Int} {b : Int} {f g : Nat → Int} {m : Bool}
    (hL : Lay1 W0 A np pk a l v) (hb : Below W0.heap.size W0 w) (hS : ∀ b ∈ [x], W0.heap.size ≤ b)
    (h1 : OldB w bp [.slice A np cp]) (h2 : OldB w bt (tieL a l c)) (h3 : OldB w bb [.int .i64 b]) (h4 : OldB w bf (breedL f)) (h5 : OldB w bg (camL g m)) (n1 : bp ∉ [x]) (n2 : bt ∉ [x]) (n3 : bb ∉ [x]) (n4 : bf ∉ [x]) (n5 : bg ∉ [x])
    (hM : Sat [x] w [.blk x 5 [.int .u8 0]] w) :
    Doing Tryz.prog 75 #[.pointer (some ⟨bp, 0, none⟩), .pointer (some ⟨bt, 0, none⟩), .pointer (some ⟨bf, 0, none⟩), .pointer (some ⟨bg, 0, none⟩), .pointer (some ⟨bb, 0, none⟩), .pointer (some ⟨x, 0, none⟩)] [.blk x 5 [.int .u8 0]] Unit
      (fun _ => if readyC np pk l v b f g = 0 then [.blk x 5 [.int .u8 (readyF pk l v b f g)]] else [.blk x 5 [.int .u8 0]]) (readyC np pk l v b f g) w := by
  have hnp := hL.hnp
  have ap1 := apart_of n1
  have ap2 := apart_of n2
  have ap3 := apart_of n3
  have ap4 := apart_of n4
  have ap5 := apart_of n5
  have hL1 := hL.ext hb
  refine K_enter (args := [.pointer (some ⟨bp, 0, none⟩), .pointer (some ⟨bt, 0, none⟩), .pointer (some ⟨bf, 0, none⟩), .pointer (some ⟨bg, 0, none⟩), .pointer (some ⟨bb, 0, none⟩), .pointer (some ⟨x, 0, none⟩)]) (S := [x]) (K := [.blk x 5 [.int .u8 0]]) Tryz.func75 rfl Tryz.ntmps75 rfl hM ?_
  refine TW.seq fun Y1 hY1 => ?_
  refine TW.region ?_
  refine TL.p (by first | exact (Pu.ld ty_sc22) | exact (Pu.ldo ty_sc22)) ?_
  refine TL.p (by first | exact (Pu.lds ty_ag36) | exact (Pu.ldso ty_ag36)) ?_
  refine TL.m Mk.bl ?_
  intro b1
  refine TL.ct rfl (enters Tryz.func47 rfl rfl) (fun w hw => by
      have hLw := (hL.ext (old_below hb hw hS)).lay (c := c) (b := b1) (E := 36) (hw.holds (.blk b1 36 (tieL a l c)) (by simp [tieL]))
      exact hLw.check) (fun hp1 => ?_) (fun hp1 => ?_)
  rotate_left
  · have hq1 : check1 np pk l v ≠ 0 := hp1
    have hcode : readyC np pk l v b f g = check1 np pk l v := if_neg hq1
    refine TQ.thenP ?_
    refine TQ.pan rfl ?_
    exact fun w hw => Doing.no () (by first | exact hp3 | exact hp2 | exact hp1) hcode (fun h => if_neg h) hw (by repeat (first | exact KSub.nil | refine KSub.cons (by repeat (first | exact Pick.hd | apply Pick.tl)) ?_))
  refine TL.nil ?_
  refine TQ.thenN (hY1 _ _ ?_)
  refine TW.seq fun Y2 hY2 => ?_
  refine TW.region ?_
  refine TL.p (by first | exact (Pu.lds ty_ag79) | exact (Pu.ldso ty_ag79)) ?_
  refine TL.p (by first | exact (Pu.lds ty_ag81) | exact (Pu.ldso ty_ag81)) ?_
  refine TL.cr rfl (enters Tryz.func34 rfl rfl) (fun w hw => by
      have h9 := carries_any f g m w
      rw [carR_form] at h9
      exact h9) ?_
  refine TL.p Pu.mv ?_
  refine TL.p Pu.ex ?_
  refine TL.p Pu.ex ?_
  refine TL.m (Mk.al ty_zr43) ?_
  intro b2
  first | refine TL.st ty_sz43 ?_ | refine TL.se ty_sz43 ?_
  refine TL.p Pu.as ?_
  refine TL.nil ?_
  refine TQ.thenN (hY2 _ _ ?_)
  refine TW.seq fun Y3 hY3 => ?_
  refine TW.region ?_
  refine TL.p Pu.mv ?_
  refine TL.p Pu.eq ?_
  refine TL.p Pu.mv ?_
  refine TL.ct rfl (enters Tryz.func76 rfl rfl) (fun w hw => by
      exact need_self (camCode f g) _) (fun hp2 => ?_) (fun hp2 => ?_)
  rotate_left
  · have hq1 : check1 np pk l v = 0 := hp1
    have hcode : readyC np pk l v b f g = camCode f g := by unfold readyC; rw [if_pos hq1, if_neg hp2]
    refine TQ.thenP ?_
    refine TQ.pan rfl ?_
    exact fun w hw => Doing.no () (by first | exact hp3 | exact hp2 | exact hp1) hcode (fun h => if_neg h) hw (by repeat (first | exact KSub.nil | refine KSub.cons (by repeat (first | exact Pick.hd | apply Pick.tl)) ?_))
  refine TL.nil ?_
  refine TQ.thenN (hY3 _ _ ?_)
  refine TW.seq fun Y4 hY4 => ?_
  refine TW.region ?_
  refine TL.p (by first | exact (Pu.ld ty_sc3) | exact (Pu.ldo ty_sc3)) ?_
  refine TL.ct rfl (enters Tryz.func48 rfl rfl) (fun w hw => by
      exact bounded_any _ _) (fun hp3 => ?_) (fun hp3 => ?_)
  rotate_left
  · have hq1 : check1 np pk l v = 0 := hp1
    have hcode : readyC np pk l v b f g = (if inB5 0 1000000000 b then 0 else 2) := by unfold readyC; rw [if_pos hq1, if_pos hp2]
    refine TQ.thenP ?_
    refine TQ.pan rfl ?_
    exact fun w hw => Doing.no () (by first | exact hp3 | exact hp2 | exact hp1) hcode (fun h => if_neg h) hw (by repeat (first | exact KSub.nil | refine KSub.cons (by repeat (first | exact Pick.hd | apply Pick.tl)) ?_))
  refine TL.nil ?_
  refine TQ.thenN (hY4 _ _ ?_)
  refine TW.seq fun Y5 hY5 => ?_
  refine TW.dw 5 ?_
  refine RK.tk (by first | exact (Pu.lds ty_ag36) | exact (Pu.ldso ty_ag36)) ?_
  refine RK.tk (by first | exact (Pu.ld ty_sc22) | exact (Pu.ldo ty_sc22)) ?_
  refine RK.keep ?_
  refine RK.keep ?_
  refine RK.float [.slice none 0 0, .slice none 0 0, .slice none 0 0, .slice none 0 0] ?_
  refine RK.ch [false, true] ?_ ⟨ty_zr112, trivial⟩
  refine WK.call rfl (enters Tryz.func51 rfl rfl) rfl (fun w hw => by
      have hLw := hL.ext (old_below hb hw hS)
      exact rests_any hLw.hG hnp (check1_ok hp1).2.1 hLw.hR) ?_
  rintro ⟨Ar, cr⟩
  refine WK.p Pu.bd ?_
  refine WK.n ?_
  intro b3
  first | refine TL.st ty_sz112 ?_ | refine TL.se ty_sz112 ?_
  refine TL.nil ?_
  refine TQ.thenN (hY5 _ _ ?_)
  refine TW.seq fun Y6 hY6 => ?_
  refine TW.dw 5 ?_
  refine RK.tk (by first | exact (Pu.lds ty_ag112) | exact (Pu.ldso ty_ag112)) ?_
  refine RK.tk (by first | exact (Pu.lds ty_ag36) | exact (Pu.ldso ty_ag36)) ?_
  refine RK.keep ?_
  refine RK.keep ?_
  refine RK.float [.int .i64 0, .int .i64 0] ?_
  refine RK.ch [false, false] ?_ ⟨ty_zr43, trivial⟩
  refine WK.call rfl (enters Tryz.func72 rfl rfl) rfl (fun w hw => by
      have hLw := hL.ext (old_below hb hw hS)
      have h9 := all_any (a := a) (l := l) (c := c) (v := v) (by have := hL.hL; omega) hLw.hI
      rw [catN_catI] at h9
      exact h9) ?_
  rintro ⟨Ac, cc⟩
  refine WK.cr rfl (enters Tryz.func71 rfl rfl) (fun w hw => by
      have hLw := hL.ext (old_below hb hw hS)
      obtain ⟨k1, k2, k3, k4⟩ := check1_ok hp1
      rw [tot3] at k4
      have hRr := OwnR.rdr (hw.holds (.own Ar np cr 43 2 (fun q => spL (rl (pk q)) (rh (pk q)))) (by simp))
      exact weight_any (a := a) (l := l) (c := c) (Ar := Ar) (cr := cr) (v := catI l v) (RestOk.of_packs k2) (show tot l 3 ≤ 1000 by rw [tot3]; omega) (inx_cat k3) hRr (OwnR.rdr (hw.holds (.own Ac (tot l 3) cc 3 1 (fun k => [.int .i64 (catI l v k)])) (by simp)))) ?_
  refine WK.n ?_
  intro b4
  first | refine TL.st ty_sz43 ?_ | refine TL.se ty_sz43 ?_
  refine TL.nil ?_
  refine TQ.thenN (hY6 _ _ ?_)
  refine TW.seq fun Y7 hY7 => ?_
  refine TW.region ?_
  refine TL.p (by first | exact (Pu.lds ty_ag112) | exact (Pu.ldso ty_ag112)) ?_
  refine TL.p (by first | exact (Pu.ld ty_sc3) | exact (Pu.ldo ty_sc3)) ?_
  refine TL.cr rfl (enters Tryz.func68 rfl rfl) (fun w hw => by
      have hLw := hL.ext (old_below hb hw hS)
      obtain ⟨k1, k2, k3, k4⟩ := check1_ok hp1
      rw [tot3] at k4
      have hRr := OwnR.rdr (hw.holds (.own Ar np cr 43 2 (fun q => spL (rl (pk q)) (rh (pk q)))) (by simp))
      have hbb := need_yes (by decide) hp3
      simp only [inB5, Bool.and_eq_true, decide_eq_true_eq] at hbb
      have hl2 : ∀ j, j < 2 → l j ≤ 1000 := fun j hj => by
        have : j = 0 ∨ j = 1 := by omega
        rcases this with rfl | rfl <;> omega
      exact balance_any (a := a) (l := l) (c := c) (Ar := Ar) (cr := cr) (RestOk.of_packs k2) (by omega) hl2 (fun j hj => k3 j (by omega)) hRr (fun j hj => hLw.hI j (by omega))) ?_
  first | refine TL.st ty_sz5 ?_ | refine TL.se ty_sz5 ?_
  refine TL.nil ?_
  refine TQ.thenN (hY7 _ _ ?_)
  refine TW.seq fun Y8 hY8 => ?_
  refine TW.seq fun Y9 hY9 => ?_
  refine TW.region ?_
  refine TL.p (by first | exact Pu.fb ty_fa43_0 | exact Pu.fe ty_fa43_0) ?_
  refine TL.p (by first | exact (Pu.ld ty_sc3) | exact (Pu.ldo ty_sc3)) ?_
  refine TL.p (by first | exact Pu.fb ty_fa43_1 | exact Pu.fe ty_fa43_1) ?_
  refine TL.p (by first | exact (Pu.ld ty_sc3) | exact (Pu.ldo ty_sc3)) ?_
  refine TL.p Pu.gt ?_
  refine TL.nil ?_
  refine TQ.thenN (hY9 _ _ ?_)
  refine TW.cond rfl (fun hc0 => ?_) (fun hc0 => ?_)
  · try simp only [decide_eq_true_eq, decide_eq_false_iff_not, Bool.not_eq_true', Bool.not_eq_false', Bool.and_eq_true, Bool.or_eq_true, Bool.and_eq_false_iff, Bool.or_eq_false_iff, Int.not_lt, Int.not_le] at hc0
    refine TW.region ?_
    first | refine TL.st ty_sz5 ?_ | refine TL.se ty_sz5 ?_
    refine TL.nil ?_
    refine TQ.thenN (hY8 _ _ ?_)
    refine TW.seq fun Y10 hY10 => ?_
    refine TW.region ?_
    refine TL.p (by first | exact (Pu.ld ty_sc5) | exact (Pu.ldo ty_sc5)) ?_
    refine TL.p Pu.eq ?_
    refine TL.p Pu.mv ?_
    refine TL.guard (t := 44) rfl (fun hg1 => ?_) (fun hg1 => ?_)
    · try simp only [decide_eq_true_eq, decide_eq_false_iff_not, Bool.not_eq_true', Bool.not_eq_false', Int.natCast_pos] at hg1
      refine TL.gd (by first | exact Pu.fb ty_fa43_1 | exact Pu.fe ty_fa43_1) ?_
      refine TL.gd (by first | exact (Pu.ld ty_sc3) | exact (Pu.ldo ty_sc3)) ?_
      refine TL.gd (by first | exact Pu.fb ty_fa43_0 | exact Pu.fe ty_fa43_0) ?_
      refine TL.gd (by first | exact (Pu.ld ty_sc3) | exact (Pu.ldo ty_sc3)) ?_
      refine TL.gd Pu.gt ?_
      refine TL.p Pu.kt ?_
      refine TL.nil ?_
      refine TQ.thenN (hY10 _ _ ?_)
      refine TW.cond rfl (fun hc1 => ?_) (fun hc1 => ?_)
      · try simp only [decide_eq_true_eq, decide_eq_false_iff_not, Bool.not_eq_true', Bool.not_eq_false', Bool.and_eq_true, Bool.or_eq_true, Bool.and_eq_false_iff, Bool.or_eq_false_iff, Int.not_lt, Int.not_le] at hc1
        refine TW.region ?_
        first | refine TL.st ty_sz5 ?_ | refine TL.se ty_sz5 ?_
        refine TL.nil ?_
        refine TQ.end Tryz.results75 rfl (.nil) ?_
        have hcar : canLo f g = carLo f g ∧ canHi f g = carHi f g := ⟨if_pos hp2, if_pos hp2⟩
        have hbal := balV_form (wlo pk (v 0) (l 0)) (whi pk (v 0) (l 0)) (wlo pk (v 1) (l 1)) (whi pk (v 1) (l 1)) b
        obtain ⟨e1, e2⟩ := hcar
        refine fun w hw => Doing.yes () (readyC_ok hp1 hp2 (need_yes (by decide) hp3)) (fun h => if_pos h) hw (KSub.val (by repeat (first | exact Pick.hd | apply Pick.tl)) ?_ KSub.nil)
        unfold readyF readyV balF
        rw [← e1, ← e2]
        unfold wlo whi at *
        generalize balV _ _ _ _ _ = B at *
        (repeat' split) <;> omega
      · try simp only [decide_eq_true_eq, decide_eq_false_iff_not, Bool.not_eq_true', Bool.not_eq_false', Bool.and_eq_true, Bool.or_eq_true, Bool.and_eq_false_iff, Bool.or_eq_false_iff, Int.not_lt, Int.not_le] at hc1
        refine TW.skip ?_
        refine TQ.end Tryz.results75 rfl (.nil) ?_
        have hcar : canLo f g = carLo f g ∧ canHi f g = carHi f g := ⟨if_pos hp2, if_pos hp2⟩
        have hbal := balV_form (wlo pk (v 0) (l 0)) (whi pk (v 0) (l 0)) (wlo pk (v 1) (l 1)) (whi pk (v 1) (l 1)) b
        obtain ⟨e1, e2⟩ := hcar
        refine fun w hw => Doing.yes () (readyC_ok hp1 hp2 (need_yes (by decide) hp3)) (fun h => if_pos h) hw (KSub.val (by repeat (first | exact Pick.hd | apply Pick.tl)) ?_ KSub.nil)
        unfold readyF readyV balF
        rw [← e1, ← e2]
        unfold wlo whi at *
        generalize balV _ _ _ _ _ = B at *
        (repeat' split) <;> omega
    · try simp only [decide_eq_true_eq, decide_eq_false_iff_not, Bool.not_eq_true', Bool.not_eq_false', Int.natCast_pos] at hg1
      refine TL.gs ?_
      refine TL.gs ?_
      refine TL.gs ?_
      refine TL.gs ?_
      refine TL.gs ?_
      refine TL.p Pu.kf ?_
      refine TL.nil ?_
      refine TQ.thenN (hY10 _ _ ?_)
      refine TW.condF rfl rfl ?_
      refine TW.skip ?_
      refine TQ.end Tryz.results75 rfl (.nil) ?_
      have hcar : canLo f g = carLo f g ∧ canHi f g = carHi f g := ⟨if_pos hp2, if_pos hp2⟩
      have hbal := balV_form (wlo pk (v 0) (l 0)) (whi pk (v 0) (l 0)) (wlo pk (v 1) (l 1)) (whi pk (v 1) (l 1)) b
      obtain ⟨e1, e2⟩ := hcar
      refine fun w hw => Doing.yes () (readyC_ok hp1 hp2 (need_yes (by decide) hp3)) (fun h => if_pos h) hw (KSub.val (by repeat (first | exact Pick.hd | apply Pick.tl)) ?_ KSub.nil)
      unfold readyF readyV balF
      rw [← e1, ← e2]
      unfold wlo whi at *
      generalize balV _ _ _ _ _ = B at *
      (repeat' split) <;> omega
  · try simp only [decide_eq_true_eq, decide_eq_false_iff_not, Bool.not_eq_true', Bool.not_eq_false', Bool.and_eq_true, Bool.or_eq_true, Bool.and_eq_false_iff, Bool.or_eq_false_iff, Int.not_lt, Int.not_le] at hc0
    refine TW.skip ?_
    refine TQ.thenN (hY8 _ _ ?_)
    refine TW.seq fun Y11 hY11 => ?_
    refine TW.region ?_
    refine TL.p (by first | exact (Pu.ld ty_sc5) | exact (Pu.ldo ty_sc5)) ?_
    refine TL.p Pu.eq ?_
    refine TL.p Pu.mv ?_
    refine TL.guard (t := 44) rfl (fun hg2 => ?_) (fun hg2 => ?_)
    · try simp only [decide_eq_true_eq, decide_eq_false_iff_not, Bool.not_eq_true', Bool.not_eq_false', Int.natCast_pos] at hg2
      refine TL.gd (by first | exact Pu.fb ty_fa43_1 | exact Pu.fe ty_fa43_1) ?_
      refine TL.gd (by first | exact (Pu.ld ty_sc3) | exact (Pu.ldo ty_sc3)) ?_
      refine TL.gd (by first | exact Pu.fb ty_fa43_0 | exact Pu.fe ty_fa43_0) ?_
      refine TL.gd (by first | exact (Pu.ld ty_sc3) | exact (Pu.ldo ty_sc3)) ?_
      refine TL.gd Pu.gt ?_
      refine TL.p Pu.kt ?_
      refine TL.nil ?_
      refine TQ.thenN (hY11 _ _ ?_)
      refine TW.cond rfl (fun hc1 => ?_) (fun hc1 => ?_)
      · try simp only [decide_eq_true_eq, decide_eq_false_iff_not, Bool.not_eq_true', Bool.not_eq_false', Bool.and_eq_true, Bool.or_eq_true, Bool.and_eq_false_iff, Bool.or_eq_false_iff, Int.not_lt, Int.not_le] at hc1
        refine TW.region ?_
        first | refine TL.st ty_sz5 ?_ | refine TL.se ty_sz5 ?_
        refine TL.nil ?_
        refine TQ.end Tryz.results75 rfl (.nil) ?_
        have hcar : canLo f g = carLo f g ∧ canHi f g = carHi f g := ⟨if_pos hp2, if_pos hp2⟩
        have hbal := balV_form (wlo pk (v 0) (l 0)) (whi pk (v 0) (l 0)) (wlo pk (v 1) (l 1)) (whi pk (v 1) (l 1)) b
        obtain ⟨e1, e2⟩ := hcar
        refine fun w hw => Doing.yes () (readyC_ok hp1 hp2 (need_yes (by decide) hp3)) (fun h => if_pos h) hw (KSub.val (by repeat (first | exact Pick.hd | apply Pick.tl)) ?_ KSub.nil)
        unfold readyF readyV balF
        rw [← e1, ← e2]
        unfold wlo whi at *
        generalize balV _ _ _ _ _ = B at *
        (repeat' split) <;> omega
      · try simp only [decide_eq_true_eq, decide_eq_false_iff_not, Bool.not_eq_true', Bool.not_eq_false', Bool.and_eq_true, Bool.or_eq_true, Bool.and_eq_false_iff, Bool.or_eq_false_iff, Int.not_lt, Int.not_le] at hc1
        refine TW.skip ?_
        refine TQ.end Tryz.results75 rfl (.nil) ?_
        have hcar : canLo f g = carLo f g ∧ canHi f g = carHi f g := ⟨if_pos hp2, if_pos hp2⟩
        have hbal := balV_form (wlo pk (v 0) (l 0)) (whi pk (v 0) (l 0)) (wlo pk (v 1) (l 1)) (whi pk (v 1) (l 1)) b
        obtain ⟨e1, e2⟩ := hcar
        refine fun w hw => Doing.yes () (readyC_ok hp1 hp2 (need_yes (by decide) hp3)) (fun h => if_pos h) hw (KSub.val (by repeat (first | exact Pick.hd | apply Pick.tl)) ?_ KSub.nil)
        unfold readyF readyV balF
        rw [← e1, ← e2]
        unfold wlo whi at *
        generalize balV _ _ _ _ _ = B at *
        (repeat' split) <;> omega
    · try simp only [decide_eq_true_eq, decide_eq_false_iff_not, Bool.not_eq_true', Bool.not_eq_false', Int.natCast_pos] at hg2
      refine TL.gs ?_
      refine TL.gs ?_
      refine TL.gs ?_
      refine TL.gs ?_
      refine TL.gs ?_
      refine TL.p Pu.kf ?_
      refine TL.nil ?_
      refine TQ.thenN (hY11 _ _ ?_)
      refine TW.condF rfl rfl ?_
      refine TW.skip ?_
      refine TQ.end Tryz.results75 rfl (.nil) ?_
      have hcar : canLo f g = carLo f g ∧ canHi f g = carHi f g := ⟨if_pos hp2, if_pos hp2⟩
      have hbal := balV_form (wlo pk (v 0) (l 0)) (whi pk (v 0) (l 0)) (wlo pk (v 1) (l 1)) (whi pk (v 1) (l 1)) b
      obtain ⟨e1, e2⟩ := hcar
      refine fun w hw => Doing.yes () (readyC_ok hp1 hp2 (need_yes (by decide) hp3)) (fun h => if_pos h) hw (KSub.val (by repeat (first | exact Pick.hd | apply Pick.tl)) ?_ KSub.nil)
      unfold readyF readyV balF
      rw [← e1, ← e2]
      unfold wlo whi at *
      generalize balV _ _ _ _ _ = B at *
      (repeat' split) <;> omega
set_option maxRecDepth 100000 in
set_option maxHeartbeats 1000000 in
theorem loadReady_any {w : World} {A : Option Addr} {np cp : Nat} {pk : Nat → Nat → Int} {a : Nat → Option Addr} {l c : Nat → Nat} {v : Nat → Nat → Int} {b : Int} {f g : Nat → Int} {m : Bool} (hL : Lay1 w A np pk a l v) :
    Calls Tryz.prog 35 #[.agg (breedL f).toArray, .agg (camL g m).toArray, .slice A np cp, .agg (tieL a l c).toArray, .int .i64 b] w (Ret w (.tuple #[.int .u8 (readyR np pk l v b f g), .int .i64 (readyC np pk l v b f g)])) := by
  refine K_enter (S := []) (K := []) Tryz.func35 rfl Tryz.ntmps35 rfl (Sat.start _) ?_
  refine TW.seq fun Y1 hY1 => ?_
  refine TW.region ?_
  refine TL.m Mk.bx ?_
  intro b1
  refine TL.m Mk.bx ?_
  intro b2
  refine TL.m Mk.bx ?_
  intro b3
  refine TL.m Mk.bx ?_
  intro b4
  refine TL.m Mk.bx ?_
  intro b5
  refine TL.m (Mk.al ty_zr5) ?_
  intro b6
  refine TL.p Pu.as ?_
  refine TL.nil ?_
  refine TQ.thenN (hY1 _ _ ?_)
  refine TW.seq fun Y2 hY2 => ?_
  refine TW.region ?_
  refine TL.p Pu.fn ?_
  refine TL.call rfl (enters Tryz.func45 rfl rfl) (M := [.blk b6 5 [.int .u8 0]]) (List.Perm.refl _) rfl (fun w hw => by
      have hB1 : Blk w b1 79 (breedL f).toArray := hw.holds (.blk b1 79 (breedL f)) (by simp [breedL])
      have hB2 : Blk w b2 81 (camL g m).toArray := hw.holds (.blk b2 81 (camL g m)) (by simp [camL])
      have hB3 : Blk w b3 22 #[.slice A np cp] := hw.holds (.blk b3 22 [.slice A np cp]) (by simp)
      have hB4 : Blk w b4 36 (tieL a l c).toArray := hw.holds (.blk b4 36 (tieL a l c)) (by simp [tieL])
      have hB5 : Blk w b5 3 #[.int .i64 b] := hw.holds (.blk b5 3 [.int .i64 b]) (by simp)
      have hnd := hw.nd
      simp [feet, Fact.foot] at hnd
      obtain ⟨hself, hge⟩ := feet_new (M := [.blk b6 5 [.int .u8 0]]) hw (List.Perm.refl _)
      have hbel := Chg.ext hw.chg
      have m1 : b1 ∉ [b6] := by simp; omega
      have m2 : b2 ∉ [b6] := by simp; omega
      have m3 : b3 ∉ [b6] := by simp; omega
      have m4 : b4 ∉ [b6] := by simp; omega
      have m5 : b5 ∉ [b6] := by simp; omega
      have ht := trying_any (M := [.blk b6 5 [.int .u8 0]]) (code := readyC np pk l v b f g) (fs := []) (cs := [.pointer (some ⟨b3, 0, none⟩), .pointer (some ⟨b4, 0, none⟩), .pointer (some ⟨b1, 0, none⟩), .pointer (some ⟨b2, 0, none⟩), .pointer (some ⟨b5, 0, none⟩), .pointer (some ⟨b6, 0, none⟩)]) (enters Tryz.func75 rfl rfl) hself fun w' hw' =>
        ready1_any (c := c) (cp := cp) hL (old_below hbel hw' hge) hge ((OldB.of_blk (cs := [_]) hB3).sat hw' m3) ((OldB.of_blk hB4).sat hw' m4) ((OldB.of_blk (cs := [_]) hB5).sat hw' m5) ((OldB.of_blk hB1).sat hw' m1) ((OldB.of_blk hB2).sat hw' m2) m3 m4 m5 m1 m2 hw'.self
      refine Calls.mono (R' := fun e w' => ∃ x : Unit, e = .returned (.int .i64 (readyC np pk l v b f g)) ∧ Sat (feet [.blk b6 5 [.int .u8 0]]) w [.blk b6 5 [.int .u8 (readyR np pk l v b f g)]] w') ht ?_
      rintro e w' ⟨x, he, hs⟩
      refine ⟨(), he, ?_⟩
      unfold readyR
      by_cases h0 : readyC np pk l v b f g = 0
      · replace hs : Sat _ w (if readyC np pk l v b f g = 0 then _ else _) w' := hs
        rw [if_pos h0] at hs
        rw [if_pos h0]
        exact hs
      · replace hs : Sat _ w (if readyC np pk l v b f g = 0 then _ else _) w' := hs
        rw [if_neg h0] at hs
        rw [if_neg h0]
        exact hs) ?_
  rintro ⟨⟩
  refine TL.p Pu.as ?_
  refine TL.nil ?_
  refine TQ.thenN (hY2 _ _ ?_)
  refine TW.seq fun Y3 hY3 => ?_
  refine TW.region ?_
  refine TL.p (Pu.ld ty_sc5) ?_
  refine TL.p Pu.mv ?_
  first | refine TL.st ty_sz5 ?_ | refine TL.se ty_sz5 ?_
  refine TL.p Pu.as ?_
  refine TL.nil ?_
  refine TQ.thenN (hY3 _ _ ?_)
  refine TW.ret ?_
  refine TQ.ret Tryz.results35 rfl ((RV.c1 ty_sc5 (.tmp rfl .nil))) ?_
  exact fun w hw => Ret.of hw
end Go.Proofs.YtjephihlkjpohaaGreatDoor
namespace Go.Proofs.YtjephihlkjpohaaGreatDoor
set_option linter.all false
set_option linter.unusedVariables false
set_option linter.unusedSimpArgs false
open Go.RowKit
structure SCx (w : World) (M : List Nat) (bP bN bV bC bR bB : Nat) (Ap Av Ac Ar : Option Addr) (np cp nc cc cv cr : Nat) (fv : Value) (wv cans r0 r1 : Nat → Int) (b : Int) : Prop where
  oP : OldB w bP [.slice Ap np cp]
  oN : OldB w bN [fv]
  oV : OldB w bV [.slice Av np cv]
  oC : OldB w bC [.slice Ac nc cc]
  oR : OldB w bR [.slice Ar np cr]
  oB : OldB w bB [.int .i64 b]
  nP : bP ∉ M
  nN : bN ∉ M
  nV : bV ∉ M
  nC : bC ∉ M
  nR : bR ∉ M
  nB : bB ∉ M
  rV : RdR w 1 Av np (fun k => [.int .i64 (wv k)])
  rC : RdR w 1 Ac nc (fun k => [.int .i64 (cans k)])
  rR : RdR w 2 Ar np (fun q => spL (r0 q) (r1 q))
  aV : 0 < np → Apart M Av
  aC : 0 < nc → Apart M Ac
  aR : 0 < np → Apart M Ar
  hr : RestOk r0 r1 np
  hnp : np ≤ 7
  hnc : nc ≤ 2
  hb : 0 ≤ b ∧ b ≤ 1000000000
  hw : ∀ k, k < np → 0 ≤ wv k ∧ wv k ≤ 1000000000000
theorem notin_sat {M M' : List Nat} {w w' : World} {K : List Fact} {q : Nat} (hs : Sat M w K w') (hM : ∀ b ∈ M', b ∈ feet K) (hq : q ∉ M) (hlt : q < w.heap.size) : q ∉ M' := fun hm => by
  rcases hs.ge q (hM q hm) with h | h
  · exact hq h
  · omega
theorem apart_sat {M M' : List Nat} {w w' : World} {K : List Fact} {sz n : Nat} {A : Option Addr} {r : Nat → List Value} (hs : Sat M w K w') (hM : ∀ b ∈ M', b ∈ feet K) (hR : RdR w sz A n r) (hA : 0 < n → Apart M A) : 0 < n → Apart M' A := fun hn q hq => by
  obtain ⟨b, o, e, hlt, _⟩ := hR.rd hn
  rw [e] at hq
  cases hq
  exact notin_sat hs hM (hA hn b (by rw [e]; rfl)) hlt
section
variable {w w' : World} {M M' : List Nat} {bP bN bV bC bR bB : Nat} {Ap Av Ac Ar : Option Addr} {np cp nc cc cv cr : Nat} {fv : Value} {wv cans r0 r1 : Nat → Int} {b : Int} {K : List Fact}
theorem SCx.sat (h : SCx w M bP bN bV bC bR bB Ap Av Ac Ar np cp nc cc cv cr fv wv cans r0 r1 b) (hs : Sat M w K w') (hM : ∀ b ∈ M', b ∈ feet K) : SCx w' M' bP bN bV bC bR bB Ap Av Ac Ar np cp nc cc cv cr fv wv cans r0 r1 b :=
  ⟨h.oP.sat hs h.nP, h.oN.sat hs h.nN, h.oV.sat hs h.nV, h.oC.sat hs h.nC, h.oR.sat hs h.nR, h.oB.sat hs h.nB,
    notin_sat hs hM h.nP h.oP.1, notin_sat hs hM h.nN h.oN.1, notin_sat hs hM h.nV h.oV.1, notin_sat hs hM h.nC h.oC.1, notin_sat hs hM h.nR h.oR.1, notin_sat hs hM h.nB h.oB.1,
    h.rV.sat0 hs h.aV, h.rC.sat0 hs h.aC, h.rR.sat0 hs h.aR, apart_sat hs hM h.rV h.aV, apart_sat hs hM h.rC h.aC, apart_sat hs hM h.rR h.aR, h.hr, h.hnp, h.hnc, h.hb, h.hw⟩
end
theorem wsum_bd {P : Nat} {wv : Nat → Int} : ∀ {i w : Nat}, (∀ k, k < i → 0 ≤ wv k ∧ wv k ≤ 1000000000000) → 0 ≤ wsum P wv i w ∧ wsum P wv i w ≤ i * 1000000000000
  | 0, _, _ => by simp [wsum]
  | i + 1, w, h => by
    have h1 := wsum_bd (P := P) (i := i) (w := w / P) fun k hk => h k (by omega)
    have h2 := h i (by omega)
    simp only [wsum]
    have e : ((i + 1 : Nat) : Int) * 1000000000000 = i * 1000000000000 + 1000000000000 := by omega
    split <;> omega
theorem leaf_small {P np nc way : Nat} {r0 r1 cans wv : Nat → Int} {b : Int} {st : St} (h : wsum P wv np way ≤ st.worth) : leafS P np nc r0 r1 cans wv b way st = st := if_pos h
theorem leaf_bad {P np nc way k : Nat} {r0 r1 cans wv : Nat → Int} {b : Int} {st : St} (hk : k < nc) (h : okT P np r0 r1 cans b way k = false) : leafS P np nc r0 r1 cans wv b way st = st := by
  unfold leafS
  split
  · rfl
  · rw [if_neg]
    intro h2
    have := allB_iff.1 h2 k hk
    rw [h] at this
    cases this
theorem leaf_good {P np nc way : Nat} {r0 r1 cans wv : Nat → Int} {b : Int} {st : St} (h : st.worth < wsum P wv np way) (h2 : ∀ k, k < nc → okT P np r0 r1 cans b way k = true) : leafS P np nc r0 r1 cans wv b way st = ⟨wsum P wv np way, way, nc⟩ := by
  unfold leafS
  rw [if_neg (by omega), if_pos (allB_iff.2 h2)]
abbrev SX : Type := (Nat → Option Addr) × (Nat → Nat) × (Option Addr × Nat) × (Nat → Option Addr) × (Nat → Nat)
def tA (A : Nat → Option Addr) (k j : Nat) : Option Addr := if j = 2 then none else A (2 * k + j)
def tC (c : Nat → Nat) (k j : Nat) : Nat := if j = 2 then 0 else c (2 * k + j)
theorem tie_rd {w : World} {A : Nat → Option Addr} {P np way k nc ns : Nat} (hA : ∀ i, i < ns → RdR w 1 (A i) (sln P np way i) (fun q => [.int .i64 (svl P np way i q)])) (hk : k < nc) (hns : ns = 2 * nc) : ∀ j, j < 3 → RdR w 1 (tA A k j) (tln P np way k j) (fun q => [.int .i64 (tvl P np way k j q)]) := fun j hj => by
  by_cases h : j = 2
  · subst h
    exact ⟨Rd.nil, fun i hi => by simp [tln] at hi⟩
  · have h1 := hA (2 * k + j) (by omega)
    simp only [tA, tln, tvl, if_neg h]
    exact h1
theorem tie_inx {P np way k : Nat} : ∀ j, j < 3 → Inx (tvl P np way k j) (tln P np way k j) np := fun j hj => by
  by_cases h : j = 2
  · subst h
    intro q hq
    simp [tln] at hq
  · simp only [tln, tvl, if_neg h]
    exact svl_inx P np way (2 * k + j)
theorem tln_le {P np way k j : Nat} (hnp : np ≤ 7) : tln P np way k j ≤ 7 := by
  unfold tln
  split
  · omega
  · have := sln_le P np way (2 * k + j); omega
theorem okT_no1 {P np way k : Nat} {r0 r1 cans : Nat → Int} {b : Int} (h : ¬ balV (wS r0 (svl P np way (2 * k)) (sln P np way (2 * k))) (wS r1 (svl P np way (2 * k)) (sln P np way (2 * k))) (wS r0 (svl P np way (2 * k + 1)) (sln P np way (2 * k + 1))) (wS r1 (svl P np way (2 * k + 1)) (sln P np way (2 * k + 1))) b = 2) : okT P np r0 r1 cans b way k = false := by
  unfold okT
  rw [decide_eq_false h]
  rfl
theorem okT_no2 {P np way k : Nat} {r0 r1 cans : Nat → Int} {b : Int} (h : ¬ wS r1 (catI (tln P np way k) (tvl P np way k)) (tot (tln P np way k) 3) ≤ cans k) : okT P np r0 r1 cans b way k = false := by
  unfold okT
  rw [decide_eq_false h, Bool.and_false]
theorem okT_yes {P np way k : Nat} {r0 r1 cans : Nat → Int} {b : Int} (h : balV (wS r0 (svl P np way (2 * k)) (sln P np way (2 * k))) (wS r1 (svl P np way (2 * k)) (sln P np way (2 * k))) (wS r0 (svl P np way (2 * k + 1)) (sln P np way (2 * k + 1))) (wS r1 (svl P np way (2 * k + 1)) (sln P np way (2 * k + 1))) b = 2) (h2 : wS r1 (catI (tln P np way k) (tvl P np way k)) (tot (tln P np way k) 3) ≤ cans k) : okT P np r0 r1 cans b way k = true := by
  unfold okT
  rw [decide_eq_true h, decide_eq_true h2]
  rfl
section
variable {w : World} {A : Nat → Option Addr} {c : Nat → Nat} {P np way k nc ns nr cr : Nat} {Ar : Option Addr} {r0 r1 : Nat → Int} {b : Int}
theorem tie_balance (hnp : np ≤ 7) (hA : ∀ i, i < ns → RdR w 1 (A i) (sln P np way i) (fun q => [.int .i64 (svl P np way i q)])) (hk : k < nc) (hns : ns = 2 * nc) (hr : RestOk r0 r1 np) (hb : 0 ≤ b ∧ b ≤ 1000000000) (hR : RdR w 2 Ar np (fun q => spL (r0 q) (r1 q))) :
    Calls Tryz.prog 68 #[.agg #[.slice (A (2 * k)) (sln P np way (2 * k)) (c (2 * k)), .slice (A (2 * k + 1)) (sln P np way (2 * k + 1)) (c (2 * k + 1)), .slice none 0 0, .slice Ar np cr], .int .i64 b] w
      (Ret w (.int .u8 (balV (wS r0 (svl P np way (2 * k)) (sln P np way (2 * k))) (wS r1 (svl P np way (2 * k)) (sln P np way (2 * k))) (wS r0 (svl P np way (2 * k + 1)) (sln P np way (2 * k + 1))) (wS r1 (svl P np way (2 * k + 1)) (sln P np way (2 * k + 1))) b))) := by
  have hI := tie_rd hA hk hns
  have h9 := balance_any (a := tA A k) (l := tln P np way k) (c := tC c k) (Ar := Ar) (cr := cr) (v := tvl P np way k) hr (b := b) (by omega) (fun j hj => by have := tln_le (P := P) (way := way) (k := k) (j := j) hnp; omega) (fun j hj => tie_inx j (by omega)) hR (fun j hj => hI j (by omega))
  simpa [tiedL, tA, tln, tC, tvl] using h9
theorem tie_all (hnp : np ≤ 7) (hA : ∀ i, i < ns → RdR w 1 (A i) (sln P np way i) (fun q => [.int .i64 (svl P np way i q)])) (hk : k < nc) (hns : ns = 2 * nc) :
    CallsK Tryz.prog 72 #[.agg #[.slice (A (2 * k)) (sln P np way (2 * k)) (c (2 * k)), .slice (A (2 * k + 1)) (sln P np way (2 * k + 1)) (c (2 * k + 1)), .slice none 0 0]] [] w (Option Addr × Nat) (fun x => .slice x.1 (tot (tln P np way k) 3) x.2) (fun x => [.own x.1 (tot (tln P np way k) 3) x.2 3 1 (fun q => [.int .i64 (catI (tln P np way k) (tvl P np way k) q)])]) := by
  have hI := tie_rd hA hk hns
  have t0 := tln_le (P := P) (way := way) (k := k) (j := 0) hnp
  have t1 := tln_le (P := P) (way := way) (k := k) (j := 1) hnp
  have t2 := tln_le (P := P) (way := way) (k := k) (j := 2) hnp
  have h9 := all_any (a := tA A k) (l := tln P np way k) (c := tC c k) (v := tvl P np way k) (by rw [tot3]; omega) hI
  rw [catN_catI] at h9
  have e : (tieL (tA A k) (tln P np way k) (tC c k)) = [.slice (A (2 * k)) (sln P np way (2 * k)) (c (2 * k)), .slice (A (2 * k + 1)) (sln P np way (2 * k + 1)) (c (2 * k + 1)), .slice none 0 0] := by simp [tieL, tA, tln, tC]
  rw [e] at h9
  exact h9
theorem tie_weight {Aq : Option Addr} {cq : Nat} (hnp : np ≤ 7) (hr : RestOk r0 r1 np) (hR : RdR w 2 Ar np (fun q => spL (r0 q) (r1 q))) (hQ : RdR w 1 Aq (tot (tln P np way k) 3) (fun q => [.int .i64 (catI (tln P np way k) (tvl P np way k) q)])) :
    Calls Tryz.prog 71 #[.agg #[.slice (A (2 * k)) (sln P np way (2 * k)) (c (2 * k)), .slice (A (2 * k + 1)) (sln P np way (2 * k + 1)) (c (2 * k + 1)), .slice none 0 0, .slice Ar np cr], .slice Aq (tot (tln P np way k) 3) cq] w
      (Ret w (.agg #[.int .i64 (wS r0 (catI (tln P np way k) (tvl P np way k)) (tot (tln P np way k) 3)), .int .i64 (wS r1 (catI (tln P np way k) (tvl P np way k)) (tot (tln P np way k) 3))])) := by
  have t0 := tln_le (P := P) (way := way) (k := k) (j := 0) hnp
  have t1 := tln_le (P := P) (way := way) (k := k) (j := 1) hnp
  have t2 := tln_le (P := P) (way := way) (k := k) (j := 2) hnp
  have h9 := weight_any (a := tA A k) (l := tln P np way k) (c := tC c k) (Ar := Ar) (cr := cr) (cp := cq) (v := catI (tln P np way k) (tvl P np way k)) hr (show tot (tln P np way k) 3 ≤ 1000 by rw [tot3]; omega) (inx_cat tie_inx) hR hQ
  have e : (tiedL (tA A k) (tln P np way k) (tC c k) Ar np cr) = [.slice (A (2 * k)) (sln P np way (2 * k)) (c (2 * k)), .slice (A (2 * k + 1)) (sln P np way (2 * k + 1)) (c (2 * k + 1)), .slice none 0 0, .slice Ar np cr] := by simp [tiedL, tA, tln, tC]
  rw [e] at h9
  exact h9
end
theorem tie_row {TB : Nat → Option Addr} {l Td : Nat → Nat} {A1 A2 : Option Addr} {d1 d2 k i : Nat} (hi : i < k + 1) :
    catR k (tieS TB l Td) (fun _ => [.slice A1 (l (2 * k)) d1, .slice A2 (l (2 * k + 1)) d2, .slice none 0 0]) i = tieS (updN (updN TB (2 * k) A1) (2 * k + 1) A2) l (updN (updN Td (2 * k) d1) (2 * k + 1) d2) i := by
  simp only [catR]
  by_cases h : i < k
  · have h1 : ¬ 2 * i = 2 * k + 1 := by omega
    have h2 : ¬ 2 * i = 2 * k := by omega
    have h3 : ¬ 2 * i + 1 = 2 * k + 1 := by omega
    have h4 : ¬ 2 * i + 1 = 2 * k := by omega
    rw [if_pos h]
    simp only [tieS, updN, if_neg h1, if_neg h2, if_neg h3, if_neg h4]
  · obtain rfl : i = k := by omega
    have h1 : ¬ 2 * i = 2 * i + 1 := by omega
    rw [if_neg h]
    simp only [tieS, updN, if_neg h1, if_true]
theorem ties_more {TB : Nat → Option Addr} {l Td : Nat → Nat} {v : Nat → Nat → Int} {A1 A2 : Option Addr} {d1 d2 k : Nat} :
    ownsK (updN (updN TB (2 * k) A1) (2 * k + 1) A2) l (updN (updN Td (2 * k) d1) (2 * k + 1) d2) v (2 * (k + 1)) =
      .own A2 (l (2 * k + 1)) d2 3 1 (fun q => [.int .i64 (v (2 * k + 1) q)]) :: .own A1 (l (2 * k)) d1 3 1 (fun q => [.int .i64 (v (2 * k) q)]) :: ownsK TB l Td v (2 * k) := by
  have h1 : ¬ 2 * k = 2 * k + 1 := by omega
  show ownsK _ _ _ _ (2 * k + 2) = _
  simp only [ownsK, updN, if_neg h1, if_true]
  rw [ownsK_congr (A2 := TB) (l2 := l) (c2 := Td) (v2 := v) fun i hi => ?_]
  have h2 : ¬ i = 2 * k + 1 := by omega
  have h3 : ¬ i = 2 * k := by omega
  simp only [updN, if_neg h2, if_neg h3, and_self]
theorem perm_tail3 {X Y Z : List Fact} : (X ++ (Y ++ Z)).Perm (Z ++ (Y ++ X)) := by
  refine List.perm_append_comm.trans ?_
  rw [List.append_assoc]
  exact (List.perm_append_comm.append_right _ |>.trans (by rw [List.append_assoc]) : ((Y ++ Z) ++ X).Perm (Z ++ (Y ++ X))) |> fun h => by simpa using h
set_option maxRecDepth 100000 in
set_option maxHeartbeats 1000000 in
theorem next_leaf {w : World} {P ns : Nat} {bP bN bS bV bW bC bR bB bT : Nat} {Sd Ap Av Ac Ar : Option Addr} {np cp nc cc cv cr way : Nat} {fv : Value} {wv cans r0 r1 : Nat → Int} {b : Int} {A : Nat → Option Addr} {c : Nat → Nat} {T : Option Addr × Nat} {TA : Nat → Option Addr} {Tc : Nat → Nat} {st : St}
    (hns : ns ≤ 2 * nc ∧ 2 * nc ≤ ns) (hM : Sat (feet (.blk bS 143 [.slice Sd ns ns] :: .own Sd ns ns 24 1 (fun s => [.slice (A s) (sln P np way s) (c s)]) :: .blk bW 3 [.int .i64 st.worth] :: .blk bT 23 [.slice T.1 st.n T.2] :: .own T.1 st.n T.2 36 3 (tieS TA (sln P np st.way) Tc) :: (ownsK A (sln P np way) c (svl P np way) ns ++ ownsK TA (sln P np st.way) Tc (svl P np st.way) (2 * st.n)))) w (.blk bS 143 [.slice Sd ns ns] :: .own Sd ns ns 24 1 (fun s => [.slice (A s) (sln P np way s) (c s)]) :: .blk bW 3 [.int .i64 st.worth] :: .blk bT 23 [.slice T.1 st.n T.2] :: .own T.1 st.n T.2 36 3 (tieS TA (sln P np st.way) Tc) :: (ownsK A (sln P np way) c (svl P np way) ns ++ ownsK TA (sln P np st.way) Tc (svl P np st.way) (2 * st.n))) w)
    (hX : SCx w (feet (.blk bS 143 [.slice Sd ns ns] :: .own Sd ns ns 24 1 (fun s => [.slice (A s) (sln P np way s) (c s)]) :: .blk bW 3 [.int .i64 st.worth] :: .blk bT 23 [.slice T.1 st.n T.2] :: .own T.1 st.n T.2 36 3 (tieS TA (sln P np st.way) Tc) :: (ownsK A (sln P np way) c (svl P np way) ns ++ ownsK TA (sln P np st.way) Tc (svl P np st.way) (2 * st.n)))) bP bN bV bC bR bB Ap Av Ac Ar np cp nc cc cv cr fv wv cans r0 r1 b) :
    CallsK Tryz.prog 79 #[.int .i64 np, .int .i64 (wsum P wv np way), .pointer (some ⟨bP, 0, none⟩), .pointer (some ⟨bN, 0, none⟩), .pointer (some ⟨bS, 0, none⟩), .pointer (some ⟨bV, 0, none⟩), .pointer (some ⟨bW, 0, none⟩), .pointer (some ⟨bC, 0, none⟩), .pointer (some ⟨bR, 0, none⟩), .pointer (some ⟨bB, 0, none⟩), .pointer (some ⟨bT, 0, none⟩)] (.blk bS 143 [.slice Sd ns ns] :: .own Sd ns ns 24 1 (fun s => [.slice (A s) (sln P np way s) (c s)]) :: .blk bW 3 [.int .i64 st.worth] :: .blk bT 23 [.slice T.1 st.n T.2] :: .own T.1 st.n T.2 36 3 (tieS TA (sln P np st.way) Tc) :: (ownsK A (sln P np way) c (svl P np way) ns ++ ownsK TA (sln P np st.way) Tc (svl P np st.way) (2 * st.n))) w SX (fun _ => .tuple #[])
      (fun x => .blk bS 143 [.slice Sd ns ns] :: .own Sd ns ns 24 1 (fun s => [.slice (x.1 s) (sln P np way s) (x.2.1 s)]) :: .blk bW 3 [.int .i64 (leafS P np nc r0 r1 cans wv b way st).worth] :: .blk bT 23 [.slice x.2.2.1.1 (leafS P np nc r0 r1 cans wv b way st).n x.2.2.1.2] :: .own x.2.2.1.1 (leafS P np nc r0 r1 cans wv b way st).n x.2.2.1.2 36 3 (tieS x.2.2.2.1 (sln P np (leafS P np nc r0 r1 cans wv b way st).way) x.2.2.2.2) :: (ownsK x.1 (sln P np way) x.2.1 (svl P np way) ns ++ ownsK x.2.2.2.1 (sln P np (leafS P np nc r0 r1 cans wv b way st).way) x.2.2.2.2 (svl P np (leafS P np nc r0 r1 cans wv b way st).way) (2 * (leafS P np nc r0 r1 cans wv b way st).n))) := by
  obtain ⟨oP, oN, oV, oC, oR, oB, nP, nN, nV, nC, nR, nB, rV, rC, rR, aV, aC, aR, hr, hnp, hnc, hb, hw⟩ := hX
  have ap1 := apart_of nP
  have ap2 := apart_of nC
  have ap3 := apart_of nR
  have ap4 := apart_of nB
  have hl : ∀ s, sln P np way s ≤ 7 := fun s => by have := sln_le P np way s; omega
  refine K_enter (S := feet _) (K := .blk bS 143 [.slice Sd ns ns] :: .own Sd ns ns 24 1 (fun s => [.slice (A s) (sln P np way s) (c s)]) :: .blk bW 3 [.int .i64 st.worth] :: .blk bT 23 [.slice T.1 st.n T.2] :: .own T.1 st.n T.2 36 3 (tieS TA (sln P np st.way) Tc) :: (ownsK A (sln P np way) c (svl P np way) ns ++ ownsK TA (sln P np st.way) Tc (svl P np st.way) (2 * st.n))) Tryz.func79 rfl Tryz.ntmps79 rfl hM ?_
  refine TW.seq fun Y1 hY1 => ?_
  refine TW.seq fun Y2 hY2 => ?_
  refine TW.region ?_
  refine TL.p Pu.mv ?_
  refine TL.p (by first | exact (Pu.ld ty_sc22) | exact (Pu.ldo ty_sc22)) ?_
  refine TL.p (Pu.ln Tryz.underlying22) ?_
  refine TL.p Pu.lt ?_
  refine TL.nil ?_
  refine TQ.thenN (hY2 _ _ ?_)
  refine TW.condF rfl ((by simp)) ?_
  refine TW.skip ?_
  refine TQ.thenN (hY1 _ _ ?_)
  refine TW.seq fun Y3 hY3 => ?_
  refine TW.seq fun Y4 hY4 => ?_
  refine TW.region ?_
  refine TL.p Pu.mv ?_
  refine TL.p (by first | exact (Pu.ld ty_sc3) | exact (Pu.ldo ty_sc3)) ?_
  refine TL.p Pu.le ?_
  refine TL.nil ?_
  refine TQ.thenN (hY4 _ _ ?_)
  refine TW.cond rfl (fun hc2 => ?_) (fun hc2 => ?_)
  · try simp only [decide_eq_true_eq, decide_eq_false_iff_not, Bool.not_eq_true', Bool.not_eq_false', Bool.and_eq_true, Bool.or_eq_true, Bool.and_eq_false_iff, Bool.or_eq_false_iff, Int.not_lt, Int.not_le] at hc2
    refine TW.ret ?_
    refine TQ.thenR ?_
    refine TQ.ret Tryz.results79 rfl (.nil) ?_
    exact fun w hw => ⟨(A, c, T, TA, Tc), rfl, by rw [leaf_small hc2]; exact hw⟩
  · try simp only [decide_eq_true_eq, decide_eq_false_iff_not, Bool.not_eq_true', Bool.not_eq_false', Bool.and_eq_true, Bool.or_eq_true, Bool.and_eq_false_iff, Bool.or_eq_false_iff, Int.not_lt, Int.not_le] at hc2
    refine TW.skip ?_
    refine TQ.thenN (hY3 _ _ ?_)
    refine TW.seq fun Y5 hY5 => ?_
    refine TW.region ?_
    refine TL.p Pu.as ?_
    refine TL.nil ?_
    refine TQ.thenN (hY5 _ _ ?_)
    refine TW.seq fun Y6 hY6 => ?_
    refine TW.seq fun Y7 hY7 => ?_
    refine TW.region ?_
    refine TL.p (by first | exact (Pu.ld ty_sc24) | exact (Pu.ldo ty_sc24)) ?_
    refine TL.p (Pu.ln Tryz.underlying24) ?_
    refine TL.p Pu.mv ?_
    refine TL.nil ?_
    refine TQ.thenN (hY7 _ _ ?_)
    refine TW.block ?_
    refine TW.loop4 (fun (k : Nat) (L : Option Addr × Nat) (TB : Nat → Option Addr) (Td : Nat → Nat) => [(72, .int .i64 (k : Int)), (71, .int .i64 (nc : Int)), (70, .slice Ac nc cc), (14, .slice L.1 k L.2), (0, .int .i64 (np : Int)), (1, .int .i64 (wsum P wv np way)), (2, .pointer (some ⟨bP, 0, none⟩)), (3, .pointer (some ⟨bN, 0, none⟩)), (4, .pointer (some ⟨bS, 0, none⟩)), (5, .pointer (some ⟨bV, 0, none⟩)), (6, .pointer (some ⟨bW, 0, none⟩)), (7, .pointer (some ⟨bC, 0, none⟩)), (8, .pointer (some ⟨bR, 0, none⟩)), (9, .pointer (some ⟨bB, 0, none⟩)), (10, .pointer (some ⟨bT, 0, none⟩))]) (fun k L TB Td => .own L.1 k L.2 36 3 (tieS TB (sln P np way) Td) :: .blk bS 143 [.slice Sd ns ns] :: .own Sd ns ns 24 1 (fun s => [.slice (A s) (sln P np way s) (c s)]) :: .blk bW 3 [.int .i64 st.worth] :: .blk bT 23 [.slice T.1 st.n T.2] :: .own T.1 st.n T.2 36 3 (tieS TA (sln P np st.way) Tc) :: (ownsK TB (sln P np way) Td (svl P np way) (2 * k) ++ (ownsK A (sln P np way) c (svl P np way) ns ++ ownsK TA (sln P np st.way) Tc (svl P np st.way) (2 * st.n)))) (fun k L TB Td => k ≤ nc ∧ ∀ j, j < k → okT P np r0 r1 cans b way j = true) (fun k L TB Td => nc - k) 0 (none, 0) (fun _ => none) (fun _ => 0) (by repeat (first | exact trivial | refine ⟨rfl, ?_⟩ | refine ⟨trivial, ?_⟩)) ?_ ?_ ?_
    · exact KSub.nilOwn (KSub.refl _)
    · exact ⟨by omega, fun j hj => by omega⟩
    rintro k L TB Td ⟨hk, hall⟩ Z1 hZ1
    refine TW.seq fun Y8 hY8 => ?_
    refine TW.region ?_
    refine TL.p Pu.lt ?_
    refine TL.nil ?_
    refine TQ.thenN (hY8 _ _ ?_)
    refine TW.seq fun Y9 hY9 => ?_
    refine TW.cond rfl (fun hc3 => ?_) (fun hc3 => ?_)
    · try simp only [decide_eq_true_eq, decide_eq_false_iff_not, Bool.not_eq_true', Bool.not_eq_false', Bool.and_eq_true, Bool.or_eq_true, Bool.and_eq_false_iff, Bool.or_eq_false_iff, Int.not_lt, Int.not_le] at hc3
      have hkn : k < nc := by omega
      have hA2 := aC (by omega)
      refine TW.skip ?_
      refine TQ.thenN (hY9 _ _ ?_)
      refine TW.seq fun Y10 hY10 => ?_
      refine TW.block ?_
      refine TW.seq fun Y11 hY11 => ?_
      refine TW.region ?_
      refine TL.p Pu.mv ?_
      refine TL.p (Pu.el ty_et24) ?_
      refine TL.p (by first | exact (Pu.ld ty_sc3) | exact (Pu.ldo ty_sc3)) ?_
      refine TL.p Pu.as ?_
      refine TL.p Pu.as ?_
      refine TL.nil ?_
      refine TQ.thenN (hY11 _ _ ?_)
      refine TW.seq fun Y12 hY12 => ?_
      refine TW.dw 15 ?_
      refine RK.tk (by first | exact (Pu.ld ty_sc143) | exact (Pu.ldo ty_sc143)) ?_
      refine RK.tk Pu.mv ?_
      refine RK.tk Pu.ml ?_
      refine RK.tk (Pu.el (q := 2 * k) ty_et143 (hk := by omega)) ?_
      refine RK.tk (by first | exact (Pu.ld ty_sc24) | exact (Pu.ldo ty_sc24)) ?_
      refine RK.tk (by first | exact (Pu.ld ty_sc143) | exact (Pu.ldo ty_sc143)) ?_
      refine RK.tk Pu.mv ?_
      refine RK.tk Pu.ml ?_
      refine RK.tk Pu.ad ?_
      refine RK.tk (Pu.el (q := 2 * k + 1) ty_et143 (hk := by omega)) ?_
      refine RK.tk (by first | exact (Pu.ld ty_sc24) | exact (Pu.ldo ty_sc24)) ?_
      refine RK.tk Pu.bd ?_
      refine RK.tk (by first | exact (Pu.ld ty_sc109) | exact (Pu.ldo ty_sc109)) ?_
      refine RK.tk Pu.bd ?_
      refine RK.float [.slice none 0 0, .slice none 0 0, .slice none 0 0, .slice none 0 0] ?_
      refine RK.ch [] ?_ ⟨ty_zr112, trivial⟩
      refine WK.n ?_
      intro b1
      first | refine TL.st ty_sz112 ?_ | refine TL.se ty_sz112 ?_
      refine TL.nil ?_
      refine TQ.thenN (hY12 _ _ ?_)
      refine TW.seq fun Y13 hY13 => ?_
      refine TW.seq fun Y14 hY14 => ?_
      refine TW.ex0k [.blk b1 112 [.slice (A (2 * k)) (sln P np way (2 * k)) (c (2 * k)), .slice (A (2 * k + 1)) (sln P np way (2 * k + 1)) (c (2 * k + 1)), .slice none 0 0, .slice Ar np cr]] ?_
      refine RG.tk 0 rfl (by first | exact (Pu.lds ty_ag112) | exact (Pu.ldso ty_ag112)) ?_
      refine RG.tk 1 rfl (by first | exact (Pu.ld ty_sc3) | exact (Pu.ldo ty_sc3)) ?_
      refine RG.a1 2 rfl (fun X2 hX2 => ?_)
      refine TL.cr rfl (enters Tryz.func68 rfl rfl) (fun w hw => by
          exact tie_balance hnp (ownsK_rd (A := A) (l := sln P np way) (c := c) (v := svl P np way) (n := ns) hw (fun φ hφ => by simp [hφ])) hkn (by omega) hr hb (rR.sat0 hw aR)) ?_
      refine TL.nil ?_
      refine TQ.nxt (hX2 _ _ (by repeat (first | exact HasL.nil | refine HasL.cons (by repeat (first | exact Pick.hd | apply Pick.tl)) ?_)) ?_)
      refine RG.tk 3 rfl Pu.ne ?_
      refine RG.tk 4 rfl Pu.mv ?_
      refine RG.guard (t := 95) rfl (fun hg1 => ?_) (fun hg1 => ?_)
      · try simp only [decide_eq_true_eq, decide_eq_false_iff_not, Bool.not_eq_true', Bool.not_eq_false', Int.natCast_pos] at hg1
        refine RG.ts 5 rfl ?_
        refine RG.ts 6 rfl ?_
        refine RG.ts 7 rfl ?_
        refine RG.ts 8 rfl ?_
        refine RG.ts 9 rfl ?_
        refine RG.ts 10 rfl ?_
        refine RG.ts 11 rfl ?_
        refine RG.ts 12 rfl ?_
        refine RG.tk 13 rfl Pu.kt ?_
        refine RG.nil ?_ (by kernel_rfl)
        refine TQ.thenN (hY14 _ _ ?_)
        refine TW.condT rfl rfl ?_
        refine TW.ret ?_
        refine TQ.thenR ?_
        refine TQ.blkR ?_
        refine TQ.thenR ?_
        refine TQ.thenR ?_
        refine TQ.blkR ?_
        refine TQ.thenR ?_
        refine TQ.ret Tryz.results79 rfl (.nil) ?_
        exact fun w hw => ⟨(A, c, T, TA, Tc), rfl, by
          rw [leaf_bad hkn (okT_no1 hg1)]
          exact hw.sub (by repeat (first | exact KSub.dropL _ (KSub.refl _) | refine KSub.cons Pick.hd ?_ | refine KSub.drop ?_))⟩
      · try simp only [decide_eq_true_eq, decide_eq_false_iff_not, Bool.not_eq_true', Bool.not_eq_false', Int.natCast_pos] at hg1
        refine RG.tk 5 rfl (by first | exact (Pu.lds ty_ag112) | exact (Pu.ldso ty_ag112)) ?_
        refine RG.tk 6 rfl (by first | exact Pu.fb ty_fa112_0 | exact Pu.fe ty_fa112_0) ?_
        refine RG.tk 7 rfl (by first | exact (Pu.lds ty_ag36) | exact (Pu.ldso ty_ag36)) ?_
        refine RG.tk 11 rfl Pu.mv ?_
        refine RG.a1 8 rfl (fun X8 hX8 => ?_)
        refine TL.gck rfl (enters Tryz.func72 rfl rfl) (fun w hw => by
            exact tie_all hnp (ownsK_rd (A := A) (l := sln P np way) (c := c) (v := svl P np way) (n := ns) hw (fun φ hφ => by simp [hφ])) hkn (by omega)) ?_
        rintro ⟨Aq, cq⟩
        refine TL.nil ?_
        refine TQ.nxt (hX8 _ _ (by repeat (first | exact HasL.nil | refine HasL.cons (by repeat (first | exact Pick.hd | apply Pick.tl)) ?_)) ?_)
        refine RG.a1 9 rfl (fun X9 hX9 => ?_)
        refine TL.cr rfl (enters Tryz.func71 rfl rfl) (fun w hw => by
            exact tie_weight hnp hr (rR.sat0 hw aR) (OwnR.rdr (hw.holds (.own Aq (tot (tln P np way k) 3) cq 3 1 (fun q => [.int .i64 (catI (tln P np way k) (tvl P np way k) q)])) (by simp)))) ?_
        refine TL.nil ?_
        refine TQ.nxt (hX9 _ _ (by repeat (first | exact HasL.nil | refine HasL.cons (by repeat (first | exact Pick.hd | apply Pick.tl)) ?_)) ?_)
        refine RG.tk 10 rfl Pu.fd ?_
        refine RG.tk 12 rfl Pu.gt ?_
        refine RG.tk 13 rfl Pu.kf ?_
        refine RG.nil ?_ (by kernel_rfl)
        refine TQ.thenN (hY14 _ _ ?_)
        refine TW.cond rfl (fun hc4 => ?_) (fun hc4 => ?_)
        · try simp only [decide_eq_true_eq, decide_eq_false_iff_not, Bool.not_eq_true', Bool.not_eq_false', Bool.and_eq_true, Bool.or_eq_true, Bool.and_eq_false_iff, Bool.or_eq_false_iff, Int.not_lt, Int.not_le] at hc4
          refine TW.ret ?_
          refine TQ.thenR ?_
          refine TQ.blkR ?_
          refine TQ.thenR ?_
          refine TQ.thenR ?_
          refine TQ.blkR ?_
          refine TQ.thenR ?_
          refine TQ.ret Tryz.results79 rfl (.nil) ?_
          exact fun w hw => ⟨(A, c, T, TA, Tc), rfl, by
            rw [leaf_bad hkn (okT_no2 (by omega))]
            exact hw.sub (by repeat (first | exact KSub.dropL _ (KSub.refl _) | refine KSub.cons Pick.hd ?_ | refine KSub.drop ?_))⟩
        · try simp only [decide_eq_true_eq, decide_eq_false_iff_not, Bool.not_eq_true', Bool.not_eq_false', Bool.and_eq_true, Bool.or_eq_true, Bool.and_eq_false_iff, Bool.or_eq_false_iff, Int.not_lt, Int.not_le] at hc4
          refine TW.skip ?_
          refine TQ.thenN (hY13 _ _ ?_)
          refine TW.dw 11 ?_
          refine RK.tk Pu.mv ?_
          refine RK.tk (by first | exact Pu.fb ty_fa112_0 | exact Pu.fe ty_fa112_0) ?_
          refine RK.tk (by first | exact Pu.fb ty_fa36_0 | exact Pu.fe ty_fa36_0) ?_
          refine RK.tk (by first | exact (Pu.ld ty_sc24) | exact (Pu.ldo ty_sc24)) ?_
          refine RK.keep ?_
          refine RK.tk (by first | exact Pu.fb ty_fa112_0 | exact Pu.fe ty_fa112_0) ?_
          refine RK.tk (by first | exact Pu.fb ty_fa36_1 | exact Pu.fe ty_fa36_1) ?_
          refine RK.tk (by first | exact (Pu.ld ty_sc24) | exact (Pu.ldo ty_sc24)) ?_
          refine RK.keep ?_
          refine RK.keep ?_
          refine RK.keep ?_
          refine RK.ch [false, false, true, false] ?_ trivial
          refine WK.call rfl (enters Tryz.func80 rfl rfl) rfl (fun w hw => by
              exact cloneI_any (by have := hl (2 * k); omega) ((ownsK_rd (A := A) (l := sln P np way) (c := c) (v := svl P np way) (n := ns) hw (fun φ hφ => by simp [hφ])) (2 * k) (by omega))) ?_
          rintro ⟨A1, d1⟩
          refine WK.call rfl (enters Tryz.func80 rfl rfl) rfl (fun w hw => by
              exact cloneI_any (by have := hl (2 * k + 1); omega) ((ownsK_rd (A := A) (l := sln P np way) (c := c) (v := svl P np way) (n := ns) hw (fun φ hφ => by simp [hφ])) (2 * k + 1) (by omega))) ?_
          rintro ⟨A2, d2⟩
          refine WK.p Pu.bd ?_
          refine WK.m Mk.bl ?_
          intro b2
          refine WK.n ?_
          first | refine TL.a0 ty_et23 ?_ | refine TL.ap ty_et23 ?_
          intro A3 c3
          refine TL.p Pu.as ?_
          refine TL.nil ?_
          refine TQ.blkN ?_
          refine TQ.thenN (hY10 _ _ ?_)
          refine TW.region ?_
          refine TL.p Pu.ad ?_
          refine TL.p Pu.mv ?_
          refine TL.nil ?_
          refine TQ.thenN (hZ1 (k + 1) (_, _) (updN (updN TB (2 * k) A1) (2 * k + 1) A2) (updN (updN Td (2 * k) d1) (2 * k + 1) d2) _ _ ?_ ?_ (by repeat (first | exact trivial | refine ⟨rfl, ?_⟩ | refine ⟨trivial, ?_⟩)) ?_)
          · refine ⟨by omega, fun j hj => ?_⟩
            by_cases h : j = k
            · subst h; exact okT_yes hg1 hc4
            · exact hall j (by omega)
          · exact (by first | omega | (simp only []; omega) | (simp; omega))
          · rw [ties_more]
            simp only [List.cons_append]
            refine KSub.own Pick.hd (fun i hi => tie_row hi) ?_
            repeat (first | exact KSub.drop (KSub.refl _) | exact KSub.drop (KSub.drop (KSub.drop (KSub.refl _))) | exact KSub.drop (KSub.drop (KSub.refl _)) | refine KSub.cons (by repeat (first | exact Pick.hd | apply Pick.tl)) ?_)
    · try simp only [decide_eq_true_eq, decide_eq_false_iff_not, Bool.not_eq_true', Bool.not_eq_false', Bool.and_eq_true, Bool.or_eq_true, Bool.and_eq_false_iff, Bool.or_eq_false_iff, Int.not_lt, Int.not_le] at hc3
      refine TW.exit ?_
      refine TQ.thenX ?_
      refine TQ.thenX ?_
      refine TQ.blkX ?_
      refine TQ.thenN (hY6 _ _ ?_)
      refine TW.region ?_
      obtain rfl : nc = k := by omega
      refine TL.perm (by repeat (first | exact perm_tail3 | apply List.Perm.cons)) ?_
      refine TL.p Pu.mv ?_
      refine TL.p Pu.mv ?_
      first | refine TL.st ty_sz23 ?_ | refine TL.se ty_sz23 ?_
      first | refine TL.st ty_sz3 ?_ | refine TL.se ty_sz3 ?_
      refine TL.nil ?_
      refine TQ.end Tryz.results79 rfl (.nil) ?_
      exact fun w hw => ⟨(A, c, L, TB, Td), rfl, by
        rw [leaf_good hc2 hall]
        exact hw.sub (by repeat (first | exact KSub.drop (KSub.dropL _ (KSub.refl _)) | refine KSub.cons (by repeat (first | exact Pick.hd | apply Pick.tl)) ?_))⟩
end Go.Proofs.YtjephihlkjpohaaGreatDoor
