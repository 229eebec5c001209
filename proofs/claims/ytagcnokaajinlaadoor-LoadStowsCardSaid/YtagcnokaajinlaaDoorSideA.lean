/-
  load: sums of spans, what is left of packs, what some packs weigh, bounds.
-/
import Derived.Test.YtagcnokaajinlaaDoorLoadO
namespace Go.Proofs.YtagcnokaajinlaaDoor
set_option linter.all false
set_option linter.unusedVariables false
set_option linter.unusedSimpArgs false
open Go.RowKit
def sumF (g : Nat → Int) : Nat → Int
  | 0 => 0
  | n + 1 => sumF g n + g n
theorem sumF_bd {g : Nat → Int} {B : Int} : ∀ {n : Nat}, (∀ k, k < n → 0 ≤ g k ∧ g k ≤ B) → 0 ≤ sumF g n ∧ sumF g n ≤ n * B
  | 0, _ => by simp [sumF]
  | n + 1, h => by
    have h1 := sumF_bd (n := n) fun k hk => h k (by omega)
    have h2 := h n (by omega)
    simp only [sumF]
    have e : ((n + 1 : Nat) : Int) * B = n * B + B := by rw [Int.natCast_add, Int.add_mul]; simp
    omega
theorem sumF_congr {g h : Nat → Int} : ∀ {n : Nat}, (∀ k, k < n → g k = h k) → sumF g n = sumF h n
  | 0, _ => rfl
  | n + 1, e => by simp only [sumF, sumF_congr (n := n) fun k hk => e k (by omega), e n (by omega)]
theorem sumF_le {g : Nat → Int} {n : Nat} (h : ∀ k, k < n → 0 ≤ g k ∧ g k ≤ 1000000) (hn : n ≤ 1000) : ∀ q, q ≤ n → 0 ≤ sumF g q ∧ sumF g q ≤ 1000000000 := fun q hq => by
  have h1 := sumF_bd (g := g) (n := q) fun k hk => h k (by omega)
  have : (q : Int) * 1000000 ≤ 1000 * 1000000 := by omega
  omega
/-- A row appended: the rows read on. -/
theorem KSub.app {K K' L : List Fact} {A : Option Addr} {k c sz : Nat} {E : TypeId} {g : Nat → List Value} {x : List Value} (hp : Pick K (.own A (k + 1) c E sz (catR k g (fun _ => x))) K') (hx : x = g k) (h : KSub K' L) : KSub K (.own A (k + 1) c E sz g :: L) :=
  KSub.own hp (fun i hi => by
    simp only [catR]
    by_cases h : i < k
    · rw [if_pos h]
    · obtain rfl : i = k := by omega
      rw [if_neg h, hx]) h
theorem sum_any {A : Option Addr} {n cp : Nat} {x y : Nat → Int} {w : World} (hn : n ≤ 1000) (hx : ∀ k, k < n → 0 ≤ x k ∧ x k ≤ 1000000) (hy : ∀ k, k < n → 0 ≤ y k ∧ y k ≤ 1000000) (hR : RdR w 2 A n (fun k => spL (x k) (y k))) :
    Calls Tryd.prog 79 #[.slice A n cp] w (Ret w (.agg #[.int .i64 (sumF x n), .int .i64 (sumF y n)])) := by
  have sx := sumF_le hx hn
  have sy := sumF_le hy hn
  refine K_enter (S := []) (K := []) Tryd.func79 rfl Tryd.ntmps79 rfl (Sat.start _) ?_
  refine TW.seq fun Y1 hY1 => ?_
  refine TW.region ?_
  refine TL.m (Mk.al ty_zr23) ?_
  intro b1
  refine TL.nil ?_
  refine TQ.thenN (hY1 _ _ ?_)
  refine TW.seq fun Y2 hY2 => ?_
  refine TW.seq fun Y3 hY3 => ?_
  refine TW.region ?_
  refine TL.p Pu.mv ?_
  refine TL.p (Pu.ln Tryd.underlying93) ?_
  refine TL.p Pu.mv ?_
  refine TL.nil ?_
  refine TQ.thenN (hY3 _ _ ?_)
  refine TW.block ?_
  refine TW.loop1 (fun (k : Nat) => [(7, .int .i64 (k : Int)), (6, .int .i64 (n : Int)), (5, .slice A n cp), (2, .pointer (some ⟨b1, 0, none⟩))]) (fun k => [.blk b1 23 (spL (sumF x k) (sumF y k))]) (fun k => k ≤ n) (fun k => n - k) 0 (by repeat (first | exact trivial | refine ⟨rfl, ?_⟩ | refine ⟨trivial, ?_⟩)) ?_ ?_ ?_
  · exact (by repeat (first | exact KSub.nil | refine KSub.cons (by repeat (first | exact Pick.hd | apply Pick.tl)) ?_))
  · exact Nat.zero_le _
  rintro k hk Z0 hZ0
  refine TW.seq fun Y4 hY4 => ?_
  refine TW.region ?_
  refine TL.p Pu.lt ?_
  refine TL.nil ?_
  refine TQ.thenN (hY4 _ _ ?_)
  refine TW.seq fun Y5 hY5 => ?_
  refine TW.cond rfl (fun hc0 => ?_) (fun hc0 => ?_)
  · try simp only [decide_eq_true_eq, decide_eq_false_iff_not, Bool.not_eq_true', Bool.not_eq_false', Bool.and_eq_true, Bool.or_eq_true, Bool.and_eq_false_iff, Bool.or_eq_false_iff, Int.not_lt, Int.not_le] at hc0
    have hkn : k < n := by omega
    have hxk := hx k hkn
    have hyk := hy k hkn
    have sxk := sx k hk
    have syk := sy k hk
    refine TW.skip ?_
    refine TQ.thenN (hY5 _ _ ?_)
    refine TW.seq fun Y6 hY6 => ?_
    refine TW.block ?_
    refine TW.seq fun Y7 hY7 => ?_
    refine TW.region ?_
    refine TL.p (Pu.el ty_et93) ?_
    refine TL.p (Pu.lds ty_ag23) ?_
    refine TL.m (Mk.al ty_zr23) ?_
    intro b2
    first | refine TL.st ty_sz23 ?_ | refine TL.se ty_sz23 ?_
    refine TL.nil ?_
    refine TQ.thenN (hY7 _ _ ?_)
    refine TW.ex0 (Drop.blk 2 rfl (by repeat (first | exact Pick.hd | apply Pick.tl)) Drop.done) ?_
    refine RG.tk 0 rfl (by first | exact Pu.fb ty_fa23_0 | exact Pu.fe ty_fa23_0) ?_
    refine RG.tk 2 rfl (by first | exact Pu.fb ty_fa23_0 | exact Pu.fe ty_fa23_0) ?_
    refine RG.tk 3 rfl (Pu.ld ty_sc3) ?_
    refine RG.tk 5 rfl (by first | exact Pu.fb ty_fa23_1 | exact Pu.fe ty_fa23_1) ?_
    refine RG.tk 7 rfl (by first | exact Pu.fb ty_fa23_1 | exact Pu.fe ty_fa23_1) ?_
    refine RG.tk 8 rfl (Pu.ld ty_sc3) ?_
    refine RG.a2 1 6 rfl rfl (fun X1 hX1 => ?_) (fun X6 hX6 => ?_)
    · refine TL.p (Pu.ld ty_sc3) ?_
      refine TL.nil ?_
      refine TQ.nxt (hX1 _ _ (by repeat (first | exact HasL.nil | refine HasL.cons (by repeat (first | exact Pick.hd | apply Pick.tl)) ?_)) ?_)
      refine RG.tk 4 rfl Pu.ad ?_
      refine RG.a1 6 rfl (fun X6 hX6 => ?_)
      refine TL.p (Pu.ld ty_sc3) ?_
      refine TL.nil ?_
      refine TQ.nxt (hX6 _ _ (by repeat (first | exact HasL.nil | refine HasL.cons (by repeat (first | exact Pick.hd | apply Pick.tl)) ?_)) ?_)
      refine RG.tk 9 rfl Pu.ad ?_
      refine RG.tk 10 rfl (by first | exact Pu.fb ty_fa23_0 | exact Pu.fe ty_fa23_0) ?_
      refine RG.a1 11 rfl (fun X11 hX11 => ?_)
      first | refine TL.st ty_sz3 ?_ | refine TL.se ty_sz3 ?_
      refine TL.nil ?_
      refine TQ.nxt (hX11 _ _ (by repeat (first | exact HasL.nil | refine HasL.cons (by repeat (first | exact Pick.hd | apply Pick.tl)) ?_)) ?_)
      refine RG.tk 12 rfl (by first | exact Pu.fb ty_fa23_1 | exact Pu.fe ty_fa23_1) ?_
      refine RG.a1 13 rfl (fun X13 hX13 => ?_)
      first | refine TL.st ty_sz3 ?_ | refine TL.se ty_sz3 ?_
      refine TL.nil ?_
      refine TQ.nxt (hX13 _ _ (by repeat (first | exact HasL.nil | refine HasL.cons (by repeat (first | exact Pick.hd | apply Pick.tl)) ?_)) ?_)
      refine RG.nil ?_ (by kernel_rfl)
      refine TQ.blkN ?_
      refine TQ.thenN (hY6 _ _ ?_)
      refine TW.region ?_
      refine TL.p Pu.ad ?_
      refine TL.p Pu.mv ?_
      refine TL.nil ?_
      refine TQ.thenN (hZ0 (k + 1) _ _ ?_ ?_ (by repeat (first | exact trivial | refine ⟨rfl, ?_⟩ | refine ⟨trivial, ?_⟩)) ?_)
      · exact (by omega)
      · exact (by first | omega | (simp only []; omega) | (simp; omega))
      · exact (by repeat (first | exact KSub.nil | refine KSub.cons (by repeat (first | exact Pick.hd | apply Pick.tl)) ?_))
    · refine TL.p (Pu.ld ty_sc3) ?_
      refine TL.nil ?_
      refine TQ.nxt (hX6 _ _ (by repeat (first | exact HasL.nil | refine HasL.cons (by repeat (first | exact Pick.hd | apply Pick.tl)) ?_)) ?_)
      refine RG.tk 9 rfl Pu.ad ?_
      refine RG.a1 1 rfl (fun X1 hX1 => ?_)
      refine TL.p (Pu.ld ty_sc3) ?_
      refine TL.nil ?_
      refine TQ.nxt (hX1 _ _ (by repeat (first | exact HasL.nil | refine HasL.cons (by repeat (first | exact Pick.hd | apply Pick.tl)) ?_)) ?_)
      refine RG.tk 4 rfl Pu.ad ?_
      refine RG.tk 10 rfl (by first | exact Pu.fb ty_fa23_0 | exact Pu.fe ty_fa23_0) ?_
      refine RG.a1 11 rfl (fun X11 hX11 => ?_)
      first | refine TL.st ty_sz3 ?_ | refine TL.se ty_sz3 ?_
      refine TL.nil ?_
      refine TQ.nxt (hX11 _ _ (by repeat (first | exact HasL.nil | refine HasL.cons (by repeat (first | exact Pick.hd | apply Pick.tl)) ?_)) ?_)
      refine RG.tk 12 rfl (by first | exact Pu.fb ty_fa23_1 | exact Pu.fe ty_fa23_1) ?_
      refine RG.a1 13 rfl (fun X13 hX13 => ?_)
      first | refine TL.st ty_sz3 ?_ | refine TL.se ty_sz3 ?_
      refine TL.nil ?_
      refine TQ.nxt (hX13 _ _ (by repeat (first | exact HasL.nil | refine HasL.cons (by repeat (first | exact Pick.hd | apply Pick.tl)) ?_)) ?_)
      refine RG.nil ?_ (by kernel_rfl)
      refine TQ.blkN ?_
      refine TQ.thenN (hY6 _ _ ?_)
      refine TW.region ?_
      refine TL.p Pu.ad ?_
      refine TL.p Pu.mv ?_
      refine TL.nil ?_
      refine TQ.thenN (hZ0 (k + 1) _ _ ?_ ?_ (by repeat (first | exact trivial | refine ⟨rfl, ?_⟩ | refine ⟨trivial, ?_⟩)) ?_)
      · exact (by omega)
      · exact (by first | omega | (simp only []; omega) | (simp; omega))
      · exact (by repeat (first | exact KSub.nil | refine KSub.cons (by repeat (first | exact Pick.hd | apply Pick.tl)) ?_))
  · try simp only [decide_eq_true_eq, decide_eq_false_iff_not, Bool.not_eq_true', Bool.not_eq_false', Bool.and_eq_true, Bool.or_eq_true, Bool.and_eq_false_iff, Bool.or_eq_false_iff, Int.not_lt, Int.not_le] at hc0
    obtain rfl : k = n := by omega
    refine TW.exit ?_
    refine TQ.thenX ?_
    refine TQ.thenX ?_
    refine TQ.blkX ?_
    refine TQ.thenN (hY2 _ _ ?_)
    refine TW.seq fun Y8 hY8 => ?_
    refine TW.region ?_
    refine TL.p (Pu.lds ty_ag23) ?_
    first | refine TL.st ty_sz23 ?_ | refine TL.se ty_sz23 ?_
    refine TL.nil ?_
    refine TQ.thenN (hY8 _ _ ?_)
    refine TW.ret ?_
    refine TQ.ret Tryd.results79 rfl ((RV.cs ty_ag23 .nil)) ?_
    exact fun w hw => Ret.of hw
theorem bounded_any (bound : Int) (w : World) : Calls Tryd.prog 45 #[.int .i64 bound] w (Try w errs (if inB5 0 1000000000 bound then 0 else 2) (.tuple #[])) := by
  refine K_enter (S := []) (K := []) Tryd.func45 rfl Tryd.ntmps45 rfl (Sat.start _) ?_
  refine TW.region ?_
  refine TL.p Pu.mv ?_
  refine TL.m Mk.bl ?_
  intro b1
  refine TL.cr rfl (enters Tryd.func33 rfl rfl) (fun w hw => by
      exact inOne_any _ _ _ (hw.holds _ (List.mem_cons_self ..))) ?_
  refine TL.ct rfl (enters Tryd.func32 rfl rfl) (fun w hw => by
      exact need_any _ _ _ (by decide)) (fun hp1 => ?_) (fun hp1 => ?_)
  rotate_left
  · refine TQ.pan rfl ?_
    exact fun w hw => Try.no hp1 hw
  refine TL.nil ?_
  refine TQ.end Tryd.results45 rfl (.nil) ?_
  exact fun w hw => Try.ok hp1 hw
end Go.Proofs.YtagcnokaajinlaaDoor
