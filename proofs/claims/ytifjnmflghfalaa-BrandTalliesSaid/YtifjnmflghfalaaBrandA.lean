/-
  Walks of the small functions of package brand: tests on lists, and their library calls. No condition beyond the lengths.
-/
import Derived.Test.YtifjnmflghfalaaBrandG
namespace Go.Proofs.Ytifjnmflghfalaa
set_option linter.all false
set_option linter.unusedVariables false
set_option linter.unusedSimpArgs false
open Go.RowKit
theorem in1_any (x lo hi : Int) (p q : Addr) (w : World) (hl : w.cell? p = some (.int .i64 lo)) (hh : w.cell? q = some (.int .i64 hi)) :
    Calls Try.prog 59 #[.int .i64 x, .pointer (some p), .pointer (some q)] w (Ret w (.bool (decide (x < lo) || decide (hi < x)))) := by
  by_cases h1 : x < lo
  · go_enter Try.func59, Try.ntmps59
    go_wp2
    go_ret
    exact ⟨ret_bool (by simp [h1]), Below.refl _ _⟩
  · by_cases h2 : hi < x
    all_goals
      go_enter Try.func59, Try.ntmps59
      go_wp2
      go_ret
      exact ⟨ret_bool (by simp [h1, h2]), Below.refl _ _⟩
def inB (lo hi : Int) (n : Nat) (g : Nat → Int) : Bool := allB n fun i => decide (lo ≤ g i) && decide (g i ≤ hi)
theorem in_any (lo hi : Int) (A : Option Addr) (n c : Nat) (g : Nat → Int) (w : World) (h : Rd w 1 A n fun i _ => .int .i64 (g i)) (hn : n ≤ 9223372036854775807) :
    Calls Try.prog 48 #[.int .i64 lo, .int .i64 hi, .slice A n c] w (Ret w (.bool (inB lo hi n g))) := by
  have h2 := hid ((h.alloc (.cells #[.int .i64 lo] 3)).alloc (.cells #[.int .i64 hi] 3))
  clear h
  go_enter Try.func48, Try.ntmps48
  go_wp2_with fail
  refine (containsFunc_int A n c _ _ _ _ (fun i => decide (g i < lo) || decide (hi < g i)) h2.out hn (enters Try.func59 rfl rfl) ?_).mono ?_
  · intro i hi w1 hb1
    obtain ⟨hc1, hf1⟩ := bcell hb1
    exact in1_any _ _ _ _ _ _ (by rw [hc1 _ _ (by simp; omega)]; simp [go_sem]) (by rw [hc1 _ _ (by simp)]; simp [go_sem])
  rintro e w1 ⟨rfl, hb1⟩
  go_wp2
  go_ret
  refine ⟨ret_bool ?_, ?_⟩
  · rw [not_anyB]
    exact allB_congr fun i hi => by simp only [Bool.not_or, decide_not, ← Int.not_lt]
  · exact ((((Below.refl _ _).alloc (Nat.le_refl _) _).alloc (by simp) _)).trans (hb1.mono (by simp; omega))
def properB (lo hi : Int) (n : Nat) (s : Nat → Nat → Int) : Bool := allB n fun i => decide (s i 0 ≤ s i 1) && decide (lo ≤ s i 0) && decide (s i 1 ≤ hi)
theorem inB2 (lo hi : Int) (g : Nat → Int) : inB lo hi 2 g = (decide (lo ≤ g 0) && decide (g 0 ≤ hi) && (decide (lo ≤ g 1) && decide (g 1 ≤ hi))) := by
  simp [inB, allB, List.range_succ]
theorem proper1_any (a b lo hi : Int) (bp op bq oq : Nat) (w : World) (hl : w.cell? ⟨bp, op, none⟩ = some (.int .i64 lo)) (hh : w.cell? ⟨bq, oq, none⟩ = some (.int .i64 hi)) :
    Calls Try.prog 47 #[.agg #[.int .i64 a, .int .i64 b], .pointer (some ⟨bp, op, none⟩), .pointer (some ⟨bq, oq, none⟩)] w (Ret w (.bool !(decide (a ≤ b) && decide (lo ≤ a) && decide (b ≤ hi)))) := by
  by_cases h1 : b < a
  · go_enter Try.func47, Try.ntmps47
    go_wp2
    go_ret
    exact ⟨ret_bool (by simp [h1]), (Below.refl _ _).alloc (Nat.le_refl _) _⟩
  · have l1 := cell_lt hl
    have l2 := cell_lt hh
    go_enter Try.func47, Try.ntmps47
    go_wp2_with fail
    refine (in_any lo hi _ _ _ (fun i => if i = 0 then a else b) _ ?_ (by omega)).mono ?_
    · refine Rd.of_new (by simp) rfl fun i j hi hj => ?_
      have : i = 0 ∨ i = 1 := by omega
      rcases this with rfl | rfl <;> obtain rfl : j = 0 := by omega
      · rfl
      · rfl
    rintro e w1 ⟨rfl, hb1⟩
    go_wp2
    go_ret
    refine ⟨ret_bool ?_, ((((Below.refl _ _).alloc (Nat.le_refl _) _).alloc (by simp) _)).trans (hb1.mono (by simp; omega))⟩
    rw [inB2]
    by_cases h2 : lo ≤ a <;> by_cases h3 : b ≤ hi <;> simp [h1, h2, h3] <;> omega
end Go.Proofs.Ytifjnmflghfalaa
