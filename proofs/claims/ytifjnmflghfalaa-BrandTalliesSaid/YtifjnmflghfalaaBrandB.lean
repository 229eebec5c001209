/-
  Walks of the functions of package brand that reckon with spans (common, shifted, less, sum, sides, growth, proper). Numbers are bounded where they are added.
-/
import Derived.Test.YtifjnmflghfalaaBrandA
import Derived.Deep.RegionHeld3
import Derived.BigRegion
namespace Go.Proofs.Ytifjnmflghfalaa
set_option linter.all false
set_option linter.unusedVariables false
set_option linter.unusedSimpArgs false
open Go.RowKit
theorem proper_any (lo hi : Int) (A : Option Addr) (n c : Nat) (s : Nat → Nat → Int) (w : World) (h : Rd w 2 A n fun i j => .int .i64 (s i j)) (hn : n ≤ 9223372036854775807) :
    Calls Try.prog 21 #[.int .i64 lo, .int .i64 hi, .slice A n c] w (Ret w (.bool (properB lo hi n s))) := by
  have h2 := hid ((h.alloc (.cells #[.int .i64 lo] 3)).alloc (.cells #[.int .i64 hi] 3))
  clear h
  go_enter Try.func21, Try.ntmps21
  go_wp2_with fail
  refine (containsFunc_span A n c _ _ _ _ (fun i => !(decide (s i 0 ≤ s i 1) && decide (lo ≤ s i 0) && decide (s i 1 ≤ hi))) h2.out hn (enters Try.func47 rfl rfl) ?_).mono ?_
  · intro i hi w1 hb1
    obtain ⟨hc1, hf1⟩ := bcell hb1
    exact proper1_any _ _ _ _ _ _ _ _ _ (by rw [hc1 _ _ (by simp; omega)]; simp [go_sem]) (by rw [hc1 _ _ (by simp)]; simp [go_sem])
  rintro e w1 ⟨rfl, hb1⟩
  go_wp2
  go_ret
  refine ⟨ret_bool ?_, ?_⟩
  · rw [not_anyB]
    exact allB_congr fun i hi => by simp
  · exact ((((Below.refl _ _).alloc (Nat.le_refl _) _).alloc (by simp) _)).trans (hb1.mono (by simp; omega))
def Small (m a : Int) : Prop := -m ≤ a ∧ a ≤ m
theorem common_any (a b c d : Int) (w : World) :
    Calls Try.prog 22 #[.agg #[.int .i64 a, .int .i64 b], .agg #[.int .i64 c, .int .i64 d]] w (Ret w (.agg #[.int .i64 (max a c), .int .i64 (min b d)])) := by
  by_cases h1 : a < c
  all_goals
    by_cases h2 : d < b
    all_goals
      go_enter Try.func22, Try.ntmps22
      go_wp2
      refine bodyPost_ret (v := .agg #[.int .i64 (max a c), .int .i64 (min b d)]) ?_ rfl ⟨rfl, (((Below.refl _ _).alloc (Nat.le_refl _) _).alloc (by simp) _).alloc (by simp; omega) _⟩
      simp only [Int.max_def, Int.min_def]
      simp [results, Try.results22, go_sem]
      omega
theorem shifted_any (a b c d : Int) (w : World) (ha : Small 1000000000000 a) (hb : Small 1000000000000 b) (hc : Small 1000000000000 c) (hd : Small 1000000000000 d) :
    Calls Try.prog 49 #[.agg #[.int .i64 a, .int .i64 b], .int .i64 c, .int .i64 d] w (Ret w (.agg #[.int .i64 (a + c), .int .i64 (b + d)])) := by
  obtain ⟨a1, a2⟩ := ha
  obtain ⟨b1, b2⟩ := hb
  obtain ⟨c1, c2⟩ := hc
  obtain ⟨d1, d2⟩ := hd
  go_enter Try.func49, Try.ntmps49
  go_wp2
  refine bodyPost_ret (v := .agg #[.int .i64 (a + c), .int .i64 (b + d)]) (by simp [results, Try.results49, go_sem]) rfl ⟨rfl, ?_⟩
  exact (((Below.refl _ _).alloc (Nat.le_refl _) _).alloc (by simp) _)
theorem less_any (a b : Int) (w : World) (ha : Small 1000000000000 a) (hb : Small 1000000000000 b) :
    Calls Try.prog 26 #[.agg #[.int .i64 a, .int .i64 b]] w (Ret w (.agg #[.int .i64 (-b), .int .i64 (-a)])) := by
  obtain ⟨a1, a2⟩ := ha
  obtain ⟨b1, b2⟩ := hb
  go_enter Try.func26, Try.ntmps26
  go_wp2
  refine bodyPost_ret (v := .agg #[.int .i64 (-b), .int .i64 (-a)]) (by simp [results, Try.results26, go_sem]) rfl ⟨rfl, ?_⟩
  exact (((Below.refl _ _).alloc (Nat.le_refl _) _).alloc (by simp) _)
def sumI : Nat → (Nat → Int) → Int
  | 0, _ => 0
  | n + 1, g => sumI n g + g n
theorem sumI_small {n : Nat} {g : Nat → Int} {m : Int} (h : ∀ i, i < n → Small m (g i)) : -(n * m) ≤ sumI n g ∧ sumI n g ≤ n * m := by
  induction n with
  | zero => simp [sumI]
  | succ n ih =>
    have h1 := ih fun i hi => h i (by omega)
    have h2 := h n (by omega)
    unfold Small at h2
    simp only [sumI, Int.natCast_add, Int.natCast_one, Int.add_mul, Int.one_mul]
    omega
set_option maxHeartbeats 400000 in
theorem sum_any (A : Option Addr) (n c : Nat) (s : Nat → Nat → Int) (w : World) (h : Rd w 2 A n fun i j => .int .i64 (s i j)) (hn : n ≤ 1000) (hs : ∀ i j, i < n → j < 2 → Small 100000000 (s i j)) :
    Calls Try.prog 23 #[.slice A n c] w (Ret w (.agg #[.int .i64 (sumI n fun i => s i 0), .int .i64 (sumI n fun i => s i 1)])) := by
  have HR := hid h
  have HS := hid hs
  clear h hs
  go_enter Try.func23, Try.ntmps23
  go_wp2
  go_loopw [5, 8] (fun _ i wr => ∃ k : Nat, k ≤ n ∧ i = .int .i64 k ∧ Below w.heap.size w wr ∧ Blk wr w.heap.size 23 #[.int .i64 0, .int .i64 0] ∧ Blk wr (w.heap.size + 1) 23 #[.int .i64 (sumI k fun i => s i 0), .int .i64 (sumI k fun i => s i 1)]) (fun _ i _ => n - (intOf i).toNat)
  case atStart => exact ⟨0, by omega, rfl, ((Below.refl _ _).alloc (Nat.le_refl _) _).alloc (by simp) _, (Blk.new _ _ _).alloc _, Blk.new' (by simp)⟩
  case round =>
    obtain ⟨k, hk, rfl, hbel, b1, b2⟩ := hrel
    have B1 := hid b1
    have B2 := hid b2
    obtain ⟨c1, c2, f1, f2⟩ := b2.c2
    have l2 := b2.lt
    by_cases hlt : k < n
    · have i1 : (0 : Int) ≤ (k : Int) := by omega
      have i2 : (k : Int) < (n : Int) := by omega
      obtain ⟨b, off, rfl, eB, eA⟩ := HR.out.atn hlt hbel
      have e0 : wr.cell? ⟨b, off + k * 2, none⟩ = some (.int .i64 (s k 0)) := by simpa using eA 0 (by omega)
      have e1 : wr.cell? ⟨b, off + k * 2 + 1, none⟩ = some (.int .i64 (s k 1)) := by simpa using eA 1 (by omega)
      clear eA
      obtain ⟨s1, s2⟩ := HS.out k 0 hlt (by omega)
      obtain ⟨s3, s4⟩ := HS.out k 1 hlt (by omega)
      obtain ⟨q1, q2⟩ := sumI_small (n := k) (g := fun i => s i 0) (m := 100000000) fun i hi => HS.out i 0 (by omega) (by omega)
      obtain ⟨q3, q4⟩ := sumI_small (n := k) (g := fun i => s i 1) (m := 100000000) fun i hi => HS.out i 1 (by omega) (by omega)
      clear b1 b2
      go_wp2_with fail
      have p1 : Small 1000000000000 (sumI k fun i => s i 0) := by unfold Small; omega
      refine (shifted_any _ _ _ _ _ p1 (by unfold Small; omega) (by unfold Small; omega) (by unfold Small; omega)).mono ?_
      rintro e w1 ⟨rfl, hb1⟩
      have B1' := hid ((B1.out.alloc (.cells #[.int .i64 (s k 0), .int .i64 (s k 1)] 23)).blw hb1)
      have B2' := hid ((B2.out.alloc (.cells #[.int .i64 (s k 0), .int .i64 (s k 1)] 23)).blw hb1)
      have HB := hid ((hbel.alloc hbel.size (.cells #[.int .i64 (s k 0), .int .i64 (s k 1)] 23)).trans (hb1.mono (by have := hbel.size; simp; omega)))
      clear hb1 c1 c2 f1 f2 l2 hbel
      obtain ⟨c1, c2, f1, f2⟩ := B2'.out.c2
      go_wp2
      go_roundw
      case rel => exact ⟨k + 1, by omega, by go_num, (HB.out.setCell (by simp) _).setCell (by simp) _, (B1'.out.far (by simp) _).far (by simp) _, B2'.out.set2 _ _⟩
      case measure => simp [intOf]; omega
    · obtain rfl : k = n := by omega
      obtain ⟨c3, c4, f3, f4⟩ := b1.c2
      clear b1 b2
      go_wp2
      refine bodyPost_ret (v := .agg #[.int .i64 (sumI k fun i => s i 0), .int .i64 (sumI k fun i => s i 1)]) (by simp [results, Try.results23, go_sem, *]) rfl ⟨rfl, (hbel.setCell (Nat.le_refl _) _).setCell (Nat.le_refl _) _⟩
end Go.Proofs.Ytifjnmflghfalaa
