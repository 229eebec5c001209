/-
  Part 4 of the proof of alive_any,ready2_any,has2_any,choose2_any,inside2_any,place2_any,lw_names,lw_fits,lw_has,open_herd,open_looksB,open_calves,open_u8b,open_u32sB,open_u32b,law_post,TW.meet,TL.unb,TW.ocap,rLooks2_any,bBirths_any,rSign_any,lks_in: declarations of several texts, in build order. No condition on a program.
-/
import Derived.Test.YtbenhafhklfhmaaGreatAl03
import Derived.Deep.RegionHeld3
import Derived.BigRegion
import Derived.Test.YtbenhafhklfhmaaGreatAl01
namespace Go.Proofs.YtbenhafhklfhmaaGreat
set_option linter.all false
set_option linter.unusedVariables false
set_option linter.unusedSimpArgs false
open Go.RowKit
theorem proper_any (lo hi : Int) (A : Option Addr) (n c : Nat) (s : Nat → Nat → Int) (w : World) (h : Rd w 2 A n fun i j => .int .i64 (s i j)) (hn : n ≤ 9223372036854775807) :
   Calls Tryz.prog 72 #[.int .i64 lo, .int .i64 hi, .slice A n c] w (Ret w (.bool (properB lo hi n s))) := by
 have h2 := hid ((h.alloc (.cells #[.int .i64 lo] 3)).alloc (.cells #[.int .i64 hi] 3))
 clear h
 go_enter Tryz.func72, Tryz.ntmps72
 go_wp2_with fail
 refine (containsFunc_span A n c _ _ _ _ (fun i => !(decide (s i 0 ≤ s i 1) && decide (lo ≤ s i 0) && decide (s i 1 ≤ hi))) h2.out hn (enters Tryz.func104 rfl rfl) ?_).mono ?_
 · intro i hi w1 hb1
   obtain ⟨hc1, hf1⟩ := bcell hb1
   exact proper1_any _ _ _ _ _ _ _ _ _ (by rw [hc1 _ _ (by simp; omega)]; simp [go_sem]) (by rw [hc1 _ _ (by simp)]; simp [go_sem])
 rintro e w1 ⟨rfl, hb1⟩
 go_wp2
 go_ret
 refine ⟨ret_bool ?_, ?_⟩
 · rw [not_anyB]
   exact allB_congr fun i hi => by simp
 · exact ((((Below.refl _ _).alloc (Nat.le_refl _) _).alloc (by simp) _)).trans (hb1.mono (by simp; omega))
def Small (m a : Int) : Prop := -m ≤ a ∧ a ≤ m
theorem common_any (a b c d : Int) (w : World) :
  Calls Tryz.prog 73 #[.agg #[.int .i64 a, .int .i64 b], .agg #[.int .i64 c, .int .i64 d]] w (Ret w (.agg #[.int .i64 (max a c), .int .i64 (min b d)])) := by
 by_cases h1 : a < c
 all_goals
  by_cases h2 : d < b
  all_goals
   go_enter Tryz.func73, Tryz.ntmps73
   go_wp2
   refine bodyPost_ret (v := .agg #[.int .i64 (max a c), .int .i64 (min b d)]) ?_ rfl ⟨rfl, (((Below.refl _ _).alloc (Nat.le_refl _) _).alloc (by simp) _).alloc (by simp; omega) _⟩
   simp only [Int.max_def, Int.min_def]
   simp [results, Tryz.results73, go_sem] <;> omega
theorem shifted_any (a b c d : Int) (w : World) (ha : Small 1000000000000 a) (hb : Small 1000000000000 b) (hc : Small 1000000000000 c) (hd : Small 1000000000000 d) :
  Calls Tryz.prog 94 #[.agg #[.int .i64 a, .int .i64 b], .int .i64 c, .int .i64 d] w (Ret w (.agg #[.int .i64 (a + c), .int .i64 (b + d)])) := by
 obtain ⟨a1, a2⟩ := ha
 obtain ⟨b1, b2⟩ := hb
 obtain ⟨c1, c2⟩ := hc
 obtain ⟨d1, d2⟩ := hd
 go_enter Tryz.func94, Tryz.ntmps94
 go_wp2
 refine bodyPost_ret (v := .agg #[.int .i64 (a + c), .int .i64 (b + d)]) (by simp [results, Tryz.results94, go_sem]) rfl ⟨rfl, ?_⟩
 exact (((Below.refl _ _).alloc (Nat.le_refl _) _).alloc (by simp) _)
theorem less_any (a b : Int) (w : World) (ha : Small 1000000000000 a) (hb : Small 1000000000000 b) :
  Calls Tryz.prog 77 #[.agg #[.int .i64 a, .int .i64 b]] w (Ret w (.agg #[.int .i64 (-b), .int .i64 (-a)])) := by
 obtain ⟨a1, a2⟩ := ha
 obtain ⟨b1, b2⟩ := hb
 go_enter Tryz.func77, Tryz.ntmps77
 go_wp2
 refine bodyPost_ret (v := .agg #[.int .i64 (-b), .int .i64 (-a)]) (by simp [results, Tryz.results77, go_sem]) rfl ⟨rfl, ?_⟩
 exact (((Below.refl _ _).alloc (Nat.le_refl _) _).alloc (by simp) _)
def sumI : Nat → (Nat → Int) → Int
 | 0, _ => 0
 | n + 1, g => sumI n g + g n
theorem sumI_small {n : Nat} {g : Nat → Int} {m : Int} (h : ∀ i, i < n → Small m (g i)) : -(n * m) ≤ sumI n g ∧ sumI n g ≤ n * m := by
 induction n with
 | zero => simp [sumI]
 | succ n ih =>
  have h1 := ih fun i hi => h i (by omega)
  have h2 := h n (by omega)
  unfold Small at h2
  simp only [sumI, Int.natCast_add, Int.natCast_one, Int.add_mul, Int.one_mul]
  omega
set_option maxHeartbeats 400000 in
theorem sum_any (A : Option Addr) (n c : Nat) (s : Nat → Nat → Int) (w : World) (h : Rd w 2 A n fun i j => .int .i64 (s i j)) (hn : n ≤ 1000) (hs : ∀ i j, i < n → j < 2 → Small 100000000 (s i j)) :
    Calls Tryz.prog 74 #[.slice A n c] w (Ret w (.agg #[.int .i64 (sumI n fun i => s i 0), .int .i64 (sumI n fun i => s i 1)])) := by
  have HR := hid h
  have HS := hid hs
  clear h hs
  go_enter Tryz.func74, Tryz.ntmps74
  go_wp2
  go_loopw [5, 8] (fun _ i wr => ∃ k : Nat, k ≤ n ∧ i = .int .i64 k ∧ Below w.heap.size w wr ∧ Blk wr w.heap.size 36 #[.int .i64 0, .int .i64 0] ∧ Blk wr (w.heap.size + 1) 36 #[.int .i64 (sumI k fun i => s i 0), .int .i64 (sumI k fun i => s i 1)]) (fun _ i _ => n - (intOf i).toNat)
  case atStart => exact ⟨0, by omega, rfl, ((Below.refl _ _).alloc (Nat.le_refl _) _).alloc (by simp) _, (Blk.new _ _ _).alloc _, Blk.new' (by simp)⟩
  case round =>
    obtain ⟨k, hk, rfl, hbel, b1, b2⟩ := hrel
    have B1 := hid b1
    have B2 := hid b2
    obtain ⟨c1, c2, f1, f2⟩ := b2.c2
    have l2 := b2.lt
    by_cases hlt : k < n
    · have i1 : (0 : Int) ≤ (k : Int) := by omega
      have i2 : (k : Int) < (n : Int) := by omega
      obtain ⟨b, off, rfl, eB, eA⟩ := HR.out.atn hlt hbel
      have e0 : wr.cell? ⟨b, off + k * 2, none⟩ = some (.int .i64 (s k 0)) := by simpa using eA 0 (by omega)
      have e1 : wr.cell? ⟨b, off + k * 2 + 1, none⟩ = some (.int .i64 (s k 1)) := by simpa using eA 1 (by omega)
      clear eA
      obtain ⟨s1, s2⟩ := HS.out k 0 hlt (by omega)
      obtain ⟨s3, s4⟩ := HS.out k 1 hlt (by omega)
      obtain ⟨q1, q2⟩ := sumI_small (n := k) (g := fun i => s i 0) (m := 100000000) fun i hi => HS.out i 0 (by omega) (by omega)
      obtain ⟨q3, q4⟩ := sumI_small (n := k) (g := fun i => s i 1) (m := 100000000) fun i hi => HS.out i 1 (by omega) (by omega)
      clear b1 b2
      go_wp2_with fail
      have p1 : Small 1000000000000 (sumI k fun i => s i 0) := by unfold Small; omega
      refine (shifted_any _ _ _ _ _ p1 (by unfold Small; omega) (by unfold Small; omega) (by unfold Small; omega)).mono ?_
      rintro e w1 ⟨rfl, hb1⟩
      have B1' := hid ((B1.out.alloc (.cells #[.int .i64 (s k 0), .int .i64 (s k 1)] 36)).blw hb1)
      have B2' := hid ((B2.out.alloc (.cells #[.int .i64 (s k 0), .int .i64 (s k 1)] 36)).blw hb1)
      have HB := hid ((hbel.alloc hbel.size (.cells #[.int .i64 (s k 0), .int .i64 (s k 1)] 36)).trans (hb1.mono (by have := hbel.size; simp; omega)))
      clear hb1 c1 c2 f1 f2 l2 hbel
      obtain ⟨c1, c2, f1, f2⟩ := B2'.out.c2
      go_wp2
      go_roundw
      case rel => exact ⟨k + 1, by omega, by go_num, (HB.out.setCell (by simp) _).setCell (by simp) _, (B1'.out.far (by simp) _).far (by simp) _, B2'.out.set2 _ _⟩
      case measure => simp [intOf]; omega
    · obtain rfl : k = n := by omega
      obtain ⟨c3, c4, f3, f4⟩ := b1.c2
      clear b1 b2
      go_wp2
      refine bodyPost_ret (v := .agg #[.int .i64 (sumI k fun i => s i 0), .int .i64 (sumI k fun i => s i 1)]) (by simp [results, Tryz.results74, go_sem, *]) rfl ⟨rfl, (hbel.setCell (Nat.le_refl _) _).setCell (Nat.le_refl _) _⟩
end Go.Proofs.YtbenhafhklfhmaaGreat
namespace Go.Proofs.YtbenhafhklfhmaaGreat
set_option linter.all false
set_option linter.unusedVariables false
set_option linter.unusedSimpArgs false
open Go.RowKit
theorem sides_any (b o : Nat) (w : World) :
  Calls Tryz.prog 79 #[.pointer (some ⟨b, o, none⟩)] w (Ret w (.tuple #[.agg #[.pointer (some ⟨b, o, none⟩), .pointer (some ⟨b, o + 2, none⟩), .pointer (some ⟨b, o + 4, none⟩)], .agg #[.pointer (some ⟨b, o + 6, none⟩), .pointer (some ⟨b, o + 8, none⟩), .pointer (some ⟨b, o + 10, none⟩)]])) := by
 go_enter Tryz.func79, Tryz.ntmps79
 go_wp2
 go_region
 go_wp2
 refine bodyPost_ret (v := .tuple #[.agg #[.pointer (some ⟨b, o, none⟩), .pointer (some ⟨b, o + 2, none⟩), .pointer (some ⟨b, o + 4, none⟩)], .agg #[.pointer (some ⟨b, o + 6, none⟩), .pointer (some ⟨b, o + 8, none⟩), .pointer (some ⟨b, o + 10, none⟩)]]) (by simp [results, Tryz.results79, go_sem]) rfl ⟨rfl, ?_⟩
 repeat' first | exact Below.refl _ _ | apply keep_drewW | apply keep_alloc
def growLo (r : Nat → Int) : Nat → Int
 | 0 => 0
 | k + 1 => growLo r k + r (2 * k) - r (2 * k + 7)
def growHi (r : Nat → Int) : Nat → Int
 | 0 => 0
 | k + 1 => growHi r k + r (2 * k + 1) - r (2 * k + 6)
theorem growSmall {r : Nat → Int} (h : ∀ i, i < 14 → Small 1000000 (r i)) (k : Nat) (hk : k ≤ 3) : -6000000 ≤ growLo r k ∧ growLo r k ≤ 6000000 ∧ -6000000 ≤ growHi r k ∧ growHi r k ≤ 6000000 := by
 have h' : ∀ i, i < 14 → -1000000 ≤ r i ∧ r i ≤ 1000000 := h
 have a0 := h' 0 (by omega)
 have a1 := h' 1 (by omega)
 have a2 := h' 2 (by omega)
 have a3 := h' 3 (by omega)
 have a4 := h' 4 (by omega)
 have a5 := h' 5 (by omega)
 have a6 := h' 6 (by omega)
 have a7 := h' 7 (by omega)
 have a8 := h' 8 (by omega)
 have a9 := h' 9 (by omega)
 have b0 := h' 10 (by omega)
 have b1 := h' 11 (by omega)
 have hk' : k = 0 ∨ k = 1 ∨ k = 2 ∨ k = 3 := by omega
 rcases hk' with rfl | rfl | rfl | rfl <;> simp [growLo, growHi] <;> omega
theorem growStepLo (r : Nat → Int) (k : Nat) : (sumI 3 fun i => if i = 0 then (if (0 : Nat) = 0 then growLo r k else growHi r k) else if i = 1 then (if (0 : Nat) = 0 then r (2 * k) else r (2 * k + 1)) else (if (0 : Nat) = 0 then -r (2 * k + 7) else - r (2 * k + 6))) = growLo r (k + 1) := by
 simp [sumI, growLo]; omega
theorem growStepHi (r : Nat → Int) (k : Nat) : (sumI 3 fun i => if i = 0 then (if (1 : Nat) = 0 then growLo r k else growHi r k) else if i = 1 then (if (1 : Nat) = 0 then r (2 * k) else r (2 * k + 1)) else (if (1 : Nat) = 0 then -r (2 * k + 7) else - r (2 * k + 6))) = growHi r (k + 1) := by
 simp [sumI, growHi]; omega
set_option maxRecDepth 100000 in
set_option maxHeartbeats 1000000 in
theorem growth_any (r : Nat → Int) (w : World) (hr : ∀ i, i < 14 → Small 1000000 (r i)) :
  Calls Tryz.prog 75 #[.agg #[.int .i64 (r 0), .int .i64 (r 1), .int .i64 (r 2), .int .i64 (r 3), .int .i64 (r 4), .int .i64 (r 5), .int .i64 (r 6), .int .i64 (r 7), .int .i64 (r 8), .int .i64 (r 9), .int .i64 (r 10), .int .i64 (r 11), .int .i64 (r 12), .int .i64 (r 13)]] w (Ret w (.agg #[.int .i64 (growLo r 3), .int .i64 (growHi r 3)])) := by
 have HR := hid hr
 clear hr
 go_enter Tryz.func75, Tryz.ntmps75
 go_wp2_with (go_at_call 79; refine (sides_any _ _ _).mono ?_; rintro e w1 ⟨rfl, hb1⟩)
 have hs1 := hb1.size
 simp at hs1
 have HB1 := hid ((((Below.refl w.heap.size w).alloc (Nat.le_refl _) (.cells #[.int .i64 (r 0), .int .i64 (r 1), .int .i64 (r 2), .int .i64 (r 3), .int .i64 (r 4), .int .i64 (r 5), .int .i64 (r 6), .int .i64 (r 7), .int .i64 (r 8), .int .i64 (r 9), .int .i64 (r 10), .int .i64 (r 11), .int .i64 (r 12), .int .i64 (r 13)] 71)).alloc (by simp) (.cells #[.int .i64 0, .int .i64 0] 36)).trans (hb1.mono (by simp; omega)))
 have R0 := hid (((Blk.new w 71 #[.int .i64 (r 0), .int .i64 (r 1), .int .i64 (r 2), .int .i64 (r 3), .int .i64 (r 4), .int .i64 (r 5), .int .i64 (r 6), .int .i64 (r 7), .int .i64 (r 8), .int .i64 (r 9), .int .i64 (r 10), .int .i64 (r 11), .int .i64 (r 12), .int .i64 (r 13)]).alloc (.cells #[.int .i64 0, .int .i64 0] 36)).blw hb1)
 have R1 := hid ((Blk.new' (w := w.alloc (.cells #[.int .i64 (r 0), .int .i64 (r 1), .int .i64 (r 2), .int .i64 (r 3), .int .i64 (r 4), .int .i64 (r 5), .int .i64 (r 6), .int .i64 (r 7), .int .i64 (r 8), .int .i64 (r 9), .int .i64 (r 10), .int .i64 (r 11), .int .i64 (r 12), .int .i64 (r 13)] 71)) (t := 36) (cs := #[.int .i64 0, .int .i64 0]) (g := w.heap.size + 1) (by simp)).blw hb1)
 clear hb1
 go_loopw [6, 12] (fun _ i wr => ∃ k : Nat, k ≤ 3 ∧ i = .int .i64 k ∧ Below w.heap.size w wr ∧ Blk wr w.heap.size 71 #[.int .i64 (r 0), .int .i64 (r 1), .int .i64 (r 2), .int .i64 (r 3), .int .i64 (r 4), .int .i64 (r 5), .int .i64 (r 6), .int .i64 (r 7), .int .i64 (r 8), .int .i64 (r 9), .int .i64 (r 10), .int .i64 (r 11), .int .i64 (r 12), .int .i64 (r 13)] ∧ Blk wr (w.heap.size + 1) 36 #[.int .i64 0, .int .i64 0]
    ∧ Blk wr w1.heap.size 133 #[.pointer (some ⟨w.heap.size, 0, none⟩), .pointer (some ⟨w.heap.size, 2, none⟩), .pointer (some ⟨w.heap.size, 4, none⟩)] ∧ Blk wr (w1.heap.size + 1) 133 #[.pointer (some ⟨w.heap.size, 6, none⟩), .pointer (some ⟨w.heap.size, 8, none⟩), .pointer (some ⟨w.heap.size, 10, none⟩)]
    ∧ Blk wr (w1.heap.size + 1 + 1) 36 #[.int .i64 (growLo r k), .int .i64 (growHi r k)]) (fun _ i _ => 3 - (intOf i).toNat)
 case atStart => exact ⟨0, by omega, rfl, ((HB1.out.alloc (by omega) _).alloc (by simp; omega) _).alloc (by simp; omega) _, ((R0.out.alloc _).alloc _).alloc _, ((R1.out.alloc _).alloc _).alloc _, ((Blk.new' rfl).alloc _).alloc _, (Blk.new' (by simp)).alloc _, Blk.new' (by simp)⟩
 case round =>
  obtain ⟨k, hk, rfl, hbel, b0, b1, b2, b3, b4⟩ := hrel
  have hk' : k = 0 ∨ k = 1 ∨ k = 2 ∨ k = 3 := by omega
  obtain ⟨a0, a1, af0, af1⟩ := b4.c2
  obtain ⟨p0, p1, p2, pf0, pf1, pf2⟩ := b2.c3
  obtain ⟨q0, q1, q2, qf0, qf1, qf2⟩ := b3.c3
  have L0 := b0.lt
  have L4 := b4.lt
  have L2 := b2.lt
  have L3 := b3.lt
  have D0 := hid b0
  have D1 := hid b1
  have D2 := hid b2
  have D3 := hid b3
  have D4 := hid b4
  obtain ⟨z0, z1, zf0, zf1⟩ := b1.c2
  have K := keep_rule wr
  have Kf := keep_rulef wr
  have hS := HR.out
  rcases hk' with rfl | rfl | rfl | rfl
  · have e0 : wr.cell? ⟨w.heap.size, 0, none⟩ = some (.int .i64 (r 0)) := b0.cell 0
    have e1 : wr.cell? ⟨w.heap.size, 1, none⟩ = some (.int .i64 (r 1)) := b0.cell 1
    have e2 : wr.cell? ⟨w.heap.size, 6, none⟩ = some (.int .i64 (r 6)) := b0.cell 6
    have e3 : wr.cell? ⟨w.heap.size, 7, none⟩ = some (.int .i64 (r 7)) := b0.cell 7
    obtain ⟨g1, g2⟩ := hS 0 (by omega)
    obtain ⟨g3, g4⟩ := hS 1 (by omega)
    obtain ⟨g5, g6⟩ := hS 6 (by omega)
    obtain ⟨g7, g8⟩ := hS 7 (by omega)
    have G := hid (growSmall hS 0 (by omega))
    clear b0 b1 b2 b3 b4 hS
    go_wp2
    refine RW.begin (n := 14) (by kernel_rfl) (by kernel_rfl) (fun d _ _ _ _ => by cases d <;> exact Iff.rfl) (fun hSx => ?_)
    simp only [List.take_succ_cons, List.take_zero]
    refine RW.take (v := ?_) hSx (by kernel_rfl) (by kernel_rfl) ?_ ?_
    rotate_left
    · intro w' hw'; go_simp; rfl
    simp only [Act.put, List.setIfInBounds_toArray, List.set_cons_zero, List.set_cons_succ]
    refine RW.take (v := ?_) hSx (by kernel_rfl) (by kernel_rfl) ?_ ?_
    rotate_left
    · intro w' hw'; go_simp; rfl
    simp only [Act.put, List.setIfInBounds_toArray, List.set_cons_zero, List.set_cons_succ]
    refine RW.take (v := ?_) hSx (by kernel_rfl) (by kernel_rfl) ?_ ?_
    rotate_left
    · intro w' hw'; go_simp; rfl
    simp only [Act.put, List.setIfInBounds_toArray, List.set_cons_zero, List.set_cons_succ]
    refine RW.take (v := ?_) hSx (by kernel_rfl) (by kernel_rfl) ?_ ?_
    rotate_left
    · intro w' hw'; go_simp; rfl
    simp only [Act.put, List.setIfInBounds_toArray, List.set_cons_zero, List.set_cons_succ]
    refine RW.take (v := ?_) hSx (by kernel_rfl) (by kernel_rfl) ?_ ?_
    rotate_left
    · intro w' hw'; go_simp; rfl
    simp only [Act.put, List.setIfInBounds_toArray, List.set_cons_zero, List.set_cons_succ]
    refine RW.take (v := ?_) hSx (by kernel_rfl) (by kernel_rfl) ?_ ?_
    rotate_left
    · intro w' hw'; go_simp; rfl
    simp only [Act.put, List.setIfInBounds_toArray, List.set_cons_zero, List.set_cons_succ]
    refine RW.take (v := ?_) hSx (by kernel_rfl) (by kernel_rfl) ?_ ?_
    rotate_left
    · intro w' hw'; go_simp; rfl
    simp only [Act.put, List.setIfInBounds_toArray, List.set_cons_zero, List.set_cons_succ]
    refine RW.take (v := ?_) hSx (by kernel_rfl) (by kernel_rfl) ?_ ?_
    rotate_left
    · intro w' hw'; go_simp; rfl
    simp only [Act.put, List.setIfInBounds_toArray, List.set_cons_zero, List.set_cons_succ]
    refine RW.take (v := ?_) hSx (by kernel_rfl) (by kernel_rfl) ?_ ?_
    rotate_left
    · intro w' hw'; go_simp; rfl
    simp only [Act.put, List.setIfInBounds_toArray, List.set_cons_zero, List.set_cons_succ]
    refine RW.take (v := ?_) hSx (by kernel_rfl) (by kernel_rfl) ?_ ?_
    rotate_left
    · intro w' hw'; go_simp; rfl
    simp only [Act.put, List.setIfInBounds_toArray, List.set_cons_zero, List.set_cons_succ]
    refine RW.take (v := ?_) hSx (by kernel_rfl) (by kernel_rfl) ?_ ?_
    rotate_left
    · intro w' hw'; go_simp; rfl
    simp only [Act.put, List.setIfInBounds_toArray, List.set_cons_zero, List.set_cons_succ]
    refine RW.keep ?_
    refine RW.keep ?_
    refine RW.keep ?_
    simp only [List.nil_append, List.cons_append]
    refine RW.chain (by kernel_rfl) (by kernel_rfl) (fun f hf => (by cases hf)) hSx ?_
    refine wpCh_step (by kernel_rfl) (fun wx1 hxx1 Kx hKx => ?_)
    have hex1 : Ext wr wx1 := Ext.trans hSx hxx1
    obtain ⟨hcx1, hfx1⟩ := bcell hex1
    go_simp
    refine (less_any _ _ _ (by unfold Small; omega) (by unfold Small; omega)).mono ?_
    rintro e wx2 ⟨rfl, hbx2⟩
    have hex2 : Ext wr wx2 := Ext.trans hex1 hbx2
    refine hKx _ _ hbx2 ?_
    clear hKx hcx1 hfx1
    try simp only [Act.put, List.setIfInBounds_toArray, List.set_cons_zero, List.set_cons_succ]
    refine wpCh_step (by kernel_rfl) (fun wx3 hxx3 Kx hKx => ?_)
    have hex3 : Ext wr wx3 := Ext.trans hex2 hxx3
    obtain ⟨hcx3, hfx3⟩ := bcell hex3
    go_simp
    refine ch_alloc (N := fun w => (_, w.heap.size) :: _) hKx (fun wx4 hbx4 hnx4 => ?_)
    have hex4 := Ext.trans hex3 hbx4
    clear hKx hcx3 hfx3
    try simp only [Act.put, List.setIfInBounds_toArray, List.set_cons_zero, List.set_cons_succ]
    refine wpCh_step (by kernel_rfl) (fun wx5 hxx5 Kx hKx => ?_)
    have hex5 : Ext wr wx5 := Ext.trans hex4 hxx5
    replace hnx4 := hnx4.blw hxx5
    obtain ⟨hcx5, hfx5⟩ := bcell hex5
    go_simp
    refine (sum_any _ 3 3 (fun i j => if i = 0 then (if j = 0 then growLo r 0 else growHi r 0) else if i = 1 then (if j = 0 then r 0 else r 1) else (if j = 0 then -r 7 else - r 6)) _ ?_ (by omega) ?_).mono ?_
    · refine Rd.of_blk hnx4 rfl (fun i j hi hj => ?_)
      have h3 : i = 0 ∨ i = 1 ∨ i = 2 := by omega
      have h2 : j = 0 ∨ j = 1 := by omega
      rcases h3 with rfl | rfl | rfl <;> rcases h2 with rfl | rfl <;> rfl
    · intro i j hi hj
      have h3 : i = 0 ∨ i = 1 ∨ i = 2 := by omega
      have h2 : j = 0 ∨ j = 1 := by omega
      obtain ⟨q1, q2, q3, q4⟩ := G.out
      unfold Small
      rcases h3 with rfl | rfl | rfl <;> rcases h2 with rfl | rfl <;> simp <;> omega
    rintro e wx6 ⟨rfl, hbx6⟩
    rw [growStepLo r 0, growStepHi r 0]
    have hex6 : Ext wr wx6 := Ext.trans hex5 hbx6
    refine hKx _ _ hbx6 ?_
    clear hKx hcx5 hfx5
    replace hnx4 := hnx4.blw hbx6
    try simp only [Act.put, List.setIfInBounds_toArray, List.set_cons_zero, List.set_cons_succ]
    refine wpCh_nil (fun wx hxx DD hDD hOO hex => flOk0 (R := fun a => wpList _ _ _ _ a _) ?_ DD hDD hOO)
    try simp only [List.drop_succ_cons, List.drop_zero, Act.put, List.setIfInBounds_toArray, List.set_cons_zero, List.set_cons_succ]
    replace hnx4 := hnx4.blw hxx
    have hyx := Ext.trans hex6 hxx
    obtain ⟨hcx, hfx⟩ := bcell hex
    have A := hid (D4.out.blw hex)
    obtain ⟨m1, m2, m3, m4⟩ := A.out.c2
    go_wp2
    go_roundw
    case rel => exact ⟨0 + 1, by omega, by go_num, ((hbel.trans (hex.mono hbel.size)).setCell (by first | omega | (simp; done) | (simp; omega)) _).setCell (by first | omega | (simp; done) | (simp; omega)) _, ((D0.out.blw hex).far (by first | omega | (simp; omega)) _).far (by first | omega | (simp; omega)) _, ((D1.out.blw hex).far (by first | omega | (simp; omega)) _).far (by first | omega | (simp; omega)) _, ((D2.out.blw hex).far (by first | omega | (simp; done) | (simp; omega)) _).far (by first | omega | (simp; done) | (simp; omega)) _, ((D3.out.blw hex).far (by first | omega | (simp; done) | (simp; omega)) _).far (by first | omega | (simp; done) | (simp; omega)) _, A.out.set2 _ _⟩
    case measure => simp [intOf]
  · have e0 : wr.cell? ⟨w.heap.size, 2, none⟩ = some (.int .i64 (r 2)) := b0.cell 2
    have e1 : wr.cell? ⟨w.heap.size, 3, none⟩ = some (.int .i64 (r 3)) := b0.cell 3
    have e2 : wr.cell? ⟨w.heap.size, 8, none⟩ = some (.int .i64 (r 8)) := b0.cell 8
    have e3 : wr.cell? ⟨w.heap.size, 9, none⟩ = some (.int .i64 (r 9)) := b0.cell 9
    obtain ⟨g1, g2⟩ := hS 2 (by omega)
    obtain ⟨g3, g4⟩ := hS 3 (by omega)
    obtain ⟨g5, g6⟩ := hS 8 (by omega)
    obtain ⟨g7, g8⟩ := hS 9 (by omega)
    have G := hid (growSmall hS 1 (by omega))
    clear b0 b1 b2 b3 b4 hS
    go_wp2
    refine RW.begin (n := 14) (by kernel_rfl) (by kernel_rfl) (fun d _ _ _ _ => by cases d <;> exact Iff.rfl) (fun hSx => ?_)
    simp only [List.take_succ_cons, List.take_zero]
    refine RW.take (v := ?_) hSx (by kernel_rfl) (by kernel_rfl) ?_ ?_
    rotate_left
    · intro w' hw'; go_simp; rfl
    simp only [Act.put, List.setIfInBounds_toArray, List.set_cons_zero, List.set_cons_succ]
    refine RW.take (v := ?_) hSx (by kernel_rfl) (by kernel_rfl) ?_ ?_
    rotate_left
    · intro w' hw'; go_simp; rfl
    simp only [Act.put, List.setIfInBounds_toArray, List.set_cons_zero, List.set_cons_succ]
    refine RW.take (v := ?_) hSx (by kernel_rfl) (by kernel_rfl) ?_ ?_
    rotate_left
    · intro w' hw'; go_simp; rfl
    simp only [Act.put, List.setIfInBounds_toArray, List.set_cons_zero, List.set_cons_succ]
    refine RW.take (v := ?_) hSx (by kernel_rfl) (by kernel_rfl) ?_ ?_
    rotate_left
    · intro w' hw'; go_simp; rfl
    simp only [Act.put, List.setIfInBounds_toArray, List.set_cons_zero, List.set_cons_succ]
    refine RW.take (v := ?_) hSx (by kernel_rfl) (by kernel_rfl) ?_ ?_
    rotate_left
    · intro w' hw'; go_simp; rfl
    simp only [Act.put, List.setIfInBounds_toArray, List.set_cons_zero, List.set_cons_succ]
    refine RW.take (v := ?_) hSx (by kernel_rfl) (by kernel_rfl) ?_ ?_
    rotate_left
    · intro w' hw'; go_simp; rfl
    simp only [Act.put, List.setIfInBounds_toArray, List.set_cons_zero, List.set_cons_succ]
    refine RW.take (v := ?_) hSx (by kernel_rfl) (by kernel_rfl) ?_ ?_
    rotate_left
    · intro w' hw'; go_simp; rfl
    simp only [Act.put, List.setIfInBounds_toArray, List.set_cons_zero, List.set_cons_succ]
    refine RW.take (v := ?_) hSx (by kernel_rfl) (by kernel_rfl) ?_ ?_
    rotate_left
    · intro w' hw'; go_simp; rfl
    simp only [Act.put, List.setIfInBounds_toArray, List.set_cons_zero, List.set_cons_succ]
    refine RW.take (v := ?_) hSx (by kernel_rfl) (by kernel_rfl) ?_ ?_
    rotate_left
    · intro w' hw'; go_simp; rfl
    simp only [Act.put, List.setIfInBounds_toArray, List.set_cons_zero, List.set_cons_succ]
    refine RW.take (v := ?_) hSx (by kernel_rfl) (by kernel_rfl) ?_ ?_
    rotate_left
    · intro w' hw'; go_simp; rfl
    simp only [Act.put, List.setIfInBounds_toArray, List.set_cons_zero, List.set_cons_succ]
    refine RW.take (v := ?_) hSx (by kernel_rfl) (by kernel_rfl) ?_ ?_
    rotate_left
    · intro w' hw'; go_simp; rfl
    simp only [Act.put, List.setIfInBounds_toArray, List.set_cons_zero, List.set_cons_succ]
    refine RW.keep ?_
    refine RW.keep ?_
    refine RW.keep ?_
    simp only [List.nil_append, List.cons_append]
    refine RW.chain (by kernel_rfl) (by kernel_rfl) (fun f hf => (by cases hf)) hSx ?_
    refine wpCh_step (by kernel_rfl) (fun wx1 hxx1 Kx hKx => ?_)
    have hex1 : Ext wr wx1 := Ext.trans hSx hxx1
    obtain ⟨hcx1, hfx1⟩ := bcell hex1
    go_simp
    refine (less_any _ _ _ (by unfold Small; omega) (by unfold Small; omega)).mono ?_
    rintro e wx2 ⟨rfl, hbx2⟩
    have hex2 : Ext wr wx2 := Ext.trans hex1 hbx2
    refine hKx _ _ hbx2 ?_
    clear hKx hcx1 hfx1
    try simp only [Act.put, List.setIfInBounds_toArray, List.set_cons_zero, List.set_cons_succ]
    refine wpCh_step (by kernel_rfl) (fun wx3 hxx3 Kx hKx => ?_)
    have hex3 : Ext wr wx3 := Ext.trans hex2 hxx3
    obtain ⟨hcx3, hfx3⟩ := bcell hex3
    go_simp
    refine ch_alloc (N := fun w => (_, w.heap.size) :: _) hKx (fun wx4 hbx4 hnx4 => ?_)
    have hex4 := Ext.trans hex3 hbx4
    clear hKx hcx3 hfx3
    try simp only [Act.put, List.setIfInBounds_toArray, List.set_cons_zero, List.set_cons_succ]
    refine wpCh_step (by kernel_rfl) (fun wx5 hxx5 Kx hKx => ?_)
    have hex5 : Ext wr wx5 := Ext.trans hex4 hxx5
    replace hnx4 := hnx4.blw hxx5
    obtain ⟨hcx5, hfx5⟩ := bcell hex5
    go_simp
    refine (sum_any _ 3 3 (fun i j => if i = 0 then (if j = 0 then growLo r 1 else growHi r 1) else if i = 1 then (if j = 0 then r 2 else r 3) else (if j = 0 then -r 9 else - r 8)) _ ?_ (by omega) ?_).mono ?_
    · refine Rd.of_blk hnx4 rfl (fun i j hi hj => ?_)
      have h3 : i = 0 ∨ i = 1 ∨ i = 2 := by omega
      have h2 : j = 0 ∨ j = 1 := by omega
      rcases h3 with rfl | rfl | rfl <;> rcases h2 with rfl | rfl <;> rfl
    · intro i j hi hj
      have h3 : i = 0 ∨ i = 1 ∨ i = 2 := by omega
      have h2 : j = 0 ∨ j = 1 := by omega
      obtain ⟨q1, q2, q3, q4⟩ := G.out
      unfold Small
      rcases h3 with rfl | rfl | rfl <;> rcases h2 with rfl | rfl <;> simp <;> omega
    rintro e wx6 ⟨rfl, hbx6⟩
    rw [growStepLo r 1, growStepHi r 1]
    have hex6 : Ext wr wx6 := Ext.trans hex5 hbx6
    refine hKx _ _ hbx6 ?_
    clear hKx hcx5 hfx5
    replace hnx4 := hnx4.blw hbx6
    try simp only [Act.put, List.setIfInBounds_toArray, List.set_cons_zero, List.set_cons_succ]
    refine wpCh_nil (fun wx hxx DD hDD hOO hex => flOk0 (R := fun a => wpList _ _ _ _ a _) ?_ DD hDD hOO)
    try simp only [List.drop_succ_cons, List.drop_zero, Act.put, List.setIfInBounds_toArray, List.set_cons_zero, List.set_cons_succ]
    replace hnx4 := hnx4.blw hxx
    have hyx := Ext.trans hex6 hxx
    obtain ⟨hcx, hfx⟩ := bcell hex
    have A := hid (D4.out.blw hex)
    obtain ⟨m1, m2, m3, m4⟩ := A.out.c2
    go_wp2
    go_roundw
    case rel => exact ⟨1 + 1, by omega, by go_num, ((hbel.trans (hex.mono hbel.size)).setCell (by first | omega | (simp; done) | (simp; omega)) _).setCell (by first | omega | (simp; done) | (simp; omega)) _, ((D0.out.blw hex).far (by first | omega | (simp; omega)) _).far (by first | omega | (simp; omega)) _, ((D1.out.blw hex).far (by first | omega | (simp; omega)) _).far (by first | omega | (simp; omega)) _, ((D2.out.blw hex).far (by first | omega | (simp; done) | (simp; omega)) _).far (by first | omega | (simp; done) | (simp; omega)) _, ((D3.out.blw hex).far (by first | omega | (simp; done) | (simp; omega)) _).far (by first | omega | (simp; done) | (simp; omega)) _, A.out.set2 _ _⟩
    case measure => simp [intOf]
  · have e0 : wr.cell? ⟨w.heap.size, 4, none⟩ = some (.int .i64 (r 4)) := b0.cell 4
    have e1 : wr.cell? ⟨w.heap.size, 5, none⟩ = some (.int .i64 (r 5)) := b0.cell 5
    have e2 : wr.cell? ⟨w.heap.size, 10, none⟩ = some (.int .i64 (r 10)) := b0.cell 10
    have e3 : wr.cell? ⟨w.heap.size, 11, none⟩ = some (.int .i64 (r 11)) := b0.cell 11
    obtain ⟨g1, g2⟩ := hS 4 (by omega)
    obtain ⟨g3, g4⟩ := hS 5 (by omega)
    obtain ⟨g5, g6⟩ := hS 10 (by omega)
    obtain ⟨g7, g8⟩ := hS 11 (by omega)
    have G := hid (growSmall hS 2 (by omega))
    clear b0 b1 b2 b3 b4 hS
    go_wp2
    refine RW.begin (n := 14) (by kernel_rfl) (by kernel_rfl) (fun d _ _ _ _ => by cases d <;> exact Iff.rfl) (fun hSx => ?_)
    simp only [List.take_succ_cons, List.take_zero]
    refine RW.take (v := ?_) hSx (by kernel_rfl) (by kernel_rfl) ?_ ?_
    rotate_left
    · intro w' hw'; go_simp; rfl
    simp only [Act.put, List.setIfInBounds_toArray, List.set_cons_zero, List.set_cons_succ]
    refine RW.take (v := ?_) hSx (by kernel_rfl) (by kernel_rfl) ?_ ?_
    rotate_left
    · intro w' hw'; go_simp; rfl
    simp only [Act.put, List.setIfInBounds_toArray, List.set_cons_zero, List.set_cons_succ]
    refine RW.take (v := ?_) hSx (by kernel_rfl) (by kernel_rfl) ?_ ?_
    rotate_left
    · intro w' hw'; go_simp; rfl
    simp only [Act.put, List.setIfInBounds_toArray, List.set_cons_zero, List.set_cons_succ]
    refine RW.take (v := ?_) hSx (by kernel_rfl) (by kernel_rfl) ?_ ?_
    rotate_left
    · intro w' hw'; go_simp; rfl
    simp only [Act.put, List.setIfInBounds_toArray, List.set_cons_zero, List.set_cons_succ]
    refine RW.take (v := ?_) hSx (by kernel_rfl) (by kernel_rfl) ?_ ?_
    rotate_left
    · intro w' hw'; go_simp; rfl
    simp only [Act.put, List.setIfInBounds_toArray, List.set_cons_zero, List.set_cons_succ]
    refine RW.take (v := ?_) hSx (by kernel_rfl) (by kernel_rfl) ?_ ?_
    rotate_left
    · intro w' hw'; go_simp; rfl
    simp only [Act.put, List.setIfInBounds_toArray, List.set_cons_zero, List.set_cons_succ]
    refine RW.take (v := ?_) hSx (by kernel_rfl) (by kernel_rfl) ?_ ?_
    rotate_left
    · intro w' hw'; go_simp; rfl
    simp only [Act.put, List.setIfInBounds_toArray, List.set_cons_zero, List.set_cons_succ]
    refine RW.take (v := ?_) hSx (by kernel_rfl) (by kernel_rfl) ?_ ?_
    rotate_left
    · intro w' hw'; go_simp; rfl
    simp only [Act.put, List.setIfInBounds_toArray, List.set_cons_zero, List.set_cons_succ]
    refine RW.take (v := ?_) hSx (by kernel_rfl) (by kernel_rfl) ?_ ?_
    rotate_left
    · intro w' hw'; go_simp; rfl
    simp only [Act.put, List.setIfInBounds_toArray, List.set_cons_zero, List.set_cons_succ]
    refine RW.take (v := ?_) hSx (by kernel_rfl) (by kernel_rfl) ?_ ?_
    rotate_left
    · intro w' hw'; go_simp; rfl
    simp only [Act.put, List.setIfInBounds_toArray, List.set_cons_zero, List.set_cons_succ]
    refine RW.take (v := ?_) hSx (by kernel_rfl) (by kernel_rfl) ?_ ?_
    rotate_left
    · intro w' hw'; go_simp; rfl
    simp only [Act.put, List.setIfInBounds_toArray, List.set_cons_zero, List.set_cons_succ]
    refine RW.keep ?_
    refine RW.keep ?_
    refine RW.keep ?_
    simp only [List.nil_append, List.cons_append]
    refine RW.chain (by kernel_rfl) (by kernel_rfl) (fun f hf => (by cases hf)) hSx ?_
    refine wpCh_step (by kernel_rfl) (fun wx1 hxx1 Kx hKx => ?_)
    have hex1 : Ext wr wx1 := Ext.trans hSx hxx1
    obtain ⟨hcx1, hfx1⟩ := bcell hex1
    go_simp
    refine (less_any _ _ _ (by unfold Small; omega) (by unfold Small; omega)).mono ?_
    rintro e wx2 ⟨rfl, hbx2⟩
    have hex2 : Ext wr wx2 := Ext.trans hex1 hbx2
    refine hKx _ _ hbx2 ?_
    clear hKx hcx1 hfx1
    try simp only [Act.put, List.setIfInBounds_toArray, List.set_cons_zero, List.set_cons_succ]
    refine wpCh_step (by kernel_rfl) (fun wx3 hxx3 Kx hKx => ?_)
    have hex3 : Ext wr wx3 := Ext.trans hex2 hxx3
    obtain ⟨hcx3, hfx3⟩ := bcell hex3
    go_simp
    refine ch_alloc (N := fun w => (_, w.heap.size) :: _) hKx (fun wx4 hbx4 hnx4 => ?_)
    have hex4 := Ext.trans hex3 hbx4
    clear hKx hcx3 hfx3
    try simp only [Act.put, List.setIfInBounds_toArray, List.set_cons_zero, List.set_cons_succ]
    refine wpCh_step (by kernel_rfl) (fun wx5 hxx5 Kx hKx => ?_)
    have hex5 : Ext wr wx5 := Ext.trans hex4 hxx5
    replace hnx4 := hnx4.blw hxx5
    obtain ⟨hcx5, hfx5⟩ := bcell hex5
    go_simp
    refine (sum_any _ 3 3 (fun i j => if i = 0 then (if j = 0 then growLo r 2 else growHi r 2) else if i = 1 then (if j = 0 then r 4 else r 5) else (if j = 0 then -r 11 else - r 10)) _ ?_ (by omega) ?_).mono ?_
    · refine Rd.of_blk hnx4 rfl (fun i j hi hj => ?_)
      have h3 : i = 0 ∨ i = 1 ∨ i = 2 := by omega
      have h2 : j = 0 ∨ j = 1 := by omega
      rcases h3 with rfl | rfl | rfl <;> rcases h2 with rfl | rfl <;> rfl
    · intro i j hi hj
      have h3 : i = 0 ∨ i = 1 ∨ i = 2 := by omega
      have h2 : j = 0 ∨ j = 1 := by omega
      obtain ⟨q1, q2, q3, q4⟩ := G.out
      unfold Small
      rcases h3 with rfl | rfl | rfl <;> rcases h2 with rfl | rfl <;> simp <;> omega
    rintro e wx6 ⟨rfl, hbx6⟩
    rw [growStepLo r 2, growStepHi r 2]
    have hex6 : Ext wr wx6 := Ext.trans hex5 hbx6
    refine hKx _ _ hbx6 ?_
    clear hKx hcx5 hfx5
    replace hnx4 := hnx4.blw hbx6
    try simp only [Act.put, List.setIfInBounds_toArray, List.set_cons_zero, List.set_cons_succ]
    refine wpCh_nil (fun wx hxx DD hDD hOO hex => flOk0 (R := fun a => wpList _ _ _ _ a _) ?_ DD hDD hOO)
    try simp only [List.drop_succ_cons, List.drop_zero, Act.put, List.setIfInBounds_toArray, List.set_cons_zero, List.set_cons_succ]
    replace hnx4 := hnx4.blw hxx
    have hyx := Ext.trans hex6 hxx
    obtain ⟨hcx, hfx⟩ := bcell hex
    have A := hid (D4.out.blw hex)
    obtain ⟨m1, m2, m3, m4⟩ := A.out.c2
    go_wp2
    go_roundw
    case rel => exact ⟨2 + 1, by omega, by go_num, ((hbel.trans (hex.mono hbel.size)).setCell (by first | omega | (simp; done) | (simp; omega)) _).setCell (by first | omega | (simp; done) | (simp; omega)) _, ((D0.out.blw hex).far (by first | omega | (simp; omega)) _).far (by first | omega | (simp; omega)) _, ((D1.out.blw hex).far (by first | omega | (simp; omega)) _).far (by first | omega | (simp; omega)) _, ((D2.out.blw hex).far (by first | omega | (simp; done) | (simp; omega)) _).far (by first | omega | (simp; done) | (simp; omega)) _, ((D3.out.blw hex).far (by first | omega | (simp; done) | (simp; omega)) _).far (by first | omega | (simp; done) | (simp; omega)) _, A.out.set2 _ _⟩
    case measure => simp [intOf]
  · clear b0 b1 b2 b3 b4
    go_wp2
    refine bodyPost_ret (v := .agg #[.int .i64 (growLo r 3), .int .i64 (growHi r 3)]) (by simp [results, Tryz.results75, go_sem, *]) rfl ⟨rfl, (hbel.setCell (by simp) _).setCell (by simp) _⟩
end Go.Proofs.YtbenhafhklfhmaaGreat
namespace Go.Proofs.YtbenhafhklfhmaaGreat
set_option linter.all false
set_option linter.unusedVariables false
set_option linter.unusedSimpArgs false
def rowOk (r : Nat → Int) : Bool := properB 0 100000 7 fun i j => r (2 * i + j)
def spanB (a b : Int) : Bool := decide (a ≤ b) && decide (0 ≤ a) && decide (b ≤ 100000)
def cnt (a b : Int) (f : Nat → Nat → Int) : Nat → Int × Int
 | 0 => (a, b)
 | i + 1 => (max (f i 12) ((cnt a b f i).1 + growLo (f i) 3), min (f i 13) ((cnt a b f i).2 + growHi (f i) 3))
def back1 (f : Nat → Nat → Int) (c : Nat → Int × Int) (i : Nat) : Nat → Int × Int := fun j =>
 if j = i then (max (c i).1 ((c (i + 1)).1 - growHi (f i) 3), min (c i).2 ((c (i + 1)).2 - growLo (f i) 3)) else c j
def backs (f : Nat → Nat → Int) (c : Nat → Int × Int) (l : List Nat) : Nat → Int × Int := l.foldl (back1 f) c
def counts (a b : Int) (f : Nat → Nat → Int) (n : Nat) : Nat → Int × Int := backs f (cnt a b f) (List.range n).reverse
def overLo (f : Nat → Nat → Int) (c : Nat → Int × Int) (i : Nat) : Int := (c (i + 1)).1 - (c i).2 - growHi (f i) 3
def overHi (f : Nat → Nat → Int) (c : Nat → Int × Int) (i : Nat) : Int := (c (i + 1)).2 - (c i).1 - growLo (f i) 3
def known (f : Nat → Nat → Int) (c : Nat → Int × Int) (i j : Nat) : Int :=
 if j = 12 then (c (i + 1)).1 else if j = 13 then (c (i + 1)).2
 else if j < 6 then (if j % 2 = 0 then max (f i j) (overLo f c i + f i (j + 1)) else min (f i j) (overHi f c i + f i (j - 1)))
 else (if j % 2 = 0 then max (f i j) (f i (j + 1) - overHi f c i) else min (f i j) (f i (j - 1) - overLo f c i))
def firstNot (n : Nat) (p : Nat → Bool) : Option Nat := (List.range n).find? fun i => !p i
theorem firstNot_some {n k : Nat} {p : Nat → Bool} (hk : k < n) (h : p k = false) (hb : ∀ i, i < k → p i = true) : firstNot n p = some k := by
 unfold firstNot
 rw [List.find?_range_eq_some]
 exact ⟨by simp [h], by simpa using hk, fun j hj => by simp [hb j hj]⟩
theorem firstNot_none {n : Nat} {p : Nat → Bool} (hb : ∀ i, i < n → p i = true) : firstNot n p = none := by
 unfold firstNot
 rw [List.find?_range_eq_none]
 exact fun i hi => by simp [hb i hi]
def tErr (a b : Int) (n : Nat) (f : Nat → Nat → Int) : Option (Nat × Int) :=
  if spanB a b = false then some (0, 2) else if 40 < n then some (0, 4) else match firstNot n fun i => rowOk (f i) with
    | some i => some (i, 24)
    | none => match firstNot n fun i => decide ((cnt a b f (i + 1)).1 ≤ (cnt a b f (i + 1)).2) with
      | some i => some (i, 25)
      | none => none
theorem rowOk_iff {r : Nat → Int} : rowOk r = true ↔ ∀ i, i < 7 → r (2 * i) ≤ r (2 * i + 1) ∧ 0 ≤ r (2 * i) ∧ r (2 * i + 1) ≤ 100000 := by
 unfold rowOk properB
 rw [allB_iff]
 exact ⟨fun h i hi => by have := h i hi; simp at this; exact ⟨this.1.1, this.1.2, this.2⟩, fun h i hi => by obtain ⟨a, b, c⟩ := h i hi; simp [a, b, c]⟩
theorem rowOk_bd {r : Nat → Int} (h : rowOk r = true) (j : Nat) (hj : j < 14) : 0 ≤ r j ∧ r j ≤ 100000 := by
 obtain ⟨a, b, c⟩ := rowOk_iff.1 h (j / 2) (by omega)
 rcases Nat.mod_two_eq_zero_or_one j with e | e
 · rw [show 2 * (j / 2) = j by omega] at a b c; omega
 · rw [show 2 * (j / 2) + 1 = j by omega] at a c; omega
theorem spanB_iff {a b : Int} : spanB a b = true ↔ a ≤ b ∧ 0 ≤ a ∧ b ≤ 100000 := by simp [spanB, and_assoc]
theorem grow_bd {r : Nat → Int} (h : rowOk r = true) : -300000 ≤ growLo r 3 ∧ growLo r 3 ≤ 300000 ∧ -300000 ≤ growHi r 3 ∧ growHi r 3 ≤ 300000 := by
 have a0 := rowOk_bd h 0 (by omega)
 have a1 := rowOk_bd h 1 (by omega)
 have a2 := rowOk_bd h 2 (by omega)
 have a3 := rowOk_bd h 3 (by omega)
 have a4 := rowOk_bd h 4 (by omega)
 have a5 := rowOk_bd h 5 (by omega)
 have a6 := rowOk_bd h 6 (by omega)
 have a7 := rowOk_bd h 7 (by omega)
 have a8 := rowOk_bd h 8 (by omega)
 have a9 := rowOk_bd h 9 (by omega)
 have b0 := rowOk_bd h 10 (by omega)
 have b1 := rowOk_bd h 11 (by omega)
 simp only [growLo, growHi, Nat.mul_zero, Nat.zero_add, Nat.reduceMul, Nat.reduceAdd]
 omega
theorem cnt_bd {a b : Int} {f : Nat → Nat → Int} (hs : spanB a b = true) {k : Nat} (hr : ∀ i, i < k → rowOk (f i) = true) (hc : ∀ i, i < k → decide ((cnt a b f (i + 1)).1 ≤ (cnt a b f (i + 1)).2) = true) :
  0 ≤ (cnt a b f k).1 ∧ (cnt a b f k).1 ≤ (cnt a b f k).2 ∧ (cnt a b f k).2 ≤ 100000 := by
 cases k with
 | zero => obtain ⟨h1, h2, h3⟩ := spanB_iff.1 hs; exact ⟨h2, h1, h3⟩
 | succ k =>
  have h1 := of_decide_eq_true (hc k (by omega))
  have h2 := rowOk_bd (hr k (by omega)) 12 (by omega)
  have h3 := rowOk_bd (hr k (by omega)) 13 (by omega)
  refine ⟨?_, h1, ?_⟩
  · simp only [cnt]; omega
  · simp only [cnt]; omega
def Bd (n m : Nat) (c : Nat → Int × Int) : Prop := ∀ i, i ≤ n → 0 ≤ (c i).1 ∧ (c i).1 ≤ 100000 + 300000 * m ∧ -(300000 * m) ≤ (c i).2 ∧ (c i).2 ≤ 100000
theorem back1_bd {f : Nat → Nat → Int} {c : Nat → Int × Int} {n m x : Nat} (hr : rowOk (f x) = true) (hx : x < n) (hc : Bd n m c) : Bd n (m + 1) (back1 f c x) := by
 intro i hi
 obtain ⟨g1, g2, g3, g4⟩ := grow_bd hr
 have h1 := hc i hi
 have h2 := hc (x + 1) (by omega)
 have h3 := hc x (by omega)
 simp only [back1]
 split
 · simp only; omega
 · omega
theorem backs_bd {f : Nat → Nat → Int} {n : Nat} (hr : ∀ i, i < n → rowOk (f i) = true) : ∀ (l : List Nat) (m : Nat) (c : Nat → Int × Int), Bd n m c → (∀ i ∈ l, i < n) → Bd n (m + l.length) (backs f c l)
 | [], _, _, hc, _ => hc
 | x :: l, m, c, hc, hl => by
  have := backs_bd hr l (m + 1) (back1 f c x) (back1_bd (hr x (hl x (by simp))) (hl x (by simp)) hc) (fun i hi => hl i (by simp [hi]))
  rw [List.length_cons, show m + (l.length + 1) = m + 1 + l.length by omega]
  exact this
def kst (f : Nat → Nat → Int) (c : Nat → Int × Int) (p : Nat) : Nat → Nat → Int := fun i j => if i < p then known f c i j else f i j
def kn (f : Nat → Nat → Int) (c : Nat → Int × Int) (i q : Nat) : Nat → Int := fun j => if j < 2 * q ∨ (6 ≤ j ∧ j < 6 + 2 * q) then known f c i j else f i j
def kn1 (f : Nat → Nat → Int) (c : Nat → Int × Int) (i q : Nat) : Nat → Int := fun j => if j < 2 * (q + 1) ∨ (6 ≤ j ∧ j < 6 + 2 * q) then known f c i j else f i j
theorem kn1_step (f : Nat → Nat → Int) (c : Nat → Int × Int) (i q j : Nat) (h0 : j ≠ 2 * q) (h1 : j ≠ 2 * q + 1) : kn f c i q j = kn1 f c i q j := by
 unfold kn kn1
 have : (j < 2 * q ∨ (6 ≤ j ∧ j < 6 + 2 * q)) ↔ (j < 2 * (q + 1) ∨ (6 ≤ j ∧ j < 6 + 2 * q)) := by omega
 simp only [this]
theorem kn_step (f : Nat → Nat → Int) (c : Nat → Int × Int) (i q j : Nat) (h0 : j ≠ 6 + 2 * q) (h1 : j ≠ 6 + 2 * q + 1) : kn1 f c i q j = kn f c i (q + 1) j := by
 unfold kn kn1
 have : (j < 2 * (q + 1) ∨ (6 ≤ j ∧ j < 6 + 2 * q)) ↔ (j < 2 * (q + 1) ∨ (6 ≤ j ∧ j < 6 + 2 * (q + 1))) := by omega
 simp only [this]
theorem kn_three (f : Nat → Nat → Int) (c : Nat → Int × Int) (i j : Nat) (hj : j < 12) : kn f c i 3 j = known f c i j := by
 unfold kn
 rw [if_pos (by omega)]
end Go.Proofs.YtbenhafhklfhmaaGreat
namespace Go.Proofs.YtbenhafhklfhmaaGreat
set_option linter.all false
set_option linter.unusedVariables false
set_option linter.unusedSimpArgs false
open Go.RowKit
theorem KSub.dropL : ∀ (X : List Fact) {Y L : List Fact}, KSub Y L → KSub (X ++ Y) L
 | [], _, _, h => h
 | _ :: X, _, _, h => KSub.drop (KSub.dropL X h)
section
variable {c : Cx} {Q : Exit → Act → World → Prop} {F F' : Fr} {K K' : List Fact} {ops : Array Oper} {rest : List Oper} {d : Option Tmp} {ty : TypeId} {pos : String} {af : Array Edge} {g : Option (Nat × Bool)} {nf : Nat} {pend : List (Nat × Oper)} {fl : List Fl} {bs : List Bool}
theorem TW.expk {id : Nat} {l : List Oper} {X : Type} (K0 : List Fact) (Fj : X → Fr) (Kj : X → List Fact) (h1 : ∀ x, TQ c Q .normal (Fj x) (Kj x)) (h2 : (∀ x, TQ c Q .normal (Fj x) (Kj x)) → RG c l.toArray Q K0 [] (Array.replicate l.length false) l.length F K) (hm : c.P.follows .mixedOrders = true := by rfl) : TW c (.region id l.toArray true) Q F K := fun a w hF hK => by
 refine wp_region_any hm (wpAny_of_held (S := Sat c.S c.w0 K0) _ _ _ _ ?_)
 rw [List.size_toArray]
 exact h2 h1 (fun p hp => by cases hp) a w.drew hF (hK.ext (keep_drew w))
variable {K0 : List Fact} {listed : Array Bool} {fuel : Nat} {op : Op} {t : Nat}
theorem TW.ex0k {id : Nat} {l : List Oper} (K0 : List Fact) (h2 : RG c l.toArray Q K0 [] (Array.replicate l.length false) l.length F K) (hm : c.P.follows .mixedOrders = true := by rfl) : TW c (.region id l.toArray true) Q F K := fun a w hF hK => by
 refine wp_region_any hm (wpAny_of_held (S := Sat c.S c.w0 K0) _ _ _ _ ?_)
 rw [List.size_toArray]
 exact h2 (fun p hp => by cases hp) a w.drew hF (hK.ext (keep_drew w))
end
end Go.Proofs.YtbenhafhklfhmaaGreat
namespace Go.Proofs.YtbenhafhklfhmaaGreat
set_option linter.all false
set_option linter.unusedVariables false
set_option linter.unusedSimpArgs false
open Go.RowKit
section
variable {c : Cx} {Q : Exit → Act → World → Prop} {F : Fr} {K K' : List Fact} {ops : Array Oper} {rest : List Oper} {d : Option Tmp} {ty : TypeId} {pos : String} {af : Array Edge} {g : Option (Nat × Bool)} {nf : Nat} {fl : List Fl} {bs : List Bool} {pend : List (Nat × Oper)}
def slA (A : Option Addr) (cp sz q : Nat) : Option Addr := if cp = q then A else A.map fun a => a.add (q * sz)
theorem Pu.sf {T E : TypeId} {sz bytes : Nat} {x y : Operand} {A : Option Addr} {n cp q : Nat} {i : Int} (hT : ElemT c.P T E sz bytes) (hx : ev F x = some (.slice A n cp) := by rfl) (hy : ev F y = some (.int .i64 i) := by rfl) (hk : i.toNat = q := by first | exact tnS _ | exact Int.toNat_natCast _ | rfl) (h0 : 0 ≤ i := by omega) (h1 : i ≤ n := by omega) : Pu c F K ⟨d, .slice T x (some y) none none, ty, pos, af, g⟩ (.slice (slA A cp sz q) (n - q) (cp - q)) := fun a w hF _ => by
 obtain ⟨i', z, hi, hz, hs, hb, hzs⟩ := hT.hi
 have hsz : (sizeOf E).run c.P w = .ok sz w := by simp [sizeOf, typeInfo, hi, hs]
 subst hk
 simp [execOp, Instr.sliceAt, Instr.slice, hF.evl hx, hF.evl hy, run_underlying hT.ht, Instr.sliceBounds, Instr.sliceBound, asIntOf, h0, h1, hsz, slA]
end
end Go.Proofs.YtbenhafhklfhmaaGreat
namespace Go.Proofs.YtbenhafhklfhmaaGreat
set_option linter.all false
set_option linter.unusedVariables false
set_option linter.unusedSimpArgs false
open Go.RowKit
def TWi (l : Nat) (c : Cx) (code : Code) (Q : Exit → Act → World → Prop) (F : Fr) (K : List Fact) : Prop := ∀ a w, FS c.n c.D F a → Sat c.S c.w0 K w → code.wpIn (Fence.wide.inRound l) 0 c.P Q a w
theorem operIn {P : Program} {l m : Nat} {o : Oper} {a : Act} {w : World} {K K' : Act → World → Prop} {Q : Exit → Act → World → Prop} (hK : ∀ a w, K a w → K' a w) (hnd : ∀ c, o.op ≠ .defer c) (h : o.wp P a w K Q) : o.wpIn (Fence.wide.inRound l) m P a w K' Q := by
 refine ⟨fun _ _ => trivial, ?_⟩
 rw [Fence.inRound_round, Oper.semAt_some l a.eval o hnd]
 unfold Oper.wp at h
 generalize (execOp a.eval o).run P w = r at *
 cases r with
 | ok x w' =>
  cases x <;> simp only [Oper.upon] at h <;> simp only [Oper.uponIn]
  case value u => exact hK _ _ h
  case skip => exact hK _ _ h
  case defer d => exact hK _ _ h
  case enter f args =>
   refine ⟨fun h9 => (by simp [Fence.wide] at h9), CallsIn.inRound l (callsIn_wide.2 (Calls.mono h fun e w'' he => ?_))⟩
   cases e with
   | returned u => exact hK _ _ he
   | panicked ch => exact he
   | outgrown => exact he
  case row row args =>
   refine ⟨fun h9 => (by simp [Fence.wide] at h9), fun c cs _ => ?_⟩
   obtain ⟨v, w'', r1, s1⟩ := h c cs
   exact ⟨v, w'', hK _ _ r1, stepsIn_wide.2 s1⟩
 | halt x w' => cases x <;> simp only [Oper.upon] at h <;> exact h
theorem operWide {P : Program} {m : Nat} {o : Oper} {a : Act} {w : World} {Z K' : Act → World → Prop} {Q : Exit → Act → World → Prop} (hK : ∀ a w, Z a w → K' a w) (h : o.wp P a w Z (nxt Z Q)) : o.wpIn Fence.wide m P a w K' Q := by
 refine ⟨fun _ _ => trivial, ?_⟩
 rw [Fence.wide_round, Oper.semAt_none]
 unfold Oper.wp at h
 generalize (execOp a.eval o).run P w = r at *
 cases r with
 | ok x w' =>
  cases x <;> simp only [Oper.upon] at h <;> simp only [Oper.uponIn]
  case value u => exact hK _ _ h
  case skip => exact hK _ _ h
  case defer d => exact hK _ _ h
  case enter f args =>
   refine ⟨fun h9 => (by simp [Fence.wide] at h9), callsIn_wide.2 (Calls.mono h fun e w'' he => ?_)⟩
   cases e with
   | returned u => exact hK _ _ he
   | panicked ch => exact he
   | outgrown => obtain ⟨x, y, z⟩ := he; exact ⟨x, y, z⟩
  case row row args =>
   refine ⟨fun h9 => (by simp [Fence.wide] at h9), fun c cs _ => ?_⟩
   obtain ⟨v, w'', r1, s1⟩ := h c cs
   exact ⟨v, w'', hK _ _ r1, stepsIn_wide.2 s1⟩
 | halt x w' => cases x <;> simp only [Oper.upon] at h <;> exact h
def noDeferL (l : List Oper) : Bool := l.all fun o => match o.op with | .defer _ => false | _ => true
theorem listIn {P : Program} {ops : Array Oper} {Q : Exit → Act → World → Prop} {l m : Nat} (hL : ¬ LetsOut Q) : ∀ (rest : List Oper), noDeferL rest = true → ∀ a w, wpList P ops Q rest a w → wpListIn (Fence.wide.inRound l) m P ops Q rest a w
 | [], _, _, _, h => h
 | o :: rest, hn, a, w, h => by
  simp only [noDeferL, List.all_cons, Bool.and_eq_true] at hn
  unfold wpList at h
  unfold wpListIn
  split
  · rename_i hw
    rw [if_pos hw] at h
    rcases h with h | ⟨_, h⟩
    · exact operIn (fun a w h => listIn hL rest hn.2 a w h) (fun c e => by rw [e] at hn; simp at hn) h
    · exact absurd h hL
  · rename_i hw
    rw [if_neg hw] at h
    exact ⟨fun _ _ => trivial, listIn hL rest hn.2 _ _ h⟩
section
variable {l : Nat} {c : Cx} {Q : Exit → Act → World → Prop} {F F' : Fr} {K K' K0 : List Fact} {ops : Array Oper} {rest : List Oper} {d : Option Tmp} {ty : TypeId} {pos : String} {af : Array Edge} {g : Option (Nat × Bool)}
theorem TWi.seq {x y : Code} (h : ∀ Y : Act → World → Prop, (∀ F K, TWi l c y Q F K → TQ c (fun _ => Y) .normal F K) → TWi l c x (Exit.then Y Q) F K) : TWi l c (.seq x y) Q F K := fun a w hF hK =>
 wpIn_seq (h (y.wpIn (Fence.wide.inRound l) 0 c.P Q) (fun _ _ h => h) a w hF hK)
theorem TWi.block {i : Nat} {x : Code} (h : TWi l c x (Exit.inBlock i Q) F K) : TWi l c (.block i x) Q F K := fun a w hF hK => wpIn_block (h a w hF hK)
theorem TWi.ret (h : TQ c Q .ret F K) : TWi l c .ret Q F K := fun a w hF hK => wpIn_ret (h a w hF hK)
theorem TWi.skip (h : TQ c Q .normal F K) : TWi l c .skip Q F K := fun a w hF hK => wpIn_skip (h a w hF hK)
theorem TWi.cond {x : Operand} {s t : Code} {b : Bool} (hx : ev F x = some (.bool b)) (ht : b = true → TWi l c s Q F K) (hf : b = false → TWi l c t Q F K) : TWi l c (.cond x s t) Q F K := fun a w hF hK =>
 wpIn_cond_split (hF.evl hx) (fun e => ht e a w hF hK) (fun e => hf e a w hF hK)
theorem TWi.region {id : Nat} {os : List Oper} (h : TL c os.toArray Q os F K) (hnd : noDeferL os = true := by rfl) (hL : ¬ LetsOut Q := by (rintro ⟨_, _, h⟩; exact h)) : TWi l c (.region id os.toArray false) Q F K := fun a w hF hK => wpIn_region_lit (listIn hL os hnd a w (h a w hF hK))
theorem TWi.dw {id : Nat} {os : List Oper} (nf : Nat) (h : RK c os.toArray Q nf 0 (os.take nf) [] [] (Array.replicate nf false) nf F K) (hm : c.P.follows .mixedOrders = true := by rfl) (hT : tailOk os.toArray nf = true := by kernel_rfl) (hp : Pan Q := by (intro d _ _ _ _; cases d <;> exact Iff.rfl)) (hnd : noDefer os.toArray = true := by kernel_rfl) (hL : ¬ LetsOut Q := by (rintro ⟨_, _, h⟩; exact h)) : TWi l c (.region id os.toArray true) Q F K := fun a w hF hK =>
 RW.beginIn hm hT hp hnd hL fun hb => h a w _ hF hK hb
theorem TWi.any {id : Nat} {os : List Oper} (hm : c.P.follows .mixedOrders = true) (hnd : noDefer os.toArray = true) (hL : ¬ LetsOut Q) (h : ∀ a w, FS c.n c.D F a → Sat c.S c.w0 K w → wpAnyH c.P .any os.toArray Q (Sat c.S c.w0 K0) os.length (Array.replicate os.length false) a w) : TWi l c (.region id os.toArray true) Q F K := fun a w hF hK => by
 refine wpIn_region_any hm (anyIn hnd hL _ _ _ _ (wpAny_of_held (S := Sat c.S c.w0 K0) _ _ _ _ ?_))
 rw [List.size_toArray]
 exact h a w.drew hF (hK.ext (keep_drew w))
theorem TWi.rf {id : Nat} {os : List Oper} (hd : Drop F K K0) (h : RF c os.toArray Q K0 0 os [] (Array.replicate os.length false) os.length F K) (hm : c.P.follows .mixedOrders = true := by rfl) (hp : Pan Q := by (intro d _ _ _ _; cases d <;> exact Iff.rfl)) (hnd : noDefer os.toArray = true := by kernel_rfl) (hL : ¬ LetsOut Q := by (rintro ⟨_, _, h⟩; exact h)) : TWi l c (.region id os.toArray true) Q F K :=
 TWi.any (K0 := K0) hm hnd hL fun a w hF hK => h rfl (fun p hp => by cases hp) hp a w hF hK
def TLi (c : Cx) (ops : Array Oper) (Q : Exit → Act → World → Prop) (rest : List Oper) (F : Fr) (K : List Fact) : Prop := ∀ a w, FS c.n c.D F a → Sat c.S c.w0 K w → wpListIn Fence.wide 1 c.P ops Q rest a w
theorem TW.regionI {id : Nat} {os : List Oper} (h : TLi c os.toArray Q os F K) : TW c (.region id os.toArray false) Q F K := fun a w hF hK => (wpIn_wide (n := 1)).1 (wpIn_region_lit (h a w hF hK))
theorem TLi.nil (h : TQ c Q .normal F K) : TLi c ops Q [] F K := fun a w hF hK => h a w hF hK
theorem TLi.op {o : Oper} (h : ∀ Z : Act → World → Prop, (∀ F2 K2, TLi c ops Q rest F2 K2 → TQ c (fun _ => Z) .normal F2 K2) → TL c ops (nxt Z Q) [o] F K) (hL : ¬ LetsOut Q := by (rintro ⟨_, _, h⟩; exact h)) : TLi c ops Q (o :: rest) F K := fun a w hF hK => by
 have h1 := h (wpListIn Fence.wide 1 c.P ops Q rest) (fun F2 K2 h2 a w h3 h4 => h2 a w h3 h4) a w hF hK
 unfold wpList at h1
 unfold wpListIn
 split
 · rename_i hw
   rw [if_pos hw] at h1
   rcases h1 with h1 | ⟨_, h2⟩
   · exact operWide (fun _ _ h => h) h1
   · obtain ⟨x, y, z⟩ := h2
     exact absurd ⟨x, y, z⟩ hL
 · rename_i hw
   rw [if_neg hw] at h1
   exact ⟨fun _ _ => trivial, h1⟩
theorem TLi.yi {l : Nat} {x : Operand} {xs : List Operand} {ts : Array TypeId} {us : List Value} {R1 R2 : Type} {K1 : R1 → List Fact} {K2 : R2 → List Fact} (hf : ev F x = some (.func (.yield l) #[] #[])) (hx : evs F xs = some us)
   (hy : ∀ w, Sat c.S c.w0 K w → YieldAt Fence.wide 0 c.P l us.toArray w fun e w' => (e = .returned (.bool true) ∧ ∃ r, Sat c.S c.w0 (K1 r) w') ∨ (e = .returned (.bool false) ∧ ∃ r, Sat c.S c.w0 (K2 r) w'))
   (h1 : ∀ r, TLi c ops Q rest (fput F d (.bool true)) (K1 r)) (h2 : ∀ r, TLi c ops Q rest (fput F d (.bool false)) (K2 r)) (hg : gdB F ops g = some true := by rfl) (hd : dok d c.n = true := by rfl) :
   TLi c ops Q (⟨d, .call { callee := .value x, args := xs.toArray, argTypes := ts }, ty, pos, af, g⟩ :: rest) F K := fun a w hF hK => by
 unfold wpListIn
 rw [if_pos (hF.wanted hg)]
 obtain ⟨fn, tmps, assign, body, hy1, hy2⟩ := hy w hK
 have e1 := hF.evl hf
 have e2 := hF.evsl hx
 have hr : (execOp a.eval ⟨d, .call { callee := .value x, args := xs.toArray, argTypes := ts }, ty, pos, af, g⟩).run c.P w = .ok (.round l fn tmps assign body) w := by
   simp only [execOp, resolve, e1, Deferred.ofValue, List.map_toArray, e2, Sem.run_bind, Sem.run_pure, Result.andThen_ok, invoke]
   simpa using hy1
 refine ⟨fun _ _ => trivial, ?_⟩
 rw [Fence.wide_round, Oper.semAt_none, hr, Oper.uponIn_round]
 refine ⟨fun h9 => (by simp [Fence.wide] at h9), hy2.mono ?_⟩
 rintro e w' (⟨rfl, r, hs⟩ | ⟨rfl, r, hs⟩)
 · exact h1 r _ _ (hF.fput hd _) hs
 · exact h2 r _ _ (hF.fput hd _) hs
theorem Sat.newO {S : List Nat} {w0 w : World} (h : Sat S w0 K w) (o : Obj) (ho : o.isCells = false) : Sat S w0 (.obj w.heap.size o :: K) (w.alloc o) :=
 h.add (L := [_]) (Sat.one (Chg.of_ext ((Below.refl _ _).alloc (Nat.le_refl _) _)) (by simp [Fact.foot]) (fun b hb => by simp [Fact.foot] at hb; subst hb; exact .inr (Nat.le_refl _)) ⟨World.alloc_heap_new w o, ho⟩)
theorem Sat.putO {S : List Nat} {w0 w : World} {b : Nat} {o o' : Obj} (h : Sat S w0 (.obj b o :: K) w) (ho : o'.isCells = false) : Sat S w0 (.obj b o' :: K) (w.putObj b o') :=
 h.turn (φ' := .obj b o') (Chg.grown (grownBy_putObj' w b o')) (by simp [Fact.foot]) (fun x hx => .inl hx) ⟨World.putObj_heap_same (lt_of_get (h.holds (.obj b o) (by simp)).1), ho⟩
def putF : List Tmp → List Value → Fr → Fr
 | p :: ps, v :: vs, F => putF ps vs ((p, v) :: F)
 | _, _, F => F
theorem FS.putF {n : Nat} : ∀ {ps : List Tmp} {vs : List Value} {F : Fr} {t : Array Value}, FS n [] F { tmps := t, defers := [] } → (ps.all fun p => Nat.blt p n) = true → FS n [] (Go.Proofs.YtbenhafhklfhmaaGreat.putF ps vs F) { tmps := (ps.zip vs).foldl (fun t (p, v) => t.setIfInBounds p v) t, defers := [] }
 | [], _, _, _, h, _ => by simpa [Go.Proofs.YtbenhafhklfhmaaGreat.putF] using h
 | _ :: _, [], _, _, h, _ => by simpa [Go.Proofs.YtbenhafhklfhmaaGreat.putF] using h
 | p :: ps, v :: vs, F, t, h, hp => by
  simp only [List.all_cons, Bool.and_eq_true] at hp
  have := FS.putF (ps := ps) (vs := vs) (h.put hp.1 v) hp.2
  simpa [Go.Proofs.YtbenhafhklfhmaaGreat.putF, Act.put] using this
def RB (c : Cx) {R Rx : Type} (KN : R → List Fact) (jx : Rx → Code) (KX : Rx → List Fact) : Exit → Act → World → Prop
 | .normal, _, w => ∃ r, Sat c.S c.w0 (KN r) w
 | .ret, _, w => ∃ x, jx x = .ret ∧ Sat c.S c.w0 (KX x) w
 | .exit i, _, w => ∃ x, jx x = .exit i ∧ Sat c.S c.w0 (KX x) w
 | _, _, _ => False
theorem TQ.rbN {R Rx : Type} {KN : R → List Fact} {jx : Rx → Code} {KX : Rx → List Fact} (r : R) (hK : KSub K (KN r)) : TQ c (RB c KN jx KX) .normal F K := fun _ _ _ h => ⟨r, h.sub hK⟩
theorem TQ.rbR {R Rx : Type} {KN : R → List Fact} {jx : Rx → Code} {KX : Rx → List Fact} (x : Rx) (hx : jx x = .ret) (hK : KSub K (KX x)) : TQ c (RB c KN jx KX) .ret F K := fun _ _ _ h => ⟨x, hx, h.sub hK⟩
def IterK (P : Program) (gf : FuncId) (lb : List Value) (M : List Fact) (G : Type) (enc : Nat → G → List Value) (Y Y' : Nat → G → List Fact) (N : Nat) (L : List Fact) (S : List Nat) (w0 : World) : Prop :=
 ∀ (l : Nat) (R Rx : Type) (J : Nat → R → List Fact) (Jx : Rx → List Fact) (r0 : R) (w : World), Sat S w0 (M ++ J 0 r0) w →
  (∀ q g r w', q < N → Sat S w0 (Y q g ++ J q r) w' → YieldAt Fence.wide 0 P l (enc q g).toArray w' fun e w'' => (e = .returned (.bool true) ∧ ∃ r', Sat S w0 (Y' q g ++ J (q + 1) r') w'') ∨ (e = .returned (.bool false) ∧ ∃ x, Sat S w0 (Y' q g ++ Jx x) w'')) →
  Calls P gf (.func (.yield l) #[] #[] :: lb).toArray w fun e w' => (∃ v, e = .returned v) ∧ ((∃ r, Sat S w0 (L ++ J N r) w') ∨ ∃ x, Sat S w0 (Jx x) w')
theorem perm_objs (A B : List Fact) (x y : Fact) : (A ++ (x :: y :: B)).Perm (x :: y :: (A ++ B)) := List.perm_middle.trans (List.Perm.cons _ List.perm_middle)
theorem K_enterM {P : Program} {f : FuncId} {fn : Func} {code : Code} {n : Nat} {args : List Value} {R : Ending → World → Prop} {w w0 : World} {S : List Nat} {K : List Fact} (hf : P.funcs[f]? = some fn) (hb : fn.body = some code) (hn : fn.ntmps = n) (hl : Nat.ble args.length n = true) (hS : Sat S w0 K w)
  (h : TW ⟨P, n, [], S, w0⟩ code (bodyPostM Fence.wide 2 P fn R) (zipF 0 args) K) : Calls P f args.toArray w R := by
 refine calls_of_marks hf hb ?_
 rw [hn]
 exact h _ _ (FS.start (Nat.le_of_ble_eq_true hl)) hS
theorem K_enterW {P : Program} {f : FuncId} {fn : Func} {code : Code} {n : Nat} {args : List Value} {R : Ending → World → Prop} {w w0 : World} {S : List Nat} {K : List Fact} (hf : P.funcs[f]? = some fn) (hb : fn.body = some code) (hn : fn.ntmps = n) (hl : Nat.ble args.length n = true) (hS : Sat S w0 K w)
  (h : TW ⟨P, n, [], S, w0⟩ code (bodyPost P fn R) (zipF 0 args) K) : Calls P f args.toArray w R := by
 refine calls_of_wp hf hb ?_
 rw [hn]
 exact h _ _ (FS.start (Nat.le_of_ble_eq_true hl)) hS
theorem TQ.retM {fn : Func} {R : Ending → World → Prop} {rs : List ResultVar} {vs : List Value} {D : Nat} (hr : fn.results = rs.toArray) (hp : Pick K (.obj D (.deferred (some []))) K') (hv : RV c F K' rs vs) (h : ∀ w, Sat c.S c.w0 K' w → R (.returned (retV vs)) w) (hD : c.D = [{ target := .collected D, args := #[] }] := by rfl) : TQ c (bodyPostM Fence.wide 2 c.P fn R) .ret F K := fun a w hF hK => by
 have h1 := hK.pick hp
 have hd : w.heap[D]? = some (.deferred (some [])) := (h1.holds (.obj _ _) (by simp)).1
 have h2 : Sat c.S c.w0 K' (w.putObj D (.deferred none)) := (h1.putO (o' := .deferred none) rfl).sub (KSub.drop (KSub.refl _))
 obtain ⟨t, ds⟩ := a
 have e : ds = [{ target := .collected D, args := #[] }] := hF.dfs.trans hD
 subst e
 exact ret_marks hd (hv.results hr hF h2) (h _ h2)
theorem TQ.retM0 {fn : Func} {R : Ending → World → Prop} {rs : List ResultVar} {vs : List Value} (hr : fn.results = rs.toArray) (hv : RV c F K rs vs) (h : ∀ w, Sat c.S c.w0 K w → R (.returned (retV vs)) w) (hD : c.D = [] := by rfl) : TQ c (bodyPostM Fence.wide 2 c.P fn R) .ret F K := fun a w hF hK => by
 obtain ⟨t, ds⟩ := a
 have e : ds = [] := hF.dfs.trans hD
 subst e
 exact ret_marks0 (hv.results hr hF hK) (h w hK)
end
end Go.Proofs.YtbenhafhklfhmaaGreat
namespace Go.Proofs.YtbenhafhklfhmaaGreat
set_option linter.all false
set_option linter.unusedVariables false
set_option linter.unusedSimpArgs false
open Go.RowKit
def spL (a b : Int) : List Value := [.int .i64 a, .int .i64 b]
def ordB5 (lo hi a b : Int) : Bool := decide (lo ≤ a) && decide (a ≤ b) && decide (b ≤ hi)
def inB5 (lo hi a : Int) : Bool := decide (lo ≤ a) && decide (a ≤ hi)
theorem allB_succ {p : Nat → Bool} {k : Nat} : allB (k + 1) p = (allB k p && p k) := by simp [allB, List.range_succ]
theorem allB_zero {p : Nat → Bool} : allB 0 p = true := by simp [allB]
def Fst (p : Nat → Bool) (n : Nat) : Type := { k : Nat // k ≤ n ∧ (∀ j, j < k → p j = false) ∧ (k < n → p k = true) }
def aft (n k : Nat) : Nat := if k < n then k + 1 else n
theorem Fst.any {p : Nat → Bool} {n : Nat} (x : Fst p n) : decide (x.1 < n) = (List.range n).any p := by
 obtain ⟨k, h1, h2, h3⟩ := x
 by_cases h : k < n
 · have : (List.range n).any p = true := List.any_eq_true.2 ⟨k, List.mem_range.2 h, h3 h⟩
   rw [this]; simpa using h
 · have : (List.range n).any p = false := by
    rw [List.any_eq_false]
    intro j hj
    have := h2 j (by have := List.mem_range.1 hj; omega)
    simp [this]
   rw [this]; simpa using h
theorem RdR.blk {w : World} {b : Nat} {E : TypeId} {cs : List Value} {n sz : Nat} {r : Nat → List Value} (h : Blk w b E cs.toArray) (hr : flatR n r = cs) (hl : ∀ i, i < n → (r i).length = sz) (hz : Nat.blt 0 sz = true := by rfl) (hn : Nat.ble n 1000000 = true := by rfl) : RdR w sz (some ⟨b, 0, none⟩) n r :=
 (OwnR.of_blk h hr hl hz hn).rdr
end Go.Proofs.YtbenhafhklfhmaaGreat
namespace Go.Proofs.YtbenhafhklfhmaaGreat
set_option linter.all false
set_option linter.unusedVariables false
set_option linter.unusedSimpArgs false
open Go.RowKit
def rowL (r : Nat → Int) : List Value := [.int .i64 (r 0), .int .i64 (r 1), .int .i64 (r 2), .int .i64 (r 3), .int .i64 (r 4), .int .i64 (r 5), .int .i64 (r 6), .int .i64 (r 7), .int .i64 (r 8), .int .i64 (r 9), .int .i64 (r 10), .int .i64 (r 11), .int .i64 (r 12), .int .i64 (r 13)]
end Go.Proofs.YtbenhafhklfhmaaGreat
namespace Go.Proofs.YtbenhafhklfhmaaGreat
set_option linter.all false
set_option linter.unusedVariables false
set_option linter.unusedSimpArgs false
open Go.RowKit
attribute [local go_sem] Oper.semAt_some
def backL (n : Nat) : Nat → List { i : Nat // i < n }
 | 0 => []
 | k + 1 => if h : k < n then backL n k ++ [⟨n - 1 - k, by omega⟩] else backL n k
theorem backL_len {n : Nat} : ∀ {k : Nat}, k ≤ n → (backL n k).length = k
 | 0, _ => rfl
 | k + 1, h => by rw [backL, dif_pos (by omega), List.length_append, backL_len (by omega)]; rfl
theorem backward_row (A : Option Addr) (n c : Nat) (w : World) :
  Calls Tryz.prog 76 #[.slice A n c] w fun e w' => e = .returned (.func (.func 105) #[] #[.pointer (some ⟨w.heap.size, 0, none⟩)]) ∧ w' = w.alloc (.cells #[.slice A n c] 69) := by
 go_enter Tryz.func76, Tryz.ntmps76
 go_wp2
 go_ret
 exact ⟨rfl, rfl⟩
set_option maxHeartbeats 1000000 in
set_option maxRecDepth 100000 in
theorem backIter_row (bx : Nat) (A : Option Addr) (n c : Nat) (f : Nat → Nat → Value) (Kp : World → World → Prop) (w0 : World) (hn : n ≤ 1000000) (hbx : w0.cell? ⟨bx, 0, none⟩ = some (.slice A n c)) (hR : Rd w0 14 A n f)
    (hk : ∀ W W', Kp W W' → W.cell? ⟨bx, 0, none⟩ = some (.slice A n c) → Rd W 14 A n f → W'.cell? ⟨bx, 0, none⟩ = some (.slice A n c) ∧ Rd W' 14 A n f) :
    SeqStopsK Fence.wide 1 Tryz.prog 105 #[.pointer (some ⟨bx, 0, none⟩)] (fun i : { i : Nat // i < n } => #[.int .i64 i.1, .agg #[f i.1 0, f i.1 1, f i.1 2, f i.1 3, f i.1 4, f i.1 5, f i.1 6, f i.1 7, f i.1 8, f i.1 9, f i.1 10, f i.1 11, f i.1 12, f i.1 13]]) Kp (fun xs => xs = backL n n) (fun pre => ∃ k, k ≤ n ∧ pre = backL n k) n w0 := by
  intro l J Jx W hW _ _ hY h0
  have hbx' := (hW.cell (p := ⟨bx, 0, none⟩) (cell_lt hbx)).trans hbx
  have hR' := hR.below hW
  refine callsIn_of_wp Tryz.func105 rfl trivial ?_ rfl
  simp only [Tryz.ntmps105, List.size_toArray, List.length_cons, List.length_nil, Nat.reduceAdd, Nat.reduceSub, Array.replicate_succ, Array.replicate_zero, List.push_toArray, List.append_toArray, List.nil_append, List.cons_append]
  have HY := hid hY
  have HR0 := hid hR'
  have HK := hid hk
  clear hY hR hR' hk hbx
  gi_wp2
  gi_loopw [3] (fun i wr => ∃ k q : Nat, k + q = n ∧ ((q = 0 ∧ i = .int .i64 (-1)) ∨ ∃ q' : Nat, q = q' + 1 ∧ i = .int .i64 q') ∧ wr.cell? ⟨bx, 0, none⟩ = some (.slice A n c) ∧ Rd wr 14 A n f ∧ J (backL n k) wr) (fun i _ => (intOf i + 1).toNat)
  case atStart =>
    refine ⟨0, n, by omega, ?_, hbx', HR0.out, h0⟩
    rcases n with _ | n
    · exact .inl ⟨rfl, rfl⟩
    · exact .inr ⟨n, rfl, by simp⟩
  case round =>
    obtain ⟨k, q, hkq, hq, hc3, hR3, hJ3⟩ := hrel
    rcases hq with ⟨rfl, rfl⟩ | ⟨q, rfl, rfl⟩
    · obtain rfl : k = n := by omega
      have H9 := hid hR3
      clear hR3
      gi_wp2
      go_end0
      exact ⟨⟨_, rfl⟩, .inl ⟨_, rfl, hJ3⟩⟩
    · have hq : q < n := by omega
      have hlen : (backL n k).length < n := by rw [backL_len (by omega)]; omega
      obtain ⟨fn, tmps, assign, body, hy, hR⟩ := HY.out (backL n k) ⟨q, hq⟩ wr hJ3 hlen
      dsimp only at hy
      have hsn : backL n k ++ [⟨q, hq⟩] = backL n (k + 1) := by
        rw [backL, dif_pos (by omega)]
        congr 3
        omega
      rw [hsn] at hR
      have HR := hid hR
      have Hhk := hid (HK.out wr)
      have i1 : (0 : Int) ≤ (q : Int) := by omega
      have i2 : (q : Int) < (n : Int) := by omega
      have HR4 := hid hR3
      obtain ⟨b, off, rfl, cB, cA⟩ := hR3.atn hq (Below.refl _ _)
      have c0 : wr.cell? ⟨b, off + q * 14, none⟩ = some (f q 0) := by simpa using cA 0 (by omega)
      have c1 : wr.cell? ⟨b, off + q * 14 + 1, none⟩ = some (f q 1) := by simpa using cA 1 (by omega)
      have c2 : wr.cell? ⟨b, off + q * 14 + 2, none⟩ = some (f q 2) := by simpa using cA 2 (by omega)
      have c3 : wr.cell? ⟨b, off + q * 14 + 3, none⟩ = some (f q 3) := by simpa using cA 3 (by omega)
      have c4 : wr.cell? ⟨b, off + q * 14 + 4, none⟩ = some (f q 4) := by simpa using cA 4 (by omega)
      have c5 : wr.cell? ⟨b, off + q * 14 + 5, none⟩ = some (f q 5) := by simpa using cA 5 (by omega)
      have c6 : wr.cell? ⟨b, off + q * 14 + 6, none⟩ = some (f q 6) := by simpa using cA 6 (by omega)
      have c7 : wr.cell? ⟨b, off + q * 14 + 7, none⟩ = some (f q 7) := by simpa using cA 7 (by omega)
      have c8 : wr.cell? ⟨b, off + q * 14 + 8, none⟩ = some (f q 8) := by simpa using cA 8 (by omega)
      have c9 : wr.cell? ⟨b, off + q * 14 + 9, none⟩ = some (f q 9) := by simpa using cA 9 (by omega)
      have c10 : wr.cell? ⟨b, off + q * 14 + 10, none⟩ = some (f q 10) := by simpa using cA 10 (by omega)
      have c11 : wr.cell? ⟨b, off + q * 14 + 11, none⟩ = some (f q 11) := by simpa using cA 11 (by omega)
      have c12 : wr.cell? ⟨b, off + q * 14 + 12, none⟩ = some (f q 12) := by simpa using cA 12 (by omega)
      have c13 : wr.cell? ⟨b, off + q * 14 + 13, none⟩ = some (f q 13) := by simpa using cA 13 (by omega)
      clear cA
      have HJ := hid hJ3
      clear hJ3 hR hR3 hsn
      gi_wp2
      refine HR.out.mono ?_
      rintro e W3 (⟨rfl, hJ4, hk3⟩ | ⟨rfl, hJx3⟩)
      · obtain ⟨hc5, hR5⟩ := Hhk.out W3 hk3 hc3 HR4.out
        have H5 := hid hR5
        have H6 := hid hJ4
        clear hR5 hJ4 hk3
        gi_wp2
        go_roundw
        case rel =>
          refine ⟨k + 1, q, by omega, ?_, hc5, H5.out, H6.out⟩
          rcases q with _ | q
          · exact .inl ⟨rfl, rfl⟩
          · exact .inr ⟨q, rfl, by simp⟩
        case measure => simp [intOf] <;> omega
      · have H6 := hid hJx3
        clear hJx3
        gi_wp2
        refine bodyPost_ret (results_none rfl _ _ _) rfl ?_
        exact ⟨⟨_, rfl⟩, .inr ⟨_, ⟨k + 1, by omega, rfl⟩, H6.out⟩⟩
end Go.Proofs.YtbenhafhklfhmaaGreat
namespace Go.Proofs.YtbenhafhklfhmaaGreat
set_option linter.all false
set_option linter.unusedVariables false
set_option linter.unusedSimpArgs false
open Go.RowKit
theorem proper_one (a b : Int) (g : Nat) (w : World) (h : Blk w g 36 #[.int .i64 a, .int .i64 b]) :
  Calls Tryz.prog 72 #[.int .i64 0, .int .i64 100000, .slice (some ⟨g, 0, none⟩) 1 1] w (Ret w (.bool (spanB a b))) := by
 have := proper_any 0 100000 (some ⟨g, 0, none⟩) 1 1 (fun _ j => if j = 0 then a else b) w (Rd.of_blk h rfl fun i j hi hj => by
  have h2 : j = 0 ∨ j = 1 := by omega
  obtain rfl : i = 0 := by omega
  rcases h2 with rfl | rfl <;> rfl) (by omega)
 have e : properB 0 100000 1 (fun _ j => if j = 0 then a else b) = spanB a b := by simp [properB, allB, spanB, List.range_succ]
 rwa [e] at this
theorem proper_row (r : Nat → Int) (g : Nat) (w : World) (h : Blk w g 36 #[.int .i64 (r 0), .int .i64 (r 1), .int .i64 (r 2), .int .i64 (r 3), .int .i64 (r 4), .int .i64 (r 5), .int .i64 (r 6), .int .i64 (r 7), .int .i64 (r 8), .int .i64 (r 9), .int .i64 (r 10), .int .i64 (r 11), .int .i64 (r 12), .int .i64 (r 13)]) :
  Calls Tryz.prog 72 #[.int .i64 0, .int .i64 100000, .slice (some ⟨g, 0, none⟩) 7 7] w (Ret w (.bool (rowOk r))) :=
 proper_any 0 100000 (some ⟨g, 0, none⟩) 7 7 (fun i j => r (2 * i + j)) w (Rd.of_blk h rfl fun i j hi hj => by
  have h2 : j = 0 ∨ j = 1 := by omega
  have h3 : i = 0 ∨ i = 1 ∨ i = 2 ∨ i = 3 ∨ i = 4 ∨ i = 5 ∨ i = 6 := by omega
  rcases h3 with rfl | rfl | rfl | rfl | rfl | rfl | rfl <;> rcases h2 with rfl | rfl <;> rfl) (by omega)
theorem sum_two (a b c d : Int) (g : Nat) (w : World) (h : Blk w g 36 #[.int .i64 a, .int .i64 b, .int .i64 c, .int .i64 d]) (ha : Small 100000000 a) (hb : Small 100000000 b) (hc : Small 100000000 c) (hd : Small 100000000 d) :
  Calls Tryz.prog 74 #[.slice (some ⟨g, 0, none⟩) 2 2] w (Ret w (.agg #[.int .i64 (a + c), .int .i64 (b + d)])) := by
 have := sum_any (some ⟨g, 0, none⟩) 2 2 (fun i j => if i = 0 then (if j = 0 then a else b) else (if j = 0 then c else d)) w (Rd.of_blk h rfl fun i j hi hj => by
  have h2 : j = 0 ∨ j = 1 := by omega
  have h3 : i = 0 ∨ i = 1 := by omega
  rcases h3 with rfl | rfl <;> rcases h2 with rfl | rfl <;> rfl) (by omega) (fun i j hi hj => by split <;> split <;> assumption)
 simpa [sumI] using this
theorem sum_three (a b c d p q : Int) (g : Nat) (w : World) (h : Blk w g 36 #[.int .i64 a, .int .i64 b, .int .i64 c, .int .i64 d, .int .i64 p, .int .i64 q]) (ha : Small 100000000 a) (hb : Small 100000000 b) (hc : Small 100000000 c) (hd : Small 100000000 d) (hp : Small 100000000 p) (hq : Small 100000000 q) :
  Calls Tryz.prog 74 #[.slice (some ⟨g, 0, none⟩) 3 3] w (Ret w (.agg #[.int .i64 (a + c + p), .int .i64 (b + d + q)])) := by
 have := sum_any (some ⟨g, 0, none⟩) 3 3 (fun i j => if i = 0 then (if j = 0 then a else b) else if i = 1 then (if j = 0 then c else d) else (if j = 0 then p else q)) w (Rd.of_blk h rfl fun i j hi hj => by
  have h2 : j = 0 ∨ j = 1 := by omega
  have h3 : i = 0 ∨ i = 1 ∨ i = 2 := by omega
  rcases h3 with rfl | rfl | rfl <;> rcases h2 with rfl | rfl <;> rfl) (by omega) (fun i j hi hj => by split <;> (try split) <;> (try split) <;> assumption)
 simpa [sumI] using this
theorem T_span : ElemT Tryz.prog 31 36 2 16 := elemT (z := .agg #[.int .i64 0, .int .i64 0]) Tryz.underlying31 (by kernel_rfl) rfl (by decide)
theorem T_row : ElemT Tryz.prog 69 71 14 112 := elemT (z := .agg #[.int .i64 0, .int .i64 0, .int .i64 0, .int .i64 0, .int .i64 0, .int .i64 0, .int .i64 0, .int .i64 0, .int .i64 0, .int .i64 0, .int .i64 0, .int .i64 0, .int .i64 0, .int .i64 0]) Tryz.underlying69 (by kernel_rfl) rfl (by decide)
theorem span1 (x y : Int) : ∀ i j, i < 1 → j < 2 → (#[.int .i64 x, .int .i64 y] : Array Value).getD (i * 2 + j) undef = .int .i64 (if j = 0 then x else y) := fun i j hi hj => by
 have h2 : j = 0 ∨ j = 1 := by omega
 obtain rfl : i = 0 := by omega
 rcases h2 with rfl | rfl <;> rfl
theorem cat_zero (f g : Nat → Nat → Value) : cat 0 f g = g := by funext i j; simp [cat]
theorem clone_row (A : Option Addr) (n c : Nat) (f : Nat → Nat → Value) (w : World) (h : Rd w 14 A n f) (h1 : ∀ i j, i < n → j < 14 → (f i j).oneCell' = true) (hn : n ≤ 1000000) (hA : A = none → c = 0 ∧ n = 0) :
  Calls Tryz.prog 78 #[.slice A n c] w fun e w' => ∃ v, e = .returned v ∧ Own w' w.heap.size 71 14 v n f ∧ Below w.heap.size w w' := by
 have he := fun w' => Lib.run_eql_slice_nil (P := Tryz.prog) w' 69 71 A n c 0 0 Tryz.underlying69
 cases A with
 | none =>
  obtain ⟨rfl, rfl⟩ := hA rfl
  go_enter Tryz.func78, Tryz.ntmps78
  go_wp2
  go_ret
  exact ⟨_, rfl, Own.nil _ _ _ _ _, Below.refl _ _⟩
 | some ad =>
  go_enter Tryz.func78, Tryz.ntmps78
  go_wp2_with (at_builtin; refine wpList_app rfl _ _ T_row rfl (n := 0) (m := n) (f := fun _ _ => undef) rfl (Own.empty (Blk.new' (g := w.heap.size) rfl) (Nat.le_refl _) _) rfl (h.alloc _) h1 (by omega) (by decide) (by simp) ?_; intro v' w1 hown hg hb)
  go_ret
  rw [Nat.zero_add, cat_zero] at hown
  exact ⟨_, rfl, hown, ((Below.refl _ _).alloc (Nat.le_refl _) _).grown hg (by simp) (fun k e => by cases e; exact Nat.le_refl _)⟩
end Go.Proofs.YtbenhafhklfhmaaGreat
