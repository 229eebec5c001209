/-
  Walks of brand.sides and brand.growth. Numbers are bounded where they are added.
-/
import Derived.Test.YtifjnmflghfalaaBrandB
import Derived.Test.YtifjnmflghfalaaRw
import Derived.BigRegion
namespace Go.Proofs.Ytifjnmflghfalaa
set_option linter.all false
set_option linter.unusedVariables false
set_option linter.unusedSimpArgs false
open Go.RowKit
theorem sides_any (b o : Nat) (w : World) :
    Calls Try.prog 28 #[.pointer (some ⟨b, o, none⟩)] w (Ret w (.tuple #[.agg #[.pointer (some ⟨b, o, none⟩), .pointer (some ⟨b, o + 2, none⟩), .pointer (some ⟨b, o + 4, none⟩)], .agg #[.pointer (some ⟨b, o + 6, none⟩), .pointer (some ⟨b, o + 8, none⟩), .pointer (some ⟨b, o + 10, none⟩)]])) := by
  go_enter Try.func28, Try.ntmps28
  go_wp2
  go_region
  go_wp2
  refine bodyPost_ret (v := .tuple #[.agg #[.pointer (some ⟨b, o, none⟩), .pointer (some ⟨b, o + 2, none⟩), .pointer (some ⟨b, o + 4, none⟩)], .agg #[.pointer (some ⟨b, o + 6, none⟩), .pointer (some ⟨b, o + 8, none⟩), .pointer (some ⟨b, o + 10, none⟩)]]) (by simp [results, Try.results28, go_sem]) rfl ⟨rfl, ?_⟩
  repeat' first | exact Below.refl _ _ | apply keep_drewW | apply keep_alloc
/-- What comes, less what goes, of the first k of three kinds: the growth of a row r of 14 numbers. -/
def growLo (r : Nat → Int) : Nat → Int
  | 0 => 0
  | k + 1 => growLo r k + r (2 * k) - r (2 * k + 7)
def growHi (r : Nat → Int) : Nat → Int
  | 0 => 0
  | k + 1 => growHi r k + r (2 * k + 1) - r (2 * k + 6)
theorem growSmall {r : Nat → Int} (h : ∀ i, i < 14 → Small 1000000 (r i)) (k : Nat) (hk : k ≤ 3) : -6000000 ≤ growLo r k ∧ growLo r k ≤ 6000000 ∧ -6000000 ≤ growHi r k ∧ growHi r k ≤ 6000000 := by
  have h' : ∀ i, i < 14 → -1000000 ≤ r i ∧ r i ≤ 1000000 := h
  have a0 := h' 0 (by omega)
  have a1 := h' 1 (by omega)
  have a2 := h' 2 (by omega)
  have a3 := h' 3 (by omega)
  have a4 := h' 4 (by omega)
  have a5 := h' 5 (by omega)
  have a6 := h' 6 (by omega)
  have a7 := h' 7 (by omega)
  have a8 := h' 8 (by omega)
  have a9 := h' 9 (by omega)
  have b0 := h' 10 (by omega)
  have b1 := h' 11 (by omega)
  have hk' : k = 0 ∨ k = 1 ∨ k = 2 ∨ k = 3 := by omega
  rcases hk' with rfl | rfl | rfl | rfl <;> simp [growLo, growHi] <;> omega
theorem growStepLo (r : Nat → Int) (k : Nat) : (sumI 3 fun i => if i = 0 then (if (0 : Nat) = 0 then growLo r k else growHi r k) else if i = 1 then (if (0 : Nat) = 0 then r (2 * k) else r (2 * k + 1)) else (if (0 : Nat) = 0 then -r (2 * k + 7) else - r (2 * k + 6))) = growLo r (k + 1) := by
  simp [sumI, growLo]; omega
theorem growStepHi (r : Nat → Int) (k : Nat) : (sumI 3 fun i => if i = 0 then (if (1 : Nat) = 0 then growLo r k else growHi r k) else if i = 1 then (if (1 : Nat) = 0 then r (2 * k) else r (2 * k + 1)) else (if (1 : Nat) = 0 then -r (2 * k + 7) else - r (2 * k + 6))) = growHi r (k + 1) := by
  simp [sumI, growHi]; omega
set_option maxRecDepth 100000 in
set_option maxHeartbeats 1000000 in
theorem growth_any (r : Nat → Int) (w : World) (hr : ∀ i, i < 14 → Small 1000000 (r i)) :
    Calls Try.prog 24 #[.agg #[.int .i64 (r 0), .int .i64 (r 1), .int .i64 (r 2), .int .i64 (r 3), .int .i64 (r 4), .int .i64 (r 5), .int .i64 (r 6), .int .i64 (r 7), .int .i64 (r 8), .int .i64 (r 9), .int .i64 (r 10), .int .i64 (r 11), .int .i64 (r 12), .int .i64 (r 13)]] w (Ret w (.agg #[.int .i64 (growLo r 3), .int .i64 (growHi r 3)])) := by
  have HR := hid hr
  clear hr
  go_enter Try.func24, Try.ntmps24
  go_wp2_with (go_at_call 28; refine (sides_any _ _ _).mono ?_; rintro e w1 ⟨rfl, hb1⟩)
  have hs1 := hb1.size
  simp at hs1
  have HB1 := hid ((((Below.refl w.heap.size w).alloc (Nat.le_refl _) (.cells #[.int .i64 (r 0), .int .i64 (r 1), .int .i64 (r 2), .int .i64 (r 3), .int .i64 (r 4), .int .i64 (r 5), .int .i64 (r 6), .int .i64 (r 7), .int .i64 (r 8), .int .i64 (r 9), .int .i64 (r 10), .int .i64 (r 11), .int .i64 (r 12), .int .i64 (r 13)] 34)).alloc (by simp) (.cells #[.int .i64 0, .int .i64 0] 23)).trans (hb1.mono (by simp; omega)))
  have R0 := hid (((Blk.new w 34 #[.int .i64 (r 0), .int .i64 (r 1), .int .i64 (r 2), .int .i64 (r 3), .int .i64 (r 4), .int .i64 (r 5), .int .i64 (r 6), .int .i64 (r 7), .int .i64 (r 8), .int .i64 (r 9), .int .i64 (r 10), .int .i64 (r 11), .int .i64 (r 12), .int .i64 (r 13)]).alloc (.cells #[.int .i64 0, .int .i64 0] 23)).blw hb1)
  have R1 := hid ((Blk.new' (w := w.alloc (.cells #[.int .i64 (r 0), .int .i64 (r 1), .int .i64 (r 2), .int .i64 (r 3), .int .i64 (r 4), .int .i64 (r 5), .int .i64 (r 6), .int .i64 (r 7), .int .i64 (r 8), .int .i64 (r 9), .int .i64 (r 10), .int .i64 (r 11), .int .i64 (r 12), .int .i64 (r 13)] 34)) (t := 23) (cs := #[.int .i64 0, .int .i64 0]) (g := w.heap.size + 1) (by simp)).blw hb1)
  clear hb1
  go_loopw [6, 12] (fun _ i wr => ∃ k : Nat, k ≤ 3 ∧ i = .int .i64 k ∧ Below w.heap.size w wr ∧ Blk wr w.heap.size 34 #[.int .i64 (r 0), .int .i64 (r 1), .int .i64 (r 2), .int .i64 (r 3), .int .i64 (r 4), .int .i64 (r 5), .int .i64 (r 6), .int .i64 (r 7), .int .i64 (r 8), .int .i64 (r 9), .int .i64 (r 10), .int .i64 (r 11), .int .i64 (r 12), .int .i64 (r 13)] ∧ Blk wr (w.heap.size + 1) 23 #[.int .i64 0, .int .i64 0]
      ∧ Blk wr w1.heap.size 68 #[.pointer (some ⟨w.heap.size, 0, none⟩), .pointer (some ⟨w.heap.size, 2, none⟩), .pointer (some ⟨w.heap.size, 4, none⟩)] ∧ Blk wr (w1.heap.size + 1) 68 #[.pointer (some ⟨w.heap.size, 6, none⟩), .pointer (some ⟨w.heap.size, 8, none⟩), .pointer (some ⟨w.heap.size, 10, none⟩)]
      ∧ Blk wr (w1.heap.size + 1 + 1) 23 #[.int .i64 (growLo r k), .int .i64 (growHi r k)]) (fun _ i _ => 3 - (intOf i).toNat)
  case atStart => exact ⟨0, by omega, rfl, ((HB1.out.alloc (by omega) _).alloc (by simp; omega) _).alloc (by simp; omega) _, ((R0.out.alloc _).alloc _).alloc _, ((R1.out.alloc _).alloc _).alloc _, ((Blk.new' rfl).alloc _).alloc _, (Blk.new' (by simp)).alloc _, Blk.new' (by simp)⟩
  case round =>
    obtain ⟨k, hk, rfl, hbel, b0, b1, b2, b3, b4⟩ := hrel
    have hk' : k = 0 ∨ k = 1 ∨ k = 2 ∨ k = 3 := by omega
    obtain ⟨a0, a1, af0, af1⟩ := b4.c2
    obtain ⟨p0, p1, p2, pf0, pf1, pf2⟩ := b2.c3
    obtain ⟨q0, q1, q2, qf0, qf1, qf2⟩ := b3.c3
    have L0 := b0.lt
    have L4 := b4.lt
    have L2 := b2.lt
    have L3 := b3.lt
    have D0 := hid b0
    have D1 := hid b1
    have D2 := hid b2
    have D3 := hid b3
    have D4 := hid b4
    obtain ⟨z0, z1, zf0, zf1⟩ := b1.c2
    have K := keep_rule wr
    have Kf := keep_rulef wr
    have hS := HR.out
    rcases hk' with rfl | rfl | rfl | rfl
    · have e0 : wr.cell? ⟨w.heap.size, 0, none⟩ = some (.int .i64 (r 0)) := b0.cell 0
      have e1 : wr.cell? ⟨w.heap.size, 1, none⟩ = some (.int .i64 (r 1)) := b0.cell 1
      have e2 : wr.cell? ⟨w.heap.size, 6, none⟩ = some (.int .i64 (r 6)) := b0.cell 6
      have e3 : wr.cell? ⟨w.heap.size, 7, none⟩ = some (.int .i64 (r 7)) := b0.cell 7
      obtain ⟨g1, g2⟩ := hS 0 (by omega)
      obtain ⟨g3, g4⟩ := hS 1 (by omega)
      obtain ⟨g5, g6⟩ := hS 6 (by omega)
      obtain ⟨g7, g8⟩ := hS 7 (by omega)
      have G := hid (growSmall hS 0 (by omega))
      clear b0 b1 b2 b3 b4 hS
      go_wp2
      refine RW.begin (n := 14) (by kernel_rfl) (by kernel_rfl) (fun d _ _ _ _ => by cases d <;> exact Iff.rfl) (fun hSx => ?_)
      simp only [List.take_succ_cons, List.take_zero]
      refine RW.take (v := ?_) hSx (by kernel_rfl) (by kernel_rfl) ?_ ?_
      rotate_left
      · intro w' hw'; go_simp; rfl
      simp only [Act.put, List.setIfInBounds_toArray, List.set_cons_zero, List.set_cons_succ]
      refine RW.take (v := ?_) hSx (by kernel_rfl) (by kernel_rfl) ?_ ?_
      rotate_left
      · intro w' hw'; go_simp; rfl
      simp only [Act.put, List.setIfInBounds_toArray, List.set_cons_zero, List.set_cons_succ]
      refine RW.take (v := ?_) hSx (by kernel_rfl) (by kernel_rfl) ?_ ?_
      rotate_left
      · intro w' hw'; go_simp; rfl
      simp only [Act.put, List.setIfInBounds_toArray, List.set_cons_zero, List.set_cons_succ]
      refine RW.take (v := ?_) hSx (by kernel_rfl) (by kernel_rfl) ?_ ?_
      rotate_left
      · intro w' hw'; go_simp; rfl
      simp only [Act.put, List.setIfInBounds_toArray, List.set_cons_zero, List.set_cons_succ]
      refine RW.take (v := ?_) hSx (by kernel_rfl) (by kernel_rfl) ?_ ?_
      rotate_left
      · intro w' hw'; go_simp; rfl
      simp only [Act.put, List.setIfInBounds_toArray, List.set_cons_zero, List.set_cons_succ]
      refine RW.take (v := ?_) hSx (by kernel_rfl) (by kernel_rfl) ?_ ?_
      rotate_left
      · intro w' hw'; go_simp; rfl
      simp only [Act.put, List.setIfInBounds_toArray, List.set_cons_zero, List.set_cons_succ]
      refine RW.take (v := ?_) hSx (by kernel_rfl) (by kernel_rfl) ?_ ?_
      rotate_left
      · intro w' hw'; go_simp; rfl
      simp only [Act.put, List.setIfInBounds_toArray, List.set_cons_zero, List.set_cons_succ]
      refine RW.take (v := ?_) hSx (by kernel_rfl) (by kernel_rfl) ?_ ?_
      rotate_left
      · intro w' hw'; go_simp; rfl
      simp only [Act.put, List.setIfInBounds_toArray, List.set_cons_zero, List.set_cons_succ]
      refine RW.take (v := ?_) hSx (by kernel_rfl) (by kernel_rfl) ?_ ?_
      rotate_left
      · intro w' hw'; go_simp; rfl
      simp only [Act.put, List.setIfInBounds_toArray, List.set_cons_zero, List.set_cons_succ]
      refine RW.take (v := ?_) hSx (by kernel_rfl) (by kernel_rfl) ?_ ?_
      rotate_left
      · intro w' hw'; go_simp; rfl
      simp only [Act.put, List.setIfInBounds_toArray, List.set_cons_zero, List.set_cons_succ]
      refine RW.take (v := ?_) hSx (by kernel_rfl) (by kernel_rfl) ?_ ?_
      rotate_left
      · intro w' hw'; go_simp; rfl
      simp only [Act.put, List.setIfInBounds_toArray, List.set_cons_zero, List.set_cons_succ]
      refine RW.keep ?_
      refine RW.keep ?_
      refine RW.keep ?_
      simp only [List.nil_append, List.cons_append]
      refine RW.chain (by kernel_rfl) (by kernel_rfl) (fun f hf => (by cases hf)) hSx ?_
      refine wpCh_step (by kernel_rfl) (fun wx1 hxx1 Kx hKx => ?_)
      have hex1 : Ext wr wx1 := Ext.trans hSx hxx1
      obtain ⟨hcx1, hfx1⟩ := bcell hex1
      go_simp
      refine (less_any _ _ _ (by unfold Small; omega) (by unfold Small; omega)).mono ?_
      rintro e wx2 ⟨rfl, hbx2⟩
      have hex2 : Ext wr wx2 := Ext.trans hex1 hbx2
      refine hKx _ _ hbx2 ?_
      clear hKx hcx1 hfx1
      try simp only [Act.put, List.setIfInBounds_toArray, List.set_cons_zero, List.set_cons_succ]
      refine wpCh_step (by kernel_rfl) (fun wx3 hxx3 Kx hKx => ?_)
      have hex3 : Ext wr wx3 := Ext.trans hex2 hxx3
      obtain ⟨hcx3, hfx3⟩ := bcell hex3
      go_simp
      refine ch_alloc (N := fun w => (_, w.heap.size) :: _) hKx (fun wx4 hbx4 hnx4 => ?_)
      have hex4 := Ext.trans hex3 hbx4
      clear hKx hcx3 hfx3
      try simp only [Act.put, List.setIfInBounds_toArray, List.set_cons_zero, List.set_cons_succ]
      refine wpCh_step (by kernel_rfl) (fun wx5 hxx5 Kx hKx => ?_)
      have hex5 : Ext wr wx5 := Ext.trans hex4 hxx5
      replace hnx4 := hnx4.blw hxx5
      obtain ⟨hcx5, hfx5⟩ := bcell hex5
      go_simp
      refine (sum_any _ 3 3 (fun i j => if i = 0 then (if j = 0 then growLo r 0 else growHi r 0) else if i = 1 then (if j = 0 then r 0 else r 1) else (if j = 0 then -r 7 else - r 6)) _ ?_ (by omega) ?_).mono ?_
      · refine Rd.of_blk hnx4 rfl (fun i j hi hj => ?_)
        have h3 : i = 0 ∨ i = 1 ∨ i = 2 := by omega
        have h2 : j = 0 ∨ j = 1 := by omega
        rcases h3 with rfl | rfl | rfl <;> rcases h2 with rfl | rfl <;> rfl
      · intro i j hi hj
        have h3 : i = 0 ∨ i = 1 ∨ i = 2 := by omega
        have h2 : j = 0 ∨ j = 1 := by omega
        obtain ⟨q1, q2, q3, q4⟩ := G.out
        unfold Small
        rcases h3 with rfl | rfl | rfl <;> rcases h2 with rfl | rfl <;> simp <;> omega
      rintro e wx6 ⟨rfl, hbx6⟩
      rw [growStepLo r 0, growStepHi r 0]
      have hex6 : Ext wr wx6 := Ext.trans hex5 hbx6
      refine hKx _ _ hbx6 ?_
      clear hKx hcx5 hfx5
      replace hnx4 := hnx4.blw hbx6
      try simp only [Act.put, List.setIfInBounds_toArray, List.set_cons_zero, List.set_cons_succ]
      refine wpCh_nil (fun wx hxx DD hDD hOO hex => flOk0 (R := fun a => wpList _ _ _ _ a _) ?_ DD hDD hOO)
      try simp only [List.drop_succ_cons, List.drop_zero, Act.put, List.setIfInBounds_toArray, List.set_cons_zero, List.set_cons_succ]
      replace hnx4 := hnx4.blw hxx
      have hyx := Ext.trans hex6 hxx
      obtain ⟨hcx, hfx⟩ := bcell hex
      have A := hid (D4.out.blw hex)
      obtain ⟨m1, m2, m3, m4⟩ := A.out.c2
      go_wp2
      go_roundw
      case rel => exact ⟨0 + 1, by omega, by go_num, ((hbel.trans (hex.mono hbel.size)).setCell (by first | omega | (simp; done) | (simp; omega)) _).setCell (by first | omega | (simp; done) | (simp; omega)) _, ((D0.out.blw hex).far (by first | omega | (simp; omega)) _).far (by first | omega | (simp; omega)) _, ((D1.out.blw hex).far (by first | omega | (simp; omega)) _).far (by first | omega | (simp; omega)) _, ((D2.out.blw hex).far (by first | omega | (simp; done) | (simp; omega)) _).far (by first | omega | (simp; done) | (simp; omega)) _, ((D3.out.blw hex).far (by first | omega | (simp; done) | (simp; omega)) _).far (by first | omega | (simp; done) | (simp; omega)) _, A.out.set2 _ _⟩
      case measure => simp [intOf]
    · have e0 : wr.cell? ⟨w.heap.size, 2, none⟩ = some (.int .i64 (r 2)) := b0.cell 2
      have e1 : wr.cell? ⟨w.heap.size, 3, none⟩ = some (.int .i64 (r 3)) := b0.cell 3
      have e2 : wr.cell? ⟨w.heap.size, 8, none⟩ = some (.int .i64 (r 8)) := b0.cell 8
      have e3 : wr.cell? ⟨w.heap.size, 9, none⟩ = some (.int .i64 (r 9)) := b0.cell 9
      obtain ⟨g1, g2⟩ := hS 2 (by omega)
      obtain ⟨g3, g4⟩ := hS 3 (by omega)
      obtain ⟨g5, g6⟩ := hS 8 (by omega)
      obtain ⟨g7, g8⟩ := hS 9 (by omega)
      have G := hid (growSmall hS 1 (by omega))
      clear b0 b1 b2 b3 b4 hS
      go_wp2
      refine RW.begin (n := 14) (by kernel_rfl) (by kernel_rfl) (fun d _ _ _ _ => by cases d <;> exact Iff.rfl) (fun hSx => ?_)
      simp only [List.take_succ_cons, List.take_zero]
      refine RW.take (v := ?_) hSx (by kernel_rfl) (by kernel_rfl) ?_ ?_
      rotate_left
      · intro w' hw'; go_simp; rfl
      simp only [Act.put, List.setIfInBounds_toArray, List.set_cons_zero, List.set_cons_succ]
      refine RW.take (v := ?_) hSx (by kernel_rfl) (by kernel_rfl) ?_ ?_
      rotate_left
      · intro w' hw'; go_simp; rfl
      simp only [Act.put, List.setIfInBounds_toArray, List.set_cons_zero, List.set_cons_succ]
      refine RW.take (v := ?_) hSx (by kernel_rfl) (by kernel_rfl) ?_ ?_
      rotate_left
      · intro w' hw'; go_simp; rfl
      simp only [Act.put, List.setIfInBounds_toArray, List.set_cons_zero, List.set_cons_succ]
      refine RW.take (v := ?_) hSx (by kernel_rfl) (by kernel_rfl) ?_ ?_
      rotate_left
      · intro w' hw'; go_simp; rfl
      simp only [Act.put, List.setIfInBounds_toArray, List.set_cons_zero, List.set_cons_succ]
      refine RW.take (v := ?_) hSx (by kernel_rfl) (by kernel_rfl) ?_ ?_
      rotate_left
      · intro w' hw'; go_simp; rfl
      simp only [Act.put, List.setIfInBounds_toArray, List.set_cons_zero, List.set_cons_succ]
      refine RW.take (v := ?_) hSx (by kernel_rfl) (by kernel_rfl) ?_ ?_
      rotate_left
      · intro w' hw'; go_simp; rfl
      simp only [Act.put, List.setIfInBounds_toArray, List.set_cons_zero, List.set_cons_succ]
      refine RW.take (v := ?_) hSx (by kernel_rfl) (by kernel_rfl) ?_ ?_
      rotate_left
      · intro w' hw'; go_simp; rfl
      simp only [Act.put, List.setIfInBounds_toArray, List.set_cons_zero, List.set_cons_succ]
      refine RW.take (v := ?_) hSx (by kernel_rfl) (by kernel_rfl) ?_ ?_
      rotate_left
      · intro w' hw'; go_simp; rfl
      simp only [Act.put, List.setIfInBounds_toArray, List.set_cons_zero, List.set_cons_succ]
      refine RW.take (v := ?_) hSx (by kernel_rfl) (by kernel_rfl) ?_ ?_
      rotate_left
      · intro w' hw'; go_simp; rfl
      simp only [Act.put, List.setIfInBounds_toArray, List.set_cons_zero, List.set_cons_succ]
      refine RW.take (v := ?_) hSx (by kernel_rfl) (by kernel_rfl) ?_ ?_
      rotate_left
      · intro w' hw'; go_simp; rfl
      simp only [Act.put, List.setIfInBounds_toArray, List.set_cons_zero, List.set_cons_succ]
      refine RW.take (v := ?_) hSx (by kernel_rfl) (by kernel_rfl) ?_ ?_
      rotate_left
      · intro w' hw'; go_simp; rfl
      simp only [Act.put, List.setIfInBounds_toArray, List.set_cons_zero, List.set_cons_succ]
      refine RW.keep ?_
      refine RW.keep ?_
      refine RW.keep ?_
      simp only [List.nil_append, List.cons_append]
      refine RW.chain (by kernel_rfl) (by kernel_rfl) (fun f hf => (by cases hf)) hSx ?_
      refine wpCh_step (by kernel_rfl) (fun wx1 hxx1 Kx hKx => ?_)
      have hex1 : Ext wr wx1 := Ext.trans hSx hxx1
      obtain ⟨hcx1, hfx1⟩ := bcell hex1
      go_simp
      refine (less_any _ _ _ (by unfold Small; omega) (by unfold Small; omega)).mono ?_
      rintro e wx2 ⟨rfl, hbx2⟩
      have hex2 : Ext wr wx2 := Ext.trans hex1 hbx2
      refine hKx _ _ hbx2 ?_
      clear hKx hcx1 hfx1
      try simp only [Act.put, List.setIfInBounds_toArray, List.set_cons_zero, List.set_cons_succ]
      refine wpCh_step (by kernel_rfl) (fun wx3 hxx3 Kx hKx => ?_)
      have hex3 : Ext wr wx3 := Ext.trans hex2 hxx3
      obtain ⟨hcx3, hfx3⟩ := bcell hex3
      go_simp
      refine ch_alloc (N := fun w => (_, w.heap.size) :: _) hKx (fun wx4 hbx4 hnx4 => ?_)
      have hex4 := Ext.trans hex3 hbx4
      clear hKx hcx3 hfx3
      try simp only [Act.put, List.setIfInBounds_toArray, List.set_cons_zero, List.set_cons_succ]
      refine wpCh_step (by kernel_rfl) (fun wx5 hxx5 Kx hKx => ?_)
      have hex5 : Ext wr wx5 := Ext.trans hex4 hxx5
      replace hnx4 := hnx4.blw hxx5
      obtain ⟨hcx5, hfx5⟩ := bcell hex5
      go_simp
      refine (sum_any _ 3 3 (fun i j => if i = 0 then (if j = 0 then growLo r 1 else growHi r 1) else if i = 1 then (if j = 0 then r 2 else r 3) else (if j = 0 then -r 9 else - r 8)) _ ?_ (by omega) ?_).mono ?_
      · refine Rd.of_blk hnx4 rfl (fun i j hi hj => ?_)
        have h3 : i = 0 ∨ i = 1 ∨ i = 2 := by omega
        have h2 : j = 0 ∨ j = 1 := by omega
        rcases h3 with rfl | rfl | rfl <;> rcases h2 with rfl | rfl <;> rfl
      · intro i j hi hj
        have h3 : i = 0 ∨ i = 1 ∨ i = 2 := by omega
        have h2 : j = 0 ∨ j = 1 := by omega
        obtain ⟨q1, q2, q3, q4⟩ := G.out
        unfold Small
        rcases h3 with rfl | rfl | rfl <;> rcases h2 with rfl | rfl <;> simp <;> omega
      rintro e wx6 ⟨rfl, hbx6⟩
      rw [growStepLo r 1, growStepHi r 1]
      have hex6 : Ext wr wx6 := Ext.trans hex5 hbx6
      refine hKx _ _ hbx6 ?_
      clear hKx hcx5 hfx5
      replace hnx4 := hnx4.blw hbx6
      try simp only [Act.put, List.setIfInBounds_toArray, List.set_cons_zero, List.set_cons_succ]
      refine wpCh_nil (fun wx hxx DD hDD hOO hex => flOk0 (R := fun a => wpList _ _ _ _ a _) ?_ DD hDD hOO)
      try simp only [List.drop_succ_cons, List.drop_zero, Act.put, List.setIfInBounds_toArray, List.set_cons_zero, List.set_cons_succ]
      replace hnx4 := hnx4.blw hxx
      have hyx := Ext.trans hex6 hxx
      obtain ⟨hcx, hfx⟩ := bcell hex
      have A := hid (D4.out.blw hex)
      obtain ⟨m1, m2, m3, m4⟩ := A.out.c2
      go_wp2
      go_roundw
      case rel => exact ⟨1 + 1, by omega, by go_num, ((hbel.trans (hex.mono hbel.size)).setCell (by first | omega | (simp; done) | (simp; omega)) _).setCell (by first | omega | (simp; done) | (simp; omega)) _, ((D0.out.blw hex).far (by first | omega | (simp; omega)) _).far (by first | omega | (simp; omega)) _, ((D1.out.blw hex).far (by first | omega | (simp; omega)) _).far (by first | omega | (simp; omega)) _, ((D2.out.blw hex).far (by first | omega | (simp; done) | (simp; omega)) _).far (by first | omega | (simp; done) | (simp; omega)) _, ((D3.out.blw hex).far (by first | omega | (simp; done) | (simp; omega)) _).far (by first | omega | (simp; done) | (simp; omega)) _, A.out.set2 _ _⟩
      case measure => simp [intOf]
    · have e0 : wr.cell? ⟨w.heap.size, 4, none⟩ = some (.int .i64 (r 4)) := b0.cell 4
      have e1 : wr.cell? ⟨w.heap.size, 5, none⟩ = some (.int .i64 (r 5)) := b0.cell 5
      have e2 : wr.cell? ⟨w.heap.size, 10, none⟩ = some (.int .i64 (r 10)) := b0.cell 10
      have e3 : wr.cell? ⟨w.heap.size, 11, none⟩ = some (.int .i64 (r 11)) := b0.cell 11
      obtain ⟨g1, g2⟩ := hS 4 (by omega)
      obtain ⟨g3, g4⟩ := hS 5 (by omega)
      obtain ⟨g5, g6⟩ := hS 10 (by omega)
      obtain ⟨g7, g8⟩ := hS 11 (by omega)
      have G := hid (growSmall hS 2 (by omega))
      clear b0 b1 b2 b3 b4 hS
      go_wp2
      refine RW.begin (n := 14) (by kernel_rfl) (by kernel_rfl) (fun d _ _ _ _ => by cases d <;> exact Iff.rfl) (fun hSx => ?_)
      simp only [List.take_succ_cons, List.take_zero]
      refine RW.take (v := ?_) hSx (by kernel_rfl) (by kernel_rfl) ?_ ?_
      rotate_left
      · intro w' hw'; go_simp; rfl
      simp only [Act.put, List.setIfInBounds_toArray, List.set_cons_zero, List.set_cons_succ]
      refine RW.take (v := ?_) hSx (by kernel_rfl) (by kernel_rfl) ?_ ?_
      rotate_left
      · intro w' hw'; go_simp; rfl
      simp only [Act.put, List.setIfInBounds_toArray, List.set_cons_zero, List.set_cons_succ]
      refine RW.take (v := ?_) hSx (by kernel_rfl) (by kernel_rfl) ?_ ?_
      rotate_left
      · intro w' hw'; go_simp; rfl
      simp only [Act.put, List.setIfInBounds_toArray, List.set_cons_zero, List.set_cons_succ]
      refine RW.take (v := ?_) hSx (by kernel_rfl) (by kernel_rfl) ?_ ?_
      rotate_left
      · intro w' hw'; go_simp; rfl
      simp only [Act.put, List.setIfInBounds_toArray, List.set_cons_zero, List.set_cons_succ]
      refine RW.take (v := ?_) hSx (by kernel_rfl) (by kernel_rfl) ?_ ?_
      rotate_left
      · intro w' hw'; go_simp; rfl
      simp only [Act.put, List.setIfInBounds_toArray, List.set_cons_zero, List.set_cons_succ]
      refine RW.take (v := ?_) hSx (by kernel_rfl) (by kernel_rfl) ?_ ?_
      rotate_left
      · intro w' hw'; go_simp; rfl
      simp only [Act.put, List.setIfInBounds_toArray, List.set_cons_zero, List.set_cons_succ]
      refine RW.take (v := ?_) hSx (by kernel_rfl) (by kernel_rfl) ?_ ?_
      rotate_left
      · intro w' hw'; go_simp; rfl
      simp only [Act.put, List.setIfInBounds_toArray, List.set_cons_zero, List.set_cons_succ]
      refine RW.take (v := ?_) hSx (by kernel_rfl) (by kernel_rfl) ?_ ?_
      rotate_left
      · intro w' hw'; go_simp; rfl
      simp only [Act.put, List.setIfInBounds_toArray, List.set_cons_zero, List.set_cons_succ]
      refine RW.take (v := ?_) hSx (by kernel_rfl) (by kernel_rfl) ?_ ?_
      rotate_left
      · intro w' hw'; go_simp; rfl
      simp only [Act.put, List.setIfInBounds_toArray, List.set_cons_zero, List.set_cons_succ]
      refine RW.take (v := ?_) hSx (by kernel_rfl) (by kernel_rfl) ?_ ?_
      rotate_left
      · intro w' hw'; go_simp; rfl
      simp only [Act.put, List.setIfInBounds_toArray, List.set_cons_zero, List.set_cons_succ]
      refine RW.take (v := ?_) hSx (by kernel_rfl) (by kernel_rfl) ?_ ?_
      rotate_left
      · intro w' hw'; go_simp; rfl
      simp only [Act.put, List.setIfInBounds_toArray, List.set_cons_zero, List.set_cons_succ]
      refine RW.keep ?_
      refine RW.keep ?_
      refine RW.keep ?_
      simp only [List.nil_append, List.cons_append]
      refine RW.chain (by kernel_rfl) (by kernel_rfl) (fun f hf => (by cases hf)) hSx ?_
      refine wpCh_step (by kernel_rfl) (fun wx1 hxx1 Kx hKx => ?_)
      have hex1 : Ext wr wx1 := Ext.trans hSx hxx1
      obtain ⟨hcx1, hfx1⟩ := bcell hex1
      go_simp
      refine (less_any _ _ _ (by unfold Small; omega) (by unfold Small; omega)).mono ?_
      rintro e wx2 ⟨rfl, hbx2⟩
      have hex2 : Ext wr wx2 := Ext.trans hex1 hbx2
      refine hKx _ _ hbx2 ?_
      clear hKx hcx1 hfx1
      try simp only [Act.put, List.setIfInBounds_toArray, List.set_cons_zero, List.set_cons_succ]
      refine wpCh_step (by kernel_rfl) (fun wx3 hxx3 Kx hKx => ?_)
      have hex3 : Ext wr wx3 := Ext.trans hex2 hxx3
      obtain ⟨hcx3, hfx3⟩ := bcell hex3
      go_simp
      refine ch_alloc (N := fun w => (_, w.heap.size) :: _) hKx (fun wx4 hbx4 hnx4 => ?_)
      have hex4 := Ext.trans hex3 hbx4
      clear hKx hcx3 hfx3
      try simp only [Act.put, List.setIfInBounds_toArray, List.set_cons_zero, List.set_cons_succ]
      refine wpCh_step (by kernel_rfl) (fun wx5 hxx5 Kx hKx => ?_)
      have hex5 : Ext wr wx5 := Ext.trans hex4 hxx5
      replace hnx4 := hnx4.blw hxx5
      obtain ⟨hcx5, hfx5⟩ := bcell hex5
      go_simp
      refine (sum_any _ 3 3 (fun i j => if i = 0 then (if j = 0 then growLo r 2 else growHi r 2) else if i = 1 then (if j = 0 then r 4 else r 5) else (if j = 0 then -r 11 else - r 10)) _ ?_ (by omega) ?_).mono ?_
      · refine Rd.of_blk hnx4 rfl (fun i j hi hj => ?_)
        have h3 : i = 0 ∨ i = 1 ∨ i = 2 := by omega
        have h2 : j = 0 ∨ j = 1 := by omega
        rcases h3 with rfl | rfl | rfl <;> rcases h2 with rfl | rfl <;> rfl
      · intro i j hi hj
        have h3 : i = 0 ∨ i = 1 ∨ i = 2 := by omega
        have h2 : j = 0 ∨ j = 1 := by omega
        obtain ⟨q1, q2, q3, q4⟩ := G.out
        unfold Small
        rcases h3 with rfl | rfl | rfl <;> rcases h2 with rfl | rfl <;> simp <;> omega
      rintro e wx6 ⟨rfl, hbx6⟩
      rw [growStepLo r 2, growStepHi r 2]
      have hex6 : Ext wr wx6 := Ext.trans hex5 hbx6
      refine hKx _ _ hbx6 ?_
      clear hKx hcx5 hfx5
      replace hnx4 := hnx4.blw hbx6
      try simp only [Act.put, List.setIfInBounds_toArray, List.set_cons_zero, List.set_cons_succ]
      refine wpCh_nil (fun wx hxx DD hDD hOO hex => flOk0 (R := fun a => wpList _ _ _ _ a _) ?_ DD hDD hOO)
      try simp only [List.drop_succ_cons, List.drop_zero, Act.put, List.setIfInBounds_toArray, List.set_cons_zero, List.set_cons_succ]
      replace hnx4 := hnx4.blw hxx
      have hyx := Ext.trans hex6 hxx
      obtain ⟨hcx, hfx⟩ := bcell hex
      have A := hid (D4.out.blw hex)
      obtain ⟨m1, m2, m3, m4⟩ := A.out.c2
      go_wp2
      go_roundw
      case rel => exact ⟨2 + 1, by omega, by go_num, ((hbel.trans (hex.mono hbel.size)).setCell (by first | omega | (simp; done) | (simp; omega)) _).setCell (by first | omega | (simp; done) | (simp; omega)) _, ((D0.out.blw hex).far (by first | omega | (simp; omega)) _).far (by first | omega | (simp; omega)) _, ((D1.out.blw hex).far (by first | omega | (simp; omega)) _).far (by first | omega | (simp; omega)) _, ((D2.out.blw hex).far (by first | omega | (simp; done) | (simp; omega)) _).far (by first | omega | (simp; done) | (simp; omega)) _, ((D3.out.blw hex).far (by first | omega | (simp; done) | (simp; omega)) _).far (by first | omega | (simp; done) | (simp; omega)) _, A.out.set2 _ _⟩
      case measure => simp [intOf]
    · clear b0 b1 b2 b3 b4
      go_wp2
      refine bodyPost_ret (v := .agg #[.int .i64 (growLo r 3), .int .i64 (growHi r 3)]) (by simp [results, Try.results24, go_sem, *]) rfl ⟨rfl, (hbel.setCell (by simp) _).setCell (by simp) _⟩
end Go.Proofs.Ytifjnmflghfalaa
