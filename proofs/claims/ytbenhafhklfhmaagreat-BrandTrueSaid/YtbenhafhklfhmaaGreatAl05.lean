/-
  Part 5 of the proof of alive_any,ready2_any,has2_any,choose2_any,inside2_any,place2_any,lw_names,lw_fits,lw_has,open_herd,open_looksB,open_calves,open_u8b,open_u32sB,open_u32b,law_post,TW.meet,TL.unb,TW.ocap,rLooks2_any,bBirths_any,rSign_any,lks_in: declarations of several texts, in build order. No condition on a program.
-/
import Derived.Test.YtbenhafhklfhmaaGreatAl04
import Derived.Deep.DeepMust
namespace Go.Proofs.YtbenhafhklfhmaaGreat
set_option linter.all false
set_option linter.unusedVariables false
set_option linter.unusedSimpArgs false
open Go.RowKit
attribute [local go_sem] Oper.semAt_some
theorem backL_map (n : Nat) : (backL n n).map (·.1) = (List.range n).reverse := by
 have h : ∀ k, k ≤ n → (backL n k).map (·.1) = (List.range' (n - k) k).reverse := by
  intro k
  induction k with
  | zero => intro _; rfl
  | succ k ih =>
   intro hk
   rw [backL, dif_pos (by omega), List.map_append, ih (by omega), show n - k = n - (k + 1) + 1 by omega, List.range'_succ]
   simp
   omega
 rw [h n (Nat.le_refl _), Nat.sub_self, List.range_eq_range']
def TallyPost (w : World) (a b : Int) (n : Nat) (f : Nat → Nat → Int) (e : Ending) (w' : World) : Prop := Below w.heap.size w w' ∧
  match tErr a b n f with
  | some (i, c) => e = .returned (.tuple #[.slice none 0 0, .slice none 0 0, .int .i64 i, .int .i64 c])
  | none => ∃ v1 v2, e = .returned (.tuple #[v1, v2, .int .i64 0, .int .i64 0]) ∧ Own w' w.heap.size 36 2 v1 (n + 1) (fun i j => .int .i64 (if j = 0 then (counts a b f n i).1 else (counts a b f n i).2)) ∧ Own w' w.heap.size 71 14 v2 n (fun i j => .int .i64 (known f (counts a b f n) i j))
theorem TallyPost.err {w w' : World} {a b c : Int} {n i : Nat} {f : Nat → Nat → Int} (h : tErr a b n f = some (i, c)) (hb : Below w.heap.size w w') : TallyPost w a b n f (.returned (.tuple #[.slice none 0 0, .slice none 0 0, .int .i64 i, .int .i64 c])) w' := ⟨hb, by rw [h]⟩
set_option maxRecDepth 100000 in
set_option maxHeartbeats 4000000 in
theorem tally_any (a b : Int) (A : Option Addr) (n c : Nat) (f : Nat → Nat → Int) (w : World) (hR : Rd w 14 A n fun i j => .int .i64 (f i j)) (hn : n ≤ 1000000) (hA : A = none → c = 0 ∧ n = 0) :
    Calls Tryz.prog 30 #[.agg #[.int .i64 a, .int .i64 b], .slice A n c] w (TallyPost w a b n f) := by
  have HR := hid hR
  have HA := hid hA
  clear hR hA
  refine calls_of_marks Tryz.func30 rfl ?_
  simp only [Tryz.ntmps30, List.size_toArray, List.length_cons, List.length_nil, Nat.reduceAdd, Nat.reduceSub, Array.replicate_succ, Array.replicate_zero, List.push_toArray, List.append_toArray, List.nil_append, List.cons_append]
  cases hs : spanB a b
  · have HS := hid hs
    clear hs
    go_wp2_with (refine (proper_one a b _ _ (Blk.new' (by simp))).mono ?_; rintro e w1 ⟨rfl, hb1⟩; rw [HS.out]; obtain ⟨hc1, hf1⟩ := bcell hb1)
    refine ret_marks0 (v := .tuple #[.slice none 0 0, .slice none 0 0, .int .i64 0, .int .i64 2]) (by simp [results, Tryz.results30, go_sem, hc1, hf1]) (TallyPost.err (by simp [tErr, HS.out]) ?_)
    exact ((((Below.refl _ _).alloc (Nat.le_refl _) _).alloc (by simp) _).alloc (by simp; omega) _ |>.trans (hb1.mono (by simp; omega))).setCell (by simp) _
  by_cases hn40 : 40 < n
  · have HS := hid hs
    clear hs
    go_wp2_with (refine (proper_one a b _ _ (Blk.new' (by simp))).mono ?_; rintro e w1 ⟨rfl, hb1⟩; rw [HS.out]; obtain ⟨hc1, hf1⟩ := bcell hb1)
    refine ret_marks0 (v := .tuple #[.slice none 0 0, .slice none 0 0, .int .i64 0, .int .i64 4]) (by simp [results, Tryz.results30, go_sem, hc1, hf1]) (TallyPost.err (by simp [tErr, HS.out, hn40]) ?_)
    exact ((((Below.refl _ _).alloc (Nat.le_refl _) _).alloc (by simp) _).alloc (by simp; omega) _ |>.trans (hb1.mono (by simp; omega))).setCell (by simp) _
  have HS := hid hs
  clear hs
  go_wp2_with (refine (proper_one a b _ _ (Blk.new' (by simp))).mono ?_; rintro e w1 ⟨rfl, hb1⟩; rw [HS.out])
  have HB := hid (((((Below.refl w.heap.size w).alloc (Nat.le_refl _) (.cells #[.int .i64 a, .int .i64 b] 36)).alloc (by simp) (.cells #[.slice none 0 0] 31)).alloc (by simp; omega) (.cells #[.int .i64 a, .int .i64 b] 36)).trans (hb1.mono (by simp; omega)))
  have B0 := hid ((((Blk.new w 36 #[.int .i64 a, .int .i64 b]).alloc (.cells #[.slice none 0 0] 31)).alloc (.cells #[.int .i64 a, .int .i64 b] 36)).blw hb1)
  have B1 := hid (((Blk.new' (w := w.alloc (.cells #[.int .i64 a, .int .i64 b] 36)) (g := w.heap.size + 1) (t := 31) (cs := #[.slice none 0 0]) (by simp)).alloc (.cells #[.int .i64 a, .int .i64 b] 36)).blw hb1)
  clear hb1
  go_loopw [8, 9, 33] (fun _ _ i wr => ∃ k : Nat, k ≤ n ∧ i = .int .i64 k ∧ Below w.heap.size w wr ∧ Blk wr w.heap.size 36 #[.int .i64 a, .int .i64 b] ∧ Blk wr (w.heap.size + 1) 31 #[.slice none 0 0] ∧ ∀ j, j < k → rowOk (f j) = true) (fun _ _ i _ => n - (intOf i).toNat)
  case atStart => exact ⟨0, by omega, rfl, HB.out, B0.out, B1.out, fun j hj => by omega⟩
  case round =>
    obtain ⟨k, hk, rfl, hbel, b0, b1, hall⟩ := hrel
    have HB0 := hid b0
    have HB1 := hid b1
    have Hall := hid hall
    have HBel := hid hbel
    obtain ⟨e0, ef0⟩ := b1.c1
    obtain ⟨L0, L1, L2, L3, L4, L5, L6⟩ := lts b1.lt
    have i0 : (k : Int) ≤ (n : Int) := by omega
    clear hall
    by_cases hlt : k < n
    · have i1 : (0 : Int) ≤ (k : Int) := by omega
      have i2 : (k : Int) < (n : Int) := by omega
      obtain ⟨br, off, rfl, crB, crA⟩ := HR.out.atn hlt hbel
      have cr0 : wr.cell? ⟨br, off + k * 14, none⟩ = some (.int .i64 (f k 0)) := by simpa using crA 0 (by omega)
      have cr1 : wr.cell? ⟨br, off + k * 14 + 1, none⟩ = some (.int .i64 (f k 1)) := by simpa using crA 1 (by omega)
      have cr2 : wr.cell? ⟨br, off + k * 14 + 2, none⟩ = some (.int .i64 (f k 2)) := by simpa using crA 2 (by omega)
      have cr3 : wr.cell? ⟨br, off + k * 14 + 3, none⟩ = some (.int .i64 (f k 3)) := by simpa using crA 3 (by omega)
      have cr4 : wr.cell? ⟨br, off + k * 14 + 4, none⟩ = some (.int .i64 (f k 4)) := by simpa using crA 4 (by omega)
      have cr5 : wr.cell? ⟨br, off + k * 14 + 5, none⟩ = some (.int .i64 (f k 5)) := by simpa using crA 5 (by omega)
      have cr6 : wr.cell? ⟨br, off + k * 14 + 6, none⟩ = some (.int .i64 (f k 6)) := by simpa using crA 6 (by omega)
      have cr7 : wr.cell? ⟨br, off + k * 14 + 7, none⟩ = some (.int .i64 (f k 7)) := by simpa using crA 7 (by omega)
      have cr8 : wr.cell? ⟨br, off + k * 14 + 8, none⟩ = some (.int .i64 (f k 8)) := by simpa using crA 8 (by omega)
      have cr9 : wr.cell? ⟨br, off + k * 14 + 9, none⟩ = some (.int .i64 (f k 9)) := by simpa using crA 9 (by omega)
      have cr10 : wr.cell? ⟨br, off + k * 14 + 10, none⟩ = some (.int .i64 (f k 10)) := by simpa using crA 10 (by omega)
      have cr11 : wr.cell? ⟨br, off + k * 14 + 11, none⟩ = some (.int .i64 (f k 11)) := by simpa using crA 11 (by omega)
      have cr12 : wr.cell? ⟨br, off + k * 14 + 12, none⟩ = some (.int .i64 (f k 12)) := by simpa using crA 12 (by omega)
      have cr13 : wr.cell? ⟨br, off + k * 14 + 13, none⟩ = some (.int .i64 (f k 13)) := by simpa using crA 13 (by omega)
      clear crA
      clear b0 b1 hbel
      cases hro : rowOk (f k)
      all_goals
        have Hro := hid hro
        clear hro
        go_wp2_with (refine (proper_row (f k) _ _ (Blk.new' (by simp))).mono ?_; rintro e w2 ⟨rfl, hb2⟩; rw [Hro.out]; obtain ⟨hc2, hf2⟩ := bcell hb2)
      · refine ret_marks0 (v := .tuple #[.slice none 0 0, .slice none 0 0, .int .i64 k, .int .i64 24]) (by simp [results, Tryz.results30, go_sem, *]) (TallyPost.err (by
          simp only [tErr, HS.out, hn40, if_false, Bool.true_eq_false, firstNot_some (p := fun i => rowOk (f i)) hlt Hro.out Hall.out]) ?_)
        exact (((HBel.out.alloc HBel.out.size _).alloc (by have := HBel.out.size; simp; omega) _).trans (hb2.mono (by have := HBel.out.size; simp; omega))).setCell (by simp) _
      · go_roundw
        case rel => exact ⟨k + 1, by omega, by go_num, ((HBel.out.alloc HBel.out.size _).alloc (by have := HBel.out.size; simp; omega) _).trans (hb2.mono (by have := HBel.out.size; simp; omega)), ((HB0.out.alloc _).alloc _).blw hb2, ((HB1.out.alloc _).alloc _).blw hb2, fun j hj => by
            by_cases hjk : j = k
            · subst hjk; exact Hro.out
            · exact Hall.out j (by omega)⟩
        case measure => simp [intOf]; omega
    · obtain ⟨m, rfl⟩ : ∃ m, m = n := ⟨n, rfl⟩
      obtain rfl : k = m := by omega
      obtain ⟨m, rfl⟩ : ∃ m, m = k := ⟨k, rfl⟩
      have Hrows := Hall
      have hbel0 := HBel
      clear Hall b1 hbel
      obtain ⟨d0, d1, df0, df1⟩ := b0.c2
      clear b0
      go_wp2
      have hb0' := hbel0.out.size
      go_loopw [10, 11, 12, 61] (fun _ _ _ i wr => ∃ k : Nat, k ≤ m ∧ i = .int .i64 k ∧ Below w.heap.size w wr ∧ (∃ v, Blk wr (w.heap.size + 1) 31 #[v] ∧ Own wr (w.heap.size + 2) 36 2 v (k + 1) (fun i j => .int .i64 (if j = 0 then (cnt a b f i).1 else (cnt a b f i).2))) ∧ ∀ j, j < k → decide ((cnt a b f (j + 1)).1 ≤ (cnt a b f (j + 1)).2) = true) (fun _ _ _ i _ => m - (intOf i).toNat)
      case atStart =>
        refine ⟨0, by omega, rfl, (hbel0.out.setCell (by simp) _).alloc (by simp [World.setCell]; exact hbel0.out.size) _, ⟨_, (HB1.out.set1 _).alloc _, ?_⟩, fun j hj => by omega⟩
        refine Own.of_blk (Blk.new' (by simp [World.setCell])) (by omega) rfl (by decide) (by decide) (fun i j hi hj => ?_)
        have h2 : j = 0 ∨ j = 1 := by omega
        obtain rfl : i = 0 := by omega
        rcases h2 with rfl | rfl <;> rfl
      clear HB0 HB1 d0 d1 df0 df1 HBel hb0' hbel0
      case round =>
        obtain ⟨k, hk, rfl, hbel, ⟨v, b1, hown⟩, hall⟩ := hrel
        have HBel := hid hbel
        have HB1 := hid b1
        have HOwn := hid hown
        have Hall := hid hall
        obtain ⟨Av, cv, rfl, hcv1, hcv2, hrd⟩ := hown.form
        have HRd := hid hrd
        have i0 : (k : Int) ≤ (m : Int) := by omega
        clear hall hown
        by_cases hlt : k < m
        · have i1 : (0 : Int) ≤ (k : Int) := by omega
          have i2 : (k : Int) < (m : Int) := by omega
          have hro := Hrows.out k hlt
          have Hro := hid hro
          have hcb := cnt_bd HS.out (fun i hi => Hrows.out i (by omega)) Hall.out
          have hgb := grow_bd hro
          clear hro b1 hbel hrd
          obtain ⟨br, off, rfl, crB, crA⟩ := HR.out.atn hlt HBel.out
          have cr0 : wr.cell? ⟨br, off + k * 14, none⟩ = some (.int .i64 (f k 0)) := by simpa using crA 0 (by omega)
          have cr1 : wr.cell? ⟨br, off + k * 14 + 1, none⟩ = some (.int .i64 (f k 1)) := by simpa using crA 1 (by omega)
          have cr2 : wr.cell? ⟨br, off + k * 14 + 2, none⟩ = some (.int .i64 (f k 2)) := by simpa using crA 2 (by omega)
          have cr3 : wr.cell? ⟨br, off + k * 14 + 3, none⟩ = some (.int .i64 (f k 3)) := by simpa using crA 3 (by omega)
          have cr4 : wr.cell? ⟨br, off + k * 14 + 4, none⟩ = some (.int .i64 (f k 4)) := by simpa using crA 4 (by omega)
          have cr5 : wr.cell? ⟨br, off + k * 14 + 5, none⟩ = some (.int .i64 (f k 5)) := by simpa using crA 5 (by omega)
          have cr6 : wr.cell? ⟨br, off + k * 14 + 6, none⟩ = some (.int .i64 (f k 6)) := by simpa using crA 6 (by omega)
          have cr7 : wr.cell? ⟨br, off + k * 14 + 7, none⟩ = some (.int .i64 (f k 7)) := by simpa using crA 7 (by omega)
          have cr8 : wr.cell? ⟨br, off + k * 14 + 8, none⟩ = some (.int .i64 (f k 8)) := by simpa using crA 8 (by omega)
          have cr9 : wr.cell? ⟨br, off + k * 14 + 9, none⟩ = some (.int .i64 (f k 9)) := by simpa using crA 9 (by omega)
          have cr10 : wr.cell? ⟨br, off + k * 14 + 10, none⟩ = some (.int .i64 (f k 10)) := by simpa using crA 10 (by omega)
          have cr11 : wr.cell? ⟨br, off + k * 14 + 11, none⟩ = some (.int .i64 (f k 11)) := by simpa using crA 11 (by omega)
          have cr12 : wr.cell? ⟨br, off + k * 14 + 12, none⟩ = some (.int .i64 (f k 12)) := by simpa using crA 12 (by omega)
          have cr13 : wr.cell? ⟨br, off + k * 14 + 13, none⟩ = some (.int .i64 (f k 13)) := by simpa using crA 13 (by omega)
          clear crA
          go_wp2
          obtain ⟨W1, hW1⟩ : ∃ W1, W1 = wr.alloc (.cells #[.int .i64 (f k 0), .int .i64 (f k 1), .int .i64 (f k 2), .int .i64 (f k 3), .int .i64 (f k 4), .int .i64 (f k 5), .int .i64 (f k 6), .int .i64 (f k 7), .int .i64 (f k 8), .int .i64 (f k 9), .int .i64 (f k 10), .int .i64 (f k 11), .int .i64 (f k 12), .int .i64 (f k 13)] 71) := ⟨_, rfl⟩
          rw [← hW1]
          have X1 : Ext wr W1 := by rw [hW1]; exact (Below.refl _ _).alloc (Nat.le_refl _) _
          have F1 : Blk W1 wr.heap.size 71 #[.int .i64 (f k 0), .int .i64 (f k 1), .int .i64 (f k 2), .int .i64 (f k 3), .int .i64 (f k 4), .int .i64 (f k 5), .int .i64 (f k 6), .int .i64 (f k 7), .int .i64 (f k 8), .int .i64 (f k 9), .int .i64 (f k 10), .int .i64 (f k 11), .int .i64 (f k 12), .int .i64 (f k 13)] := by rw [hW1]; exact Blk.new _ _ _
          have F2 := HB1.out.blw X1
          have HX1 := hid X1
          have HF1 := hid F1
          have HF2 := hid F2
          have HW := hid (HBel.out.trans (X1.mono HBel.out.size))
          obtain ⟨bc, oc, rfl, ccB, ccA⟩ := (HRd.out.below X1).atn (Nat.lt_succ_self k) (Below.refl _ _)
          have cc0 : W1.cell? ⟨bc, oc + k * 2, none⟩ = some (.int .i64 (cnt a b f k).1) := by simpa using ccA 0 (by omega)
          have cc1 : W1.cell? ⟨bc, oc + k * 2 + 1, none⟩ = some (.int .i64 (cnt a b f k).2) := by simpa using ccA 1 (by omega)
          clear ccA
          have z0 : W1.cell? ⟨wr.heap.size, 0, none⟩ = some (.int .i64 (f k 0)) := F1.cell 0
          have z1 : W1.cell? ⟨wr.heap.size, 1, none⟩ = some (.int .i64 (f k 1)) := F1.cell 1
          have z2 : W1.cell? ⟨wr.heap.size, 2, none⟩ = some (.int .i64 (f k 2)) := F1.cell 2
          have z3 : W1.cell? ⟨wr.heap.size, 3, none⟩ = some (.int .i64 (f k 3)) := F1.cell 3
          have z4 : W1.cell? ⟨wr.heap.size, 4, none⟩ = some (.int .i64 (f k 4)) := F1.cell 4
          have z5 : W1.cell? ⟨wr.heap.size, 5, none⟩ = some (.int .i64 (f k 5)) := F1.cell 5
          have z6 : W1.cell? ⟨wr.heap.size, 6, none⟩ = some (.int .i64 (f k 6)) := F1.cell 6
          have z7 : W1.cell? ⟨wr.heap.size, 7, none⟩ = some (.int .i64 (f k 7)) := F1.cell 7
          have z8 : W1.cell? ⟨wr.heap.size, 8, none⟩ = some (.int .i64 (f k 8)) := F1.cell 8
          have z9 : W1.cell? ⟨wr.heap.size, 9, none⟩ = some (.int .i64 (f k 9)) := F1.cell 9
          have z10 : W1.cell? ⟨wr.heap.size, 10, none⟩ = some (.int .i64 (f k 10)) := F1.cell 10
          have z11 : W1.cell? ⟨wr.heap.size, 11, none⟩ = some (.int .i64 (f k 11)) := F1.cell 11
          have z12 : W1.cell? ⟨wr.heap.size, 12, none⟩ = some (.int .i64 (f k 12)) := F1.cell 12
          have z13 : W1.cell? ⟨wr.heap.size, 13, none⟩ = some (.int .i64 (f k 13)) := F1.cell 13
          obtain ⟨y0, yf0⟩ := F2.c1
          have LF1 := F1.lt
          have LF2 := F2.lt
          have KR := keep_rule W1
          have i3 : (k : Int) < (k : Int) + 1 := by omega
          clear hW1 X1 F1 F2 cr0 cr1 cr2 cr3 cr4 cr5 cr6 cr7 cr8 cr9 cr10 cr11 cr12 cr13
          refine np_region ?_
          refine RW.begin (n := 12) (by kernel_rfl) (by kernel_rfl) NP.pan (fun hSp => ?_)
          simp only [List.take_succ_cons, List.take_zero]
          refine RW.take (v := ?_) hSp (by kernel_rfl) (by kernel_rfl) ?_ ?_
          rotate_left
          · intro w' hw'; go_simp; rfl
          simp only [Act.put, List.setIfInBounds_toArray, List.set_cons_zero, List.set_cons_succ]
          refine RW.take (v := ?_) hSp (by kernel_rfl) (by kernel_rfl) ?_ ?_
          rotate_left
          · intro w' hw'; go_simp; rfl
          simp only [Act.put, List.setIfInBounds_toArray, List.set_cons_zero, List.set_cons_succ]
          refine RW.take (v := ?_) hSp (by kernel_rfl) (by kernel_rfl) ?_ ?_
          rotate_left
          · intro w' hw'; go_simp; rfl
          simp only [Act.put, List.setIfInBounds_toArray, List.set_cons_zero, List.set_cons_succ]
          refine RW.take (v := ?_) hSp (by kernel_rfl) (by kernel_rfl) ?_ ?_
          rotate_left
          · intro w' hw'; go_simp; rfl
          simp only [Act.put, List.setIfInBounds_toArray, List.set_cons_zero, List.set_cons_succ]
          refine RW.take (v := ?_) hSp (by kernel_rfl) (by kernel_rfl) ?_ ?_
          rotate_left
          · intro w' hw'; go_simp; rfl
          simp only [Act.put, List.setIfInBounds_toArray, List.set_cons_zero, List.set_cons_succ]
          refine RW.take (v := ?_) hSp (by kernel_rfl) (by kernel_rfl) ?_ ?_
          rotate_left
          · intro w' hw'; go_simp; rfl
          simp only [Act.put, List.setIfInBounds_toArray, List.set_cons_zero, List.set_cons_succ]
          refine RW.take (v := ?_) hSp (by kernel_rfl) (by kernel_rfl) ?_ ?_
          rotate_left
          · intro w' hw'; go_simp; rfl
          simp only [Act.put, List.setIfInBounds_toArray, List.set_cons_zero, List.set_cons_succ]
          refine RW.keep ?_
          refine RW.keep ?_
          refine RW.keep ?_
          refine RW.keep ?_
          refine RW.float (#[.int .i64 0, .int .i64 0]) ?_
          simp only [List.nil_append, List.cons_append]
          refine RW.chain (by kernel_rfl) (by kernel_rfl) (fun f hf => by simp only [List.mem_cons, List.not_mem_nil, or_false] at hf; subst hf; skip <;> (intro ρ o w ho; simp [execOp, ho, go_sem])) hSp ?_
          refine wpCh_step (by kernel_rfl) (fun wp1 hxp1 Kp hKp => ?_)
          have hep1 : Ext W1 wp1 := Ext.trans hSp hxp1
          obtain ⟨hcp1, hfp1⟩ := bcell hep1
          go_simp
          refine (growth_any (f k) _ (fun i hi => by have := rowOk_bd Hro.out i hi; unfold Small; omega)).mono ?_
          rintro e wp2 ⟨rfl, hbp2⟩
          have hep2 : Ext W1 wp2 := Ext.trans hep1 hbp2
          refine hKp _ _ hbp2 ?_
          clear hKp hcp1 hfp1
          try simp only [Act.put, List.setIfInBounds_toArray, List.set_cons_zero, List.set_cons_succ]
          refine wpCh_step (by kernel_rfl) (fun wp3 hxp3 Kp hKp => ?_)
          have hep3 : Ext W1 wp3 := Ext.trans hep2 hxp3
          obtain ⟨hcp3, hfp3⟩ := bcell hep3
          go_simp
          refine ch_alloc (N := fun w => (_, w.heap.size) :: _) hKp (fun wp4 hbp4 hnp4 => ?_)
          have hep4 := Ext.trans hep3 hbp4
          clear hKp hcp3 hfp3
          try simp only [Act.put, List.setIfInBounds_toArray, List.set_cons_zero, List.set_cons_succ]
          refine wpCh_step (by kernel_rfl) (fun wp5 hxp5 Kp hKp => ?_)
          have hep5 : Ext W1 wp5 := Ext.trans hep4 hxp5
          replace hnp4 := hnp4.blw hxp5
          obtain ⟨hcp5, hfp5⟩ := bcell hep5
          go_simp
          refine (sum_two _ _ _ _ _ _ hnp4 (by unfold Small; omega) (by unfold Small; omega) (by unfold Small; omega) (by unfold Small; omega)).mono ?_
          rintro e wp6 ⟨rfl, hbp6⟩
          have hep6 : Ext W1 wp6 := Ext.trans hep5 hbp6
          refine hKp _ _ hbp6 ?_
          clear hKp hcp5 hfp5
          replace hnp4 := hnp4.blw hbp6
          try simp only [Act.put, List.setIfInBounds_toArray, List.set_cons_zero, List.set_cons_succ]
          refine wpCh_step (by kernel_rfl) (fun wp7 hxp7 Kp hKp => ?_)
          have hep7 : Ext W1 wp7 := Ext.trans hep6 hxp7
          replace hnp4 := hnp4.blw hxp7
          obtain ⟨hcp7, hfp7⟩ := bcell hep7
          go_simp
          refine (common_any _ _ _ _ _).mono ?_
          rintro e wp8 ⟨rfl, hbp8⟩
          have hep8 : Ext W1 wp8 := Ext.trans hep7 hbp8
          refine hKp _ _ hbp8 ?_
          clear hKp hcp7 hfp7
          replace hnp4 := hnp4.blw hbp8
          try simp only [Act.put, List.setIfInBounds_toArray, List.set_cons_zero, List.set_cons_succ]
          refine wpCh_nil (fun wp hxp DD hDD hOO hep => flOk1 (R := fun a => wpList _ _ _ _ a _) (fun bp0 hbp0B hbp0Z hbp0N => ?_) DD hDD hOO)
          try simp only [List.drop_succ_cons, List.drop_zero, Act.put, List.setIfInBounds_toArray, List.set_cons_zero, List.set_cons_succ]
          replace hnp4 := hnp4.blw hxp
          have hyp := Ext.trans hep8 hxp
          obtain ⟨hcp, hfp⟩ := bcell hep
          obtain ⟨g0, g1, gf0, gf1⟩ := hbp0Z.c2
          go_wp2
          refine NP.normal ?_
          have hlo : (cnt a b f (k + 1)).1 = max (f k 12) ((cnt a b f k).1 + growLo (f k) 3) := rfl
          have hhi : (cnt a b f (k + 1)).2 = min (f k 13) ((cnt a b f k).2 + growHi (f k) 3) := rfl
          obtain ⟨W2, hW2⟩ : ∃ W2, W2 = (wp.setCell ⟨bp0, 0, none⟩ (.int .i64 (max (f k 12) ((cnt a b f k).1 + growLo (f k) 3)))).setCell ⟨bp0, 1, none⟩ (.int .i64 (min (f k 13) ((cnt a b f k).2 + growHi (f k) 3))) := ⟨_, rfl⟩
          rw [← hW2]
          have hov : (Value.slice (some ⟨bc, oc, none⟩) (k + 1) cv).ownBlock ≠ some bp0 := fun e => by
            have h9 := (HOwn.out.blk e).2
            have h8 := HX1.out.size
            omega
          have G2 : Blk W2 bp0 36 #[.int .i64 (max (f k 12) ((cnt a b f k).1 + growLo (f k) 3)), .int .i64 (min (f k 13) ((cnt a b f k).2 + growHi (f k) 3))] := by rw [hW2]; exact hbp0Z.set2 _ _
          have V2 : Blk W2 (w.heap.size + 1) 31 #[.slice (some ⟨bc, oc, none⟩) (k + 1) cv] := by rw [hW2]; exact ((HF2.out.blw hep).far (by simp; omega) _).far (by simp; omega) _
          have O2 : Own W2 (w.heap.size + 2) 36 2 (.slice (some ⟨bc, oc, none⟩) (k + 1) cv) (k + 1) (fun i j => .int .i64 (if j = 0 then (cnt a b f i).1 else (cnt a b f i).2)) := by rw [hW2]; exact (((HOwn.out.below HX1.out).below hep).far hov _).far hov _
          have HW2 : Below w.heap.size w W2 := by rw [hW2]; exact ((HW.out.trans (hep.mono HW.out.size)).setCell (by have := HW.out.size; simp; omega) _).setCell (by have := HW.out.size; simp; omega) _
          have KG2 := hid G2
          have KV2 := hid V2
          have KO2 := hid O2
          have KW2 := hid HW2
          obtain ⟨g0, g1, gf0, gf1⟩ := G2.c2
          obtain ⟨v0, vf0⟩ := V2.c1
          obtain ⟨L0, L1, L2, L3, L4, L5, L6⟩ := lts V2.lt
          obtain ⟨M0, M1, M2, M3, M4, M5, M6⟩ := lts G2.lt
          have Hlo := hid hlo
          have Hhi := hid hhi
          clear hlo hhi hW2 hov G2 V2 O2 HW2 hep hcp hfp hbp0Z hbp0N hyp hxp hOO hDD hnp4 HW HF1 HF2 HX1 HRd HOwn HB1 HBel LF1 LF2 KR y0 yf0 i3 z0 z1 z2 z3 z4 z5 z6 z7 z8 z9 z10 z11 z12 z13
          have hov1 : some (w.heap.size + 1) ≠ (Value.slice (some ⟨bc, oc, none⟩) (k + 1) cv).ownBlock := fun e => by have := (KO2.out.blk e.symm).1; omega
          have HOV1 := hid hov1
          clear hov1
          by_cases hle : max (f k 12) ((cnt a b f k).1 + growLo (f k) 3) ≤ min (f k 13) ((cnt a b f k).2 + growHi (f k) 3)
          · go_wp2_with (at_builtin; refine wpList_app rfl _ _ T_span rfl (n := k + 1) (m := 1) rfl (KO2.out.below ((Below.refl _ _).alloc (Nat.le_refl _) _)) rfl (Rd.of_blk (f := fun _ j => .int .i64 (if j = 0 then max (f k 12) ((cnt a b f k).1 + growLo (f k) 3) else min (f k 13) ((cnt a b f k).2 + growHi (f k) 3))) (Blk.new' (by simp)) rfl (span1 _ _)) (fun _ _ _ _ => rfl) (by omega) (by decide) (by simp; omega) ?_; intro v' w1 hown1 hgr1 hbk1; obtain ⟨A9, c9, rfl, hd1, hd2, hd3⟩ := hown1.form; clear hd1 hd2 hd3; have V3 := hid ((KV2.out.alloc _).grown hgr1 HOV1.out); have O3 := hid hown1; have G3 := hid hgr1; clear hown1 hgr1 hbk1; obtain ⟨v1, vf1⟩ := V3.out.c1)
            go_roundw
            case rel =>
              refine ⟨k + 1, by omega, by go_num, ((KW2.out.alloc KW2.out.size _).grown G3.out (by have := KW2.out.size; simp; omega) (fun q e => by have := (KO2.out.blk e).1; omega)).setCell (by simp) _, ⟨_, V3.out.set1 _, ?_⟩, fun j hj => ?_⟩
              · refine Own.far (O3.out.congr fun i j hi hj => ?_) (fun e => absurd (O3.out.blk e).1 (by simp)) _
                by_cases hik : i < k + 1
                · simp [cat, hik]
                · obtain rfl : i = k + 1 := by omega
                  simp only [cat, hik, if_false]
                  rw [Hlo.out, Hhi.out]
              · by_cases hjk : j = k
                · subst hjk; rw [Hlo.out, Hhi.out]; simpa using hle
                · exact Hall.out j (by omega)
            case measure => simp [intOf]; omega
          · have hgt : min (f k 13) ((cnt a b f k).2 + growHi (f k) 3) < max (f k 12) ((cnt a b f k).1 + growLo (f k) 3) := by omega
            go_wp2
            refine ret_marks0 (v := .tuple #[.slice none 0 0, .slice none 0 0, .int .i64 k, .int .i64 25]) (by simp [results, Tryz.results30, go_sem, *]) (TallyPost.err (by
              simp only [tErr, HS.out, hn40, if_false, Bool.true_eq_false, firstNot_none (p := fun i => rowOk (f i)) Hrows.out]
              rw [firstNot_some (p := fun i => decide ((cnt a b f (i + 1)).1 ≤ (cnt a b f (i + 1)).2)) hlt (by rw [Hlo.out, Hhi.out]; simpa using hgt) Hall.out]) ?_)
            exact KW2.out.setCell (by simp) _
        · obtain ⟨q, rfl⟩ : ∃ q, q = m := ⟨m, rfl⟩
          obtain rfl : k = q := by omega
          have Hcs := Hall
          clear Hall hbel hrd hlt
          obtain ⟨gc, cc, hvg, hgB, hgl, hgn, _, _⟩ := HOwn.out.form1 (by omega)
          obtain ⟨rfl, rfl⟩ : Av = some ⟨gc, 0, none⟩ ∧ cv = cc := by simp at hvg; exact hvg
          clear hvg
          obtain ⟨y0, yf0⟩ := b1.c1
          clear b1
          go_wp2_with (refine (backward_row _ _ _ _).mono ?_; rintro e w2 ⟨rfl, hw2⟩)
          subst hw2
          refine range_wide (gf := 105) (lb := #[.pointer (some ⟨wr.heap.size, 0, none⟩)]) rfl (enters Tryz.func105 rfl rfl)
            (backIter_row wr.heap.size A k c (fun i j => .int .i64 (f i j)) (fun W W' => ∀ b, b < wr.heap.size + 1 → (wr.heap.size ≤ b ∨ b < w.heap.size) → W'.heap[b]? = W.heap[b]?) _ hn ?hbx ?hR ?hk) ?hKt ?hKb (Below.refl _ _) (fun _ => rfl)
            (fun pre W => (Below w.heap.size w W ∧ wr.heap.size + 1 ≤ W.heap.size) ∧ Blk W (w.heap.size + 1) 31 #[.slice (some ⟨gc, 0, none⟩) (k + 1) cv] ∧ Own W (w.heap.size + 2) 36 2 (.slice (some ⟨gc, 0, none⟩) (k + 1) cv) (k + 1) (fun i j => .int .i64 (if j = 0 then (backs f (cnt a b f) (pre.map (·.1)) i).1 else (backs f (cnt a b f) (pre.map (·.1)) i).2)))
            (fun _ _ _ => False) ?hI ?hIx ?h0
            (fun x a0 a' W => ∃ bx, wr.heap.size + 1 ≤ bx ∧ Blk W bx 71 #[.int .i64 (f x.1 0), .int .i64 (f x.1 1), .int .i64 (f x.1 2), .int .i64 (f x.1 3), .int .i64 (f x.1 4), .int .i64 (f x.1 5), .int .i64 (f x.1 6), .int .i64 (f x.1 7), .int .i64 (f x.1 8), .int .i64 (f x.1 9), .int .i64 (f x.1 10), .int .i64 (f x.1 11), .int .i64 (f x.1 12), .int .i64 (f x.1 13)] ∧ a' = (a0.put (some 13) (.int .i64 x.1)).put (some 14) (.pointer (some ⟨bx, 0, none⟩))) ?hAx ?assign ?body ?done ?stop
          case hbx => simp [go_sem]
          case hR => exact (HR.out.below HBel.out).alloc _
          case hk =>
            intro W W' hkp hc9 hr9
            refine ⟨(World.cell?_of_block (a := ⟨wr.heap.size, 0, none⟩) (hkp _ (by simp) (.inl (Nat.le_refl _)))).trans hc9, fun h0 => ?_⟩
            obtain ⟨br, orr, e1, e2, e3⟩ := hr9 h0
            obtain ⟨br', orr', e1', e2', _⟩ := HR.out h0
            obtain ⟨rfl, rfl⟩ : br = br' ∧ orr = orr' := by rw [e1] at e1'; simp at e1'; exact e1'
            have hsz := HBel.out.size
            have hbk := hkp br (by omega) (.inr e2')
            refine ⟨br, orr, e1, ?_, fun i j hi hj => by rw [World.cell?_of_block (a := ⟨br, _, none⟩) hbk]; exact e3 i j hi hj⟩
            rw [Array.getElem?_eq_getElem e2] at hbk
            exact (Array.getElem?_eq_some_iff.1 hbk).1
          case hKt => exact fun X Y Z h1 h2 b hb1 hb2 => (h2 b hb1 hb2).trans (h1 b hb1 hb2)
          case hKb => exact fun W l o' hl b hb1 hb2 => World.putObj_heap_other (by simp at hl; omega)
          case hI =>
            rintro pre W W' row ⟨⟨h1, hsz⟩, h2, h3⟩ hg hr
            refine ⟨⟨Below.own h1 (by have := HBel.out.size; simp; omega) h1.size hg hr, Nat.le_trans hsz hg.size⟩, h2.own hg hr, h3.kept hg (.inr fun e => ?_)⟩
            obtain ⟨_, o, ho, hoc⟩ := hr gc e.symm
            exact own_cells h3 rfl ho hoc
          case hIx => exact fun _ _ _ _ _ h _ _ => h
          case h0 => exact ⟨⟨HBel.out.alloc HBel.out.size _, by simp⟩, HB1.out.alloc _, HOwn.out.below ((Below.refl _ _).alloc (Nat.le_refl _) _)⟩
          case hAx =>
            rintro x a0 a' _ W W' row ⟨bx, h1, h2, h3⟩ hg hr
            exact ⟨bx, h1, h2.own hg hr, h3⟩
          case stop => exact fun _ _ _ _ _ _ h _ => h.elim
          case assign =>
            rintro l pre x W K hi hK
            obtain ⟨⟨h1, hsz⟩, h2, h3⟩ := hi
            simp only [roundAct]
            gi_wp2
            exact hK _ _ (KeepsFrom.of_ext ((Below.refl _ _).alloc (Nat.le_refl _) _)) (fun b hb1 _ => Below.heap_alloc _ _ _ (by omega)) ⟨⟨h1.alloc h1.size _, by simp; omega⟩, h2.alloc _, h3.below ((Below.refl _ _).alloc (Nat.le_refl _) _)⟩ ⟨W.heap.size, hsz, Blk.new _ _ _, by simp [roundAct, Act.put]⟩
          case body =>
            as_aux_lemma =>
            rintro l pre ⟨x, hx⟩ a' W ⟨⟨h1, hsz⟩, h2, h3⟩ ⟨bx, hbx, hbk, rfl⟩ hlen
            have hk40 : k ≤ 40 := by omega
            obtain ⟨gc', cc', hvg, _, _, _, hgc, hgf⟩ := h3.form1 (by omega)
            obtain ⟨rfl, rfl⟩ : gc = gc' ∧ cv = cc' := by simp at hvg; exact hvg
            clear hvg
            have Hro := hid (Hrows.out x hx)
            have hbd := backs_bd Hrows.out (pre.map (·.1)) 0 (cnt a b f) (fun i hi => by
              have := cnt_bd HS.out (k := i) (fun j hj => Hrows.out j (by omega)) (fun j hj => Hcs.out j (by omega))
              simp; omega) (fun i hi => by obtain ⟨y, _, rfl⟩ := List.mem_map.1 hi; exact y.2)
            simp only [Nat.zero_add, List.length_map] at hbd
            have hb1 := hbd x (by omega)
            have hb2 := hbd (x + 1) (by omega)
            have hgr := grow_bd Hro.out
            obtain ⟨c, hc⟩ : ∃ c, c = backs f (cnt a b f) (pre.map (·.1)) := ⟨_, rfl⟩
            rw [← hc] at hb1 hb2 h3 hgc
            have z1 : W.cell? ⟨gc, x * 2, none⟩ = some (.int .i64 (c x).1) := by simpa using hgc x 0 (by omega) (by omega)
            have z2 : W.cell? ⟨gc, x * 2 + 1, none⟩ = some (.int .i64 (c x).2) := by simpa using hgc x 1 (by omega) (by omega)
            have z5 : W.frozen? ⟨gc, x * 2, none⟩ = false := hgf _
            have z6 : W.frozen? ⟨gc, x * 2 + 1, none⟩ = false := hgf _
            have z3 : W.cell? ⟨gc, (x + 1) * 2, none⟩ = some (.int .i64 (c (x + 1)).1) := by simpa using hgc (x + 1) 0 (by omega) (by omega)
            have z4 : W.cell? ⟨gc, (x + 1) * 2 + 1, none⟩ = some (.int .i64 (c (x + 1)).2) := by simpa using hgc (x + 1) 1 (by omega) (by omega)
            have r0 : W.cell? ⟨bx, 0, none⟩ = some (.int .i64 (f x 0)) := hbk.cell 0
            have r1 : W.cell? ⟨bx, 1, none⟩ = some (.int .i64 (f x 1)) := hbk.cell 1
            have r2 : W.cell? ⟨bx, 2, none⟩ = some (.int .i64 (f x 2)) := hbk.cell 2
            have r3 : W.cell? ⟨bx, 3, none⟩ = some (.int .i64 (f x 3)) := hbk.cell 3
            have r4 : W.cell? ⟨bx, 4, none⟩ = some (.int .i64 (f x 4)) := hbk.cell 4
            have r5 : W.cell? ⟨bx, 5, none⟩ = some (.int .i64 (f x 5)) := hbk.cell 5
            have r6 : W.cell? ⟨bx, 6, none⟩ = some (.int .i64 (f x 6)) := hbk.cell 6
            have r7 : W.cell? ⟨bx, 7, none⟩ = some (.int .i64 (f x 7)) := hbk.cell 7
            have r8 : W.cell? ⟨bx, 8, none⟩ = some (.int .i64 (f x 8)) := hbk.cell 8
            have r9 : W.cell? ⟨bx, 9, none⟩ = some (.int .i64 (f x 9)) := hbk.cell 9
            have r10 : W.cell? ⟨bx, 10, none⟩ = some (.int .i64 (f x 10)) := hbk.cell 10
            have r11 : W.cell? ⟨bx, 11, none⟩ = some (.int .i64 (f x 11)) := hbk.cell 11
            have r12 : W.cell? ⟨bx, 12, none⟩ = some (.int .i64 (f x 12)) := hbk.cell 12
            have r13 : W.cell? ⟨bx, 13, none⟩ = some (.int .i64 (f x 13)) := hbk.cell 13
            obtain ⟨y1, yf1⟩ := h2.c1
            have LB := hbk.lt
            have L2 := h2.lt
            have KR := keep_rule W
            have i1 : (0 : Int) ≤ (x : Int) := by omega
            have i2 : (x : Int) < (k : Int) + 1 := by omega
            have i3 : (x : Int) + 1 < (k : Int) + 1 := by omega
            have i4 : IntKind.i64.wrap ((x : Int) + 1) = (x : Int) + 1 := wrap_in (by omega)
            have i5 : (0 : Int) ≤ (x : Int) + 1 := by omega
            have i6 : ((x : Int) + 1).toNat = x + 1 := by omega
            have H1 := hid h1
            have H2 := hid h2
            have H3 := hid h3
            have Hc := hid hc
            have Hbk := hid hbk
            clear h1 h2 h3 hgc hgf hc hbk hbd
            simp only [roundAct]
            gi_wp2
            refine RW.beginIn (n := 17) (by kernel_rfl) (by kernel_rfl) (fun d _ _ _ _ => by cases d <;> exact Iff.rfl) (by kernel_rfl) (fun ⟨_, _, h⟩ => h) (fun hSq => ?_)
            simp only [List.take_succ_cons, List.take_zero]
            refine RW.take (v := ?_) hSq (by kernel_rfl) (by kernel_rfl) ?_ ?_
            rotate_left
            · intro w' hw'; go_simp; rfl
            simp only [Act.put, List.setIfInBounds_toArray, List.set_cons_zero, List.set_cons_succ]
            refine RW.take (v := ?_) hSq (by kernel_rfl) (by kernel_rfl) ?_ ?_
            rotate_left
            · intro w' hw'; go_simp; rfl
            simp only [Act.put, List.setIfInBounds_toArray, List.set_cons_zero, List.set_cons_succ]
            refine RW.take (v := ?_) hSq (by kernel_rfl) (by kernel_rfl) ?_ ?_
            rotate_left
            · intro w' hw'; go_simp; rfl
            simp only [Act.put, List.setIfInBounds_toArray, List.set_cons_zero, List.set_cons_succ]
            refine RW.take (v := ?_) hSq (by kernel_rfl) (by kernel_rfl) ?_ ?_
            rotate_left
            · intro w' hw'; go_simp; rfl
            simp only [Act.put, List.setIfInBounds_toArray, List.set_cons_zero, List.set_cons_succ]
            refine RW.take (v := ?_) hSq (by kernel_rfl) (by kernel_rfl) ?_ ?_
            rotate_left
            · intro w' hw'; go_simp; rfl
            simp only [Act.put, List.setIfInBounds_toArray, List.set_cons_zero, List.set_cons_succ]
            refine RW.take (v := ?_) hSq (by kernel_rfl) (by kernel_rfl) ?_ ?_
            rotate_left
            · intro w' hw'; go_simp; rfl
            simp only [Act.put, List.setIfInBounds_toArray, List.set_cons_zero, List.set_cons_succ]
            refine RW.take (v := ?_) hSq (by kernel_rfl) (by kernel_rfl) ?_ ?_
            rotate_left
            · intro w' hw'; go_simp; rfl
            simp only [Act.put, List.setIfInBounds_toArray, List.set_cons_zero, List.set_cons_succ]
            refine RW.take (v := ?_) hSq (by kernel_rfl) (by kernel_rfl) ?_ ?_
            rotate_left
            · intro w' hw'; go_simp; rfl
            simp only [Act.put, List.setIfInBounds_toArray, List.set_cons_zero, List.set_cons_succ]
            refine RW.take (v := ?_) hSq (by kernel_rfl) (by kernel_rfl) ?_ ?_
            rotate_left
            · intro w' hw'; go_simp; rfl
            simp only [Act.put, List.setIfInBounds_toArray, List.set_cons_zero, List.set_cons_succ]
            refine RW.take (v := ?_) hSq (by kernel_rfl) (by kernel_rfl) ?_ ?_
            rotate_left
            · intro w' hw'; go_simp; rfl
            simp only [Act.put, List.setIfInBounds_toArray, List.set_cons_zero, List.set_cons_succ]
            refine RW.take (v := ?_) hSq (by kernel_rfl) (by kernel_rfl) ?_ ?_
            rotate_left
            · intro w' hw'; go_simp; rfl
            simp only [Act.put, List.setIfInBounds_toArray, List.set_cons_zero, List.set_cons_succ]
            refine RW.take (v := ?_) hSq (by kernel_rfl) (by kernel_rfl) ?_ ?_
            rotate_left
            · intro w' hw'; go_simp; rfl
            simp only [Act.put, List.setIfInBounds_toArray, List.set_cons_zero, List.set_cons_succ]
            refine RW.keep ?_
            refine RW.keep ?_
            refine RW.keep ?_
            refine RW.keep ?_
            refine RW.keep ?_
            simp only [List.nil_append, List.cons_append]
            refine RW.chain (by kernel_rfl) (by kernel_rfl) (fun f hf => (by cases hf)) hSq ?_
            refine wpCh_step (by kernel_rfl) (fun wq1 hxq1 Kq hKq => ?_)
            have heq1 : Ext W wq1 := Ext.trans hSq hxq1
            obtain ⟨hcq1, hfq1⟩ := bcell heq1
            go_simp
            refine (growth_any (f x) _ (fun i hi => by have := rowOk_bd Hro.out i hi; unfold Small; omega)).mono ?_
            rintro e wq2 ⟨rfl, hbq2⟩
            have heq2 : Ext W wq2 := Ext.trans heq1 hbq2
            refine hKq _ _ hbq2 ?_
            clear hKq hcq1 hfq1
            try simp only [Act.put, List.setIfInBounds_toArray, List.set_cons_zero, List.set_cons_succ]
            refine wpCh_step (by kernel_rfl) (fun wq3 hxq3 Kq hKq => ?_)
            have heq3 : Ext W wq3 := Ext.trans heq2 hxq3
            obtain ⟨hcq3, hfq3⟩ := bcell heq3
            go_simp
            refine (less_any _ _ _ (by unfold Small; omega) (by unfold Small; omega)).mono ?_
            rintro e wq4 ⟨rfl, hbq4⟩
            have heq4 : Ext W wq4 := Ext.trans heq3 hbq4
            refine hKq _ _ hbq4 ?_
            clear hKq hcq3 hfq3
            try simp only [Act.put, List.setIfInBounds_toArray, List.set_cons_zero, List.set_cons_succ]
            refine wpCh_step (by kernel_rfl) (fun wq5 hxq5 Kq hKq => ?_)
            have heq5 : Ext W wq5 := Ext.trans heq4 hxq5
            obtain ⟨hcq5, hfq5⟩ := bcell heq5
            go_simp
            refine ch_alloc (N := fun w => (_, w.heap.size) :: _) hKq (fun wq6 hbq6 hnq6 => ?_)
            have heq6 := Ext.trans heq5 hbq6
            clear hKq hcq5 hfq5
            try simp only [Act.put, List.setIfInBounds_toArray, List.set_cons_zero, List.set_cons_succ]
            refine wpCh_step (by kernel_rfl) (fun wq7 hxq7 Kq hKq => ?_)
            have heq7 : Ext W wq7 := Ext.trans heq6 hxq7
            replace hnq6 := hnq6.blw hxq7
            obtain ⟨hcq7, hfq7⟩ := bcell heq7
            go_simp
            refine (sum_two _ _ _ _ _ _ hnq6 (by unfold Small; omega) (by unfold Small; omega) (by unfold Small; omega) (by unfold Small; omega)).mono ?_
            rintro e wq8 ⟨rfl, hbq8⟩
            have heq8 : Ext W wq8 := Ext.trans heq7 hbq8
            refine hKq _ _ hbq8 ?_
            clear hKq hcq7 hfq7
            replace hnq6 := hnq6.blw hbq8
            try simp only [Act.put, List.setIfInBounds_toArray, List.set_cons_zero, List.set_cons_succ]
            refine wpCh_step (by kernel_rfl) (fun wq9 hxq9 Kq hKq => ?_)
            have heq9 : Ext W wq9 := Ext.trans heq8 hxq9
            replace hnq6 := hnq6.blw hxq9
            obtain ⟨hcq9, hfq9⟩ := bcell heq9
            go_simp
            refine (common_any _ _ _ _ _).mono ?_
            rintro e wq10 ⟨rfl, hbq10⟩
            have heq10 : Ext W wq10 := Ext.trans heq9 hbq10
            refine hKq _ _ hbq10 ?_
            clear hKq hcq9 hfq9
            replace hnq6 := hnq6.blw hbq10
            try simp only [Act.put, List.setIfInBounds_toArray, List.set_cons_zero, List.set_cons_succ]
            refine wpCh_nil (fun wq hxq DD hDD hOO heq => flOk0 (R := fun a => wpList _ _ _ _ a _) ?_ DD hDD hOO)
            try simp only [List.drop_succ_cons, List.drop_zero, Act.put, List.setIfInBounds_toArray, List.set_cons_zero, List.set_cons_succ]
            replace hnq6 := hnq6.blw hxq
            have hyq := Ext.trans heq10 hxq
            obtain ⟨hcq, hfq⟩ := bcell heq
            go_wp2
            have hq1 : Below w.heap.size w wq := H1.out.trans (heq.mono H1.out.size)
            have hbs : backs f (cnt a b f) (List.map (·.1) (pre ++ [(⟨x, hx⟩ : { i // i < k })])) = back1 f c x := by rw [Hc.out]; simp [backs]
            refine ⟨KeepsFrom.set (KeepsFrom.set (KeepsFrom.of_ext heq) _ _) _ _, fun q hq hq' => ?_, ⟨⟨(hq1.setCell (by simp; omega) _).setCell (by simp; omega) _, by have := heq.size; simp [World.setCell]; omega⟩, ((H2.out.blw heq).far (by simp; omega) _).far (by simp; omega) _, ?_⟩⟩
            · rw [Below.heap_setCell _ _ _ _ (by simp; omega), Below.heap_setCell _ _ _ _ (by simp; omega)]
              exact heq.block q (by omega)
            · rw [hbs]
              refine (((H3.out.below heq).set x 0 (by omega) (by omega) _).set x 1 (by omega) (by omega) _).congr fun i j hi hj => ?_
              have h2 : j = 0 ∨ j = 1 := by omega
              by_cases hix : i = x
              · subst hix
                rcases h2 with rfl | rfl <;> simp [back1, Int.sub_eq_add_neg]
              · rcases h2 with rfl | rfl <;> simp [back1, hix]
          case done =>
            rintro D xs W hD rfl ⟨⟨h1, hsz⟩, h2, h3⟩ hDo
            go_wp2_with fail
            refine (clone_row A k c (fun i j => .int .i64 (f i j)) W (HR.out.below h1) (fun _ _ _ _ => rfl) hn HA.out).mono ?_
            rintro e w3 ⟨v3, rfl, hown3, hb3⟩
            obtain ⟨A3, c3, rfl, hd1, hd2, hd3⟩ := hown3.form
            clear hd1 hd2 hd3
            obtain ⟨C, hC⟩ : ∃ C, C = counts a b f k := ⟨_, rfl⟩
            have hbl : (backL k k).map (·.1) = (List.range k).reverse := backL_map k
            have J1 := hid (h1.trans (hb3.mono h1.size))
            have J2 := hid (h2.blw hb3)
            have J3 : Hid (Own w3 (w.heap.size + 2) 36 2 (.slice (some ⟨gc, 0, none⟩) (k + 1) cv) (k + 1) fun i j => .int .i64 (if j = 0 then (C i).1 else (C i).2)) := hid (by rw [hC]; unfold counts; rw [← hbl]; exact h3.below hb3)
            have J4 := hid (hown3.mono (B' := w.heap.size + 2) (by have := h1.size; omega))
            have J5 := hid (obj_blw hDo hb3)
            have hCb : ∀ i, i ≤ k → Small 20000000 (C i).1 ∧ Small 20000000 (C i).2 := fun i hi => by
              have hbd := backs_bd Hrows.out (List.range k).reverse 0 (cnt a b f) (fun i hi => by
                have := cnt_bd HS.out (k := i) (fun j hj => Hrows.out j (by omega)) (fun j hj => Hcs.out j (by omega))
                simp; omega) (fun i hi => by simpa using hi)
              have hb := hbd i hi
              rw [hC]
              unfold Small counts
              simp only [List.length_reverse, List.length_range] at hb
              omega
            have HCb := hid hCb
            have HC := hid hC
            have hDl := hDo
            have HD := hid (show w.heap.size ≤ D by have h7 := HBel.out.size; have h8 := hD; simp at h8; omega)
            clear hCb hC hDl hD hDo h1 h2 h3 hown3 hb3 hbl hsz HBel HB1 HOwn y0 yf0
            go_wp2
            go_loopw [15, 16, 17, 18, 19, 20, 21, 114, 143] (fun _ _ _ _ _ _ _ i _ wr => ∃ p : Nat, p ≤ k ∧ i = .int .i64 p ∧ Below w.heap.size w wr ∧ Blk wr (w.heap.size + 1) 31 #[.slice (some ⟨gc, 0, none⟩) (k + 1) cv]
              ∧ Own wr (w.heap.size + 2) 36 2 (.slice (some ⟨gc, 0, none⟩) (k + 1) cv) (k + 1) (fun i j => .int .i64 (if j = 0 then (C i).1 else (C i).2))
              ∧ Own wr (w.heap.size + 2) 71 14 (.slice A3 k c3) k (fun i j => .int .i64 (kst f C p i j)) ∧ wr.heap[D]? = some (.deferred (some []))) (fun _ _ _ _ _ _ _ i _ _ => k - (intOf i).toNat)
            case atStart => exact ⟨0, by omega, rfl, J1.out, J2.out, J3.out, J4.out, J5.out⟩
            clear J1 J2 J3 J4 J5
            case round =>
              obtain ⟨p, hp, rfl, q1, q2, q3, q4, q5⟩ := hrel
              have i0 : (p : Int) ≤ (k : Int) := by omega
              by_cases hlt : p < k
              · obtain ⟨gk, ck, hvk, hkB, hkl, hkn, hkc, hkf⟩ := q4.form1 (by omega)
                obtain ⟨rfl, rfl⟩ : A3 = some ⟨gk, 0, none⟩ ∧ c3 = ck := by simp at hvk; exact hvk
                clear hvk
                have i1 : (0 : Int) ≤ (p : Int) := by omega
                have i2 : (p : Int) < (k : Int) := by omega
                have hkr : ∀ j, j < 14 → wr.cell? ⟨gk, p * 14 + j, none⟩ = some (.int .i64 (f p j)) := fun j hj => by rw [hkc p j hlt hj]; simp [kst]
                have r0 : wr.cell? ⟨gk, p * 14, none⟩ = some (.int .i64 (f p 0)) := hkr 0 (by omega)
                have r1 : wr.cell? ⟨gk, p * 14 + 1, none⟩ = some (.int .i64 (f p 1)) := hkr 1 (by omega)
                have r2 : wr.cell? ⟨gk, p * 14 + 2, none⟩ = some (.int .i64 (f p 2)) := hkr 2 (by omega)
                have r3 : wr.cell? ⟨gk, p * 14 + 3, none⟩ = some (.int .i64 (f p 3)) := hkr 3 (by omega)
                have r4 : wr.cell? ⟨gk, p * 14 + 4, none⟩ = some (.int .i64 (f p 4)) := hkr 4 (by omega)
                have r5 : wr.cell? ⟨gk, p * 14 + 5, none⟩ = some (.int .i64 (f p 5)) := hkr 5 (by omega)
                have r6 : wr.cell? ⟨gk, p * 14 + 6, none⟩ = some (.int .i64 (f p 6)) := hkr 6 (by omega)
                have r7 : wr.cell? ⟨gk, p * 14 + 7, none⟩ = some (.int .i64 (f p 7)) := hkr 7 (by omega)
                have r8 : wr.cell? ⟨gk, p * 14 + 8, none⟩ = some (.int .i64 (f p 8)) := hkr 8 (by omega)
                have r9 : wr.cell? ⟨gk, p * 14 + 9, none⟩ = some (.int .i64 (f p 9)) := hkr 9 (by omega)
                have r10 : wr.cell? ⟨gk, p * 14 + 10, none⟩ = some (.int .i64 (f p 10)) := hkr 10 (by omega)
                have r11 : wr.cell? ⟨gk, p * 14 + 11, none⟩ = some (.int .i64 (f p 11)) := hkr 11 (by omega)
                have r12 : wr.cell? ⟨gk, p * 14 + 12, none⟩ = some (.int .i64 (f p 12)) := hkr 12 (by omega)
                have r13 : wr.cell? ⟨gk, p * 14 + 13, none⟩ = some (.int .i64 (f p 13)) := hkr 13 (by omega)
                have Q1 := hid q1
                have Q2 := hid q2
                have Q3 := hid q3
                have Q4 := hid q4
                have Q5 := hid q5
                clear q1 q2 q3 q4 q5 hkc hkf hkr
                go_wp2_with fail
                refine (sides_any _ _ _).mono ?_
                rintro e w4 ⟨rfl, hb4⟩
                go_wp2
                obtain ⟨W5, hW5⟩ : ∃ W5, W5 = (w4.alloc (.cells #[.pointer (some ⟨gk, p * 14, none⟩), .pointer (some ⟨gk, p * 14 + 2, none⟩), .pointer (some ⟨gk, p * 14 + 4, none⟩)] 133)).alloc (.cells #[.pointer (some ⟨gk, p * 14 + 6, none⟩), .pointer (some ⟨gk, p * 14 + 8, none⟩), .pointer (some ⟨gk, p * 14 + 10, none⟩)] 133) := ⟨_, rfl⟩
                rw [← hW5]
                have hb5 := hb4.size
                simp at hb5
                have X5 : Ext wr W5 := by rw [hW5]; exact ((((Below.refl wr.heap.size wr).alloc (Nat.le_refl _) _).trans (hb4.mono (by simp))).alloc (by omega) _).alloc (by simp; omega) _
                have F5 : Blk W5 wr.heap.size 71 #[.int .i64 (f p 0), .int .i64 (f p 1), .int .i64 (f p 2), .int .i64 (f p 3), .int .i64 (f p 4), .int .i64 (f p 5), .int .i64 (f p 6), .int .i64 (f p 7), .int .i64 (f p 8), .int .i64 (f p 9), .int .i64 (f p 10), .int .i64 (f p 11), .int .i64 (f p 12), .int .i64 (f p 13)] := by rw [hW5]; exact (((Blk.new _ _ _).blw hb4).alloc _).alloc _
                have F6 : Blk W5 w4.heap.size 133 #[.pointer (some ⟨gk, p * 14, none⟩), .pointer (some ⟨gk, p * 14 + 2, none⟩), .pointer (some ⟨gk, p * 14 + 4, none⟩)] := by rw [hW5]; exact (Blk.new _ _ _).alloc _
                have F7 : Blk W5 (w4.heap.size + 1) 133 #[.pointer (some ⟨gk, p * 14 + 6, none⟩), .pointer (some ⟨gk, p * 14 + 8, none⟩), .pointer (some ⟨gk, p * 14 + 10, none⟩)] := by rw [hW5]; exact Blk.new' (by simp)
                clear hW5 hb4
                have Y1 := hid (Q1.out.trans (X5.mono Q1.out.size))
                have Y2 := hid (Q2.out.blw X5)
                have Y3 := hid (Q3.out.below X5)
                have Y4 := hid (Q4.out.below X5)
                have Y5 := hid (obj_blw Q5.out X5)
                clear Q1 Q2 Q3 Q4 Q5
                obtain ⟨y1, yf1⟩ := Y2.out.c1
                have LY := Y2.out.lt
                have LF5 := F5.lt
                obtain ⟨gc', cc', hvg, _, hgl5, _, hgc, _⟩ := Y3.out.form1 (by omega)
                obtain ⟨rfl, rfl⟩ : gc = gc' ∧ cv = cc' := by simp at hvg; exact hvg
                clear hvg
                have z1 : W5.cell? ⟨gc, p * 2, none⟩ = some (.int .i64 (C p).1) := by simpa using hgc p 0 (by omega) (by omega)
                have z2 : W5.cell? ⟨gc, p * 2 + 1, none⟩ = some (.int .i64 (C p).2) := by simpa using hgc p 1 (by omega) (by omega)
                have z3 : W5.cell? ⟨gc, (p + 1) * 2, none⟩ = some (.int .i64 (C (p + 1)).1) := by simpa using hgc (p + 1) 0 (by omega) (by omega)
                have z4 : W5.cell? ⟨gc, (p + 1) * 2 + 1, none⟩ = some (.int .i64 (C (p + 1)).2) := by simpa using hgc (p + 1) 1 (by omega) (by omega)
                have s0 : W5.cell? ⟨wr.heap.size, 0, none⟩ = some (.int .i64 (f p 0)) := F5.cell 0
                have s1 : W5.cell? ⟨wr.heap.size, 1, none⟩ = some (.int .i64 (f p 1)) := F5.cell 1
                have s2 : W5.cell? ⟨wr.heap.size, 2, none⟩ = some (.int .i64 (f p 2)) := F5.cell 2
                have s3 : W5.cell? ⟨wr.heap.size, 3, none⟩ = some (.int .i64 (f p 3)) := F5.cell 3
                have s4 : W5.cell? ⟨wr.heap.size, 4, none⟩ = some (.int .i64 (f p 4)) := F5.cell 4
                have s5 : W5.cell? ⟨wr.heap.size, 5, none⟩ = some (.int .i64 (f p 5)) := F5.cell 5
                have s6 : W5.cell? ⟨wr.heap.size, 6, none⟩ = some (.int .i64 (f p 6)) := F5.cell 6
                have s7 : W5.cell? ⟨wr.heap.size, 7, none⟩ = some (.int .i64 (f p 7)) := F5.cell 7
                have s8 : W5.cell? ⟨wr.heap.size, 8, none⟩ = some (.int .i64 (f p 8)) := F5.cell 8
                have s9 : W5.cell? ⟨wr.heap.size, 9, none⟩ = some (.int .i64 (f p 9)) := F5.cell 9
                have s10 : W5.cell? ⟨wr.heap.size, 10, none⟩ = some (.int .i64 (f p 10)) := F5.cell 10
                have s11 : W5.cell? ⟨wr.heap.size, 11, none⟩ = some (.int .i64 (f p 11)) := F5.cell 11
                have s12 : W5.cell? ⟨wr.heap.size, 12, none⟩ = some (.int .i64 (f p 12)) := F5.cell 12
                have s13 : W5.cell? ⟨wr.heap.size, 13, none⟩ = some (.int .i64 (f p 13)) := F5.cell 13
                have KR := keep_rule W5
                have i3 : (p : Int) < (k : Int) + 1 := by omega
                have i7 : (p : Int) + 1 < (k : Int) + 1 := by omega
                have i4 : IntKind.i64.wrap ((p : Int) + 1) = (p : Int) + 1 := wrap_in (by omega)
                have i5 : (0 : Int) ≤ (p : Int) + 1 := by omega
                have i6 : ((p : Int) + 1).toNat = p + 1 := by omega
                have Hro := hid (Hrows.out p hlt)
                obtain ⟨cb1, cb2⟩ := HCb.out p (by omega)
                obtain ⟨cb3, cb4⟩ := HCb.out (p + 1) (by omega)
                have hgr := grow_bd Hro.out
                have eL : Hid ((C (p + 1)).1 + -(C p).2 + -growHi (f p) 3 = overLo f C p) := hid (by unfold overLo; omega)
                have eH : Hid ((C (p + 1)).2 + -(C p).1 + -growLo (f p) 3 = overHi f C p) := hid (by unfold overHi; omega)
                have oL : Small 50000000 (overLo f C p) := by unfold Small at *; unfold overLo; omega
                have oH : Small 50000000 (overHi f C p) := by unfold Small at *; unfold overHi; omega
                unfold Small at cb1 cb2 cb3 cb4
                have K5 := hid F5
                have K6 := hid F6
                have K7 := hid F7
                clear F5 F6 F7 hgc r0 r1 r2 r3 r4 r5 r6 r7 r8 r9 r10 r11 r12 r13
                refine np_region ?_
                refine RW.begin (n := 16) (by kernel_rfl) (by kernel_rfl) NP.pan (fun hSu => ?_)
                simp only [List.take_succ_cons, List.take_zero]
                refine RW.take (v := ?_) hSu (by kernel_rfl) (by kernel_rfl) ?_ ?_
                rotate_left
                · intro w' hw'; go_simp; rfl
                simp only [Act.put, List.setIfInBounds_toArray, List.set_cons_zero, List.set_cons_succ]
                refine RW.take (v := ?_) hSu (by kernel_rfl) (by kernel_rfl) ?_ ?_
                rotate_left
                · intro w' hw'; go_simp; rfl
                simp only [Act.put, List.setIfInBounds_toArray, List.set_cons_zero, List.set_cons_succ]
                refine RW.take (v := ?_) hSu (by kernel_rfl) (by kernel_rfl) ?_ ?_
                rotate_left
                · intro w' hw'; go_simp; rfl
                simp only [Act.put, List.setIfInBounds_toArray, List.set_cons_zero, List.set_cons_succ]
                refine RW.take (v := ?_) hSu (by kernel_rfl) (by kernel_rfl) ?_ ?_
                rotate_left
                · intro w' hw'; go_simp; rfl
                simp only [Act.put, List.setIfInBounds_toArray, List.set_cons_zero, List.set_cons_succ]
                refine RW.take (v := ?_) hSu (by kernel_rfl) (by kernel_rfl) ?_ ?_
                rotate_left
                · intro w' hw'; go_simp; rfl
                simp only [Act.put, List.setIfInBounds_toArray, List.set_cons_zero, List.set_cons_succ]
                refine RW.take (v := ?_) hSu (by kernel_rfl) (by kernel_rfl) ?_ ?_
                rotate_left
                · intro w' hw'; go_simp; rfl
                simp only [Act.put, List.setIfInBounds_toArray, List.set_cons_zero, List.set_cons_succ]
                refine RW.take (v := ?_) hSu (by kernel_rfl) (by kernel_rfl) ?_ ?_
                rotate_left
                · intro w' hw'; go_simp; rfl
                simp only [Act.put, List.setIfInBounds_toArray, List.set_cons_zero, List.set_cons_succ]
                refine RW.take (v := ?_) hSu (by kernel_rfl) (by kernel_rfl) ?_ ?_
                rotate_left
                · intro w' hw'; go_simp; rfl
                simp only [Act.put, List.setIfInBounds_toArray, List.set_cons_zero, List.set_cons_succ]
                refine RW.take (v := ?_) hSu (by kernel_rfl) (by kernel_rfl) ?_ ?_
                rotate_left
                · intro w' hw'; go_simp; rfl
                simp only [Act.put, List.setIfInBounds_toArray, List.set_cons_zero, List.set_cons_succ]
                refine RW.keep ?_
                refine RW.take (v := ?_) hSu (by kernel_rfl) (by kernel_rfl) ?_ ?_
                rotate_left
                · intro w' hw'; go_simp; rfl
                simp only [Act.put, List.setIfInBounds_toArray, List.set_cons_zero, List.set_cons_succ]
                refine RW.keep ?_
                refine RW.keep ?_
                refine RW.keep ?_
                refine RW.keep ?_
                refine RW.float (#[.int .i64 0, .int .i64 0]) ?_
                simp only [List.nil_append, List.cons_append]
                refine RW.chain (by kernel_rfl) (by kernel_rfl) (fun f hf => by simp only [List.mem_cons, List.not_mem_nil, or_false] at hf; subst hf; skip <;> (intro ρ o w ho; simp [execOp, ho, go_sem])) hSu ?_
                refine wpCh_step (by kernel_rfl) (fun wu1 hxu1 Ku hKu => ?_)
                have heu1 : Ext W5 wu1 := Ext.trans hSu hxu1
                obtain ⟨hcu1, hfu1⟩ := bcell heu1
                go_simp
                refine (less_any _ _ _ (by unfold Small; omega) (by unfold Small; omega)).mono ?_
                rintro e wu2 ⟨rfl, hbu2⟩
                have heu2 : Ext W5 wu2 := Ext.trans heu1 hbu2
                refine hKu _ _ hbu2 ?_
                clear hKu hcu1 hfu1
                try simp only [Act.put, List.setIfInBounds_toArray, List.set_cons_zero, List.set_cons_succ]
                refine wpCh_step (by kernel_rfl) (fun wu3 hxu3 Ku hKu => ?_)
                have heu3 : Ext W5 wu3 := Ext.trans heu2 hxu3
                obtain ⟨hcu3, hfu3⟩ := bcell heu3
                go_simp
                refine (growth_any (f p) _ (fun i hi => by have := rowOk_bd Hro.out i hi; unfold Small; omega)).mono ?_
                rintro e wu4 ⟨rfl, hbu4⟩
                have heu4 : Ext W5 wu4 := Ext.trans heu3 hbu4
                refine hKu _ _ hbu4 ?_
                clear hKu hcu3 hfu3
                try simp only [Act.put, List.setIfInBounds_toArray, List.set_cons_zero, List.set_cons_succ]
                refine wpCh_step (by kernel_rfl) (fun wu5 hxu5 Ku hKu => ?_)
                have heu5 : Ext W5 wu5 := Ext.trans heu4 hxu5
                obtain ⟨hcu5, hfu5⟩ := bcell heu5
                go_simp
                refine (less_any _ _ _ (by unfold Small; omega) (by unfold Small; omega)).mono ?_
                rintro e wu6 ⟨rfl, hbu6⟩
                have heu6 : Ext W5 wu6 := Ext.trans heu5 hbu6
                refine hKu _ _ hbu6 ?_
                clear hKu hcu5 hfu5
                try simp only [Act.put, List.setIfInBounds_toArray, List.set_cons_zero, List.set_cons_succ]
                refine wpCh_step (by kernel_rfl) (fun wu7 hxu7 Ku hKu => ?_)
                have heu7 : Ext W5 wu7 := Ext.trans heu6 hxu7
                obtain ⟨hcu7, hfu7⟩ := bcell heu7
                go_simp
                refine ch_alloc (N := fun w => (_, w.heap.size) :: _) hKu (fun wu8 hbu8 hnu8 => ?_)
                have heu8 := Ext.trans heu7 hbu8
                clear hKu hcu7 hfu7
                try simp only [Act.put, List.setIfInBounds_toArray, List.set_cons_zero, List.set_cons_succ]
                refine wpCh_step (by kernel_rfl) (fun wu9 hxu9 Ku hKu => ?_)
                have heu9 : Ext W5 wu9 := Ext.trans heu8 hxu9
                replace hnu8 := hnu8.blw hxu9
                obtain ⟨hcu9, hfu9⟩ := bcell heu9
                go_simp
                refine (sum_three _ _ _ _ _ _ _ _ hnu8 (by unfold Small; omega) (by unfold Small; omega) (by unfold Small; omega) (by unfold Small; omega) (by unfold Small; omega) (by unfold Small; omega)).mono ?_
                rintro e wu10 ⟨rfl, hbu10⟩
                rw [eL.out, eH.out]
                have heu10 : Ext W5 wu10 := Ext.trans heu9 hbu10
                refine hKu _ _ hbu10 ?_
                clear hKu hcu9 hfu9
                replace hnu8 := hnu8.blw hbu10
                try simp only [Act.put, List.setIfInBounds_toArray, List.set_cons_zero, List.set_cons_succ]
                refine wpCh_nil (fun wu hxu DD hDD hOO heu => flOk1 (R := fun a => wpList _ _ _ _ a _) (fun bu0 hbu0B hbu0Z hbu0N => ?_) DD hDD hOO)
                try simp only [List.drop_succ_cons, List.drop_zero, Act.put, List.setIfInBounds_toArray, List.set_cons_zero, List.set_cons_succ]
                replace hnu8 := hnu8.blw hxu
                have hyu := Ext.trans heu10 hxu
                obtain ⟨hcu, hfu⟩ := bcell heu
                obtain ⟨g0, g1, gf0, gf1⟩ := hbu0Z.c2
                go_wp2
                refine NP.normal ?_
                have hkc : gk ≠ gc := Own.ne_ Y4.out Y3.out (by decide)
                obtain ⟨W6, hW6⟩ : ∃ W6, W6 = (wu.setCell ⟨bu0, 0, none⟩ (.int .i64 (overLo f C p))).setCell ⟨bu0, 1, none⟩ (.int .i64 (overHi f C p)) := ⟨_, rfl⟩
                rw [← hW6]
                have hb5s := heu.size
                have V1 : Hid (Below w.heap.size w W6) := hid (by rw [hW6]; exact ((Y1.out.trans (heu.mono Y1.out.size)).setCell (by have := Y1.out.size; simp; omega) _).setCell (by have := Y1.out.size; simp; omega) _)
                have V2 := hid (show Blk W6 (w.heap.size + 1) 31 #[.slice (some ⟨gc, 0, none⟩) (k + 1) cv] by rw [hW6]; exact ((Y2.out.blw heu).far (by simp; omega) _).far (by simp; omega) _)
                have V3 := hid (show Own W6 (w.heap.size + 2) 36 2 (.slice (some ⟨gc, 0, none⟩) (k + 1) cv) (k + 1) (fun i j => .int .i64 (if j = 0 then (C i).1 else (C i).2)) by rw [hW6]; exact ((Y3.out.below heu).far (by simp [Value.ownBlock]; omega) _).far (by simp [Value.ownBlock]; omega) _)
                have V4 := hid (show Own W6 (w.heap.size + 2) 71 14 (.slice (some ⟨gk, 0, none⟩) k c3) k (fun i j => .int .i64 (if i = p then kn f C p 0 j else kst f C p i j)) by
                  rw [hW6]
                  refine (((Y4.out.below heu).far (by simp [Value.ownBlock]; omega) _).far (by simp [Value.ownBlock]; omega) _).congr fun i j hi hj => ?_
                  by_cases hip : i = p
                  · subst hip; simp [kn, kst]; omega
                  · simp [hip])
                have V5 := hid (show W6.heap[D]? = some (.deferred (some [])) by rw [hW6]; exact obj_setCell (obj_setCell (obj_blw Y5.out heu) rfl _ _) rfl _ _)
                have V6 := hid (show Blk W6 w4.heap.size 133 #[.pointer (some ⟨gk, p * 14, none⟩), .pointer (some ⟨gk, p * 14 + 2, none⟩), .pointer (some ⟨gk, p * 14 + 4, none⟩)] by rw [hW6]; exact ((K6.out.blw heu).far (by have := K7.out.lt; simp; omega) _).far (by have := K7.out.lt; simp; omega) _)
                have V7 := hid (show Blk W6 (w4.heap.size + 1) 133 #[.pointer (some ⟨gk, p * 14 + 6, none⟩), .pointer (some ⟨gk, p * 14 + 8, none⟩), .pointer (some ⟨gk, p * 14 + 10, none⟩)] by rw [hW6]; exact ((K7.out.blw heu).far (by have := K7.out.lt; simp; omega) _).far (by have := K7.out.lt; simp; omega) _)
                have V8 := hid (show Blk W6 bu0 36 #[.int .i64 (overLo f C p), .int .i64 (overHi f C p)] by rw [hW6]; exact hbu0Z.set2 _ _)
                have N1 := K7.out.lt
                have N2 := X5.size
                clear hW6 Y1 Y2 Y3 Y4 Y5 K5 K6 K7 heu hcu hfu hyu hxu hbu0Z hbu0N hnu8 hOO hDD KR z1 z2 z3 z4 y1 yf1 g0 g1 gf0 gf1 X5 LY LF5 hgl5 s0 s1 s2 s3 s4 s5 s6 s7 s8 s9 s10 s11 s12 s13
                go_wp2
                go_loopw [21, 143] (fun _ i wr => ∃ q : Nat, q ≤ 3 ∧ i = .int .i64 q ∧ Below w.heap.size w wr ∧ Blk wr (w.heap.size + 1) 31 #[.slice (some ⟨gc, 0, none⟩) (k + 1) cv]
                  ∧ Own wr (w.heap.size + 2) 36 2 (.slice (some ⟨gc, 0, none⟩) (k + 1) cv) (k + 1) (fun i j => .int .i64 (if j = 0 then (C i).1 else (C i).2))
                  ∧ Own wr (w.heap.size + 2) 71 14 (.slice (some ⟨gk, 0, none⟩) k c3) k (fun i j => .int .i64 (if i = p then kn f C p q j else kst f C p i j)) ∧ wr.heap[D]? = some (.deferred (some []))
                  ∧ Blk wr w4.heap.size 133 #[.pointer (some ⟨gk, p * 14, none⟩), .pointer (some ⟨gk, p * 14 + 2, none⟩), .pointer (some ⟨gk, p * 14 + 4, none⟩)] ∧ Blk wr (w4.heap.size + 1) 133 #[.pointer (some ⟨gk, p * 14 + 6, none⟩), .pointer (some ⟨gk, p * 14 + 8, none⟩), .pointer (some ⟨gk, p * 14 + 10, none⟩)] ∧ Blk wr bu0 36 #[.int .i64 (overLo f C p), .int .i64 (overHi f C p)]) (fun _ i _ => 3 - (intOf i).toNat)
                case atStart => exact ⟨0, by omega, rfl, V1.out, V2.out, V3.out, V4.out, V5.out, V6.out, V7.out, V8.out⟩
                clear V1 V2 V3 V4 V5 V6 V7 V8
                case round =>
                  obtain ⟨q, hq, rfl, v1, v2, v3, v4, v5, v6, v7, v8⟩ := hrel
                  have hq' : q = 0 ∨ q = 1 ∨ q = 2 ∨ q = 3 := by omega
                  obtain ⟨oo0, oo1, oof0, oof1⟩ := v8.c2
                  obtain ⟨p0, p1, p2, pf0, pf1, pf2⟩ := v6.c3
                  obtain ⟨tt0, tt1, tt2, ttf0, ttf1, ttf2⟩ := v7.c3
                  have L6 := v6.lt
                  have L7 := v7.lt
                  have L8 := v8.lt
                  obtain ⟨gk', ck', hvk, hkB', hkl', _, hkc', hkf'⟩ := v4.form1 (by omega)
                  obtain ⟨rfl, rfl⟩ : gk = gk' ∧ c3 = ck' := by simp at hvk; exact hvk
                  clear hvk
                  have H1 := hid v1
                  have H2 := hid v2
                  have H3 := hid v3
                  have H4 := hid v4
                  have H5 := hid v5
                  have H6 := hid v6
                  have H7 := hid v7
                  have H8 := hid v8
                  have KR := keep_rule wr
                  have KRf := keep_rulef wr
                  have oL' := oL
                  have oH' := oH
                  unfold Small at oL' oH'
                  have hrb := rowOk_bd Hro.out
                  rcases hq' with rfl | rfl | rfl | rfl
                  · as_aux_lemma =>
                    have x0 : wr.cell? ⟨gk, p * 14, none⟩ = some (.int .i64 (f p 0)) := by simpa [kn] using hkc' p 0 hlt (by omega)
                    have x1 : wr.cell? ⟨gk, p * 14 + 1, none⟩ = some (.int .i64 (f p 1)) := by simpa [kn] using hkc' p 1 hlt (by omega)
                    have x2 : wr.cell? ⟨gk, p * 14 + 6, none⟩ = some (.int .i64 (f p 6)) := by simpa [kn] using hkc' p 6 hlt (by omega)
                    have x3 : wr.cell? ⟨gk, p * 14 + 6 + 1, none⟩ = some (.int .i64 (f p 7)) := by simpa [kn] using hkc' p 7 hlt (by omega)
                    have xf0 : wr.frozen? ⟨gk, p * 14, none⟩ = false := hkf' _
                    have xf1 : wr.frozen? ⟨gk, p * 14 + 1, none⟩ = false := hkf' _
                    have xf2 : wr.frozen? ⟨gk, p * 14 + 6, none⟩ = false := hkf' _
                    have xf3 : wr.frozen? ⟨gk, p * 14 + 6 + 1, none⟩ = false := hkf' _
                    have e0 := hrb 0 (by omega)
                    have e1 := hrb 1 (by omega)
                    have e2 := hrb 6 (by omega)
                    have e3 := hrb 7 (by omega)
                    clear v1 v2 v3 v4 v5 v6 v7 v8 hkc' hkf' hrb
                    go_wp2
                    refine np_region ?_
                    refine RW.begin (n := 28) (by kernel_rfl) (by kernel_rfl) NP.pan (fun hSm => ?_)
                    simp only [List.take_succ_cons, List.take_zero]
                    refine RW.take (v := ?_) hSm (by kernel_rfl) (by kernel_rfl) ?_ ?_
                    rotate_left
                    · intro w' hw'; go_simp; rfl
                    simp only [Act.put, List.setIfInBounds_toArray, List.set_cons_zero, List.set_cons_succ]
                    refine RW.take (v := ?_) hSm (by kernel_rfl) (by kernel_rfl) ?_ ?_
                    rotate_left
                    · intro w' hw'; go_simp; rfl
                    simp only [Act.put, List.setIfInBounds_toArray, List.set_cons_zero, List.set_cons_succ]
                    refine RW.take (v := ?_) hSm (by kernel_rfl) (by kernel_rfl) ?_ ?_
                    rotate_left
                    · intro w' hw'; go_simp; rfl
                    simp only [Act.put, List.setIfInBounds_toArray, List.set_cons_zero, List.set_cons_succ]
                    refine RW.take (v := ?_) hSm (by kernel_rfl) (by kernel_rfl) ?_ ?_
                    rotate_left
                    · intro w' hw'; go_simp; rfl
                    simp only [Act.put, List.setIfInBounds_toArray, List.set_cons_zero, List.set_cons_succ]
                    refine RW.take (v := ?_) hSm (by kernel_rfl) (by kernel_rfl) ?_ ?_
                    rotate_left
                    · intro w' hw'; go_simp; rfl
                    simp only [Act.put, List.setIfInBounds_toArray, List.set_cons_zero, List.set_cons_succ]
                    refine RW.take (v := ?_) hSm (by kernel_rfl) (by kernel_rfl) ?_ ?_
                    rotate_left
                    · intro w' hw'; go_simp; rfl
                    simp only [Act.put, List.setIfInBounds_toArray, List.set_cons_zero, List.set_cons_succ]
                    refine RW.take (v := ?_) hSm (by kernel_rfl) (by kernel_rfl) ?_ ?_
                    rotate_left
                    · intro w' hw'; go_simp; rfl
                    simp only [Act.put, List.setIfInBounds_toArray, List.set_cons_zero, List.set_cons_succ]
                    refine RW.take (v := ?_) hSm (by kernel_rfl) (by kernel_rfl) ?_ ?_
                    rotate_left
                    · intro w' hw'; go_simp; rfl
                    simp only [Act.put, List.setIfInBounds_toArray, List.set_cons_zero, List.set_cons_succ]
                    refine RW.take (v := ?_) hSm (by kernel_rfl) (by kernel_rfl) ?_ ?_
                    rotate_left
                    · intro w' hw'; go_simp; rfl
                    simp only [Act.put, List.setIfInBounds_toArray, List.set_cons_zero, List.set_cons_succ]
                    refine RW.take (v := ?_) hSm (by kernel_rfl) (by kernel_rfl) ?_ ?_
                    rotate_left
                    · intro w' hw'; go_simp; rfl
                    simp only [Act.put, List.setIfInBounds_toArray, List.set_cons_zero, List.set_cons_succ]
                    refine RW.take (v := ?_) hSm (by kernel_rfl) (by kernel_rfl) ?_ ?_
                    rotate_left
                    · intro w' hw'; go_simp; rfl
                    simp only [Act.put, List.setIfInBounds_toArray, List.set_cons_zero, List.set_cons_succ]
                    refine RW.take (v := ?_) hSm (by kernel_rfl) (by kernel_rfl) ?_ ?_
                    rotate_left
                    · intro w' hw'; go_simp; rfl
                    simp only [Act.put, List.setIfInBounds_toArray, List.set_cons_zero, List.set_cons_succ]
                    refine RW.take (v := ?_) hSm (by kernel_rfl) (by kernel_rfl) ?_ ?_
                    rotate_left
                    · intro w' hw'; go_simp; rfl
                    simp only [Act.put, List.setIfInBounds_toArray, List.set_cons_zero, List.set_cons_succ]
                    refine RW.take (v := ?_) hSm (by kernel_rfl) (by kernel_rfl) ?_ ?_
                    rotate_left
                    · intro w' hw'; go_simp; rfl
                    simp only [Act.put, List.setIfInBounds_toArray, List.set_cons_zero, List.set_cons_succ]
                    refine RW.take (v := ?_) hSm (by kernel_rfl) (by kernel_rfl) ?_ ?_
                    rotate_left
                    · intro w' hw'; go_simp; rfl
                    simp only [Act.put, List.setIfInBounds_toArray, List.set_cons_zero, List.set_cons_succ]
                    refine RW.take (v := ?_) hSm (by kernel_rfl) (by kernel_rfl) ?_ ?_
                    rotate_left
                    · intro w' hw'; go_simp; rfl
                    simp only [Act.put, List.setIfInBounds_toArray, List.set_cons_zero, List.set_cons_succ]
                    refine RW.take (v := ?_) hSm (by kernel_rfl) (by kernel_rfl) ?_ ?_
                    rotate_left
                    · intro w' hw'; go_simp; rfl
                    simp only [Act.put, List.setIfInBounds_toArray, List.set_cons_zero, List.set_cons_succ]
                    refine RW.take (v := ?_) hSm (by kernel_rfl) (by kernel_rfl) ?_ ?_
                    rotate_left
                    · intro w' hw'; go_simp; rfl
                    simp only [Act.put, List.setIfInBounds_toArray, List.set_cons_zero, List.set_cons_succ]
                    refine RW.take (v := ?_) hSm (by kernel_rfl) (by kernel_rfl) ?_ ?_
                    rotate_left
                    · intro w' hw'; go_simp; rfl
                    simp only [Act.put, List.setIfInBounds_toArray, List.set_cons_zero, List.set_cons_succ]
                    refine RW.take (v := ?_) hSm (by kernel_rfl) (by kernel_rfl) ?_ ?_
                    rotate_left
                    · intro w' hw'; go_simp; rfl
                    simp only [Act.put, List.setIfInBounds_toArray, List.set_cons_zero, List.set_cons_succ]
                    refine RW.take (v := ?_) hSm (by kernel_rfl) (by kernel_rfl) ?_ ?_
                    rotate_left
                    · intro w' hw'; go_simp; rfl
                    simp only [Act.put, List.setIfInBounds_toArray, List.set_cons_zero, List.set_cons_succ]
                    refine RW.take (v := ?_) hSm (by kernel_rfl) (by kernel_rfl) ?_ ?_
                    rotate_left
                    · intro w' hw'; go_simp; rfl
                    simp only [Act.put, List.setIfInBounds_toArray, List.set_cons_zero, List.set_cons_succ]
                    refine RW.take (v := ?_) hSm (by kernel_rfl) (by kernel_rfl) ?_ ?_
                    rotate_left
                    · intro w' hw'; go_simp; rfl
                    simp only [Act.put, List.setIfInBounds_toArray, List.set_cons_zero, List.set_cons_succ]
                    refine RW.take (v := ?_) hSm (by kernel_rfl) (by kernel_rfl) ?_ ?_
                    rotate_left
                    · intro w' hw'; go_simp; rfl
                    simp only [Act.put, List.setIfInBounds_toArray, List.set_cons_zero, List.set_cons_succ]
                    refine RW.take (v := ?_) hSm (by kernel_rfl) (by kernel_rfl) ?_ ?_
                    rotate_left
                    · intro w' hw'; go_simp; rfl
                    simp only [Act.put, List.setIfInBounds_toArray, List.set_cons_zero, List.set_cons_succ]
                    refine RW.take (v := ?_) hSm (by kernel_rfl) (by kernel_rfl) ?_ ?_
                    rotate_left
                    · intro w' hw'; go_simp; rfl
                    simp only [Act.put, List.setIfInBounds_toArray, List.set_cons_zero, List.set_cons_succ]
                    refine RW.take (v := ?_) hSm (by kernel_rfl) (by kernel_rfl) ?_ ?_
                    rotate_left
                    · intro w' hw'; go_simp; rfl
                    simp only [Act.put, List.setIfInBounds_toArray, List.set_cons_zero, List.set_cons_succ]
                    refine RW.keep ?_
                    simp only [List.nil_append, List.cons_append]
                    refine RW.chain (by kernel_rfl) (by kernel_rfl) (fun f hf => (by cases hf)) hSm ?_
                    refine wpCh_step (by kernel_rfl) (fun wm1 hxm1 Km hKm => ?_)
                    have hem1 : Ext wr wm1 := Ext.trans hSm hxm1
                    obtain ⟨hcm1, hfm1⟩ := bcell hem1
                    go_simp
                    refine (common_any _ _ _ _ _).mono ?_
                    rintro e wm2 ⟨rfl, hbm2⟩
                    have hem2 : Ext wr wm2 := Ext.trans hem1 hbm2
                    refine hKm _ _ hbm2 ?_
                    clear hKm hcm1 hfm1
                    try simp only [Act.put, List.setIfInBounds_toArray, List.set_cons_zero, List.set_cons_succ]
                    refine wpCh_nil (fun wm hxm DD hDD hOO hem => flOk0 (R := fun a => wpList _ _ _ _ a _) ?_ DD hDD hOO)
                    try simp only [List.drop_succ_cons, List.drop_zero, Act.put, List.setIfInBounds_toArray, List.set_cons_zero, List.set_cons_succ]
                    have hym := Ext.trans hem2 hxm
                    obtain ⟨hcm, hfm⟩ := bcell hem
                    go_wp2
                    refine NP.normal ?_
                    obtain ⟨U1, hU1⟩ : ∃ U1, U1 = (wm.setCell ⟨gk, p * 14, none⟩ (.int .i64 (max (f p 0) (overLo f C p + f p 1)))).setCell ⟨gk, p * 14 + 1, none⟩ (.int .i64 (min (f p 1) (overHi f C p + f p 0))) := ⟨_, rfl⟩
                    rw [← hU1]
                    have hsz0 := hem.size
                    have A01 : Hid (Below w.heap.size w U1) := hid (by rw [hU1]; exact ((H1.out.trans (hem.mono H1.out.size)).setCell (by simp; omega) _).setCell (by simp; omega) _)
                    have A02 := hid (show Blk U1 (w.heap.size + 1) 31 #[.slice (some ⟨gc, 0, none⟩) (k + 1) cv] by rw [hU1]; exact ((H2.out.blw hem).far (by simp; omega) _).far (by simp; omega) _)
                    have A03 := hid (show Own U1 (w.heap.size + 2) 36 2 (.slice (some ⟨gc, 0, none⟩) (k + 1) cv) (k + 1) (fun i j => .int .i64 (if j = 0 then (C i).1 else (C i).2)) by rw [hU1]; exact ((H3.out.below hem).far (by simp [Value.ownBlock]; omega) _).far (by simp [Value.ownBlock]; omega) _)
                    have A04 := hid (show Own U1 (w.heap.size + 2) 71 14 (.slice (some ⟨gk, 0, none⟩) k c3) k (fun i j => .int .i64 (if i = p then kn1 f C p 0 j else kst f C p i j)) by
                      rw [hU1]
                      refine (((H4.out.below hem).set p 0 hlt (by omega) _).set p 1 hlt (by omega) _).congr fun i j hi hj => ?_
                      by_cases hip : i = p
                      · subst hip
                        by_cases hj1 : j = 1
                        · subst hj1; simp [kn, kn1, known]
                        · by_cases hj0 : j = 0
                          · subst hj0; simp [kn, kn1, known]
                          · simp only [hj1, hj0, and_false, if_false, if_true]; rw [kn1_step f C i 0 j (by omega) (by omega)]
                      · simp [hip])
                    have A05 := hid (show U1.heap[D]? = some (.deferred (some [])) by rw [hU1]; exact obj_setCell (obj_setCell (obj_blw H5.out hem) rfl _ _) rfl _ _)
                    have A06 := hid (show Blk U1 w4.heap.size 133 #[.pointer (some ⟨gk, p * 14, none⟩), .pointer (some ⟨gk, p * 14 + 2, none⟩), .pointer (some ⟨gk, p * 14 + 4, none⟩)] by rw [hU1]; exact ((H6.out.blw hem).far (by simp; omega) _).far (by simp; omega) _)
                    have A07 := hid (show Blk U1 (w4.heap.size + 1) 133 #[.pointer (some ⟨gk, p * 14 + 6, none⟩), .pointer (some ⟨gk, p * 14 + 8, none⟩), .pointer (some ⟨gk, p * 14 + 10, none⟩)] by rw [hU1]; exact ((H7.out.blw hem).far (by simp; omega) _).far (by simp; omega) _)
                    have A08 := hid (show Blk U1 bu0 36 #[.int .i64 (overLo f C p), .int .i64 (overHi f C p)] by rw [hU1]; exact ((H8.out.blw hem).far (by simp; omega) _).far (by simp; omega) _)
                    clear hU1 hem hcm hfm hym hxm
                    obtain ⟨o0, o1, of0, of1⟩ := A08.out.c2
                    obtain ⟨t0, t1, t2, tf0, tf1, tf2⟩ := A07.out.c3
                    obtain ⟨gk', ck', hvk, _, _, _, hkc', hkf'⟩ := A04.out.form1 (by omega)
                    obtain ⟨rfl, rfl⟩ : gk = gk' ∧ c3 = ck' := by simp at hvk; exact hvk
                    have x2 : U1.cell? ⟨gk, p * 14 + 6, none⟩ = some (.int .i64 (f p 6)) := by simpa [kn1] using hkc' p 6 hlt (by omega)
                    have x3 : U1.cell? ⟨gk, p * 14 + 6 + 1, none⟩ = some (.int .i64 (f p 7)) := by simpa [kn1] using hkc' p 7 hlt (by omega)
                    have xf2 : U1.frozen? ⟨gk, p * 14 + 6, none⟩ = false := hkf' _
                    have xf3 : U1.frozen? ⟨gk, p * 14 + 6 + 1, none⟩ = false := hkf' _
                    have L6' := A06.out.lt
                    have L7' := A07.out.lt
                    have L8' := A08.out.lt
                    have L9' : gk < U1.heap.size := cell_lt x2
                    have KR' := keep_rule U1
                    have KRf' := keep_rulef U1
                    clear hkc' hkf' hvk
                    go_wp2
                    refine np_region ?_
                    refine RW.begin (n := 28) (by kernel_rfl) (by kernel_rfl) NP.pan (fun hSn => ?_)
                    simp only [List.take_succ_cons, List.take_zero]
                    refine RW.take (v := ?_) hSn (by kernel_rfl) (by kernel_rfl) ?_ ?_
                    rotate_left
                    · intro w' hw'; go_simp; rfl
                    simp only [Act.put, List.setIfInBounds_toArray, List.set_cons_zero, List.set_cons_succ]
                    refine RW.take (v := ?_) hSn (by kernel_rfl) (by kernel_rfl) ?_ ?_
                    rotate_left
                    · intro w' hw'; go_simp; rfl
                    simp only [Act.put, List.setIfInBounds_toArray, List.set_cons_zero, List.set_cons_succ]
                    refine RW.take (v := ?_) hSn (by kernel_rfl) (by kernel_rfl) ?_ ?_
                    rotate_left
                    · intro w' hw'; go_simp; rfl
                    simp only [Act.put, List.setIfInBounds_toArray, List.set_cons_zero, List.set_cons_succ]
                    refine RW.take (v := ?_) hSn (by kernel_rfl) (by kernel_rfl) ?_ ?_
                    rotate_left
                    · intro w' hw'; go_simp; rfl
                    simp only [Act.put, List.setIfInBounds_toArray, List.set_cons_zero, List.set_cons_succ]
                    refine RW.take (v := ?_) hSn (by kernel_rfl) (by kernel_rfl) ?_ ?_
                    rotate_left
                    · intro w' hw'; go_simp; rfl
                    simp only [Act.put, List.setIfInBounds_toArray, List.set_cons_zero, List.set_cons_succ]
                    refine RW.take (v := ?_) hSn (by kernel_rfl) (by kernel_rfl) ?_ ?_
                    rotate_left
                    · intro w' hw'; go_simp; rfl
                    simp only [Act.put, List.setIfInBounds_toArray, List.set_cons_zero, List.set_cons_succ]
                    refine RW.take (v := ?_) hSn (by kernel_rfl) (by kernel_rfl) ?_ ?_
                    rotate_left
                    · intro w' hw'; go_simp; rfl
                    simp only [Act.put, List.setIfInBounds_toArray, List.set_cons_zero, List.set_cons_succ]
                    refine RW.take (v := ?_) hSn (by kernel_rfl) (by kernel_rfl) ?_ ?_
                    rotate_left
                    · intro w' hw'; go_simp; rfl
                    simp only [Act.put, List.setIfInBounds_toArray, List.set_cons_zero, List.set_cons_succ]
                    refine RW.take (v := ?_) hSn (by kernel_rfl) (by kernel_rfl) ?_ ?_
                    rotate_left
                    · intro w' hw'; go_simp; rfl
                    simp only [Act.put, List.setIfInBounds_toArray, List.set_cons_zero, List.set_cons_succ]
                    refine RW.take (v := ?_) hSn (by kernel_rfl) (by kernel_rfl) ?_ ?_
                    rotate_left
                    · intro w' hw'; go_simp; rfl
                    simp only [Act.put, List.setIfInBounds_toArray, List.set_cons_zero, List.set_cons_succ]
                    refine RW.take (v := ?_) hSn (by kernel_rfl) (by kernel_rfl) ?_ ?_
                    rotate_left
                    · intro w' hw'; go_simp; rfl
                    simp only [Act.put, List.setIfInBounds_toArray, List.set_cons_zero, List.set_cons_succ]
                    refine RW.take (v := ?_) hSn (by kernel_rfl) (by kernel_rfl) ?_ ?_
                    rotate_left
                    · intro w' hw'; go_simp; rfl
                    simp only [Act.put, List.setIfInBounds_toArray, List.set_cons_zero, List.set_cons_succ]
                    refine RW.take (v := ?_) hSn (by kernel_rfl) (by kernel_rfl) ?_ ?_
                    rotate_left
                    · intro w' hw'; go_simp; rfl
                    simp only [Act.put, List.setIfInBounds_toArray, List.set_cons_zero, List.set_cons_succ]
                    refine RW.take (v := ?_) hSn (by kernel_rfl) (by kernel_rfl) ?_ ?_
                    rotate_left
                    · intro w' hw'; go_simp; rfl
                    simp only [Act.put, List.setIfInBounds_toArray, List.set_cons_zero, List.set_cons_succ]
                    refine RW.take (v := ?_) hSn (by kernel_rfl) (by kernel_rfl) ?_ ?_
                    rotate_left
                    · intro w' hw'; go_simp; rfl
                    simp only [Act.put, List.setIfInBounds_toArray, List.set_cons_zero, List.set_cons_succ]
                    refine RW.take (v := ?_) hSn (by kernel_rfl) (by kernel_rfl) ?_ ?_
                    rotate_left
                    · intro w' hw'; go_simp; rfl
                    simp only [Act.put, List.setIfInBounds_toArray, List.set_cons_zero, List.set_cons_succ]
                    refine RW.take (v := ?_) hSn (by kernel_rfl) (by kernel_rfl) ?_ ?_
                    rotate_left
                    · intro w' hw'; go_simp; rfl
                    simp only [Act.put, List.setIfInBounds_toArray, List.set_cons_zero, List.set_cons_succ]
                    refine RW.take (v := ?_) hSn (by kernel_rfl) (by kernel_rfl) ?_ ?_
                    rotate_left
                    · intro w' hw'; go_simp; rfl
                    simp only [Act.put, List.setIfInBounds_toArray, List.set_cons_zero, List.set_cons_succ]
                    refine RW.take (v := ?_) hSn (by kernel_rfl) (by kernel_rfl) ?_ ?_
                    rotate_left
                    · intro w' hw'; go_simp; rfl
                    simp only [Act.put, List.setIfInBounds_toArray, List.set_cons_zero, List.set_cons_succ]
                    refine RW.take (v := ?_) hSn (by kernel_rfl) (by kernel_rfl) ?_ ?_
                    rotate_left
                    · intro w' hw'; go_simp; rfl
                    simp only [Act.put, List.setIfInBounds_toArray, List.set_cons_zero, List.set_cons_succ]
                    refine RW.take (v := ?_) hSn (by kernel_rfl) (by kernel_rfl) ?_ ?_
                    rotate_left
                    · intro w' hw'; go_simp; rfl
                    simp only [Act.put, List.setIfInBounds_toArray, List.set_cons_zero, List.set_cons_succ]
                    refine RW.take (v := ?_) hSn (by kernel_rfl) (by kernel_rfl) ?_ ?_
                    rotate_left
                    · intro w' hw'; go_simp; rfl
                    simp only [Act.put, List.setIfInBounds_toArray, List.set_cons_zero, List.set_cons_succ]
                    refine RW.take (v := ?_) hSn (by kernel_rfl) (by kernel_rfl) ?_ ?_
                    rotate_left
                    · intro w' hw'; go_simp; rfl
                    simp only [Act.put, List.setIfInBounds_toArray, List.set_cons_zero, List.set_cons_succ]
                    refine RW.take (v := ?_) hSn (by kernel_rfl) (by kernel_rfl) ?_ ?_
                    rotate_left
                    · intro w' hw'; go_simp; rfl
                    simp only [Act.put, List.setIfInBounds_toArray, List.set_cons_zero, List.set_cons_succ]
                    refine RW.take (v := ?_) hSn (by kernel_rfl) (by kernel_rfl) ?_ ?_
                    rotate_left
                    · intro w' hw'; go_simp; rfl
                    simp only [Act.put, List.setIfInBounds_toArray, List.set_cons_zero, List.set_cons_succ]
                    refine RW.take (v := ?_) hSn (by kernel_rfl) (by kernel_rfl) ?_ ?_
                    rotate_left
                    · intro w' hw'; go_simp; rfl
                    simp only [Act.put, List.setIfInBounds_toArray, List.set_cons_zero, List.set_cons_succ]
                    refine RW.take (v := ?_) hSn (by kernel_rfl) (by kernel_rfl) ?_ ?_
                    rotate_left
                    · intro w' hw'; go_simp; rfl
                    simp only [Act.put, List.setIfInBounds_toArray, List.set_cons_zero, List.set_cons_succ]
                    refine RW.keep ?_
                    simp only [List.nil_append, List.cons_append]
                    refine RW.chain (by kernel_rfl) (by kernel_rfl) (fun f hf => (by cases hf)) hSn ?_
                    refine wpCh_step (by kernel_rfl) (fun wn1 hxn1 Kn hKn => ?_)
                    have hen1 : Ext U1 wn1 := Ext.trans hSn hxn1
                    obtain ⟨hcn1, hfn1⟩ := bcell hen1
                    go_simp
                    refine (common_any _ _ _ _ _).mono ?_
                    rintro e wn2 ⟨rfl, hbn2⟩
                    have hen2 : Ext U1 wn2 := Ext.trans hen1 hbn2
                    refine hKn _ _ hbn2 ?_
                    clear hKn hcn1 hfn1
                    try simp only [Act.put, List.setIfInBounds_toArray, List.set_cons_zero, List.set_cons_succ]
                    refine wpCh_nil (fun wn hxn DD hDD hOO hen => flOk0 (R := fun a => wpList _ _ _ _ a _) ?_ DD hDD hOO)
                    try simp only [List.drop_succ_cons, List.drop_zero, Act.put, List.setIfInBounds_toArray, List.set_cons_zero, List.set_cons_succ]
                    have hyn := Ext.trans hen2 hxn
                    obtain ⟨hcn, hfn⟩ := bcell hen
                    go_wp2
                    refine NP.normal ?_
                    obtain ⟨U2, hU2⟩ : ∃ U2, U2 = (wn.setCell ⟨gk, p * 14 + 6, none⟩ (.int .i64 (max (f p 6) (f p 7 - overHi f C p)))).setCell ⟨gk, p * 14 + 6 + 1, none⟩ (.int .i64 (min (f p 7) (f p 6 - overLo f C p))) := ⟨_, rfl⟩
                    rw [← hU2]
                    have hsz1 := hen.size
                    have A11 : Hid (Below w.heap.size w U2) := hid (by rw [hU2]; exact ((A01.out.trans (hen.mono A01.out.size)).setCell (by simp; omega) _).setCell (by simp; omega) _)
                    have A12 := hid (show Blk U2 (w.heap.size + 1) 31 #[.slice (some ⟨gc, 0, none⟩) (k + 1) cv] by rw [hU2]; exact ((A02.out.blw hen).far (by simp; omega) _).far (by simp; omega) _)
                    have A13 := hid (show Own U2 (w.heap.size + 2) 36 2 (.slice (some ⟨gc, 0, none⟩) (k + 1) cv) (k + 1) (fun i j => .int .i64 (if j = 0 then (C i).1 else (C i).2)) by rw [hU2]; exact ((A03.out.below hen).far (by simp [Value.ownBlock]; omega) _).far (by simp [Value.ownBlock]; omega) _)
                    have A14 := hid (show Own U2 (w.heap.size + 2) 71 14 (.slice (some ⟨gk, 0, none⟩) k c3) k (fun i j => .int .i64 (if i = p then kn f C p (0 + 1) j else kst f C p i j)) by
                      rw [hU2]
                      refine (((A04.out.below hen).set p 6 hlt (by omega) _).set p 7 hlt (by omega) _).congr fun i j hi hj => ?_
                      by_cases hip : i = p
                      · subst hip
                        by_cases hj1 : j = 7
                        · subst hj1; simp [kn, kn1, known]
                        · by_cases hj0 : j = 6
                          · subst hj0; simp [kn, kn1, known]
                          · simp only [hj1, hj0, and_false, if_false, if_true]; rw [kn_step f C i 0 j (by omega) (by omega)]
                      · simp [hip])
                    have A15 := hid (show U2.heap[D]? = some (.deferred (some [])) by rw [hU2]; exact obj_setCell (obj_setCell (obj_blw A05.out hen) rfl _ _) rfl _ _)
                    have A16 := hid (show Blk U2 w4.heap.size 133 #[.pointer (some ⟨gk, p * 14, none⟩), .pointer (some ⟨gk, p * 14 + 2, none⟩), .pointer (some ⟨gk, p * 14 + 4, none⟩)] by rw [hU2]; exact ((A06.out.blw hen).far (by simp; omega) _).far (by simp; omega) _)
                    have A17 := hid (show Blk U2 (w4.heap.size + 1) 133 #[.pointer (some ⟨gk, p * 14 + 6, none⟩), .pointer (some ⟨gk, p * 14 + 8, none⟩), .pointer (some ⟨gk, p * 14 + 10, none⟩)] by rw [hU2]; exact ((A07.out.blw hen).far (by simp; omega) _).far (by simp; omega) _)
                    have A18 := hid (show Blk U2 bu0 36 #[.int .i64 (overLo f C p), .int .i64 (overHi f C p)] by rw [hU2]; exact ((A08.out.blw hen).far (by simp; omega) _).far (by simp; omega) _)
                    clear hU2 hen hcn hfn hyn hxn
                    go_wp2
                    go_roundw
                    case rel => exact ⟨0 + 1, by omega, by go_num, A11.out, A12.out, A13.out, A14.out, A15.out, A16.out, A17.out, A18.out⟩
                    case measure => simp [intOf]
                  · as_aux_lemma =>
                    have x0 : wr.cell? ⟨gk, p * 14 + 2, none⟩ = some (.int .i64 (f p 2)) := by simpa [kn] using hkc' p 2 hlt (by omega)
                    have x1 : wr.cell? ⟨gk, p * 14 + 2 + 1, none⟩ = some (.int .i64 (f p 3)) := by simpa [kn] using hkc' p 3 hlt (by omega)
                    have x2 : wr.cell? ⟨gk, p * 14 + 8, none⟩ = some (.int .i64 (f p 8)) := by simpa [kn] using hkc' p 8 hlt (by omega)
                    have x3 : wr.cell? ⟨gk, p * 14 + 8 + 1, none⟩ = some (.int .i64 (f p 9)) := by simpa [kn] using hkc' p 9 hlt (by omega)
                    have xf0 : wr.frozen? ⟨gk, p * 14 + 2, none⟩ = false := hkf' _
                    have xf1 : wr.frozen? ⟨gk, p * 14 + 2 + 1, none⟩ = false := hkf' _
                    have xf2 : wr.frozen? ⟨gk, p * 14 + 8, none⟩ = false := hkf' _
                    have xf3 : wr.frozen? ⟨gk, p * 14 + 8 + 1, none⟩ = false := hkf' _
                    have e0 := hrb 2 (by omega)
                    have e1 := hrb 3 (by omega)
                    have e2 := hrb 8 (by omega)
                    have e3 := hrb 9 (by omega)
                    clear v1 v2 v3 v4 v5 v6 v7 v8 hkc' hkf' hrb
                    go_wp2
                    refine np_region ?_
                    refine RW.begin (n := 28) (by kernel_rfl) (by kernel_rfl) NP.pan (fun hSm => ?_)
                    simp only [List.take_succ_cons, List.take_zero]
                    refine RW.take (v := ?_) hSm (by kernel_rfl) (by kernel_rfl) ?_ ?_
                    rotate_left
                    · intro w' hw'; go_simp; rfl
                    simp only [Act.put, List.setIfInBounds_toArray, List.set_cons_zero, List.set_cons_succ]
                    refine RW.take (v := ?_) hSm (by kernel_rfl) (by kernel_rfl) ?_ ?_
                    rotate_left
                    · intro w' hw'; go_simp; rfl
                    simp only [Act.put, List.setIfInBounds_toArray, List.set_cons_zero, List.set_cons_succ]
                    refine RW.take (v := ?_) hSm (by kernel_rfl) (by kernel_rfl) ?_ ?_
                    rotate_left
                    · intro w' hw'; go_simp; rfl
                    simp only [Act.put, List.setIfInBounds_toArray, List.set_cons_zero, List.set_cons_succ]
                    refine RW.take (v := ?_) hSm (by kernel_rfl) (by kernel_rfl) ?_ ?_
                    rotate_left
                    · intro w' hw'; go_simp; rfl
                    simp only [Act.put, List.setIfInBounds_toArray, List.set_cons_zero, List.set_cons_succ]
                    refine RW.take (v := ?_) hSm (by kernel_rfl) (by kernel_rfl) ?_ ?_
                    rotate_left
                    · intro w' hw'; go_simp; rfl
                    simp only [Act.put, List.setIfInBounds_toArray, List.set_cons_zero, List.set_cons_succ]
                    refine RW.take (v := ?_) hSm (by kernel_rfl) (by kernel_rfl) ?_ ?_
                    rotate_left
                    · intro w' hw'; go_simp; rfl
                    simp only [Act.put, List.setIfInBounds_toArray, List.set_cons_zero, List.set_cons_succ]
                    refine RW.take (v := ?_) hSm (by kernel_rfl) (by kernel_rfl) ?_ ?_
                    rotate_left
                    · intro w' hw'; go_simp; rfl
                    simp only [Act.put, List.setIfInBounds_toArray, List.set_cons_zero, List.set_cons_succ]
                    refine RW.take (v := ?_) hSm (by kernel_rfl) (by kernel_rfl) ?_ ?_
                    rotate_left
                    · intro w' hw'; go_simp; rfl
                    simp only [Act.put, List.setIfInBounds_toArray, List.set_cons_zero, List.set_cons_succ]
                    refine RW.take (v := ?_) hSm (by kernel_rfl) (by kernel_rfl) ?_ ?_
                    rotate_left
                    · intro w' hw'; go_simp; rfl
                    simp only [Act.put, List.setIfInBounds_toArray, List.set_cons_zero, List.set_cons_succ]
                    refine RW.take (v := ?_) hSm (by kernel_rfl) (by kernel_rfl) ?_ ?_
                    rotate_left
                    · intro w' hw'; go_simp; rfl
                    simp only [Act.put, List.setIfInBounds_toArray, List.set_cons_zero, List.set_cons_succ]
                    refine RW.take (v := ?_) hSm (by kernel_rfl) (by kernel_rfl) ?_ ?_
                    rotate_left
                    · intro w' hw'; go_simp; rfl
                    simp only [Act.put, List.setIfInBounds_toArray, List.set_cons_zero, List.set_cons_succ]
                    refine RW.take (v := ?_) hSm (by kernel_rfl) (by kernel_rfl) ?_ ?_
                    rotate_left
                    · intro w' hw'; go_simp; rfl
                    simp only [Act.put, List.setIfInBounds_toArray, List.set_cons_zero, List.set_cons_succ]
                    refine RW.take (v := ?_) hSm (by kernel_rfl) (by kernel_rfl) ?_ ?_
                    rotate_left
                    · intro w' hw'; go_simp; rfl
                    simp only [Act.put, List.setIfInBounds_toArray, List.set_cons_zero, List.set_cons_succ]
                    refine RW.take (v := ?_) hSm (by kernel_rfl) (by kernel_rfl) ?_ ?_
                    rotate_left
                    · intro w' hw'; go_simp; rfl
                    simp only [Act.put, List.setIfInBounds_toArray, List.set_cons_zero, List.set_cons_succ]
                    refine RW.take (v := ?_) hSm (by kernel_rfl) (by kernel_rfl) ?_ ?_
                    rotate_left
                    · intro w' hw'; go_simp; rfl
                    simp only [Act.put, List.setIfInBounds_toArray, List.set_cons_zero, List.set_cons_succ]
                    refine RW.take (v := ?_) hSm (by kernel_rfl) (by kernel_rfl) ?_ ?_
                    rotate_left
                    · intro w' hw'; go_simp; rfl
                    simp only [Act.put, List.setIfInBounds_toArray, List.set_cons_zero, List.set_cons_succ]
                    refine RW.take (v := ?_) hSm (by kernel_rfl) (by kernel_rfl) ?_ ?_
                    rotate_left
                    · intro w' hw'; go_simp; rfl
                    simp only [Act.put, List.setIfInBounds_toArray, List.set_cons_zero, List.set_cons_succ]
                    refine RW.take (v := ?_) hSm (by kernel_rfl) (by kernel_rfl) ?_ ?_
                    rotate_left
                    · intro w' hw'; go_simp; rfl
                    simp only [Act.put, List.setIfInBounds_toArray, List.set_cons_zero, List.set_cons_succ]
                    refine RW.take (v := ?_) hSm (by kernel_rfl) (by kernel_rfl) ?_ ?_
                    rotate_left
                    · intro w' hw'; go_simp; rfl
                    simp only [Act.put, List.setIfInBounds_toArray, List.set_cons_zero, List.set_cons_succ]
                    refine RW.take (v := ?_) hSm (by kernel_rfl) (by kernel_rfl) ?_ ?_
                    rotate_left
                    · intro w' hw'; go_simp; rfl
                    simp only [Act.put, List.setIfInBounds_toArray, List.set_cons_zero, List.set_cons_succ]
                    refine RW.take (v := ?_) hSm (by kernel_rfl) (by kernel_rfl) ?_ ?_
                    rotate_left
                    · intro w' hw'; go_simp; rfl
                    simp only [Act.put, List.setIfInBounds_toArray, List.set_cons_zero, List.set_cons_succ]
                    refine RW.take (v := ?_) hSm (by kernel_rfl) (by kernel_rfl) ?_ ?_
                    rotate_left
                    · intro w' hw'; go_simp; rfl
                    simp only [Act.put, List.setIfInBounds_toArray, List.set_cons_zero, List.set_cons_succ]
                    refine RW.take (v := ?_) hSm (by kernel_rfl) (by kernel_rfl) ?_ ?_
                    rotate_left
                    · intro w' hw'; go_simp; rfl
                    simp only [Act.put, List.setIfInBounds_toArray, List.set_cons_zero, List.set_cons_succ]
                    refine RW.take (v := ?_) hSm (by kernel_rfl) (by kernel_rfl) ?_ ?_
                    rotate_left
                    · intro w' hw'; go_simp; rfl
                    simp only [Act.put, List.setIfInBounds_toArray, List.set_cons_zero, List.set_cons_succ]
                    refine RW.take (v := ?_) hSm (by kernel_rfl) (by kernel_rfl) ?_ ?_
                    rotate_left
                    · intro w' hw'; go_simp; rfl
                    simp only [Act.put, List.setIfInBounds_toArray, List.set_cons_zero, List.set_cons_succ]
                    refine RW.take (v := ?_) hSm (by kernel_rfl) (by kernel_rfl) ?_ ?_
                    rotate_left
                    · intro w' hw'; go_simp; rfl
                    simp only [Act.put, List.setIfInBounds_toArray, List.set_cons_zero, List.set_cons_succ]
                    refine RW.take (v := ?_) hSm (by kernel_rfl) (by kernel_rfl) ?_ ?_
                    rotate_left
                    · intro w' hw'; go_simp; rfl
                    simp only [Act.put, List.setIfInBounds_toArray, List.set_cons_zero, List.set_cons_succ]
                    refine RW.keep ?_
                    simp only [List.nil_append, List.cons_append]
                    refine RW.chain (by kernel_rfl) (by kernel_rfl) (fun f hf => (by cases hf)) hSm ?_
                    refine wpCh_step (by kernel_rfl) (fun wm1 hxm1 Km hKm => ?_)
                    have hem1 : Ext wr wm1 := Ext.trans hSm hxm1
                    obtain ⟨hcm1, hfm1⟩ := bcell hem1
                    go_simp
                    refine (common_any _ _ _ _ _).mono ?_
                    rintro e wm2 ⟨rfl, hbm2⟩
                    have hem2 : Ext wr wm2 := Ext.trans hem1 hbm2
                    refine hKm _ _ hbm2 ?_
                    clear hKm hcm1 hfm1
                    try simp only [Act.put, List.setIfInBounds_toArray, List.set_cons_zero, List.set_cons_succ]
                    refine wpCh_nil (fun wm hxm DD hDD hOO hem => flOk0 (R := fun a => wpList _ _ _ _ a _) ?_ DD hDD hOO)
                    try simp only [List.drop_succ_cons, List.drop_zero, Act.put, List.setIfInBounds_toArray, List.set_cons_zero, List.set_cons_succ]
                    have hym := Ext.trans hem2 hxm
                    obtain ⟨hcm, hfm⟩ := bcell hem
                    go_wp2
                    refine NP.normal ?_
                    obtain ⟨U1, hU1⟩ : ∃ U1, U1 = (wm.setCell ⟨gk, p * 14 + 2, none⟩ (.int .i64 (max (f p 2) (overLo f C p + f p 3)))).setCell ⟨gk, p * 14 + 2 + 1, none⟩ (.int .i64 (min (f p 3) (overHi f C p + f p 2))) := ⟨_, rfl⟩
                    rw [← hU1]
                    have hsz0 := hem.size
                    have A01 : Hid (Below w.heap.size w U1) := hid (by rw [hU1]; exact ((H1.out.trans (hem.mono H1.out.size)).setCell (by simp; omega) _).setCell (by simp; omega) _)
                    have A02 := hid (show Blk U1 (w.heap.size + 1) 31 #[.slice (some ⟨gc, 0, none⟩) (k + 1) cv] by rw [hU1]; exact ((H2.out.blw hem).far (by simp; omega) _).far (by simp; omega) _)
                    have A03 := hid (show Own U1 (w.heap.size + 2) 36 2 (.slice (some ⟨gc, 0, none⟩) (k + 1) cv) (k + 1) (fun i j => .int .i64 (if j = 0 then (C i).1 else (C i).2)) by rw [hU1]; exact ((H3.out.below hem).far (by simp [Value.ownBlock]; omega) _).far (by simp [Value.ownBlock]; omega) _)
                    have A04 := hid (show Own U1 (w.heap.size + 2) 71 14 (.slice (some ⟨gk, 0, none⟩) k c3) k (fun i j => .int .i64 (if i = p then kn1 f C p 1 j else kst f C p i j)) by
                      rw [hU1]
                      refine (((H4.out.below hem).set p 2 hlt (by omega) _).set p 3 hlt (by omega) _).congr fun i j hi hj => ?_
                      by_cases hip : i = p
                      · subst hip
                        by_cases hj1 : j = 3
                        · subst hj1; simp [kn, kn1, known]
                        · by_cases hj0 : j = 2
                          · subst hj0; simp [kn, kn1, known]
                          · simp only [hj1, hj0, and_false, if_false, if_true]; rw [kn1_step f C i 1 j (by omega) (by omega)]
                      · simp [hip])
                    have A05 := hid (show U1.heap[D]? = some (.deferred (some [])) by rw [hU1]; exact obj_setCell (obj_setCell (obj_blw H5.out hem) rfl _ _) rfl _ _)
                    have A06 := hid (show Blk U1 w4.heap.size 133 #[.pointer (some ⟨gk, p * 14, none⟩), .pointer (some ⟨gk, p * 14 + 2, none⟩), .pointer (some ⟨gk, p * 14 + 4, none⟩)] by rw [hU1]; exact ((H6.out.blw hem).far (by simp; omega) _).far (by simp; omega) _)
                    have A07 := hid (show Blk U1 (w4.heap.size + 1) 133 #[.pointer (some ⟨gk, p * 14 + 6, none⟩), .pointer (some ⟨gk, p * 14 + 8, none⟩), .pointer (some ⟨gk, p * 14 + 10, none⟩)] by rw [hU1]; exact ((H7.out.blw hem).far (by simp; omega) _).far (by simp; omega) _)
                    have A08 := hid (show Blk U1 bu0 36 #[.int .i64 (overLo f C p), .int .i64 (overHi f C p)] by rw [hU1]; exact ((H8.out.blw hem).far (by simp; omega) _).far (by simp; omega) _)
                    clear hU1 hem hcm hfm hym hxm
                    obtain ⟨o0, o1, of0, of1⟩ := A08.out.c2
                    obtain ⟨t0, t1, t2, tf0, tf1, tf2⟩ := A07.out.c3
                    obtain ⟨gk', ck', hvk, _, _, _, hkc', hkf'⟩ := A04.out.form1 (by omega)
                    obtain ⟨rfl, rfl⟩ : gk = gk' ∧ c3 = ck' := by simp at hvk; exact hvk
                    have x2 : U1.cell? ⟨gk, p * 14 + 8, none⟩ = some (.int .i64 (f p 8)) := by simpa [kn1] using hkc' p 8 hlt (by omega)
                    have x3 : U1.cell? ⟨gk, p * 14 + 8 + 1, none⟩ = some (.int .i64 (f p 9)) := by simpa [kn1] using hkc' p 9 hlt (by omega)
                    have xf2 : U1.frozen? ⟨gk, p * 14 + 8, none⟩ = false := hkf' _
                    have xf3 : U1.frozen? ⟨gk, p * 14 + 8 + 1, none⟩ = false := hkf' _
                    have L6' := A06.out.lt
                    have L7' := A07.out.lt
                    have L8' := A08.out.lt
                    have L9' : gk < U1.heap.size := cell_lt x2
                    have KR' := keep_rule U1
                    have KRf' := keep_rulef U1
                    clear hkc' hkf' hvk
                    go_wp2
                    refine np_region ?_
                    refine RW.begin (n := 28) (by kernel_rfl) (by kernel_rfl) NP.pan (fun hSn => ?_)
                    simp only [List.take_succ_cons, List.take_zero]
                    refine RW.take (v := ?_) hSn (by kernel_rfl) (by kernel_rfl) ?_ ?_
                    rotate_left
                    · intro w' hw'; go_simp; rfl
                    simp only [Act.put, List.setIfInBounds_toArray, List.set_cons_zero, List.set_cons_succ]
                    refine RW.take (v := ?_) hSn (by kernel_rfl) (by kernel_rfl) ?_ ?_
                    rotate_left
                    · intro w' hw'; go_simp; rfl
                    simp only [Act.put, List.setIfInBounds_toArray, List.set_cons_zero, List.set_cons_succ]
                    refine RW.take (v := ?_) hSn (by kernel_rfl) (by kernel_rfl) ?_ ?_
                    rotate_left
                    · intro w' hw'; go_simp; rfl
                    simp only [Act.put, List.setIfInBounds_toArray, List.set_cons_zero, List.set_cons_succ]
                    refine RW.take (v := ?_) hSn (by kernel_rfl) (by kernel_rfl) ?_ ?_
                    rotate_left
                    · intro w' hw'; go_simp; rfl
                    simp only [Act.put, List.setIfInBounds_toArray, List.set_cons_zero, List.set_cons_succ]
                    refine RW.take (v := ?_) hSn (by kernel_rfl) (by kernel_rfl) ?_ ?_
                    rotate_left
                    · intro w' hw'; go_simp; rfl
                    simp only [Act.put, List.setIfInBounds_toArray, List.set_cons_zero, List.set_cons_succ]
                    refine RW.take (v := ?_) hSn (by kernel_rfl) (by kernel_rfl) ?_ ?_
                    rotate_left
                    · intro w' hw'; go_simp; rfl
                    simp only [Act.put, List.setIfInBounds_toArray, List.set_cons_zero, List.set_cons_succ]
                    refine RW.take (v := ?_) hSn (by kernel_rfl) (by kernel_rfl) ?_ ?_
                    rotate_left
                    · intro w' hw'; go_simp; rfl
                    simp only [Act.put, List.setIfInBounds_toArray, List.set_cons_zero, List.set_cons_succ]
                    refine RW.take (v := ?_) hSn (by kernel_rfl) (by kernel_rfl) ?_ ?_
                    rotate_left
                    · intro w' hw'; go_simp; rfl
                    simp only [Act.put, List.setIfInBounds_toArray, List.set_cons_zero, List.set_cons_succ]
                    refine RW.take (v := ?_) hSn (by kernel_rfl) (by kernel_rfl) ?_ ?_
                    rotate_left
                    · intro w' hw'; go_simp; rfl
                    simp only [Act.put, List.setIfInBounds_toArray, List.set_cons_zero, List.set_cons_succ]
                    refine RW.take (v := ?_) hSn (by kernel_rfl) (by kernel_rfl) ?_ ?_
                    rotate_left
                    · intro w' hw'; go_simp; rfl
                    simp only [Act.put, List.setIfInBounds_toArray, List.set_cons_zero, List.set_cons_succ]
                    refine RW.take (v := ?_) hSn (by kernel_rfl) (by kernel_rfl) ?_ ?_
                    rotate_left
                    · intro w' hw'; go_simp; rfl
                    simp only [Act.put, List.setIfInBounds_toArray, List.set_cons_zero, List.set_cons_succ]
                    refine RW.take (v := ?_) hSn (by kernel_rfl) (by kernel_rfl) ?_ ?_
                    rotate_left
                    · intro w' hw'; go_simp; rfl
                    simp only [Act.put, List.setIfInBounds_toArray, List.set_cons_zero, List.set_cons_succ]
                    refine RW.take (v := ?_) hSn (by kernel_rfl) (by kernel_rfl) ?_ ?_
                    rotate_left
                    · intro w' hw'; go_simp; rfl
                    simp only [Act.put, List.setIfInBounds_toArray, List.set_cons_zero, List.set_cons_succ]
                    refine RW.take (v := ?_) hSn (by kernel_rfl) (by kernel_rfl) ?_ ?_
                    rotate_left
                    · intro w' hw'; go_simp; rfl
                    simp only [Act.put, List.setIfInBounds_toArray, List.set_cons_zero, List.set_cons_succ]
                    refine RW.take (v := ?_) hSn (by kernel_rfl) (by kernel_rfl) ?_ ?_
                    rotate_left
                    · intro w' hw'; go_simp; rfl
                    simp only [Act.put, List.setIfInBounds_toArray, List.set_cons_zero, List.set_cons_succ]
                    refine RW.take (v := ?_) hSn (by kernel_rfl) (by kernel_rfl) ?_ ?_
                    rotate_left
                    · intro w' hw'; go_simp; rfl
                    simp only [Act.put, List.setIfInBounds_toArray, List.set_cons_zero, List.set_cons_succ]
                    refine RW.take (v := ?_) hSn (by kernel_rfl) (by kernel_rfl) ?_ ?_
                    rotate_left
                    · intro w' hw'; go_simp; rfl
                    simp only [Act.put, List.setIfInBounds_toArray, List.set_cons_zero, List.set_cons_succ]
                    refine RW.take (v := ?_) hSn (by kernel_rfl) (by kernel_rfl) ?_ ?_
                    rotate_left
                    · intro w' hw'; go_simp; rfl
                    simp only [Act.put, List.setIfInBounds_toArray, List.set_cons_zero, List.set_cons_succ]
                    refine RW.take (v := ?_) hSn (by kernel_rfl) (by kernel_rfl) ?_ ?_
                    rotate_left
                    · intro w' hw'; go_simp; rfl
                    simp only [Act.put, List.setIfInBounds_toArray, List.set_cons_zero, List.set_cons_succ]
                    refine RW.take (v := ?_) hSn (by kernel_rfl) (by kernel_rfl) ?_ ?_
                    rotate_left
                    · intro w' hw'; go_simp; rfl
                    simp only [Act.put, List.setIfInBounds_toArray, List.set_cons_zero, List.set_cons_succ]
                    refine RW.take (v := ?_) hSn (by kernel_rfl) (by kernel_rfl) ?_ ?_
                    rotate_left
                    · intro w' hw'; go_simp; rfl
                    simp only [Act.put, List.setIfInBounds_toArray, List.set_cons_zero, List.set_cons_succ]
                    refine RW.take (v := ?_) hSn (by kernel_rfl) (by kernel_rfl) ?_ ?_
                    rotate_left
                    · intro w' hw'; go_simp; rfl
                    simp only [Act.put, List.setIfInBounds_toArray, List.set_cons_zero, List.set_cons_succ]
                    refine RW.take (v := ?_) hSn (by kernel_rfl) (by kernel_rfl) ?_ ?_
                    rotate_left
                    · intro w' hw'; go_simp; rfl
                    simp only [Act.put, List.setIfInBounds_toArray, List.set_cons_zero, List.set_cons_succ]
                    refine RW.take (v := ?_) hSn (by kernel_rfl) (by kernel_rfl) ?_ ?_
                    rotate_left
                    · intro w' hw'; go_simp; rfl
                    simp only [Act.put, List.setIfInBounds_toArray, List.set_cons_zero, List.set_cons_succ]
                    refine RW.take (v := ?_) hSn (by kernel_rfl) (by kernel_rfl) ?_ ?_
                    rotate_left
                    · intro w' hw'; go_simp; rfl
                    simp only [Act.put, List.setIfInBounds_toArray, List.set_cons_zero, List.set_cons_succ]
                    refine RW.take (v := ?_) hSn (by kernel_rfl) (by kernel_rfl) ?_ ?_
                    rotate_left
                    · intro w' hw'; go_simp; rfl
                    simp only [Act.put, List.setIfInBounds_toArray, List.set_cons_zero, List.set_cons_succ]
                    refine RW.take (v := ?_) hSn (by kernel_rfl) (by kernel_rfl) ?_ ?_
                    rotate_left
                    · intro w' hw'; go_simp; rfl
                    simp only [Act.put, List.setIfInBounds_toArray, List.set_cons_zero, List.set_cons_succ]
                    refine RW.keep ?_
                    simp only [List.nil_append, List.cons_append]
                    refine RW.chain (by kernel_rfl) (by kernel_rfl) (fun f hf => (by cases hf)) hSn ?_
                    refine wpCh_step (by kernel_rfl) (fun wn1 hxn1 Kn hKn => ?_)
                    have hen1 : Ext U1 wn1 := Ext.trans hSn hxn1
                    obtain ⟨hcn1, hfn1⟩ := bcell hen1
                    go_simp
                    refine (common_any _ _ _ _ _).mono ?_
                    rintro e wn2 ⟨rfl, hbn2⟩
                    have hen2 : Ext U1 wn2 := Ext.trans hen1 hbn2
                    refine hKn _ _ hbn2 ?_
                    clear hKn hcn1 hfn1
                    try simp only [Act.put, List.setIfInBounds_toArray, List.set_cons_zero, List.set_cons_succ]
                    refine wpCh_nil (fun wn hxn DD hDD hOO hen => flOk0 (R := fun a => wpList _ _ _ _ a _) ?_ DD hDD hOO)
                    try simp only [List.drop_succ_cons, List.drop_zero, Act.put, List.setIfInBounds_toArray, List.set_cons_zero, List.set_cons_succ]
                    have hyn := Ext.trans hen2 hxn
                    obtain ⟨hcn, hfn⟩ := bcell hen
                    go_wp2
                    refine NP.normal ?_
                    obtain ⟨U2, hU2⟩ : ∃ U2, U2 = (wn.setCell ⟨gk, p * 14 + 8, none⟩ (.int .i64 (max (f p 8) (f p 9 - overHi f C p)))).setCell ⟨gk, p * 14 + 8 + 1, none⟩ (.int .i64 (min (f p 9) (f p 8 - overLo f C p))) := ⟨_, rfl⟩
                    rw [← hU2]
                    have hsz1 := hen.size
                    have A11 : Hid (Below w.heap.size w U2) := hid (by rw [hU2]; exact ((A01.out.trans (hen.mono A01.out.size)).setCell (by simp; omega) _).setCell (by simp; omega) _)
                    have A12 := hid (show Blk U2 (w.heap.size + 1) 31 #[.slice (some ⟨gc, 0, none⟩) (k + 1) cv] by rw [hU2]; exact ((A02.out.blw hen).far (by simp; omega) _).far (by simp; omega) _)
                    have A13 := hid (show Own U2 (w.heap.size + 2) 36 2 (.slice (some ⟨gc, 0, none⟩) (k + 1) cv) (k + 1) (fun i j => .int .i64 (if j = 0 then (C i).1 else (C i).2)) by rw [hU2]; exact ((A03.out.below hen).far (by simp [Value.ownBlock]; omega) _).far (by simp [Value.ownBlock]; omega) _)
                    have A14 := hid (show Own U2 (w.heap.size + 2) 71 14 (.slice (some ⟨gk, 0, none⟩) k c3) k (fun i j => .int .i64 (if i = p then kn f C p (1 + 1) j else kst f C p i j)) by
                      rw [hU2]
                      refine (((A04.out.below hen).set p 8 hlt (by omega) _).set p 9 hlt (by omega) _).congr fun i j hi hj => ?_
                      by_cases hip : i = p
                      · subst hip
                        by_cases hj1 : j = 9
                        · subst hj1; simp [kn, kn1, known]
                        · by_cases hj0 : j = 8
                          · subst hj0; simp [kn, kn1, known]
                          · simp only [hj1, hj0, and_false, if_false, if_true]; rw [kn_step f C i 1 j (by omega) (by omega)]
                      · simp [hip])
                    have A15 := hid (show U2.heap[D]? = some (.deferred (some [])) by rw [hU2]; exact obj_setCell (obj_setCell (obj_blw A05.out hen) rfl _ _) rfl _ _)
                    have A16 := hid (show Blk U2 w4.heap.size 133 #[.pointer (some ⟨gk, p * 14, none⟩), .pointer (some ⟨gk, p * 14 + 2, none⟩), .pointer (some ⟨gk, p * 14 + 4, none⟩)] by rw [hU2]; exact ((A06.out.blw hen).far (by simp; omega) _).far (by simp; omega) _)
                    have A17 := hid (show Blk U2 (w4.heap.size + 1) 133 #[.pointer (some ⟨gk, p * 14 + 6, none⟩), .pointer (some ⟨gk, p * 14 + 8, none⟩), .pointer (some ⟨gk, p * 14 + 10, none⟩)] by rw [hU2]; exact ((A07.out.blw hen).far (by simp; omega) _).far (by simp; omega) _)
                    have A18 := hid (show Blk U2 bu0 36 #[.int .i64 (overLo f C p), .int .i64 (overHi f C p)] by rw [hU2]; exact ((A08.out.blw hen).far (by simp; omega) _).far (by simp; omega) _)
                    clear hU2 hen hcn hfn hyn hxn
                    go_wp2
                    go_roundw
                    case rel => exact ⟨1 + 1, by omega, by go_num, A11.out, A12.out, A13.out, A14.out, A15.out, A16.out, A17.out, A18.out⟩
                    case measure => simp [intOf]
                  · as_aux_lemma =>
                    have x0 : wr.cell? ⟨gk, p * 14 + 4, none⟩ = some (.int .i64 (f p 4)) := by simpa [kn] using hkc' p 4 hlt (by omega)
                    have x1 : wr.cell? ⟨gk, p * 14 + 4 + 1, none⟩ = some (.int .i64 (f p 5)) := by simpa [kn] using hkc' p 5 hlt (by omega)
                    have x2 : wr.cell? ⟨gk, p * 14 + 10, none⟩ = some (.int .i64 (f p 10)) := by simpa [kn] using hkc' p 10 hlt (by omega)
                    have x3 : wr.cell? ⟨gk, p * 14 + 10 + 1, none⟩ = some (.int .i64 (f p 11)) := by simpa [kn] using hkc' p 11 hlt (by omega)
                    have xf0 : wr.frozen? ⟨gk, p * 14 + 4, none⟩ = false := hkf' _
                    have xf1 : wr.frozen? ⟨gk, p * 14 + 4 + 1, none⟩ = false := hkf' _
                    have xf2 : wr.frozen? ⟨gk, p * 14 + 10, none⟩ = false := hkf' _
                    have xf3 : wr.frozen? ⟨gk, p * 14 + 10 + 1, none⟩ = false := hkf' _
                    have e0 := hrb 4 (by omega)
                    have e1 := hrb 5 (by omega)
                    have e2 := hrb 10 (by omega)
                    have e3 := hrb 11 (by omega)
                    clear v1 v2 v3 v4 v5 v6 v7 v8 hkc' hkf' hrb
                    go_wp2
                    refine np_region ?_
                    refine RW.begin (n := 28) (by kernel_rfl) (by kernel_rfl) NP.pan (fun hSm => ?_)
                    simp only [List.take_succ_cons, List.take_zero]
                    refine RW.take (v := ?_) hSm (by kernel_rfl) (by kernel_rfl) ?_ ?_
                    rotate_left
                    · intro w' hw'; go_simp; rfl
                    simp only [Act.put, List.setIfInBounds_toArray, List.set_cons_zero, List.set_cons_succ]
                    refine RW.take (v := ?_) hSm (by kernel_rfl) (by kernel_rfl) ?_ ?_
                    rotate_left
                    · intro w' hw'; go_simp; rfl
                    simp only [Act.put, List.setIfInBounds_toArray, List.set_cons_zero, List.set_cons_succ]
                    refine RW.take (v := ?_) hSm (by kernel_rfl) (by kernel_rfl) ?_ ?_
                    rotate_left
                    · intro w' hw'; go_simp; rfl
                    simp only [Act.put, List.setIfInBounds_toArray, List.set_cons_zero, List.set_cons_succ]
                    refine RW.take (v := ?_) hSm (by kernel_rfl) (by kernel_rfl) ?_ ?_
                    rotate_left
                    · intro w' hw'; go_simp; rfl
                    simp only [Act.put, List.setIfInBounds_toArray, List.set_cons_zero, List.set_cons_succ]
                    refine RW.take (v := ?_) hSm (by kernel_rfl) (by kernel_rfl) ?_ ?_
                    rotate_left
                    · intro w' hw'; go_simp; rfl
                    simp only [Act.put, List.setIfInBounds_toArray, List.set_cons_zero, List.set_cons_succ]
                    refine RW.take (v := ?_) hSm (by kernel_rfl) (by kernel_rfl) ?_ ?_
                    rotate_left
                    · intro w' hw'; go_simp; rfl
                    simp only [Act.put, List.setIfInBounds_toArray, List.set_cons_zero, List.set_cons_succ]
                    refine RW.take (v := ?_) hSm (by kernel_rfl) (by kernel_rfl) ?_ ?_
                    rotate_left
                    · intro w' hw'; go_simp; rfl
                    simp only [Act.put, List.setIfInBounds_toArray, List.set_cons_zero, List.set_cons_succ]
                    refine RW.take (v := ?_) hSm (by kernel_rfl) (by kernel_rfl) ?_ ?_
                    rotate_left
                    · intro w' hw'; go_simp; rfl
                    simp only [Act.put, List.setIfInBounds_toArray, List.set_cons_zero, List.set_cons_succ]
                    refine RW.take (v := ?_) hSm (by kernel_rfl) (by kernel_rfl) ?_ ?_
                    rotate_left
                    · intro w' hw'; go_simp; rfl
                    simp only [Act.put, List.setIfInBounds_toArray, List.set_cons_zero, List.set_cons_succ]
                    refine RW.take (v := ?_) hSm (by kernel_rfl) (by kernel_rfl) ?_ ?_
                    rotate_left
                    · intro w' hw'; go_simp; rfl
                    simp only [Act.put, List.setIfInBounds_toArray, List.set_cons_zero, List.set_cons_succ]
                    refine RW.take (v := ?_) hSm (by kernel_rfl) (by kernel_rfl) ?_ ?_
                    rotate_left
                    · intro w' hw'; go_simp; rfl
                    simp only [Act.put, List.setIfInBounds_toArray, List.set_cons_zero, List.set_cons_succ]
                    refine RW.take (v := ?_) hSm (by kernel_rfl) (by kernel_rfl) ?_ ?_
                    rotate_left
                    · intro w' hw'; go_simp; rfl
                    simp only [Act.put, List.setIfInBounds_toArray, List.set_cons_zero, List.set_cons_succ]
                    refine RW.take (v := ?_) hSm (by kernel_rfl) (by kernel_rfl) ?_ ?_
                    rotate_left
                    · intro w' hw'; go_simp; rfl
                    simp only [Act.put, List.setIfInBounds_toArray, List.set_cons_zero, List.set_cons_succ]
                    refine RW.take (v := ?_) hSm (by kernel_rfl) (by kernel_rfl) ?_ ?_
                    rotate_left
                    · intro w' hw'; go_simp; rfl
                    simp only [Act.put, List.setIfInBounds_toArray, List.set_cons_zero, List.set_cons_succ]
                    refine RW.take (v := ?_) hSm (by kernel_rfl) (by kernel_rfl) ?_ ?_
                    rotate_left
                    · intro w' hw'; go_simp; rfl
                    simp only [Act.put, List.setIfInBounds_toArray, List.set_cons_zero, List.set_cons_succ]
                    refine RW.take (v := ?_) hSm (by kernel_rfl) (by kernel_rfl) ?_ ?_
                    rotate_left
                    · intro w' hw'; go_simp; rfl
                    simp only [Act.put, List.setIfInBounds_toArray, List.set_cons_zero, List.set_cons_succ]
                    refine RW.take (v := ?_) hSm (by kernel_rfl) (by kernel_rfl) ?_ ?_
                    rotate_left
                    · intro w' hw'; go_simp; rfl
                    simp only [Act.put, List.setIfInBounds_toArray, List.set_cons_zero, List.set_cons_succ]
                    refine RW.take (v := ?_) hSm (by kernel_rfl) (by kernel_rfl) ?_ ?_
                    rotate_left
                    · intro w' hw'; go_simp; rfl
                    simp only [Act.put, List.setIfInBounds_toArray, List.set_cons_zero, List.set_cons_succ]
                    refine RW.take (v := ?_) hSm (by kernel_rfl) (by kernel_rfl) ?_ ?_
                    rotate_left
                    · intro w' hw'; go_simp; rfl
                    simp only [Act.put, List.setIfInBounds_toArray, List.set_cons_zero, List.set_cons_succ]
                    refine RW.take (v := ?_) hSm (by kernel_rfl) (by kernel_rfl) ?_ ?_
                    rotate_left
                    · intro w' hw'; go_simp; rfl
                    simp only [Act.put, List.setIfInBounds_toArray, List.set_cons_zero, List.set_cons_succ]
                    refine RW.take (v := ?_) hSm (by kernel_rfl) (by kernel_rfl) ?_ ?_
                    rotate_left
                    · intro w' hw'; go_simp; rfl
                    simp only [Act.put, List.setIfInBounds_toArray, List.set_cons_zero, List.set_cons_succ]
                    refine RW.take (v := ?_) hSm (by kernel_rfl) (by kernel_rfl) ?_ ?_
                    rotate_left
                    · intro w' hw'; go_simp; rfl
                    simp only [Act.put, List.setIfInBounds_toArray, List.set_cons_zero, List.set_cons_succ]
                    refine RW.take (v := ?_) hSm (by kernel_rfl) (by kernel_rfl) ?_ ?_
                    rotate_left
                    · intro w' hw'; go_simp; rfl
                    simp only [Act.put, List.setIfInBounds_toArray, List.set_cons_zero, List.set_cons_succ]
                    refine RW.take (v := ?_) hSm (by kernel_rfl) (by kernel_rfl) ?_ ?_
                    rotate_left
                    · intro w' hw'; go_simp; rfl
                    simp only [Act.put, List.setIfInBounds_toArray, List.set_cons_zero, List.set_cons_succ]
                    refine RW.take (v := ?_) hSm (by kernel_rfl) (by kernel_rfl) ?_ ?_
                    rotate_left
                    · intro w' hw'; go_simp; rfl
                    simp only [Act.put, List.setIfInBounds_toArray, List.set_cons_zero, List.set_cons_succ]
                    refine RW.take (v := ?_) hSm (by kernel_rfl) (by kernel_rfl) ?_ ?_
                    rotate_left
                    · intro w' hw'; go_simp; rfl
                    simp only [Act.put, List.setIfInBounds_toArray, List.set_cons_zero, List.set_cons_succ]
                    refine RW.take (v := ?_) hSm (by kernel_rfl) (by kernel_rfl) ?_ ?_
                    rotate_left
                    · intro w' hw'; go_simp; rfl
                    simp only [Act.put, List.setIfInBounds_toArray, List.set_cons_zero, List.set_cons_succ]
                    refine RW.keep ?_
                    simp only [List.nil_append, List.cons_append]
                    refine RW.chain (by kernel_rfl) (by kernel_rfl) (fun f hf => (by cases hf)) hSm ?_
                    refine wpCh_step (by kernel_rfl) (fun wm1 hxm1 Km hKm => ?_)
                    have hem1 : Ext wr wm1 := Ext.trans hSm hxm1
                    obtain ⟨hcm1, hfm1⟩ := bcell hem1
                    go_simp
                    refine (common_any _ _ _ _ _).mono ?_
                    rintro e wm2 ⟨rfl, hbm2⟩
                    have hem2 : Ext wr wm2 := Ext.trans hem1 hbm2
                    refine hKm _ _ hbm2 ?_
                    clear hKm hcm1 hfm1
                    try simp only [Act.put, List.setIfInBounds_toArray, List.set_cons_zero, List.set_cons_succ]
                    refine wpCh_nil (fun wm hxm DD hDD hOO hem => flOk0 (R := fun a => wpList _ _ _ _ a _) ?_ DD hDD hOO)
                    try simp only [List.drop_succ_cons, List.drop_zero, Act.put, List.setIfInBounds_toArray, List.set_cons_zero, List.set_cons_succ]
                    have hym := Ext.trans hem2 hxm
                    obtain ⟨hcm, hfm⟩ := bcell hem
                    go_wp2
                    refine NP.normal ?_
                    obtain ⟨U1, hU1⟩ : ∃ U1, U1 = (wm.setCell ⟨gk, p * 14 + 4, none⟩ (.int .i64 (max (f p 4) (overLo f C p + f p 5)))).setCell ⟨gk, p * 14 + 4 + 1, none⟩ (.int .i64 (min (f p 5) (overHi f C p + f p 4))) := ⟨_, rfl⟩
                    rw [← hU1]
                    have hsz0 := hem.size
                    have A01 : Hid (Below w.heap.size w U1) := hid (by rw [hU1]; exact ((H1.out.trans (hem.mono H1.out.size)).setCell (by simp; omega) _).setCell (by simp; omega) _)
                    have A02 := hid (show Blk U1 (w.heap.size + 1) 31 #[.slice (some ⟨gc, 0, none⟩) (k + 1) cv] by rw [hU1]; exact ((H2.out.blw hem).far (by simp; omega) _).far (by simp; omega) _)
                    have A03 := hid (show Own U1 (w.heap.size + 2) 36 2 (.slice (some ⟨gc, 0, none⟩) (k + 1) cv) (k + 1) (fun i j => .int .i64 (if j = 0 then (C i).1 else (C i).2)) by rw [hU1]; exact ((H3.out.below hem).far (by simp [Value.ownBlock]; omega) _).far (by simp [Value.ownBlock]; omega) _)
                    have A04 := hid (show Own U1 (w.heap.size + 2) 71 14 (.slice (some ⟨gk, 0, none⟩) k c3) k (fun i j => .int .i64 (if i = p then kn1 f C p 2 j else kst f C p i j)) by
                      rw [hU1]
                      refine (((H4.out.below hem).set p 4 hlt (by omega) _).set p 5 hlt (by omega) _).congr fun i j hi hj => ?_
                      by_cases hip : i = p
                      · subst hip
                        by_cases hj1 : j = 5
                        · subst hj1; simp [kn, kn1, known]
                        · by_cases hj0 : j = 4
                          · subst hj0; simp [kn, kn1, known]
                          · simp only [hj1, hj0, and_false, if_false, if_true]; rw [kn1_step f C i 2 j (by omega) (by omega)]
                      · simp [hip])
                    have A05 := hid (show U1.heap[D]? = some (.deferred (some [])) by rw [hU1]; exact obj_setCell (obj_setCell (obj_blw H5.out hem) rfl _ _) rfl _ _)
                    have A06 := hid (show Blk U1 w4.heap.size 133 #[.pointer (some ⟨gk, p * 14, none⟩), .pointer (some ⟨gk, p * 14 + 2, none⟩), .pointer (some ⟨gk, p * 14 + 4, none⟩)] by rw [hU1]; exact ((H6.out.blw hem).far (by simp; omega) _).far (by simp; omega) _)
                    have A07 := hid (show Blk U1 (w4.heap.size + 1) 133 #[.pointer (some ⟨gk, p * 14 + 6, none⟩), .pointer (some ⟨gk, p * 14 + 8, none⟩), .pointer (some ⟨gk, p * 14 + 10, none⟩)] by rw [hU1]; exact ((H7.out.blw hem).far (by simp; omega) _).far (by simp; omega) _)
                    have A08 := hid (show Blk U1 bu0 36 #[.int .i64 (overLo f C p), .int .i64 (overHi f C p)] by rw [hU1]; exact ((H8.out.blw hem).far (by simp; omega) _).far (by simp; omega) _)
                    clear hU1 hem hcm hfm hym hxm
                    obtain ⟨o0, o1, of0, of1⟩ := A08.out.c2
                    obtain ⟨t0, t1, t2, tf0, tf1, tf2⟩ := A07.out.c3
                    obtain ⟨gk', ck', hvk, _, _, _, hkc', hkf'⟩ := A04.out.form1 (by omega)
                    obtain ⟨rfl, rfl⟩ : gk = gk' ∧ c3 = ck' := by simp at hvk; exact hvk
                    have x2 : U1.cell? ⟨gk, p * 14 + 10, none⟩ = some (.int .i64 (f p 10)) := by simpa [kn1] using hkc' p 10 hlt (by omega)
                    have x3 : U1.cell? ⟨gk, p * 14 + 10 + 1, none⟩ = some (.int .i64 (f p 11)) := by simpa [kn1] using hkc' p 11 hlt (by omega)
                    have xf2 : U1.frozen? ⟨gk, p * 14 + 10, none⟩ = false := hkf' _
                    have xf3 : U1.frozen? ⟨gk, p * 14 + 10 + 1, none⟩ = false := hkf' _
                    have L6' := A06.out.lt
                    have L7' := A07.out.lt
                    have L8' := A08.out.lt
                    have L9' : gk < U1.heap.size := cell_lt x2
                    have KR' := keep_rule U1
                    have KRf' := keep_rulef U1
                    clear hkc' hkf' hvk
                    go_wp2
                    refine np_region ?_
                    refine RW.begin (n := 28) (by kernel_rfl) (by kernel_rfl) NP.pan (fun hSn => ?_)
                    simp only [List.take_succ_cons, List.take_zero]
                    refine RW.take (v := ?_) hSn (by kernel_rfl) (by kernel_rfl) ?_ ?_
                    rotate_left
                    · intro w' hw'; go_simp; rfl
                    simp only [Act.put, List.setIfInBounds_toArray, List.set_cons_zero, List.set_cons_succ]
                    refine RW.take (v := ?_) hSn (by kernel_rfl) (by kernel_rfl) ?_ ?_
                    rotate_left
                    · intro w' hw'; go_simp; rfl
                    simp only [Act.put, List.setIfInBounds_toArray, List.set_cons_zero, List.set_cons_succ]
                    refine RW.take (v := ?_) hSn (by kernel_rfl) (by kernel_rfl) ?_ ?_
                    rotate_left
                    · intro w' hw'; go_simp; rfl
                    simp only [Act.put, List.setIfInBounds_toArray, List.set_cons_zero, List.set_cons_succ]
                    refine RW.take (v := ?_) hSn (by kernel_rfl) (by kernel_rfl) ?_ ?_
                    rotate_left
                    · intro w' hw'; go_simp; rfl
                    simp only [Act.put, List.setIfInBounds_toArray, List.set_cons_zero, List.set_cons_succ]
                    refine RW.take (v := ?_) hSn (by kernel_rfl) (by kernel_rfl) ?_ ?_
                    rotate_left
                    · intro w' hw'; go_simp; rfl
                    simp only [Act.put, List.setIfInBounds_toArray, List.set_cons_zero, List.set_cons_succ]
                    refine RW.take (v := ?_) hSn (by kernel_rfl) (by kernel_rfl) ?_ ?_
                    rotate_left
                    · intro w' hw'; go_simp; rfl
                    simp only [Act.put, List.setIfInBounds_toArray, List.set_cons_zero, List.set_cons_succ]
                    refine RW.take (v := ?_) hSn (by kernel_rfl) (by kernel_rfl) ?_ ?_
                    rotate_left
                    · intro w' hw'; go_simp; rfl
                    simp only [Act.put, List.setIfInBounds_toArray, List.set_cons_zero, List.set_cons_succ]
                    refine RW.take (v := ?_) hSn (by kernel_rfl) (by kernel_rfl) ?_ ?_
                    rotate_left
                    · intro w' hw'; go_simp; rfl
                    simp only [Act.put, List.setIfInBounds_toArray, List.set_cons_zero, List.set_cons_succ]
                    refine RW.take (v := ?_) hSn (by kernel_rfl) (by kernel_rfl) ?_ ?_
                    rotate_left
                    · intro w' hw'; go_simp; rfl
                    simp only [Act.put, List.setIfInBounds_toArray, List.set_cons_zero, List.set_cons_succ]
                    refine RW.take (v := ?_) hSn (by kernel_rfl) (by kernel_rfl) ?_ ?_
                    rotate_left
                    · intro w' hw'; go_simp; rfl
                    simp only [Act.put, List.setIfInBounds_toArray, List.set_cons_zero, List.set_cons_succ]
                    refine RW.take (v := ?_) hSn (by kernel_rfl) (by kernel_rfl) ?_ ?_
                    rotate_left
                    · intro w' hw'; go_simp; rfl
                    simp only [Act.put, List.setIfInBounds_toArray, List.set_cons_zero, List.set_cons_succ]
                    refine RW.take (v := ?_) hSn (by kernel_rfl) (by kernel_rfl) ?_ ?_
                    rotate_left
                    · intro w' hw'; go_simp; rfl
                    simp only [Act.put, List.setIfInBounds_toArray, List.set_cons_zero, List.set_cons_succ]
                    refine RW.take (v := ?_) hSn (by kernel_rfl) (by kernel_rfl) ?_ ?_
                    rotate_left
                    · intro w' hw'; go_simp; rfl
                    simp only [Act.put, List.setIfInBounds_toArray, List.set_cons_zero, List.set_cons_succ]
                    refine RW.take (v := ?_) hSn (by kernel_rfl) (by kernel_rfl) ?_ ?_
                    rotate_left
                    · intro w' hw'; go_simp; rfl
                    simp only [Act.put, List.setIfInBounds_toArray, List.set_cons_zero, List.set_cons_succ]
                    refine RW.take (v := ?_) hSn (by kernel_rfl) (by kernel_rfl) ?_ ?_
                    rotate_left
                    · intro w' hw'; go_simp; rfl
                    simp only [Act.put, List.setIfInBounds_toArray, List.set_cons_zero, List.set_cons_succ]
                    refine RW.take (v := ?_) hSn (by kernel_rfl) (by kernel_rfl) ?_ ?_
                    rotate_left
                    · intro w' hw'; go_simp; rfl
                    simp only [Act.put, List.setIfInBounds_toArray, List.set_cons_zero, List.set_cons_succ]
                    refine RW.take (v := ?_) hSn (by kernel_rfl) (by kernel_rfl) ?_ ?_
                    rotate_left
                    · intro w' hw'; go_simp; rfl
                    simp only [Act.put, List.setIfInBounds_toArray, List.set_cons_zero, List.set_cons_succ]
                    refine RW.take (v := ?_) hSn (by kernel_rfl) (by kernel_rfl) ?_ ?_
                    rotate_left
                    · intro w' hw'; go_simp; rfl
                    simp only [Act.put, List.setIfInBounds_toArray, List.set_cons_zero, List.set_cons_succ]
                    refine RW.take (v := ?_) hSn (by kernel_rfl) (by kernel_rfl) ?_ ?_
                    rotate_left
                    · intro w' hw'; go_simp; rfl
                    simp only [Act.put, List.setIfInBounds_toArray, List.set_cons_zero, List.set_cons_succ]
                    refine RW.take (v := ?_) hSn (by kernel_rfl) (by kernel_rfl) ?_ ?_
                    rotate_left
                    · intro w' hw'; go_simp; rfl
                    simp only [Act.put, List.setIfInBounds_toArray, List.set_cons_zero, List.set_cons_succ]
                    refine RW.take (v := ?_) hSn (by kernel_rfl) (by kernel_rfl) ?_ ?_
                    rotate_left
                    · intro w' hw'; go_simp; rfl
                    simp only [Act.put, List.setIfInBounds_toArray, List.set_cons_zero, List.set_cons_succ]
                    refine RW.take (v := ?_) hSn (by kernel_rfl) (by kernel_rfl) ?_ ?_
                    rotate_left
                    · intro w' hw'; go_simp; rfl
                    simp only [Act.put, List.setIfInBounds_toArray, List.set_cons_zero, List.set_cons_succ]
                    refine RW.take (v := ?_) hSn (by kernel_rfl) (by kernel_rfl) ?_ ?_
                    rotate_left
                    · intro w' hw'; go_simp; rfl
                    simp only [Act.put, List.setIfInBounds_toArray, List.set_cons_zero, List.set_cons_succ]
                    refine RW.take (v := ?_) hSn (by kernel_rfl) (by kernel_rfl) ?_ ?_
                    rotate_left
                    · intro w' hw'; go_simp; rfl
                    simp only [Act.put, List.setIfInBounds_toArray, List.set_cons_zero, List.set_cons_succ]
                    refine RW.take (v := ?_) hSn (by kernel_rfl) (by kernel_rfl) ?_ ?_
                    rotate_left
                    · intro w' hw'; go_simp; rfl
                    simp only [Act.put, List.setIfInBounds_toArray, List.set_cons_zero, List.set_cons_succ]
                    refine RW.take (v := ?_) hSn (by kernel_rfl) (by kernel_rfl) ?_ ?_
                    rotate_left
                    · intro w' hw'; go_simp; rfl
                    simp only [Act.put, List.setIfInBounds_toArray, List.set_cons_zero, List.set_cons_succ]
                    refine RW.take (v := ?_) hSn (by kernel_rfl) (by kernel_rfl) ?_ ?_
                    rotate_left
                    · intro w' hw'; go_simp; rfl
                    simp only [Act.put, List.setIfInBounds_toArray, List.set_cons_zero, List.set_cons_succ]
                    refine RW.keep ?_
                    simp only [List.nil_append, List.cons_append]
                    refine RW.chain (by kernel_rfl) (by kernel_rfl) (fun f hf => (by cases hf)) hSn ?_
                    refine wpCh_step (by kernel_rfl) (fun wn1 hxn1 Kn hKn => ?_)
                    have hen1 : Ext U1 wn1 := Ext.trans hSn hxn1
                    obtain ⟨hcn1, hfn1⟩ := bcell hen1
                    go_simp
                    refine (common_any _ _ _ _ _).mono ?_
                    rintro e wn2 ⟨rfl, hbn2⟩
                    have hen2 : Ext U1 wn2 := Ext.trans hen1 hbn2
                    refine hKn _ _ hbn2 ?_
                    clear hKn hcn1 hfn1
                    try simp only [Act.put, List.setIfInBounds_toArray, List.set_cons_zero, List.set_cons_succ]
                    refine wpCh_nil (fun wn hxn DD hDD hOO hen => flOk0 (R := fun a => wpList _ _ _ _ a _) ?_ DD hDD hOO)
                    try simp only [List.drop_succ_cons, List.drop_zero, Act.put, List.setIfInBounds_toArray, List.set_cons_zero, List.set_cons_succ]
                    have hyn := Ext.trans hen2 hxn
                    obtain ⟨hcn, hfn⟩ := bcell hen
                    go_wp2
                    refine NP.normal ?_
                    obtain ⟨U2, hU2⟩ : ∃ U2, U2 = (wn.setCell ⟨gk, p * 14 + 10, none⟩ (.int .i64 (max (f p 10) (f p 11 - overHi f C p)))).setCell ⟨gk, p * 14 + 10 + 1, none⟩ (.int .i64 (min (f p 11) (f p 10 - overLo f C p))) := ⟨_, rfl⟩
                    rw [← hU2]
                    have hsz1 := hen.size
                    have A11 : Hid (Below w.heap.size w U2) := hid (by rw [hU2]; exact ((A01.out.trans (hen.mono A01.out.size)).setCell (by simp; omega) _).setCell (by simp; omega) _)
                    have A12 := hid (show Blk U2 (w.heap.size + 1) 31 #[.slice (some ⟨gc, 0, none⟩) (k + 1) cv] by rw [hU2]; exact ((A02.out.blw hen).far (by simp; omega) _).far (by simp; omega) _)
                    have A13 := hid (show Own U2 (w.heap.size + 2) 36 2 (.slice (some ⟨gc, 0, none⟩) (k + 1) cv) (k + 1) (fun i j => .int .i64 (if j = 0 then (C i).1 else (C i).2)) by rw [hU2]; exact ((A03.out.below hen).far (by simp [Value.ownBlock]; omega) _).far (by simp [Value.ownBlock]; omega) _)
                    have A14 := hid (show Own U2 (w.heap.size + 2) 71 14 (.slice (some ⟨gk, 0, none⟩) k c3) k (fun i j => .int .i64 (if i = p then kn f C p (2 + 1) j else kst f C p i j)) by
                      rw [hU2]
                      refine (((A04.out.below hen).set p 10 hlt (by omega) _).set p 11 hlt (by omega) _).congr fun i j hi hj => ?_
                      by_cases hip : i = p
                      · subst hip
                        by_cases hj1 : j = 11
                        · subst hj1; simp [kn, kn1, known]
                        · by_cases hj0 : j = 10
                          · subst hj0; simp [kn, kn1, known]
                          · simp only [hj1, hj0, and_false, if_false, if_true]; rw [kn_step f C i 2 j (by omega) (by omega)]
                      · simp [hip])
                    have A15 := hid (show U2.heap[D]? = some (.deferred (some [])) by rw [hU2]; exact obj_setCell (obj_setCell (obj_blw A05.out hen) rfl _ _) rfl _ _)
                    have A16 := hid (show Blk U2 w4.heap.size 133 #[.pointer (some ⟨gk, p * 14, none⟩), .pointer (some ⟨gk, p * 14 + 2, none⟩), .pointer (some ⟨gk, p * 14 + 4, none⟩)] by rw [hU2]; exact ((A06.out.blw hen).far (by simp; omega) _).far (by simp; omega) _)
                    have A17 := hid (show Blk U2 (w4.heap.size + 1) 133 #[.pointer (some ⟨gk, p * 14 + 6, none⟩), .pointer (some ⟨gk, p * 14 + 8, none⟩), .pointer (some ⟨gk, p * 14 + 10, none⟩)] by rw [hU2]; exact ((A07.out.blw hen).far (by simp; omega) _).far (by simp; omega) _)
                    have A18 := hid (show Blk U2 bu0 36 #[.int .i64 (overLo f C p), .int .i64 (overHi f C p)] by rw [hU2]; exact ((A08.out.blw hen).far (by simp; omega) _).far (by simp; omega) _)
                    clear hU2 hen hcn hfn hyn hxn
                    go_wp2
                    go_roundw
                    case rel => exact ⟨2 + 1, by omega, by go_num, A11.out, A12.out, A13.out, A14.out, A15.out, A16.out, A17.out, A18.out⟩
                    case measure => simp [intOf]
                  · obtain ⟨y1, yf1⟩ := v2.c1
                    obtain ⟨gc', cc', hvg, _, hgl5, _, hgc, _⟩ := v3.form1 (by omega)
                    obtain ⟨rfl, rfl⟩ : gc = gc' ∧ cv = cc' := by simp at hvg; exact hvg
                    have z3 : wr.cell? ⟨gc, (p + 1) * 2, none⟩ = some (.int .i64 (C (p + 1)).1) := by simpa using hgc (p + 1) 0 (by omega) (by omega)
                    have z4 : wr.cell? ⟨gc, (p + 1) * 2 + 1, none⟩ = some (.int .i64 (C (p + 1)).2) := by simpa using hgc (p + 1) 1 (by omega) (by omega)
                    have x0 : wr.cell? ⟨gk, p * 14 + 12, none⟩ = some (.int .i64 (kn f C p 3 12)) := by simpa using hkc' p 12 hlt (by omega)
                    have x1 : wr.cell? ⟨gk, p * 14 + 12 + 1, none⟩ = some (.int .i64 (kn f C p 3 13)) := by simpa using hkc' p 13 hlt (by omega)
                    have xf0 : wr.frozen? ⟨gk, p * 14 + 12, none⟩ = false := hkf' _
                    have xf1 : wr.frozen? ⟨gk, p * 14 + 12 + 1, none⟩ = false := hkf' _
                    clear v1 v2 v3 v4 v5 v6 v7 v8 hkf' hkc' hvg hgc
                    go_wp2
                    go_roundw
                    case rel =>
                      refine ⟨p + 1, by omega, by go_num, (H1.out.setCell (by simp; omega) _).setCell (by simp; omega) _, (H2.out.far (by simp; omega) _).far (by simp; omega) _, (H3.out.far (by simp [Value.ownBlock]; omega) _).far (by simp [Value.ownBlock]; omega) _, ((H4.out.set p 12 hlt (by omega) _).set p 13 hlt (by omega) _).congr fun i j hi hj => ?_, obj_setCell (obj_setCell H5.out rfl _ _) rfl _ _⟩
                      by_cases hip : i = p
                      · subst hip
                        by_cases hj1 : j = 13
                        · subst hj1; simp [kst, known]
                        · by_cases hj0 : j = 12
                          · subst hj0; simp [kst, known]
                          · simp only [hj1, hj0, and_false, if_false, if_true]
                            rw [kn_three _ _ _ _ (by omega)]
                            simp [kst]
                      · have e : (i < p + 1) = (i < p) := by simp; omega
                        simp [hip, kst, e]
                    case measure => simp [intOf]; omega
              · obtain rfl : p = k := by omega
                obtain ⟨y1, yf1⟩ := q2.c1
                have R1 := hid q1
                have R2 := hid q2
                have R3 := hid q3
                have R4 := hid q4
                have R5 := hid q5
                clear q1 q2 q3 q4 q5
                go_wp2
                have S2 := (R2.out.set1 (.slice (some ⟨gc, 0, none⟩) (p + 1) cv)).putObj (obj_setCell R5.out rfl ⟨w.heap.size + 1, 0, none⟩ (.slice (some ⟨gc, 0, none⟩) (p + 1) cv)) rfl (.deferred none)
                obtain ⟨y2, yf2⟩ := S2.c1
                refine ret_marks (v := .tuple #[.slice (some ⟨gc, 0, none⟩) (p + 1) cv, .slice A3 p c3, .int .i64 0, .int .i64 0]) (obj_setCell R5.out rfl _ _) (by simp [results, Tryz.results30, go_sem, y2]) ⟨?_, ?_⟩
                · exact Below.putObj (R1.out.setCell (by simp) _) HD.out _
                · have hno : tErr a b p f = none := by
                    simp only [tErr, HS.out, hn40, if_false, Bool.true_eq_false, firstNot_none (p := fun i => rowOk (f i)) Hrows.out]
                    rw [firstNot_none (p := fun i => decide ((cnt a b f (i + 1)).1 ≤ (cnt a b f (i + 1)).2)) Hcs.out]
                  rw [hno]
                  refine ⟨_, _, rfl, ?_, ?_⟩
                  · rw [← HC.out]
                    exact ((R3.out.far (by simp [Value.ownBlock]; omega) _).putObj (obj_setCell R5.out rfl _ _) rfl _).mono (by omega)
                  · rw [← HC.out]
                    refine (((R4.out.far (fun e => absurd (R4.out.blk e).1 (by simp)) _).putObj (obj_setCell R5.out rfl _ _) rfl _).mono (by omega)).congr fun i j hi hj => ?_
                    simp [kst, hi]
end Go.Proofs.YtbenhafhklfhmaaGreat
