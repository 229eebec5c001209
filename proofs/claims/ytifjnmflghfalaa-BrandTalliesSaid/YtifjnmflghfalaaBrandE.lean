/-
  The small calls of brand.Tally, in the forms in which it makes them; slices.Clone at rows. Numbers are bounded where they are added.
-/
import Derived.Test.YtifjnmflghfalaaBrandD
import Derived.Test.YtifjnmflghfalaaOwn
import Derived.Test.YtifjnmflghfalaaTally
namespace Go.Proofs.Ytifjnmflghfalaa
set_option linter.all false
set_option linter.unusedVariables false
set_option linter.unusedSimpArgs false
open Go.RowKit
theorem proper_one (a b : Int) (g : Nat) (w : World) (h : Blk w g 23 #[.int .i64 a, .int .i64 b]) :
    Calls Try.prog 21 #[.int .i64 0, .int .i64 100000, .slice (some ⟨g, 0, none⟩) 1 1] w (Ret w (.bool (spanB a b))) := by
  have := proper_any 0 100000 (some ⟨g, 0, none⟩) 1 1 (fun _ j => if j = 0 then a else b) w (Rd.of_blk h rfl fun i j hi hj => by
    have h2 : j = 0 ∨ j = 1 := by omega
    obtain rfl : i = 0 := by omega
    rcases h2 with rfl | rfl <;> rfl) (by omega)
  have e : properB 0 100000 1 (fun _ j => if j = 0 then a else b) = spanB a b := by simp [properB, allB, spanB, List.range_succ]
  rwa [e] at this
theorem proper_row (r : Nat → Int) (g : Nat) (w : World) (h : Blk w g 23 #[.int .i64 (r 0), .int .i64 (r 1), .int .i64 (r 2), .int .i64 (r 3), .int .i64 (r 4), .int .i64 (r 5), .int .i64 (r 6), .int .i64 (r 7), .int .i64 (r 8), .int .i64 (r 9), .int .i64 (r 10), .int .i64 (r 11), .int .i64 (r 12), .int .i64 (r 13)]) :
    Calls Try.prog 21 #[.int .i64 0, .int .i64 100000, .slice (some ⟨g, 0, none⟩) 7 7] w (Ret w (.bool (rowOk r))) :=
  proper_any 0 100000 (some ⟨g, 0, none⟩) 7 7 (fun i j => r (2 * i + j)) w (Rd.of_blk h rfl fun i j hi hj => by
    have h2 : j = 0 ∨ j = 1 := by omega
    have h3 : i = 0 ∨ i = 1 ∨ i = 2 ∨ i = 3 ∨ i = 4 ∨ i = 5 ∨ i = 6 := by omega
    rcases h3 with rfl | rfl | rfl | rfl | rfl | rfl | rfl <;> rcases h2 with rfl | rfl <;> rfl) (by omega)
theorem sum_two (a b c d : Int) (g : Nat) (w : World) (h : Blk w g 23 #[.int .i64 a, .int .i64 b, .int .i64 c, .int .i64 d]) (ha : Small 100000000 a) (hb : Small 100000000 b) (hc : Small 100000000 c) (hd : Small 100000000 d) :
    Calls Try.prog 23 #[.slice (some ⟨g, 0, none⟩) 2 2] w (Ret w (.agg #[.int .i64 (a + c), .int .i64 (b + d)])) := by
  have := sum_any (some ⟨g, 0, none⟩) 2 2 (fun i j => if i = 0 then (if j = 0 then a else b) else (if j = 0 then c else d)) w (Rd.of_blk h rfl fun i j hi hj => by
    have h2 : j = 0 ∨ j = 1 := by omega
    have h3 : i = 0 ∨ i = 1 := by omega
    rcases h3 with rfl | rfl <;> rcases h2 with rfl | rfl <;> rfl) (by omega) (fun i j hi hj => by split <;> split <;> assumption)
  simpa [sumI] using this
theorem sum_three (a b c d p q : Int) (g : Nat) (w : World) (h : Blk w g 23 #[.int .i64 a, .int .i64 b, .int .i64 c, .int .i64 d, .int .i64 p, .int .i64 q]) (ha : Small 100000000 a) (hb : Small 100000000 b) (hc : Small 100000000 c) (hd : Small 100000000 d) (hp : Small 100000000 p) (hq : Small 100000000 q) :
    Calls Try.prog 23 #[.slice (some ⟨g, 0, none⟩) 3 3] w (Ret w (.agg #[.int .i64 (a + c + p), .int .i64 (b + d + q)])) := by
  have := sum_any (some ⟨g, 0, none⟩) 3 3 (fun i j => if i = 0 then (if j = 0 then a else b) else if i = 1 then (if j = 0 then c else d) else (if j = 0 then p else q)) w (Rd.of_blk h rfl fun i j hi hj => by
    have h2 : j = 0 ∨ j = 1 := by omega
    have h3 : i = 0 ∨ i = 1 ∨ i = 2 := by omega
    rcases h3 with rfl | rfl | rfl <;> rcases h2 with rfl | rfl <;> rfl) (by omega) (fun i j hi hj => by split <;> (try split) <;> (try split) <;> assumption)
  simpa [sumI] using this
theorem T_span : ElemT Try.prog 25 23 2 16 := elemT (z := .agg #[.int .i64 0, .int .i64 0]) Try.underlying25 (by kernel_rfl) rfl (by decide)
theorem T_row : ElemT Try.prog 24 34 14 112 := elemT (z := .agg #[.int .i64 0, .int .i64 0, .int .i64 0, .int .i64 0, .int .i64 0, .int .i64 0, .int .i64 0, .int .i64 0, .int .i64 0, .int .i64 0, .int .i64 0, .int .i64 0, .int .i64 0, .int .i64 0]) Try.underlying24 (by kernel_rfl) rfl (by decide)
theorem span1 (x y : Int) : ∀ i j, i < 1 → j < 2 → (#[.int .i64 x, .int .i64 y] : Array Value).getD (i * 2 + j) undef = .int .i64 (if j = 0 then x else y) := fun i j hi hj => by
  have h2 : j = 0 ∨ j = 1 := by omega
  obtain rfl : i = 0 := by omega
  rcases h2 with rfl | rfl <;> rfl
theorem cat_zero (f g : Nat → Nat → Value) : cat 0 f g = g := by funext i j; simp [cat]
/-- append([]T{}, xs...) at rows: new memory. -/
theorem clone_row (A : Option Addr) (n c : Nat) (f : Nat → Nat → Value) (w : World) (h : Rd w 14 A n f) (h1 : ∀ i j, i < n → j < 14 → (f i j).oneCell' = true) (hn : n ≤ 1000000) (hA : A = none → c = 0 ∧ n = 0) :
    Calls Try.prog 27 #[.slice A n c] w fun e w' => ∃ v, e = .returned v ∧ Own w' w.heap.size 34 14 v n f ∧ Below w.heap.size w w' := by
  have he := fun w' => Lib.run_eql_slice_nil (P := Try.prog) w' 24 34 A n c 0 0 Try.underlying24
  cases A with
  | none =>
    obtain ⟨rfl, rfl⟩ := hA rfl
    go_enter Try.func27, Try.ntmps27
    go_wp2
    go_ret
    exact ⟨_, rfl, Own.nil _ _ _ _ _, Below.refl _ _⟩
  | some ad =>
    go_enter Try.func27, Try.ntmps27
    go_wp2_with (at_builtin; refine wpList_app rfl _ _ T_row rfl (n := 0) (m := n) (f := fun _ _ => undef) rfl (Own.empty (Blk.new' (g := w.heap.size) rfl) (Nat.le_refl _) _) rfl (h.alloc _) h1 (by omega) (by decide) (by simp) ?_; intro v' w1 hown hg hb)
    go_ret
    rw [Nat.zero_add, cat_zero] at hown
    exact ⟨_, rfl, hown, ((Below.refl _ _).alloc (Nat.le_refl _) _).grown hg (by simp) (fun k e => by cases e; exact Nat.le_refl _)⟩
end Go.Proofs.Ytifjnmflghfalaa
