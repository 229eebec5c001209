/-
  Library calls on lists of numbers and spans (slices.IndexFunc, slices.ContainsFunc). No condition beyond the lengths.
-/
import Derived.Test.YtifjnmflghfalaaLib
namespace Go.Proofs.Ytifjnmflghfalaa
set_option linter.all false
set_option linter.unusedVariables false
set_option linter.unusedSimpArgs false
open Go.RowKit
set_option maxHeartbeats 400000 in
theorem indexFunc_int (A : Option Addr) (n c : Nat) (f : Nat → Nat → Value) (g : FuncId) (caps : Array Value) (w : World) (p : Nat → Bool) (h : Rd w 1 A n f) (hn : n ≤ 9223372036854775807) (hg : Enters Try.prog g)
    (hp : ∀ i, i < n → ∀ w1, Below w.heap.size w w1 → Calls Try.prog g (#[f i 0] ++ caps) w1 (Ret w1 (.bool (p i)))) :
    Calls Try.prog 66 #[.slice A n c, .func (.func g) #[] caps] w fun e w' => ∃ r : Int, e = .returned (.int .i64 r) ∧ decide (0 ≤ r) = anyB n p ∧ Below w.heap.size w w' := by
  have H := hid hp
  clear hp
  unfold Enters at hg
  have HR := hid h
  clear h
  go_enter Try.func66, Try.ntmps66
  go_wp2
  go_loopw [5, 8] (fun _ i wr => ∃ k : Nat, k ≤ n ∧ i = .int .i64 k ∧ Below w.heap.size w wr ∧ ∀ j, j < k → p j = false) (fun _ i _ => n - (intOf i).toNat)
  case atStart => exact ⟨0, by omega, rfl, Below.refl _ _, fun j hj => by omega⟩
  case round =>
    obtain ⟨k, hk, rfl, hbel, hall⟩ := hrel
    have Hall := hid hall
    clear hall
    by_cases hlt : k < n
    · have i1 : (0 : Int) ≤ (k : Int) := by omega
      have i2 : (k : Int) < (n : Int) := by omega
      obtain ⟨b, off, rfl, cB, cA⟩ := HR.out.atn hlt hbel
      have c0 : wr.cell? ⟨b, off + k, none⟩ = some (f k 0) := by simpa using cA 0 (by omega)
      clear cA
      cases hpk : p k
      all_goals
        have Hpk := hid hpk
        clear hpk
        go_wp2_with fail
        refine (H.out k hlt _ hbel).mono ?_
        rintro e w2 ⟨rfl, hb2⟩
        rw [Hpk.out]
        go_wp2
      · go_roundw
        case rel => exact ⟨k + 1, by omega, by go_num, hbel.trans (hb2.mono hbel.size), fun j hj => by
            by_cases hjk : j = k
            · subst hjk; exact Hpk.out
            · exact Hall.out j (by omega)⟩
        case measure => simp [intOf]; omega
      · go_ret
        refine ⟨k, rfl, ?_, hbel.trans (hb2.mono hbel.size)⟩
        have : anyB n p = true := anyB_iff.2 ⟨k, hlt, Hpk.out⟩
        rw [this]; simp
    · go_wp2
      go_ret
      refine ⟨-1, rfl, ?_, hbel⟩
      have : anyB n p = false := anyB_false.2 fun i hi => Hall.out i (by omega)
      rw [this]; simp
set_option maxHeartbeats 400000 in
theorem containsFunc_int (A : Option Addr) (n c : Nat) (f : Nat → Nat → Value) (g : FuncId) (caps : Array Value) (w : World) (p : Nat → Bool) (h : Rd w 1 A n f) (hn : n ≤ 9223372036854775807) (hg : Enters Try.prog g)
    (hp : ∀ i, i < n → ∀ w1, Below w.heap.size w w1 → Calls Try.prog g (#[f i 0] ++ caps) w1 (Ret w1 (.bool (p i)))) :
    Calls Try.prog 58 #[.slice A n c, .func (.func g) #[] caps] w (Ret w (.bool (anyB n p))) := by
  have HI := hid (indexFunc_int A n c f g caps w p h hn hg hp)
  clear hp h hg
  go_enter Try.func58, Try.ntmps58
  go_wp2_with fail
  refine HI.out.mono ?_
  rintro e w1 ⟨r, rfl, hr, hb⟩
  have Hr := hid hr
  clear hr
  go_wp2
  go_ret
  exact ⟨ret_bool Hr.out.symm, hb⟩
set_option maxHeartbeats 400000 in
theorem indexFunc_span (A : Option Addr) (n c : Nat) (f : Nat → Nat → Value) (g : FuncId) (caps : Array Value) (w : World) (p : Nat → Bool) (h : Rd w 2 A n f) (hn : n ≤ 9223372036854775807) (hg : Enters Try.prog g)
    (hp : ∀ i, i < n → ∀ w1, Below w.heap.size w w1 → Calls Try.prog g (#[.agg #[f i 0, f i 1]] ++ caps) w1 (Ret w1 (.bool (p i)))) :
    Calls Try.prog 57 #[.slice A n c, .func (.func g) #[] caps] w fun e w' => ∃ r : Int, e = .returned (.int .i64 r) ∧ decide (0 ≤ r) = anyB n p ∧ Below w.heap.size w w' := by
  have H := hid hp
  clear hp
  unfold Enters at hg
  have HR := hid h
  clear h
  go_enter Try.func57, Try.ntmps57
  go_wp2
  go_loopw [5, 8] (fun _ i wr => ∃ k : Nat, k ≤ n ∧ i = .int .i64 k ∧ Below w.heap.size w wr ∧ ∀ j, j < k → p j = false) (fun _ i _ => n - (intOf i).toNat)
  case atStart => exact ⟨0, by omega, rfl, Below.refl _ _, fun j hj => by omega⟩
  case round =>
    obtain ⟨k, hk, rfl, hbel, hall⟩ := hrel
    have Hall := hid hall
    clear hall
    by_cases hlt : k < n
    · have i1 : (0 : Int) ≤ (k : Int) := by omega
      have i2 : (k : Int) < (n : Int) := by omega
      obtain ⟨b, off, rfl, cB, cA⟩ := HR.out.atn hlt hbel
      have c0 : wr.cell? ⟨b, off + k * 2, none⟩ = some (f k 0) := by simpa using cA 0 (by omega)
      have c1 : wr.cell? ⟨b, off + k * 2 + 1, none⟩ = some (f k 1) := by simpa using cA 1 (by omega)
      clear cA
      cases hpk : p k
      all_goals
        have Hpk := hid hpk
        clear hpk
        go_wp2_with fail
        refine (H.out k hlt _ hbel).mono ?_
        rintro e w2 ⟨rfl, hb2⟩
        rw [Hpk.out]
        go_wp2
      · go_roundw
        case rel => exact ⟨k + 1, by omega, by go_num, hbel.trans (hb2.mono hbel.size), fun j hj => by
            by_cases hjk : j = k
            · subst hjk; exact Hpk.out
            · exact Hall.out j (by omega)⟩
        case measure => simp [intOf]; omega
      · go_ret
        refine ⟨k, rfl, ?_, hbel.trans (hb2.mono hbel.size)⟩
        have : anyB n p = true := anyB_iff.2 ⟨k, hlt, Hpk.out⟩
        rw [this]; simp
    · go_wp2
      go_ret
      refine ⟨-1, rfl, ?_, hbel⟩
      have : anyB n p = false := anyB_false.2 fun i hi => Hall.out i (by omega)
      rw [this]; simp
set_option maxHeartbeats 400000 in
theorem containsFunc_span (A : Option Addr) (n c : Nat) (f : Nat → Nat → Value) (g : FuncId) (caps : Array Value) (w : World) (p : Nat → Bool) (h : Rd w 2 A n f) (hn : n ≤ 9223372036854775807) (hg : Enters Try.prog g)
    (hp : ∀ i, i < n → ∀ w1, Below w.heap.size w w1 → Calls Try.prog g (#[.agg #[f i 0, f i 1]] ++ caps) w1 (Ret w1 (.bool (p i)))) :
    Calls Try.prog 46 #[.slice A n c, .func (.func g) #[] caps] w (Ret w (.bool (anyB n p))) := by
  have HI := hid (indexFunc_span A n c f g caps w p h hn hg hp)
  clear hp h hg
  go_enter Try.func46, Try.ntmps46
  go_wp2_with fail
  refine HI.out.mono ?_
  rintro e w1 ⟨r, rfl, hr, hb⟩
  have Hr := hid hr
  clear hr
  go_wp2
  go_ret
  exact ⟨ret_bool Hr.out.symm, hb⟩
end Go.Proofs.Ytifjnmflghfalaa
