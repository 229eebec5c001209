/-
  What a tally comes to: plain reckoning, no program in sight.
-/
import Derived.Test.YtifjnmflghfalaaBrandC
namespace Go.Proofs.Ytifjnmflghfalaa
set_option linter.all false
set_option linter.unusedVariables false
set_option linter.unusedSimpArgs false
def rowOk (r : Nat → Int) : Bool := properB 0 100000 7 fun i j => r (2 * i + j)
def spanB (a b : Int) : Bool := decide (a ≤ b) && decide (0 ≤ a) && decide (b ≤ 100000)
/-- The counts, forwards. -/
def cnt (a b : Int) (f : Nat → Nat → Int) : Nat → Int × Int
  | 0 => (a, b)
  | i + 1 => (max (f i 12) ((cnt a b f i).1 + growLo (f i) 3), min (f i 13) ((cnt a b f i).2 + growHi (f i) 3))
/-- One step back at index i. -/
def back1 (f : Nat → Nat → Int) (c : Nat → Int × Int) (i : Nat) : Nat → Int × Int := fun j =>
  if j = i then (max (c i).1 ((c (i + 1)).1 - growHi (f i) 3), min (c i).2 ((c (i + 1)).2 - growLo (f i) 3)) else c j
def backs (f : Nat → Nat → Int) (c : Nat → Int × Int) (l : List Nat) : Nat → Int × Int := l.foldl (back1 f) c
/-- The counts, forwards and back. -/
def counts (a b : Int) (f : Nat → Nat → Int) (n : Nat) : Nat → Int × Int := backs f (cnt a b f) (List.range n).reverse
def overLo (f : Nat → Nat → Int) (c : Nat → Int × Int) (i : Nat) : Int := (c (i + 1)).1 - (c i).2 - growHi (f i) 3
def overHi (f : Nat → Nat → Int) (c : Nat → Int × Int) (i : Nat) : Int := (c (i + 1)).2 - (c i).1 - growLo (f i) 3
/-- What is known of row i: cell j. -/
def known (f : Nat → Nat → Int) (c : Nat → Int × Int) (i j : Nat) : Int :=
  if j = 12 then (c (i + 1)).1 else if j = 13 then (c (i + 1)).2
  else if j < 6 then (if j % 2 = 0 then max (f i j) (overLo f c i + f i (j + 1)) else min (f i j) (overHi f c i + f i (j - 1)))
  else (if j % 2 = 0 then max (f i j) (f i (j + 1) - overHi f c i) else min (f i j) (f i (j - 1) - overLo f c i))
def firstNot (n : Nat) (p : Nat → Bool) : Option Nat := (List.range n).find? fun i => !p i
theorem firstNot_some {n k : Nat} {p : Nat → Bool} (hk : k < n) (h : p k = false) (hb : ∀ i, i < k → p i = true) : firstNot n p = some k := by
  unfold firstNot
  rw [List.find?_range_eq_some]
  exact ⟨by simp [h], by simpa using hk, fun j hj => by simp [hb j hj]⟩
theorem firstNot_none {n : Nat} {p : Nat → Bool} (hb : ∀ i, i < n → p i = true) : firstNot n p = none := by
  unfold firstNot
  rw [List.find?_range_eq_none]
  exact fun i hi => by simp [hb i hi]
/-- Where a tally fails, and how. -/
def tErr (a b : Int) (n : Nat) (f : Nat → Nat → Int) : Option (Nat × Int) :=
  if spanB a b = false then some (0, 2) else if 40 < n then some (0, 4) else match firstNot n fun i => rowOk (f i) with
    | some i => some (i, 24)
    | none => match firstNot n fun i => decide ((cnt a b f (i + 1)).1 ≤ (cnt a b f (i + 1)).2) with
      | some i => some (i, 25)
      | none => none
theorem rowOk_iff {r : Nat → Int} : rowOk r = true ↔ ∀ i, i < 7 → r (2 * i) ≤ r (2 * i + 1) ∧ 0 ≤ r (2 * i) ∧ r (2 * i + 1) ≤ 100000 := by
  unfold rowOk properB
  rw [allB_iff]
  exact ⟨fun h i hi => by have := h i hi; simp at this; exact ⟨this.1.1, this.1.2, this.2⟩, fun h i hi => by obtain ⟨a, b, c⟩ := h i hi; simp [a, b, c]⟩
theorem rowOk_bd {r : Nat → Int} (h : rowOk r = true) (j : Nat) (hj : j < 14) : 0 ≤ r j ∧ r j ≤ 100000 := by
  obtain ⟨a, b, c⟩ := rowOk_iff.1 h (j / 2) (by omega)
  rcases Nat.mod_two_eq_zero_or_one j with e | e
  · rw [show 2 * (j / 2) = j by omega] at a b c; omega
  · rw [show 2 * (j / 2) + 1 = j by omega] at a c; omega
theorem spanB_iff {a b : Int} : spanB a b = true ↔ a ≤ b ∧ 0 ≤ a ∧ b ≤ 100000 := by simp [spanB, and_assoc]
/-- The growth of a valid row. -/
theorem grow_bd {r : Nat → Int} (h : rowOk r = true) : -300000 ≤ growLo r 3 ∧ growLo r 3 ≤ 300000 ∧ -300000 ≤ growHi r 3 ∧ growHi r 3 ≤ 300000 := by
  have a0 := rowOk_bd h 0 (by omega)
  have a1 := rowOk_bd h 1 (by omega)
  have a2 := rowOk_bd h 2 (by omega)
  have a3 := rowOk_bd h 3 (by omega)
  have a4 := rowOk_bd h 4 (by omega)
  have a5 := rowOk_bd h 5 (by omega)
  have a6 := rowOk_bd h 6 (by omega)
  have a7 := rowOk_bd h 7 (by omega)
  have a8 := rowOk_bd h 8 (by omega)
  have a9 := rowOk_bd h 9 (by omega)
  have b0 := rowOk_bd h 10 (by omega)
  have b1 := rowOk_bd h 11 (by omega)
  simp only [growLo, growHi, Nat.mul_zero, Nat.zero_add, Nat.reduceMul, Nat.reduceAdd]
  omega
theorem cnt_bd {a b : Int} {f : Nat → Nat → Int} (hs : spanB a b = true) {k : Nat} (hr : ∀ i, i < k → rowOk (f i) = true) (hc : ∀ i, i < k → decide ((cnt a b f (i + 1)).1 ≤ (cnt a b f (i + 1)).2) = true) :
    0 ≤ (cnt a b f k).1 ∧ (cnt a b f k).1 ≤ (cnt a b f k).2 ∧ (cnt a b f k).2 ≤ 100000 := by
  cases k with
  | zero => obtain ⟨h1, h2, h3⟩ := spanB_iff.1 hs; exact ⟨h2, h1, h3⟩
  | succ k =>
    have h1 := of_decide_eq_true (hc k (by omega))
    have h2 := rowOk_bd (hr k (by omega)) 12 (by omega)
    have h3 := rowOk_bd (hr k (by omega)) 13 (by omega)
    refine ⟨?_, h1, ?_⟩
    · simp only [cnt]; omega
    · simp only [cnt]; omega
def Bd (n m : Nat) (c : Nat → Int × Int) : Prop := ∀ i, i ≤ n → 0 ≤ (c i).1 ∧ (c i).1 ≤ 100000 + 300000 * m ∧ -(300000 * m) ≤ (c i).2 ∧ (c i).2 ≤ 100000
theorem back1_bd {f : Nat → Nat → Int} {c : Nat → Int × Int} {n m x : Nat} (hr : rowOk (f x) = true) (hx : x < n) (hc : Bd n m c) : Bd n (m + 1) (back1 f c x) := by
  intro i hi
  obtain ⟨g1, g2, g3, g4⟩ := grow_bd hr
  have h1 := hc i hi
  have h2 := hc (x + 1) (by omega)
  have h3 := hc x (by omega)
  simp only [back1]
  split
  · simp only; omega
  · omega
theorem backs_bd {f : Nat → Nat → Int} {n : Nat} (hr : ∀ i, i < n → rowOk (f i) = true) : ∀ (l : List Nat) (m : Nat) (c : Nat → Int × Int), Bd n m c → (∀ i ∈ l, i < n) → Bd n (m + l.length) (backs f c l)
  | [], _, _, hc, _ => hc
  | x :: l, m, c, hc, hl => by
    have := backs_bd hr l (m + 1) (back1 f c x) (back1_bd (hr x (hl x (by simp))) (hl x (by simp)) hc) (fun i hi => hl i (by simp [hi]))
    rw [List.length_cons, show m + (l.length + 1) = m + 1 + l.length by omega]
    exact this
/-- The rows, when what is known of the first p has been written. -/
def kst (f : Nat → Nat → Int) (c : Nat → Int × Int) (p : Nat) : Nat → Nat → Int := fun i j => if i < p then known f c i j else f i j
/-- Row i, when the first q of three kinds have been written. -/
def kn (f : Nat → Nat → Int) (c : Nat → Int × Int) (i q : Nat) : Nat → Int := fun j => if j < 2 * q ∨ (6 ≤ j ∧ j < 6 + 2 * q) then known f c i j else f i j
/-- .. and the next one of those that come. -/
def kn1 (f : Nat → Nat → Int) (c : Nat → Int × Int) (i q : Nat) : Nat → Int := fun j => if j < 2 * (q + 1) ∨ (6 ≤ j ∧ j < 6 + 2 * q) then known f c i j else f i j
theorem kn1_step (f : Nat → Nat → Int) (c : Nat → Int × Int) (i q j : Nat) (h0 : j ≠ 2 * q) (h1 : j ≠ 2 * q + 1) : kn f c i q j = kn1 f c i q j := by
  unfold kn kn1
  have : (j < 2 * q ∨ (6 ≤ j ∧ j < 6 + 2 * q)) ↔ (j < 2 * (q + 1) ∨ (6 ≤ j ∧ j < 6 + 2 * q)) := by omega
  simp only [this]
theorem kn_step (f : Nat → Nat → Int) (c : Nat → Int × Int) (i q j : Nat) (h0 : j ≠ 6 + 2 * q) (h1 : j ≠ 6 + 2 * q + 1) : kn1 f c i q j = kn f c i (q + 1) j := by
  unfold kn kn1
  have : (j < 2 * (q + 1) ∨ (6 ≤ j ∧ j < 6 + 2 * q)) ↔ (j < 2 * (q + 1) ∨ (6 ≤ j ∧ j < 6 + 2 * (q + 1))) := by omega
  simp only [this]
theorem kn_three (f : Nat → Nat → Int) (c : Nat → Int × Int) (i j : Nat) (hj : j < 12) : kn f c i 3 j = known f c i j := by
  unfold kn
  rw [if_pos (by omega)]
end Go.Proofs.Ytifjnmflghfalaa
