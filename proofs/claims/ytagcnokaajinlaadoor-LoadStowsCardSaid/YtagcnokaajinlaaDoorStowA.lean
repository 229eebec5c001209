/-
  Ways to stow packs, as numbers; the best of them, by depth and in a row. No program.
-/
import Derived.Test.YtagcnokaajinlaaDoorSideD
import Derived.Test.YtagcnokaajinlaaDoorLoadS
import Derived.Test.YtagcnokaajinlaaDoorKj
namespace Go.Proofs.YtagcnokaajinlaaDoor
set_option linter.all false
set_option linter.unusedVariables false
set_option linter.unusedSimpArgs false
open Go.RowKit
/-- The packs at side s of a way whose first i digits are w. -/
def side (P : Nat) : Nat → Nat → Nat → List Nat
  | 0, _, _ => []
  | i + 1, w, s => side P i (w / P) s ++ (if w % P = s + 1 then [i] else [])
def sln (P i w s : Nat) : Nat := (side P i w s).length
def svl (P i w s k : Nat) : Int := ((side P i w s).getD k 0 : Nat)
/-- What a way is worth. -/
def wsum (P : Nat) (wv : Nat → Int) : Nat → Nat → Int
  | 0, _ => 0
  | i + 1, w => wsum P wv i (w / P) + (if w % P = 0 then 0 else wv i)
theorem side_child {P i w q s : Nat} (hq : q < P) : side P (i + 1) (w * P + q) s = side P i w s ++ (if q = s + 1 then [i] else []) := by
  have h1 : (w * P + q) / P = w := by
    rw [Nat.mul_comm, Nat.mul_add_div (by omega), Nat.div_eq_of_lt hq, Nat.add_zero]
  have h2 : (w * P + q) % P = q := by
    rw [Nat.mul_comm, Nat.mul_add_mod, Nat.mod_eq_of_lt hq]
  simp only [side, h1, h2]
theorem wsum_child {P i w q : Nat} {wv : Nat → Int} (hq : q < P) : wsum P wv (i + 1) (w * P + q) = wsum P wv i w + (if q = 0 then 0 else wv i) := by
  have h1 : (w * P + q) / P = w := by
    rw [Nat.mul_comm, Nat.mul_add_div (by omega), Nat.div_eq_of_lt hq, Nat.add_zero]
  have h2 : (w * P + q) % P = q := by
    rw [Nat.mul_comm, Nat.mul_add_mod, Nat.mod_eq_of_lt hq]
  simp only [wsum, h1, h2]
theorem side_lt {P : Nat} : ∀ {i w s x : Nat}, x ∈ side P i w s → x < i
  | 0, _, _, _, h => by cases h
  | i + 1, w, s, x, h => by
    simp only [side, List.mem_append] at h
    rcases h with h | h
    · have := side_lt h; omega
    · split at h
      · simp at h; omega
      · cases h
theorem side_len {P : Nat} : ∀ {i w s : Nat}, (side P i w s).length ≤ i
  | 0, _, _ => by simp [side]
  | i + 1, w, s => by
    have := side_len (P := P) (i := i) (w := w / P) (s := s)
    simp only [side, List.length_append]
    split <;> simp <;> omega
theorem sln_le (P i w s : Nat) : sln P i w s ≤ i := side_len
theorem svl_bd {P i w s k : Nat} (h : k < sln P i w s) : 0 ≤ svl P i w s k ∧ svl P i w s k < i := by
  unfold svl
  unfold sln at h
  rw [List.getD_eq_getElem?_getD, List.getElem?_eq_getElem h]
  have := side_lt (List.getElem_mem h)
  simp only [Option.getD_some]
  omega
theorem svl_inx (P np w s : Nat) : Inx (svl P np w s) (sln P np w s) np := fun _ hk => svl_bd hk
section
variable {P i w q : Nat}
theorem sln_same {s : Nat} (hq : q < P) (h : q ≠ s + 1) : sln P (i + 1) (w * P + q) s = sln P i w s := by
  unfold sln; rw [side_child hq, if_neg h, List.append_nil]
theorem svl_same {s : Nat} (hq : q < P) (h : q ≠ s + 1) : svl P (i + 1) (w * P + q) s = svl P i w s := by
  funext k; unfold svl; rw [side_child hq, if_neg h, List.append_nil]
theorem sln_put {s : Nat} (hq : s + 1 < P) : sln P (i + 1) (w * P + (s + 1)) s = sln P i w s + 1 := by
  unfold sln; rw [side_child hq, if_pos rfl, List.length_append]; rfl
theorem svl_put {s k : Nat} (hq : s + 1 < P) (hk : k < sln P i w s) : svl P (i + 1) (w * P + (s + 1)) s k = svl P i w s k := by
  unfold svl; rw [side_child hq, if_pos rfl]
  unfold sln at hk
  rw [List.getD_eq_getElem?_getD, List.getD_eq_getElem?_getD, List.getElem?_append_left hk]
theorem svl_last {s : Nat} (hq : s + 1 < P) : svl P (i + 1) (w * P + (s + 1)) s (sln P i w s) = i := by
  unfold svl; rw [side_child hq, if_pos rfl]
  unfold sln
  rw [List.getD_eq_getElem?_getD, List.getElem?_append_right (Nat.le_refl _)]
  simp
end
structure St where
  worth : Int
  way : Nat
  n : Nat
def iter {α : Type} (f : Nat → α → α) : Nat → α → α
  | 0, s => s
  | n + 1, s => f n (iter f n s)
theorem iter_congr {α : Type} {f g : Nat → α → α} : ∀ {n : Nat} {s : α}, (∀ q, q < n → ∀ s, f q s = g q s) → iter f n s = iter g n s
  | 0, _, _ => rfl
  | n + 1, s, h => by simp only [iter]; rw [iter_congr (n := n) fun q hq => h q (by omega), h n (by omega)]
theorem iter_add {α : Type} {f : Nat → α → α} {m : Nat} : ∀ {n : Nat} {s : α}, iter f (m + n) s = iter (fun q => f (m + q)) n (iter f m s)
  | 0, _ => rfl
  | n + 1, s => by
    show f (m + n) (iter f (m + n) s) = _
    rw [iter_add (n := n)]
    rfl
theorem iter_mul {α : Type} {f : Nat → α → α} {m : Nat} : ∀ {n : Nat} {s : α}, iter (fun q => iter (fun p => f (q * m + p)) m) n s = iter f (n * m) s
  | 0, s => by simp [iter]
  | n + 1, s => by
    show iter (fun p => f (n * m + p)) m (iter (fun q => iter (fun p => f (q * m + p)) m) n s) = _
    rw [iter_mul (n := n), Nat.succ_mul, iter_add]
def dfs (P : Nat) (leaf : Nat → St → St) : Nat → Nat → St → St
  | 0, w, st => leaf w st
  | r + 1, w, st => iter (fun q st => dfs P leaf r (w * P + q) st) P st
theorem dfs_row {P : Nat} {leaf : Nat → St → St} : ∀ {r w : Nat} {st : St}, dfs P leaf r w st = iter (fun q => leaf (w * P ^ r + q)) (P ^ r) st
  | 0, w, st => by simp [dfs, iter]
  | r + 1, w, st => by
    simp only [dfs]
    rw [iter_congr (g := fun q => iter (fun p => leaf (w * P ^ (r + 1) + (q * P ^ r + p))) (P ^ r)) fun q _ s => by
      rw [dfs_row (r := r)]
      refine iter_congr fun p _ s => ?_
      have e : (w * P + q) * P ^ r + p = w * P ^ (r + 1) + (q * P ^ r + p) := by rw [Nat.pow_succ, Nat.add_mul, Nat.mul_assoc, Nat.mul_comm P (P ^ r), Nat.add_assoc]
      rw [e]]
    rw [iter_mul (f := fun q => leaf (w * P ^ (r + 1) + q)), Nat.pow_succ, Nat.mul_comm (P ^ r) P]
/-- The two lists of animal k, and its top, in a way. -/
def tln (P np w k j : Nat) : Nat := if j = 2 then 0 else sln P np w (2 * k + j)
def tvl (P np w k j : Nat) : Nat → Int := if j = 2 then fun _ => 0 else svl P np w (2 * k + j)
def okT (P np : Nat) (r0 r1 : Nat → Int) (cans : Nat → Int) (b : Int) (w k : Nat) : Bool :=
  decide (balV (wS r0 (svl P np w (2 * k)) (sln P np w (2 * k))) (wS r1 (svl P np w (2 * k)) (sln P np w (2 * k))) (wS r0 (svl P np w (2 * k + 1)) (sln P np w (2 * k + 1))) (wS r1 (svl P np w (2 * k + 1)) (sln P np w (2 * k + 1))) b = 2) &&
    decide (wS r1 (catI (tln P np w k) (tvl P np w k)) (tot (tln P np w k) 3) ≤ cans k)
def leafS (P np nc : Nat) (r0 r1 cans wv : Nat → Int) (b : Int) (w : Nat) (st : St) : St :=
  if wsum P wv np w ≤ st.worth then st else if allB nc (okT P np r0 r1 cans b w) then ⟨wsum P wv np w, w, nc⟩ else st
theorem side_zero {P : Nat} (hP : 0 < P) : ∀ {i s : Nat}, side P i 0 s = []
  | 0, _ => rfl
  | i + 1, s => by simp only [side, Nat.zero_div, Nat.zero_mod, side_zero hP]; simp
theorem wsum_zero {P : Nat} (wv : Nat → Int) (hP : 0 < P) : ∀ {i : Nat}, wsum P wv i 0 = 0
  | 0 => rfl
  | i + 1 => by simp only [wsum, Nat.zero_div, Nat.zero_mod, wsum_zero wv hP]; simp
theorem okT_zero {P np : Nat} {r0 r1 cans : Nat → Int} {b : Int} {k : Nat} (hP : 0 < P) (hb : 0 ≤ b) (hc : 0 ≤ cans k) : okT P np r0 r1 cans b 0 k = true := by
  have e1 : ∀ s, sln P np 0 s = 0 := fun s => by unfold sln; rw [side_zero hP]; rfl
  have e2 : tot (tln P np 0 k) 3 = 0 := by simp [tot, tln, e1]
  unfold okT
  rw [e1, e1, e2]
  simp only [wS, sumF, Bool.and_eq_true]
  have e3 : balV 0 0 0 0 b = 2 := if_pos (by omega)
  exact ⟨decide_eq_true e3, decide_eq_true hc⟩
theorem iter_inv {α : Type} {f : Nat → α → α} {p : α → Prop} (hp : ∀ q s, p s → p (f q s)) : ∀ {n : Nat} {s : α}, p s → p (iter f n s)
  | 0, _, h => h
  | n + 1, _, h => hp n _ (iter_inv hp (n := n) h)
/-- Some way is found. -/
theorem dfs_found {P np nc : Nat} {r0 r1 cans wv : Nat → Int} {b : Int} (hP : 0 < P) (hb : 0 ≤ b) (hc : ∀ k, k < nc → 0 ≤ cans k) : (dfs P (leafS P np nc r0 r1 cans wv b) np 0 ⟨-1, 0, 0⟩).n = nc ∧ 0 ≤ (dfs P (leafS P np nc r0 r1 cans wv b) np 0 ⟨-1, 0, 0⟩).worth := by
  rw [dfs_row]
  obtain ⟨m, hm⟩ : ∃ m, P ^ np = 1 + m := ⟨P ^ np - 1, by have : 0 < P ^ np := Nat.pow_pos hP; omega⟩
  rw [hm, iter_add]
  refine iter_inv (p := fun st : St => st.n = nc ∧ 0 ≤ st.worth) (fun q s hs => ?_) ?_
  · unfold leafS
    split
    · exact hs
    · split
      · exact ⟨rfl, by rename_i h _; have := hs.2; show 0 ≤ wsum P wv np _; omega⟩
      · exact hs
  · simp only [iter, Nat.zero_mul, Nat.add_zero]
    unfold leafS
    rw [if_neg (by rw [wsum_zero wv hP]; simp), if_pos (allB_iff.2 fun k hk => okT_zero hP hb (hc k hk))]
    exact ⟨rfl, by rw [wsum_zero wv hP]; simp⟩
end Go.Proofs.YtagcnokaajinlaaDoor
