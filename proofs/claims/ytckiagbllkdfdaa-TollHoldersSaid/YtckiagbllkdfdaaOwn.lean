/-
  A slice that the call itself made: read as a family of cells, appended to, written. No condition on a program.
-/
import Derived.Test.YtckiagbllkdfdaaLib
import Derived.Maps.AppendAt
import Derived.OwnWalk
import Derived.Lib.SliceRun
namespace Go.Proofs.Ytckiagbllkdfdaa
set_option linter.all false
set_option linter.unusedVariables false
set_option linter.unusedSimpArgs false
open Go.RowKit
/-- The cells of n elements of sz cells, in a row. -/
def flat (sz n : Nat) (f : Nat → Nat → Value) : List Value := (List.range n).flatMap fun i => (List.range sz).map (f i)
theorem flat_succ (sz n : Nat) (f : Nat → Nat → Value) : flat sz (n + 1) f = flat sz n f ++ (List.range sz).map (f n) := by
  simp [flat, List.range_succ]
theorem flat_length (sz n : Nat) (f : Nat → Nat → Value) : (flat sz n f).length = n * sz := by
  induction n with
  | zero => simp [flat]
  | succ n ih => rw [flat_succ, List.length_append, ih]; simp [Nat.add_mul]
theorem flat_get {sz n : Nat} {f : Nat → Nat → Value} {i j : Nat} (hi : i < n) (hj : j < sz) : (flat sz n f)[i * sz + j]? = some (f i j) := by
  induction n with
  | zero => omega
  | succ n ih =>
    rw [flat_succ]
    by_cases hin : i < n
    · have : i * sz + j < (flat sz n f).length := by
        rw [flat_length]
        have := Nat.mul_le_mul_right sz (show i + 1 ≤ n by omega)
        rw [Nat.add_mul] at this
        omega
      rw [List.getElem?_append_left this]
      exact ih hin
    · obtain rfl : i = n := by omega
      rw [List.getElem?_append_right (by rw [flat_length]; omega), flat_length]
      simp [hj]
theorem flat_congr {sz n : Nat} {f g : Nat → Nat → Value} (h : ∀ i j, i < n → j < sz → f i j = g i j) : flat sz n f = flat sz n g := by
  induction n with
  | zero => rfl
  | succ n ih =>
    rw [flat_succ, flat_succ, ih fun i j hi hj => h i j (by omega) hj]
    congr 1
    exact List.map_congr_left fun j hj => h n j (by omega) (List.mem_range.1 hj)
/-- f on the first n, then g. -/
def cat (n : Nat) (f g : Nat → Nat → Value) : Nat → Nat → Value := fun i j => if i < n then f i j else g (i - n) j
theorem flat_cat (sz n m : Nat) (f g : Nat → Nat → Value) : flat sz (n + m) (cat n f g) = flat sz n f ++ flat sz m g := by
  induction m with
  | zero => simp only [Nat.add_zero]; rw [show flat sz 0 g = [] from rfl, List.append_nil]; exact flat_congr fun i j hi _ => by simp [cat, hi]
  | succ m ih =>
    rw [← Nat.add_assoc, flat_succ, ih, flat_succ, List.append_assoc]
    congr 2
    exact List.map_congr_left fun j _ => by simp [cat]; intro h; omega
/-- v is a slice of n elements of the call's own, from block B on, and reads as f. -/
def Own (w : World) (B : Nat) (E : TypeId) (sz : Nat) (v : Value) (n : Nat) (f : Nat → Nat → Value) : Prop := w.ownsRow B E sz v n (flat sz n f)
section
variable {w w' : World} {B : Nat} {E : TypeId} {sz n : Nat} {v : Value} {f : Nat → Nat → Value}
theorem Own.form (h : Own w B E sz v n f) : ∃ A c, v = .slice A n c ∧ n ≤ c ∧ c ≤ maxLen ∧ Rd w sz A n f := by
  rcases h.2 with ⟨rfl, rfl⟩ | ⟨g, cap, cur, rfl, hg, hh, hnc, hcm, hcs, ht⟩
  · exact ⟨none, 0, rfl, Nat.le_refl _, Nat.zero_le _, Rd.nil⟩
  · refine ⟨_, cap, rfl, hnc, hcm, fun _ => ⟨g, 0, rfl, ?_, fun i j hi hj => ?_⟩⟩
    · rcases Nat.lt_or_ge g w.heap.size with h1 | h1
      · exact h1
      · rw [Array.getElem?_eq_none h1] at hh; cases hh
    · rw [Nat.zero_add, cell_of_row w g _ cur E (0, 0) hh]
      have h2 := flat_get (f := f) hi hj
      rw [← ht, List.getElem?_take] at h2
      split at h2
      · simpa using h2
      · cases h2
theorem Own.form1 (h : Own w B E sz v n f) (hn : 0 < n) : ∃ g c, v = .slice (some ⟨g, 0, none⟩) n c ∧ B ≤ g ∧ g < w.heap.size ∧ n ≤ c ∧ (∀ i j, i < n → j < sz → w.cell? ⟨g, i * sz + j, none⟩ = some (f i j)) ∧ ∀ j, w.frozen? ⟨g, j, none⟩ = false := by
  rcases h.2 with ⟨_, h0⟩ | ⟨g, cap, cur, rfl, hg, hh, hnc, hcm, hcs, ht⟩
  · omega
  · have hb : g < w.heap.size := by
      rcases Nat.lt_or_ge g w.heap.size with h1 | h1
      · exact h1
      · rw [Array.getElem?_eq_none h1] at hh; cases hh
    refine ⟨g, cap, rfl, hg, hb, hnc, fun i j hi hj => ?_, fun j => World.ownsRow.frozenAt h j⟩
    rw [cell_of_row w g _ cur E (0, 0) hh]
    have h2 := flat_get (f := f) hi hj
    rw [← ht, List.getElem?_take] at h2
    split at h2
    · simpa using h2
    · cases h2
theorem Own.below (h : Own w B E sz v n f) (hb : Below w.heap.size w w') : Own w' B E sz v n f :=
  World.ownsRow.kept h (row := none) ⟨hb.os, hb.tape, hb.output, hb.size, fun k hk _ => hb.block k hk⟩ (by cases v.ownBlock <;> simp)
theorem Own.kept {row : Option Nat} (h : Own w B E sz v n f) (hg : w.grownBy w' row) (hne : v.ownBlock = none ∨ v.ownBlock ≠ row) : Own w' B E sz v n f := World.ownsRow.kept h hg hne
theorem Own.congr {g : Nat → Nat → Value} (h : Own w B E sz v n f) (he : ∀ i j, i < n → j < sz → f i j = g i j) : Own w B E sz v n g := by
  unfold Own; rw [← flat_congr he]; exact h
theorem Own.nil (w : World) (B : Nat) (E : TypeId) (sz : Nat) (f : Nat → Nat → Value) : Own w B E sz (.slice none 0 0) 0 f := ⟨by simp [flat], .inl ⟨rfl, rfl⟩⟩
theorem Own.mono {B' : Nat} (h : Own w B E sz v n f) (hB : B' ≤ B) : Own w B' E sz v n f := by
  refine ⟨h.1, ?_⟩
  rcases h.2 with h2 | ⟨g, cap, cur, hv, hg, r⟩
  · exact .inl h2
  · exact .inr ⟨g, cap, cur, hv, Nat.le_trans hB hg, r⟩
/-- A new block, whole, is a slice of the call's own. -/
theorem Own.of_blk {cs : Array Value} {b : Nat} (h : Blk w b E cs) (hB : B ≤ b) (hs : cs.size = n * sz) (hz : 0 < sz) (hm : n ≤ maxLen) (hf : ∀ i j, i < n → j < sz → cs.getD (i * sz + j) undef = f i j) : Own w B E sz (.slice (some ⟨b, 0, none⟩) n n) n f := by
  refine ⟨flat_length _ _ _, .inr ⟨b, n, cs, rfl, hB, h, Nat.le_refl _, hm, hs, ?_⟩⟩
  apply List.ext_getElem?
  intro q
  by_cases hq : q < n * sz
  · have hi : q / sz < n := Nat.div_lt_of_lt_mul (by rw [Nat.mul_comm]; exact hq)
    have hj : q % sz < sz := Nat.mod_lt _ hz
    have e : q = q / sz * sz + q % sz := by rw [Nat.mul_comm]; exact (Nat.div_add_mod q sz).symm
    have h2 := flat_get (f := f) hi hj
    rw [← e] at h2
    have h3 := hf _ _ hi hj
    rw [← e] at h3
    have hqc : q < cs.size := by omega
    rw [h2, ← h3, List.getElem?_take]
    simp [hq, Array.getD, hqc]
  · rw [List.getElem?_eq_none (by simp; omega), List.getElem?_eq_none (by rw [flat_length]; omega)]
theorem Own.empty {b : Nat} (h : Blk w b E #[]) (hB : B ≤ b) (f : Nat → Nat → Value) : Own w B E sz (.slice (some ⟨b, 0, none⟩) 0 0) 0 f :=
  ⟨by simp [flat], .inr ⟨b, 0, #[], rfl, hB, h, Nat.le_refl _, Nat.zero_le _, by simp, by simp [flat]⟩⟩
/-- A store into element i, cell j, of such a slice. -/
theorem Own.set {g c : Nat} (h : Own w B E sz (.slice (some ⟨g, 0, none⟩) n c) n f) (i j : Nat) (hi : i < n) (hj : j < sz) (u : Value) :
    Own (w.setCell ⟨g, i * sz + j, none⟩ u) B E sz (.slice (some ⟨g, 0, none⟩) n c) n (fun i' j' => if i' = i ∧ j' = j then u else f i' j') := by
  refine ⟨flat_length _ _ _, ?_⟩
  rcases h.2 with ⟨h2, _⟩ | ⟨g', cap, cur, hv, hg, hh, hnc, hcm, hcs, ht⟩
  · cases h2
  · obtain ⟨rfl, rfl⟩ : g = g' ∧ c = cap := by simp at hv; exact hv
    refine .inr ⟨g, c, cur.setIfInBounds (i * sz + j) u, rfl, hg, by simp [World.setCell, Array.getElem?_modify, hh], hnc, hcm, by simpa using hcs, ?_⟩
    apply List.ext_getElem?
    intro q
    by_cases hq : q < n * sz
    · have hz : 0 < sz := by omega
      have hi' : q / sz < n := Nat.div_lt_of_lt_mul (by rw [Nat.mul_comm]; exact hq)
      have hj' : q % sz < sz := Nat.mod_lt _ hz
      have e : q = q / sz * sz + q % sz := by rw [Nat.mul_comm]; exact (Nat.div_add_mod q sz).symm
      have h2 := flat_get (f := fun i' j' => if i' = i ∧ j' = j then u else f i' j') hi' hj'
      rw [← e] at h2
      have h3 := flat_get (f := f) hi' hj'
      rw [← e, ← ht, List.getElem?_take, if_pos hq] at h3
      rw [h2, List.getElem?_take, if_pos hq]
      by_cases hqe : q = i * sz + j
      · have e1 : q / sz = i := by rw [hqe, Nat.mul_comm, Nat.mul_add_div hz, Nat.div_eq_of_lt hj]; omega
        have e2 : q % sz = j := by rw [hqe, Nat.mul_comm, Nat.mul_add_mod, Nat.mod_eq_of_lt hj]
        rw [if_pos ⟨e1, e2⟩]
        have hlt : q < cur.size := by
          have h9 : q < cur.toList.length := (List.getElem?_eq_some_iff.1 h3).1
          simpa using h9
        rw [hqe] at hlt ⊢
        simp [hlt]
      · have hne : ¬ (q / sz = i ∧ q % sz = j) := fun ⟨a, b⟩ => hqe (by rw [e, a, b])
        rw [if_neg hne]
        simp only [Array.toList_setIfInBounds]
        rw [List.getElem?_set_ne (Ne.symm hqe)]
        exact h3
    · rw [List.getElem?_eq_none (by simp; omega), List.getElem?_eq_none (by rw [flat_length]; omega)]
theorem Own.frozen {g c : Nat} (h : Own w B E sz (.slice (some ⟨g, 0, none⟩) n c) n f) (j : Nat) : w.frozen? ⟨g, j, none⟩ = false := World.ownsRow.frozenAt h j
theorem Own.blk {k : Nat} (h : Own w B E sz v n f) (hv : v.ownBlock = some k) : B ≤ k ∧ k < w.heap.size := World.ownsRow.lt h k hv
theorem Own.ne_ {B' g g' c c' sz' n' : Nat} {E' : TypeId} {f' : Nat → Nat → Value} (h : Own w B E sz (.slice (some ⟨g, 0, none⟩) n c) n f) (h' : Own w B' E' sz' (.slice (some ⟨g', 0, none⟩) n' c') n' f') (hne : E ≠ E') : g ≠ g' := by
  rintro rfl
  rcases h.2 with ⟨h2, _⟩ | ⟨q, cap, cur, hv, _, hh, _⟩
  · cases h2
  rcases h'.2 with ⟨h2, _⟩ | ⟨q', cap', cur', hv', _, hh', _⟩
  · cases h2
  have e1 : g = q := by simp at hv; exact hv.1
  have e2 : g = q' := by simp at hv'; exact hv'.1
  subst e1
  subst e2
  rw [hh] at hh'
  cases hh'
  exact hne rfl
/-- Own memory stays where another block is written. -/
theorem Own.far (h : Own w B E sz v n f) {p : Addr} (hp : v.ownBlock ≠ some p.block) (u : Value) : Own (w.setCell p u) B E sz v n f := by
  refine Own.kept (row := some p.block) h ⟨rfl, rfl, rfl, by simp [World.setCell], fun k _ hk => Below.heap_setCell w p u k (fun e => hk (by rw [e]))⟩ ?_
  cases hv : v.ownBlock with
  | none => exact .inl rfl
  | some k => exact .inr (by rw [← hv]; exact hp)
end
/-- The facts on a slice type t of elements E, of sz cells and so many bytes. -/
structure ElemT (P : Program) (t E : TypeId) (sz bytes : Nat) : Prop where
  ht : P.underlying t = some (.slice E)
  hi : ∃ i z, P.info? E = some i ∧ i.zero = some z ∧ i.size = sz ∧ i.bytes = bytes ∧ z.cells.size = sz
  pos : 0 < sz
theorem elemT {P : Program} {t E : TypeId} {sz bytes : Nat} {z : Value} (ht : P.underlying t = some (.slice E)) (h : (P.info? E).map (fun i => (i.zero, i.size, i.bytes)) = some (some z, sz, bytes)) (hz : z.cells.size = sz) (pos : 0 < sz) : ElemT P t E sz bytes := by
  obtain ⟨i, h1, h2, h3, h4⟩ := info_parts h
  exact ⟨ht, ⟨i, z, h1, h2, h3, h4, hz⟩, pos⟩
section
variable {P : Program} {w : World}
theorem run_append_R {t ty E : TypeId} {sz bytes B : Nat} (T : ElemT P t E sz bytes) {v : Value} {n : Nat} {f : Nat → Nat → Value} (hown : Own w B E sz v n f) {A : Option Addr} {m c : Nat} {g : Nat → Nat → Value} (hr : Rd w sz A m g)
    (hA : A = none → c = 0 ∨ True) (h1 : ∀ i j, i < m → j < sz → (g i j).oneCell' = true) (hm : n + m ≤ 1000000000) (hby : bytes ≤ 10000) (hB : B ≤ w.heap.size) :
    ∃ v' w', (Builtin.append_ #[t, t] ty #[v, .slice A m c]).run P w = .ok v' w' ∧ Own w' B E sz v' (n + m) (cat n f g) ∧ w.grownBy w' v.ownBlock ∧ (v'.ownBlock = v.ownBlock ∨ v'.ownBlock = some w.heap.size) := by
  obtain ⟨i, z, hi, hz, hs, hb, hzs⟩ := T.hi
  have hsmall : n + m ≤ maxLen := by simp only [maxLen]; omega
  have hbytes : (n + m) * bytes ≤ 140737488355328 := Nat.le_trans (Nat.mul_le_mul hm hby) (by decide)
  by_cases hm0 : m = 0
  · subst hm0
    have hfl : Own w B E sz v (n + 0) (cat n f g) := hown.congr fun i j hi _ => by simp [cat, show i < n from hi]
    cases A with
    | none =>
      refine ⟨v, w, ?_, hfl, World.grownBy.refl w _, .inl rfl⟩
      rcases hown.2 with ⟨rfl, rfl⟩ | ⟨g', cap, cur, rfl, _, _, hnc, _⟩
      · simp [Builtin.append_, run_underlying T.ht, sizeOf, typeInfo, hi, Builtin.lenOf, Builtin.firstCells]
      · simp [Builtin.append_, run_underlying T.ht, sizeOf, typeInfo, hi, Builtin.lenOf, Builtin.firstCells, hnc, storeCells]
    | some ad =>
      obtain ⟨v', w', hrun, h2, h3, _, h5⟩ := run_append_own_at (P := P) w B t ty E i z sz bytes T.ht hi hz hs hb hzs T.pos v n _ hown ad 0 c [] (by simp) (by simp) (by simp) (by simpa using hsmall) (by simpa using hbytes) hB
      refine ⟨v', w', hrun, ?_, h3, h5⟩
      unfold Own
      rw [flat_cat, show flat sz 0 g = [] from rfl]
      exact h2
  · obtain ⟨b, off, rfl, hlt, hc⟩ := hr (by omega)
    obtain ⟨v', w', hrun, h2, h3, _, h5⟩ := run_append_own_at (P := P) w B t ty E i z sz bytes T.ht hi hz hs hb hzs T.pos v n _ hown ⟨b, off, none⟩ m c (flat sz m g) (flat_length _ _ _) (fun q u hq => by
      have hql : q < m * sz := by have := (List.getElem?_eq_some_iff.1 hq).1; rw [flat_length] at this; exact this
      have hi' : q / sz < m := Nat.div_lt_of_lt_mul (by rw [Nat.mul_comm]; exact hql)
      have hj' : q % sz < sz := Nat.mod_lt _ T.pos
      have e : q = q / sz * sz + q % sz := by rw [Nat.mul_comm]; exact (Nat.div_add_mod q sz).symm
      have h2 := flat_get (f := g) hi' hj'
      rw [← e, hq] at h2
      have h3 := hc _ _ hi' hj'
      rw [Nat.add_assoc, ← e, ← h2] at h3
      rw [← h3]
      unfold Addr.add
      by_cases hq0 : q = 0
      · subst hq0; rfl
      · rw [if_neg hq0]) (fun u hu => by
      obtain ⟨q, hq, rfl⟩ := List.getElem_of_mem hu
      have hql : q < m * sz := by rw [flat_length] at hq; exact hq
      have hi' : q / sz < m := Nat.div_lt_of_lt_mul (by rw [Nat.mul_comm]; exact hql)
      have hj' : q % sz < sz := Nat.mod_lt _ T.pos
      have e : q = q / sz * sz + q % sz := by rw [Nat.mul_comm]; exact (Nat.div_add_mod q sz).symm
      have h2 := flat_get (f := g) hi' hj'
      rw [← e, List.getElem?_eq_getElem hq] at h2
      injection h2 with h2
      rw [h2]
      exact h1 _ _ hi' hj') hsmall hbytes hB
    refine ⟨v', w', hrun, ?_, h3, h5⟩
    unfold Own
    rw [flat_cat]
    exact h2
theorem wp_app {o : Oper} {a : Act} {K : Act → World → Prop} {Q : Exit → Act → World → Prop} (s x : Operand) {t E : TypeId} {sz bytes B : Nat} (T : ElemT P t E sz bytes) (ho : o.op = .call { callee := .builtin .append, args := #[s, x], argTypes := #[t, t] })
    {v : Value} {n : Nat} {f : Nat → Nat → Value} (hs : a.eval s = v) (hown : Own w B E sz v n f) {A : Option Addr} {m c : Nat} {g : Nat → Nat → Value} (hx : a.eval x = .slice A m c) (hr : Rd w sz A m g) (h1 : ∀ i j, i < m → j < sz → (g i j).oneCell' = true) (hm : n + m ≤ 1000000000)
    (hby : bytes ≤ 10000) (hB : B ≤ w.heap.size) (h : ∀ v' w', Own w' B E sz v' (n + m) (cat n f g) → w.grownBy w' v.ownBlock → (v'.ownBlock = v.ownBlock ∨ v'.ownBlock = some w.heap.size) → K (a.put o.dst v') w') : o.wp P a w K Q := by
  obtain ⟨v', w', hrun, h2, h3, h4⟩ := run_append_R (ty := o.type) T hown hr (fun _ => .inr trivial) h1 hm hby hB
  unfold Oper.wp execOp
  simp only [ho, resolve, invoke, builtin, Sem.run_bind, Sem.run_pure, Result.andThen_ok, List.map_toArray, List.map_cons, List.map_nil, hs, hx]
  rw [hrun]
  exact h v' w' h2 h3 h4
theorem wpList_app {ops : Array Oper} {rest : List Oper} {o : Oper} {a : Act} {Q : Exit → Act → World → Prop} (hgd : o.guard = none) (s x : Operand) {t E : TypeId} {sz bytes B : Nat} (T : ElemT P t E sz bytes) (ho : o.op = .call { callee := .builtin .append, args := #[s, x], argTypes := #[t, t] })
    {v : Value} {n : Nat} {f : Nat → Nat → Value} (hs : a.eval s = v) (hown : Own w B E sz v n f) {A : Option Addr} {m c : Nat} {g : Nat → Nat → Value} (hx : a.eval x = .slice A m c) (hr : Rd w sz A m g) (h1 : ∀ i j, i < m → j < sz → (g i j).oneCell' = true) (hm : n + m ≤ 1000000000)
    (hby : bytes ≤ 10000) (hB : B ≤ w.heap.size) (h : ∀ v' w', Own w' B E sz v' (n + m) (cat n f g) → w.grownBy w' v.ownBlock → (v'.ownBlock = v.ownBlock ∨ v'.ownBlock = some w.heap.size) → wpList P ops Q rest (a.put o.dst v') w') : wpList P ops Q (o :: rest) a w :=
  wpList_plain hgd fun _ hK => wp_app s x T ho hs hown hx hr h1 hm hby hB fun v' w' h2 h3 h4 => hK _ _ (h v' w' h2 h3 h4)
end
end Go.Proofs.Ytckiagbllkdfdaa
