/-
  Small words and lemmas that the walks of this seat share: a slice that reads as a family of cells, what stays below a block number, tests over the first n numbers. No condition.
-/
import Derived.Test.YtckiagbllkdfdaaRows
import Derived.WalkKit
import Derived.WalkSpells
import Derived.WalkLawsBesides
import Derived.Deep.QuietTactic
import Derived.BigQuiet
namespace Go.Proofs.Ytckiagbllkdfdaa
set_option linter.all false
set_option linter.unusedVariables false
set_option linter.unusedSimpArgs false
open Go.RowKit
theorem hid {p : Prop} (h : p) : Hid p := h
theorem ret_eq {a b : Value} (h : b = a) : Ending.returned a = .returned b := by rw [h]
theorem ret_bool {a b : Bool} (h : b = a) : Ending.returned (.bool a) = .returned (.bool b) := by rw [h]
theorem ret_int {k : IntKind} {a b : Int} (h : b = a) : Ending.returned (.int k a) = .returned (.int k b) := by rw [h]
theorem bcell {B : Nat} {w w1 : World} (hb : Below B w w1) : (∀ b o, b < B → w1.cell? ⟨b, o, none⟩ = w.cell? ⟨b, o, none⟩) ∧ (∀ b o, b < B → w1.frozen? ⟨b, o, none⟩ = w.frozen? ⟨b, o, none⟩) :=
  ⟨fun b o h => hb.cell (p := ⟨b, o, none⟩) h, fun b o h => hb.frozen (p := ⟨b, o, none⟩) h⟩
theorem Below.drewN' {B : Nat} {a w : World} (h : Below B a w) (n : Nat) : Below B a (w.drewN n) := ⟨h.os, h.tape, h.output, h.size, h.block⟩
/-- The slice at A with n elements of sz cells holds, at element i and cell j, the value f i j. -/
def Rd (w : World) (sz : Nat) (A : Option Addr) (n : Nat) (f : Nat → Nat → Value) : Prop :=
  0 < n → ∃ b off, A = some ⟨b, off, none⟩ ∧ b < w.heap.size ∧ ∀ i j, i < n → j < sz → w.cell? ⟨b, off + i * sz + j, none⟩ = some (f i j)
section
variable {w wr : World} {sz n : Nat} {A : Option Addr} {f : Nat → Nat → Value}
theorem Rd.below (h : Rd w sz A n f) (hb : Below w.heap.size w wr) : Rd wr sz A n f := fun hn => by
  obtain ⟨b, off, h1, h2, h3⟩ := h hn
  exact ⟨b, off, h1, by have := hb.size; omega, fun i j hi hj => by rw [hb.cell (p := ⟨b, _, none⟩) h2]; exact h3 i j hi hj⟩
theorem Rd.alloc (h : Rd w sz A n f) (o : Obj) : Rd (w.alloc o) sz A n f := h.below ((Below.refl _ _).alloc (Nat.le_refl _) o)
theorem Rd.nil : Rd w sz A 0 f := fun h => absurd h (by omega)
theorem Rd.congr {g : Nat → Nat → Value} (h : Rd w sz A n f) (he : ∀ i j, i < n → j < sz → f i j = g i j) : Rd w sz A n g := fun hn => by
  obtain ⟨b, off, h1, h2, h3⟩ := h hn
  exact ⟨b, off, h1, h2, fun i j hi hj => by rw [← he i j hi hj]; exact h3 i j hi hj⟩
theorem Rd.pre {m : Nat} (h : Rd w sz A n f) (hm : m ≤ n) : Rd w sz A m f := fun hn => by
  obtain ⟨b, off, h1, h2, h3⟩ := h (by omega)
  exact ⟨b, off, h1, h2, fun i j hi hj => h3 i j (by omega) hj⟩
theorem Rd.at1 {k : Nat} (h : Rd w 1 A n f) (hk : k < n) (hb : Below w.heap.size w wr) :
    ∃ b off, A = some ⟨b, off, none⟩ ∧ b < w.heap.size ∧ wr.cell? ⟨b, off + k, none⟩ = some (f k 0) := by
  obtain ⟨b, off, h1, h2, h3⟩ := h (by omega)
  exact ⟨b, off, h1, h2, by rw [hb.cell (p := ⟨b, _, none⟩) h2]; simpa using h3 k 0 hk (by omega)⟩
theorem Rd.at2 {k : Nat} (h : Rd w 2 A n f) (hk : k < n) (hb : Below w.heap.size w wr) :
    ∃ b off, A = some ⟨b, off, none⟩ ∧ b < w.heap.size ∧ wr.cell? ⟨b, off + k * 2, none⟩ = some (f k 0) ∧ wr.cell? ⟨b, off + k * 2 + 1, none⟩ = some (f k 1) := by
  obtain ⟨b, off, h1, h2, h3⟩ := h (by omega)
  exact ⟨b, off, h1, h2, by rw [hb.cell (p := ⟨b, _, none⟩) h2]; simpa using h3 k 0 hk (by omega), by rw [hb.cell (p := ⟨b, _, none⟩) h2]; exact h3 k 1 hk (by omega)⟩
theorem Rd.atn {k : Nat} (h : Rd w sz A n f) (hk : k < n) (hb : Below w.heap.size w wr) :
    ∃ b off, A = some ⟨b, off, none⟩ ∧ b < w.heap.size ∧ ∀ j, j < sz → wr.cell? ⟨b, off + k * sz + j, none⟩ = some (f k j) := by
  obtain ⟨b, off, h1, h2, h3⟩ := h (by omega)
  exact ⟨b, off, h1, h2, fun j hj => by rw [hb.cell (p := ⟨b, _, none⟩) h2]; exact h3 k j hk hj⟩
/-- A new block read as a slice. -/
theorem Rd.new (w : World) (cs : Array Value) (E : TypeId) (sz n : Nat) (hs : cs.size = n * sz) :
    Rd (w.alloc (.cells cs E)) sz (some ⟨w.heap.size, 0, none⟩) n (fun i j => cs.getD (i * sz + j) undef) := fun hn =>
  ⟨w.heap.size, 0, rfl, by simp, fun i j hi hj => by
    have hlt : i * sz + j < cs.size := by rw [hs]; calc i * sz + j < i * sz + sz := by omega
      _ = (i + 1) * sz := by rw [Nat.add_mul]; omega
      _ ≤ n * sz := Nat.mul_le_mul_right _ (by omega)
    rw [cell_of_row (w.alloc (.cells cs E)) w.heap.size _ cs E (0, 0) (heap_alloc_new w _)]
    simp [Array.getD, hlt]⟩
theorem Rd.of_new {w : World} {cs : Array Value} {E : TypeId} {sz n b : Nat} {f : Nat → Nat → Value} (hb : b = w.heap.size) (hs : cs.size = n * sz) (hf : ∀ i j, i < n → j < sz → cs.getD (i * sz + j) undef = f i j) :
    Rd (w.alloc (.cells cs E)) sz (some ⟨b, 0, none⟩) n f := by subst hb; exact (Rd.new w cs E sz n hs).congr hf
end
/-- Block g is just the cells cs of element type t, none frozen. -/
def Blk (w : World) (g : Nat) (t : TypeId) (cs : Array Value) : Prop := w.heap[g]? = some (.cells cs t (0, 0))
section
variable {w w' : World} {g : Nat} {t : TypeId} {cs : Array Value}
theorem Blk.lt (h : Blk w g t cs) : g < w.heap.size := by
  rcases Nat.lt_or_ge g w.heap.size with hlt | hge
  · exact hlt
  · unfold Blk at h; rw [Array.getElem?_eq_none hge] at h; cases h
theorem Blk.cell (h : Blk w g t cs) (i : Nat) : w.cell? ⟨g, i, none⟩ = cs[i]? := cell_of_row w g i cs t (0, 0) h
theorem Blk.frozen (h : Blk w g t cs) (i : Nat) : w.frozen? ⟨g, i, none⟩ = false := by
  unfold Blk at h
  simp [World.frozen?, h]
theorem Blk.new (w : World) (t : TypeId) (cs : Array Value) : Blk (w.alloc (.cells cs t)) w.heap.size t cs := heap_alloc_new w _
theorem Blk.new' {w : World} {t : TypeId} {cs : Array Value} {g : Nat} (hg : g = w.heap.size) : Blk (w.alloc (.cells cs t)) g t cs := by subst hg; exact heap_alloc_new w _
theorem Blk.alloc (h : Blk w g t cs) (o : Obj) : Blk (w.alloc o) g t cs := (Below.heap_alloc w o g h.lt).trans h
theorem Blk.drewN (h : Blk w g t cs) (n : Nat) : Blk (w.drewN n) g t cs := h
theorem Blk.set_ (h : Blk w g t cs) (i : Nat) (u : Value) : Blk (w.setCell ⟨g, i, none⟩ u) g t (cs.setIfInBounds i u) := by
  unfold Blk at h ⊢
  simp [World.setCell, Array.getElem?_modify, h]
theorem Blk.far (h : Blk w g t cs) {p : Addr} (hp : g ≠ p.block) (u : Value) : Blk (w.setCell p u) g t cs := (Below.heap_setCell w p u g hp).trans h
theorem Blk.below {B : Nat} (h : Blk w g t cs) (hb : Below B w w') (hg : g < B) : Blk w' g t cs := (hb.block g hg).trans h
theorem Blk.blw (h : Blk w g t cs) (hb : Below w.heap.size w w') : Blk w' g t cs := h.below hb h.lt
theorem Blk.grown {row : Option Nat} (h : Blk w g t cs) (hb : w.grownBy w' row) (hg : some g ≠ row) : Blk w' g t cs := (hb.block g h.lt hg).trans h
theorem Blk.set2 {a b : Value} (h : Blk w g t #[a, b]) (x y : Value) : Blk ((w.setCell ⟨g, 0, none⟩ x).setCell ⟨g, 1, none⟩ y) g t #[x, y] := (h.set_ 0 x).set_ 1 y
theorem Blk.set1 {a : Value} (h : Blk w g t #[a]) (x : Value) : Blk (w.setCell ⟨g, 0, none⟩ x) g t #[x] := h.set_ 0 x
theorem Blk.c1 {a : Value} (h : Blk w g t #[a]) : w.cell? ⟨g, 0, none⟩ = some a ∧ w.frozen? ⟨g, 0, none⟩ = false := ⟨h.cell 0, h.frozen 0⟩
theorem Blk.c2 {a b : Value} (h : Blk w g t #[a, b]) : w.cell? ⟨g, 0, none⟩ = some a ∧ w.cell? ⟨g, 1, none⟩ = some b ∧ w.frozen? ⟨g, 0, none⟩ = false ∧ w.frozen? ⟨g, 1, none⟩ = false := ⟨h.cell 0, h.cell 1, h.frozen 0, h.frozen 1⟩
theorem Blk.c3 {a b c : Value} (h : Blk w g t #[a, b, c]) : w.cell? ⟨g, 0, none⟩ = some a ∧ w.cell? ⟨g, 1, none⟩ = some b ∧ w.cell? ⟨g, 2, none⟩ = some c ∧ w.frozen? ⟨g, 0, none⟩ = false ∧ w.frozen? ⟨g, 1, none⟩ = false ∧ w.frozen? ⟨g, 2, none⟩ = false := ⟨h.cell 0, h.cell 1, h.cell 2, h.frozen 0, h.frozen 1, h.frozen 2⟩
end
theorem Rd.of_blk {w : World} {cs : Array Value} {E : TypeId} {sz n b : Nat} {f : Nat → Nat → Value} (h : Blk w b E cs) (hs : cs.size = n * sz) (hf : ∀ i j, i < n → j < sz → cs.getD (i * sz + j) undef = f i j) :
    Rd w sz (some ⟨b, 0, none⟩) n f := fun _ => ⟨b, 0, rfl, h.lt, fun i j hi hj => by
  have hlt : i * sz + j < cs.size := by
    rw [hs]
    have := Nat.mul_le_mul_right sz (show i + 1 ≤ n by omega)
    rw [Nat.add_mul] at this
    omega
  rw [Nat.zero_add, h.cell, ← hf i j hi hj]
  simp [Array.getD, hlt]⟩
/-- p holds of all numbers below n. -/
def allB (n : Nat) (p : Nat → Bool) : Bool := (List.range n).all p
/-- p holds of some number below n. -/
def anyB (n : Nat) (p : Nat → Bool) : Bool := (List.range n).any p
theorem allB_iff {n : Nat} {p : Nat → Bool} : allB n p = true ↔ ∀ i, i < n → p i = true := by simp [allB]
theorem anyB_iff {n : Nat} {p : Nat → Bool} : anyB n p = true ↔ ∃ i, i < n ∧ p i = true := by simp [anyB]
theorem anyB_false {n : Nat} {p : Nat → Bool} : anyB n p = false ↔ ∀ i, i < n → p i = false := by simp [anyB]
theorem not_anyB {n : Nat} {p : Nat → Bool} : (!anyB n p) = allB n fun i => !p i := by simp [anyB, allB, List.not_any_eq_all_not]
theorem allB_congr {n : Nat} {p q : Nat → Bool} (h : ∀ i, i < n → p i = q i) : allB n p = allB n q := by
  rw [Bool.eq_iff_iff, allB_iff, allB_iff]; exact ⟨fun a i hi => by rw [← h i hi]; exact a i hi, fun a i hi => by rw [h i hi]; exact a i hi⟩
theorem anyB_congr {n : Nat} {p q : Nat → Bool} (h : ∀ i, i < n → p i = q i) : anyB n p = anyB n q := by
  rw [Bool.eq_iff_iff, anyB_iff, anyB_iff]; exact ⟨fun ⟨i, hi, a⟩ => ⟨i, hi, by rw [← h i hi]; exact a⟩, fun ⟨i, hi, a⟩ => ⟨i, hi, by rw [h i hi]; exact a⟩⟩
theorem cell_lt {w : World} {b o : Nat} {v : Value} (h : w.cell? ⟨b, o, none⟩ = some v) : b < w.heap.size := World.block_lt_of_cell? w _ h
theorem lts {b n : Nat} (h : b < n) : b < n ∧ b < n + 1 ∧ b < n + 1 + 1 ∧ b < n + 1 + 1 + 1 ∧ b < n + 1 + 1 + 1 + 1 ∧ b < n + 1 + 1 + 1 + 1 + 1 ∧ b < n + 1 + 1 + 1 + 1 + 1 + 1 := by omega
theorem wrap_in {a : Int} (h : -9223372036854775808 ≤ a ∧ a ≤ 9223372036854775807) : IntKind.i64.wrap a = a := IntWalk.i64_in a h
/-! For a region that draws its order: what lies below the size at its start stays. -/
theorem keep_drew (W : World) : Below W.heap.size W W.drew := ⟨rfl, rfl, rfl, Nat.le_refl _, fun _ _ => rfl⟩
theorem keep_alloc {W w : World} (h : Below W.heap.size W w) (o : Obj) : Below W.heap.size W (w.alloc o) := h.alloc h.size o
theorem keep_set {W w : World} (h : Below W.heap.size W w) {p : Addr} (hp : W.heap.size ≤ p.block) (u : Value) : Below W.heap.size W (w.setCell p u) := h.setCell hp u
theorem keep_drewW {W w : World} (h : Below W.heap.size W w) : Below W.heap.size W w.drew := h.drew
theorem keep_drewN {W w : World} (h : Below W.heap.size W w) (n : Nat) : Below W.heap.size W (w.drewN n) := Below.drewN' h n
theorem keep_call {W w w1 : World} (hb : Below w.heap.size w w1) (h : Below W.heap.size W w) : Below W.heap.size W w1 := h.trans (hb.mono h.size)
theorem keep_rule (W : World) : ∀ w', Below W.heap.size W w' → ∀ b o, b < W.heap.size → w'.cell? ⟨b, o, none⟩ = W.cell? ⟨b, o, none⟩ := fun _ hb b o h => hb.cell (p := ⟨b, o, none⟩) h
theorem keep_rulef (W : World) : ∀ w', Below W.heap.size W w' → ∀ b o, b < W.heap.size → w'.frozen? ⟨b, o, none⟩ = W.frozen? ⟨b, o, none⟩ := fun _ hb b o h => hb.frozen (p := ⟨b, o, none⟩) h
/-- Calling function number g enters it. -/
def Enters (P : Program) (g : FuncId) : Prop := ∀ args w, (callFunc g args).run P w = .ok (.enter g args) w
theorem enters {P : Program} {f : FuncId} {fn : Func} {c : Code} (hf : P.funcs[f]? = some fn) (hname : (fn.name == "runtime.NumGoroutine") = false) (hb : fn.body = some c) : Enters P f := fun args w => by
  have h1 : fn.name ≠ "runtime.NumGoroutine" := by simpa using hname
  simp [callFunc, hf, h1, hb]
/-- A post that a call's result v, of which q is known, and the world behind it meet. -/
def Res (w : World) (q : Value → World → Prop) (e : Ending) (w' : World) : Prop := ∃ v, e = .returned v ∧ q v w' ∧ Below w.heap.size w w'
theorem Res.mk {w : World} {q : Value → World → Prop} {w' : World} {v : Value} (h : q v w') (hb : Below w.heap.size w w') : Res w q (.returned v) w' := ⟨v, rfl, h, hb⟩
/-- The exact value v is returned; old memory stays. -/
def Ret (w : World) (v : Value) (e : Ending) (w' : World) : Prop := e = .returned v ∧ Below w.heap.size w w'
end Go.Proofs.Ytckiagbllkdfdaa
