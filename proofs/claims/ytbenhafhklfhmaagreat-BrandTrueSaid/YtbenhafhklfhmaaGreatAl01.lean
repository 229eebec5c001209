/-
  Part 1 of the proof of alive_any,ready2_any,has2_any,choose2_any,inside2_any,place2_any,lw_names,lw_fits,lw_has,open_herd,open_looksB,open_calves,open_u8b,open_u32sB,open_u32b,law_post,TW.meet,TL.unb,TW.ocap,rLooks2_any,bBirths_any,rSign_any,lks_in: declarations of several texts, in build order. No condition on a program.
-/
import Derived.Test.YtbenhafhklfhmaaGreatRows
import Derived.WalkKit
import Derived.WalkSpells
import Derived.WalkLawsBesides
import Derived.Deep.QuietTactic
import Derived.BigQuiet
import Derived.OrdersHeld
import Derived.Maps.AppendAt
import Derived.OwnWalk
import Derived.Lib.SliceRun
import Derived.RangeFuncNested
import Derived.RangeFuncBound
import Derived.RangeFuncCalls
import Derived.RangeFuncLeaves
import Derived.OwnWalkIn
import Derived.TacticsInMore
import Derived.LoopNIn
import Derived.LoopIn
import Derived.OrdersIn
namespace Go.Proofs.YtbenhafhklfhmaaGreat
set_option linter.all false
set_option linter.unusedVariables false
set_option linter.unusedSimpArgs false
open Go.RowKit
theorem hid {p : Prop} (h : p) : Hid p := h
theorem ret_bool {a b : Bool} (h : b = a) : Ending.returned (.bool a) = .returned (.bool b) := by rw [h]
theorem ret_int {k : IntKind} {a b : Int} (h : b = a) : Ending.returned (.int k a) = .returned (.int k b) := by rw [h]
theorem bcell {B : Nat} {w w1 : World} (hb : Below B w w1) : (∀ b o, b < B → w1.cell? ⟨b, o, none⟩ = w.cell? ⟨b, o, none⟩) ∧ (∀ b o, b < B → w1.frozen? ⟨b, o, none⟩ = w.frozen? ⟨b, o, none⟩) :=
  ⟨fun b o h => hb.cell (p := ⟨b, o, none⟩) h, fun b o h => hb.frozen (p := ⟨b, o, none⟩) h⟩
def Rd (w : World) (sz : Nat) (A : Option Addr) (n : Nat) (f : Nat → Nat → Value) : Prop :=
  0 < n → ∃ b off, A = some ⟨b, off, none⟩ ∧ b < w.heap.size ∧ ∀ i j, i < n → j < sz → w.cell? ⟨b, off + i * sz + j, none⟩ = some (f i j)
section
variable {w wr : World} {sz n : Nat} {A : Option Addr} {f : Nat → Nat → Value}
theorem Rd.below (h : Rd w sz A n f) (hb : Below w.heap.size w wr) : Rd wr sz A n f := fun hn => by
  obtain ⟨b, off, h1, h2, h3⟩ := h hn
  exact ⟨b, off, h1, by have := hb.size; omega, fun i j hi hj => by rw [hb.cell (p := ⟨b, _, none⟩) h2]; exact h3 i j hi hj⟩
theorem Rd.alloc (h : Rd w sz A n f) (o : Obj) : Rd (w.alloc o) sz A n f := h.below ((Below.refl _ _).alloc (Nat.le_refl _) o)
theorem Rd.nil : Rd w sz A 0 f := fun h => absurd h (by omega)
theorem Rd.congr {g : Nat → Nat → Value} (h : Rd w sz A n f) (he : ∀ i j, i < n → j < sz → f i j = g i j) : Rd w sz A n g := fun hn => by
  obtain ⟨b, off, h1, h2, h3⟩ := h hn
  exact ⟨b, off, h1, h2, fun i j hi hj => by rw [← he i j hi hj]; exact h3 i j hi hj⟩
theorem Rd.atn {k : Nat} (h : Rd w sz A n f) (hk : k < n) (hb : Below w.heap.size w wr) :
    ∃ b off, A = some ⟨b, off, none⟩ ∧ b < w.heap.size ∧ ∀ j, j < sz → wr.cell? ⟨b, off + k * sz + j, none⟩ = some (f k j) := by
  obtain ⟨b, off, h1, h2, h3⟩ := h (by omega)
  exact ⟨b, off, h1, h2, fun j hj => by rw [hb.cell (p := ⟨b, _, none⟩) h2]; exact h3 k j hk hj⟩
theorem Rd.new (w : World) (cs : Array Value) (E : TypeId) (sz n : Nat) (hs : cs.size = n * sz) :
    Rd (w.alloc (.cells cs E)) sz (some ⟨w.heap.size, 0, none⟩) n (fun i j => cs.getD (i * sz + j) undef) := fun hn =>
  ⟨w.heap.size, 0, rfl, by simp, fun i j hi hj => by
    have hlt : i * sz + j < cs.size := by rw [hs]; calc i * sz + j < i * sz + sz := by omega
      _ = (i + 1) * sz := by rw [Nat.add_mul]; omega
      _ ≤ n * sz := Nat.mul_le_mul_right _ (by omega)
    rw [cell_of_row (w.alloc (.cells cs E)) w.heap.size _ cs E (0, 0) (heap_alloc_new w _)]
    simp [Array.getD, hlt]⟩
theorem Rd.of_new {w : World} {cs : Array Value} {E : TypeId} {sz n b : Nat} {f : Nat → Nat → Value} (hb : b = w.heap.size) (hs : cs.size = n * sz) (hf : ∀ i j, i < n → j < sz → cs.getD (i * sz + j) undef = f i j) :
    Rd (w.alloc (.cells cs E)) sz (some ⟨b, 0, none⟩) n f := by subst hb; exact (Rd.new w cs E sz n hs).congr hf
end
def Blk (w : World) (g : Nat) (t : TypeId) (cs : Array Value) : Prop := w.heap[g]? = some (.cells cs t (0, 0))
section
variable {w w' : World} {g : Nat} {t : TypeId} {cs : Array Value}
theorem Blk.lt (h : Blk w g t cs) : g < w.heap.size := by
  rcases Nat.lt_or_ge g w.heap.size with hlt | hge
  · exact hlt
  · unfold Blk at h; rw [Array.getElem?_eq_none hge] at h; cases h
theorem Blk.cell (h : Blk w g t cs) (i : Nat) : w.cell? ⟨g, i, none⟩ = cs[i]? := cell_of_row w g i cs t (0, 0) h
theorem Blk.frozen (h : Blk w g t cs) (i : Nat) : w.frozen? ⟨g, i, none⟩ = false := by
  unfold Blk at h
  simp [World.frozen?, h]
theorem Blk.new (w : World) (t : TypeId) (cs : Array Value) : Blk (w.alloc (.cells cs t)) w.heap.size t cs := heap_alloc_new w _
theorem Blk.new' {w : World} {t : TypeId} {cs : Array Value} {g : Nat} (hg : g = w.heap.size) : Blk (w.alloc (.cells cs t)) g t cs := by subst hg; exact heap_alloc_new w _
theorem Blk.alloc (h : Blk w g t cs) (o : Obj) : Blk (w.alloc o) g t cs := (Below.heap_alloc w o g h.lt).trans h
theorem Blk.set_ (h : Blk w g t cs) (i : Nat) (u : Value) : Blk (w.setCell ⟨g, i, none⟩ u) g t (cs.setIfInBounds i u) := by
  unfold Blk at h ⊢
  simp [World.setCell, Array.getElem?_modify, h]
theorem Blk.far (h : Blk w g t cs) {p : Addr} (hp : g ≠ p.block) (u : Value) : Blk (w.setCell p u) g t cs := (Below.heap_setCell w p u g hp).trans h
theorem Blk.below {B : Nat} (h : Blk w g t cs) (hb : Below B w w') (hg : g < B) : Blk w' g t cs := (hb.block g hg).trans h
theorem Blk.blw (h : Blk w g t cs) (hb : Below w.heap.size w w') : Blk w' g t cs := h.below hb h.lt
theorem Blk.grown {row : Option Nat} (h : Blk w g t cs) (hb : w.grownBy w' row) (hg : some g ≠ row) : Blk w' g t cs := (hb.block g h.lt hg).trans h
theorem Blk.set2 {a b : Value} (h : Blk w g t #[a, b]) (x y : Value) : Blk ((w.setCell ⟨g, 0, none⟩ x).setCell ⟨g, 1, none⟩ y) g t #[x, y] := (h.set_ 0 x).set_ 1 y
theorem Blk.set1 {a : Value} (h : Blk w g t #[a]) (x : Value) : Blk (w.setCell ⟨g, 0, none⟩ x) g t #[x] := h.set_ 0 x
theorem Blk.c1 {a : Value} (h : Blk w g t #[a]) : w.cell? ⟨g, 0, none⟩ = some a ∧ w.frozen? ⟨g, 0, none⟩ = false := ⟨h.cell 0, h.frozen 0⟩
theorem Blk.c2 {a b : Value} (h : Blk w g t #[a, b]) : w.cell? ⟨g, 0, none⟩ = some a ∧ w.cell? ⟨g, 1, none⟩ = some b ∧ w.frozen? ⟨g, 0, none⟩ = false ∧ w.frozen? ⟨g, 1, none⟩ = false := ⟨h.cell 0, h.cell 1, h.frozen 0, h.frozen 1⟩
theorem Blk.c3 {a b c : Value} (h : Blk w g t #[a, b, c]) : w.cell? ⟨g, 0, none⟩ = some a ∧ w.cell? ⟨g, 1, none⟩ = some b ∧ w.cell? ⟨g, 2, none⟩ = some c ∧ w.frozen? ⟨g, 0, none⟩ = false ∧ w.frozen? ⟨g, 1, none⟩ = false ∧ w.frozen? ⟨g, 2, none⟩ = false := ⟨h.cell 0, h.cell 1, h.cell 2, h.frozen 0, h.frozen 1, h.frozen 2⟩
end
theorem Rd.of_blk {w : World} {cs : Array Value} {E : TypeId} {sz n b : Nat} {f : Nat → Nat → Value} (h : Blk w b E cs) (hs : cs.size = n * sz) (hf : ∀ i j, i < n → j < sz → cs.getD (i * sz + j) undef = f i j) :
    Rd w sz (some ⟨b, 0, none⟩) n f := fun _ => ⟨b, 0, rfl, h.lt, fun i j hi hj => by
  have hlt : i * sz + j < cs.size := by
    rw [hs]
    have := Nat.mul_le_mul_right sz (show i + 1 ≤ n by omega)
    rw [Nat.add_mul] at this
    omega
  rw [Nat.zero_add, h.cell, ← hf i j hi hj]
  simp [Array.getD, hlt]⟩
def allB (n : Nat) (p : Nat → Bool) : Bool := (List.range n).all p
def anyB (n : Nat) (p : Nat → Bool) : Bool := (List.range n).any p
theorem allB_iff {n : Nat} {p : Nat → Bool} : allB n p = true ↔ ∀ i, i < n → p i = true := by simp [allB]
theorem anyB_iff {n : Nat} {p : Nat → Bool} : anyB n p = true ↔ ∃ i, i < n ∧ p i = true := by simp [anyB]
theorem anyB_false {n : Nat} {p : Nat → Bool} : anyB n p = false ↔ ∀ i, i < n → p i = false := by simp [anyB]
theorem not_anyB {n : Nat} {p : Nat → Bool} : (!anyB n p) = allB n fun i => !p i := by simp [anyB, allB, List.not_any_eq_all_not]
theorem allB_congr {n : Nat} {p q : Nat → Bool} (h : ∀ i, i < n → p i = q i) : allB n p = allB n q := by
  rw [Bool.eq_iff_iff, allB_iff, allB_iff]; exact ⟨fun a i hi => by rw [← h i hi]; exact a i hi, fun a i hi => by rw [h i hi]; exact a i hi⟩
theorem cell_lt {w : World} {b o : Nat} {v : Value} (h : w.cell? ⟨b, o, none⟩ = some v) : b < w.heap.size := World.block_lt_of_cell? w _ h
theorem lts {b n : Nat} (h : b < n) : b < n ∧ b < n + 1 ∧ b < n + 1 + 1 ∧ b < n + 1 + 1 + 1 ∧ b < n + 1 + 1 + 1 + 1 ∧ b < n + 1 + 1 + 1 + 1 + 1 ∧ b < n + 1 + 1 + 1 + 1 + 1 + 1 := by omega
theorem wrap_in {a : Int} (h : -9223372036854775808 ≤ a ∧ a ≤ 9223372036854775807) : IntKind.i64.wrap a = a := IntWalk.i64_in a h
theorem keep_drew (W : World) : Below W.heap.size W W.drew := ⟨rfl, rfl, rfl, Nat.le_refl _, fun _ _ => rfl⟩
theorem keep_alloc {W w : World} (h : Below W.heap.size W w) (o : Obj) : Below W.heap.size W (w.alloc o) := h.alloc h.size o
theorem keep_drewW {W w : World} (h : Below W.heap.size W w) : Below W.heap.size W w.drew := h.drew
theorem keep_rule (W : World) : ∀ w', Below W.heap.size W w' → ∀ b o, b < W.heap.size → w'.cell? ⟨b, o, none⟩ = W.cell? ⟨b, o, none⟩ := fun _ hb b o h => hb.cell (p := ⟨b, o, none⟩) h
theorem keep_rulef (W : World) : ∀ w', Below W.heap.size W w' → ∀ b o, b < W.heap.size → w'.frozen? ⟨b, o, none⟩ = W.frozen? ⟨b, o, none⟩ := fun _ hb b o h => hb.frozen (p := ⟨b, o, none⟩) h
def Enters (P : Program) (g : FuncId) : Prop := ∀ args w, (callFunc g args).run P w = .ok (.enter g args) w
theorem enters {P : Program} {f : FuncId} {fn : Func} {c : Code} (hf : P.funcs[f]? = some fn) (hname : (fn.name == "runtime.NumGoroutine") = false) (hb : fn.body = some c) : Enters P f := fun args w => by
  have h1 : fn.name ≠ "runtime.NumGoroutine" := by simpa using hname
  simp [callFunc, hf, h1, hb]
def Ret (w : World) (v : Value) (e : Ending) (w' : World) : Prop := e = .returned v ∧ Below w.heap.size w w'
end Go.Proofs.YtbenhafhklfhmaaGreat
namespace Go.Proofs.YtbenhafhklfhmaaGreat
set_option linter.all false
set_option linter.unusedVariables false
set_option linter.unusedSimpArgs false
open Go.RowKit
section
variable {P : Program} {ops : Array Oper} {Q : Exit → Act → World → Prop}
def tailPost (P : Program) (ops : Array Oper) (Q : Exit → Act → World → Prop) (n : Nat) : Exit → Act → World → Prop := fun e a w =>
  match e with
  | .normal => wpOps P ops Q (List.range' n (ops.size - n)) a w
  | e => Q e a w
def frontOf (ops : Array Oper) (n : Nat) : Array Oper := (ops.toList.take n).toArray
theorem frontOf_get {n i : Nat} (hi : i < n) : (frontOf ops n)[i]? = ops[i]? := by simp [frontOf, hi]
theorem frontOf_ge {n i : Nat} (hi : n ≤ i) : (frontOf ops n)[i]? = none := by simp [frontOf, List.getElem?_take]; omega
def direct (o : Oper) : Nat := o.after.toList.foldl (fun m e => if Region.binds .any e then m ||| 2 ^ e.on else m) 0
def closeBack (ops : Array Oper) : Nat → Nat → Nat
  | 0, S => S
  | j + 1, S => closeBack ops j (if S.testBit j then (match ops[j]? with | none => S | some o => S ||| direct o) else S)
theorem direct_spec {o : Oper} {j : Nat} (h : (direct o).testBit j = true) : ∃ e ∈ o.after, Region.binds .any e = true ∧ e.on = j := by
  have key : ∀ (l : List Edge) (m : Nat), (l.foldl (fun m e => if Region.binds .any e then m ||| 2 ^ e.on else m) m).testBit j = true → m.testBit j = true ∨ ∃ e ∈ l, Region.binds .any e = true ∧ e.on = j := by
    intro l
    induction l with
    | nil => intro m h; exact .inl h
    | cons e l ih =>
      intro m h
      rw [List.foldl_cons] at h
      rcases ih _ h with h | ⟨e', he', h'⟩
      · split at h
        · rename_i hb
          rw [Nat.testBit_or, Nat.testBit_two_pow, Bool.or_eq_true, decide_eq_true_eq] at h
          rcases h with h | h
          · exact .inl h
          · exact .inr ⟨e, by simp, hb, h⟩
        · exact .inl h
      · exact .inr ⟨e', by simp [he'], h'⟩
  rcases key _ _ h with h | ⟨e, he, h'⟩
  · simp at h
  · exact ⟨e, by simpa using he, h'⟩
def Closed (ops : Array Oper) (L : Array Bool) : Prop := ∀ i o, L.getD i true = true → i < L.size → ops[i]? = some o → ∀ e ∈ o.after, Region.binds .any e = true → L.getD e.on true = true
theorem closeBack_spec {L : Array Bool} (hL : Closed ops L) (hs : ops.size ≤ L.size) : ∀ (j S : Nat), (∀ q, S.testBit q = true → L.getD q true = true) → ∀ q, (closeBack ops j S).testBit q = true → L.getD q true = true
  | 0, S, h => h
  | j + 1, S, h => by
    refine closeBack_spec hL hs j _ ?_
    split
    · rename_i hb
      cases ho : ops[j]? with
      | none => exact h
      | some o =>
        intro q hq
        simp only [Nat.testBit_or, Bool.or_eq_true] at hq
        rcases hq with hq | hq
        · exact h q hq
        · obtain ⟨e, he, hbi, rfl⟩ := direct_spec hq
          exact hL j o (h j hb) (Nat.lt_of_lt_of_le (Array.getElem?_eq_some_iff.1 ho).1 hs) ho e he hbi
    · exact h
def tailOk (ops : Array Oper) (n : Nat) : Bool := n ≤ ops.size && (List.range ops.size).all fun i => match ops[i]? with
  | none => true
  | some o => (o.after.all fun e => !Region.binds .any e || decide (e.on < i)) && (if i < n then (match o.guard with | none => true | some (g, _) => decide (g < n)) else (List.range i).all fun j => (closeBack ops i (direct o)).testBit j)
structure TailOk (ops : Array Oper) (n : Nat) : Prop where
  le : n ≤ ops.size
  low : ∀ i o, ops[i]? = some o → ∀ e ∈ o.after, Region.binds .any e = true → e.on < i
  guard : ∀ i o g b, i < n → ops[i]? = some o → o.guard = some (g, b) → g < n
  wait : ∀ i o j, n ≤ i → ops[i]? = some o → j < i → (closeBack ops i (direct o)).testBit j = true
theorem tailOk_spec {n : Nat} (h : tailOk ops n = true) : TailOk ops n := by
  simp only [tailOk, Bool.and_eq_true, decide_eq_true_eq, List.all_eq_true, List.mem_range] at h
  obtain ⟨h0, h⟩ := h
  have h' : ∀ i o, ops[i]? = some o → ((o.after.all fun e => !Region.binds .any e || decide (e.on < i)) && (if i < n then (match o.guard with | none => true | some (g, _) => decide (g < n)) else (List.range i).all fun j => (closeBack ops i (direct o)).testBit j)) = true := fun i o ho => by
    have := h i (Array.getElem?_eq_some_iff.1 ho).1
    simpa only [ho] using this
  refine ⟨h0, fun i o ho e he hb => ?_, fun i o g b hi ho hg => ?_, fun i o j hi ho hj => ?_⟩
  · have := (Bool.and_eq_true _ _ ▸ h' i o ho).1
    have := Array.all_eq_true_iff_forall_mem.1 this e he
    simpa [hb] using this
  · have := (Bool.and_eq_true _ _ ▸ h' i o ho).2
    rw [if_pos hi, hg] at this
    simpa using this
  · have := (Bool.and_eq_true _ _ ▸ h' i o ho).2
    rw [if_neg (by omega)] at this
    exact List.all_eq_true.1 this j (List.mem_range.2 hj)
theorem getD_up {L : Array Bool} {q : Nat} {d : Bool} (h : L.getD q d = true) : L.getD q true = true := by
  rw [Array.getD_eq_getD_getElem?] at h ⊢
  cases e : L[q]? with
  | none => rfl
  | some b => rw [e] at h; exact h
theorem TailOk.listed {n i j : Nat} {o : Oper} {L : Array Bool} (T : TailOk ops n) (hc : Closed ops L) (hs : ops.size ≤ L.size) (hi : n ≤ i) (ho : ops[i]? = some o) (hj : j < i)
    (hr : ∀ e ∈ o.after, Region.binds .any e = true → L.getD e.on true = true) : L.getD j true = true :=
  closeBack_spec hc hs i (direct o) (fun q hq => by obtain ⟨e, he, hb, rfl⟩ := direct_spec hq; exact hr e he hb) j (T.wait i o j hi ho hj)
theorem getD_set {L : Array Bool} {i r : Nat} (h : L.getD r true = true) : (L.setIfInBounds i true).getD r true = true := by
  rw [Array.getD_eq_getD_getElem?] at h ⊢
  rw [Array.getElem?_setIfInBounds]
  split
  · split <;> rfl
  · exact h
theorem Closed.set {L : Array Bool} {i : Nat} (h : Closed ops L) (hr : ∀ o, ops[i]? = some o → ∀ e ∈ o.after, Region.binds .any e = true → L.getD e.on true = true) : Closed ops (L.setIfInBounds i true) := by
  intro q o hq hs ho e he hb
  refine getD_set ?_
  by_cases hqi : q = i
  · subst hqi; exact hr o ho e he hb
  · refine h q o ?_ (by simpa using hs) ho e he hb
    rw [Array.getD_eq_getD_getElem?] at hq ⊢
    rwa [Array.getElem?_setIfInBounds_ne (Ne.symm hqi)] at hq
theorem wpOp_front {n i : Nat} (T : TailOk ops n) (hi : i < n) {K K' : Act → World → Prop} {a : Act} {w : World} (hK : ∀ a w, K a w → K' a w)
    (h : wpOp P (frontOf ops n) (tailPost P ops Q n) i K a w) : wpOp P ops Q i K' a w := by
  unfold wpOp at *
  rw [frontOf_get hi] at h
  cases ho : ops[i]? with
  | none => simp only [ho] at h ⊢; exact hK _ _ h
  | some o =>
    simp only [ho] at h ⊢
    have hy : Region.wanted o (yielded (frontOf ops n) a.tmps) = Region.wanted o (yielded ops a.tmps) := by
      unfold Region.wanted
      cases hg : o.guard with
      | none => rfl
      | some gw =>
        obtain ⟨g, b⟩ := gw
        simp only [yielded, frontOf_get (T.guard i o g b hi ho hg)]
    rw [hy] at h
    split
    · rename_i hw
      rw [if_pos hw] at h
      rcases h with h | ⟨hA, hL⟩
      · refine .inl ?_
        unfold Oper.wp at *
        generalize (execOp a.eval o).run P w = r at *
        cases r with
        | ok x w' =>
          cases x <;> simp only [Oper.upon] at h ⊢ <;> first
            | exact hK _ _ h
            | exact Calls.mono h (fun e w'' he => by
                cases e with
                | returned v => exact hK _ _ he
                | panicked c => exact he
                | outgrown => obtain ⟨x, y, z⟩ := he; exact ⟨x, y, z⟩)
            | exact Rows.mono h (fun _ _ he => hK _ _ he)
        | halt x w' => cases x <;> simp only [Oper.upon] at h ⊢ <;> exact h
      · obtain ⟨x, y, z⟩ := hL
        exact .inr ⟨hA, x, y, z⟩
    · rename_i hw
      rw [if_neg hw] at h
      exact hK _ _ h
theorem getD_some {l : Array Bool} {i : Nat} {b d : Bool} (h : l[i]? = some b) : l.getD i d = b := by simp [Array.getD_eq_getD_getElem?, h]
theorem tail_any {n : Nat} (T : TailOk ops n) : ∀ (k fuel j : Nat) (L : Array Bool) (a : Act) (w : World), k ≤ fuel → n ≤ j → j + k = ops.size →
    (∀ i, i < ops.size → L[i]? = some (decide (i < j))) → wpOps P ops Q (List.range' j k) a w → wpAny P .any ops Q fuel L a w := by
  intro k
  induction k with
  | zero =>
    intro fuel j L a w _ _ hj hL h
    refine wpAny_done ?_ h fuel
    apply List.eq_nil_iff_forall_not_mem.2
    intro i hi
    obtain ⟨h1, o, ho, _⟩ := mem_ready.1 hi
    have hlt := (Array.getElem?_eq_some_iff.1 ho).1
    rw [getD_some (hL i hlt)] at h1
    simp at h1; omega
  | succ k ih =>
    intro fuel j L a w hf hn hj hL h
    obtain ⟨fuel, rfl⟩ : ∃ f, fuel = f + 1 := ⟨fuel - 1, by omega⟩
    have hjl : j < ops.size := by omega
    have ho : ops[j]? = some ops[j] := Array.getElem?_eq_getElem hjl
    have hr : j ∈ Region.ready .any ops L := mem_ready.2 ⟨by rw [getD_some (hL j hjl)]; simp, ops[j], ho, fun e he hb => by
      have := T.low j _ ho e he hb
      rw [getD_some (hL e.on (by omega))]; simpa using this⟩
    refine ⟨fun h0 => (by rw [h0] at hr; cases hr), fun i hi => ?_⟩
    obtain ⟨h1, o, hoi, hall⟩ := mem_ready.1 hi
    have hlt := (Array.getElem?_eq_some_iff.1 hoi).1
    rw [getD_some (hL i hlt)] at h1
    simp only [decide_eq_false_iff_not, Nat.not_lt] at h1
    have hij : i = j := by
      rcases Nat.lt_or_ge j i with hlt' | hge
      · have hsz : ops.size ≤ L.size := by
          refine Nat.le_of_not_lt fun hlt2 => ?_
          have := hL L.size hlt2
          simp at this
        have := T.listed (L := L) (fun q o' hq hqs hoq e he hb => by
          have hqo : q < ops.size := (Array.getElem?_eq_some_iff.1 hoq).1
          have hlo := T.low q o' hoq e he hb
          rw [getD_some (hL q hqo)] at hq
          rw [getD_some (hL e.on (by omega))]
          simp at hq ⊢; omega) hsz (by omega) hoi hlt' (fun e he hb => getD_up (hall e he hb))
        rw [getD_some (hL j hjl)] at this
        simp at this
      · omega
    subst hij
    rw [List.range'_succ, wpOps_cons] at h
    refine wpOp_mono (fun a' w' h' => ih fuel (i + 1) _ a' w' (by omega) (by omega) (by omega) (fun q hq => ?_) h') h
    by_cases hqi : q = i
    · subst hqi
      have hs : q < L.size := by
        rcases Nat.lt_or_ge q L.size with h' | h'
        · exact h'
        · have := hL q hq; rw [Array.getElem?_eq_none h'] at this; cases this
      simp [Array.getElem?_setIfInBounds_self_of_lt hs]
    · rw [Array.getElem?_setIfInBounds_ne (Ne.symm hqi), hL q hq]
      congr 1
      simp only [decide_eq_decide]
      omega
theorem front_any {n : Nat} (T : TailOk ops n) : ∀ (fuel : Nat) (l L : Array Bool) (a : Act) (w : World), l.size = n → L.size = ops.size →
    (∀ i, i < n → L[i]? = l[i]?) → (∀ i, n ≤ i → i < ops.size → L[i]? = some false) → Closed ops L →
    wpAny P .any (frontOf ops n) (tailPost P ops Q n) fuel l a w → wpAny P .any ops Q (fuel + (ops.size - n)) L a w := by
  have hle := T.le
  intro fuel
  induction fuel with
  | zero =>
    intro l L a w hl hLs h1 h2 hc h
    have hall : ∀ i, i < n → l[i]? = some true := fun i => by
      induction i using Nat.strongRecOn with
      | ind i ihi =>
        intro hi
        have hs : l[i]? = some l[i] := Array.getElem?_eq_getElem (by omega)
        cases hb : l[i] with
        | true => rw [hs, hb]
        | false =>
          have : i ∈ Region.ready .any (frontOf ops n) l := mem_ready.2 ⟨by rw [getD_some (hs.trans (by rw [hb]))], ops[i], by rw [frontOf_get hi]; exact Array.getElem?_eq_getElem (by omega), fun e he hbi => by
            have hlo := T.low i _ (Array.getElem?_eq_getElem (by omega)) e he hbi
            rw [getD_some (ihi e.on hlo (by omega))]⟩
          rw [h.1] at this; cases this
    have hq : wpOps P ops Q (List.range' n (ops.size - n)) a w := h.2
    exact tail_any T (ops.size - n) _ n L a w (by omega) (Nat.le_refl _) (by omega) (fun i hi => by
      by_cases hin : i < n
      · rw [h1 i hin, hall i hin]; simp [hin]
      · rw [h2 i (by omega) hi]; simp [hin]) hq
  | succ fuel ih =>
    intro l L a w hl hLs h1 h2 hc h
    by_cases hall : ∀ i, i < n → l[i]? = some true
    · have hq : wpOps P ops Q (List.range' n (ops.size - n)) a w := h.1 (by
        apply List.eq_nil_iff_forall_not_mem.2
        intro i hi
        obtain ⟨h3, o, ho, _⟩ := mem_ready.1 hi
        rcases Nat.lt_or_ge i n with hin | hin
        · rw [getD_some (hall i hin)] at h3; cases h3
        · rw [frontOf_ge hin] at ho; cases ho)
      exact tail_any T (ops.size - n) _ n L a w (by omega) (Nat.le_refl _) (by omega) (fun i hi => by
        by_cases hin : i < n
        · rw [h1 i hin, hall i hin]; simp [hin]
        · rw [h2 i (by omega) hi]; simp [hin]) hq
    · have hex : ∃ i, i < n ∧ l[i]? = some false ∧ ∀ j, j < i → l[j]? = some true := by
        refine Classical.byContradiction fun hno => hall fun i => ?_
        induction i using Nat.strongRecOn with
        | ind i ihi =>
          intro hi
          have hs : l[i]? = some l[i] := Array.getElem?_eq_getElem (by omega)
          cases hb : l[i] with
          | true => rw [hs, hb]
          | false => exact absurd ⟨i, hi, hs.trans (by rw [hb]), fun j hj => ihi j hj (by omega)⟩ hno
      obtain ⟨u, hu, huf, hub⟩ := hex
      have hrL : u ∈ Region.ready .any ops L := mem_ready.2 ⟨by rw [getD_some ((h1 u hu).trans huf)], ops[u], Array.getElem?_eq_getElem (by omega), fun e he hbi => by
        have hlo := T.low u _ (Array.getElem?_eq_getElem (by omega)) e he hbi
        rw [getD_some ((h1 e.on (by omega)).trans (hub e.on hlo))]⟩
      rw [show fuel + 1 + (ops.size - n) = (fuel + (ops.size - n)) + 1 by omega]
      refine ⟨fun h0 => (by rw [h0] at hrL; cases hrL), fun i hi => ?_⟩
      obtain ⟨h3, o, ho, hw⟩ := mem_ready.1 hi
      have hin : i < n := by
        rcases Nat.lt_or_ge i n with hin | hin
        · exact hin
        · have := T.listed (j := u) hc (Nat.le_of_eq hLs.symm) hin ho (by omega) (fun e he hb => getD_up (hw e he hb))
          rw [getD_some ((h1 u hu).trans huf)] at this; cases this
      have hrf : i ∈ Region.ready .any (frontOf ops n) l := mem_ready.2 ⟨by
          have hs : l[i]? = some l[i] := Array.getElem?_eq_getElem (by omega)
          rw [getD_some ((h1 i hin).trans hs)] at h3
          rw [getD_some hs]; exact h3, o, by rw [frontOf_get hin]; exact ho, fun e he hb => by
          have hlo := T.low i o ho e he hb
          have hs : l[e.on]? = some l[e.on] := Array.getElem?_eq_getElem (by omega)
          have := hw e he hb
          rw [getD_some ((h1 e.on (by omega)).trans hs)] at this
          rw [getD_some hs]; exact this⟩
      refine wpOp_front T hin (fun a' w' h' => ih _ _ a' w' (by simpa using hl) (by simpa using hLs) (fun q hq => ?_) (fun q hq hq' => ?_) (hc.set fun o' ho' e he hb => by rw [ho] at ho'; cases ho'; exact getD_up (hw e he hb)) h') (h.2 i hrf)
      · by_cases hqi : q = i
        · subst hqi
          rw [Array.getElem?_setIfInBounds_self_of_lt (by omega), Array.getElem?_setIfInBounds_self_of_lt (by omega)]
        · rw [Array.getElem?_setIfInBounds_ne (Ne.symm hqi), Array.getElem?_setIfInBounds_ne (Ne.symm hqi)]; exact h1 q hq
      · rw [Array.getElem?_setIfInBounds_ne (by omega)]; exact h2 q hq hq'
theorem wp_region_front {id n : Nat} {a : Act} {w : World} (hm : P.follows .mixedOrders = true) (hT : tailOk ops n = true)
    (h : Below w.heap.size w w.drew → wpAnyH P .any (frontOf ops n) (tailPost P ops Q n) (Below w.heap.size w) n (Array.replicate n false) a w.drew) : (Code.region id ops true).wp P Q a w := by
  have T := tailOk_spec hT
  refine wp_region_any hm ?_
  have := front_any T n (Array.replicate n false) (Array.replicate ops.size false) a w.drew (by simp) (by simp) (fun i hi => by simp [Array.getElem?_replicate, hi]; have := T.le; omega) (fun i _ hi => by simp [hi]) (fun i o h0 hs _ _ _ _ => by simp at hs; rw [Array.getD_eq_getD_getElem?, Array.getElem?_replicate, if_pos hs] at h0; cases h0) (wpAny_of_held _ _ _ _ (h (keep_drew w)))
  rw [show n + (ops.size - n) = ops.size by have := T.le; omega] at this
  exact this
end
end Go.Proofs.YtbenhafhklfhmaaGreat
namespace Go.Proofs.YtbenhafhklfhmaaGreat
set_option linter.all false
set_option linter.unusedVariables false
set_option linter.unusedSimpArgs false
open Go.RowKit
structure Fl where
  i : Nat
  d : Tmp
  ty : TypeId
  z : Array Value
abbrev Ext (w w' : World) : Prop := Below w.heap.size w w'
theorem Ext.trans {a b c : World} (h : Ext a b) (k : Ext b c) : Ext a c := Below.trans h (k.mono h.size)
def puts (D : List (Fl × Nat)) (a : Act) : Act := D.foldl (fun a p => a.put (some p.1.d) (.pointer (some ⟨p.2, 0, none⟩))) a
def FlOk (B : Nat) (w : World) (N : List (Nat × Nat)) (D : List (Fl × Nat)) : Prop :=
  (∀ p ∈ D, B ≤ p.2 ∧ Blk w p.2 p.1.ty p.1.z ∧ ∀ q ∈ N, p.2 < q.1 ∨ q.2 ≤ p.2) ∧ (D.map (·.2)).Nodup
section
variable {P : Program} {ops : Array Oper} {Q : Exit → Act → World → Prop}
def wpChain (P : Program) (ops : Array Oper) (Q : Exit → Act → World → Prop) (K : List (Nat × Nat) → Act → World → Prop) : List Nat → List (Nat × Nat) → Act → World → Prop
  | [], N, a, w => ∀ w', Ext w w' → K N a w'
  | c :: cs, N, a, w => ∀ w', Ext w w' → wpOp P ops Q c (fun a' w'' => Ext w' w'' ∧ wpChain P ops Q K cs ((w'.heap.size, w''.heap.size) :: N) a' w'') a w'
theorem wpChain_ext {K : List (Nat × Nat) → Act → World → Prop} {cs : List Nat} {N : List (Nat × Nat)} {a : Act} {w w1 : World} (h : wpChain P ops Q K cs N a w) (he : Ext w w1) : wpChain P ops Q K cs N a w1 := by
  cases cs with
  | nil => exact fun w' h' => h w' (Ext.trans he h')
  | cons c cs => exact fun w' h' => h w' (Ext.trans he h')
theorem wpOp_put1 {c : Nat} {oc : Oper} {d : Tmp} {v : Value} (hc : ops[c]? = some oc) (hl : d ∉ oc.looksAt ops) (hd : oc.dst ≠ some d) (hs : ∀ cs b, oc.op ≠ .select cs b)
    (hQ : ∀ ch a w v, Q (.panic ch) a w → Q (.panic ch) (a.put (some d) v) w) {K : Act → World → Prop} {a : Act} {w : World} (h : wpOp P ops Q c K a w) :
    wpOp P ops Q c (fun a' w' => ∃ a1, a' = a1.put (some d) v ∧ K a1 w') (a.put (some d) v) w := by
  have hl' : ∀ d', some d = some d' → d' ∉ oc.looksAt ops := fun d' e => by cases e; exact hl
  have hcm : ∀ (a : Act) (u : Value), (a.put (some d) v).put oc.dst u = (a.put oc.dst u).put (some d) v := fun a u => Act.put_comm a v u (fun d' e => by cases e; exact hd)
  unfold wpOp at *
  simp only [hc] at h ⊢
  rw [wanted_put oc a (some d) v hl']
  split
  · rename_i hw
    rw [if_pos hw] at h
    rcases h with h | ⟨hA, hL⟩
    · refine .inl ?_
      unfold Oper.wp at *
      rw [execOp_put oc hs a (some d) v hl']
      generalize (execOp a.eval oc).run P w = r at *
      cases r with
      | ok n w' =>
        cases n <;> simp only [Oper.upon] at h ⊢
        case value u => exact ⟨_, hcm a u, h⟩
        case skip => exact ⟨_, hcm a _, h⟩
        case defer df => exact ⟨_, by rw [Act.put_defers, hcm], h⟩
        case enter f args =>
          refine Calls.mono h fun e w'' he => ?_
          cases e with
          | returned u => exact ⟨_, hcm a u, he⟩
          | panicked ch => exact hQ _ _ _ _ he
          | outgrown => exact he
        case row row args => exact Rows.mono h fun u w'' he => ⟨_, hcm a u, he⟩
      | halt x w' =>
        cases x <;> simp only [Oper.upon] at h ⊢
        case panic u => exact hQ _ _ _ _ h
    · exact .inr ⟨by unfold Oper.asks at *; rw [execOp_put oc hs a (some d) v hl']; exact hA, hL⟩
  · rename_i hw
    rw [if_neg hw] at h
    exact ⟨_, hcm a _, h⟩
theorem wpOp_puts {c : Nat} {oc : Oper} (hc : ops[c]? = some oc) (hs : ∀ cs b, oc.op ≠ .select cs b) (hQ : ∀ d ch a w v, Q (.panic ch) a w → Q (.panic ch) (a.put (some d) v) w) :
    ∀ (D : List (Fl × Nat)) (a : Act) (w : World) (K : Act → World → Prop), (∀ p ∈ D, p.1.d ∉ oc.looksAt ops ∧ oc.dst ≠ some p.1.d) → wpOp P ops Q c K a w →
      wpOp P ops Q c (fun a' w' => ∃ a1, a' = puts D a1 ∧ K a1 w') (puts D a) w := by
  intro D
  induction D with
  | nil => intro a w K _ h; exact wpOp_mono (fun a w h => ⟨a, rfl, h⟩) h
  | cons p D ih =>
    intro a w K hap h
    have h1 := wpOp_put1 (v := .pointer (some ⟨p.2, 0, none⟩)) hc (hap p (by simp)).1 (hap p (by simp)).2 hs (hQ _) h
    have h2 := ih _ w _ (fun q hq => hap q (by simp [hq])) h1
    exact wpOp_mono (fun a' w' ⟨a1, e1, a2, e2, hk⟩ => ⟨a2, by rw [e1, e2]; rfl, hk⟩) h2
theorem puts_perm {D D' : List (Fl × Nat)} (h : D.Perm D') (hn : (D.map (·.1.d)).Nodup) (a : Act) : puts D a = puts D' a := by
  induction h generalizing a with
  | nil => rfl
  | cons p _ ih => exact ih (by simp at hn; exact hn.2) _
  | swap p q l =>
    simp only [List.map_cons, List.nodup_cons, List.mem_cons, not_or] at hn
    simp only [puts, List.foldl_cons]
    rw [Act.put_comm a _ _ (fun d e => by cases e; exact fun h => hn.1.1 (by injection h with h; exact h.symm))]
  | trans h1 _ ih1 ih2 => rw [ih1 hn, ih2 ((h1.map _).nodup_iff.1 hn)]
theorem perm_map_lift {α β : Type} {f : α → β} {x m : List β} (h : x.Perm m) : ∀ l : List α, l.map f = x → ∃ l', l.Perm l' ∧ l'.map f = m := by
  induction h with
  | nil => intro l hl; exact ⟨l, List.Perm.refl _, hl⟩
  | cons a _ ih =>
    intro l hl
    cases l with
    | nil => simp at hl
    | cons b l =>
      simp only [List.map_cons, List.cons.injEq] at hl
      obtain ⟨l', h1, h2⟩ := ih l hl.2
      exact ⟨b :: l', h1.cons b, by simp [hl.1, h2]⟩
  | swap a b t =>
    intro l hl
    match l, hl with
    | x :: y :: l, hl =>
      simp only [List.map_cons, List.cons.injEq] at hl
      exact ⟨y :: x :: l, List.Perm.swap _ _ _, by simp [hl.1, hl.2.1, hl.2.2]⟩
  | trans _ _ ih1 ih2 =>
    intro l hl
    obtain ⟨l1, a1, b1⟩ := ih1 l hl
    obtain ⟨l2, a2, b2⟩ := ih2 l1 b1
    exact ⟨l2, a1.trans a2, b2⟩
def Ord (ops : Array Oper) : List Nat → (Nat → Prop) → (Nat → Bool) → Prop
  | [], F, l => ∀ i, i < ops.size → l i = true ∨ F i
  | c :: cs, F, l => c < ops.size ∧ l c = false ∧ ¬ F c ∧ (∀ o, ops[c]? = some o → ∀ e ∈ o.after, Region.binds .any e = true → l e.on = true ∧ e.on < ops.size) ∧
      (∀ i, i < ops.size → l i = true ∨ F i ∨ i = c ∨ ∃ o e, ops[i]? = some o ∧ e ∈ o.after ∧ Region.binds .any e = true ∧ l e.on = false ∧ ¬ F e.on ∧ e.on < ops.size) ∧ Ord ops cs F (fun i => i == c || l i)
theorem Ord.congr {cs : List Nat} : ∀ {F F' : Nat → Prop} {l l' : Nat → Bool}, (∀ i, F i ↔ F' i) → (∀ i, i < ops.size → l i = l' i) → Ord ops cs F l → Ord ops cs F' l' := by
  induction cs with
  | nil => intro F F' l l' hF hl h i hi; rw [← hl i hi, ← hF]; exact h i hi
  | cons c cs ih =>
    rintro F F' l l' hF hl ⟨h1, h2, h3, h4, h5, h6⟩
    refine ⟨h1, by rw [← hl c h1]; exact h2, by rw [← hF]; exact h3, fun o ho e he hb => ?_, fun i hi => ?_, ih hF (fun i hi => by rw [hl i hi]) h6⟩
    · obtain ⟨a1, a2⟩ := h4 o ho e he hb
      exact ⟨by rw [← hl _ a2]; exact a1, a2⟩
    · rw [← hl i hi, ← hF]
      rcases h5 i hi with a | a | a | ⟨o, e, b1, b2, b3, b4, b5, b6⟩
      · exact .inl a
      · exact .inr (.inl a)
      · exact .inr (.inr (.inl a))
      · exact .inr (.inr (.inr ⟨o, e, b1, b2, b3, by rw [← hl _ b6]; exact b4, by rw [← hF]; exact b5, b6⟩))
theorem Ord.float {f : Nat} {cs : List Nat} : ∀ {F : Nat → Prop} {l : Nat → Bool}, F f → Ord ops cs F l → Ord ops cs (fun i => F i ∧ i ≠ f) (fun i => i == f || l i) := by
  induction cs with
  | nil =>
    intro F l hf h i hi
    by_cases hif : i = f
    · simp [hif]
    · rcases h i hi with a | a
      · simp [a]
      · exact .inr ⟨a, hif⟩
  | cons c cs ih =>
    rintro F l hf ⟨h1, h2, h3, h4, h5, h6⟩
    have hcf : c ≠ f := fun e => h3 (e ▸ hf)
    refine ⟨h1, by simp [h2, hcf], fun h => h3 h.1, fun o ho e he hb => ?_, fun i hi => ?_, ?_⟩
    · obtain ⟨a1, a2⟩ := h4 o ho e he hb
      exact ⟨by simp [a1], a2⟩
    · by_cases hif : i = f
      · simp [hif]
      rcases h5 i hi with a | a | a | ⟨o, e, b1, b2, b3, b4, b5, b6⟩
      · simp [a]
      · exact .inr (.inl ⟨a, hif⟩)
      · exact .inr (.inr (.inl a))
      · have hef : e.on ≠ f := fun h => b5 (h ▸ hf)
        exact .inr (.inr (.inr ⟨o, e, b1, b2, b3, by simp [b4, hef], fun h => b5 h.1, b6⟩))
    · exact (ih hf h6).congr (fun i => Iff.rfl) (fun i _ => by show (i == f || (i == c || l i)) = (i == c || (i == f || l i)); cases l i <;> cases (i == f) <;> cases (i == c) <;> rfl)
structure ChainOk (P : Program) (ops : Array Oper) (Q : Exit → Act → World → Prop) (Cs : List Nat) (F : List Fl) (l0 : Nat → Bool) : Prop where
  sel : ∀ (j : Nat) (o : Oper) cs b, ops[j]? = some o → o.op ≠ .select cs b
  pan : ∀ d ch a w v, Q (.panic ch) a w → Q (.panic ch) (a.put (some d) v) w
  fup : ∀ f ∈ F, f.i < ops.size ∧ ∃ o, ops[f.i]? = some o ∧ o.dst = some f.d ∧ o.guard = none ∧ (∀ ρ w, (execOp ρ o).run P w = .ok (.value (.pointer (some ⟨w.heap.size, 0, none⟩))) (w.alloc (.cells f.z f.ty))) ∧ ∀ e ∈ o.after, Region.binds .any e = true → l0 e.on = true ∧ e.on < ops.size
  fnd : (F.map (·.i)).Nodup
  dnd : (F.map (·.d)).Nodup
  ap : ∀ f ∈ F, ∀ c ∈ Cs, ∀ o, ops[c]? = some o → f.d ∉ o.looksAt ops ∧ o.dst ≠ some f.d
theorem chain_any {S : World → Prop} (hS : ∀ w w', Ext w w' → S w → S w') {Cs : List Nat} {F : List Fl} {l0 : Nat → Bool} (C : ChainOk P ops Q Cs F l0) {B : Nat} {K : List (Nat × Nat) → Act → World → Prop}
    (hK : ∀ N a w D, D.map (·.1) = F → FlOk B w N D → S w → K N a w → Q .normal (puts D a) w) :
    ∀ (fuel : Nat) (listed : Array Bool) (cs : List Nat) (R : List Fl) (D : List (Fl × Nat)) (N : List (Nat × Nat)) (a : Act) (w : World),
      listed.size = ops.size → (∀ i, i < ops.size → l0 i = true → listed.getD i true = true) → (D.map (·.1) ++ R).Perm F → (∀ c ∈ cs, c ∈ Cs) → Ord ops cs (fun i => ∃ f ∈ R, f.i = i) (fun i => listed.getD i true) → (∀ f ∈ R, listed.getD f.i true = false) →
      FlOk B w N D → B ≤ w.heap.size → (∀ q ∈ N, q.2 ≤ w.heap.size) → S w → wpChain P ops Q K cs N a w → cs.length + R.length ≤ fuel → wpAnyH P .any ops Q S fuel listed (puts D a) w := by
  intro fuel
  have gf : ∀ (l : Array Bool) (i : Nat), l.size = ops.size → i < ops.size → l.getD i false = l.getD i true := fun l i hl hi => by simp [Array.getD, hl, hi]
  have gs : ∀ (l : Array Bool) (i j : Nat), l.size = ops.size → i < ops.size → (l.setIfInBounds i true).getD j true = (j == i || l.getD j true) := fun l i j hl hi => by
    by_cases hij : j = i
    · subst hij; simp [Array.getD, hl, hi]
    · have : (l.setIfInBounds i true)[j]? = l[j]? := Array.getElem?_setIfInBounds_ne (Ne.symm hij)
      simp only [Array.getD_eq_getD_getElem?, this]
      simp [hij]
  have hdn : ∀ D : List (Fl × Nat), (D.map (·.1)).Perm F → (D.map (·.1.d)).Nodup := fun D h => by
    have := ((h.map (·.d)).nodup_iff).2 C.dnd
    rw [List.map_map] at this
    exact this
  induction fuel with
  | zero =>
    intro listed cs R D N a w hls hl0 hp hcs ho hR hD hB hN hs hc hf
    obtain rfl : cs = [] := List.eq_nil_of_length_eq_zero (by omega)
    obtain rfl : R = [] := List.eq_nil_of_length_eq_zero (by omega)
    obtain ⟨D', p1, p2⟩ := perm_map_lift (f := (·.1)) (by simpa using hp) D rfl
    refine ⟨?_, ?_⟩
    · apply List.eq_nil_iff_forall_not_mem.2
      intro i hi
      obtain ⟨h1, o, h2, _⟩ := mem_ready.1 hi
      have := ho i (Array.getElem?_eq_some_iff.1 h2).1
      simp [h1] at this
    · rw [puts_perm p1 (hdn D (by simpa using hp))]
      exact hK N a w D' p2 ⟨fun p hp' => hD.1 p (p1.mem_iff.2 hp'), ((p1.map _).nodup_iff).1 hD.2⟩ hs (hc w (Below.refl _ _))
  | succ fuel ih =>
    intro listed cs R D N a w hls hl0 hp hcs ho hR hD hB hN hs hc hf
    have hRF : ∀ f ∈ R, f ∈ F := fun f hf => hp.mem_iff.1 (by simp [hf])
    have hDF : ∀ p ∈ D, p.1 ∈ F := fun p hp' => hp.mem_iff.1 (by simp; exact .inl ⟨p.2, hp'⟩)
    have hRr : ∀ f ∈ R, f.i ∈ Region.ready .any ops listed := fun f hf => by
      obtain ⟨h1, o, h2, h3, h4, h5, h6⟩ := C.fup f (hRF f hf)
      exact mem_ready.2 ⟨hR f hf, o, h2, fun e he hb => by
        obtain ⟨a1, a2⟩ := h6 e he hb
        rw [gf _ _ hls a2]; exact hl0 _ a2 a1⟩
    have hcr : ∀ c cs', cs = c :: cs' → c ∈ Region.ready .any ops listed := fun c cs' e => by
      subst e
      obtain ⟨h1, h2, h3, h4, _⟩ := ho
      exact mem_ready.2 ⟨h2, ops[c], Array.getElem?_eq_getElem h1, fun e he hb => by
        obtain ⟨a1, a2⟩ := h4 _ (Array.getElem?_eq_getElem h1) e he hb
        rw [gf _ _ hls a2]; exact a1⟩
    refine ⟨fun h0 => ?_, fun i hi => ?_⟩
    · cases cs with
      | cons c cs' => have := hcr c cs' rfl; rw [h0] at this; cases this
      | nil =>
        cases R with
        | cons f R => have := hRr f (by simp); rw [h0] at this; cases this
        | nil =>
          obtain ⟨D', p1, p2⟩ := perm_map_lift (f := (·.1)) (by simpa using hp) D rfl
          rw [puts_perm p1 (hdn D (by simpa using hp))]
          exact hK N a w D' p2 ⟨fun p hp' => hD.1 p (p1.mem_iff.2 hp'), ((p1.map _).nodup_iff).1 hD.2⟩ hs (hc w (Below.refl _ _))
    · obtain ⟨h1, o, h2, h3⟩ := mem_ready.1 hi
      have hlt := (Array.getElem?_eq_some_iff.1 h2).1
      by_cases hfl : ∃ f ∈ R, f.i = i
      · -- a variable is made
        obtain ⟨f, hfR, rfl⟩ := hfl
        obtain ⟨g1, o', g2, g3, g4, g5, g6⟩ := C.fup f (hRF f hfR)
        obtain rfl : o = o' := by rw [h2] at g2; injection g2
        obtain ⟨R1, R2, rfl⟩ := List.append_of_mem hfR
        unfold wpOp
        simp only [h2, Region.wanted, g4, if_true]
        refine .inl ?_
        unfold Oper.wp
        rw [g5]
        simp only [Oper.upon, g3]
        have hext : Ext w (w.alloc (.cells f.z f.ty)) := (Below.refl _ _).alloc (Nat.le_refl _) _
        have hnd : (F.map (·.i)).Nodup := C.fnd
        have hndR : ((D.map (·.1) ++ (R1 ++ f :: R2)).map (·.i)).Nodup := (hp.map _).nodup_iff.2 hnd
        have key : ((puts D a).put (some f.d) (.pointer (some ⟨w.heap.size, 0, none⟩))) = puts (D ++ [(f, w.heap.size)]) a := by simp [puts]
        refine ⟨hS _ _ hext hs, ?_⟩
        rw [key]
        have hne : ∀ g ∈ R1 ++ R2, g.i ≠ f.i := fun g hg he => by
          simp only [List.map_append, List.map_cons] at hndR
          have h9 := (List.nodup_append.1 hndR).2.1
          have h10 := (List.perm_middle.nodup_iff.1 h9)
          simp only [List.nodup_cons] at h10
          exact h10.1 (by rw [← he, ← List.map_append]; exact List.mem_map.2 ⟨g, hg, rfl⟩)
        refine ih (listed.setIfInBounds f.i true) cs (R1 ++ R2) (D ++ [(f, w.heap.size)]) N a _ (by simpa using hls) (fun j hj h0 => by rw [gs _ _ _ hls g1, hl0 j hj h0]; simp) ?_ hcs ?_ (fun g hg => ?_) ⟨fun p hp' => ?_, ?_⟩ (by simp; omega) (fun q hq => by have := hN q hq; simp; omega) (hS _ _ hext hs) (wpChain_ext hc hext) (by simp at hf ⊢; omega)
        · refine List.Perm.trans ?_ hp
          simp only [List.map_append, List.map_cons, List.map_nil, List.append_assoc, List.singleton_append]
          exact List.Perm.append_left _ List.perm_middle.symm
        · refine (Ord.float (f := f.i) ⟨f, hfR, rfl⟩ ho).congr (fun j => ?_) (fun j hj => (gs _ _ _ hls g1).symm)
          constructor
          · rintro ⟨⟨g, hg, rfl⟩, hn⟩
            refine ⟨g, ?_, rfl⟩
            simp only [List.mem_append, List.mem_cons] at hg ⊢
            rcases hg with a | rfl | a
            · exact .inl a
            · exact absurd rfl hn
            · exact .inr a
          · rintro ⟨g, hg, rfl⟩
            exact ⟨⟨g, by simp only [List.mem_append, List.mem_cons] at hg ⊢; rcases hg with a | a <;> simp [a], rfl⟩, hne g hg⟩
        · rw [gs _ _ _ hls g1, hR g (by simp only [List.mem_append, List.mem_cons] at hg ⊢; rcases hg with a | a <;> simp [a])]
          simp [hne g hg]
        · rcases List.mem_append.1 hp' with hp' | hp'
          · obtain ⟨a1, a2, a3⟩ := hD.1 p hp'
            exact ⟨a1, a2.alloc _, a3⟩
          · simp only [List.mem_singleton] at hp'
            subst hp'
            exact ⟨hB, Blk.new _ _ _, fun q hq => .inr (hN q hq)⟩
        · simp only [List.map_append, List.map_cons, List.map_nil]
          refine List.nodup_append.2 ⟨hD.2, by simp, fun x hx y hy => ?_⟩
          simp only [List.mem_singleton] at hy
          subst hy
          obtain ⟨p, hp', rfl⟩ := List.mem_map.1 hx
          have := (hD.1 p hp').2.1.lt
          omega
      · -- the chain's next
        cases cs with
        | nil =>
          rcases ho i hlt with h9 | h9
          · have h9' : listed.getD i true = true := h9
            rw [h1] at h9'; cases h9'
          · exact absurd h9 hfl
        | cons c cs' =>
          obtain ⟨k1, k2, k3, k4, k5, k6⟩ := ho
          have hic : i = c := by
            rcases k5 i hlt with h9 | h9 | h9 | ⟨o', e, b1, b2, b3, b4, b5, b6⟩
            · have h9' : listed.getD i true = true := h9
              rw [h1] at h9'; cases h9'
            · exact absurd h9 hfl
            · exact h9
            · obtain rfl : o = o' := by rw [h2] at b1; injection b1
              have := h3 e b2 b3
              have b4' : listed.getD e.on true = false := b4
              rw [gf _ _ hls b6, b4'] at this; cases this
          subst hic
          have h9 := wpOp_puts (K := fun a' w'' => Ext w w'' ∧ wpChain P ops Q K cs' ((w.heap.size, w''.heap.size) :: N) a' w'') h2 (fun cs b => C.sel i o cs b h2) C.pan D a w (fun p hp' => C.ap p.1 (hDF p hp') i (hcs i (by simp)) o h2) (hc w (Below.refl _ _))
          refine wpOp_mono (fun a' w'' => ?_) h9
          rintro ⟨a1, rfl, hext, hc'⟩
          refine ⟨hS _ _ hext hs, ih (listed.setIfInBounds i true) cs' R D _ a1 w'' (by simpa using hls) (fun j hj h0 => by rw [gs _ _ _ hls hlt, hl0 j hj h0]; simp) hp (fun c hc => hcs c (by simp [hc])) (k6.congr (fun j => Iff.rfl) (fun j hj => (gs _ _ _ hls hlt).symm)) (fun f hf' => ?_) ⟨fun p hp' => ?_, hD.2⟩ (Nat.le_trans hB hext.size) (fun q hq => ?_) (hS _ _ hext hs) hc' (by simp at hf ⊢; omega)⟩
          · rw [gs _ _ _ hls hlt, hR f hf']
            have : f.i ≠ i := fun e => k3 ⟨f, hf', e⟩
            simp [this]
          · obtain ⟨a1, a2, a3⟩ := hD.1 p hp'
            refine ⟨a1, a2.blw hext, fun q hq => ?_⟩
            rcases List.mem_cons.1 hq with rfl | hq
            · exact .inl a2.lt
            · exact a3 q hq
          · rcases List.mem_cons.1 hq with rfl | hq
            · exact Nat.le_refl _
            · exact Nat.le_trans (hN q hq) hext.size
def ordB (ops : Array Oper) (F : List Nat) : List Nat → (Nat → Bool) → Bool
  | [], l => (List.range ops.size).all fun i => l i || F.contains i
  | c :: cs, l => decide (c < ops.size) && !l c && !F.contains c && (match ops[c]? with | some o => o.after.all (fun e => !Region.binds .any e || (l e.on && decide (e.on < ops.size))) | none => true) &&
      ((List.range ops.size).all fun i => l i || F.contains i || i == c || (match ops[i]? with | some o => o.after.any (fun e => Region.binds .any e && !l e.on && !F.contains e.on && decide (e.on < ops.size)) | none => false)) &&
      ordB ops F cs (fun i => i == c || l i)
theorem ordB_spec {F : List Nat} {cs : List Nat} : ∀ {l : Nat → Bool}, ordB ops F cs l = true → Ord ops cs (· ∈ F) l := by
  induction cs with
  | nil =>
    intro l h i hi
    have := List.all_eq_true.1 h i (List.mem_range.2 hi)
    simpa using this
  | cons c cs ih =>
    intro l h
    simp only [ordB, Bool.and_eq_true, decide_eq_true_eq, Bool.not_eq_true'] at h
    obtain ⟨⟨⟨⟨⟨h1, h2⟩, h3⟩, h4⟩, h5⟩, h6⟩ := h
    refine ⟨h1, h2, by simpa using h3, fun o ho e he hb => ?_, fun i hi => ?_, ih h6⟩
    · rw [ho] at h4
      have := Array.all_eq_true_iff_forall_mem.1 h4 e he
      simpa [hb] using this
    · have := List.all_eq_true.1 h5 i (List.mem_range.2 hi)
      simp only [Bool.or_eq_true, beq_iff_eq] at this
      rcases this with ((a | a) | a) | a
      · exact .inl a
      · exact .inr (.inl (by simpa using a))
      · exact .inr (.inr (.inl a))
      · cases ho : ops[i]? with
        | none => rw [ho] at a; cases a
        | some o =>
          rw [ho] at a
          obtain ⟨e, he, hb⟩ := Array.any_eq_true'.1 a
          simp only [Bool.and_eq_true, Bool.not_eq_true', decide_eq_true_eq] at hb
          exact .inr (.inr (.inr ⟨o, e, rfl, he, hb.1.1.1, hb.1.1.2, by simpa using hb.1.2, hb.2⟩))
def flB (ops : Array Oper) (l : Nat → Bool) (i : Nat) (d : Tmp) (T : TypeId) : Bool := match ops[i]? with
  | some o => o.dst == some d && o.guard.isNone && (match o.op with | .alloc t => t == T | _ => false) && o.after.all fun e => !Region.binds .any e || (l e.on && decide (e.on < ops.size))
  | none => false
def apB (ops : Array Oper) (Cs : List Nat) (d : Tmp) : Bool := Cs.all fun c => match ops[c]? with | some o => !(o.looksAt ops).contains d && o.dst != some d | none => true
def checkB (ops : Array Oper) (listed : Array Bool) (Cs : List Nat) (F : List (Nat × Tmp × TypeId)) : Bool :=
  Region.noSelect ops && decide (listed.size = ops.size) && F.all (fun f => flB ops (fun i => listed.getD i true) f.1 f.2.1 f.2.2 && apB ops Cs f.2.1 && !listed.getD f.1 true) && decide (F.map (·.1)).Nodup && decide (F.map (·.2.1)).Nodup && ordB ops (F.map (·.1)) Cs (fun i => listed.getD i true)
def Zero (P : Program) (T : TypeId) (z : Array Value) : Prop := ∀ ρ o w, o.op = .alloc T → (execOp ρ o).run P w = .ok (.value (.pointer (some ⟨w.heap.size, 0, none⟩))) (w.alloc (.cells z T))
def keys (F : List Fl) : List (Nat × Tmp × TypeId) := F.map fun f => (f.i, f.d, f.ty)
theorem chain_begin {S : World → Prop} (hS : ∀ w w', Ext w w' → S w → S w') (Cs : List Nat) (F : List Fl) {listed : Array Bool} {fuel : Nat} {a : Act} {w : World} {K : List (Nat × Nat) → Act → World → Prop} {B : Nat}
    (hb : checkB ops listed Cs (keys F) = true) (hfu : Cs.length + F.length ≤ fuel) (hpan : ∀ d ch a w v, Q (.panic ch) a w → Q (.panic ch) (a.put (some d) v) w)
    (hz : ∀ f ∈ F, Zero P f.ty f.z) (hs : S w)
    (hK : ∀ N a w D, D.map (·.1) = F → FlOk B w N D → S w → K N a w → Q .normal (puts D a) w) (hB : B ≤ w.heap.size) (h : wpChain P ops Q K Cs [] a w) : wpAnyH P .any ops Q S fuel listed a w := by
  simp only [checkB, Bool.and_eq_true, decide_eq_true_eq] at hb
  obtain ⟨⟨⟨⟨⟨h1, h2⟩, h3⟩, h4⟩, h5⟩, h6⟩ := hb
  have hk1 : (keys F).map (·.1) = F.map (·.i) := by simp [keys, Function.comp_def]
  have hk2 : (keys F).map (·.2.1) = F.map (·.d) := by simp [keys, Function.comp_def]
  rw [hk1] at h4 h6
  rw [hk2] at h5
  have h3' : ∀ f ∈ F, (flB ops (fun i => listed.getD i true) f.i f.d f.ty && apB ops Cs f.d && !listed.getD f.i true) = true := fun f hf => List.all_eq_true.1 h3 (f.i, f.d, f.ty) (List.mem_map.2 ⟨f, hf, rfl⟩)
  have hord := ordB_spec h6
  have hcup : ∀ (cs : List Nat) (F : Nat → Prop) (l : Nat → Bool), Ord ops cs F l → ∀ c ∈ cs, c < ops.size := by
    intro cs
    induction cs with
    | nil => intro _ _ _ c hc; cases hc
    | cons c cs ih => intro F l h c' hc'; rcases List.mem_cons.1 hc' with rfl | hc'; exact h.1; exact ih _ _ h.2.2.2.2.2 c' hc'
  have C : ChainOk P ops Q Cs F (fun i => listed.getD i true) := {
    sel := Region.noSelect_spec h1
    pan := hpan
    fup := fun f hf => by
      have := h3' f hf
      simp only [Bool.and_eq_true, flB] at this
      obtain ⟨⟨g, _⟩, _⟩ := this
      cases ho : ops[f.i]? with
      | none => rw [ho] at g; cases g
      | some o =>
        rw [ho] at g
        simp only [Bool.and_eq_true, beq_iff_eq, Option.isNone_iff_eq_none] at g
        obtain ⟨⟨⟨g1, g2⟩, g3⟩, g4⟩ := g
        refine ⟨(Array.getElem?_eq_some_iff.1 ho).1, o, rfl, g1, g2, fun ρ w => hz f hf ρ o w ?_, fun e he hb => ?_⟩
        · cases hop : o.op <;> rw [hop] at g3 <;> first | (cases g3; done) | (simp only [beq_iff_eq] at g3; rw [g3])
        · have := Array.all_eq_true_iff_forall_mem.1 g4 e he
          simpa [hb] using this
    fnd := h4
    dnd := h5
    ap := fun f hf c hc o ho => by
      have := h3' f hf
      simp only [Bool.and_eq_true, apB] at this
      have := List.all_eq_true.1 this.1.2 c hc
      rw [ho] at this
      simpa using this }
  have := chain_any hS C hK fuel listed Cs F [] [] a w h2 (fun i hi h => h) (by simp) (fun c hc => hc) (hord.congr (fun i => by simp) (fun i _ => rfl)) (fun f hf => by
    have := h3' f hf
    simp only [Bool.and_eq_true, Bool.not_eq_true'] at this
    exact this.2) ⟨fun p hp => (by cases hp), by simp⟩ hB (fun q hq => by cases hq) hs h hfu
  exact this
end
end Go.Proofs.YtbenhafhklfhmaaGreat
namespace Go.Proofs.YtbenhafhklfhmaaGreat
set_option linter.all false
set_option linter.unusedVariables false
set_option linter.unusedSimpArgs false
open Go.RowKit
section
variable {P : Program} {ops : Array Oper} {Q : Exit → Act → World → Prop}
theorem tail_list {n : Nat} {a : Act} {w : World} (h : wpList P ops Q (ops.toList.drop n) a w) : tailPost P ops Q n .normal a w := by
  have := wpOps_eq_wpList (P := P) (ops := ops) (Q := Q) (ops.toList.drop n) n (fun j => by simp [List.getElem?_drop])
  show wpOps P ops Q (List.range' n (ops.size - n)) a w
  rw [show ops.size - n = (ops.toList.drop n).length by simp, this]
  exact h
def Pan (Q : Exit → Act → World → Prop) : Prop := ∀ (d : Option Tmp) (v : Value) ch a w, Q (.panic ch) (a.put d v) w ↔ Q (.panic ch) a w
def NP (Q : Exit → Act → World → Prop) : Exit → Act → World → Prop := fun e a w => match e with
  | .panic _ => False
  | e => Q e a w
theorem NP.normal {a : Act} {w : World} (h : Q .normal a w) : NP Q .normal a w := h
theorem np_region {id : Nat} {b : Bool} {a : Act} {w : World} (h : (Code.region id ops b).wp P (NP Q) a w) : (Code.region id ops b).wp P Q a w :=
  Code.wp_mono (fun e a w h => by cases e <;> first | exact h | exact (h : False).elim) h
theorem NP.pan : Pan (NP Q) := fun _ _ _ _ _ => Iff.rfl
def RW (P : Program) (ops : Array Oper) (Q : Exit → Act → World → Prop) (n : Nat) (S : World → Prop) (k : Nat) (rest : List Oper) (pend : List (Nat × Oper)) (_fl : List Fl) (listed : Array Bool) (fuel : Nat) (a : Act) (w : World) : Prop :=
  (ops.toList.take n).drop k = rest → (∀ p ∈ pend, (frontOf ops n)[p.1]? = some p.2) → Pan Q → wpAnyH P .any (frontOf ops n) (tailPost P ops Q n) S fuel listed a w
theorem RW.begin {id n : Nat} {a : Act} {w : World} (hm : P.follows .mixedOrders = true) (hT : tailOk ops n = true) (hp : Pan Q)
    (h : Below w.heap.size w w.drew → RW P ops Q n (Below w.heap.size w) 0 (ops.toList.take n) [] [] (Array.replicate n false) n a w.drew) : (Code.region id ops true).wp P Q a w :=
  wp_region_front hm hT fun hS => h hS rfl (fun p hp => by cases hp) hp
theorem RW.head {n k : Nat} {o : Oper} {rest : List Oper} (h : (ops.toList.take n).drop k = o :: rest) : (frontOf ops n)[k]? = some o ∧ (ops.toList.take n).drop (k + 1) = rest := by
  constructor
  · have := congrArg (·[0]?) h
    simpa [frontOf, List.getElem?_drop] using this
  · have := congrArg List.tail h
    simpa [List.drop_drop, Nat.add_comm] using this
def takeB (ops : Array Oper) (n : Nat) (l : Array Bool) (i : Nat) : Bool := Region.noSelect (frontOf ops n) && Region.free .any (frontOf ops n) l i && (Region.ready .any (frontOf ops n) l).contains i
theorem RW.take {n k fuel : Nat} {S : World → Prop} {o : Oper} {rest : List Oper} {pend : List (Nat × Oper)} {fl : List Fl} {listed : Array Bool} {a : Act} {w : World} {v : Value} (hS : S w) (hk : takeB ops n listed k = true)
    (hw : Region.wanted o (yielded (frontOf ops n) a.tmps) = true) (hrun : ∀ w', S w' → (execOp a.eval o).run P w' = .ok (.value v) w')
    (h : RW P ops Q n S (k + 1) rest pend fl (listed.setIfInBounds k true) fuel (a.put o.dst v) w) : RW P ops Q n S k (o :: rest) pend fl listed (fuel + 1) a w := fun h1 h2 h3 => by
  obtain ⟨e1, e2⟩ := RW.head h1
  simp only [takeB, Bool.and_eq_true] at hk
  exact wpAnyH_take e1 hk.1.1 hk.1.2 hk.2 (fun c a w h => (h3 o.dst v c a w).1 h) (.inl ⟨hw, hrun⟩) hS (h e2 h2 h3)
theorem RW.skip {n k fuel : Nat} {S : World → Prop} {o : Oper} {rest : List Oper} {pend : List (Nat × Oper)} {fl : List Fl} {listed : Array Bool} {a : Act} {w : World} (hS : S w) (hk : takeB ops n listed k = true)
    (hw : Region.wanted o (yielded (frontOf ops n) a.tmps) = false)
    (h : RW P ops Q n S (k + 1) rest pend fl (listed.setIfInBounds k true) fuel (a.put o.dst undef) w) : RW P ops Q n S k (o :: rest) pend fl listed (fuel + 1) a w := fun h1 h2 h3 => by
  obtain ⟨e1, e2⟩ := RW.head h1
  simp only [takeB, Bool.and_eq_true] at hk
  exact wpAnyH_take e1 hk.1.1 hk.1.2 hk.2 (fun c a w h => (h3 o.dst undef c a w).1 h) (.inr ⟨hw, rfl⟩) hS (h e2 h2 h3)
theorem RW.keep {n k fuel : Nat} {S : World → Prop} {o : Oper} {rest : List Oper} {pend : List (Nat × Oper)} {fl : List Fl} {listed : Array Bool} {a : Act} {w : World}
    (h : RW P ops Q n S (k + 1) rest (pend ++ [(k, o)]) fl listed fuel a w) : RW P ops Q n S k (o :: rest) pend fl listed fuel a w := fun h1 h2 h3 => by
  obtain ⟨e1, e2⟩ := RW.head h1
  exact h e2 (fun p hp => by
    rcases List.mem_append.1 hp with hp | hp
    · exact h2 p hp
    · simp only [List.mem_singleton] at hp; subst hp; exact e1) h3
theorem RW.float {n k fuel : Nat} {S : World → Prop} {d : Tmp} {T : TypeId} {ty : TypeId} {pos : String} {af : Array Edge} {rest : List Oper} {pend : List (Nat × Oper)} {fl : List Fl} {listed : Array Bool} {a : Act} {w : World} (z : Array Value)
    (h : RW P ops Q n S (k + 1) rest pend (fl ++ [⟨k, d, T, z⟩]) listed fuel a w) : RW P ops Q n S k (⟨some d, .alloc T, ty, pos, af, none⟩ :: rest) pend fl listed fuel a w := fun h1 h2 h3 => h (RW.head h1).2 h2 h3
def wpCh (P : Program) (ops : Array Oper) (Q : Exit → Act → World → Prop) (K : List (Nat × Nat) → Act → World → Prop) : List (Nat × Oper) → List (Nat × Nat) → Act → World → Prop
  | [], N, a, w => ∀ w', Ext w w' → K N a w'
  | p :: cs, N, a, w => ∀ w', Ext w w' → if Region.wanted p.2 (yielded ops a.tmps) then p.2.wp P a w' (fun a' w'' => Ext w' w'' ∧ wpCh P ops Q K cs ((w'.heap.size, w''.heap.size) :: N) a' w'') Q
      else wpCh P ops Q K cs ((w'.heap.size, w'.heap.size) :: N) (a.put p.2.dst undef) w'
theorem wpCh_chain {K : List (Nat × Nat) → Act → World → Prop} : ∀ (cs : List (Nat × Oper)) (N : List (Nat × Nat)) (a : Act) (w : World), (∀ p ∈ cs, ops[p.1]? = some p.2) → wpCh P ops Q K cs N a w → wpChain P ops Q K (cs.map (·.1)) N a w := by
  intro cs
  induction cs with
  | nil => intro N a w _ h; exact h
  | cons p cs ih =>
    intro N a w hp h w' he
    have hh := h w' he
    unfold wpOp
    simp only [hp p (by simp)]
    split
    · rename_i hw
      rw [if_pos hw] at hh
      exact .inl (Oper.wp_mono (fun a' w'' h' => ⟨h'.1, ih _ _ _ (fun q hq => hp q (by simp [hq])) h'.2⟩) hh)
    · rename_i hw
      rw [if_neg hw] at hh
      exact ⟨Below.refl _ _, ih _ _ _ (fun q hq => hp q (by simp [hq])) hh⟩
theorem wpCh_step {K : List (Nat × Nat) → Act → World → Prop} {c : Nat} {o : Oper} {cs : List (Nat × Oper)} {N : List (Nat × Nat)} {a : Act} {w : World} (hw : Region.wanted o (yielded ops a.tmps) = true)
    (h : ∀ w', Ext w w' → ∀ K' : Act → World → Prop, (∀ a' w'', Ext w' w'' → wpCh P ops Q K cs ((w'.heap.size, w''.heap.size) :: N) a' w'' → K' a' w'') → o.wp P a w' K' Q) : wpCh P ops Q K ((c, o) :: cs) N a w := fun w' he => by
  rw [if_pos hw]
  exact h w' he _ fun a' w'' h1 h2 => ⟨h1, h2⟩
theorem wpCh_nil {K : List (Nat × Nat) → Act → World → Prop} {N : List (Nat × Nat)} {a : Act} {w : World} (h : ∀ w', Ext w w' → K N a w') : wpCh P ops Q K [] N a w := h
theorem ch_alloc {K : List (Nat × Nat) → Act → World → Prop} {cs : List (Nat × Oper)} {N : World → List (Nat × Nat)} {a : Act} {w : World} {C : Array Value} {E : TypeId} {K' : Act → World → Prop}
    (hK : ∀ a' w'', Ext w w'' → wpCh P ops Q K cs (N w'') a' w'' → K' a' w'') (h : ∀ w'', Ext w w'' → Blk w'' w.heap.size E C → wpCh P ops Q K cs (N w'') a w'') : K' a (w.alloc (.cells C E)) :=
  hK a _ ((Below.refl _ _).alloc (Nat.le_refl _) _) (h _ ((Below.refl _ _).alloc (Nat.le_refl _) _) (Blk.new _ _ _))
theorem RW.chain {n k fuel : Nat} {W : World} {pend : List (Nat × Oper)} {fl : List Fl} {listed : Array Bool} {a : Act} {w : World}
    (hb : checkB (frontOf ops n) listed (pend.map (·.1)) (keys fl) = true) (hfu : decide (pend.length + fl.length ≤ fuel) = true) (hz : ∀ f ∈ fl, Zero P f.ty f.z) (hs : Ext W w)
    (h : wpCh P (frontOf ops n) (tailPost P ops Q n) (fun N a w => ∀ D, D.map (·.1) = fl → FlOk W.heap.size w N D → Ext W w → wpList P ops Q (ops.toList.drop n) (puts D a) w) pend [] a w) : RW P ops Q n (Below W.heap.size W) k [] pend fl listed fuel a w := fun _ h2 h3 => by
  refine chain_begin (S := Below W.heap.size W) (B := W.heap.size) (fun w w' he hs => Ext.trans hs he) (pend.map (·.1)) fl hb (by simpa using hfu) (fun d ch a w v h => (h3 (some d) v ch a w).2 h) hz hs (K := fun N a w => ∀ D, D.map (·.1) = fl → FlOk W.heap.size w N D → Ext W w → wpList P ops Q (ops.toList.drop n) (puts D a) w) (fun N a w D e1 e2 e3 hk => tail_list (hk D e1 e2 e3)) hs.size (wpCh_chain pend [] a w h2 h)
theorem flOk0 {B : Nat} {w : World} {N : List (Nat × Nat)} {a : Act} {R : Act → Prop} (h : R a) : ∀ D : List (Fl × Nat), D.map (·.1) = [] → FlOk B w N D → R (puts D a) := fun D hD _ => by
  cases D with
  | nil => exact h
  | cons => cases hD
theorem flOk1 {B : Nat} {w : World} {N : List (Nat × Nat)} {a : Act} {R : Act → Prop} {f : Fl} (h : ∀ b, B ≤ b → Blk w b f.ty f.z → (∀ q ∈ N, b < q.1 ∨ q.2 ≤ b) → R (a.put (some f.d) (.pointer (some ⟨b, 0, none⟩)))) :
    ∀ D : List (Fl × Nat), D.map (·.1) = [f] → FlOk B w N D → R (puts D a) := fun D hD hO => by
  match D, hD with
  | [p], hD =>
    simp only [List.map_cons, List.map_nil, List.cons.injEq, and_true] at hD
    subst hD
    obtain ⟨h1, h2, h3⟩ := hO.1 p (by simp)
    exact h p.2 h1 h2 h3
end
end Go.Proofs.YtbenhafhklfhmaaGreat
namespace Go.Proofs.YtbenhafhklfhmaaGreat
set_option linter.all false
set_option linter.unusedVariables false
set_option linter.unusedSimpArgs false
open Go.RowKit
def flat (sz n : Nat) (f : Nat → Nat → Value) : List Value := (List.range n).flatMap fun i => (List.range sz).map (f i)
theorem flat_succ (sz n : Nat) (f : Nat → Nat → Value) : flat sz (n + 1) f = flat sz n f ++ (List.range sz).map (f n) := by
  simp [flat, List.range_succ]
theorem flat_length (sz n : Nat) (f : Nat → Nat → Value) : (flat sz n f).length = n * sz := by
  induction n with
  | zero => simp [flat]
  | succ n ih => rw [flat_succ, List.length_append, ih]; simp [Nat.add_mul]
theorem flat_get {sz n : Nat} {f : Nat → Nat → Value} {i j : Nat} (hi : i < n) (hj : j < sz) : (flat sz n f)[i * sz + j]? = some (f i j) := by
  induction n with
  | zero => omega
  | succ n ih =>
    rw [flat_succ]
    by_cases hin : i < n
    · have : i * sz + j < (flat sz n f).length := by
        rw [flat_length]
        have := Nat.mul_le_mul_right sz (show i + 1 ≤ n by omega)
        rw [Nat.add_mul] at this
        omega
      rw [List.getElem?_append_left this]
      exact ih hin
    · obtain rfl : i = n := by omega
      rw [List.getElem?_append_right (by rw [flat_length]; omega), flat_length]
      simp [hj]
theorem flat_congr {sz n : Nat} {f g : Nat → Nat → Value} (h : ∀ i j, i < n → j < sz → f i j = g i j) : flat sz n f = flat sz n g := by
  induction n with
  | zero => rfl
  | succ n ih =>
    rw [flat_succ, flat_succ, ih fun i j hi hj => h i j (by omega) hj]
    congr 1
    exact List.map_congr_left fun j hj => h n j (by omega) (List.mem_range.1 hj)
def cat (n : Nat) (f g : Nat → Nat → Value) : Nat → Nat → Value := fun i j => if i < n then f i j else g (i - n) j
theorem flat_cat (sz n m : Nat) (f g : Nat → Nat → Value) : flat sz (n + m) (cat n f g) = flat sz n f ++ flat sz m g := by
  induction m with
  | zero => simp only [Nat.add_zero]; rw [show flat sz 0 g = [] from rfl, List.append_nil]; exact flat_congr fun i j hi _ => by simp [cat, hi]
  | succ m ih =>
    rw [← Nat.add_assoc, flat_succ, ih, flat_succ, List.append_assoc]
    congr 2
    exact List.map_congr_left fun j _ => by simp [cat]; intro h; omega
def Own (w : World) (B : Nat) (E : TypeId) (sz : Nat) (v : Value) (n : Nat) (f : Nat → Nat → Value) : Prop := w.ownsRow B E sz v n (flat sz n f)
section
variable {w w' : World} {B : Nat} {E : TypeId} {sz n : Nat} {v : Value} {f : Nat → Nat → Value}
theorem Own.form (h : Own w B E sz v n f) : ∃ A c, v = .slice A n c ∧ n ≤ c ∧ c ≤ maxLen ∧ Rd w sz A n f := by
  rcases h.2 with ⟨rfl, rfl⟩ | ⟨g, cap, cur, rfl, hg, hh, hnc, hcm, hcs, ht⟩
  · exact ⟨none, 0, rfl, Nat.le_refl _, Nat.zero_le _, Rd.nil⟩
  · refine ⟨_, cap, rfl, hnc, hcm, fun _ => ⟨g, 0, rfl, ?_, fun i j hi hj => ?_⟩⟩
    · rcases Nat.lt_or_ge g w.heap.size with h1 | h1
      · exact h1
      · rw [Array.getElem?_eq_none h1] at hh; cases hh
    · rw [Nat.zero_add, cell_of_row w g _ cur E (0, 0) hh]
      have h2 := flat_get (f := f) hi hj
      rw [← ht, List.getElem?_take] at h2
      split at h2
      · simpa using h2
      · cases h2
theorem Own.form1 (h : Own w B E sz v n f) (hn : 0 < n) : ∃ g c, v = .slice (some ⟨g, 0, none⟩) n c ∧ B ≤ g ∧ g < w.heap.size ∧ n ≤ c ∧ (∀ i j, i < n → j < sz → w.cell? ⟨g, i * sz + j, none⟩ = some (f i j)) ∧ ∀ j, w.frozen? ⟨g, j, none⟩ = false := by
  rcases h.2 with ⟨_, h0⟩ | ⟨g, cap, cur, rfl, hg, hh, hnc, hcm, hcs, ht⟩
  · omega
  · have hb : g < w.heap.size := by
      rcases Nat.lt_or_ge g w.heap.size with h1 | h1
      · exact h1
      · rw [Array.getElem?_eq_none h1] at hh; cases hh
    refine ⟨g, cap, rfl, hg, hb, hnc, fun i j hi hj => ?_, fun j => World.ownsRow.frozenAt h j⟩
    rw [cell_of_row w g _ cur E (0, 0) hh]
    have h2 := flat_get (f := f) hi hj
    rw [← ht, List.getElem?_take] at h2
    split at h2
    · simpa using h2
    · cases h2
theorem Own.below (h : Own w B E sz v n f) (hb : Below w.heap.size w w') : Own w' B E sz v n f :=
  World.ownsRow.kept h (row := none) ⟨hb.os, hb.tape, hb.output, hb.size, fun k hk _ => hb.block k hk⟩ (by cases v.ownBlock <;> simp)
theorem Own.kept {row : Option Nat} (h : Own w B E sz v n f) (hg : w.grownBy w' row) (hne : v.ownBlock = none ∨ v.ownBlock ≠ row) : Own w' B E sz v n f := World.ownsRow.kept h hg hne
theorem Own.congr {g : Nat → Nat → Value} (h : Own w B E sz v n f) (he : ∀ i j, i < n → j < sz → f i j = g i j) : Own w B E sz v n g := by
  unfold Own; rw [← flat_congr he]; exact h
theorem Own.nil (w : World) (B : Nat) (E : TypeId) (sz : Nat) (f : Nat → Nat → Value) : Own w B E sz (.slice none 0 0) 0 f := ⟨by simp [flat], .inl ⟨rfl, rfl⟩⟩
theorem Own.mono {B' : Nat} (h : Own w B E sz v n f) (hB : B' ≤ B) : Own w B' E sz v n f := by
  refine ⟨h.1, ?_⟩
  rcases h.2 with h2 | ⟨g, cap, cur, hv, hg, r⟩
  · exact .inl h2
  · exact .inr ⟨g, cap, cur, hv, Nat.le_trans hB hg, r⟩
theorem Own.of_blk {cs : Array Value} {b : Nat} (h : Blk w b E cs) (hB : B ≤ b) (hs : cs.size = n * sz) (hz : 0 < sz) (hm : n ≤ maxLen) (hf : ∀ i j, i < n → j < sz → cs.getD (i * sz + j) undef = f i j) : Own w B E sz (.slice (some ⟨b, 0, none⟩) n n) n f := by
  refine ⟨flat_length _ _ _, .inr ⟨b, n, cs, rfl, hB, h, Nat.le_refl _, hm, hs, ?_⟩⟩
  apply List.ext_getElem?
  intro q
  by_cases hq : q < n * sz
  · have hi : q / sz < n := Nat.div_lt_of_lt_mul (by rw [Nat.mul_comm]; exact hq)
    have hj : q % sz < sz := Nat.mod_lt _ hz
    have e : q = q / sz * sz + q % sz := by rw [Nat.mul_comm]; exact (Nat.div_add_mod q sz).symm
    have h2 := flat_get (f := f) hi hj
    rw [← e] at h2
    have h3 := hf _ _ hi hj
    rw [← e] at h3
    have hqc : q < cs.size := by omega
    rw [h2, ← h3, List.getElem?_take]
    simp [hq, Array.getD, hqc]
  · rw [List.getElem?_eq_none (by simp; omega), List.getElem?_eq_none (by rw [flat_length]; omega)]
theorem Own.empty {b : Nat} (h : Blk w b E #[]) (hB : B ≤ b) (f : Nat → Nat → Value) : Own w B E sz (.slice (some ⟨b, 0, none⟩) 0 0) 0 f :=
  ⟨by simp [flat], .inr ⟨b, 0, #[], rfl, hB, h, Nat.le_refl _, Nat.zero_le _, by simp, by simp [flat]⟩⟩
theorem Own.set {g c : Nat} (h : Own w B E sz (.slice (some ⟨g, 0, none⟩) n c) n f) (i j : Nat) (hi : i < n) (hj : j < sz) (u : Value) :
    Own (w.setCell ⟨g, i * sz + j, none⟩ u) B E sz (.slice (some ⟨g, 0, none⟩) n c) n (fun i' j' => if i' = i ∧ j' = j then u else f i' j') := by
  refine ⟨flat_length _ _ _, ?_⟩
  rcases h.2 with ⟨h2, _⟩ | ⟨g', cap, cur, hv, hg, hh, hnc, hcm, hcs, ht⟩
  · cases h2
  · obtain ⟨rfl, rfl⟩ : g = g' ∧ c = cap := by simp at hv; exact hv
    refine .inr ⟨g, c, cur.setIfInBounds (i * sz + j) u, rfl, hg, by simp [World.setCell, Array.getElem?_modify, hh], hnc, hcm, by simpa using hcs, ?_⟩
    apply List.ext_getElem?
    intro q
    by_cases hq : q < n * sz
    · have hz : 0 < sz := by omega
      have hi' : q / sz < n := Nat.div_lt_of_lt_mul (by rw [Nat.mul_comm]; exact hq)
      have hj' : q % sz < sz := Nat.mod_lt _ hz
      have e : q = q / sz * sz + q % sz := by rw [Nat.mul_comm]; exact (Nat.div_add_mod q sz).symm
      have h2 := flat_get (f := fun i' j' => if i' = i ∧ j' = j then u else f i' j') hi' hj'
      rw [← e] at h2
      have h3 := flat_get (f := f) hi' hj'
      rw [← e, ← ht, List.getElem?_take, if_pos hq] at h3
      rw [h2, List.getElem?_take, if_pos hq]
      by_cases hqe : q = i * sz + j
      · have e1 : q / sz = i := by rw [hqe, Nat.mul_comm, Nat.mul_add_div hz, Nat.div_eq_of_lt hj]; omega
        have e2 : q % sz = j := by rw [hqe, Nat.mul_comm, Nat.mul_add_mod, Nat.mod_eq_of_lt hj]
        rw [if_pos ⟨e1, e2⟩]
        have hlt : q < cur.size := by
          have h9 : q < cur.toList.length := (List.getElem?_eq_some_iff.1 h3).1
          simpa using h9
        rw [hqe] at hlt ⊢
        simp [hlt]
      · have hne : ¬ (q / sz = i ∧ q % sz = j) := fun ⟨a, b⟩ => hqe (by rw [e, a, b])
        rw [if_neg hne]
        simp only [Array.toList_setIfInBounds]
        rw [List.getElem?_set_ne (Ne.symm hqe)]
        exact h3
    · rw [List.getElem?_eq_none (by simp; omega), List.getElem?_eq_none (by rw [flat_length]; omega)]
theorem Own.blk {k : Nat} (h : Own w B E sz v n f) (hv : v.ownBlock = some k) : B ≤ k ∧ k < w.heap.size := World.ownsRow.lt h k hv
theorem Own.ne_ {B' g g' c c' sz' n' : Nat} {E' : TypeId} {f' : Nat → Nat → Value} (h : Own w B E sz (.slice (some ⟨g, 0, none⟩) n c) n f) (h' : Own w B' E' sz' (.slice (some ⟨g', 0, none⟩) n' c') n' f') (hne : E ≠ E') : g ≠ g' := by
  rintro rfl
  rcases h.2 with ⟨h2, _⟩ | ⟨q, cap, cur, hv, _, hh, _⟩
  · cases h2
  rcases h'.2 with ⟨h2, _⟩ | ⟨q', cap', cur', hv', _, hh', _⟩
  · cases h2
  have e1 : g = q := by simp at hv; exact hv.1
  have e2 : g = q' := by simp at hv'; exact hv'.1
  subst e1
  subst e2
  rw [hh] at hh'
  cases hh'
  exact hne rfl
theorem Own.far (h : Own w B E sz v n f) {p : Addr} (hp : v.ownBlock ≠ some p.block) (u : Value) : Own (w.setCell p u) B E sz v n f := by
  refine Own.kept (row := some p.block) h ⟨rfl, rfl, rfl, by simp [World.setCell], fun k _ hk => Below.heap_setCell w p u k (fun e => hk (by rw [e]))⟩ ?_
  cases hv : v.ownBlock with
  | none => exact .inl rfl
  | some k => exact .inr (by rw [← hv]; exact hp)
end
structure ElemT (P : Program) (t E : TypeId) (sz bytes : Nat) : Prop where
  ht : P.underlying t = some (.slice E)
  hi : ∃ i z, P.info? E = some i ∧ i.zero = some z ∧ i.size = sz ∧ i.bytes = bytes ∧ z.cells.size = sz
  pos : 0 < sz
theorem elemT {P : Program} {t E : TypeId} {sz bytes : Nat} {z : Value} (ht : P.underlying t = some (.slice E)) (h : (P.info? E).map (fun i => (i.zero, i.size, i.bytes)) = some (some z, sz, bytes)) (hz : z.cells.size = sz) (pos : 0 < sz) : ElemT P t E sz bytes := by
  obtain ⟨i, h1, h2, h3, h4⟩ := info_parts h
  exact ⟨ht, ⟨i, z, h1, h2, h3, h4, hz⟩, pos⟩
section
variable {P : Program} {w : World}
theorem run_append_R {t ty E : TypeId} {sz bytes B : Nat} (T : ElemT P t E sz bytes) {v : Value} {n : Nat} {f : Nat → Nat → Value} (hown : Own w B E sz v n f) {A : Option Addr} {m c : Nat} {g : Nat → Nat → Value} (hr : Rd w sz A m g)
    (hA : A = none → c = 0 ∨ True) (h1 : ∀ i j, i < m → j < sz → (g i j).oneCell' = true) (hm : n + m ≤ 1000000000) (hby : bytes ≤ 10000) (hB : B ≤ w.heap.size) :
    ∃ v' w', (Builtin.append_ #[t, t] ty #[v, .slice A m c]).run P w = .ok v' w' ∧ Own w' B E sz v' (n + m) (cat n f g) ∧ w.grownBy w' v.ownBlock ∧ (v'.ownBlock = v.ownBlock ∨ v'.ownBlock = some w.heap.size) := by
  obtain ⟨i, z, hi, hz, hs, hb, hzs⟩ := T.hi
  have hsmall : n + m ≤ maxLen := by simp only [maxLen]; omega
  have hbytes : (n + m) * bytes ≤ 140737488355328 := Nat.le_trans (Nat.mul_le_mul hm hby) (by decide)
  by_cases hm0 : m = 0
  · subst hm0
    have hfl : Own w B E sz v (n + 0) (cat n f g) := hown.congr fun i j hi _ => by simp [cat, show i < n from hi]
    cases A with
    | none =>
      refine ⟨v, w, ?_, hfl, World.grownBy.refl w _, .inl rfl⟩
      rcases hown.2 with ⟨rfl, rfl⟩ | ⟨g', cap, cur, rfl, _, _, hnc, _⟩
      · simp [Builtin.append_, run_underlying T.ht, sizeOf, typeInfo, hi, Builtin.lenOf, Builtin.firstCells]
      · simp [Builtin.append_, run_underlying T.ht, sizeOf, typeInfo, hi, Builtin.lenOf, Builtin.firstCells, hnc, storeCells]
    | some ad =>
      obtain ⟨v', w', hrun, h2, h3, _, h5⟩ := run_append_own_at (P := P) w B t ty E i z sz bytes T.ht hi hz hs hb hzs T.pos v n _ hown ad 0 c [] (by simp) (by simp) (by simp) (by simpa using hsmall) (by simpa using hbytes) hB
      refine ⟨v', w', hrun, ?_, h3, h5⟩
      unfold Own
      rw [flat_cat, show flat sz 0 g = [] from rfl]
      exact h2
  · obtain ⟨b, off, rfl, hlt, hc⟩ := hr (by omega)
    obtain ⟨v', w', hrun, h2, h3, _, h5⟩ := run_append_own_at (P := P) w B t ty E i z sz bytes T.ht hi hz hs hb hzs T.pos v n _ hown ⟨b, off, none⟩ m c (flat sz m g) (flat_length _ _ _) (fun q u hq => by
      have hql : q < m * sz := by have := (List.getElem?_eq_some_iff.1 hq).1; rw [flat_length] at this; exact this
      have hi' : q / sz < m := Nat.div_lt_of_lt_mul (by rw [Nat.mul_comm]; exact hql)
      have hj' : q % sz < sz := Nat.mod_lt _ T.pos
      have e : q = q / sz * sz + q % sz := by rw [Nat.mul_comm]; exact (Nat.div_add_mod q sz).symm
      have h2 := flat_get (f := g) hi' hj'
      rw [← e, hq] at h2
      have h3 := hc _ _ hi' hj'
      rw [Nat.add_assoc, ← e, ← h2] at h3
      rw [← h3]
      unfold Addr.add
      by_cases hq0 : q = 0
      · subst hq0; rfl
      · rw [if_neg hq0]) (fun u hu => by
      obtain ⟨q, hq, rfl⟩ := List.getElem_of_mem hu
      have hql : q < m * sz := by rw [flat_length] at hq; exact hq
      have hi' : q / sz < m := Nat.div_lt_of_lt_mul (by rw [Nat.mul_comm]; exact hql)
      have hj' : q % sz < sz := Nat.mod_lt _ T.pos
      have e : q = q / sz * sz + q % sz := by rw [Nat.mul_comm]; exact (Nat.div_add_mod q sz).symm
      have h2 := flat_get (f := g) hi' hj'
      rw [← e, List.getElem?_eq_getElem hq] at h2
      injection h2 with h2
      rw [h2]
      exact h1 _ _ hi' hj') hsmall hbytes hB
    refine ⟨v', w', hrun, ?_, h3, h5⟩
    unfold Own
    rw [flat_cat]
    exact h2
theorem wp_app {o : Oper} {a : Act} {K : Act → World → Prop} {Q : Exit → Act → World → Prop} (s x : Operand) {t E : TypeId} {sz bytes B : Nat} (T : ElemT P t E sz bytes) (ho : o.op = .call { callee := .builtin .append, args := #[s, x], argTypes := #[t, t] })
    {v : Value} {n : Nat} {f : Nat → Nat → Value} (hs : a.eval s = v) (hown : Own w B E sz v n f) {A : Option Addr} {m c : Nat} {g : Nat → Nat → Value} (hx : a.eval x = .slice A m c) (hr : Rd w sz A m g) (h1 : ∀ i j, i < m → j < sz → (g i j).oneCell' = true) (hm : n + m ≤ 1000000000)
    (hby : bytes ≤ 10000) (hB : B ≤ w.heap.size) (h : ∀ v' w', Own w' B E sz v' (n + m) (cat n f g) → w.grownBy w' v.ownBlock → (v'.ownBlock = v.ownBlock ∨ v'.ownBlock = some w.heap.size) → K (a.put o.dst v') w') : o.wp P a w K Q := by
  obtain ⟨v', w', hrun, h2, h3, h4⟩ := run_append_R (ty := o.type) T hown hr (fun _ => .inr trivial) h1 hm hby hB
  unfold Oper.wp execOp
  simp only [ho, resolve, invoke, builtin, Sem.run_bind, Sem.run_pure, Result.andThen_ok, List.map_toArray, List.map_cons, List.map_nil, hs, hx]
  rw [hrun]
  exact h v' w' h2 h3 h4
theorem wpList_app {ops : Array Oper} {rest : List Oper} {o : Oper} {a : Act} {Q : Exit → Act → World → Prop} (hgd : o.guard = none) (s x : Operand) {t E : TypeId} {sz bytes B : Nat} (T : ElemT P t E sz bytes) (ho : o.op = .call { callee := .builtin .append, args := #[s, x], argTypes := #[t, t] })
    {v : Value} {n : Nat} {f : Nat → Nat → Value} (hs : a.eval s = v) (hown : Own w B E sz v n f) {A : Option Addr} {m c : Nat} {g : Nat → Nat → Value} (hx : a.eval x = .slice A m c) (hr : Rd w sz A m g) (h1 : ∀ i j, i < m → j < sz → (g i j).oneCell' = true) (hm : n + m ≤ 1000000000)
    (hby : bytes ≤ 10000) (hB : B ≤ w.heap.size) (h : ∀ v' w', Own w' B E sz v' (n + m) (cat n f g) → w.grownBy w' v.ownBlock → (v'.ownBlock = v.ownBlock ∨ v'.ownBlock = some w.heap.size) → wpList P ops Q rest (a.put o.dst v') w') : wpList P ops Q (o :: rest) a w :=
  wpList_plain hgd fun _ hK => wp_app s x T ho hs hown hx hr h1 hm hby hB fun v' w' h2 h3 h4 => hK _ _ (h v' w' h2 h3 h4)
end
end Go.Proofs.YtbenhafhklfhmaaGreat
namespace Go.Proofs.YtbenhafhklfhmaaGreat
set_option linter.all false
set_option linter.unusedVariables false
set_option linter.unusedSimpArgs false
open Go.RowKit
section
variable {P : Program} {ops : Array Oper} {Q : Exit → Act → World → Prop}
theorem calls_of_marks {f : FuncId} {fn : Func} {c : Code} {args : Array Value} {w : World} {R : Ending → World → Prop} (hf : P.funcs[f]? = some fn) (hb : fn.body = some c)
    (h : c.wp P (bodyPostM Fence.wide 2 P fn R) { tmps := args ++ Array.replicate (fn.ntmps - args.size) undef, defers := [] } w) : Calls P f args w R :=
  (callsIn_wide (n := 2)).1 (callsIn_of_wp_marks hf hb trivial ((wpIn_wide (n := 2)).2 h))
theorem ret_marks {fn : Func} {R : Ending → World → Prop} {t : Array Value} {D : Nat} {w : World} {v : Value} (hD : w.heap[D]? = some (.deferred (some []))) (hr : (results fn t).run P (w.putObj D (.deferred none)) = .ok v (w.putObj D (.deferred none)))
    (hR : R (.returned v) (w.putObj D (.deferred none))) : bodyPostM Fence.wide 2 P fn R .ret { tmps := t, defers := [{ target := .collected D, args := #[] }] } w :=
  ⟨by simp, .inl ⟨D, _, rfl, run_takeDeferred hD, v, hr, hR⟩⟩
theorem ret_marks0 {fn : Func} {R : Ending → World → Prop} {t : Array Value} {w : World} {v : Value} (hr : (results fn t).run P w = .ok v w) (hR : R (.returned v) w) : bodyPostM Fence.wide 2 P fn R .ret { tmps := t, defers := [] } w := ⟨v, hr, hR⟩
theorem opIn {l m i : Nat} {K K' : Act → World → Prop} {a : Act} {w : World} (hK : ∀ a w, K a w → K' a w) (hnd : ∀ (o : Oper) c, ops[i]? = some o → o.op ≠ .defer c) (hL : ¬ LetsOut Q) (h : wpOp P ops Q i K a w) :
    wpOpIn (Fence.wide.inRound l) m P ops Q i K' a w := by
  unfold wpOp at h
  unfold wpOpIn
  cases ho : ops[i]? with
  | none => rw [ho] at h; exact hK _ _ h
  | some o =>
    rw [ho] at h
    simp only at h ⊢
    split
    · rename_i hw
      rw [if_pos hw] at h
      rcases h with h | ⟨_, h⟩
      · refine ⟨fun _ _ => trivial, ?_⟩
        rw [Fence.inRound_round, Oper.semAt_some l a.eval o (fun c => hnd o c ho)]
        unfold Oper.wp at h
        generalize (execOp a.eval o).run P w = r at *
        cases r with
        | ok x w' =>
          cases x <;> simp only [Oper.upon] at h <;> simp only [Oper.uponIn]
          case value u => exact hK _ _ h
          case skip => exact hK _ _ h
          case defer d => exact hK _ _ h
          case enter f args =>
            refine ⟨fun h9 => (by simp [Fence.wide] at h9), CallsIn.inRound l (callsIn_wide.2 (Calls.mono h fun e w'' he => ?_))⟩
            cases e with
            | returned u => exact hK _ _ he
            | panicked ch => exact he
            | outgrown => exact he
          case row row args =>
            refine ⟨fun h9 => (by simp [Fence.wide] at h9), fun c cs _ => ?_⟩
            obtain ⟨v, w'', r1, s1⟩ := h c cs
            exact ⟨v, w'', hK _ _ r1, stepsIn_wide.2 s1⟩
        | halt x w' => cases x <;> simp only [Oper.upon] at h <;> exact h
      · exact absurd h hL
    · rename_i hw
      rw [if_neg hw] at h
      exact ⟨fun _ _ => trivial, hK _ _ h⟩
def noDefer (ops : Array Oper) : Bool := ops.all fun o => match o.op with | .defer _ => false | _ => true
theorem noDefer_spec (h : noDefer ops = true) (i : Nat) (o : Oper) (c : Call) (ho : ops[i]? = some o) : o.op ≠ .defer c := by
  intro e
  have := Array.all_eq_true_iff_forall_mem.1 h o (Array.mem_of_getElem? ho)
  simp [e] at this
theorem anyIn {l m : Nat} {md : Region.Mode} (hnd : noDefer ops = true) (hL : ¬ LetsOut Q) : ∀ (fuel : Nat) (listed : Array Bool) (a : Act) (w : World), wpAny P md ops Q fuel listed a w → wpAnyIn (Fence.wide.inRound l) m P md ops Q fuel listed a w
  | 0, _, _, _, h => h
  | fuel + 1, _, _, _, h => ⟨h.1, fun i hi => opIn (fun a w => anyIn hnd hL fuel _ a w) (fun o c ho => noDefer_spec hnd i o c ho) hL (h.2 i hi)⟩
theorem RW.beginIn {l m id n : Nat} {a : Act} {w : World} (hm : P.follows .mixedOrders = true) (hT : tailOk ops n = true) (hp : Pan Q) (hnd : noDefer ops = true) (hL : ¬ LetsOut Q)
    (h : Below w.heap.size w w.drew → RW P ops Q n (Below w.heap.size w) 0 (ops.toList.take n) [] [] (Array.replicate n false) n a w.drew) : (Code.region id ops true).wpIn (Fence.wide.inRound l) m P Q a w := by
  have T := tailOk_spec hT
  refine wpIn_region_any hm (anyIn hnd hL _ _ _ _ ?_)
  have := front_any T n (Array.replicate n false) (Array.replicate ops.size false) a w.drew (by simp) (by simp) (fun i hi => by simp [Array.getElem?_replicate, hi]; have := T.le; omega) (fun i _ hi => by simp [hi]) (fun i o h0 hs _ _ _ _ => by simp at hs; rw [Array.getD_eq_getD_getElem?, Array.getElem?_replicate, if_pos hs] at h0; cases h0) (wpAny_of_held _ _ _ _ (h (keep_drew w) rfl (fun p hp => (by cases hp)) hp))
  rw [show n + (ops.size - n) = ops.size by have := T.le; omega] at this
  exact this
def roundAct (a : Act) (ps : Array Tmp) (vs : Array Value) : Act := { tmps := (ps.zip vs).foldl (fun t (p, v) => t.setIfInBounds p v) a.tmps, defers := [] }
theorem range_wide {α : Type} {g : Operand} {ps : Array Tmp} {assign body : Code} {a : Act} {w : World} {gf : Nat} {lb : Array Value} (hg : a.eval g = .func (.func gf) #[] lb) (eg : Enters P gf)
    {encs : α → Array Value} {Kp : World → World → Prop} {S Sp : List α → Prop} {N : Nat} {w0 : World} (hseq : SeqStopsK Fence.wide 1 P gf lb encs Kp S Sp N w0)
    (hKt : ∀ A B C : World, Kp A B → Kp B C → Kp A C) (hKb : ∀ (W : World) (l : Nat) (o' : Obj), w.heap.size ≤ l → Kp W (W.putObj l o')) (hb0 : Below w0.heap.size w0 w) (hps : ∀ x, (encs x).size = ps.size)
    (I : List α → World → Prop) (Ix : Code → List α → World → Prop) (hI : OwnFrom w.heap.size I) (hIx : ∀ c, OwnFrom w.heap.size (Ix c)) (h0 : I [] w) (Ax : α → Act → Act → World → Prop) (hAx : ∀ x a0 a', OwnFrom w.heap.size (fun (_ : Unit) W => Ax x a0 a' W))
    (hassign : ∀ (l : Nat) (pre : List α) (x : α) (W : World) (K : Act → World → Prop), I pre W → (∀ a' W', KeepsFrom w.heap.size W W' → Kp W W' → I pre W' → Ax x (roundAct a ps (encs x)) a' W' → K a' W') →
      assign.wpIn (Fence.wide.inRound l) 0 P (Exit.then K (fun _ _ _ => False)) (roundAct a ps (encs x)) W)
    (hbody : ∀ (l : Nat) (pre : List α) (x : α) (a' : Act) (W : World), I pre W → Ax x (roundAct a ps (encs x)) a' W → pre.length < N → body.wpIn (Fence.wide.inRound l) 0 P (ownPostG w.heap.size Kp I Ix (pre ++ [x]) W) a' W)
    (hdone : ∀ (D : Nat) (xs : List α) (W : World), w.heap.size ≤ D → S xs → I xs W → W.heap[D]? = some (.deferred (some [])) → Q .normal { a with defers := { target := .collected D, args := #[] } :: a.defers } W)
    (hstop : ∀ (D : Nat) (c : Code) (pre : List α) (W : World), w.heap.size ≤ D → Sp pre → Ix c pre W → W.heap[D]? = some (.deferred (some [])) → c.wp P Q { a with defers := { target := .collected D, args := #[] } :: a.defers } W) :
    (Code.rangeFunc g ps assign body).wp P Q a w := by
  refine (wpIn_wide (n := 2)).1 ?_
  exact wpIn_rangeFunc_ownH (F := Fence.wide) (n := 2) rfl (by decide) hg trivial eg hseq (fun {A B C} => hKt A B C) (fun W l _ o' h _ _ _ => hKb W l o' h) hb0 hps I Ix hI hIx h0 (fun x a' W => Ax x (roundAct a ps (encs x)) a' W) (fun x a' => hAx x _ a')
    (fun l pre x W K h1 h2 => hassign l pre x W K h1 h2) (fun l pre x a' W _ _ h1 h2 h3 => hbody l pre x a' W h1 h2 h3) hdone (fun D c pre W h1 h2 h3 h4 => (wpIn_wide (n := 2)).2 (hstop D c pre W h1 h2 h3 h4))
theorem own_cells {w : World} {B : Nat} {E : TypeId} {sz n : Nat} {v : Value} {f : Nat → Nat → Value} {k : Nat} {o : Obj} (h : Own w B E sz v n f) (hv : v.ownBlock = some k) (ho : w.heap[k]? = some o) (hc : o.isCells = false) : False := by
  rcases h.2 with ⟨rfl, _⟩ | ⟨g, cap, cur, rfl, _, hh, _⟩
  · simp [Value.ownBlock] at hv
  · have : g = k := by simpa [Value.ownBlock] using hv
    subst this
    rw [hh] at ho
    cases ho
    cases hc
theorem Blk.own {B : Nat} {W W' : World} {row : Option Nat} {g : Nat} {t : TypeId} {cs : Array Value} (h : Blk W g t cs) (hg : W.grownBy W' row) (hr : ∀ r, row = some r → B ≤ r ∧ ∃ o : Obj, W.heap[r]? = some o ∧ o.isCells = false) : Blk W' g t cs :=
  h.grown hg fun e => by
    obtain ⟨_, o, ho, hc⟩ := hr g e.symm
    unfold Blk at h
    rw [h] at ho
    cases ho
    cases hc
theorem Below.own {B N : Nat} {w W W' : World} {row : Option Nat} (h : Below N w W) (hB : N ≤ B) (hs : N ≤ W.heap.size) (hg : W.grownBy W' row) (hr : ∀ r, row = some r → B ≤ r ∧ ∃ o : Obj, W.heap[r]? = some o ∧ o.isCells = false) : Below N w W' :=
  h.grown hg hs fun k e => Nat.le_trans hB (hr k e).1
theorem obj_setCell {w : World} {D : Nat} {o : Obj} (h : w.heap[D]? = some o) (hc : o.isCells = false) (p : Addr) (u : Value) : (w.setCell p u).heap[D]? = some o := by
  simp only [World.setCell, Array.getElem?_modify, h]
  split
  · cases o <;> simp [Obj.isCells] at hc <;> rfl
  · rfl
theorem obj_blw {w w' : World} {D : Nat} {o : Obj} (h : w.heap[D]? = some o) (hb : Below w.heap.size w w') : w'.heap[D]? = some o := (hb.block D (Array.getElem?_eq_some_iff.1 h).1).trans h
theorem KeepsFrom.of_ext {B : Nat} {W W' : World} (h : Below W.heap.size W W') : KeepsFrom B W W' := ⟨h.size, fun _ _ _ hk _ => obj_blw hk h⟩
theorem KeepsFrom.set {B : Nat} {X W : World} (h : KeepsFrom B X W) (p : Addr) (u : Value) : KeepsFrom B X (W.setCell p u) := h.trans ((KeepsOthers.setCell _ _ _).from B)
theorem Below.putObj {B D : Nat} {w W : World} (h : Below B w W) (hD : B ≤ D) (o : Obj) : Below B w (W.putObj D o) := h.trans ⟨rfl, rfl, rfl, by simp, fun k hk => World.putObj_heap_other (by omega)⟩
theorem Blk.putObj {W : World} {D g : Nat} {t : TypeId} {cs : Array Value} {o : Obj} (h : Blk W g t cs) (hD : W.heap[D]? = some o) (ho : o.isCells = false) (o' : Obj) : Blk (W.putObj D o') g t cs := by
  have hne : g ≠ D := fun e => by subst e; unfold Blk at h; rw [h] at hD; cases hD; cases ho
  exact (World.putObj_heap_other hne).trans h
theorem Own.putObj {W : World} {D B : Nat} {E : TypeId} {sz n : Nat} {v : Value} {f : Nat → Nat → Value} {o : Obj} (h : Own W B E sz v n f) (hD : W.heap[D]? = some o) (ho : o.isCells = false) (o' : Obj) : Own (W.putObj D o') B E sz v n f :=
  h.kept (row := some D) (grownBy_putObj' W D o') (by
    cases hv : v.ownBlock with
    | none => exact .inl rfl
    | some k => exact .inr fun e => by cases e; exact own_cells h hv hD ho)
end
end Go.Proofs.YtbenhafhklfhmaaGreat
