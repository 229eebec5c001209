/-
  Part 1 of the proof of leaderWrites_holds: declarations of several texts, in build order. No condition on a program.
-/
import Derived.Test.YtehlbkmebaideaaGreatDoorRows
import Derived.WalkKit
import Derived.WalkSpells
import Derived.WalkLawsBesides
import Derived.Deep.QuietTactic
import Derived.BigQuiet
import Derived.OrdersHeld
import Derived.Maps.AppendAt
import Derived.OwnWalk
import Derived.Lib.SliceRun
import Derived.RangeFuncNested
import Derived.RangeFuncBound
import Derived.RangeFuncCalls
import Derived.RangeFuncLeaves
import Derived.OwnWalkIn
import Derived.TacticsInMore
import Derived.LoopNIn
import Derived.LoopIn
import Derived.OrdersIn
import Derived.Deep.LoopGhost
namespace Go.Proofs.YtehlbkmebaideaaGreatDoor
set_option linter.all false
set_option linter.unusedVariables false
set_option linter.unusedSimpArgs false
open Go.RowKit
theorem ret_bool {a b : Bool} (h : b = a) : Ending.returned (.bool a) = .returned (.bool b) := by rw [h]
def Rd (w : World) (sz : Nat) (A : Option Addr) (n : Nat) (f : Nat → Nat → Value) : Prop :=
  0 < n → ∃ b off, A = some ⟨b, off, none⟩ ∧ b < w.heap.size ∧ ∀ i j, i < n → j < sz → w.cell? ⟨b, off + i * sz + j, none⟩ = some (f i j)
section
variable {w wr : World} {sz n : Nat} {A : Option Addr} {f : Nat → Nat → Value}
theorem Rd.nil : Rd w sz A 0 f := fun h => absurd h (by omega)
theorem Rd.congr {g : Nat → Nat → Value} (h : Rd w sz A n f) (he : ∀ i j, i < n → j < sz → f i j = g i j) : Rd w sz A n g := fun hn => by
  obtain ⟨b, off, h1, h2, h3⟩ := h hn
  exact ⟨b, off, h1, h2, fun i j hi hj => by rw [← he i j hi hj]; exact h3 i j hi hj⟩
theorem Rd.atn {k : Nat} (h : Rd w sz A n f) (hk : k < n) (hb : Below w.heap.size w wr) :
    ∃ b off, A = some ⟨b, off, none⟩ ∧ b < w.heap.size ∧ ∀ j, j < sz → wr.cell? ⟨b, off + k * sz + j, none⟩ = some (f k j) := by
  obtain ⟨b, off, h1, h2, h3⟩ := h (by omega)
  exact ⟨b, off, h1, h2, fun j hj => by rw [hb.cell (p := ⟨b, _, none⟩) h2]; exact h3 k j hk hj⟩
theorem Rd.new (w : World) (cs : Array Value) (E : TypeId) (sz n : Nat) (hs : cs.size = n * sz) :
    Rd (w.alloc (.cells cs E)) sz (some ⟨w.heap.size, 0, none⟩) n (fun i j => cs.getD (i * sz + j) undef) := fun hn =>
  ⟨w.heap.size, 0, rfl, by simp, fun i j hi hj => by
    have hlt : i * sz + j < cs.size := by rw [hs]; calc i * sz + j < i * sz + sz := by omega
      _ = (i + 1) * sz := by rw [Nat.add_mul]; omega
      _ ≤ n * sz := Nat.mul_le_mul_right _ (by omega)
    rw [cell_of_row (w.alloc (.cells cs E)) w.heap.size _ cs E (0, 0) (heap_alloc_new w _)]
    simp [Array.getD, hlt]⟩
end
def Blk (w : World) (g : Nat) (t : TypeId) (cs : Array Value) : Prop := w.heap[g]? = some (.cells cs t (0, 0))
section
variable {w w' : World} {g : Nat} {t : TypeId} {cs : Array Value}
theorem Blk.lt (h : Blk w g t cs) : g < w.heap.size := by
  rcases Nat.lt_or_ge g w.heap.size with hlt | hge
  · exact hlt
  · unfold Blk at h; rw [Array.getElem?_eq_none hge] at h; cases h
theorem Blk.cell (h : Blk w g t cs) (i : Nat) : w.cell? ⟨g, i, none⟩ = cs[i]? := cell_of_row w g i cs t (0, 0) h
theorem Blk.frozen (h : Blk w g t cs) (i : Nat) : w.frozen? ⟨g, i, none⟩ = false := by
  unfold Blk at h
  simp [World.frozen?, h]
theorem Blk.new (w : World) (t : TypeId) (cs : Array Value) : Blk (w.alloc (.cells cs t)) w.heap.size t cs := heap_alloc_new w _
theorem Blk.alloc (h : Blk w g t cs) (o : Obj) : Blk (w.alloc o) g t cs := (Below.heap_alloc w o g h.lt).trans h
theorem Blk.set_ (h : Blk w g t cs) (i : Nat) (u : Value) : Blk (w.setCell ⟨g, i, none⟩ u) g t (cs.setIfInBounds i u) := by
  unfold Blk at h ⊢
  simp [World.setCell, Array.getElem?_modify, h]
theorem Blk.below {B : Nat} (h : Blk w g t cs) (hb : Below B w w') (hg : g < B) : Blk w' g t cs := (hb.block g hg).trans h
theorem Blk.blw (h : Blk w g t cs) (hb : Below w.heap.size w w') : Blk w' g t cs := h.below hb h.lt
end
theorem Rd.of_blk {w : World} {cs : Array Value} {E : TypeId} {sz n b : Nat} {f : Nat → Nat → Value} (h : Blk w b E cs) (hs : cs.size = n * sz) (hf : ∀ i j, i < n → j < sz → cs.getD (i * sz + j) undef = f i j) :
    Rd w sz (some ⟨b, 0, none⟩) n f := fun _ => ⟨b, 0, rfl, h.lt, fun i j hi hj => by
  have hlt : i * sz + j < cs.size := by
    rw [hs]
    have := Nat.mul_le_mul_right sz (show i + 1 ≤ n by omega)
    rw [Nat.add_mul] at this
    omega
  rw [Nat.zero_add, h.cell, ← hf i j hi hj]
  simp [Array.getD, hlt]⟩
def allB (n : Nat) (p : Nat → Bool) : Bool := (List.range n).all p
def anyB (n : Nat) (p : Nat → Bool) : Bool := (List.range n).any p
theorem allB_iff {n : Nat} {p : Nat → Bool} : allB n p = true ↔ ∀ i, i < n → p i = true := by simp [allB]
theorem not_anyB {n : Nat} {p : Nat → Bool} : (!anyB n p) = allB n fun i => !p i := by simp [anyB, allB, List.not_any_eq_all_not]
theorem keep_drew (W : World) : Below W.heap.size W W.drew := ⟨rfl, rfl, rfl, Nat.le_refl _, fun _ _ => rfl⟩
def Enters (P : Program) (g : FuncId) : Prop := ∀ args w, (callFunc g args).run P w = .ok (.enter g args) w
theorem enters {P : Program} {f : FuncId} {fn : Func} {c : Code} (hf : P.funcs[f]? = some fn) (hname : (fn.name == "runtime.NumGoroutine") = false) (hb : fn.body = some c) : Enters P f := fun args w => by
  have h1 : fn.name ≠ "runtime.NumGoroutine" := by simpa using hname
  simp [callFunc, hf, h1, hb]
def Ret (w : World) (v : Value) (e : Ending) (w' : World) : Prop := e = .returned v ∧ Below w.heap.size w w'
end Go.Proofs.YtehlbkmebaideaaGreatDoor
namespace Go.Proofs.YtehlbkmebaideaaGreatDoor
set_option linter.all false
set_option linter.unusedVariables false
set_option linter.unusedSimpArgs false
open Go.RowKit
section
variable {P : Program} {ops : Array Oper} {Q : Exit → Act → World → Prop}
def tailPost (P : Program) (ops : Array Oper) (Q : Exit → Act → World → Prop) (n : Nat) : Exit → Act → World → Prop := fun e a w =>
  match e with
  | .normal => wpOps P ops Q (List.range' n (ops.size - n)) a w
  | e => Q e a w
def frontOf (ops : Array Oper) (n : Nat) : Array Oper := (ops.toList.take n).toArray
theorem frontOf_get {n i : Nat} (hi : i < n) : (frontOf ops n)[i]? = ops[i]? := by simp [frontOf, hi]
theorem frontOf_ge {n i : Nat} (hi : n ≤ i) : (frontOf ops n)[i]? = none := by simp [frontOf, List.getElem?_take]; omega
def direct (o : Oper) : Nat := o.after.toList.foldl (fun m e => if Region.binds .any e then m ||| 2 ^ e.on else m) 0
def closeBack (ops : Array Oper) : Nat → Nat → Nat
  | 0, S => S
  | j + 1, S => closeBack ops j (if S.testBit j then (match ops[j]? with | none => S | some o => S ||| direct o) else S)
theorem direct_spec {o : Oper} {j : Nat} (h : (direct o).testBit j = true) : ∃ e ∈ o.after, Region.binds .any e = true ∧ e.on = j := by
  have key : ∀ (l : List Edge) (m : Nat), (l.foldl (fun m e => if Region.binds .any e then m ||| 2 ^ e.on else m) m).testBit j = true → m.testBit j = true ∨ ∃ e ∈ l, Region.binds .any e = true ∧ e.on = j := by
    intro l
    induction l with
    | nil => intro m h; exact .inl h
    | cons e l ih =>
      intro m h
      rw [List.foldl_cons] at h
      rcases ih _ h with h | ⟨e', he', h'⟩
      · split at h
        · rename_i hb
          rw [Nat.testBit_or, Nat.testBit_two_pow, Bool.or_eq_true, decide_eq_true_eq] at h
          rcases h with h | h
          · exact .inl h
          · exact .inr ⟨e, by simp, hb, h⟩
        · exact .inl h
      · exact .inr ⟨e', by simp [he'], h'⟩
  rcases key _ _ h with h | ⟨e, he, h'⟩
  · simp at h
  · exact ⟨e, by simpa using he, h'⟩
def Closed (ops : Array Oper) (L : Array Bool) : Prop := ∀ i o, L.getD i true = true → i < L.size → ops[i]? = some o → ∀ e ∈ o.after, Region.binds .any e = true → L.getD e.on true = true
theorem closeBack_spec {L : Array Bool} (hL : Closed ops L) (hs : ops.size ≤ L.size) : ∀ (j S : Nat), (∀ q, S.testBit q = true → L.getD q true = true) → ∀ q, (closeBack ops j S).testBit q = true → L.getD q true = true
  | 0, S, h => h
  | j + 1, S, h => by
    refine closeBack_spec hL hs j _ ?_
    split
    · rename_i hb
      cases ho : ops[j]? with
      | none => exact h
      | some o =>
        intro q hq
        simp only [Nat.testBit_or, Bool.or_eq_true] at hq
        rcases hq with hq | hq
        · exact h q hq
        · obtain ⟨e, he, hbi, rfl⟩ := direct_spec hq
          exact hL j o (h j hb) (Nat.lt_of_lt_of_le (Array.getElem?_eq_some_iff.1 ho).1 hs) ho e he hbi
    · exact h
def tailOk (ops : Array Oper) (n : Nat) : Bool := n ≤ ops.size && (List.range ops.size).all fun i => match ops[i]? with
  | none => true
  | some o => (o.after.all fun e => !Region.binds .any e || decide (e.on < i)) && (if i < n then (match o.guard with | none => true | some (g, _) => decide (g < n)) else (List.range i).all fun j => (closeBack ops i (direct o)).testBit j)
structure TailOk (ops : Array Oper) (n : Nat) : Prop where
  le : n ≤ ops.size
  low : ∀ i o, ops[i]? = some o → ∀ e ∈ o.after, Region.binds .any e = true → e.on < i
  guard : ∀ i o g b, i < n → ops[i]? = some o → o.guard = some (g, b) → g < n
  wait : ∀ i o j, n ≤ i → ops[i]? = some o → j < i → (closeBack ops i (direct o)).testBit j = true
theorem tailOk_spec {n : Nat} (h : tailOk ops n = true) : TailOk ops n := by
  simp only [tailOk, Bool.and_eq_true, decide_eq_true_eq, List.all_eq_true, List.mem_range] at h
  obtain ⟨h0, h⟩ := h
  have h' : ∀ i o, ops[i]? = some o → ((o.after.all fun e => !Region.binds .any e || decide (e.on < i)) && (if i < n then (match o.guard with | none => true | some (g, _) => decide (g < n)) else (List.range i).all fun j => (closeBack ops i (direct o)).testBit j)) = true := fun i o ho => by
    have := h i (Array.getElem?_eq_some_iff.1 ho).1
    simpa only [ho] using this
  refine ⟨h0, fun i o ho e he hb => ?_, fun i o g b hi ho hg => ?_, fun i o j hi ho hj => ?_⟩
  · have := (Bool.and_eq_true _ _ ▸ h' i o ho).1
    have := Array.all_eq_true_iff_forall_mem.1 this e he
    simpa [hb] using this
  · have := (Bool.and_eq_true _ _ ▸ h' i o ho).2
    rw [if_pos hi, hg] at this
    simpa using this
  · have := (Bool.and_eq_true _ _ ▸ h' i o ho).2
    rw [if_neg (by omega)] at this
    exact List.all_eq_true.1 this j (List.mem_range.2 hj)
theorem getD_up {L : Array Bool} {q : Nat} {d : Bool} (h : L.getD q d = true) : L.getD q true = true := by
  rw [Array.getD_eq_getD_getElem?] at h ⊢
  cases e : L[q]? with
  | none => rfl
  | some b => rw [e] at h; exact h
theorem TailOk.listed {n i j : Nat} {o : Oper} {L : Array Bool} (T : TailOk ops n) (hc : Closed ops L) (hs : ops.size ≤ L.size) (hi : n ≤ i) (ho : ops[i]? = some o) (hj : j < i)
    (hr : ∀ e ∈ o.after, Region.binds .any e = true → L.getD e.on true = true) : L.getD j true = true :=
  closeBack_spec hc hs i (direct o) (fun q hq => by obtain ⟨e, he, hb, rfl⟩ := direct_spec hq; exact hr e he hb) j (T.wait i o j hi ho hj)
theorem getD_set {L : Array Bool} {i r : Nat} (h : L.getD r true = true) : (L.setIfInBounds i true).getD r true = true := by
  rw [Array.getD_eq_getD_getElem?] at h ⊢
  rw [Array.getElem?_setIfInBounds]
  split
  · split <;> rfl
  · exact h
theorem Closed.set {L : Array Bool} {i : Nat} (h : Closed ops L) (hr : ∀ o, ops[i]? = some o → ∀ e ∈ o.after, Region.binds .any e = true → L.getD e.on true = true) : Closed ops (L.setIfInBounds i true) := by
  intro q o hq hs ho e he hb
  refine getD_set ?_
  by_cases hqi : q = i
  · subst hqi; exact hr o ho e he hb
  · refine h q o ?_ (by simpa using hs) ho e he hb
    rw [Array.getD_eq_getD_getElem?] at hq ⊢
    rwa [Array.getElem?_setIfInBounds_ne (Ne.symm hqi)] at hq
theorem wpOp_front {n i : Nat} (T : TailOk ops n) (hi : i < n) {K K' : Act → World → Prop} {a : Act} {w : World} (hK : ∀ a w, K a w → K' a w)
    (h : wpOp P (frontOf ops n) (tailPost P ops Q n) i K a w) : wpOp P ops Q i K' a w := by
  unfold wpOp at *
  rw [frontOf_get hi] at h
  cases ho : ops[i]? with
  | none => simp only [ho] at h ⊢; exact hK _ _ h
  | some o =>
    simp only [ho] at h ⊢
    have hy : Region.wanted o (yielded (frontOf ops n) a.tmps) = Region.wanted o (yielded ops a.tmps) := by
      unfold Region.wanted
      cases hg : o.guard with
      | none => rfl
      | some gw =>
        obtain ⟨g, b⟩ := gw
        simp only [yielded, frontOf_get (T.guard i o g b hi ho hg)]
    rw [hy] at h
    split
    · rename_i hw
      rw [if_pos hw] at h
      rcases h with h | ⟨hA, hL⟩
      · refine .inl ?_
        unfold Oper.wp at *
        generalize (execOp a.eval o).run P w = r at *
        cases r with
        | ok x w' =>
          cases x <;> simp only [Oper.upon] at h ⊢ <;> first
            | exact hK _ _ h
            | exact Calls.mono h (fun e w'' he => by
                cases e with
                | returned v => exact hK _ _ he
                | panicked c => exact he
                | outgrown => obtain ⟨x, y, z⟩ := he; exact ⟨x, y, z⟩)
            | exact Rows.mono h (fun _ _ he => hK _ _ he)
        | halt x w' => cases x <;> simp only [Oper.upon] at h ⊢ <;> exact h
      · obtain ⟨x, y, z⟩ := hL
        exact .inr ⟨hA, x, y, z⟩
    · rename_i hw
      rw [if_neg hw] at h
      exact hK _ _ h
theorem getD_some {l : Array Bool} {i : Nat} {b d : Bool} (h : l[i]? = some b) : l.getD i d = b := by simp [Array.getD_eq_getD_getElem?, h]
theorem tail_any {n : Nat} (T : TailOk ops n) : ∀ (k fuel j : Nat) (L : Array Bool) (a : Act) (w : World), k ≤ fuel → n ≤ j → j + k = ops.size →
    (∀ i, i < ops.size → L[i]? = some (decide (i < j))) → wpOps P ops Q (List.range' j k) a w → wpAny P .any ops Q fuel L a w := by
  intro k
  induction k with
  | zero =>
    intro fuel j L a w _ _ hj hL h
    refine wpAny_done ?_ h fuel
    apply List.eq_nil_iff_forall_not_mem.2
    intro i hi
    obtain ⟨h1, o, ho, _⟩ := mem_ready.1 hi
    have hlt := (Array.getElem?_eq_some_iff.1 ho).1
    rw [getD_some (hL i hlt)] at h1
    simp at h1; omega
  | succ k ih =>
    intro fuel j L a w hf hn hj hL h
    obtain ⟨fuel, rfl⟩ : ∃ f, fuel = f + 1 := ⟨fuel - 1, by omega⟩
    have hjl : j < ops.size := by omega
    have ho : ops[j]? = some ops[j] := Array.getElem?_eq_getElem hjl
    have hr : j ∈ Region.ready .any ops L := mem_ready.2 ⟨by rw [getD_some (hL j hjl)]; simp, ops[j], ho, fun e he hb => by
      have := T.low j _ ho e he hb
      rw [getD_some (hL e.on (by omega))]; simpa using this⟩
    refine ⟨fun h0 => (by rw [h0] at hr; cases hr), fun i hi => ?_⟩
    obtain ⟨h1, o, hoi, hall⟩ := mem_ready.1 hi
    have hlt := (Array.getElem?_eq_some_iff.1 hoi).1
    rw [getD_some (hL i hlt)] at h1
    simp only [decide_eq_false_iff_not, Nat.not_lt] at h1
    have hij : i = j := by
      rcases Nat.lt_or_ge j i with hlt' | hge
      · have hsz : ops.size ≤ L.size := by
          refine Nat.le_of_not_lt fun hlt2 => ?_
          have := hL L.size hlt2
          simp at this
        have := T.listed (L := L) (fun q o' hq hqs hoq e he hb => by
          have hqo : q < ops.size := (Array.getElem?_eq_some_iff.1 hoq).1
          have hlo := T.low q o' hoq e he hb
          rw [getD_some (hL q hqo)] at hq
          rw [getD_some (hL e.on (by omega))]
          simp at hq ⊢; omega) hsz (by omega) hoi hlt' (fun e he hb => getD_up (hall e he hb))
        rw [getD_some (hL j hjl)] at this
        simp at this
      · omega
    subst hij
    rw [List.range'_succ, wpOps_cons] at h
    refine wpOp_mono (fun a' w' h' => ih fuel (i + 1) _ a' w' (by omega) (by omega) (by omega) (fun q hq => ?_) h') h
    by_cases hqi : q = i
    · subst hqi
      have hs : q < L.size := by
        rcases Nat.lt_or_ge q L.size with h' | h'
        · exact h'
        · have := hL q hq; rw [Array.getElem?_eq_none h'] at this; cases this
      simp [Array.getElem?_setIfInBounds_self_of_lt hs]
    · rw [Array.getElem?_setIfInBounds_ne (Ne.symm hqi), hL q hq]
      congr 1
      simp only [decide_eq_decide]
      omega
theorem front_any {n : Nat} (T : TailOk ops n) : ∀ (fuel : Nat) (l L : Array Bool) (a : Act) (w : World), l.size = n → L.size = ops.size →
    (∀ i, i < n → L[i]? = l[i]?) → (∀ i, n ≤ i → i < ops.size → L[i]? = some false) → Closed ops L →
    wpAny P .any (frontOf ops n) (tailPost P ops Q n) fuel l a w → wpAny P .any ops Q (fuel + (ops.size - n)) L a w := by
  have hle := T.le
  intro fuel
  induction fuel with
  | zero =>
    intro l L a w hl hLs h1 h2 hc h
    have hall : ∀ i, i < n → l[i]? = some true := fun i => by
      induction i using Nat.strongRecOn with
      | ind i ihi =>
        intro hi
        have hs : l[i]? = some l[i] := Array.getElem?_eq_getElem (by omega)
        cases hb : l[i] with
        | true => rw [hs, hb]
        | false =>
          have : i ∈ Region.ready .any (frontOf ops n) l := mem_ready.2 ⟨by rw [getD_some (hs.trans (by rw [hb]))], ops[i], by rw [frontOf_get hi]; exact Array.getElem?_eq_getElem (by omega), fun e he hbi => by
            have hlo := T.low i _ (Array.getElem?_eq_getElem (by omega)) e he hbi
            rw [getD_some (ihi e.on hlo (by omega))]⟩
          rw [h.1] at this; cases this
    have hq : wpOps P ops Q (List.range' n (ops.size - n)) a w := h.2
    exact tail_any T (ops.size - n) _ n L a w (by omega) (Nat.le_refl _) (by omega) (fun i hi => by
      by_cases hin : i < n
      · rw [h1 i hin, hall i hin]; simp [hin]
      · rw [h2 i (by omega) hi]; simp [hin]) hq
  | succ fuel ih =>
    intro l L a w hl hLs h1 h2 hc h
    by_cases hall : ∀ i, i < n → l[i]? = some true
    · have hq : wpOps P ops Q (List.range' n (ops.size - n)) a w := h.1 (by
        apply List.eq_nil_iff_forall_not_mem.2
        intro i hi
        obtain ⟨h3, o, ho, _⟩ := mem_ready.1 hi
        rcases Nat.lt_or_ge i n with hin | hin
        · rw [getD_some (hall i hin)] at h3; cases h3
        · rw [frontOf_ge hin] at ho; cases ho)
      exact tail_any T (ops.size - n) _ n L a w (by omega) (Nat.le_refl _) (by omega) (fun i hi => by
        by_cases hin : i < n
        · rw [h1 i hin, hall i hin]; simp [hin]
        · rw [h2 i (by omega) hi]; simp [hin]) hq
    · have hex : ∃ i, i < n ∧ l[i]? = some false ∧ ∀ j, j < i → l[j]? = some true := by
        refine Classical.byContradiction fun hno => hall fun i => ?_
        induction i using Nat.strongRecOn with
        | ind i ihi =>
          intro hi
          have hs : l[i]? = some l[i] := Array.getElem?_eq_getElem (by omega)
          cases hb : l[i] with
          | true => rw [hs, hb]
          | false => exact absurd ⟨i, hi, hs.trans (by rw [hb]), fun j hj => ihi j hj (by omega)⟩ hno
      obtain ⟨u, hu, huf, hub⟩ := hex
      have hrL : u ∈ Region.ready .any ops L := mem_ready.2 ⟨by rw [getD_some ((h1 u hu).trans huf)], ops[u], Array.getElem?_eq_getElem (by omega), fun e he hbi => by
        have hlo := T.low u _ (Array.getElem?_eq_getElem (by omega)) e he hbi
        rw [getD_some ((h1 e.on (by omega)).trans (hub e.on hlo))]⟩
      rw [show fuel + 1 + (ops.size - n) = (fuel + (ops.size - n)) + 1 by omega]
      refine ⟨fun h0 => (by rw [h0] at hrL; cases hrL), fun i hi => ?_⟩
      obtain ⟨h3, o, ho, hw⟩ := mem_ready.1 hi
      have hin : i < n := by
        rcases Nat.lt_or_ge i n with hin | hin
        · exact hin
        · have := T.listed (j := u) hc (Nat.le_of_eq hLs.symm) hin ho (by omega) (fun e he hb => getD_up (hw e he hb))
          rw [getD_some ((h1 u hu).trans huf)] at this; cases this
      have hrf : i ∈ Region.ready .any (frontOf ops n) l := mem_ready.2 ⟨by
          have hs : l[i]? = some l[i] := Array.getElem?_eq_getElem (by omega)
          rw [getD_some ((h1 i hin).trans hs)] at h3
          rw [getD_some hs]; exact h3, o, by rw [frontOf_get hin]; exact ho, fun e he hb => by
          have hlo := T.low i o ho e he hb
          have hs : l[e.on]? = some l[e.on] := Array.getElem?_eq_getElem (by omega)
          have := hw e he hb
          rw [getD_some ((h1 e.on (by omega)).trans hs)] at this
          rw [getD_some hs]; exact this⟩
      refine wpOp_front T hin (fun a' w' h' => ih _ _ a' w' (by simpa using hl) (by simpa using hLs) (fun q hq => ?_) (fun q hq hq' => ?_) (hc.set fun o' ho' e he hb => by rw [ho] at ho'; cases ho'; exact getD_up (hw e he hb)) h') (h.2 i hrf)
      · by_cases hqi : q = i
        · subst hqi
          rw [Array.getElem?_setIfInBounds_self_of_lt (by omega), Array.getElem?_setIfInBounds_self_of_lt (by omega)]
        · rw [Array.getElem?_setIfInBounds_ne (Ne.symm hqi), Array.getElem?_setIfInBounds_ne (Ne.symm hqi)]; exact h1 q hq
      · rw [Array.getElem?_setIfInBounds_ne (by omega)]; exact h2 q hq hq'
theorem wp_region_front {id n : Nat} {a : Act} {w : World} (hm : P.follows .mixedOrders = true) (hT : tailOk ops n = true)
    (h : Below w.heap.size w w.drew → wpAnyH P .any (frontOf ops n) (tailPost P ops Q n) (Below w.heap.size w) n (Array.replicate n false) a w.drew) : (Code.region id ops true).wp P Q a w := by
  have T := tailOk_spec hT
  refine wp_region_any hm ?_
  have := front_any T n (Array.replicate n false) (Array.replicate ops.size false) a w.drew (by simp) (by simp) (fun i hi => by simp [Array.getElem?_replicate, hi]; have := T.le; omega) (fun i _ hi => by simp [hi]) (fun i o h0 hs _ _ _ _ => by simp at hs; rw [Array.getD_eq_getD_getElem?, Array.getElem?_replicate, if_pos hs] at h0; cases h0) (wpAny_of_held _ _ _ _ (h (keep_drew w)))
  rw [show n + (ops.size - n) = ops.size by have := T.le; omega] at this
  exact this
end
end Go.Proofs.YtehlbkmebaideaaGreatDoor
namespace Go.Proofs.YtehlbkmebaideaaGreatDoor
set_option linter.all false
set_option linter.unusedVariables false
set_option linter.unusedSimpArgs false
open Go.RowKit
structure Fl where
  i : Nat
  d : Tmp
  ty : TypeId
  z : Array Value
abbrev Ext (w w' : World) : Prop := Below w.heap.size w w'
theorem Ext.trans {a b c : World} (h : Ext a b) (k : Ext b c) : Ext a c := Below.trans h (k.mono h.size)
def puts (D : List (Fl × Nat)) (a : Act) : Act := D.foldl (fun a p => a.put (some p.1.d) (.pointer (some ⟨p.2, 0, none⟩))) a
def FlOk (B : Nat) (w : World) (N : List (Nat × Nat)) (D : List (Fl × Nat)) : Prop :=
  (∀ p ∈ D, B ≤ p.2 ∧ Blk w p.2 p.1.ty p.1.z ∧ ∀ q ∈ N, p.2 < q.1 ∨ q.2 ≤ p.2) ∧ (D.map (·.2)).Nodup
section
variable {P : Program} {ops : Array Oper} {Q : Exit → Act → World → Prop}
theorem wpOp_put1 {c : Nat} {oc : Oper} {d : Tmp} {v : Value} (hc : ops[c]? = some oc) (hl : d ∉ oc.looksAt ops) (hd : oc.dst ≠ some d) (hs : ∀ cs b, oc.op ≠ .select cs b)
    (hQ : ∀ ch a w v, Q (.panic ch) a w → Q (.panic ch) (a.put (some d) v) w) {K : Act → World → Prop} {a : Act} {w : World} (h : wpOp P ops Q c K a w) :
    wpOp P ops Q c (fun a' w' => ∃ a1, a' = a1.put (some d) v ∧ K a1 w') (a.put (some d) v) w := by
  have hl' : ∀ d', some d = some d' → d' ∉ oc.looksAt ops := fun d' e => by cases e; exact hl
  have hcm : ∀ (a : Act) (u : Value), (a.put (some d) v).put oc.dst u = (a.put oc.dst u).put (some d) v := fun a u => Act.put_comm a v u (fun d' e => by cases e; exact hd)
  unfold wpOp at *
  simp only [hc] at h ⊢
  rw [wanted_put oc a (some d) v hl']
  split
  · rename_i hw
    rw [if_pos hw] at h
    rcases h with h | ⟨hA, hL⟩
    · refine .inl ?_
      unfold Oper.wp at *
      rw [execOp_put oc hs a (some d) v hl']
      generalize (execOp a.eval oc).run P w = r at *
      cases r with
      | ok n w' =>
        cases n <;> simp only [Oper.upon] at h ⊢
        case value u => exact ⟨_, hcm a u, h⟩
        case skip => exact ⟨_, hcm a _, h⟩
        case defer df => exact ⟨_, by rw [Act.put_defers, hcm], h⟩
        case enter f args =>
          refine Calls.mono h fun e w'' he => ?_
          cases e with
          | returned u => exact ⟨_, hcm a u, he⟩
          | panicked ch => exact hQ _ _ _ _ he
          | outgrown => exact he
        case row row args => exact Rows.mono h fun u w'' he => ⟨_, hcm a u, he⟩
      | halt x w' =>
        cases x <;> simp only [Oper.upon] at h ⊢
        case panic u => exact hQ _ _ _ _ h
    · exact .inr ⟨by unfold Oper.asks at *; rw [execOp_put oc hs a (some d) v hl']; exact hA, hL⟩
  · rename_i hw
    rw [if_neg hw] at h
    exact ⟨_, hcm a _, h⟩
theorem wpOp_puts {c : Nat} {oc : Oper} (hc : ops[c]? = some oc) (hs : ∀ cs b, oc.op ≠ .select cs b) (hQ : ∀ d ch a w v, Q (.panic ch) a w → Q (.panic ch) (a.put (some d) v) w) :
    ∀ (D : List (Fl × Nat)) (a : Act) (w : World) (K : Act → World → Prop), (∀ p ∈ D, p.1.d ∉ oc.looksAt ops ∧ oc.dst ≠ some p.1.d) → wpOp P ops Q c K a w →
      wpOp P ops Q c (fun a' w' => ∃ a1, a' = puts D a1 ∧ K a1 w') (puts D a) w := by
  intro D
  induction D with
  | nil => intro a w K _ h; exact wpOp_mono (fun a w h => ⟨a, rfl, h⟩) h
  | cons p D ih =>
    intro a w K hap h
    have h1 := wpOp_put1 (v := .pointer (some ⟨p.2, 0, none⟩)) hc (hap p (by simp)).1 (hap p (by simp)).2 hs (hQ _) h
    have h2 := ih _ w _ (fun q hq => hap q (by simp [hq])) h1
    exact wpOp_mono (fun a' w' ⟨a1, e1, a2, e2, hk⟩ => ⟨a2, by rw [e1, e2]; rfl, hk⟩) h2
theorem puts_perm {D D' : List (Fl × Nat)} (h : D.Perm D') (hn : (D.map (·.1.d)).Nodup) (a : Act) : puts D a = puts D' a := by
  induction h generalizing a with
  | nil => rfl
  | cons p _ ih => exact ih (by simp at hn; exact hn.2) _
  | swap p q l =>
    simp only [List.map_cons, List.nodup_cons, List.mem_cons, not_or] at hn
    simp only [puts, List.foldl_cons]
    rw [Act.put_comm a _ _ (fun d e => by cases e; exact fun h => hn.1.1 (by injection h with h; exact h.symm))]
  | trans h1 _ ih1 ih2 => rw [ih1 hn, ih2 ((h1.map _).nodup_iff.1 hn)]
theorem perm_map_lift {α β : Type} {f : α → β} {x m : List β} (h : x.Perm m) : ∀ l : List α, l.map f = x → ∃ l', l.Perm l' ∧ l'.map f = m := by
  induction h with
  | nil => intro l hl; exact ⟨l, List.Perm.refl _, hl⟩
  | cons a _ ih =>
    intro l hl
    cases l with
    | nil => simp at hl
    | cons b l =>
      simp only [List.map_cons, List.cons.injEq] at hl
      obtain ⟨l', h1, h2⟩ := ih l hl.2
      exact ⟨b :: l', h1.cons b, by simp [hl.1, h2]⟩
  | swap a b t =>
    intro l hl
    match l, hl with
    | x :: y :: l, hl =>
      simp only [List.map_cons, List.cons.injEq] at hl
      exact ⟨y :: x :: l, List.Perm.swap _ _ _, by simp [hl.1, hl.2.1, hl.2.2]⟩
  | trans _ _ ih1 ih2 =>
    intro l hl
    obtain ⟨l1, a1, b1⟩ := ih1 l hl
    obtain ⟨l2, a2, b2⟩ := ih2 l1 b1
    exact ⟨l2, a1.trans a2, b2⟩
structure ChainOk (P : Program) (ops : Array Oper) (Q : Exit → Act → World → Prop) (Cs : List Nat) (F : List Fl) (l0 : Nat → Bool) : Prop where
  sel : ∀ (j : Nat) (o : Oper) cs b, ops[j]? = some o → o.op ≠ .select cs b
  pan : ∀ d ch a w v, Q (.panic ch) a w → Q (.panic ch) (a.put (some d) v) w
  fup : ∀ f ∈ F, f.i < ops.size ∧ ∃ o, ops[f.i]? = some o ∧ o.dst = some f.d ∧ o.guard = none ∧ (∀ ρ w, (execOp ρ o).run P w = .ok (.value (.pointer (some ⟨w.heap.size, 0, none⟩))) (w.alloc (.cells f.z f.ty))) ∧ ∀ e ∈ o.after, Region.binds .any e = true → l0 e.on = true ∧ e.on < ops.size
  fnd : (F.map (·.i)).Nodup
  dnd : (F.map (·.d)).Nodup
  ap : ∀ f ∈ F, ∀ c ∈ Cs, ∀ o, ops[c]? = some o → f.d ∉ o.looksAt ops ∧ o.dst ≠ some f.d
def flB (ops : Array Oper) (l : Nat → Bool) (i : Nat) (d : Tmp) (T : TypeId) : Bool := match ops[i]? with
  | some o => o.dst == some d && o.guard.isNone && (match o.op with | .alloc t => t == T | _ => false) && o.after.all fun e => !Region.binds .any e || (l e.on && decide (e.on < ops.size))
  | none => false
def apB (ops : Array Oper) (Cs : List Nat) (d : Tmp) : Bool := Cs.all fun c => match ops[c]? with | some o => !(o.looksAt ops).contains d && o.dst != some d | none => true
def Zero (P : Program) (T : TypeId) (z : Array Value) : Prop := ∀ ρ o w, o.op = .alloc T → (execOp ρ o).run P w = .ok (.value (.pointer (some ⟨w.heap.size, 0, none⟩))) (w.alloc (.cells z T))
def keys (F : List Fl) : List (Nat × Tmp × TypeId) := F.map fun f => (f.i, f.d, f.ty)
end
end Go.Proofs.YtehlbkmebaideaaGreatDoor
namespace Go.Proofs.YtehlbkmebaideaaGreatDoor
set_option linter.all false
set_option linter.unusedVariables false
set_option linter.unusedSimpArgs false
open Go.RowKit
section
variable {P : Program} {ops : Array Oper} {Q : Exit → Act → World → Prop}
theorem tail_list {n : Nat} {a : Act} {w : World} (h : wpList P ops Q (ops.toList.drop n) a w) : tailPost P ops Q n .normal a w := by
  have := wpOps_eq_wpList (P := P) (ops := ops) (Q := Q) (ops.toList.drop n) n (fun j => by simp [List.getElem?_drop])
  show wpOps P ops Q (List.range' n (ops.size - n)) a w
  rw [show ops.size - n = (ops.toList.drop n).length by simp, this]
  exact h
def Pan (Q : Exit → Act → World → Prop) : Prop := ∀ (d : Option Tmp) (v : Value) ch a w, Q (.panic ch) (a.put d v) w ↔ Q (.panic ch) a w
def RW (P : Program) (ops : Array Oper) (Q : Exit → Act → World → Prop) (n : Nat) (S : World → Prop) (k : Nat) (rest : List Oper) (pend : List (Nat × Oper)) (_fl : List Fl) (listed : Array Bool) (fuel : Nat) (a : Act) (w : World) : Prop :=
  (ops.toList.take n).drop k = rest → (∀ p ∈ pend, (frontOf ops n)[p.1]? = some p.2) → Pan Q → wpAnyH P .any (frontOf ops n) (tailPost P ops Q n) S fuel listed a w
theorem RW.begin {id n : Nat} {a : Act} {w : World} (hm : P.follows .mixedOrders = true) (hT : tailOk ops n = true) (hp : Pan Q)
    (h : Below w.heap.size w w.drew → RW P ops Q n (Below w.heap.size w) 0 (ops.toList.take n) [] [] (Array.replicate n false) n a w.drew) : (Code.region id ops true).wp P Q a w :=
  wp_region_front hm hT fun hS => h hS rfl (fun p hp => by cases hp) hp
theorem RW.head {n k : Nat} {o : Oper} {rest : List Oper} (h : (ops.toList.take n).drop k = o :: rest) : (frontOf ops n)[k]? = some o ∧ (ops.toList.take n).drop (k + 1) = rest := by
  constructor
  · have := congrArg (·[0]?) h
    simpa [frontOf, List.getElem?_drop] using this
  · have := congrArg List.tail h
    simpa [List.drop_drop, Nat.add_comm] using this
def takeB (ops : Array Oper) (n : Nat) (l : Array Bool) (i : Nat) : Bool := Region.noSelect (frontOf ops n) && Region.free .any (frontOf ops n) l i && (Region.ready .any (frontOf ops n) l).contains i
theorem RW.take {n k fuel : Nat} {S : World → Prop} {o : Oper} {rest : List Oper} {pend : List (Nat × Oper)} {fl : List Fl} {listed : Array Bool} {a : Act} {w : World} {v : Value} (hS : S w) (hk : takeB ops n listed k = true)
    (hw : Region.wanted o (yielded (frontOf ops n) a.tmps) = true) (hrun : ∀ w', S w' → (execOp a.eval o).run P w' = .ok (.value v) w')
    (h : RW P ops Q n S (k + 1) rest pend fl (listed.setIfInBounds k true) fuel (a.put o.dst v) w) : RW P ops Q n S k (o :: rest) pend fl listed (fuel + 1) a w := fun h1 h2 h3 => by
  obtain ⟨e1, e2⟩ := RW.head h1
  simp only [takeB, Bool.and_eq_true] at hk
  exact wpAnyH_take e1 hk.1.1 hk.1.2 hk.2 (fun c a w h => (h3 o.dst v c a w).1 h) (.inl ⟨hw, hrun⟩) hS (h e2 h2 h3)
theorem RW.keep {n k fuel : Nat} {S : World → Prop} {o : Oper} {rest : List Oper} {pend : List (Nat × Oper)} {fl : List Fl} {listed : Array Bool} {a : Act} {w : World}
    (h : RW P ops Q n S (k + 1) rest (pend ++ [(k, o)]) fl listed fuel a w) : RW P ops Q n S k (o :: rest) pend fl listed fuel a w := fun h1 h2 h3 => by
  obtain ⟨e1, e2⟩ := RW.head h1
  exact h e2 (fun p hp => by
    rcases List.mem_append.1 hp with hp | hp
    · exact h2 p hp
    · simp only [List.mem_singleton] at hp; subst hp; exact e1) h3
end
end Go.Proofs.YtehlbkmebaideaaGreatDoor
namespace Go.Proofs.YtehlbkmebaideaaGreatDoor
set_option linter.all false
set_option linter.unusedVariables false
set_option linter.unusedSimpArgs false
open Go.RowKit
def flat (sz n : Nat) (f : Nat → Nat → Value) : List Value := (List.range n).flatMap fun i => (List.range sz).map (f i)
theorem flat_succ (sz n : Nat) (f : Nat → Nat → Value) : flat sz (n + 1) f = flat sz n f ++ (List.range sz).map (f n) := by
  simp [flat, List.range_succ]
theorem flat_length (sz n : Nat) (f : Nat → Nat → Value) : (flat sz n f).length = n * sz := by
  induction n with
  | zero => simp [flat]
  | succ n ih => rw [flat_succ, List.length_append, ih]; simp [Nat.add_mul]
theorem flat_get {sz n : Nat} {f : Nat → Nat → Value} {i j : Nat} (hi : i < n) (hj : j < sz) : (flat sz n f)[i * sz + j]? = some (f i j) := by
  induction n with
  | zero => omega
  | succ n ih =>
    rw [flat_succ]
    by_cases hin : i < n
    · have : i * sz + j < (flat sz n f).length := by
        rw [flat_length]
        have := Nat.mul_le_mul_right sz (show i + 1 ≤ n by omega)
        rw [Nat.add_mul] at this
        omega
      rw [List.getElem?_append_left this]
      exact ih hin
    · obtain rfl : i = n := by omega
      rw [List.getElem?_append_right (by rw [flat_length]; omega), flat_length]
      simp [hj]
theorem flat_congr {sz n : Nat} {f g : Nat → Nat → Value} (h : ∀ i j, i < n → j < sz → f i j = g i j) : flat sz n f = flat sz n g := by
  induction n with
  | zero => rfl
  | succ n ih =>
    rw [flat_succ, flat_succ, ih fun i j hi hj => h i j (by omega) hj]
    congr 1
    exact List.map_congr_left fun j hj => h n j (by omega) (List.mem_range.1 hj)
def cat (n : Nat) (f g : Nat → Nat → Value) : Nat → Nat → Value := fun i j => if i < n then f i j else g (i - n) j
theorem flat_cat (sz n m : Nat) (f g : Nat → Nat → Value) : flat sz (n + m) (cat n f g) = flat sz n f ++ flat sz m g := by
  induction m with
  | zero => simp only [Nat.add_zero]; rw [show flat sz 0 g = [] from rfl, List.append_nil]; exact flat_congr fun i j hi _ => by simp [cat, hi]
  | succ m ih =>
    rw [← Nat.add_assoc, flat_succ, ih, flat_succ, List.append_assoc]
    congr 2
    exact List.map_congr_left fun j _ => by simp [cat]; intro h; omega
def Own (w : World) (B : Nat) (E : TypeId) (sz : Nat) (v : Value) (n : Nat) (f : Nat → Nat → Value) : Prop := w.ownsRow B E sz v n (flat sz n f)
section
variable {w w' : World} {B : Nat} {E : TypeId} {sz n : Nat} {v : Value} {f : Nat → Nat → Value}
theorem Own.form (h : Own w B E sz v n f) : ∃ A c, v = .slice A n c ∧ n ≤ c ∧ c ≤ maxLen ∧ Rd w sz A n f := by
  rcases h.2 with ⟨rfl, rfl⟩ | ⟨g, cap, cur, rfl, hg, hh, hnc, hcm, hcs, ht⟩
  · exact ⟨none, 0, rfl, Nat.le_refl _, Nat.zero_le _, Rd.nil⟩
  · refine ⟨_, cap, rfl, hnc, hcm, fun _ => ⟨g, 0, rfl, ?_, fun i j hi hj => ?_⟩⟩
    · rcases Nat.lt_or_ge g w.heap.size with h1 | h1
      · exact h1
      · rw [Array.getElem?_eq_none h1] at hh; cases hh
    · rw [Nat.zero_add, cell_of_row w g _ cur E (0, 0) hh]
      have h2 := flat_get (f := f) hi hj
      rw [← ht, List.getElem?_take] at h2
      split at h2
      · simpa using h2
      · cases h2
theorem Own.form1 (h : Own w B E sz v n f) (hn : 0 < n) : ∃ g c, v = .slice (some ⟨g, 0, none⟩) n c ∧ B ≤ g ∧ g < w.heap.size ∧ n ≤ c ∧ (∀ i j, i < n → j < sz → w.cell? ⟨g, i * sz + j, none⟩ = some (f i j)) ∧ ∀ j, w.frozen? ⟨g, j, none⟩ = false := by
  rcases h.2 with ⟨_, h0⟩ | ⟨g, cap, cur, rfl, hg, hh, hnc, hcm, hcs, ht⟩
  · omega
  · have hb : g < w.heap.size := by
      rcases Nat.lt_or_ge g w.heap.size with h1 | h1
      · exact h1
      · rw [Array.getElem?_eq_none h1] at hh; cases hh
    refine ⟨g, cap, rfl, hg, hb, hnc, fun i j hi hj => ?_, fun j => World.ownsRow.frozenAt h j⟩
    rw [cell_of_row w g _ cur E (0, 0) hh]
    have h2 := flat_get (f := f) hi hj
    rw [← ht, List.getElem?_take] at h2
    split at h2
    · simpa using h2
    · cases h2
theorem Own.congr {g : Nat → Nat → Value} (h : Own w B E sz v n f) (he : ∀ i j, i < n → j < sz → f i j = g i j) : Own w B E sz v n g := by
  unfold Own; rw [← flat_congr he]; exact h
theorem Own.nil (w : World) (B : Nat) (E : TypeId) (sz : Nat) (f : Nat → Nat → Value) : Own w B E sz (.slice none 0 0) 0 f := ⟨by simp [flat], .inl ⟨rfl, rfl⟩⟩
theorem Own.of_blk {cs : Array Value} {b : Nat} (h : Blk w b E cs) (hB : B ≤ b) (hs : cs.size = n * sz) (hz : 0 < sz) (hm : n ≤ maxLen) (hf : ∀ i j, i < n → j < sz → cs.getD (i * sz + j) undef = f i j) : Own w B E sz (.slice (some ⟨b, 0, none⟩) n n) n f := by
  refine ⟨flat_length _ _ _, .inr ⟨b, n, cs, rfl, hB, h, Nat.le_refl _, hm, hs, ?_⟩⟩
  apply List.ext_getElem?
  intro q
  by_cases hq : q < n * sz
  · have hi : q / sz < n := Nat.div_lt_of_lt_mul (by rw [Nat.mul_comm]; exact hq)
    have hj : q % sz < sz := Nat.mod_lt _ hz
    have e : q = q / sz * sz + q % sz := by rw [Nat.mul_comm]; exact (Nat.div_add_mod q sz).symm
    have h2 := flat_get (f := f) hi hj
    rw [← e] at h2
    have h3 := hf _ _ hi hj
    rw [← e] at h3
    have hqc : q < cs.size := by omega
    rw [h2, ← h3, List.getElem?_take]
    simp [hq, Array.getD, hqc]
  · rw [List.getElem?_eq_none (by simp; omega), List.getElem?_eq_none (by rw [flat_length]; omega)]
theorem Own.set {g c : Nat} (h : Own w B E sz (.slice (some ⟨g, 0, none⟩) n c) n f) (i j : Nat) (hi : i < n) (hj : j < sz) (u : Value) :
    Own (w.setCell ⟨g, i * sz + j, none⟩ u) B E sz (.slice (some ⟨g, 0, none⟩) n c) n (fun i' j' => if i' = i ∧ j' = j then u else f i' j') := by
  refine ⟨flat_length _ _ _, ?_⟩
  rcases h.2 with ⟨h2, _⟩ | ⟨g', cap, cur, hv, hg, hh, hnc, hcm, hcs, ht⟩
  · cases h2
  · obtain ⟨rfl, rfl⟩ : g = g' ∧ c = cap := by simp at hv; exact hv
    refine .inr ⟨g, c, cur.setIfInBounds (i * sz + j) u, rfl, hg, by simp [World.setCell, Array.getElem?_modify, hh], hnc, hcm, by simpa using hcs, ?_⟩
    apply List.ext_getElem?
    intro q
    by_cases hq : q < n * sz
    · have hz : 0 < sz := by omega
      have hi' : q / sz < n := Nat.div_lt_of_lt_mul (by rw [Nat.mul_comm]; exact hq)
      have hj' : q % sz < sz := Nat.mod_lt _ hz
      have e : q = q / sz * sz + q % sz := by rw [Nat.mul_comm]; exact (Nat.div_add_mod q sz).symm
      have h2 := flat_get (f := fun i' j' => if i' = i ∧ j' = j then u else f i' j') hi' hj'
      rw [← e] at h2
      have h3 := flat_get (f := f) hi' hj'
      rw [← e, ← ht, List.getElem?_take, if_pos hq] at h3
      rw [h2, List.getElem?_take, if_pos hq]
      by_cases hqe : q = i * sz + j
      · have e1 : q / sz = i := by rw [hqe, Nat.mul_comm, Nat.mul_add_div hz, Nat.div_eq_of_lt hj]; omega
        have e2 : q % sz = j := by rw [hqe, Nat.mul_comm, Nat.mul_add_mod, Nat.mod_eq_of_lt hj]
        rw [if_pos ⟨e1, e2⟩]
        have hlt : q < cur.size := by
          have h9 : q < cur.toList.length := (List.getElem?_eq_some_iff.1 h3).1
          simpa using h9
        rw [hqe] at hlt ⊢
        simp [hlt]
      · have hne : ¬ (q / sz = i ∧ q % sz = j) := fun ⟨a, b⟩ => hqe (by rw [e, a, b])
        rw [if_neg hne]
        simp only [Array.toList_setIfInBounds]
        rw [List.getElem?_set_ne (Ne.symm hqe)]
        exact h3
    · rw [List.getElem?_eq_none (by simp; omega), List.getElem?_eq_none (by rw [flat_length]; omega)]
theorem Own.blk {k : Nat} (h : Own w B E sz v n f) (hv : v.ownBlock = some k) : B ≤ k ∧ k < w.heap.size := World.ownsRow.lt h k hv
end
structure ElemT (P : Program) (t E : TypeId) (sz bytes : Nat) : Prop where
  ht : P.underlying t = some (.slice E)
  hi : ∃ i z, P.info? E = some i ∧ i.zero = some z ∧ i.size = sz ∧ i.bytes = bytes ∧ z.cells.size = sz
  pos : 0 < sz
theorem elemT {P : Program} {t E : TypeId} {sz bytes : Nat} {z : Value} (ht : P.underlying t = some (.slice E)) (h : (P.info? E).map (fun i => (i.zero, i.size, i.bytes)) = some (some z, sz, bytes)) (hz : z.cells.size = sz) (pos : 0 < sz) : ElemT P t E sz bytes := by
  obtain ⟨i, h1, h2, h3, h4⟩ := info_parts h
  exact ⟨ht, ⟨i, z, h1, h2, h3, h4, hz⟩, pos⟩
section
variable {P : Program} {w : World}
theorem run_append_R {t ty E : TypeId} {sz bytes B : Nat} (T : ElemT P t E sz bytes) {v : Value} {n : Nat} {f : Nat → Nat → Value} (hown : Own w B E sz v n f) {A : Option Addr} {m c : Nat} {g : Nat → Nat → Value} (hr : Rd w sz A m g)
    (hA : A = none → c = 0 ∨ True) (h1 : ∀ i j, i < m → j < sz → (g i j).oneCell' = true) (hm : n + m ≤ 1000000000) (hby : bytes ≤ 10000) (hB : B ≤ w.heap.size) :
    ∃ v' w', (Builtin.append_ #[t, t] ty #[v, .slice A m c]).run P w = .ok v' w' ∧ Own w' B E sz v' (n + m) (cat n f g) ∧ w.grownBy w' v.ownBlock ∧ (v'.ownBlock = v.ownBlock ∨ v'.ownBlock = some w.heap.size) := by
  obtain ⟨i, z, hi, hz, hs, hb, hzs⟩ := T.hi
  have hsmall : n + m ≤ maxLen := by simp only [maxLen]; omega
  have hbytes : (n + m) * bytes ≤ 140737488355328 := Nat.le_trans (Nat.mul_le_mul hm hby) (by decide)
  by_cases hm0 : m = 0
  · subst hm0
    have hfl : Own w B E sz v (n + 0) (cat n f g) := hown.congr fun i j hi _ => by simp [cat, show i < n from hi]
    cases A with
    | none =>
      refine ⟨v, w, ?_, hfl, World.grownBy.refl w _, .inl rfl⟩
      rcases hown.2 with ⟨rfl, rfl⟩ | ⟨g', cap, cur, rfl, _, _, hnc, _⟩
      · simp [Builtin.append_, run_underlying T.ht, sizeOf, typeInfo, hi, Builtin.lenOf, Builtin.firstCells]
      · simp [Builtin.append_, run_underlying T.ht, sizeOf, typeInfo, hi, Builtin.lenOf, Builtin.firstCells, hnc, storeCells]
    | some ad =>
      obtain ⟨v', w', hrun, h2, h3, _, h5⟩ := run_append_own_at (P := P) w B t ty E i z sz bytes T.ht hi hz hs hb hzs T.pos v n _ hown ad 0 c [] (by simp) (by simp) (by simp) (by simpa using hsmall) (by simpa using hbytes) hB
      refine ⟨v', w', hrun, ?_, h3, h5⟩
      unfold Own
      rw [flat_cat, show flat sz 0 g = [] from rfl]
      exact h2
  · obtain ⟨b, off, rfl, hlt, hc⟩ := hr (by omega)
    obtain ⟨v', w', hrun, h2, h3, _, h5⟩ := run_append_own_at (P := P) w B t ty E i z sz bytes T.ht hi hz hs hb hzs T.pos v n _ hown ⟨b, off, none⟩ m c (flat sz m g) (flat_length _ _ _) (fun q u hq => by
      have hql : q < m * sz := by have := (List.getElem?_eq_some_iff.1 hq).1; rw [flat_length] at this; exact this
      have hi' : q / sz < m := Nat.div_lt_of_lt_mul (by rw [Nat.mul_comm]; exact hql)
      have hj' : q % sz < sz := Nat.mod_lt _ T.pos
      have e : q = q / sz * sz + q % sz := by rw [Nat.mul_comm]; exact (Nat.div_add_mod q sz).symm
      have h2 := flat_get (f := g) hi' hj'
      rw [← e, hq] at h2
      have h3 := hc _ _ hi' hj'
      rw [Nat.add_assoc, ← e, ← h2] at h3
      rw [← h3]
      unfold Addr.add
      by_cases hq0 : q = 0
      · subst hq0; rfl
      · rw [if_neg hq0]) (fun u hu => by
      obtain ⟨q, hq, rfl⟩ := List.getElem_of_mem hu
      have hql : q < m * sz := by rw [flat_length] at hq; exact hq
      have hi' : q / sz < m := Nat.div_lt_of_lt_mul (by rw [Nat.mul_comm]; exact hql)
      have hj' : q % sz < sz := Nat.mod_lt _ T.pos
      have e : q = q / sz * sz + q % sz := by rw [Nat.mul_comm]; exact (Nat.div_add_mod q sz).symm
      have h2 := flat_get (f := g) hi' hj'
      rw [← e, List.getElem?_eq_getElem hq] at h2
      injection h2 with h2
      rw [h2]
      exact h1 _ _ hi' hj') hsmall hbytes hB
    refine ⟨v', w', hrun, ?_, h3, h5⟩
    unfold Own
    rw [flat_cat]
    exact h2
theorem wp_app {o : Oper} {a : Act} {K : Act → World → Prop} {Q : Exit → Act → World → Prop} (s x : Operand) {t E : TypeId} {sz bytes B : Nat} (T : ElemT P t E sz bytes) (ho : o.op = .call { callee := .builtin .append, args := #[s, x], argTypes := #[t, t] })
    {v : Value} {n : Nat} {f : Nat → Nat → Value} (hs : a.eval s = v) (hown : Own w B E sz v n f) {A : Option Addr} {m c : Nat} {g : Nat → Nat → Value} (hx : a.eval x = .slice A m c) (hr : Rd w sz A m g) (h1 : ∀ i j, i < m → j < sz → (g i j).oneCell' = true) (hm : n + m ≤ 1000000000)
    (hby : bytes ≤ 10000) (hB : B ≤ w.heap.size) (h : ∀ v' w', Own w' B E sz v' (n + m) (cat n f g) → w.grownBy w' v.ownBlock → (v'.ownBlock = v.ownBlock ∨ v'.ownBlock = some w.heap.size) → K (a.put o.dst v') w') : o.wp P a w K Q := by
  obtain ⟨v', w', hrun, h2, h3, h4⟩ := run_append_R (ty := o.type) T hown hr (fun _ => .inr trivial) h1 hm hby hB
  unfold Oper.wp execOp
  simp only [ho, resolve, invoke, builtin, Sem.run_bind, Sem.run_pure, Result.andThen_ok, List.map_toArray, List.map_cons, List.map_nil, hs, hx]
  rw [hrun]
  exact h v' w' h2 h3 h4
theorem wpList_app {ops : Array Oper} {rest : List Oper} {o : Oper} {a : Act} {Q : Exit → Act → World → Prop} (hgd : o.guard = none) (s x : Operand) {t E : TypeId} {sz bytes B : Nat} (T : ElemT P t E sz bytes) (ho : o.op = .call { callee := .builtin .append, args := #[s, x], argTypes := #[t, t] })
    {v : Value} {n : Nat} {f : Nat → Nat → Value} (hs : a.eval s = v) (hown : Own w B E sz v n f) {A : Option Addr} {m c : Nat} {g : Nat → Nat → Value} (hx : a.eval x = .slice A m c) (hr : Rd w sz A m g) (h1 : ∀ i j, i < m → j < sz → (g i j).oneCell' = true) (hm : n + m ≤ 1000000000)
    (hby : bytes ≤ 10000) (hB : B ≤ w.heap.size) (h : ∀ v' w', Own w' B E sz v' (n + m) (cat n f g) → w.grownBy w' v.ownBlock → (v'.ownBlock = v.ownBlock ∨ v'.ownBlock = some w.heap.size) → wpList P ops Q rest (a.put o.dst v') w') : wpList P ops Q (o :: rest) a w :=
  wpList_plain hgd fun _ hK => wp_app s x T ho hs hown hx hr h1 hm hby hB fun v' w' h2 h3 h4 => hK _ _ (h v' w' h2 h3 h4)
end
end Go.Proofs.YtehlbkmebaideaaGreatDoor
namespace Go.Proofs.YtehlbkmebaideaaGreatDoor
set_option linter.all false
set_option linter.unusedVariables false
set_option linter.unusedSimpArgs false
open Go.RowKit
section
variable {P : Program} {ops : Array Oper} {Q : Exit → Act → World → Prop}
theorem calls_of_marks {f : FuncId} {fn : Func} {c : Code} {args : Array Value} {w : World} {R : Ending → World → Prop} (hf : P.funcs[f]? = some fn) (hb : fn.body = some c)
    (h : c.wp P (bodyPostM Fence.wide 2 P fn R) { tmps := args ++ Array.replicate (fn.ntmps - args.size) undef, defers := [] } w) : Calls P f args w R :=
  (callsIn_wide (n := 2)).1 (callsIn_of_wp_marks hf hb trivial ((wpIn_wide (n := 2)).2 h))
theorem ret_marks {fn : Func} {R : Ending → World → Prop} {t : Array Value} {D : Nat} {w : World} {v : Value} (hD : w.heap[D]? = some (.deferred (some []))) (hr : (results fn t).run P (w.putObj D (.deferred none)) = .ok v (w.putObj D (.deferred none)))
    (hR : R (.returned v) (w.putObj D (.deferred none))) : bodyPostM Fence.wide 2 P fn R .ret { tmps := t, defers := [{ target := .collected D, args := #[] }] } w :=
  ⟨by simp, .inl ⟨D, _, rfl, run_takeDeferred hD, v, hr, hR⟩⟩
theorem ret_marks0 {fn : Func} {R : Ending → World → Prop} {t : Array Value} {w : World} {v : Value} (hr : (results fn t).run P w = .ok v w) (hR : R (.returned v) w) : bodyPostM Fence.wide 2 P fn R .ret { tmps := t, defers := [] } w := ⟨v, hr, hR⟩
theorem opIn {l m i : Nat} {K K' : Act → World → Prop} {a : Act} {w : World} (hK : ∀ a w, K a w → K' a w) (hnd : ∀ (o : Oper) c, ops[i]? = some o → o.op ≠ .defer c) (hL : ¬ LetsOut Q) (h : wpOp P ops Q i K a w) :
    wpOpIn (Fence.wide.inRound l) m P ops Q i K' a w := by
  unfold wpOp at h
  unfold wpOpIn
  cases ho : ops[i]? with
  | none => rw [ho] at h; exact hK _ _ h
  | some o =>
    rw [ho] at h
    simp only at h ⊢
    split
    · rename_i hw
      rw [if_pos hw] at h
      rcases h with h | ⟨_, h⟩
      · refine ⟨fun _ _ => trivial, ?_⟩
        rw [Fence.inRound_round, Oper.semAt_some l a.eval o (fun c => hnd o c ho)]
        unfold Oper.wp at h
        generalize (execOp a.eval o).run P w = r at *
        cases r with
        | ok x w' =>
          cases x <;> simp only [Oper.upon] at h <;> simp only [Oper.uponIn]
          case value u => exact hK _ _ h
          case skip => exact hK _ _ h
          case defer d => exact hK _ _ h
          case enter f args =>
            refine ⟨fun h9 => (by simp [Fence.wide] at h9), CallsIn.inRound l (callsIn_wide.2 (Calls.mono h fun e w'' he => ?_))⟩
            cases e with
            | returned u => exact hK _ _ he
            | panicked ch => exact he
            | outgrown => exact he
          case row row args =>
            refine ⟨fun h9 => (by simp [Fence.wide] at h9), fun c cs _ => ?_⟩
            obtain ⟨v, w'', r1, s1⟩ := h c cs
            exact ⟨v, w'', hK _ _ r1, stepsIn_wide.2 s1⟩
        | halt x w' => cases x <;> simp only [Oper.upon] at h <;> exact h
      · exact absurd h hL
    · rename_i hw
      rw [if_neg hw] at h
      exact ⟨fun _ _ => trivial, hK _ _ h⟩
def noDefer (ops : Array Oper) : Bool := ops.all fun o => match o.op with | .defer _ => false | _ => true
theorem noDefer_spec (h : noDefer ops = true) (i : Nat) (o : Oper) (c : Call) (ho : ops[i]? = some o) : o.op ≠ .defer c := by
  intro e
  have := Array.all_eq_true_iff_forall_mem.1 h o (Array.mem_of_getElem? ho)
  simp [e] at this
theorem anyIn {l m : Nat} {md : Region.Mode} (hnd : noDefer ops = true) (hL : ¬ LetsOut Q) : ∀ (fuel : Nat) (listed : Array Bool) (a : Act) (w : World), wpAny P md ops Q fuel listed a w → wpAnyIn (Fence.wide.inRound l) m P md ops Q fuel listed a w
  | 0, _, _, _, h => h
  | fuel + 1, _, _, _, h => ⟨h.1, fun i hi => opIn (fun a w => anyIn hnd hL fuel _ a w) (fun o c ho => noDefer_spec hnd i o c ho) hL (h.2 i hi)⟩
theorem RW.beginIn {l m id n : Nat} {a : Act} {w : World} (hm : P.follows .mixedOrders = true) (hT : tailOk ops n = true) (hp : Pan Q) (hnd : noDefer ops = true) (hL : ¬ LetsOut Q)
    (h : Below w.heap.size w w.drew → RW P ops Q n (Below w.heap.size w) 0 (ops.toList.take n) [] [] (Array.replicate n false) n a w.drew) : (Code.region id ops true).wpIn (Fence.wide.inRound l) m P Q a w := by
  have T := tailOk_spec hT
  refine wpIn_region_any hm (anyIn hnd hL _ _ _ _ ?_)
  have := front_any T n (Array.replicate n false) (Array.replicate ops.size false) a w.drew (by simp) (by simp) (fun i hi => by simp [Array.getElem?_replicate, hi]; have := T.le; omega) (fun i _ hi => by simp [hi]) (fun i o h0 hs _ _ _ _ => by simp at hs; rw [Array.getD_eq_getD_getElem?, Array.getElem?_replicate, if_pos hs] at h0; cases h0) (wpAny_of_held _ _ _ _ (h (keep_drew w) rfl (fun p hp => (by cases hp)) hp))
  rw [show n + (ops.size - n) = ops.size by have := T.le; omega] at this
  exact this
end
end Go.Proofs.YtehlbkmebaideaaGreatDoor
namespace Go.Proofs.YtehlbkmebaideaaGreatDoor
set_option linter.all false
set_option linter.unusedVariables false
set_option linter.unusedSimpArgs false
open Go.RowKit
abbrev Fr := List (Nat × Value)
def fget : Fr → Nat → Option Value
  | [], _ => none
  | (i, v) :: F, t => match Nat.beq i t with
    | true => some v
    | false => fget F t
def ev (F : Fr) : Operand → Option Value
  | .tmp t => fget F t
  | .const v => some v
  | .global g => some (.pointer (some ⟨g, 0, none⟩))
  | .func f => some (.func (.func f) #[] #[])
def evs (F : Fr) : List Operand → Option (List Value)
  | [] => some []
  | x :: xs => match ev F x with
    | some v => match evs F xs with
      | some vs => some (v :: vs)
      | none => none
    | none => none
structure FS (n : Nat) (D : List Deferred) (F : Fr) (a : Act) : Prop where
  size : a.tmps.size = n
  dfs : a.defers = D
  get : ∀ t v, fget F t = some v → a.tmps.getD t undef = v
section
variable {n : Nat} {D : List Deferred} {F F' : Fr} {a : Act}
theorem FS.evl (h : FS n D F a) {x : Operand} {v : Value} (hx : ev F x = some v) : a.eval x = v := by
  cases x with
  | tmp t => exact h.get t v hx
  | const u => injection hx
  | global g => injection hx
  | func f => injection hx
theorem FS.evsl (h : FS n D F a) : ∀ {xs : List Operand} {vs : List Value}, evs F xs = some vs → xs.map a.eval = vs
  | [], vs, hx => by cases hx; rfl
  | x :: xs, vs, hx => by
    simp only [evs] at hx
    cases h1 : ev F x with
    | none => rw [h1] at hx; cases hx
    | some v =>
      rw [h1] at hx
      cases h2 : evs F xs with
      | none => rw [h2] at hx; cases hx
      | some us =>
        rw [h2] at hx
        injection hx with hx
        subst hx
        rw [List.map_cons, h.evl h1, FS.evsl h h2]
theorem beq_iff {i t : Nat} : Nat.beq i t = true ↔ i = t := ⟨Nat.eq_of_beq_eq_true, fun e => by subst e; exact Nat.beq_refl i⟩
theorem FS.put (h : FS n D F a) {d : Nat} (hd : Nat.blt d n = true) (v : Value) : FS n D ((d, v) :: F) (a.put (some d) v) := by
  have hd' : d < n := by have := Nat.le_of_ble_eq_true hd; omega
  refine ⟨by simp [Act.put, h.size], by simp [Act.put, h.dfs], fun t u hu => ?_⟩
  simp only [fget] at hu
  cases hb : Nat.beq d t with
  | true =>
    rw [hb] at hu
    have := beq_iff.1 hb
    subst this
    injection hu with hu
    subst hu
    simp [Act.put, Array.getD_eq_getD_getElem?, h.size, hd']
  | false =>
    rw [hb] at hu
    have hne : d ≠ t := fun e => by rw [beq_iff.2 e] at hb; cases hb
    have := h.get t u hu
    simp only [Act.put, Array.getD_eq_getD_getElem?] at this ⊢
    rwa [Array.getElem?_setIfInBounds_ne hne]
theorem FS.sub (h : FS n D F a) (hs : ∀ t v, fget F' t = some v → fget F t = some v) : FS n D F' a := ⟨h.size, h.dfs, fun t v hv => h.get t v (hs t v hv)⟩
def hasN : List Nat → Nat → Bool
  | [], _ => false
  | x :: xs, t => match Nat.beq x t with
    | true => true
    | false => hasN xs t
def fsubS (F : Fr) : List Nat → Fr → Prop
  | _, [] => True
  | s, (i, v) :: G => (match hasN s i with
    | true => True
    | false => fget F i = some v) ∧ fsubS F (i :: s) G
def fsub (F G : Fr) : Prop := fsubS F [] G
theorem fsubS_spec : ∀ {G : Fr} {s : List Nat}, fsubS F s G → ∀ t v, hasN s t = false → fget G t = some v → fget F t = some v
  | [], _, _, t, v, _, h => by cases h
  | (i, u) :: G, s, h, t, v, hs, hv => by
    simp only [fget] at hv
    cases hb : Nat.beq i t with
    | true =>
      rw [hb] at hv
      have := beq_iff.1 hb
      subst this
      have h1 := h.1
      rw [hs] at h1
      exact h1.trans hv
    | false => rw [hb] at hv; exact fsubS_spec h.2 t v (by simp only [hasN, hb]; exact hs) hv
theorem fsub_spec {G : Fr} (h : fsub F G) : ∀ t v, fget G t = some v → fget F t = some v := fun t v hv => fsubS_spec h t v rfl hv
end
def rowF (r : Nat → List Value) : Nat → Nat → Value := fun i j => (r i).getD j undef
structure RdR (w : World) (sz : Nat) (A : Option Addr) (n : Nat) (r : Nat → List Value) : Prop where
  rd : Rd w sz A n (rowF r)
  len : ∀ i, i < n → (r i).length = sz
structure OwnR (w : World) (A : Option Addr) (n c : Nat) (E : TypeId) (sz : Nat) (r : Nat → List Value) : Prop where
  own : Own w 0 E sz (.slice A n c) n (rowF r)
  len : ∀ i, i < n → (r i).length = sz
inductive Fact where
  | blk (b : Nat) (t : TypeId) (cs : List Value)
  | own (A : Option Addr) (n c : Nat) (E : TypeId) (sz : Nat) (r : Nat → List Value)
  | obj (b : Nat) (o : Obj)
  | pr (l : List Nat) (p : World → Prop)
def Fact.foot : Fact → List Nat
  | .blk b _ _ => [b]
  | .own (some a) _ _ _ _ _ => [a.block]
  | .own none _ _ _ _ _ => []
  | .obj b _ => [b]
  | .pr l _ => l
structure PrOk (l : List Nat) (p : World → Prop) (w : World) : Prop where
  now : p w
  lt : ∀ b ∈ l, b < w.heap.size
  loc : ∀ w w' : World, (∀ b ∈ l, b < w.heap.size) → p w → (∀ b ∈ l, w'.heap[b]? = w.heap[b]?) → p w'
def Fact.holds : Fact → World → Prop
  | .blk b t cs, w => Blk w b t cs.toArray
  | .own A n c E sz r, w => OwnR w A n c E sz r
  | .obj b o, w => w.heap[b]? = some o ∧ o.isCells = false
  | .pr l p, w => PrOk l p w
theorem lt_of_get {w : World} {b : Nat} {o : Obj} (h : w.heap[b]? = some o) : b < w.heap.size := (Array.getElem?_eq_some_iff.1 h).1
theorem own_foot {A : Option Addr} {n c : Nat} {E : TypeId} {sz : Nat} {r : Nat → List Value} : (Fact.own A n c E sz r).foot = (Value.slice A n c).ownBlock.toList := by
  cases A <;> rfl
theorem Fact.lt {φ : Fact} {w : World} (h : φ.holds w) : ∀ b ∈ φ.foot, b < w.heap.size := by
  intro b hb
  match φ, h, hb with
  | .blk b' t cs, h, hb => simp only [Fact.foot, List.mem_singleton] at hb; subst hb; exact Blk.lt h
  | .own (some a) n c E sz f, h, hb => simp only [Fact.foot, List.mem_singleton] at hb; subst hb; exact (Own.blk h.own rfl).2
  | .obj b' o, h, hb => simp only [Fact.foot, List.mem_singleton] at hb; subst hb; exact lt_of_get h.1
  | .pr l p, h, hb => exact h.lt b hb
theorem own_of_block {w w' : World} {E : TypeId} {sz n : Nat} {v : Value} {f : Nat → Nat → Value} (h : Own w 0 E sz v n f) (he : ∀ b, v.ownBlock = some b → w'.heap[b]? = w.heap[b]?) : Own w' 0 E sz v n f := by
  rcases h with ⟨h1, h2⟩
  refine ⟨h1, ?_⟩
  rcases h2 with h2 | ⟨g, cap, cur, rfl, hg, hh, r⟩
  · exact .inl h2
  · exact .inr ⟨g, cap, cur, rfl, hg, by rw [he g rfl]; exact hh, r⟩
theorem Fact.loc {φ : Fact} {w w' : World} (h : φ.holds w) (he : ∀ b ∈ φ.foot, w'.heap[b]? = w.heap[b]?) (hs : w.heap.size ≤ w'.heap.size) : φ.holds w' := by
  match φ, h, he with
  | .blk b t cs, h, he => exact (he b (by simp [Fact.foot])).trans h
  | .own A n c E sz f, h, he => exact ⟨own_of_block h.own fun b hb => he b (by rw [own_foot, hb]; simp), h.len⟩
  | .obj b o, h, he => exact ⟨(he b (by simp [Fact.foot])).trans h.1, h.2⟩
  | .pr l p, h, he => exact ⟨h.loc w w' h.lt h.now he, fun b hb => Nat.lt_of_lt_of_le (h.lt b hb) hs, h.loc⟩
def feet (K : List Fact) : List Nat := K.flatMap Fact.foot
theorem feet_cons (φ : Fact) (K : List Fact) : feet (φ :: K) = φ.foot ++ feet K := rfl
theorem feet_append (K L : List Fact) : feet (K ++ L) = feet K ++ feet L := by simp [feet]
structure Chg (S : List Nat) (w w' : World) : Prop where
  os : w'.os = w.os
  tape : w'.tape = w.tape
  output : w'.output = w.output
  size : w.heap.size ≤ w'.heap.size
  block : ∀ k, k < w.heap.size → k ∉ S → w'.heap[k]? = w.heap[k]?
theorem Chg.of_ext {w w' : World} (h : Below w.heap.size w w') : Chg [] w w' := ⟨h.os, h.tape, h.output, h.size, fun k hk _ => h.block k hk⟩
theorem Chg.ext {w w' : World} (h : Chg [] w w') : Below w.heap.size w w' := ⟨h.os, h.tape, h.output, h.size, fun k hk => h.block k hk (by simp)⟩
theorem Chg.refl (S : List Nat) (w : World) : Chg S w w := ⟨rfl, rfl, rfl, Nat.le_refl _, fun _ _ _ => rfl⟩
theorem Chg.trans {S : List Nat} {a b c : World} (h : Chg S a b) (k : Chg S b c) : Chg S a c :=
  ⟨k.os.trans h.os, k.tape.trans h.tape, k.output.trans h.output, Nat.le_trans h.size k.size, fun i hi hS => (k.block i (Nat.lt_of_lt_of_le hi h.size) hS).trans (h.block i hi hS)⟩
theorem Chg.grown {w w' : World} {row : Option Nat} (h : w.grownBy w' row) : Chg row.toList w w' := ⟨h.os, h.tape, h.output, h.size, fun k hk hS => h.block k hk (fun e => hS (by rw [← e]; simp))⟩
theorem Chg.setCell (w : World) (p : Addr) (u : Value) : Chg [p.block] w (w.setCell p u) := ⟨rfl, rfl, rfl, by simp, fun k _ hk => Below.heap_setCell _ _ _ _ (by simpa using hk)⟩
structure Sat (S : List Nat) (w0 : World) (K : List Fact) (w : World) : Prop where
  chg : Chg S w0 w
  nd : (feet K).Nodup
  ge : ∀ b ∈ feet K, b ∈ S ∨ w0.heap.size ≤ b
  holds : ∀ φ ∈ K, φ.holds w
inductive Pick : List Fact → Fact → List Fact → Prop
  | hd {φ : Fact} {K : List Fact} : Pick (φ :: K) φ K
  | tl {φ ψ : Fact} {K K' : List Fact} : Pick K φ K' → Pick (ψ :: K) φ (ψ :: K')
section
variable {S : List Nat} {w0 w w' : World} {K K' M L : List Fact} {φ φ' : Fact}
theorem Pick.perm (h : Pick K φ K') : K.Perm (φ :: K') := by
  induction h with
  | hd => exact List.Perm.refl _
  | tl _ ih => exact (ih.cons _).trans (List.Perm.swap _ _ _)
theorem Pick.mem (h : Pick K φ K') : φ ∈ K := h.perm.mem_iff.2 (by simp)
theorem Sat.perm (h : Sat S w0 K w) (hp : K.Perm K') : Sat S w0 K' w :=
  have hf : (feet K).Perm (feet K') := hp.flatMap_right _
  ⟨h.chg, hf.nodup_iff.1 h.nd, fun b hb => h.ge b (hf.mem_iff.2 hb), fun φ hφ => h.holds φ (hp.mem_iff.2 hφ)⟩
theorem Sat.pick (h : Sat S w0 K w) (hp : Pick K φ K') : Sat S w0 (φ :: K') w := h.perm hp.perm
theorem Sat.lt (h : Sat S w0 K w) : ∀ b ∈ feet K, b < w.heap.size := fun b hb => by
  obtain ⟨ψ, hψ, hb'⟩ := List.mem_flatMap.1 hb
  exact Fact.lt (h.holds ψ hψ) b hb'
theorem Sat.step (h : Sat S w0 (M ++ K) w) (k : Sat (feet M) w L w') : Sat S w0 (L ++ K) w' := by
  have hnd := List.nodup_append.1 (feet_append M K ▸ h.nd)
  have hltK : ∀ b ∈ feet K, b < w.heap.size := fun b hb => h.lt b (by rw [feet_append]; simp [hb])
  have hgeM : ∀ b ∈ feet M, b ∈ S ∨ w0.heap.size ≤ b := fun b hb => h.ge b (by rw [feet_append]; simp [hb])
  refine ⟨?_, ?_, fun b hb => ?_, fun ψ hψ => ?_⟩
  · refine ⟨k.chg.os.trans h.chg.os, k.chg.tape.trans h.chg.tape, k.chg.output.trans h.chg.output, Nat.le_trans h.chg.size k.chg.size, fun i hi hS => ?_⟩
    refine (k.chg.block i (Nat.lt_of_lt_of_le hi h.chg.size) (fun hm => ?_)).trans (h.chg.block i hi hS)
    rcases hgeM i hm with h1 | h1
    · exact hS h1
    · omega
  · rw [feet_append]
    refine List.nodup_append.2 ⟨k.nd, hnd.2.1, fun x hx y hy e => ?_⟩
    subst e
    rcases k.ge x hx with h1 | h1
    · exact hnd.2.2 x h1 x hy rfl
    · have := hltK x hy; omega
  · rw [feet_append, List.mem_append] at hb
    rcases hb with hb | hb
    · rcases k.ge b hb with h1 | h1
      · exact hgeM b h1
      · exact .inr (Nat.le_trans h.chg.size h1)
    · exact h.ge b (by rw [feet_append]; simp [hb])
  · rcases List.mem_append.1 hψ with hψ | hψ
    · exact k.holds ψ hψ
    · refine Fact.loc (h.holds ψ (by simp [hψ])) (fun b hb => ?_) k.chg.size
      have hb' : b ∈ feet K := List.mem_flatMap.2 ⟨ψ, hψ, hb⟩
      exact k.chg.block b (hltK b hb') (fun hm => hnd.2.2 b hm b hb' rfl)
theorem Sat.add (h : Sat S w0 K w) (k : Sat [] w L w') : Sat S w0 (L ++ K) w' := Sat.step (M := []) h k
theorem Sat.nil (h : Chg S w0 w) : Sat S w0 [] w := ⟨h, by simp [feet], fun b hb => (by cases hb), fun ψ hψ => (by cases hψ)⟩
theorem Sat.ext (h : Sat S w0 K w) (hb : Below w.heap.size w w') : Sat S w0 K w' := h.add (L := []) (Sat.nil (Chg.of_ext hb))
theorem Sat.start (w : World) : Sat [] w [] w := Sat.nil (Chg.refl _ _)
theorem Sat.one (hc : Chg S w0 w) (hnd : φ.foot.Nodup) (hge : ∀ b ∈ φ.foot, b ∈ S ∨ w0.heap.size ≤ b) (hh : φ.holds w) : Sat S w0 [φ] w :=
  ⟨hc, by simpa [feet] using hnd, fun b hb => hge b (by simpa [feet] using hb), fun ψ hψ => by simp only [List.mem_singleton] at hψ; subst hψ; exact hh⟩
theorem Sat.new (h : Sat S w0 K w) (t : TypeId) (cs : List Value) : Sat S w0 (.blk w.heap.size t cs :: K) (w.alloc (.cells cs.toArray t)) :=
  h.add (L := [_]) (Sat.one (Chg.of_ext ((Below.refl _ _).alloc (Nat.le_refl _) _)) (by simp [Fact.foot]) (fun b hb => by simp [Fact.foot] at hb; subst hb; exact .inr (Nat.le_refl _)) (Blk.new w t cs.toArray))
theorem Sat.turn (h : Sat S w0 (φ :: K) w) (hc : Chg φ.foot w w') (hnd : φ'.foot.Nodup) (hf : ∀ b ∈ φ'.foot, b ∈ φ.foot ∨ w.heap.size ≤ b) (hh : φ'.holds w') : Sat S w0 (φ' :: K) w' := by
  have e : feet [φ] = φ.foot := by simp [feet]
  exact Sat.step (M := [φ]) (L := [φ']) h (by rw [e]; exact Sat.one hc hnd hf hh)
end
def flatR : Nat → (Nat → List Value) → List Value
  | 0, _ => []
  | n + 1, r => flatR n r ++ r n
theorem flatR_spec {n sz : Nat} {r : Nat → List Value} (h : ∀ i, i < n → (r i).length = sz) : flatR n r = flat sz n (rowF r) := by
  induction n with
  | zero => rfl
  | succ n ih =>
    rw [flatR, ih fun i hi => h i (by omega), flat_succ]
    congr 1
    have hl := h n (by omega)
    refine List.ext_getElem (by simp [hl]) fun j h1 h2 => ?_
    simp [rowF, List.getD_eq_getElem?_getD, List.getElem?_eq_getElem h1]
theorem OwnR.of_blk {w : World} {b : Nat} {E : TypeId} {cs : List Value} {n sz : Nat} {r : Nat → List Value} (h : Blk w b E cs.toArray) (hr : flatR n r = cs) (hl : ∀ i, i < n → (r i).length = sz) (hz : Nat.blt 0 sz = true) (hn : Nat.ble n 1000000 = true) : OwnR w (some ⟨b, 0, none⟩) n n E sz r := by
  have e : cs = flat sz n (rowF r) := hr.symm.trans (flatR_spec hl)
  refine ⟨Own.of_blk h (Nat.zero_le _) (by rw [e]; simp [flat_length]) (Nat.le_of_ble_eq_true hz) (by have := Nat.le_of_ble_eq_true hn; simp only [maxLen]; omega) fun i j hi hj => ?_, hl⟩
  rw [e]
  have := flat_get (f := rowF r) hi hj
  simp [Array.getD_eq_getD_getElem?, this]
inductive KSub : List Fact → List Fact → Prop
  | nil {K : List Fact} : KSub K []
  | nilOwn {K L : List Fact} {E : TypeId} {sz : Nat} {r : Nat → List Value} : KSub K L → KSub K (.own none 0 0 E sz r :: L)
  | cons {K K1 L : List Fact} {φ : Fact} : Pick K φ K1 → KSub K1 L → KSub K (φ :: L)
  | own {K K1 L : List Fact} {A : Option Addr} {n c : Nat} {E : TypeId} {sz : Nat} {r s : Nat → List Value} : Pick K (.own A n c E sz r) K1 → (∀ i, i < n → r i = s i) → KSub K1 L → KSub K (.own A n c E sz s :: L)
  | ofBlk {K K1 L : List Fact} {b : Nat} {E : TypeId} {cs : List Value} {n sz : Nat} {r : Nat → List Value} : Pick K (.blk b E cs) K1 → flatR n r = cs → (∀ i, i < n → (r i).length = sz) → Nat.blt 0 sz = true → Nat.ble n 1000000 = true → KSub K1 L → KSub K (.own (some ⟨b, 0, none⟩) n n E sz r :: L)
theorem KSub.spec {K L : List Fact} (h : KSub K L) : (∃ R, (feet K).Perm (feet L ++ R)) ∧ ∀ w, (∀ φ ∈ K, φ.holds w) → ∀ φ ∈ L, φ.holds w := by
  induction h with
  | nil => exact ⟨⟨_, List.Perm.refl _⟩, fun w _ φ hφ => by cases hφ⟩
  | @cons K K1 L φ hp _ ih =>
    obtain ⟨⟨R, hR⟩, ih⟩ := ih
    refine ⟨⟨R, ?_⟩, fun w hw ψ hψ => ?_⟩
    · have := hp.perm.flatMap_right Fact.foot
      refine List.Perm.trans this ?_
      show (φ.foot ++ feet K1).Perm (φ.foot ++ feet L ++ R)
      rw [List.append_assoc]
      exact List.Perm.append_left _ hR
    · rcases List.mem_cons.1 hψ with rfl | hψ
      · exact hw _ hp.mem
      · exact ih w (fun χ hχ => hw χ (hp.perm.mem_iff.2 (by simp [hχ]))) ψ hψ
  | @own K K1 L A n c E sz r s hp he _ ih =>
    obtain ⟨⟨R, hR⟩, ih⟩ := ih
    refine ⟨⟨R, ?_⟩, fun w hw ψ hψ => ?_⟩
    · have := hp.perm.flatMap_right Fact.foot
      refine List.Perm.trans this ?_
      show ((Fact.own A n c E sz r).foot ++ feet K1).Perm ((Fact.own A n c E sz s).foot ++ feet L ++ R)
      rw [List.append_assoc, own_foot, own_foot]
      exact List.Perm.append_left _ hR
    · rcases List.mem_cons.1 hψ with rfl | hψ
      · have h0 := hw _ hp.mem
        exact ⟨Own.congr h0.own fun i j hi hj => by simp only [rowF, he i hi], fun i hi => by rw [← he i hi]; exact h0.len i hi⟩
      · exact ih w (fun χ hχ => hw χ (hp.perm.mem_iff.2 (by simp [hχ]))) ψ hψ
  | @nilOwn K L E sz r _ ih =>
    obtain ⟨⟨R, hR⟩, ih⟩ := ih
    refine ⟨⟨R, hR⟩, fun w hw ψ hψ => ?_⟩
    rcases List.mem_cons.1 hψ with rfl | hψ
    · exact ⟨Own.nil _ _ _ _ _, fun i hi => by omega⟩
    · exact ih w hw ψ hψ
  | @ofBlk K K1 L b E cs n sz r hp e1 e2 e3 e4 _ ih =>
    obtain ⟨⟨R, hR⟩, ih⟩ := ih
    refine ⟨⟨R, ?_⟩, fun w hw ψ hψ => ?_⟩
    · have := hp.perm.flatMap_right Fact.foot
      refine List.Perm.trans this ?_
      show ([b] ++ feet K1).Perm ([b] ++ feet L ++ R)
      rw [List.append_assoc]
      exact List.Perm.append_left _ hR
    · rcases List.mem_cons.1 hψ with rfl | hψ
      · exact OwnR.of_blk (hw (.blk b E cs) hp.mem) e1 e2 e3 e4
      · exact ih w (fun χ hχ => hw χ (hp.perm.mem_iff.2 (by simp [hχ]))) ψ hψ
theorem Sat.sub {S : List Nat} {w0 w : World} {K L : List Fact} (h : Sat S w0 K w) (hs : KSub K L) : Sat S w0 L w := by
  obtain ⟨⟨R, hR⟩, hh⟩ := hs.spec
  refine ⟨h.chg, ?_, fun b hb => h.ge b (hR.mem_iff.2 (by simp [hb])), hh w h.holds⟩
  exact (List.nodup_append.1 (hR.nodup_iff.1 h.nd)).1
structure Cx where
  P : Program
  n : Nat
  D : List Deferred
  S : List Nat
  w0 : World
def TW (c : Cx) (code : Code) (Q : Exit → Act → World → Prop) (F : Fr) (K : List Fact) : Prop := ∀ a w, FS c.n c.D F a → Sat c.S c.w0 K w → code.wp c.P Q a w
def TL (c : Cx) (ops : Array Oper) (Q : Exit → Act → World → Prop) (rest : List Oper) (F : Fr) (K : List Fact) : Prop := ∀ a w, FS c.n c.D F a → Sat c.S c.w0 K w → wpList c.P ops Q rest a w
def TQ (c : Cx) (Q : Exit → Act → World → Prop) (e : Exit) (F : Fr) (K : List Fact) : Prop := ∀ a w, FS c.n c.D F a → Sat c.S c.w0 K w → Q e a w
def Pu (c : Cx) (F : Fr) (K : List Fact) (o : Oper) (v : Value) : Prop := ∀ a w, FS c.n c.D F a → Sat c.S c.w0 K w → (execOp a.eval o).run c.P w = .ok (.value v) w
section
variable {c : Cx} {Q : Exit → Act → World → Prop} {F F' : Fr} {K K' : List Fact} {ops : Array Oper} {rest : List Oper}
theorem TW.seq {x y : Code} (h : ∀ Y : Act → World → Prop, (∀ F K, TW c y Q F K → TQ c (fun _ => Y) .normal F K) → TW c x (Exit.then Y Q) F K) : TW c (.seq x y) Q F K := fun a w hF hK =>
  wp_seq (h (y.wp c.P Q) (fun _ _ h => h) a w hF hK)
theorem TQ.thenN {Y : Act → World → Prop} (h : TQ c (fun _ => Y) .normal F K) : TQ c (Exit.then Y Q) .normal F K := h
theorem TQ.thenX {Y : Act → World → Prop} {i : Nat} (h : TQ c Q (.exit i) F K) : TQ c (Exit.then Y Q) (.exit i) F K := h
theorem TQ.thenR {Y : Act → World → Prop} (h : TQ c Q .ret F K) : TQ c (Exit.then Y Q) .ret F K := h
theorem TQ.blkN {i : Nat} (h : TQ c Q .normal F K) : TQ c (Exit.inBlock i Q) .normal F K := h
theorem TQ.blkR {i : Nat} (h : TQ c Q .ret F K) : TQ c (Exit.inBlock i Q) .ret F K := h
theorem TQ.blkX {i : Nat} (h : TQ c Q .normal F K) : TQ c (Exit.inBlock i Q) (.exit i) F K := fun a w hF hK => by
  show (if i = i then Q .normal a w else Q (.exit i) a w)
  rw [if_pos rfl]; exact h a w hF hK
theorem TW.block {i : Nat} {x : Code} (h : TW c x (Exit.inBlock i Q) F K) : TW c (.block i x) Q F K := fun a w hF hK => wp_block (h a w hF hK)
theorem TW.ret (h : TQ c Q .ret F K) : TW c .ret Q F K := fun a w hF hK => wp_ret (h a w hF hK)
theorem TW.exit {i : Nat} (h : TQ c Q (.exit i) F K) : TW c (.exit i) Q F K := fun a w hF hK => wp_exit (h a w hF hK)
theorem TW.skip (h : TQ c Q .normal F K) : TW c .skip Q F K := fun a w hF hK => wp_skip (h a w hF hK)
theorem TW.cond {x : Operand} {s t : Code} {b : Bool} (hx : ev F x = some (.bool b)) (ht : b = true → TW c s Q F K) (hf : b = false → TW c t Q F K) : TW c (.cond x s t) Q F K := fun a w hF hK =>
  wp_cond_split (hF.evl hx) (fun e => ht e a w hF hK) (fun e => hf e a w hF hK)
theorem TW.condT {x : Operand} {s t : Code} {b : Bool} (hx : ev F x = some (.bool b)) (hb : b = true) (h : TW c s Q F K) : TW c (.cond x s t) Q F K := TW.cond hx (fun _ => h) (fun e => by rw [hb] at e; cases e)
theorem TW.condF {x : Operand} {s t : Code} {b : Bool} (hx : ev F x = some (.bool b)) (hb : b = false) (h : TW c t Q F K) : TW c (.cond x s t) Q F K := TW.cond hx (fun e => by rw [hb] at e; cases e) (fun _ => h)
theorem TQ.sub {e : Exit} (hF : fsub F F') (hK : KSub K K') (h : TQ c Q e F' K') : TQ c Q e F K := fun a w hf hk => h a w (hf.sub (fsub_spec hF)) (hk.sub hK)
theorem TW.loop {ι : Type} {x : Code} (FI : ι → Fr) (KI : ι → List Fact) (μ : ι → Nat) (i0 : ι) (hF : fsub F (FI i0)) (hK : KSub K (KI i0))
    (round : ∀ i, ∀ Y : Act → World → Prop, (∀ j F K, μ j < μ i → fsub F (FI j) → KSub K (KI j) → TQ c (fun _ => Y) .normal F K) → TW c x (Exit.then Y Q) (FI i) (KI i)) : TW c (.loop x) Q F K := fun a w hf hk => by
  refine wp_loop_ghost (fun k a w => ∃ i, μ i = k ∧ FS c.n c.D (FI i) a ∧ Sat c.S c.w0 (KI i) w) (μ i0) ⟨i0, rfl, hf.sub (fsub_spec hF), hk.sub hK⟩ ?_
  rintro k a w ⟨i, rfl, hf, hk⟩
  refine round i _ (fun j F K hj hF hK a w h1 h2 => ?_) a w hf hk
  exact ⟨μ j, hj, j, rfl, h1.sub (fsub_spec hF), h2.sub hK⟩
theorem TW.loop1 {ι1 : Type} {x : Code} (FI : ι1 → Fr) (KI : ι1 → List Fact) (p : ι1 → Prop) (μ : ι1 → Nat) (i1 : ι1) (hF : fsub F (FI i1)) (hK : KSub K (KI i1)) (hp : p i1)
    (round : ∀ i1, p i1 → ∀ Y : Act → World → Prop, (∀ j1 F K, p j1 → μ j1 < μ i1 → fsub F (FI j1) → KSub K (KI j1) → TQ c (fun _ => Y) .normal F K) → TW c x (Exit.then Y Q) (FI i1) (KI i1)) : TW c (.loop x) Q F K :=
  TW.loop (ι := { t : ι1 // p t }) (fun t => FI t.1) (fun t => KI t.1) (fun t => μ t.1) ⟨i1, hp⟩ hF hK fun t Y hY => round t.1 t.2 Y fun j1 F K h1 h2 h3 h4 => hY ⟨j1, h1⟩ F K h2 h3 h4
theorem TW.loop2 {ι1 ι2 : Type} {x : Code} (FI : ι1 → ι2 → Fr) (KI : ι1 → ι2 → List Fact) (p : ι1 → ι2 → Prop) (μ : ι1 → ι2 → Nat) (i1 : ι1) (i2 : ι2) (hF : fsub F (FI i1 i2)) (hK : KSub K (KI i1 i2)) (hp : p i1 i2)
    (round : ∀ i1 i2, p i1 i2 → ∀ Y : Act → World → Prop, (∀ j1 j2 F K, p j1 j2 → μ j1 j2 < μ i1 i2 → fsub F (FI j1 j2) → KSub K (KI j1 j2) → TQ c (fun _ => Y) .normal F K) → TW c x (Exit.then Y Q) (FI i1 i2) (KI i1 i2)) : TW c (.loop x) Q F K :=
  TW.loop (ι := { t : ι1 × ι2 // p t.1 t.2 }) (fun t => FI t.1.1 t.1.2) (fun t => KI t.1.1 t.1.2) (fun t => μ t.1.1 t.1.2) ⟨(i1, i2), hp⟩ hF hK fun t Y hY => round t.1.1 t.1.2 t.2 Y fun j1 j2 F K h1 h2 h3 h4 => hY ⟨(j1, j2), h1⟩ F K h2 h3 h4
theorem TW.loop3 {ι1 ι2 ι3 : Type} {x : Code} (FI : ι1 → ι2 → ι3 → Fr) (KI : ι1 → ι2 → ι3 → List Fact) (p : ι1 → ι2 → ι3 → Prop) (μ : ι1 → ι2 → ι3 → Nat) (i1 : ι1) (i2 : ι2) (i3 : ι3) (hF : fsub F (FI i1 i2 i3)) (hK : KSub K (KI i1 i2 i3)) (hp : p i1 i2 i3)
    (round : ∀ i1 i2 i3, p i1 i2 i3 → ∀ Y : Act → World → Prop, (∀ j1 j2 j3 F K, p j1 j2 j3 → μ j1 j2 j3 < μ i1 i2 i3 → fsub F (FI j1 j2 j3) → KSub K (KI j1 j2 j3) → TQ c (fun _ => Y) .normal F K) → TW c x (Exit.then Y Q) (FI i1 i2 i3) (KI i1 i2 i3)) : TW c (.loop x) Q F K :=
  TW.loop (ι := { t : ι1 × ι2 × ι3 // p t.1 t.2.1 t.2.2 }) (fun t => FI t.1.1 t.1.2.1 t.1.2.2) (fun t => KI t.1.1 t.1.2.1 t.1.2.2) (fun t => μ t.1.1 t.1.2.1 t.1.2.2) ⟨(i1, i2, i3), hp⟩ hF hK fun t Y hY => round t.1.1 t.1.2.1 t.1.2.2 t.2 Y fun j1 j2 j3 F K h1 h2 h3 h4 => hY ⟨(j1, j2, j3), h1⟩ F K h2 h3 h4
theorem TW.loop6 {ι1 ι2 ι3 ι4 ι5 ι6 : Type} {x : Code} (FI : ι1 → ι2 → ι3 → ι4 → ι5 → ι6 → Fr) (KI : ι1 → ι2 → ι3 → ι4 → ι5 → ι6 → List Fact) (p : ι1 → ι2 → ι3 → ι4 → ι5 → ι6 → Prop) (μ : ι1 → ι2 → ι3 → ι4 → ι5 → ι6 → Nat) (i1 : ι1) (i2 : ι2) (i3 : ι3) (i4 : ι4) (i5 : ι5) (i6 : ι6) (hF : fsub F (FI i1 i2 i3 i4 i5 i6)) (hK : KSub K (KI i1 i2 i3 i4 i5 i6)) (hp : p i1 i2 i3 i4 i5 i6)
    (round : ∀ i1 i2 i3 i4 i5 i6, p i1 i2 i3 i4 i5 i6 → ∀ Y : Act → World → Prop, (∀ j1 j2 j3 j4 j5 j6 F K, p j1 j2 j3 j4 j5 j6 → μ j1 j2 j3 j4 j5 j6 < μ i1 i2 i3 i4 i5 i6 → fsub F (FI j1 j2 j3 j4 j5 j6) → KSub K (KI j1 j2 j3 j4 j5 j6) → TQ c (fun _ => Y) .normal F K) → TW c x (Exit.then Y Q) (FI i1 i2 i3 i4 i5 i6) (KI i1 i2 i3 i4 i5 i6)) : TW c (.loop x) Q F K :=
  TW.loop (ι := { t : ι1 × ι2 × ι3 × ι4 × ι5 × ι6 // p t.1 t.2.1 t.2.2.1 t.2.2.2.1 t.2.2.2.2.1 t.2.2.2.2.2 }) (fun t => FI t.1.1 t.1.2.1 t.1.2.2.1 t.1.2.2.2.1 t.1.2.2.2.2.1 t.1.2.2.2.2.2) (fun t => KI t.1.1 t.1.2.1 t.1.2.2.1 t.1.2.2.2.1 t.1.2.2.2.2.1 t.1.2.2.2.2.2) (fun t => μ t.1.1 t.1.2.1 t.1.2.2.1 t.1.2.2.2.1 t.1.2.2.2.2.1 t.1.2.2.2.2.2) ⟨(i1, i2, i3, i4, i5, i6), hp⟩ hF hK fun t Y hY => round t.1.1 t.1.2.1 t.1.2.2.1 t.1.2.2.2.1 t.1.2.2.2.2.1 t.1.2.2.2.2.2 t.2 Y fun j1 j2 j3 j4 j5 j6 F K h1 h2 h3 h4 => hY ⟨(j1, j2, j3, j4, j5, j6), h1⟩ F K h2 h3 h4
theorem TW.region {id : Nat} {l : List Oper} (h : TL c l.toArray Q l F K) : TW c (.region id l.toArray false) Q F K := fun a w hF hK => wp_region_lit (h a w hF hK)
theorem TL.nil (h : TQ c Q .normal F K) : TL c ops Q [] F K := fun a w hF hK => wpList_nil (h a w hF hK)
theorem wpList_pure {P : Program} {o : Oper} {v : Value} {a : Act} {w : World} (hg : o.guard = none) (hr : (execOp a.eval o).run P w = .ok (.value v) w) (h : wpList P ops Q rest (a.put o.dst v) w) : wpList P ops Q (o :: rest) a w :=
  wpList_plain hg fun _ hK => by unfold Oper.wp; rw [hr]; exact hK _ _ h
theorem TL.pure {d : Nat} {op : Op} {ty : TypeId} {pos : String} {af : Array Edge} {v : Value} (hp : Pu c F K ⟨some d, op, ty, pos, af, none⟩ v) (hd : Nat.blt d c.n = true) (h : TL c ops Q rest ((d, v) :: F) K) : TL c ops Q (⟨some d, op, ty, pos, af, none⟩ :: rest) F K := fun a w hF hK =>
  wpList_pure rfl (hp a w hF hK) (h _ w (hF.put hd v) hK)
end
end Go.Proofs.YtehlbkmebaideaaGreatDoor
namespace Go.Proofs.YtehlbkmebaideaaGreatDoor
set_option linter.all false
set_option linter.unusedVariables false
set_option linter.unusedSimpArgs false
open Go.RowKit
def elA (A : Option Addr) (k sz j : Nat) : Option Addr := A.map fun a => a.add (k * sz + j)
theorem add_plain (b o n : Nat) : (⟨b, o, none⟩ : Addr).add n = ⟨b, o + n, none⟩ := by
  unfold Addr.add; split
  · rename_i h; rw [h]; rfl
  · rfl
theorem add_add (p : Addr) (m n : Nat) : (p.add m).add n = p.add (m + n) := by
  unfold Addr.add
  by_cases h1 : m = 0
  · simp [h1]
  · by_cases h2 : n = 0
    · simp [h1, h2]
    · simp [h1, h2, Nat.add_assoc]
theorem elA_add (A : Option Addr) (k sz j o : Nat) : (elA A k sz j).map (·.add o) = elA A k sz (j + o) := by
  cases A with
  | none => rfl
  | some p => simp [elA, add_add, Nat.add_assoc]
inductive SubL : List Value → Nat → Nat → List Value → Prop
  | nil {xs : List Value} : SubL xs 0 0 []
  | take {x : Value} {xs vs : List Value} {m : Nat} : SubL xs 0 m vs → SubL (x :: xs) 0 (m + 1) (x :: vs)
  | drop {x : Value} {xs vs : List Value} {j m : Nat} : SubL xs j m vs → SubL (x :: xs) (j + 1) m vs
theorem SubL.spec {xs vs : List Value} {j m : Nat} (h : SubL xs j m vs) : vs.length = m ∧ ∀ q v, vs[q]? = some v → xs[j + q]? = some v := by
  induction h with
  | nil => exact ⟨rfl, fun q v hv => by simp at hv⟩
  | take h ih =>
    refine ⟨by simp [ih.1], fun q v hv => ?_⟩
    cases q with
    | zero => simpa using hv
    | succ q => have := ih.2 q v (by simpa using hv); simpa using this
  | @drop x xs vs j m h ih =>
    refine ⟨ih.1, fun q v hv => ?_⟩
    rw [show j + 1 + q = (j + q) + 1 by omega, List.getElem?_cons_succ]
    exact ih.2 q v hv
inductive PutL : List Value → Nat → List Value → List Value → Prop
  | nil {xs : List Value} : PutL xs 0 [] xs
  | put {x y : Value} {xs ys zs : List Value} : PutL xs 0 ys zs → PutL (x :: xs) 0 (y :: ys) (y :: zs)
  | pass {x : Value} {xs ys zs : List Value} {j : Nat} : PutL xs j ys zs → PutL (x :: xs) (j + 1) ys (x :: zs)
def Sc (P : Program) (T : TypeId) : Prop := ∀ w, (isAgg T).run P w = .ok false w
def Ag (P : Program) (T : TypeId) (m : Nat) : Prop := (∀ w, (isAgg T).run P w = .ok true w) ∧ ∀ w, (sizeOf T).run P w = .ok m w
def FieldAt (P : Program) (T : TypeId) (i o : Nat) : Prop := ∀ w a, (Instr.fieldAt T (.pointer (some a)) i).run P w = .ok (.pointer (some ⟨a.block, a.off + o, none⟩)) w ∨ a.spot.isSome = true
def Cells (c : Cx) (K : List Fact) (q : Option Addr) (vs : List Value) : Prop := ∀ w, Sat c.S c.w0 K w → ∃ b off, q = some ⟨b, off, none⟩ ∧ ∀ j v, vs[j]? = some v → w.cell? ⟨b, off + j, none⟩ = some v
section
variable {c : Cx} {F : Fr} {K K' : List Fact} {d : Option Tmp} {ty : TypeId} {pos : String} {af : Array Edge} {g : Option (Nat × Bool)}
theorem Cells.blk {b off m : Nat} {t : TypeId} {cs vs : List Value} (hp : Pick K (.blk b t cs) K') (hs : SubL cs off m vs) : Cells c K (some ⟨b, off, none⟩) vs := fun w hK =>
  ⟨b, off, rfl, fun j v hv => by
    have h : Blk w b t cs.toArray := (hK.holds _ hp.mem)
    rw [h.cell]
    simpa using hs.spec.2 j v hv⟩
theorem RdR.cells {w : World} {sz n k j m : Nat} {A : Option Addr} {r : Nat → List Value} {vs : List Value} (h : RdR w sz A n r) (hk : k < n) (hs : SubL (r k) j m vs) : ∃ b off, elA A k sz j = some ⟨b, off, none⟩ ∧ b < w.heap.size ∧ A.map (·.block) = some b ∧ ∀ q v, vs[q]? = some v → w.cell? ⟨b, off + q, none⟩ = some v := by
  obtain ⟨b, o, rfl, hb, hA⟩ := h.rd.atn hk (Below.refl _ _)
  refine ⟨b, o + (k * sz + j), by simp [elA, add_plain], hb, rfl, fun q v hv => ?_⟩
  have h1 := hs.spec.2 q v hv
  have h2 : j + q < sz := by rw [← h.len k hk]; exact (List.getElem?_eq_some_iff.1 h1).1
  have h3 := hA (j + q) h2
  rw [show o + (k * sz + j) + q = o + k * sz + (j + q) by omega, h3]
  simp [rowF, List.getD_eq_getElem?_getD, h1]
theorem Chg.cell {S : List Nat} {w0 w : World} (h : Chg S w0 w) {b o : Nat} (hb : b < w0.heap.size) (hS : b ∉ S) : w.cell? ⟨b, o, none⟩ = w0.cell? ⟨b, o, none⟩ := World.cell?_of_block (w := w0) (h.block b hb hS)
def Apart (S : List Nat) (A : Option Addr) : Prop := ∀ b, A.map (·.block) = some b → b ∉ S
theorem Apart.nil {A : Option Addr} : Apart [] A := fun _ _ => by simp
theorem Cells.old {sz n k j m : Nat} {A : Option Addr} {r : Nat → List Value} {vs : List Value} (h : RdR c.w0 sz A n r) (hS : Apart c.S A) (hk : k < n) (hs : SubL (r k) j m vs) : Cells c K (elA A k sz j) vs := fun w hK => by
  obtain ⟨b, off, h1, h2, h3, h4⟩ := h.cells hk hs
  exact ⟨b, off, h1, fun q v hv => by rw [hK.chg.cell h2 (hS b h3)]; exact h4 q v hv⟩
theorem OwnR.rdr {w : World} {A : Option Addr} {n cp : Nat} {E : TypeId} {sz : Nat} {r : Nat → List Value} (h : OwnR w A n cp E sz r) : RdR w sz A n r := by
  obtain ⟨A', c', e, _, _, h'⟩ := h.own.form
  injection e with e1 e2 e3
  subst e1
  exact ⟨h', h.len⟩
theorem Cells.own {A : Option Addr} {n cp k j m : Nat} {E : TypeId} {sz : Nat} {r : Nat → List Value} {vs : List Value} (hp : Pick K (.own A n cp E sz r) K') (hk : k < n) (hs : SubL (r k) j m vs) : Cells c K (elA A k sz j) vs := fun w hK => by
  obtain ⟨b, off, h1, _, _, h4⟩ := (OwnR.rdr (hK.holds _ hp.mem)).cells hk hs
  exact ⟨b, off, h1, h4⟩
theorem Pu.move {x : Operand} {v : Value} (hx : ev F x = some v) : Pu c F K ⟨d, .move x, ty, pos, af, g⟩ v := fun a w hF _ => by
  show Result.ok (Next.value (a.eval x)) w = _; rw [hF.evl hx]
theorem Pu.assign {x : Operand} {v : Value} (hx : ev F x = some v) : Pu c F K ⟨d, .assign x, ty, pos, af, g⟩ v := fun a w hF _ => by
  show Result.ok (Next.value (a.eval x)) w = _; rw [hF.evl hx]
def notNil : Value → Bool
  | .pointer (some _) => true
  | .func (.func _) _ _ => true
  | _ => false
theorem Pu.nil {x : Operand} {v : Value} (hx : ev F x = some v) (hv : notNil v = true) : Pu c F K ⟨d, .nilCheck x, ty, pos, af, g⟩ v := fun a w hF _ => by
  simp only [execOp, hF.evl hx]
  match v, hv with
  | .pointer (some _), _ => rfl
  | .func (.func _) _ _, _ => rfl
theorem Pu.extract {x : Operand} {vs : Array Value} {i : Nat} {v : Value} (hx : ev F x = some (.tuple vs)) (hv : vs[i]? = some v) : Pu c F K ⟨d, .extract x i, ty, pos, af, g⟩ v := fun a w hF _ => by
  simp only [execOp, hF.evl hx, Instr.extract, hv, Sem.run_bind, Sem.run_pure, Result.andThen_ok]
theorem Pu.func {fn : Fn} {xs ys : List Operand} {us vs : List Value} (hx : evs F xs = some us) (hy : evs F ys = some vs) : Pu c F K ⟨d, .makeFunc fn xs.toArray ys.toArray, ty, pos, af, g⟩ (.func fn us.toArray vs.toArray) := fun a w hF _ => by
  simp only [execOp, Instr.makeFunc, List.map_toArray, hF.evsl hx, hF.evsl hy, Sem.run_bind, Sem.run_pure, Result.andThen_ok]
theorem Pu.bin {op : BinOp} {x y : Operand} {xt yt : TypeId} {u v r : Value} (hx : ev F x = some u) (hy : ev F y = some v) (hr : ∀ w, (do eqGuard op xt x y u v; binOp op xt u v : Sem Value).run c.P w = .ok r w) : Pu c F K ⟨d, .binOp op xt x y yt, ty, pos, af, g⟩ r := fun a w hF _ => by
  simp only [execOp, hF.evl hx, hF.evl hy]
  rw [Sem.run_bind, hr]
  rfl
section
variable {x y : Operand} {xt yt : TypeId} {i j : Int} {k : IntKind}
theorem Pu.arith {op : BinOp} {n : Int} (hx : ev F x = some (.int k i)) (hy : ev F y = some (.int k j)) (hop : ∀ w, (Op.intArith op k i j).run c.P w = .ok (.int k n) w) (h0 : match op with | .add | .sub | .mul => True | _ => False) : Pu c F K ⟨d, .binOp op xt x y yt, ty, pos, af, g⟩ (.int k n) :=
  Pu.bin hx hy fun w => by
    cases op <;> simp only at h0 <;> simp [eqGuard, binOp, hop]
theorem Pu.add (hx : ev F x = some (.int .i64 i)) (hy : ev F y = some (.int .i64 j)) (h : -9223372036854775808 ≤ i + j ∧ i + j ≤ 9223372036854775807) : Pu c F K ⟨d, .binOp .add xt x y yt, ty, pos, af, g⟩ (.int .i64 (i + j)) :=
  Pu.arith hx hy (fun w => by rw [Op.intArith, IntWalk.i64_in _ h]; rfl) trivial
theorem Pu.mul (hx : ev F x = some (.int .i64 i)) (hy : ev F y = some (.int .i64 j)) (h : -9223372036854775808 ≤ i * j ∧ i * j ≤ 9223372036854775807) : Pu c F K ⟨d, .binOp .mul xt x y yt, ty, pos, af, g⟩ (.int .i64 (i * j)) :=
  Pu.arith hx hy (fun w => by rw [Op.intArith, IntWalk.i64_in _ h]; rfl) trivial
theorem Pu.lss (hx : ev F x = some (.int k i)) (hy : ev F y = some (.int k j)) : Pu c F K ⟨d, .binOp .lss xt x y yt, ty, pos, af, g⟩ (.bool (decide (i < j))) := Pu.bin hx hy fun w => by simp [eqGuard, binOp, Op.intCmp]
theorem Pu.leq (hx : ev F x = some (.int k i)) (hy : ev F y = some (.int k j)) : Pu c F K ⟨d, .binOp .leq xt x y yt, ty, pos, af, g⟩ (.bool (decide (i ≤ j))) := Pu.bin hx hy fun w => by simp [eqGuard, binOp, Op.intCmp]
theorem Pu.gtr (hx : ev F x = some (.int k i)) (hy : ev F y = some (.int k j)) : Pu c F K ⟨d, .binOp .gtr xt x y yt, ty, pos, af, g⟩ (.bool (decide (j < i))) := Pu.bin hx hy fun w => by simp [eqGuard, binOp, Op.intCmp]
theorem Pu.geq (hx : ev F x = some (.int k i)) (hy : ev F y = some (.int k j)) : Pu c F K ⟨d, .binOp .geq xt x y yt, ty, pos, af, g⟩ (.bool (decide (j ≤ i))) := Pu.bin hx hy fun w => by simp [eqGuard, binOp, Op.intCmp]
theorem Pu.eql (hx : ev F x = some (.int k i)) (hy : ev F y = some (.int k j)) : Pu c F K ⟨d, .binOp .eql xt x y yt, ty, pos, af, g⟩ (.bool (decide (i = j))) := Pu.bin hx hy fun w => by
  simp [eqGuard, binOp, Op.intCmp]; rfl
theorem Pu.not {b : Bool} (hx : ev F x = some (.bool b)) : Pu c F K ⟨d, .unOp .not xt x, ty, pos, af, g⟩ (.bool !b) := fun a w hF _ => by
  simp [execOp, hF.evl hx, Op.unary]
theorem Pu.neg (hx : ev F x = some (.int .i64 i)) (h : -9223372036854775807 ≤ i ∧ i ≤ 9223372036854775807) : Pu c F K ⟨d, .unOp .neg xt x, ty, pos, af, g⟩ (.int .i64 (-i)) := fun a w hF _ => by
  have h9 : IntKind.i64.wrap (0 - i) = -i := by rw [IntWalk.i64_in _ (by omega)]; omega
  simp [execOp, hF.evl hx, Op.unary, Op.intArith]
  rw [Int.zero_sub] at h9
  exact h9
end
theorem Pu.fieldAt {x : Operand} {T i o b off : Nat} (hx : ev F x = some (.pointer (some ⟨b, off, none⟩))) (hf : FieldAt c.P T i o) : Pu c F K ⟨d, .fieldAddr T x i, ty, pos, af, g⟩ (.pointer (some ⟨b, off + o, none⟩)) := fun a w hF _ => by
  rcases hf w ⟨b, off, none⟩ with h | h
  · simp only [execOp, hF.evl hx, Sem.run_bind, h, Result.andThen_ok, Sem.run_pure]
  · cases h
theorem Pu.fieldEl {x : Operand} {T i o k sz j : Nat} {A : Option Addr} {vs : List Value} (hx : ev F x = some (.pointer (elA A k sz j))) (hf : FieldAt c.P T i o) (hq : Cells c K (elA A k sz j) vs) : Pu c F K ⟨d, .fieldAddr T x i, ty, pos, af, g⟩ (.pointer (elA A k sz (j + o))) := fun a w hF hK => by
  obtain ⟨b, off, h1, _⟩ := hq w hK
  have h2 : elA A k sz (j + o) = some ⟨b, off + o, none⟩ := by
    rw [← elA_add, h1, Option.map_some, add_plain]
  rcases hf w ⟨b, off, none⟩ with h | h
  · rw [h1] at hx
    rw [h2]
    simp only [execOp, hF.evl hx, Sem.run_bind, h, Result.andThen_ok, Sem.run_pure]
  · cases h
theorem Pu.load {x : Operand} {T : TypeId} {q : Option Addr} {v : Value} (hx : ev F x = some (.pointer q)) (hT : Sc c.P T) (hq : Cells c K q [v]) : Pu c F K ⟨d, .load T x, ty, pos, af, g⟩ v := fun a w hF hK => by
  obtain ⟨b, off, rfl, h⟩ := hq w hK
  have h1 := h 0 v rfl
  rw [Nat.add_zero] at h1
  simp only [execOp, hF.evl hx, Instr.loadAt, Instr.sureAddr, loadVar, Sem.run_bind, Sem.run_pure, Result.andThen_ok, hT w, Sem.run_ite, Bool.false_eq_true, if_false, run_load, h1]
theorem Pu.loads {x : Operand} {T : TypeId} {m : Nat} {q : Option Addr} {vs : List Value} (hx : ev F x = some (.pointer q)) (hT : Ag c.P T m) (hq : Cells c K q vs) (hm : vs.length = m) : Pu c F K ⟨d, .load T x, ty, pos, af, g⟩ (.agg vs.toArray) := fun a w hF hK => by
  obtain ⟨b, off, rfl, h⟩ := hq w hK
  have h1 := run_loadCells_list (P := c.P) (w := w) ⟨b, off, none⟩ vs (fun j v hv => by
    have := h j v hv
    unfold Addr.add
    split
    · rename_i h0; rw [h0, Nat.add_zero] at this; exact this
    · exact this)
  rw [hm] at h1
  simp only [execOp, hF.evl hx, Instr.loadAt, Instr.sureAddr, loadVar, Sem.run_bind, Sem.run_pure, Result.andThen_ok, hT.1 w, hT.2 w, Sem.run_ite, if_true, h1]
end
end Go.Proofs.YtehlbkmebaideaaGreatDoor
namespace Go.Proofs.YtehlbkmebaideaaGreatDoor
set_option linter.all false
set_option linter.unusedVariables false
set_option linter.unusedSimpArgs false
open Go.RowKit
def Zr (P : Program) (T : TypeId) (zs : List Value) : Prop := ∃ z : Value, z.cells = zs.toArray ∧ ∀ w, (zeroValue T).run P w = .ok z w
def Sz (P : Program) (T : TypeId) (m : Nat) : Prop := ∀ w, (sizeOf T).run P w = .ok m w
def evp (F : Fr) : List (Nat × Operand) → Option (List (Nat × Value))
  | [] => some []
  | p :: xs => match ev F p.2 with
    | some v => match evp F xs with
      | some vs => some ((p.1, v) :: vs)
      | none => none
    | none => none
theorem FS.evpl {n : Nat} {D : List Deferred} {F : Fr} {a : Act} (h : FS n D F a) : ∀ {xs : List (Nat × Operand)} {vs : List (Nat × Value)}, evp F xs = some vs → xs.map (fun (i, x) => (i, a.eval x)) = vs
  | [], vs, hx => by cases hx; rfl
  | p :: xs, vs, hx => by
    simp only [evp] at hx
    cases h1 : ev F p.2 with
    | none => rw [h1] at hx; cases hx
    | some v =>
      rw [h1] at hx
      cases h2 : evp F xs with
      | none => rw [h2] at hx; cases hx
      | some us =>
        rw [h2] at hx
        injection hx with hx
        subst hx
        have h3 := FS.evpl h h2
        obtain ⟨i, x⟩ := p
        rw [List.map_cons, h3]
        show (i, a.eval x) :: us = (i, v) :: us
        rw [h.evl h1]
def setAll : List Value → Nat → List Value → List Value
  | xs, _, [] => xs
  | xs, j, y :: ys => setAll (xs.set j y) (j + 1) ys
theorem setAll_cons (x : Value) : ∀ (ys xs : List Value) (j : Nat), setAll (x :: xs) (j + 1) ys = x :: setAll xs j ys
  | [], _, _ => rfl
  | y :: ys, xs, j => by rw [setAll, List.set_cons_succ, setAll_cons x ys, setAll]
theorem PutL.spec {xs ys zs : List Value} {j : Nat} (h : PutL xs j ys zs) : zs = setAll xs j ys ∧ j + ys.length ≤ xs.length := by
  induction h with
  | nil => exact ⟨rfl, by simp⟩
  | put h ih => obtain ⟨rfl, h2⟩ := ih; exact ⟨by rw [setAll, List.set_cons_zero, setAll_cons], by simp at h2 ⊢; omega⟩
  | pass h ih => obtain ⟨rfl, h2⟩ := ih; exact ⟨by rw [setAll_cons], by simp at h2 ⊢; omega⟩
theorem run_storeCells_blk {P : Program} {b : Nat} {t : TypeId} : ∀ (vs cs : List Value) (off i : Nat) (w : World), Blk w b t cs.toArray → off + i + vs.length ≤ cs.length → vs.all Value.oneCell' = true →
    ∃ w', (storeCells ⟨b, off, none⟩ vs i).run P w = .ok () w' ∧ Blk w' b t (setAll cs (off + i) vs).toArray ∧ Chg [b] w w'
  | [], cs, off, i, w, h, _, _ => ⟨w, rfl, h, Chg.refl _ _⟩
  | v :: vs, cs, off, i, w, h, hl, ho => by
    simp only [List.all_cons, Bool.and_eq_true, List.length_cons] at ho hl
    have ha : (⟨b, off, none⟩ : Addr).add i = ⟨b, off + i, none⟩ := by
      unfold Addr.add; split
      · rename_i h0; rw [h0]; rfl
      · rfl
    have hc : w.cell? ⟨b, off + i, none⟩ = some (cs[off + i]'(by omega)) := by rw [h.cell]; simp
    have hs : Blk (w.setCell ⟨b, off + i, none⟩ v) b t (cs.set (off + i) v).toArray := by have := h.set_ (off + i) v; simpa using this
    obtain ⟨w', h1, h2, h3⟩ := run_storeCells_blk vs (cs.set (off + i) v) off (i + 1) _ hs (by simp; omega) ho.2
    refine ⟨w', ?_, h2, (Chg.setCell w ⟨b, off + i, none⟩ v).trans h3⟩
    simp only [storeCells, Sem.run_bind]
    rw [ha, run_store P w ⟨b, off + i, none⟩ v .plain ho.1, hc]
    simp only [h.frozen, Bool.false_eq_true, if_false, Result.andThen_ok]
    exact h1
def fput (F : Fr) (d : Option Tmp) (v : Value) : Fr := match d with
  | some t => (t, v) :: F
  | none => F
def dok (d : Option Tmp) (n : Nat) : Bool := match d with
  | some t => Nat.blt t n
  | none => true
theorem FS.fput {n : Nat} {D : List Deferred} {F : Fr} {a : Act} (h : FS n D F a) {d : Option Tmp} (hd : dok d n = true) (v : Value) : FS n D (fput F d v) (a.put d v) := by
  cases d with
  | none => exact h
  | some t => exact h.put hd v
def catR (n : Nat) (r g : Nat → List Value) : Nat → List Value := fun i => if i < n then r i else g (i - n)
def updR (r : Nat → List Value) (k : Nat) (row : List Value) : Nat → List Value := fun i => if i = k then row else r i
def Src (c : Cx) (K : List Fact) (sz : Nat) (A : Option Addr) (m : Nat) (g : Nat → List Value) : Prop := ∀ w, Sat c.S c.w0 K w → RdR w sz A m g
def CallsK (P : Program) (f : FuncId) (args : Array Value) (M : List Fact) (w : World) (X : Type) (val : X → Value) (L : X → List Fact) : Prop := Calls P f args w fun e w' => ∃ x : X, e = .returned (val x) ∧ Sat (feet M) w (L x) w'
section
variable {c : Cx} {Q : Exit → Act → World → Prop} {F F' : Fr} {K K' : List Fact} {ops : Array Oper} {rest : List Oper} {ty : TypeId} {pos : String} {af : Array Edge} {g : Option (Nat × Bool)}
theorem wpList_eff {P : Program} {o : Oper} {v : Value} {a : Act} {w w' : World} (hg : o.guard = none) (hr : (execOp a.eval o).run P w = .ok (.value v) w') (h : wpList P ops Q rest (a.put o.dst v) w') : wpList P ops Q (o :: rest) a w :=
  wpList_plain hg fun _ hK => by unfold Oper.wp; rw [hr]; exact hK _ _ h
theorem wpList_skip {P : Program} {o : Oper} {a : Act} {w w' : World} (hg : o.guard = none) (hr : (execOp a.eval o).run P w = .ok .skip w') (h : wpList P ops Q rest (a.put o.dst undef) w') : wpList P ops Q (o :: rest) a w :=
  wpList_plain hg fun _ hK => by unfold Oper.wp; rw [hr]; exact hK _ _ h
def Mk (c : Cx) (F : Fr) (K : List Fact) (o : Oper) (v : Nat → Value) (t : TypeId) (cs : List Value) : Prop := ∀ a w, FS c.n c.D F a → Sat c.S c.w0 K w → (execOp a.eval o).run c.P w = .ok (.value (v w.heap.size)) (w.alloc (.cells cs.toArray t))
theorem Mk.alloc {d : Option Tmp} {T : TypeId} {zs : List Value} (hT : Zr c.P T zs) : Mk c F K ⟨d, .alloc T, ty, pos, af, g⟩ (fun b => .pointer (some ⟨b, 0, none⟩)) T zs := fun a w _ _ => by
  obtain ⟨z, h1, h2⟩ := hT
  simp only [execOp, Instr.alloc, newVar, newRow, Sem.run_bind, Sem.run_pure, h2 w, Result.andThen_ok, run_newObj, h1]
  rfl
theorem Mk.box {d : Option Tmp} {T : TypeId} {x : Operand} {v : Value} {vs : List Value} (hx : ev F x = some v) (hv : v.cells = vs.toArray) : Mk c F K ⟨d, .box T x, ty, pos, af, g⟩ (fun b => .pointer (some ⟨b, 0, none⟩)) T vs := fun a w hF _ => by
  simp only [execOp, Instr.box, newVar, newRow, Sem.run_bind, Sem.run_pure, Result.andThen_ok, run_newObj, hF.evl hx, hv]
  rfl
theorem Mk.bslice {d : Option Tmp} {T E : TypeId} {len : Nat} {ps : List (Nat × Operand)} {vs : List (Nat × Value)} {cs : List Value} (hx : evp F ps = some vs) (hr : ∀ w, (Instr.buildSlice T len vs.toArray).run c.P w = .ok (.slice (some ⟨w.heap.size, 0, none⟩) len len) (w.alloc (.cells cs.toArray E))) :
    Mk c F K ⟨d, .buildSlice T len ps.toArray, ty, pos, af, g⟩ (fun b => .slice (some ⟨b, 0, none⟩) len len) E cs := fun a w hF _ => by
  have := hF.evpl hx
  simp only [execOp, List.map_toArray, this, Sem.run_bind, hr w, Result.andThen_ok, Sem.run_pure]
theorem TL.mk {d : Option Tmp} {op : Op} {v : Nat → Value} {t : TypeId} {cs : List Value} (hm : Mk c F K ⟨d, op, ty, pos, af, none⟩ v t cs) (hd : dok d c.n = true) (h : ∀ b, TL c ops Q rest (fput F d (v b)) (.blk b t cs :: K)) : TL c ops Q (⟨d, op, ty, pos, af, none⟩ :: rest) F K := fun a w hF hK =>
  wpList_eff rfl (hm a w hF hK) (h _ _ _ (hF.fput hd _) (hK.new t cs))
theorem Pu.build {d : Option Tmp} {T : TypeId} {ps : List (Nat × Operand)} {vs : List (Nat × Value)} {v : Value} (hx : evp F ps = some vs) (hr : ∀ w, (Instr.build T vs.toArray).run c.P w = .ok v w) : Pu c F K ⟨d, .build T ps.toArray, ty, pos, af, g⟩ v := fun a w hF _ => by
  have := hF.evpl hx
  simp only [execOp, List.map_toArray, this, Sem.run_bind, hr w, Result.andThen_ok, Sem.run_pure]
theorem Pu.index {d : Option Tmp} {T : TypeId} {x y : Operand} {u u' v : Value} (hx : ev F x = some u) (hy : ev F y = some u') (hr : ∀ w, (Instr.index T u u').run c.P w = .ok v w) : Pu c F K ⟨d, .index T x y, ty, pos, af, g⟩ v := fun a w hF _ => by
  simp only [execOp, hF.evl hx, hF.evl hy, Sem.run_bind, hr w, Result.andThen_ok, Sem.run_pure]
theorem Pu.conv {d : Option Tmp} {S T : TypeId} {x : Operand} {u v : Value} (hx : ev F x = some u) (hr : ∀ w, (convert S T u).run c.P w = .ok v w) : Pu c F K ⟨d, .convert S T x, ty, pos, af, g⟩ v := fun a w hF _ => by
  simp only [execOp, hF.evl hx, Sem.run_bind, hr w, Result.andThen_ok, Sem.run_pure]
theorem Pu.len {d : Option Tmp} {t : TypeId} {x : Operand} {A : Option Addr} {n cp : Nat} {E : TypeId} (ht : c.P.underlying t = some (.slice E)) (hx : ev F x = some (.slice A n cp)) : Pu c F K ⟨d, .call { callee := .builtin .len, args := #[x], argTypes := #[t] }, ty, pos, af, g⟩ (.int .i64 n) := fun a w hF _ => by
  simp [execOp, resolve, invoke, builtin, Builtin.len_, hF.evl hx, run_underlying ht, goInt]
theorem Pu.elem {d : Option Tmp} {t E : TypeId} {sz bytes : Nat} {x y : Operand} {A : Option Addr} {n cp k : Nat} {kk : IntKind} {i : Int} (T : ElemT c.P t E sz bytes) (hx : ev F x = some (.slice A n cp)) (hy : ev F y = some (.int kk i)) (hk : i.toNat = k) (h0 : 0 ≤ i) (h1 : i < n) {vs : List Value} (hA : Cells c K (elA A k sz 0) vs) :
    Pu c F K ⟨d, .indexAddr t x y, ty, pos, af, g⟩ (.pointer (elA A k sz 0)) := fun a w hF hK => by
  obtain ⟨b, off, h2, _⟩ := hA w hK
  cases A with
  | none => cases h2
  | some p =>
    obtain ⟨i', z, hi, hz, hs, hb, hzs⟩ := T.hi
    have h4 : (sizeOf E).run c.P w = .ok sz w := by simp [sizeOf, typeInfo, hi, hs]
    simp [execOp, hF.evl hx, hF.evl hy, Instr.indexAt, asIntOf, run_underlying T.ht, h0, h1, h4, elA, hk]
theorem TL.store {x y : Operand} {T : TypeId} {b off m : Nat} {v : Value} {vs cs cs' : List Value} {t : TypeId} (hx : ev F x = some (.pointer (some ⟨b, off, none⟩))) (hy : ev F y = some v) (hv : v.cells = vs.toArray) (h1 : vs.all Value.oneCell' = true) (hT : Sz c.P T m) (hm : vs.length = m)
    (hp : Pick K (.blk b t cs) K') (hput : PutL cs off vs cs') (h : TL c ops Q rest F (.blk b t cs' :: K')) : TL c ops Q (⟨none, .store T x y, ty, pos, af, none⟩ :: rest) F K := fun a w hF hK => by
  have hs := hK.pick hp
  have hb : Blk w b t cs.toArray := hs.holds (.blk b t cs) (by simp)
  obtain ⟨e, hl⟩ := hput.spec
  subst e
  obtain ⟨w', r1, r2, r3⟩ := run_storeCells_blk (P := c.P) vs cs off 0 w hb (by omega) h1
  refine wpList_skip rfl (w' := w') ?_ (h a w' hF (hs.turn r3 (by simp [Fact.foot]) (fun q hq => .inl hq) r2))
  simp [execOp, hF.evl hx, hF.evl hy, Instr.storeAt, Instr.sureAddr, storeVar, hT w, hv, hm, r1]
theorem TL.storeEl {x y : Operand} {T : TypeId} {A : Option Addr} {n cp k j m : Nat} {E : TypeId} {sz : Nat} {r : Nat → List Value} {v : Value} {vs row : List Value} (hx : ev F x = some (.pointer (elA A k sz j))) (hy : ev F y = some v) (hv : v.cells = vs.toArray) (h1 : vs.all Value.oneCell' = true) (hT : Sz c.P T m) (hm : vs.length = m)
    (hp : Pick K (.own A n cp E sz r) K') (hk : k < n) (hput : PutL (r k) j vs row) (h : TL c ops Q rest F (.own A n cp E sz (updR r k row) :: K')) : TL c ops Q (⟨none, .store T x y, ty, pos, af, none⟩ :: rest) F K := fun a w hF hK => by
  have hs := hK.pick hp
  have hb : OwnR w A n cp E sz r := hs.holds (.own A n cp E sz r) (by simp)
  obtain ⟨rfl, hl⟩ := hput.spec
  have hlen := hb.len k hk
  obtain ⟨g, c', e, _, hg, _, hcell, hfr⟩ := hb.own.form1 (by omega)
  injection e with e1 e2 e3
  subst e1
  have key : ∀ (vs : List Value) (j : Nat) (i : Nat) (r : Nat → List Value) (w : World), OwnR w (some ⟨g, 0, none⟩) n cp E sz r → (r k).length = sz → j + i + vs.length ≤ sz → vs.all Value.oneCell' = true →
      ∃ w', (storeCells ⟨g, k * sz + j, none⟩ vs i).run c.P w = .ok () w' ∧ OwnR w' (some ⟨g, 0, none⟩) n cp E sz (updR r k (setAll (r k) (j + i) vs)) ∧ Chg [g] w w' := by
    intro vs
    induction vs with
    | nil =>
      intro j i r w ho _ _ _
      refine ⟨w, rfl, ⟨ho.own.congr fun i' j' hi hj => ?_, fun i' hi => ?_⟩, Chg.refl _ _⟩
      · simp only [rowF, updR, setAll]; split
        · rename_i h; rw [h]
        · rfl
      · simp only [updR, setAll]; split
        · rename_i h; rw [← h]; exact ho.len i' hi
        · exact ho.len i' hi
    | cons v vs ih =>
      intro j i r w ho hrk hl ho1
      simp only [List.all_cons, Bool.and_eq_true, List.length_cons] at ho1 hl
      obtain ⟨_, c2, e9, _, hg', _, hcell, hfr⟩ := ho.own.form1 (by omega)
      injection e9 with e91
      injection e91 with e91
      injection e91 with e91
      subst e91
      have ha : (⟨g, k * sz + j, none⟩ : Addr).add i = ⟨g, k * sz + (j + i), none⟩ := by rw [add_plain, Nat.add_assoc]
      have hc := hcell k (j + i) hk (by omega)
      have hset := ho.own.set k (j + i) hk (by omega) v
      have ho2 : OwnR (w.setCell ⟨g, k * sz + (j + i), none⟩ v) (some ⟨g, 0, none⟩) n cp E sz (updR r k ((r k).set (j + i) v)) := by
        refine ⟨hset.congr fun i' j' hi hj => ?_, fun i' hi => ?_⟩
        · simp only [rowF, updR]
          by_cases h1 : i' = k
          · subst h1
            by_cases h2 : j' = j + i
            · subst h2
              have h3 : j + i < (r i').length := by omega
              simp [List.getD_eq_getElem?_getD, List.getElem?_set, h3]
            · simp [h2, List.getD_eq_getElem?_getD, List.getElem?_set, Ne.symm h2]
          · simp [h1]
        · simp only [updR]; split
          · rename_i h; rw [List.length_set, hrk]
          · exact ho.len i' hi
      obtain ⟨w', r1, r2, r3⟩ := ih j (i + 1) _ _ ho2 (by simp [updR, hrk]) (by omega) ho1.2
      refine ⟨w', ?_, ⟨r2.own.congr fun i' j' hi hj => ?_, fun i' hi => ?_⟩, (Chg.setCell w ⟨g, k * sz + (j + i), none⟩ v).trans r3⟩
      · simp only [storeCells, Sem.run_bind]
        rw [ha, run_store c.P w ⟨g, k * sz + (j + i), none⟩ v .plain ho1.1, hc]
        simp only [hfr, Bool.false_eq_true, if_false, Result.andThen_ok]
        exact r1
      · simp only [rowF, updR]; split
        · rename_i h; simp [updR, setAll, Nat.add_assoc]
        · rfl
      · have := r2.len i' hi
        simp only [updR] at this ⊢; split
        · rename_i h; simpa [h, updR, setAll, Nat.add_assoc] using this
        · rename_i h; simpa [h, updR] using this
  obtain ⟨w', r1, r2, r3⟩ := key vs j 0 r w hb hlen (by rw [← hlen]; simpa using hl) h1
  refine wpList_skip rfl (w' := w') ?_ (h a w' hF (hs.turn r3 (by simp [Fact.foot]) (fun q hq => .inl hq) r2))
  have e : elA (some ⟨g, 0, none⟩) k sz j = some ⟨g, k * sz + j, none⟩ := by simp [elA, add_plain]
  rw [e] at hx
  simp [execOp, hF.evl hx, hF.evl hy, Instr.storeAt, Instr.sureAddr, storeVar, hT w, hv, hm, r1]
theorem Src.old {sz n : Nat} {A : Option Addr} {r : Nat → List Value} (h : RdR c.w0 sz A n r) (hS : Apart c.S A) : Src c K sz A n r := fun w hK => by
  refine ⟨fun hn => ?_, h.len⟩
  obtain ⟨b, off, h1, h2, h3⟩ := h.rd hn
  refine ⟨b, off, h1, Nat.lt_of_lt_of_le h2 hK.chg.size, fun i j hi hj => ?_⟩
  rw [hK.chg.cell h2 (hS b (by rw [h1]; rfl))]
  exact h3 i j hi hj
theorem Src.own {A : Option Addr} {n cp : Nat} {E : TypeId} {sz : Nat} {r : Nat → List Value} (hp : Pick K (.own A n cp E sz r) K') : Src c K sz A n r := fun w hK => OwnR.rdr (hK.holds _ hp.mem)
theorem Src.blk1 {b : Nat} {t : TypeId} {cs : List Value} {sz : Nat} (hp : Pick K (.blk b t cs) K') (hs : cs.length = sz) : Src c K sz (some ⟨b, 0, none⟩) 1 (fun _ => cs) := fun w hK => by
  have hb : Blk w b t cs.toArray := hK.holds (.blk b t cs) hp.mem
  refine ⟨Rd.of_blk hb (by simpa using hs) fun i j hi hj => ?_, fun i hi => hs⟩
  obtain rfl : i = 0 := by omega
  simp [rowF, Array.getD_eq_getD_getElem?, List.getD_eq_getElem?_getD]
theorem TL.app {d : Option Tmp} {x y : Operand} {t E : TypeId} {sz bytes : Nat} {A A2 : Option Addr} {n cp m cp2 : Nat} {r s : Nat → List Value} (T : ElemT c.P t E sz bytes) (hx : ev F x = some (.slice A n cp)) (hy : ev F y = some (.slice A2 m cp2)) (hd : dok d c.n = true)
    (hp : Pick K (.own A n cp E sz r) K') (hsrc : Src c K sz A2 m s) (h1 : ∀ i, i < m → (s i).all Value.oneCell' = true) (hm : n + m ≤ 1000000000) (hby : bytes ≤ 10000)
    (h : ∀ A' cp', TL c ops Q rest (fput F d (.slice A' (n + m) cp')) (.own A' (n + m) cp' E sz (catR n r s) :: K')) : TL c ops Q (⟨d, .call { callee := .builtin .append, args := #[x, y], argTypes := #[t, t] }, ty, pos, af, none⟩ :: rest) F K := fun a w hF hK => by
  have hs := hK.pick hp
  have hb : OwnR w A n cp E sz r := hs.holds (.own A n cp E sz r) (by simp)
  have hr := hsrc w hK
  refine wpList_app rfl x y T rfl (hF.evl hx) hb.own (hF.evl hy) hr.rd (fun i j hi hj => ?_) hm hby (Nat.zero_le _) fun v' w' hown hg hbk => ?_
  · have := h1 i hi
    rw [List.all_eq_true] at this
    have hlen := hr.len i hi
    have e : rowF s i j = (s i)[j]'(by omega) := by simp [rowF, List.getD_eq_getElem?_getD, List.getElem?_eq_getElem (show j < (s i).length by omega)]
    rw [e]
    exact this _ (List.getElem_mem _)
  · obtain ⟨A', cp', rfl, _, _, _⟩ := hown.form
    have hc : Chg (Fact.own A n cp E sz r).foot w w' := by rw [own_foot]; exact Chg.grown hg
    refine h A' cp' _ w' (hF.fput hd _) (hs.turn hc (by rw [own_foot]; cases (Value.slice A' (n + m) cp').ownBlock <;> simp) (fun b hb => ?_) ⟨hown.congr fun i j hi hj => ?_, fun i hi => ?_⟩)
    · rw [own_foot] at hb ⊢
      rcases hbk with e | e
      · rw [e] at hb; exact .inl hb
      · rw [e] at hb; simp at hb; subst hb; exact .inr (Nat.le_refl _)
    · simp only [cat, rowF, catR]; split <;> rfl
    · simp only [catR]; split
      · exact hb.len i ‹_›
      · exact hr.len _ (by omega)
theorem TL.app0 {d : Option Tmp} {x y : Operand} {t E : TypeId} {sz bytes : Nat} {A A2 : Option Addr} {cp m cp2 : Nat} {r s : Nat → List Value} (T : ElemT c.P t E sz bytes) (hx : ev F x = some (.slice A 0 cp)) (hy : ev F y = some (.slice A2 m cp2)) (hd : dok d c.n = true)
    (hp : Pick K (.own A 0 cp E sz r) K') (hsrc : Src c K sz A2 m s) (h1 : ∀ i, i < m → (s i).all Value.oneCell' = true) (hm : m ≤ 1000000000) (hby : bytes ≤ 10000)
    (h : ∀ A' cp', TL c ops Q rest (fput F d (.slice A' m cp')) (.own A' m cp' E sz s :: K')) : TL c ops Q (⟨d, .call { callee := .builtin .append, args := #[x, y], argTypes := #[t, t] }, ty, pos, af, none⟩ :: rest) F K :=
  TL.app T hx hy hd hp hsrc h1 (by omega) hby fun A' cp' => by
    have e : catR 0 r s = s := by funext i; simp [catR]
    rw [e, Nat.zero_add]
    exact h A' cp'
theorem TL.subK (hK : KSub K K') (h : TL c ops Q rest F K') : TL c ops Q rest F K := fun a w hf hk => h a w hf (hk.sub hK)
theorem TL.lit {t : Nat} {b b' : Bool} (ht : fget F t = some (.bool b)) (hb : b = b') (h : TL c ops Q rest ((t, .bool b') :: F) K) : TL c ops Q rest F K := fun a w hF hK =>
  h a w ⟨hF.size, hF.dfs, fun u v hv => by
    simp only [fget] at hv
    cases h1 : Nat.beq t u with
    | true => rw [h1] at hv; have := beq_iff.1 h1; subst this; injection hv with hv; subst hv; rw [← hb]; exact hF.get _ _ ht
    | false => rw [h1] at hv; exact hF.get _ _ hv⟩ hK
theorem Sat.own {S : List Nat} {w0 w : World} {A : Option Addr} {n cp : Nat} {E : TypeId} {sz : Nat} {r : Nat → List Value} (h : Sat S w0 K w) (hp : Pick K (.own A n cp E sz r) K') : OwnR w A n cp E sz r := h.holds (.own A n cp E sz r) hp.mem
theorem TL.call {d : Option Tmp} {f : FuncId} {xs : List Operand} {ts : Array TypeId} {us : List Value} {M : List Fact} {X : Type} {val : X → Value} {L : X → List Fact} (hx : evs F xs = some us) (hen : Enters c.P f) (hM : K.Perm (M ++ K')) (hd : dok d c.n = true)
    (hc : ∀ w, Sat c.S c.w0 K w → CallsK c.P f us.toArray M w X val L) (h : ∀ x, TL c ops Q rest (fput F d (val x)) (L x ++ K')) : TL c ops Q (⟨d, .call { callee := .value (.func f), args := xs.toArray, argTypes := ts }, ty, pos, af, none⟩ :: rest) F K := fun a w hF hK =>
  wpList_plain rfl fun Z hZ => by
    have hr : (execOp a.eval ⟨d, .call { callee := .value (.func f), args := xs.toArray, argTypes := ts }, ty, pos, af, none⟩).run c.P w = .ok (.enter f us.toArray) w := by
      have := hF.evsl hx
      have h9 := hen us.toArray w
      simp [execOp, resolve, invoke, Deferred.ofValue, Act.eval, this, h9]
    unfold Oper.wp
    rw [hr]
    refine Calls.mono (hc w hK) ?_
    rintro e w' ⟨x, rfl, hs⟩
    exact hZ _ _ (h x _ _ (hF.fput hd _) ((hK.perm hM).step hs))
end
end Go.Proofs.YtehlbkmebaideaaGreatDoor
