/-
  Part 2 of the proof of leaderReads_holds: declarations of several texts, in build order. No condition on a program.
-/
import Derived.Test.YtfgnbkegdjkdmaaGreatDoorlr101
import Derived.RangeFuncNested
import Derived.RangeFuncBound
import Derived.RangeFuncCalls
import Derived.RangeFuncLeaves
import Derived.OwnWalkIn
import Derived.TacticsInMore
import Derived.LoopNIn
import Derived.LoopIn
import Derived.OrdersIn
import Derived.Deep.LoopGhost
import Derived.ProofKit
import Derived.Deep.Slices
import Derived.Carry
namespace Go.Proofs.YtfgnbkegdjkdmaaGreatDoor
set_option linter.all false
set_option linter.unusedVariables false
set_option linter.unusedSimpArgs false
open Go.RowKit
abbrev Fr := List (Nat × Value)
def fget : Fr → Nat → Option Value
  | [], _ => none
  | (i, v) :: F, t => match Nat.beq i t with
    | true => some v
    | false => fget F t
def ev (F : Fr) : Operand → Option Value
  | .tmp t => fget F t
  | .const v => some v
  | .global g => some (.pointer (some ⟨g, 0, none⟩))
  | .func f => some (.func (.func f) #[] #[])
def evs (F : Fr) : List Operand → Option (List Value)
  | [] => some []
  | x :: xs => match ev F x with
    | some v => match evs F xs with
      | some vs => some (v :: vs)
      | none => none
    | none => none
structure FS (n : Nat) (D : List Deferred) (F : Fr) (a : Act) : Prop where
  size : a.tmps.size = n
  dfs : a.defers = D
  get : ∀ t v, fget F t = some v → a.tmps.getD t undef = v
section
variable {n : Nat} {D : List Deferred} {F F' : Fr} {a : Act}
theorem FS.evl (h : FS n D F a) {x : Operand} {v : Value} (hx : ev F x = some v) : a.eval x = v := by
  cases x with
  | tmp t => exact h.get t v hx
  | const u => injection hx
  | global g => injection hx
  | func f => injection hx
theorem FS.evsl (h : FS n D F a) : ∀ {xs : List Operand} {vs : List Value}, evs F xs = some vs → xs.map a.eval = vs
  | [], vs, hx => by cases hx; rfl
  | x :: xs, vs, hx => by
    simp only [evs] at hx
    cases h1 : ev F x with
    | none => rw [h1] at hx; cases hx
    | some v =>
      rw [h1] at hx
      cases h2 : evs F xs with
      | none => rw [h2] at hx; cases hx
      | some us =>
        rw [h2] at hx
        injection hx with hx
        subst hx
        rw [List.map_cons, h.evl h1, FS.evsl h h2]
theorem beq_iff {i t : Nat} : Nat.beq i t = true ↔ i = t := ⟨Nat.eq_of_beq_eq_true, fun e => by subst e; exact Nat.beq_refl i⟩
theorem FS.put (h : FS n D F a) {d : Nat} (hd : Nat.blt d n = true) (v : Value) : FS n D ((d, v) :: F) (a.put (some d) v) := by
  have hd' : d < n := by have := Nat.le_of_ble_eq_true hd; omega
  refine ⟨by simp [Act.put, h.size], by simp [Act.put, h.dfs], fun t u hu => ?_⟩
  simp only [fget] at hu
  cases hb : Nat.beq d t with
  | true =>
    rw [hb] at hu
    have := beq_iff.1 hb
    subst this
    injection hu with hu
    subst hu
    simp [Act.put, Array.getD_eq_getD_getElem?, h.size, hd']
  | false =>
    rw [hb] at hu
    have hne : d ≠ t := fun e => by rw [beq_iff.2 e] at hb; cases hb
    have := h.get t u hu
    simp only [Act.put, Array.getD_eq_getD_getElem?] at this ⊢
    rwa [Array.getElem?_setIfInBounds_ne hne]
theorem FS.sub (h : FS n D F a) (hs : ∀ t v, fget F' t = some v → fget F t = some v) : FS n D F' a := ⟨h.size, h.dfs, fun t v hv => h.get t v (hs t v hv)⟩
def hasN : List Nat → Nat → Bool
  | [], _ => false
  | x :: xs, t => match Nat.beq x t with
    | true => true
    | false => hasN xs t
def fsubS (F : Fr) : List Nat → Fr → Prop
  | _, [] => True
  | s, (i, v) :: G => (match hasN s i with
    | true => True
    | false => fget F i = some v) ∧ fsubS F (i :: s) G
def fsub (F G : Fr) : Prop := fsubS F [] G
theorem fsubS_spec : ∀ {G : Fr} {s : List Nat}, fsubS F s G → ∀ t v, hasN s t = false → fget G t = some v → fget F t = some v
  | [], _, _, t, v, _, h => by cases h
  | (i, u) :: G, s, h, t, v, hs, hv => by
    simp only [fget] at hv
    cases hb : Nat.beq i t with
    | true =>
      rw [hb] at hv
      have := beq_iff.1 hb
      subst this
      have h1 := h.1
      rw [hs] at h1
      exact h1.trans hv
    | false => rw [hb] at hv; exact fsubS_spec h.2 t v (by simp only [hasN, hb]; exact hs) hv
theorem fsub_spec {G : Fr} (h : fsub F G) : ∀ t v, fget G t = some v → fget F t = some v := fun t v hv => fsubS_spec h t v rfl hv
end
def rowF (r : Nat → List Value) : Nat → Nat → Value := fun i j => (r i).getD j undef
structure RdR (w : World) (sz : Nat) (A : Option Addr) (n : Nat) (r : Nat → List Value) : Prop where
  rd : Rd w sz A n (rowF r)
  len : ∀ i, i < n → (r i).length = sz
structure OwnR (w : World) (A : Option Addr) (n c : Nat) (E : TypeId) (sz : Nat) (r : Nat → List Value) : Prop where
  own : Own w 0 E sz (.slice A n c) n (rowF r)
  len : ∀ i, i < n → (r i).length = sz
inductive Fact where
  | blk (b : Nat) (t : TypeId) (cs : List Value)
  | own (A : Option Addr) (n c : Nat) (E : TypeId) (sz : Nat) (r : Nat → List Value)
  | obj (b : Nat) (o : Obj)
  | pr (l : List Nat) (p : World → Prop)
def Fact.foot : Fact → List Nat
  | .blk b _ _ => [b]
  | .own (some a) _ _ _ _ _ => [a.block]
  | .own none _ _ _ _ _ => []
  | .obj b _ => [b]
  | .pr l _ => l
structure PrOk (l : List Nat) (p : World → Prop) (w : World) : Prop where
  now : p w
  lt : ∀ b ∈ l, b < w.heap.size
  loc : ∀ w w' : World, (∀ b ∈ l, b < w.heap.size) → p w → (∀ b ∈ l, w'.heap[b]? = w.heap[b]?) → p w'
def Fact.holds : Fact → World → Prop
  | .blk b t cs, w => Blk w b t cs.toArray
  | .own A n c E sz r, w => OwnR w A n c E sz r
  | .obj b o, w => w.heap[b]? = some o ∧ o.isCells = false
  | .pr l p, w => PrOk l p w
theorem lt_of_get {w : World} {b : Nat} {o : Obj} (h : w.heap[b]? = some o) : b < w.heap.size := (Array.getElem?_eq_some_iff.1 h).1
theorem own_foot {A : Option Addr} {n c : Nat} {E : TypeId} {sz : Nat} {r : Nat → List Value} : (Fact.own A n c E sz r).foot = (Value.slice A n c).ownBlock.toList := by
  cases A <;> rfl
theorem Fact.lt {φ : Fact} {w : World} (h : φ.holds w) : ∀ b ∈ φ.foot, b < w.heap.size := by
  intro b hb
  match φ, h, hb with
  | .blk b' t cs, h, hb => simp only [Fact.foot, List.mem_singleton] at hb; subst hb; exact Blk.lt h
  | .own (some a) n c E sz f, h, hb => simp only [Fact.foot, List.mem_singleton] at hb; subst hb; exact (Own.blk h.own rfl).2
  | .obj b' o, h, hb => simp only [Fact.foot, List.mem_singleton] at hb; subst hb; exact lt_of_get h.1
  | .pr l p, h, hb => exact h.lt b hb
theorem own_of_block {w w' : World} {E : TypeId} {sz n : Nat} {v : Value} {f : Nat → Nat → Value} (h : Own w 0 E sz v n f) (he : ∀ b, v.ownBlock = some b → w'.heap[b]? = w.heap[b]?) : Own w' 0 E sz v n f := by
  rcases h with ⟨h1, h2⟩
  refine ⟨h1, ?_⟩
  rcases h2 with h2 | ⟨g, cap, cur, rfl, hg, hh, r⟩
  · exact .inl h2
  · exact .inr ⟨g, cap, cur, rfl, hg, by rw [he g rfl]; exact hh, r⟩
theorem Fact.loc {φ : Fact} {w w' : World} (h : φ.holds w) (he : ∀ b ∈ φ.foot, w'.heap[b]? = w.heap[b]?) (hs : w.heap.size ≤ w'.heap.size) : φ.holds w' := by
  match φ, h, he with
  | .blk b t cs, h, he => exact (he b (by simp [Fact.foot])).trans h
  | .own A n c E sz f, h, he => exact ⟨own_of_block h.own fun b hb => he b (by rw [own_foot, hb]; simp), h.len⟩
  | .obj b o, h, he => exact ⟨(he b (by simp [Fact.foot])).trans h.1, h.2⟩
  | .pr l p, h, he => exact ⟨h.loc w w' h.lt h.now he, fun b hb => Nat.lt_of_lt_of_le (h.lt b hb) hs, h.loc⟩
def feet (K : List Fact) : List Nat := K.flatMap Fact.foot
theorem feet_cons (φ : Fact) (K : List Fact) : feet (φ :: K) = φ.foot ++ feet K := rfl
theorem feet_append (K L : List Fact) : feet (K ++ L) = feet K ++ feet L := by simp [feet]
structure Chg (S : List Nat) (w w' : World) : Prop where
  os : w'.os = w.os
  tape : w'.tape = w.tape
  output : w'.output = w.output
  size : w.heap.size ≤ w'.heap.size
  block : ∀ k, k < w.heap.size → k ∉ S → w'.heap[k]? = w.heap[k]?
theorem Chg.of_ext {w w' : World} (h : Below w.heap.size w w') : Chg [] w w' := ⟨h.os, h.tape, h.output, h.size, fun k hk _ => h.block k hk⟩
theorem Chg.ext {w w' : World} (h : Chg [] w w') : Below w.heap.size w w' := ⟨h.os, h.tape, h.output, h.size, fun k hk => h.block k hk (by simp)⟩
theorem Chg.refl (S : List Nat) (w : World) : Chg S w w := ⟨rfl, rfl, rfl, Nat.le_refl _, fun _ _ _ => rfl⟩
theorem Chg.trans {S : List Nat} {a b c : World} (h : Chg S a b) (k : Chg S b c) : Chg S a c :=
  ⟨k.os.trans h.os, k.tape.trans h.tape, k.output.trans h.output, Nat.le_trans h.size k.size, fun i hi hS => (k.block i (Nat.lt_of_lt_of_le hi h.size) hS).trans (h.block i hi hS)⟩
theorem Chg.grown {w w' : World} {row : Option Nat} (h : w.grownBy w' row) : Chg row.toList w w' := ⟨h.os, h.tape, h.output, h.size, fun k hk hS => h.block k hk (fun e => hS (by rw [← e]; simp))⟩
theorem Chg.setCell (w : World) (p : Addr) (u : Value) : Chg [p.block] w (w.setCell p u) := ⟨rfl, rfl, rfl, by simp, fun k _ hk => Below.heap_setCell _ _ _ _ (by simpa using hk)⟩
structure Sat (S : List Nat) (w0 : World) (K : List Fact) (w : World) : Prop where
  chg : Chg S w0 w
  nd : (feet K).Nodup
  ge : ∀ b ∈ feet K, b ∈ S ∨ w0.heap.size ≤ b
  holds : ∀ φ ∈ K, φ.holds w
inductive Pick : List Fact → Fact → List Fact → Prop
  | hd {φ : Fact} {K : List Fact} : Pick (φ :: K) φ K
  | tl {φ ψ : Fact} {K K' : List Fact} : Pick K φ K' → Pick (ψ :: K) φ (ψ :: K')
section
variable {S : List Nat} {w0 w w' : World} {K K' M L : List Fact} {φ φ' : Fact}
theorem Pick.perm (h : Pick K φ K') : K.Perm (φ :: K') := by
  induction h with
  | hd => exact List.Perm.refl _
  | tl _ ih => exact (ih.cons _).trans (List.Perm.swap _ _ _)
theorem Pick.mem (h : Pick K φ K') : φ ∈ K := h.perm.mem_iff.2 (by simp)
theorem Sat.perm (h : Sat S w0 K w) (hp : K.Perm K') : Sat S w0 K' w :=
  have hf : (feet K).Perm (feet K') := hp.flatMap_right _
  ⟨h.chg, hf.nodup_iff.1 h.nd, fun b hb => h.ge b (hf.mem_iff.2 hb), fun φ hφ => h.holds φ (hp.mem_iff.2 hφ)⟩
theorem Sat.pick (h : Sat S w0 K w) (hp : Pick K φ K') : Sat S w0 (φ :: K') w := h.perm hp.perm
theorem Sat.lt (h : Sat S w0 K w) : ∀ b ∈ feet K, b < w.heap.size := fun b hb => by
  obtain ⟨ψ, hψ, hb'⟩ := List.mem_flatMap.1 hb
  exact Fact.lt (h.holds ψ hψ) b hb'
theorem Sat.step (h : Sat S w0 (M ++ K) w) (k : Sat (feet M) w L w') : Sat S w0 (L ++ K) w' := by
  have hnd := List.nodup_append.1 (feet_append M K ▸ h.nd)
  have hltK : ∀ b ∈ feet K, b < w.heap.size := fun b hb => h.lt b (by rw [feet_append]; simp [hb])
  have hgeM : ∀ b ∈ feet M, b ∈ S ∨ w0.heap.size ≤ b := fun b hb => h.ge b (by rw [feet_append]; simp [hb])
  refine ⟨?_, ?_, fun b hb => ?_, fun ψ hψ => ?_⟩
  · refine ⟨k.chg.os.trans h.chg.os, k.chg.tape.trans h.chg.tape, k.chg.output.trans h.chg.output, Nat.le_trans h.chg.size k.chg.size, fun i hi hS => ?_⟩
    refine (k.chg.block i (Nat.lt_of_lt_of_le hi h.chg.size) (fun hm => ?_)).trans (h.chg.block i hi hS)
    rcases hgeM i hm with h1 | h1
    · exact hS h1
    · omega
  · rw [feet_append]
    refine List.nodup_append.2 ⟨k.nd, hnd.2.1, fun x hx y hy e => ?_⟩
    subst e
    rcases k.ge x hx with h1 | h1
    · exact hnd.2.2 x h1 x hy rfl
    · have := hltK x hy; omega
  · rw [feet_append, List.mem_append] at hb
    rcases hb with hb | hb
    · rcases k.ge b hb with h1 | h1
      · exact hgeM b h1
      · exact .inr (Nat.le_trans h.chg.size h1)
    · exact h.ge b (by rw [feet_append]; simp [hb])
  · rcases List.mem_append.1 hψ with hψ | hψ
    · exact k.holds ψ hψ
    · refine Fact.loc (h.holds ψ (by simp [hψ])) (fun b hb => ?_) k.chg.size
      have hb' : b ∈ feet K := List.mem_flatMap.2 ⟨ψ, hψ, hb⟩
      exact k.chg.block b (hltK b hb') (fun hm => hnd.2.2 b hm b hb' rfl)
theorem Sat.add (h : Sat S w0 K w) (k : Sat [] w L w') : Sat S w0 (L ++ K) w' := Sat.step (M := []) h k
theorem Sat.nil (h : Chg S w0 w) : Sat S w0 [] w := ⟨h, by simp [feet], fun b hb => (by cases hb), fun ψ hψ => (by cases hψ)⟩
theorem Sat.ext (h : Sat S w0 K w) (hb : Below w.heap.size w w') : Sat S w0 K w' := h.add (L := []) (Sat.nil (Chg.of_ext hb))
theorem Sat.start (w : World) : Sat [] w [] w := Sat.nil (Chg.refl _ _)
theorem Sat.one (hc : Chg S w0 w) (hnd : φ.foot.Nodup) (hge : ∀ b ∈ φ.foot, b ∈ S ∨ w0.heap.size ≤ b) (hh : φ.holds w) : Sat S w0 [φ] w :=
  ⟨hc, by simpa [feet] using hnd, fun b hb => hge b (by simpa [feet] using hb), fun ψ hψ => by simp only [List.mem_singleton] at hψ; subst hψ; exact hh⟩
theorem Sat.new (h : Sat S w0 K w) (t : TypeId) (cs : List Value) : Sat S w0 (.blk w.heap.size t cs :: K) (w.alloc (.cells cs.toArray t)) :=
  h.add (L := [_]) (Sat.one (Chg.of_ext ((Below.refl _ _).alloc (Nat.le_refl _) _)) (by simp [Fact.foot]) (fun b hb => by simp [Fact.foot] at hb; subst hb; exact .inr (Nat.le_refl _)) (Blk.new w t cs.toArray))
theorem Sat.turn (h : Sat S w0 (φ :: K) w) (hc : Chg φ.foot w w') (hnd : φ'.foot.Nodup) (hf : ∀ b ∈ φ'.foot, b ∈ φ.foot ∨ w.heap.size ≤ b) (hh : φ'.holds w') : Sat S w0 (φ' :: K) w' := by
  have e : feet [φ] = φ.foot := by simp [feet]
  exact Sat.step (M := [φ]) (L := [φ']) h (by rw [e]; exact Sat.one hc hnd hf hh)
end
def flatR : Nat → (Nat → List Value) → List Value
  | 0, _ => []
  | n + 1, r => flatR n r ++ r n
theorem flatR_spec {n sz : Nat} {r : Nat → List Value} (h : ∀ i, i < n → (r i).length = sz) : flatR n r = flat sz n (rowF r) := by
  induction n with
  | zero => rfl
  | succ n ih =>
    rw [flatR, ih fun i hi => h i (by omega), flat_succ]
    congr 1
    have hl := h n (by omega)
    refine List.ext_getElem (by simp [hl]) fun j h1 h2 => ?_
    simp [rowF, List.getD_eq_getElem?_getD, List.getElem?_eq_getElem h1]
theorem OwnR.of_blk {w : World} {b : Nat} {E : TypeId} {cs : List Value} {n sz : Nat} {r : Nat → List Value} (h : Blk w b E cs.toArray) (hr : flatR n r = cs) (hl : ∀ i, i < n → (r i).length = sz) (hz : Nat.blt 0 sz = true) (hn : Nat.ble n 1000000 = true) : OwnR w (some ⟨b, 0, none⟩) n n E sz r := by
  have e : cs = flat sz n (rowF r) := hr.symm.trans (flatR_spec hl)
  refine ⟨Own.of_blk h (Nat.zero_le _) (by rw [e]; simp [flat_length]) (Nat.le_of_ble_eq_true hz) (by have := Nat.le_of_ble_eq_true hn; simp only [maxLen]; omega) fun i j hi hj => ?_, hl⟩
  rw [e]
  have := flat_get (f := rowF r) hi hj
  simp [Array.getD_eq_getD_getElem?, this]
inductive KSub : List Fact → List Fact → Prop
  | nil {K : List Fact} : KSub K []
  | nilOwn {K L : List Fact} {E : TypeId} {sz : Nat} {r : Nat → List Value} : KSub K L → KSub K (.own none 0 0 E sz r :: L)
  | cons {K K1 L : List Fact} {φ : Fact} : Pick K φ K1 → KSub K1 L → KSub K (φ :: L)
  | own {K K1 L : List Fact} {A : Option Addr} {n c : Nat} {E : TypeId} {sz : Nat} {r s : Nat → List Value} : Pick K (.own A n c E sz r) K1 → (∀ i, i < n → r i = s i) → KSub K1 L → KSub K (.own A n c E sz s :: L)
  | ofBlk {K K1 L : List Fact} {b : Nat} {E : TypeId} {cs : List Value} {n sz : Nat} {r : Nat → List Value} : Pick K (.blk b E cs) K1 → flatR n r = cs → (∀ i, i < n → (r i).length = sz) → Nat.blt 0 sz = true → Nat.ble n 1000000 = true → KSub K1 L → KSub K (.own (some ⟨b, 0, none⟩) n n E sz r :: L)
theorem KSub.spec {K L : List Fact} (h : KSub K L) : (∃ R, (feet K).Perm (feet L ++ R)) ∧ ∀ w, (∀ φ ∈ K, φ.holds w) → ∀ φ ∈ L, φ.holds w := by
  induction h with
  | nil => exact ⟨⟨_, List.Perm.refl _⟩, fun w _ φ hφ => by cases hφ⟩
  | @cons K K1 L φ hp _ ih =>
    obtain ⟨⟨R, hR⟩, ih⟩ := ih
    refine ⟨⟨R, ?_⟩, fun w hw ψ hψ => ?_⟩
    · have := hp.perm.flatMap_right Fact.foot
      refine List.Perm.trans this ?_
      show (φ.foot ++ feet K1).Perm (φ.foot ++ feet L ++ R)
      rw [List.append_assoc]
      exact List.Perm.append_left _ hR
    · rcases List.mem_cons.1 hψ with rfl | hψ
      · exact hw _ hp.mem
      · exact ih w (fun χ hχ => hw χ (hp.perm.mem_iff.2 (by simp [hχ]))) ψ hψ
  | @own K K1 L A n c E sz r s hp he _ ih =>
    obtain ⟨⟨R, hR⟩, ih⟩ := ih
    refine ⟨⟨R, ?_⟩, fun w hw ψ hψ => ?_⟩
    · have := hp.perm.flatMap_right Fact.foot
      refine List.Perm.trans this ?_
      show ((Fact.own A n c E sz r).foot ++ feet K1).Perm ((Fact.own A n c E sz s).foot ++ feet L ++ R)
      rw [List.append_assoc, own_foot, own_foot]
      exact List.Perm.append_left _ hR
    · rcases List.mem_cons.1 hψ with rfl | hψ
      · have h0 := hw _ hp.mem
        exact ⟨Own.congr h0.own fun i j hi hj => by simp only [rowF, he i hi], fun i hi => by rw [← he i hi]; exact h0.len i hi⟩
      · exact ih w (fun χ hχ => hw χ (hp.perm.mem_iff.2 (by simp [hχ]))) ψ hψ
  | @nilOwn K L E sz r _ ih =>
    obtain ⟨⟨R, hR⟩, ih⟩ := ih
    refine ⟨⟨R, hR⟩, fun w hw ψ hψ => ?_⟩
    rcases List.mem_cons.1 hψ with rfl | hψ
    · exact ⟨Own.nil _ _ _ _ _, fun i hi => by omega⟩
    · exact ih w hw ψ hψ
  | @ofBlk K K1 L b E cs n sz r hp e1 e2 e3 e4 _ ih =>
    obtain ⟨⟨R, hR⟩, ih⟩ := ih
    refine ⟨⟨R, ?_⟩, fun w hw ψ hψ => ?_⟩
    · have := hp.perm.flatMap_right Fact.foot
      refine List.Perm.trans this ?_
      show ([b] ++ feet K1).Perm ([b] ++ feet L ++ R)
      rw [List.append_assoc]
      exact List.Perm.append_left _ hR
    · rcases List.mem_cons.1 hψ with rfl | hψ
      · exact OwnR.of_blk (hw (.blk b E cs) hp.mem) e1 e2 e3 e4
      · exact ih w (fun χ hχ => hw χ (hp.perm.mem_iff.2 (by simp [hχ]))) ψ hψ
theorem Sat.sub {S : List Nat} {w0 w : World} {K L : List Fact} (h : Sat S w0 K w) (hs : KSub K L) : Sat S w0 L w := by
  obtain ⟨⟨R, hR⟩, hh⟩ := hs.spec
  refine ⟨h.chg, ?_, fun b hb => h.ge b (hR.mem_iff.2 (by simp [hb])), hh w h.holds⟩
  exact (List.nodup_append.1 (hR.nodup_iff.1 h.nd)).1
structure Cx where
  P : Program
  n : Nat
  D : List Deferred
  S : List Nat
  w0 : World
def TW (c : Cx) (code : Code) (Q : Exit → Act → World → Prop) (F : Fr) (K : List Fact) : Prop := ∀ a w, FS c.n c.D F a → Sat c.S c.w0 K w → code.wp c.P Q a w
def TL (c : Cx) (ops : Array Oper) (Q : Exit → Act → World → Prop) (rest : List Oper) (F : Fr) (K : List Fact) : Prop := ∀ a w, FS c.n c.D F a → Sat c.S c.w0 K w → wpList c.P ops Q rest a w
def TQ (c : Cx) (Q : Exit → Act → World → Prop) (e : Exit) (F : Fr) (K : List Fact) : Prop := ∀ a w, FS c.n c.D F a → Sat c.S c.w0 K w → Q e a w
def Pu (c : Cx) (F : Fr) (K : List Fact) (o : Oper) (v : Value) : Prop := ∀ a w, FS c.n c.D F a → Sat c.S c.w0 K w → (execOp a.eval o).run c.P w = .ok (.value v) w
section
variable {c : Cx} {Q : Exit → Act → World → Prop} {F F' : Fr} {K K' : List Fact} {ops : Array Oper} {rest : List Oper}
theorem TW.seq {x y : Code} (h : ∀ Y : Act → World → Prop, (∀ F K, TW c y Q F K → TQ c (fun _ => Y) .normal F K) → TW c x (Exit.then Y Q) F K) : TW c (.seq x y) Q F K := fun a w hF hK =>
  wp_seq (h (y.wp c.P Q) (fun _ _ h => h) a w hF hK)
theorem TQ.thenN {Y : Act → World → Prop} (h : TQ c (fun _ => Y) .normal F K) : TQ c (Exit.then Y Q) .normal F K := h
theorem TQ.thenX {Y : Act → World → Prop} {i : Nat} (h : TQ c Q (.exit i) F K) : TQ c (Exit.then Y Q) (.exit i) F K := h
theorem TQ.thenR {Y : Act → World → Prop} (h : TQ c Q .ret F K) : TQ c (Exit.then Y Q) .ret F K := h
theorem TQ.blkN {i : Nat} (h : TQ c Q .normal F K) : TQ c (Exit.inBlock i Q) .normal F K := h
theorem TQ.blkR {i : Nat} (h : TQ c Q .ret F K) : TQ c (Exit.inBlock i Q) .ret F K := h
theorem TQ.blkX {i : Nat} (h : TQ c Q .normal F K) : TQ c (Exit.inBlock i Q) (.exit i) F K := fun a w hF hK => by
  show (if i = i then Q .normal a w else Q (.exit i) a w)
  rw [if_pos rfl]; exact h a w hF hK
theorem TW.block {i : Nat} {x : Code} (h : TW c x (Exit.inBlock i Q) F K) : TW c (.block i x) Q F K := fun a w hF hK => wp_block (h a w hF hK)
theorem TW.ret (h : TQ c Q .ret F K) : TW c .ret Q F K := fun a w hF hK => wp_ret (h a w hF hK)
theorem TW.exit {i : Nat} (h : TQ c Q (.exit i) F K) : TW c (.exit i) Q F K := fun a w hF hK => wp_exit (h a w hF hK)
theorem TW.skip (h : TQ c Q .normal F K) : TW c .skip Q F K := fun a w hF hK => wp_skip (h a w hF hK)
theorem TW.cond {x : Operand} {s t : Code} {b : Bool} (hx : ev F x = some (.bool b)) (ht : b = true → TW c s Q F K) (hf : b = false → TW c t Q F K) : TW c (.cond x s t) Q F K := fun a w hF hK =>
  wp_cond_split (hF.evl hx) (fun e => ht e a w hF hK) (fun e => hf e a w hF hK)
theorem TW.condT {x : Operand} {s t : Code} {b : Bool} (hx : ev F x = some (.bool b)) (hb : b = true) (h : TW c s Q F K) : TW c (.cond x s t) Q F K := TW.cond hx (fun _ => h) (fun e => by rw [hb] at e; cases e)
theorem TW.condF {x : Operand} {s t : Code} {b : Bool} (hx : ev F x = some (.bool b)) (hb : b = false) (h : TW c t Q F K) : TW c (.cond x s t) Q F K := TW.cond hx (fun e => by rw [hb] at e; cases e) (fun _ => h)
theorem TQ.sub {e : Exit} (hF : fsub F F') (hK : KSub K K') (h : TQ c Q e F' K') : TQ c Q e F K := fun a w hf hk => h a w (hf.sub (fsub_spec hF)) (hk.sub hK)
theorem TW.loop {ι : Type} {x : Code} (FI : ι → Fr) (KI : ι → List Fact) (μ : ι → Nat) (i0 : ι) (hF : fsub F (FI i0)) (hK : KSub K (KI i0))
    (round : ∀ i, ∀ Y : Act → World → Prop, (∀ j F K, μ j < μ i → fsub F (FI j) → KSub K (KI j) → TQ c (fun _ => Y) .normal F K) → TW c x (Exit.then Y Q) (FI i) (KI i)) : TW c (.loop x) Q F K := fun a w hf hk => by
  refine wp_loop_ghost (fun k a w => ∃ i, μ i = k ∧ FS c.n c.D (FI i) a ∧ Sat c.S c.w0 (KI i) w) (μ i0) ⟨i0, rfl, hf.sub (fsub_spec hF), hk.sub hK⟩ ?_
  rintro k a w ⟨i, rfl, hf, hk⟩
  refine round i _ (fun j F K hj hF hK a w h1 h2 => ?_) a w hf hk
  exact ⟨μ j, hj, j, rfl, h1.sub (fsub_spec hF), h2.sub hK⟩
theorem TW.loop1 {ι1 : Type} {x : Code} (FI : ι1 → Fr) (KI : ι1 → List Fact) (p : ι1 → Prop) (μ : ι1 → Nat) (i1 : ι1) (hF : fsub F (FI i1)) (hK : KSub K (KI i1)) (hp : p i1)
    (round : ∀ i1, p i1 → ∀ Y : Act → World → Prop, (∀ j1 F K, p j1 → μ j1 < μ i1 → fsub F (FI j1) → KSub K (KI j1) → TQ c (fun _ => Y) .normal F K) → TW c x (Exit.then Y Q) (FI i1) (KI i1)) : TW c (.loop x) Q F K :=
  TW.loop (ι := { t : ι1 // p t }) (fun t => FI t.1) (fun t => KI t.1) (fun t => μ t.1) ⟨i1, hp⟩ hF hK fun t Y hY => round t.1 t.2 Y fun j1 F K h1 h2 h3 h4 => hY ⟨j1, h1⟩ F K h2 h3 h4
theorem TW.loop2 {ι1 ι2 : Type} {x : Code} (FI : ι1 → ι2 → Fr) (KI : ι1 → ι2 → List Fact) (p : ι1 → ι2 → Prop) (μ : ι1 → ι2 → Nat) (i1 : ι1) (i2 : ι2) (hF : fsub F (FI i1 i2)) (hK : KSub K (KI i1 i2)) (hp : p i1 i2)
    (round : ∀ i1 i2, p i1 i2 → ∀ Y : Act → World → Prop, (∀ j1 j2 F K, p j1 j2 → μ j1 j2 < μ i1 i2 → fsub F (FI j1 j2) → KSub K (KI j1 j2) → TQ c (fun _ => Y) .normal F K) → TW c x (Exit.then Y Q) (FI i1 i2) (KI i1 i2)) : TW c (.loop x) Q F K :=
  TW.loop (ι := { t : ι1 × ι2 // p t.1 t.2 }) (fun t => FI t.1.1 t.1.2) (fun t => KI t.1.1 t.1.2) (fun t => μ t.1.1 t.1.2) ⟨(i1, i2), hp⟩ hF hK fun t Y hY => round t.1.1 t.1.2 t.2 Y fun j1 j2 F K h1 h2 h3 h4 => hY ⟨(j1, j2), h1⟩ F K h2 h3 h4
theorem TW.loop3 {ι1 ι2 ι3 : Type} {x : Code} (FI : ι1 → ι2 → ι3 → Fr) (KI : ι1 → ι2 → ι3 → List Fact) (p : ι1 → ι2 → ι3 → Prop) (μ : ι1 → ι2 → ι3 → Nat) (i1 : ι1) (i2 : ι2) (i3 : ι3) (hF : fsub F (FI i1 i2 i3)) (hK : KSub K (KI i1 i2 i3)) (hp : p i1 i2 i3)
    (round : ∀ i1 i2 i3, p i1 i2 i3 → ∀ Y : Act → World → Prop, (∀ j1 j2 j3 F K, p j1 j2 j3 → μ j1 j2 j3 < μ i1 i2 i3 → fsub F (FI j1 j2 j3) → KSub K (KI j1 j2 j3) → TQ c (fun _ => Y) .normal F K) → TW c x (Exit.then Y Q) (FI i1 i2 i3) (KI i1 i2 i3)) : TW c (.loop x) Q F K :=
  TW.loop (ι := { t : ι1 × ι2 × ι3 // p t.1 t.2.1 t.2.2 }) (fun t => FI t.1.1 t.1.2.1 t.1.2.2) (fun t => KI t.1.1 t.1.2.1 t.1.2.2) (fun t => μ t.1.1 t.1.2.1 t.1.2.2) ⟨(i1, i2, i3), hp⟩ hF hK fun t Y hY => round t.1.1 t.1.2.1 t.1.2.2 t.2 Y fun j1 j2 j3 F K h1 h2 h3 h4 => hY ⟨(j1, j2, j3), h1⟩ F K h2 h3 h4
theorem TW.loop4 {ι1 ι2 ι3 ι4 : Type} {x : Code} (FI : ι1 → ι2 → ι3 → ι4 → Fr) (KI : ι1 → ι2 → ι3 → ι4 → List Fact) (p : ι1 → ι2 → ι3 → ι4 → Prop) (μ : ι1 → ι2 → ι3 → ι4 → Nat) (i1 : ι1) (i2 : ι2) (i3 : ι3) (i4 : ι4) (hF : fsub F (FI i1 i2 i3 i4)) (hK : KSub K (KI i1 i2 i3 i4)) (hp : p i1 i2 i3 i4)
    (round : ∀ i1 i2 i3 i4, p i1 i2 i3 i4 → ∀ Y : Act → World → Prop, (∀ j1 j2 j3 j4 F K, p j1 j2 j3 j4 → μ j1 j2 j3 j4 < μ i1 i2 i3 i4 → fsub F (FI j1 j2 j3 j4) → KSub K (KI j1 j2 j3 j4) → TQ c (fun _ => Y) .normal F K) → TW c x (Exit.then Y Q) (FI i1 i2 i3 i4) (KI i1 i2 i3 i4)) : TW c (.loop x) Q F K :=
  TW.loop (ι := { t : ι1 × ι2 × ι3 × ι4 // p t.1 t.2.1 t.2.2.1 t.2.2.2 }) (fun t => FI t.1.1 t.1.2.1 t.1.2.2.1 t.1.2.2.2) (fun t => KI t.1.1 t.1.2.1 t.1.2.2.1 t.1.2.2.2) (fun t => μ t.1.1 t.1.2.1 t.1.2.2.1 t.1.2.2.2) ⟨(i1, i2, i3, i4), hp⟩ hF hK fun t Y hY => round t.1.1 t.1.2.1 t.1.2.2.1 t.1.2.2.2 t.2 Y fun j1 j2 j3 j4 F K h1 h2 h3 h4 => hY ⟨(j1, j2, j3, j4), h1⟩ F K h2 h3 h4
theorem TW.loop6 {ι1 ι2 ι3 ι4 ι5 ι6 : Type} {x : Code} (FI : ι1 → ι2 → ι3 → ι4 → ι5 → ι6 → Fr) (KI : ι1 → ι2 → ι3 → ι4 → ι5 → ι6 → List Fact) (p : ι1 → ι2 → ι3 → ι4 → ι5 → ι6 → Prop) (μ : ι1 → ι2 → ι3 → ι4 → ι5 → ι6 → Nat) (i1 : ι1) (i2 : ι2) (i3 : ι3) (i4 : ι4) (i5 : ι5) (i6 : ι6) (hF : fsub F (FI i1 i2 i3 i4 i5 i6)) (hK : KSub K (KI i1 i2 i3 i4 i5 i6)) (hp : p i1 i2 i3 i4 i5 i6)
    (round : ∀ i1 i2 i3 i4 i5 i6, p i1 i2 i3 i4 i5 i6 → ∀ Y : Act → World → Prop, (∀ j1 j2 j3 j4 j5 j6 F K, p j1 j2 j3 j4 j5 j6 → μ j1 j2 j3 j4 j5 j6 < μ i1 i2 i3 i4 i5 i6 → fsub F (FI j1 j2 j3 j4 j5 j6) → KSub K (KI j1 j2 j3 j4 j5 j6) → TQ c (fun _ => Y) .normal F K) → TW c x (Exit.then Y Q) (FI i1 i2 i3 i4 i5 i6) (KI i1 i2 i3 i4 i5 i6)) : TW c (.loop x) Q F K :=
  TW.loop (ι := { t : ι1 × ι2 × ι3 × ι4 × ι5 × ι6 // p t.1 t.2.1 t.2.2.1 t.2.2.2.1 t.2.2.2.2.1 t.2.2.2.2.2 }) (fun t => FI t.1.1 t.1.2.1 t.1.2.2.1 t.1.2.2.2.1 t.1.2.2.2.2.1 t.1.2.2.2.2.2) (fun t => KI t.1.1 t.1.2.1 t.1.2.2.1 t.1.2.2.2.1 t.1.2.2.2.2.1 t.1.2.2.2.2.2) (fun t => μ t.1.1 t.1.2.1 t.1.2.2.1 t.1.2.2.2.1 t.1.2.2.2.2.1 t.1.2.2.2.2.2) ⟨(i1, i2, i3, i4, i5, i6), hp⟩ hF hK fun t Y hY => round t.1.1 t.1.2.1 t.1.2.2.1 t.1.2.2.2.1 t.1.2.2.2.2.1 t.1.2.2.2.2.2 t.2 Y fun j1 j2 j3 j4 j5 j6 F K h1 h2 h3 h4 => hY ⟨(j1, j2, j3, j4, j5, j6), h1⟩ F K h2 h3 h4
theorem TW.region {id : Nat} {l : List Oper} (h : TL c l.toArray Q l F K) : TW c (.region id l.toArray false) Q F K := fun a w hF hK => wp_region_lit (h a w hF hK)
theorem TL.nil (h : TQ c Q .normal F K) : TL c ops Q [] F K := fun a w hF hK => wpList_nil (h a w hF hK)
theorem wpList_pure {P : Program} {o : Oper} {v : Value} {a : Act} {w : World} (hg : o.guard = none) (hr : (execOp a.eval o).run P w = .ok (.value v) w) (h : wpList P ops Q rest (a.put o.dst v) w) : wpList P ops Q (o :: rest) a w :=
  wpList_plain hg fun _ hK => by unfold Oper.wp; rw [hr]; exact hK _ _ h
theorem TL.pure {d : Nat} {op : Op} {ty : TypeId} {pos : String} {af : Array Edge} {v : Value} (hp : Pu c F K ⟨some d, op, ty, pos, af, none⟩ v) (hd : Nat.blt d c.n = true) (h : TL c ops Q rest ((d, v) :: F) K) : TL c ops Q (⟨some d, op, ty, pos, af, none⟩ :: rest) F K := fun a w hF hK =>
  wpList_pure rfl (hp a w hF hK) (h _ w (hF.put hd v) hK)
end
end Go.Proofs.YtfgnbkegdjkdmaaGreatDoor
namespace Go.Proofs.YtfgnbkegdjkdmaaGreatDoor
set_option linter.all false
set_option linter.unusedVariables false
set_option linter.unusedSimpArgs false
open Go.RowKit
def elA (A : Option Addr) (k sz j : Nat) : Option Addr := A.map fun a => a.add (k * sz + j)
theorem add_plain (b o n : Nat) : (⟨b, o, none⟩ : Addr).add n = ⟨b, o + n, none⟩ := by
  unfold Addr.add; split
  · rename_i h; rw [h]; rfl
  · rfl
theorem add_add (p : Addr) (m n : Nat) : (p.add m).add n = p.add (m + n) := by
  unfold Addr.add
  by_cases h1 : m = 0
  · simp [h1]
  · by_cases h2 : n = 0
    · simp [h1, h2]
    · simp [h1, h2, Nat.add_assoc]
theorem elA_add (A : Option Addr) (k sz j o : Nat) : (elA A k sz j).map (·.add o) = elA A k sz (j + o) := by
  cases A with
  | none => rfl
  | some p => simp [elA, add_add, Nat.add_assoc]
inductive SubL : List Value → Nat → Nat → List Value → Prop
  | nil {xs : List Value} : SubL xs 0 0 []
  | take {x : Value} {xs vs : List Value} {m : Nat} : SubL xs 0 m vs → SubL (x :: xs) 0 (m + 1) (x :: vs)
  | drop {x : Value} {xs vs : List Value} {j m : Nat} : SubL xs j m vs → SubL (x :: xs) (j + 1) m vs
theorem SubL.spec {xs vs : List Value} {j m : Nat} (h : SubL xs j m vs) : vs.length = m ∧ ∀ q v, vs[q]? = some v → xs[j + q]? = some v := by
  induction h with
  | nil => exact ⟨rfl, fun q v hv => by simp at hv⟩
  | take h ih =>
    refine ⟨by simp [ih.1], fun q v hv => ?_⟩
    cases q with
    | zero => simpa using hv
    | succ q => have := ih.2 q v (by simpa using hv); simpa using this
  | @drop x xs vs j m h ih =>
    refine ⟨ih.1, fun q v hv => ?_⟩
    rw [show j + 1 + q = (j + q) + 1 by omega, List.getElem?_cons_succ]
    exact ih.2 q v hv
inductive PutL : List Value → Nat → List Value → List Value → Prop
  | nil {xs : List Value} : PutL xs 0 [] xs
  | put {x y : Value} {xs ys zs : List Value} : PutL xs 0 ys zs → PutL (x :: xs) 0 (y :: ys) (y :: zs)
  | pass {x : Value} {xs ys zs : List Value} {j : Nat} : PutL xs j ys zs → PutL (x :: xs) (j + 1) ys (x :: zs)
def Sc (P : Program) (T : TypeId) : Prop := ∀ w, (isAgg T).run P w = .ok false w
def Ag (P : Program) (T : TypeId) (m : Nat) : Prop := (∀ w, (isAgg T).run P w = .ok true w) ∧ ∀ w, (sizeOf T).run P w = .ok m w
def FieldAt (P : Program) (T : TypeId) (i o : Nat) : Prop := ∀ w a, (Instr.fieldAt T (.pointer (some a)) i).run P w = .ok (.pointer (some ⟨a.block, a.off + o, none⟩)) w ∨ a.spot.isSome = true
def Cells (c : Cx) (K : List Fact) (q : Option Addr) (vs : List Value) : Prop := ∀ w, Sat c.S c.w0 K w → ∃ b off, q = some ⟨b, off, none⟩ ∧ ∀ j v, vs[j]? = some v → w.cell? ⟨b, off + j, none⟩ = some v
section
variable {c : Cx} {F : Fr} {K K' : List Fact} {d : Option Tmp} {ty : TypeId} {pos : String} {af : Array Edge} {g : Option (Nat × Bool)}
theorem Cells.blk {b off m : Nat} {t : TypeId} {cs vs : List Value} (hp : Pick K (.blk b t cs) K') (hs : SubL cs off m vs) : Cells c K (some ⟨b, off, none⟩) vs := fun w hK =>
  ⟨b, off, rfl, fun j v hv => by
    have h : Blk w b t cs.toArray := (hK.holds _ hp.mem)
    rw [h.cell]
    simpa using hs.spec.2 j v hv⟩
theorem RdR.cells {w : World} {sz n k j m : Nat} {A : Option Addr} {r : Nat → List Value} {vs : List Value} (h : RdR w sz A n r) (hk : k < n) (hs : SubL (r k) j m vs) : ∃ b off, elA A k sz j = some ⟨b, off, none⟩ ∧ b < w.heap.size ∧ A.map (·.block) = some b ∧ ∀ q v, vs[q]? = some v → w.cell? ⟨b, off + q, none⟩ = some v := by
  obtain ⟨b, o, rfl, hb, hA⟩ := h.rd.atn hk (Below.refl _ _)
  refine ⟨b, o + (k * sz + j), by simp [elA, add_plain], hb, rfl, fun q v hv => ?_⟩
  have h1 := hs.spec.2 q v hv
  have h2 : j + q < sz := by rw [← h.len k hk]; exact (List.getElem?_eq_some_iff.1 h1).1
  have h3 := hA (j + q) h2
  rw [show o + (k * sz + j) + q = o + k * sz + (j + q) by omega, h3]
  simp [rowF, List.getD_eq_getElem?_getD, h1]
theorem Chg.cell {S : List Nat} {w0 w : World} (h : Chg S w0 w) {b o : Nat} (hb : b < w0.heap.size) (hS : b ∉ S) : w.cell? ⟨b, o, none⟩ = w0.cell? ⟨b, o, none⟩ := World.cell?_of_block (w := w0) (h.block b hb hS)
def Apart (S : List Nat) (A : Option Addr) : Prop := ∀ b, A.map (·.block) = some b → b ∉ S
theorem Apart.nil {A : Option Addr} : Apart [] A := fun _ _ => by simp
theorem Cells.old {sz n k j m : Nat} {A : Option Addr} {r : Nat → List Value} {vs : List Value} (h : RdR c.w0 sz A n r) (hS : Apart c.S A) (hk : k < n) (hs : SubL (r k) j m vs) : Cells c K (elA A k sz j) vs := fun w hK => by
  obtain ⟨b, off, h1, h2, h3, h4⟩ := h.cells hk hs
  exact ⟨b, off, h1, fun q v hv => by rw [hK.chg.cell h2 (hS b h3)]; exact h4 q v hv⟩
theorem OwnR.rdr {w : World} {A : Option Addr} {n cp : Nat} {E : TypeId} {sz : Nat} {r : Nat → List Value} (h : OwnR w A n cp E sz r) : RdR w sz A n r := by
  obtain ⟨A', c', e, _, _, h'⟩ := h.own.form
  injection e with e1 e2 e3
  subst e1
  exact ⟨h', h.len⟩
theorem Cells.own {A : Option Addr} {n cp k j m : Nat} {E : TypeId} {sz : Nat} {r : Nat → List Value} {vs : List Value} (hp : Pick K (.own A n cp E sz r) K') (hk : k < n) (hs : SubL (r k) j m vs) : Cells c K (elA A k sz j) vs := fun w hK => by
  obtain ⟨b, off, h1, _, _, h4⟩ := (OwnR.rdr (hK.holds _ hp.mem)).cells hk hs
  exact ⟨b, off, h1, h4⟩
theorem Pu.move {x : Operand} {v : Value} (hx : ev F x = some v) : Pu c F K ⟨d, .move x, ty, pos, af, g⟩ v := fun a w hF _ => by
  show Result.ok (Next.value (a.eval x)) w = _; rw [hF.evl hx]
theorem Pu.assign {x : Operand} {v : Value} (hx : ev F x = some v) : Pu c F K ⟨d, .assign x, ty, pos, af, g⟩ v := fun a w hF _ => by
  show Result.ok (Next.value (a.eval x)) w = _; rw [hF.evl hx]
def notNil : Value → Bool
  | .pointer (some _) => true
  | .func (.func _) _ _ => true
  | _ => false
theorem Pu.nil {x : Operand} {v : Value} (hx : ev F x = some v) (hv : notNil v = true) : Pu c F K ⟨d, .nilCheck x, ty, pos, af, g⟩ v := fun a w hF _ => by
  simp only [execOp, hF.evl hx]
  match v, hv with
  | .pointer (some _), _ => rfl
  | .func (.func _) _ _, _ => rfl
theorem Pu.extract {x : Operand} {vs : Array Value} {i : Nat} {v : Value} (hx : ev F x = some (.tuple vs)) (hv : vs[i]? = some v) : Pu c F K ⟨d, .extract x i, ty, pos, af, g⟩ v := fun a w hF _ => by
  simp only [execOp, hF.evl hx, Instr.extract, hv, Sem.run_bind, Sem.run_pure, Result.andThen_ok]
theorem Pu.func {fn : Fn} {xs ys : List Operand} {us vs : List Value} (hx : evs F xs = some us) (hy : evs F ys = some vs) : Pu c F K ⟨d, .makeFunc fn xs.toArray ys.toArray, ty, pos, af, g⟩ (.func fn us.toArray vs.toArray) := fun a w hF _ => by
  simp only [execOp, Instr.makeFunc, List.map_toArray, hF.evsl hx, hF.evsl hy, Sem.run_bind, Sem.run_pure, Result.andThen_ok]
theorem Pu.bin {op : BinOp} {x y : Operand} {xt yt : TypeId} {u v r : Value} (hx : ev F x = some u) (hy : ev F y = some v) (hr : ∀ w, (do eqGuard op xt x y u v; binOp op xt u v : Sem Value).run c.P w = .ok r w) : Pu c F K ⟨d, .binOp op xt x y yt, ty, pos, af, g⟩ r := fun a w hF _ => by
  simp only [execOp, hF.evl hx, hF.evl hy]
  rw [Sem.run_bind, hr]
  rfl
section
variable {x y : Operand} {xt yt : TypeId} {i j : Int} {k : IntKind}
theorem Pu.arith {op : BinOp} {n : Int} (hx : ev F x = some (.int k i)) (hy : ev F y = some (.int k j)) (hop : ∀ w, (Op.intArith op k i j).run c.P w = .ok (.int k n) w) (h0 : match op with | .add | .sub | .mul => True | _ => False) : Pu c F K ⟨d, .binOp op xt x y yt, ty, pos, af, g⟩ (.int k n) :=
  Pu.bin hx hy fun w => by
    cases op <;> simp only at h0 <;> simp [eqGuard, binOp, hop]
theorem Pu.add (hx : ev F x = some (.int .i64 i)) (hy : ev F y = some (.int .i64 j)) (h : -9223372036854775808 ≤ i + j ∧ i + j ≤ 9223372036854775807) : Pu c F K ⟨d, .binOp .add xt x y yt, ty, pos, af, g⟩ (.int .i64 (i + j)) :=
  Pu.arith hx hy (fun w => by rw [Op.intArith, IntWalk.i64_in _ h]; rfl) trivial
theorem Pu.sub (hx : ev F x = some (.int .i64 i)) (hy : ev F y = some (.int .i64 j)) (h : -9223372036854775808 ≤ i - j ∧ i - j ≤ 9223372036854775807) : Pu c F K ⟨d, .binOp .sub xt x y yt, ty, pos, af, g⟩ (.int .i64 (i - j)) :=
  Pu.arith hx hy (fun w => by rw [Op.intArith, IntWalk.i64_in _ h]; rfl) trivial
theorem Pu.mul (hx : ev F x = some (.int .i64 i)) (hy : ev F y = some (.int .i64 j)) (h : -9223372036854775808 ≤ i * j ∧ i * j ≤ 9223372036854775807) : Pu c F K ⟨d, .binOp .mul xt x y yt, ty, pos, af, g⟩ (.int .i64 (i * j)) :=
  Pu.arith hx hy (fun w => by rw [Op.intArith, IntWalk.i64_in _ h]; rfl) trivial
theorem Pu.lss (hx : ev F x = some (.int k i)) (hy : ev F y = some (.int k j)) : Pu c F K ⟨d, .binOp .lss xt x y yt, ty, pos, af, g⟩ (.bool (decide (i < j))) := Pu.bin hx hy fun w => by simp [eqGuard, binOp, Op.intCmp]
theorem Pu.leq (hx : ev F x = some (.int k i)) (hy : ev F y = some (.int k j)) : Pu c F K ⟨d, .binOp .leq xt x y yt, ty, pos, af, g⟩ (.bool (decide (i ≤ j))) := Pu.bin hx hy fun w => by simp [eqGuard, binOp, Op.intCmp]
theorem Pu.gtr (hx : ev F x = some (.int k i)) (hy : ev F y = some (.int k j)) : Pu c F K ⟨d, .binOp .gtr xt x y yt, ty, pos, af, g⟩ (.bool (decide (j < i))) := Pu.bin hx hy fun w => by simp [eqGuard, binOp, Op.intCmp]
theorem Pu.geq (hx : ev F x = some (.int k i)) (hy : ev F y = some (.int k j)) : Pu c F K ⟨d, .binOp .geq xt x y yt, ty, pos, af, g⟩ (.bool (decide (j ≤ i))) := Pu.bin hx hy fun w => by simp [eqGuard, binOp, Op.intCmp]
theorem Pu.eql (hx : ev F x = some (.int k i)) (hy : ev F y = some (.int k j)) : Pu c F K ⟨d, .binOp .eql xt x y yt, ty, pos, af, g⟩ (.bool (decide (i = j))) := Pu.bin hx hy fun w => by
  simp [eqGuard, binOp, Op.intCmp]; rfl
theorem Pu.neq (hx : ev F x = some (.int k i)) (hy : ev F y = some (.int k j)) : Pu c F K ⟨d, .binOp .neq xt x y yt, ty, pos, af, g⟩ (.bool (!decide (i = j))) := Pu.bin hx hy fun w => by
  simp [eqGuard, binOp, Op.intCmp]; rfl
theorem Pu.not {b : Bool} (hx : ev F x = some (.bool b)) : Pu c F K ⟨d, .unOp .not xt x, ty, pos, af, g⟩ (.bool !b) := fun a w hF _ => by
  simp [execOp, hF.evl hx, Op.unary]
theorem Pu.neg (hx : ev F x = some (.int .i64 i)) (h : -9223372036854775807 ≤ i ∧ i ≤ 9223372036854775807) : Pu c F K ⟨d, .unOp .neg xt x, ty, pos, af, g⟩ (.int .i64 (-i)) := fun a w hF _ => by
  have h9 : IntKind.i64.wrap (0 - i) = -i := by rw [IntWalk.i64_in _ (by omega)]; omega
  simp [execOp, hF.evl hx, Op.unary, Op.intArith]
  rw [Int.zero_sub] at h9
  exact h9
end
theorem Pu.fieldAt {x : Operand} {T i o b off : Nat} (hx : ev F x = some (.pointer (some ⟨b, off, none⟩))) (hf : FieldAt c.P T i o) : Pu c F K ⟨d, .fieldAddr T x i, ty, pos, af, g⟩ (.pointer (some ⟨b, off + o, none⟩)) := fun a w hF _ => by
  rcases hf w ⟨b, off, none⟩ with h | h
  · simp only [execOp, hF.evl hx, Sem.run_bind, h, Result.andThen_ok, Sem.run_pure]
  · cases h
theorem Pu.fieldEl {x : Operand} {T i o k sz j : Nat} {A : Option Addr} {vs : List Value} (hx : ev F x = some (.pointer (elA A k sz j))) (hf : FieldAt c.P T i o) (hq : Cells c K (elA A k sz j) vs) : Pu c F K ⟨d, .fieldAddr T x i, ty, pos, af, g⟩ (.pointer (elA A k sz (j + o))) := fun a w hF hK => by
  obtain ⟨b, off, h1, _⟩ := hq w hK
  have h2 : elA A k sz (j + o) = some ⟨b, off + o, none⟩ := by
    rw [← elA_add, h1, Option.map_some, add_plain]
  rcases hf w ⟨b, off, none⟩ with h | h
  · rw [h1] at hx
    rw [h2]
    simp only [execOp, hF.evl hx, Sem.run_bind, h, Result.andThen_ok, Sem.run_pure]
  · cases h
theorem Pu.load {x : Operand} {T : TypeId} {q : Option Addr} {v : Value} (hx : ev F x = some (.pointer q)) (hT : Sc c.P T) (hq : Cells c K q [v]) : Pu c F K ⟨d, .load T x, ty, pos, af, g⟩ v := fun a w hF hK => by
  obtain ⟨b, off, rfl, h⟩ := hq w hK
  have h1 := h 0 v rfl
  rw [Nat.add_zero] at h1
  simp only [execOp, hF.evl hx, Instr.loadAt, Instr.sureAddr, loadVar, Sem.run_bind, Sem.run_pure, Result.andThen_ok, hT w, Sem.run_ite, Bool.false_eq_true, if_false, run_load, h1]
theorem Pu.loads {x : Operand} {T : TypeId} {m : Nat} {q : Option Addr} {vs : List Value} (hx : ev F x = some (.pointer q)) (hT : Ag c.P T m) (hq : Cells c K q vs) (hm : vs.length = m) : Pu c F K ⟨d, .load T x, ty, pos, af, g⟩ (.agg vs.toArray) := fun a w hF hK => by
  obtain ⟨b, off, rfl, h⟩ := hq w hK
  have h1 := run_loadCells_list (P := c.P) (w := w) ⟨b, off, none⟩ vs (fun j v hv => by
    have := h j v hv
    unfold Addr.add
    split
    · rename_i h0; rw [h0, Nat.add_zero] at this; exact this
    · exact this)
  rw [hm] at h1
  simp only [execOp, hF.evl hx, Instr.loadAt, Instr.sureAddr, loadVar, Sem.run_bind, Sem.run_pure, Result.andThen_ok, hT.1 w, hT.2 w, Sem.run_ite, if_true, h1]
end
end Go.Proofs.YtfgnbkegdjkdmaaGreatDoor
namespace Go.Proofs.YtfgnbkegdjkdmaaGreatDoor
set_option linter.all false
set_option linter.unusedVariables false
set_option linter.unusedSimpArgs false
open Go.RowKit
def Zr (P : Program) (T : TypeId) (zs : List Value) : Prop := ∃ z : Value, z.cells = zs.toArray ∧ ∀ w, (zeroValue T).run P w = .ok z w
def Sz (P : Program) (T : TypeId) (m : Nat) : Prop := ∀ w, (sizeOf T).run P w = .ok m w
def evp (F : Fr) : List (Nat × Operand) → Option (List (Nat × Value))
  | [] => some []
  | p :: xs => match ev F p.2 with
    | some v => match evp F xs with
      | some vs => some ((p.1, v) :: vs)
      | none => none
    | none => none
theorem FS.evpl {n : Nat} {D : List Deferred} {F : Fr} {a : Act} (h : FS n D F a) : ∀ {xs : List (Nat × Operand)} {vs : List (Nat × Value)}, evp F xs = some vs → xs.map (fun (i, x) => (i, a.eval x)) = vs
  | [], vs, hx => by cases hx; rfl
  | p :: xs, vs, hx => by
    simp only [evp] at hx
    cases h1 : ev F p.2 with
    | none => rw [h1] at hx; cases hx
    | some v =>
      rw [h1] at hx
      cases h2 : evp F xs with
      | none => rw [h2] at hx; cases hx
      | some us =>
        rw [h2] at hx
        injection hx with hx
        subst hx
        have h3 := FS.evpl h h2
        obtain ⟨i, x⟩ := p
        rw [List.map_cons, h3]
        show (i, a.eval x) :: us = (i, v) :: us
        rw [h.evl h1]
def setAll : List Value → Nat → List Value → List Value
  | xs, _, [] => xs
  | xs, j, y :: ys => setAll (xs.set j y) (j + 1) ys
theorem setAll_cons (x : Value) : ∀ (ys xs : List Value) (j : Nat), setAll (x :: xs) (j + 1) ys = x :: setAll xs j ys
  | [], _, _ => rfl
  | y :: ys, xs, j => by rw [setAll, List.set_cons_succ, setAll_cons x ys, setAll]
theorem PutL.spec {xs ys zs : List Value} {j : Nat} (h : PutL xs j ys zs) : zs = setAll xs j ys ∧ j + ys.length ≤ xs.length := by
  induction h with
  | nil => exact ⟨rfl, by simp⟩
  | put h ih => obtain ⟨rfl, h2⟩ := ih; exact ⟨by rw [setAll, List.set_cons_zero, setAll_cons], by simp at h2 ⊢; omega⟩
  | pass h ih => obtain ⟨rfl, h2⟩ := ih; exact ⟨by rw [setAll_cons], by simp at h2 ⊢; omega⟩
theorem run_storeCells_blk {P : Program} {b : Nat} {t : TypeId} : ∀ (vs cs : List Value) (off i : Nat) (w : World), Blk w b t cs.toArray → off + i + vs.length ≤ cs.length → vs.all Value.oneCell' = true →
    ∃ w', (storeCells ⟨b, off, none⟩ vs i).run P w = .ok () w' ∧ Blk w' b t (setAll cs (off + i) vs).toArray ∧ Chg [b] w w'
  | [], cs, off, i, w, h, _, _ => ⟨w, rfl, h, Chg.refl _ _⟩
  | v :: vs, cs, off, i, w, h, hl, ho => by
    simp only [List.all_cons, Bool.and_eq_true, List.length_cons] at ho hl
    have ha : (⟨b, off, none⟩ : Addr).add i = ⟨b, off + i, none⟩ := by
      unfold Addr.add; split
      · rename_i h0; rw [h0]; rfl
      · rfl
    have hc : w.cell? ⟨b, off + i, none⟩ = some (cs[off + i]'(by omega)) := by rw [h.cell]; simp
    have hs : Blk (w.setCell ⟨b, off + i, none⟩ v) b t (cs.set (off + i) v).toArray := by have := h.set_ (off + i) v; simpa using this
    obtain ⟨w', h1, h2, h3⟩ := run_storeCells_blk vs (cs.set (off + i) v) off (i + 1) _ hs (by simp; omega) ho.2
    refine ⟨w', ?_, h2, (Chg.setCell w ⟨b, off + i, none⟩ v).trans h3⟩
    simp only [storeCells, Sem.run_bind]
    rw [ha, run_store P w ⟨b, off + i, none⟩ v .plain ho.1, hc]
    simp only [h.frozen, Bool.false_eq_true, if_false, Result.andThen_ok]
    exact h1
def fput (F : Fr) (d : Option Tmp) (v : Value) : Fr := match d with
  | some t => (t, v) :: F
  | none => F
def dok (d : Option Tmp) (n : Nat) : Bool := match d with
  | some t => Nat.blt t n
  | none => true
theorem FS.fput {n : Nat} {D : List Deferred} {F : Fr} {a : Act} (h : FS n D F a) {d : Option Tmp} (hd : dok d n = true) (v : Value) : FS n D (fput F d v) (a.put d v) := by
  cases d with
  | none => exact h
  | some t => exact h.put hd v
def catR (n : Nat) (r g : Nat → List Value) : Nat → List Value := fun i => if i < n then r i else g (i - n)
def Src (c : Cx) (K : List Fact) (sz : Nat) (A : Option Addr) (m : Nat) (g : Nat → List Value) : Prop := ∀ w, Sat c.S c.w0 K w → RdR w sz A m g
def CallsK (P : Program) (f : FuncId) (args : Array Value) (M : List Fact) (w : World) (X : Type) (val : X → Value) (L : X → List Fact) : Prop := Calls P f args w fun e w' => ∃ x : X, e = .returned (val x) ∧ Sat (feet M) w (L x) w'
section
variable {c : Cx} {Q : Exit → Act → World → Prop} {F F' : Fr} {K K' : List Fact} {ops : Array Oper} {rest : List Oper} {ty : TypeId} {pos : String} {af : Array Edge} {g : Option (Nat × Bool)}
theorem wpList_eff {P : Program} {o : Oper} {v : Value} {a : Act} {w w' : World} (hg : o.guard = none) (hr : (execOp a.eval o).run P w = .ok (.value v) w') (h : wpList P ops Q rest (a.put o.dst v) w') : wpList P ops Q (o :: rest) a w :=
  wpList_plain hg fun _ hK => by unfold Oper.wp; rw [hr]; exact hK _ _ h
theorem wpList_skip {P : Program} {o : Oper} {a : Act} {w w' : World} (hg : o.guard = none) (hr : (execOp a.eval o).run P w = .ok .skip w') (h : wpList P ops Q rest (a.put o.dst undef) w') : wpList P ops Q (o :: rest) a w :=
  wpList_plain hg fun _ hK => by unfold Oper.wp; rw [hr]; exact hK _ _ h
def Mk (c : Cx) (F : Fr) (K : List Fact) (o : Oper) (v : Nat → Value) (t : TypeId) (cs : List Value) : Prop := ∀ a w, FS c.n c.D F a → Sat c.S c.w0 K w → (execOp a.eval o).run c.P w = .ok (.value (v w.heap.size)) (w.alloc (.cells cs.toArray t))
theorem Mk.alloc {d : Option Tmp} {T : TypeId} {zs : List Value} (hT : Zr c.P T zs) : Mk c F K ⟨d, .alloc T, ty, pos, af, g⟩ (fun b => .pointer (some ⟨b, 0, none⟩)) T zs := fun a w _ _ => by
  obtain ⟨z, h1, h2⟩ := hT
  simp only [execOp, Instr.alloc, newVar, newRow, Sem.run_bind, Sem.run_pure, h2 w, Result.andThen_ok, run_newObj, h1]
  rfl
theorem Mk.box {d : Option Tmp} {T : TypeId} {x : Operand} {v : Value} {vs : List Value} (hx : ev F x = some v) (hv : v.cells = vs.toArray) : Mk c F K ⟨d, .box T x, ty, pos, af, g⟩ (fun b => .pointer (some ⟨b, 0, none⟩)) T vs := fun a w hF _ => by
  simp only [execOp, Instr.box, newVar, newRow, Sem.run_bind, Sem.run_pure, Result.andThen_ok, run_newObj, hF.evl hx, hv]
  rfl
theorem Mk.bslice {d : Option Tmp} {T E : TypeId} {len : Nat} {ps : List (Nat × Operand)} {vs : List (Nat × Value)} {cs : List Value} (hx : evp F ps = some vs) (hr : ∀ w, (Instr.buildSlice T len vs.toArray).run c.P w = .ok (.slice (some ⟨w.heap.size, 0, none⟩) len len) (w.alloc (.cells cs.toArray E))) :
    Mk c F K ⟨d, .buildSlice T len ps.toArray, ty, pos, af, g⟩ (fun b => .slice (some ⟨b, 0, none⟩) len len) E cs := fun a w hF _ => by
  have := hF.evpl hx
  simp only [execOp, List.map_toArray, this, Sem.run_bind, hr w, Result.andThen_ok, Sem.run_pure]
theorem TL.mk {d : Option Tmp} {op : Op} {v : Nat → Value} {t : TypeId} {cs : List Value} (hm : Mk c F K ⟨d, op, ty, pos, af, none⟩ v t cs) (hd : dok d c.n = true) (h : ∀ b, TL c ops Q rest (fput F d (v b)) (.blk b t cs :: K)) : TL c ops Q (⟨d, op, ty, pos, af, none⟩ :: rest) F K := fun a w hF hK =>
  wpList_eff rfl (hm a w hF hK) (h _ _ _ (hF.fput hd _) (hK.new t cs))
theorem Pu.build {d : Option Tmp} {T : TypeId} {ps : List (Nat × Operand)} {vs : List (Nat × Value)} {v : Value} (hx : evp F ps = some vs) (hr : ∀ w, (Instr.build T vs.toArray).run c.P w = .ok v w) : Pu c F K ⟨d, .build T ps.toArray, ty, pos, af, g⟩ v := fun a w hF _ => by
  have := hF.evpl hx
  simp only [execOp, List.map_toArray, this, Sem.run_bind, hr w, Result.andThen_ok, Sem.run_pure]
theorem Pu.conv {d : Option Tmp} {S T : TypeId} {x : Operand} {u v : Value} (hx : ev F x = some u) (hr : ∀ w, (convert S T u).run c.P w = .ok v w) : Pu c F K ⟨d, .convert S T x, ty, pos, af, g⟩ v := fun a w hF _ => by
  simp only [execOp, hF.evl hx, Sem.run_bind, hr w, Result.andThen_ok, Sem.run_pure]
theorem Pu.len {d : Option Tmp} {t : TypeId} {x : Operand} {A : Option Addr} {n cp : Nat} {E : TypeId} (ht : c.P.underlying t = some (.slice E)) (hx : ev F x = some (.slice A n cp)) : Pu c F K ⟨d, .call { callee := .builtin .len, args := #[x], argTypes := #[t] }, ty, pos, af, g⟩ (.int .i64 n) := fun a w hF _ => by
  simp [execOp, resolve, invoke, builtin, Builtin.len_, hF.evl hx, run_underlying ht, goInt]
theorem Pu.elem {d : Option Tmp} {t E : TypeId} {sz bytes : Nat} {x y : Operand} {A : Option Addr} {n cp k : Nat} {kk : IntKind} {i : Int} (T : ElemT c.P t E sz bytes) (hx : ev F x = some (.slice A n cp)) (hy : ev F y = some (.int kk i)) (hk : i.toNat = k) (h0 : 0 ≤ i) (h1 : i < n) {vs : List Value} (hA : Cells c K (elA A k sz 0) vs) :
    Pu c F K ⟨d, .indexAddr t x y, ty, pos, af, g⟩ (.pointer (elA A k sz 0)) := fun a w hF hK => by
  obtain ⟨b, off, h2, _⟩ := hA w hK
  cases A with
  | none => cases h2
  | some p =>
    obtain ⟨i', z, hi, hz, hs, hb, hzs⟩ := T.hi
    have h4 : (sizeOf E).run c.P w = .ok sz w := by simp [sizeOf, typeInfo, hi, hs]
    simp [execOp, hF.evl hx, hF.evl hy, Instr.indexAt, asIntOf, run_underlying T.ht, h0, h1, h4, elA, hk]
theorem TL.store {x y : Operand} {T : TypeId} {b off m : Nat} {v : Value} {vs cs cs' : List Value} {t : TypeId} (hx : ev F x = some (.pointer (some ⟨b, off, none⟩))) (hy : ev F y = some v) (hv : v.cells = vs.toArray) (h1 : vs.all Value.oneCell' = true) (hT : Sz c.P T m) (hm : vs.length = m)
    (hp : Pick K (.blk b t cs) K') (hput : PutL cs off vs cs') (h : TL c ops Q rest F (.blk b t cs' :: K')) : TL c ops Q (⟨none, .store T x y, ty, pos, af, none⟩ :: rest) F K := fun a w hF hK => by
  have hs := hK.pick hp
  have hb : Blk w b t cs.toArray := hs.holds (.blk b t cs) (by simp)
  obtain ⟨e, hl⟩ := hput.spec
  subst e
  obtain ⟨w', r1, r2, r3⟩ := run_storeCells_blk (P := c.P) vs cs off 0 w hb (by omega) h1
  refine wpList_skip rfl (w' := w') ?_ (h a w' hF (hs.turn r3 (by simp [Fact.foot]) (fun q hq => .inl hq) r2))
  simp [execOp, hF.evl hx, hF.evl hy, Instr.storeAt, Instr.sureAddr, storeVar, hT w, hv, hm, r1]
theorem Src.own {A : Option Addr} {n cp : Nat} {E : TypeId} {sz : Nat} {r : Nat → List Value} (hp : Pick K (.own A n cp E sz r) K') : Src c K sz A n r := fun w hK => OwnR.rdr (hK.holds _ hp.mem)
theorem Src.blk1 {b : Nat} {t : TypeId} {cs : List Value} {sz : Nat} (hp : Pick K (.blk b t cs) K') (hs : cs.length = sz) : Src c K sz (some ⟨b, 0, none⟩) 1 (fun _ => cs) := fun w hK => by
  have hb : Blk w b t cs.toArray := hK.holds (.blk b t cs) hp.mem
  refine ⟨Rd.of_blk hb (by simpa using hs) fun i j hi hj => ?_, fun i hi => hs⟩
  obtain rfl : i = 0 := by omega
  simp [rowF, Array.getD_eq_getD_getElem?, List.getD_eq_getElem?_getD]
theorem TL.app {d : Option Tmp} {x y : Operand} {t E : TypeId} {sz bytes : Nat} {A A2 : Option Addr} {n cp m cp2 : Nat} {r s : Nat → List Value} (T : ElemT c.P t E sz bytes) (hx : ev F x = some (.slice A n cp)) (hy : ev F y = some (.slice A2 m cp2)) (hd : dok d c.n = true)
    (hp : Pick K (.own A n cp E sz r) K') (hsrc : Src c K sz A2 m s) (h1 : ∀ i, i < m → (s i).all Value.oneCell' = true) (hm : n + m ≤ 1000000000) (hby : bytes ≤ 10000)
    (h : ∀ A' cp', TL c ops Q rest (fput F d (.slice A' (n + m) cp')) (.own A' (n + m) cp' E sz (catR n r s) :: K')) : TL c ops Q (⟨d, .call { callee := .builtin .append, args := #[x, y], argTypes := #[t, t] }, ty, pos, af, none⟩ :: rest) F K := fun a w hF hK => by
  have hs := hK.pick hp
  have hb : OwnR w A n cp E sz r := hs.holds (.own A n cp E sz r) (by simp)
  have hr := hsrc w hK
  refine wpList_app rfl x y T rfl (hF.evl hx) hb.own (hF.evl hy) hr.rd (fun i j hi hj => ?_) hm hby (Nat.zero_le _) fun v' w' hown hg hbk => ?_
  · have := h1 i hi
    rw [List.all_eq_true] at this
    have hlen := hr.len i hi
    have e : rowF s i j = (s i)[j]'(by omega) := by simp [rowF, List.getD_eq_getElem?_getD, List.getElem?_eq_getElem (show j < (s i).length by omega)]
    rw [e]
    exact this _ (List.getElem_mem _)
  · obtain ⟨A', cp', rfl, _, _, _⟩ := hown.form
    have hc : Chg (Fact.own A n cp E sz r).foot w w' := by rw [own_foot]; exact Chg.grown hg
    refine h A' cp' _ w' (hF.fput hd _) (hs.turn hc (by rw [own_foot]; cases (Value.slice A' (n + m) cp').ownBlock <;> simp) (fun b hb => ?_) ⟨hown.congr fun i j hi hj => ?_, fun i hi => ?_⟩)
    · rw [own_foot] at hb ⊢
      rcases hbk with e | e
      · rw [e] at hb; exact .inl hb
      · rw [e] at hb; simp at hb; subst hb; exact .inr (Nat.le_refl _)
    · simp only [cat, rowF, catR]; split <;> rfl
    · simp only [catR]; split
      · exact hb.len i ‹_›
      · exact hr.len _ (by omega)
theorem TL.subK (hK : KSub K K') (h : TL c ops Q rest F K') : TL c ops Q rest F K := fun a w hf hk => h a w hf (hk.sub hK)
theorem TL.lit {t : Nat} {b b' : Bool} (ht : fget F t = some (.bool b)) (hb : b = b') (h : TL c ops Q rest ((t, .bool b') :: F) K) : TL c ops Q rest F K := fun a w hF hK =>
  h a w ⟨hF.size, hF.dfs, fun u v hv => by
    simp only [fget] at hv
    cases h1 : Nat.beq t u with
    | true => rw [h1] at hv; have := beq_iff.1 h1; subst this; injection hv with hv; subst hv; rw [← hb]; exact hF.get _ _ ht
    | false => rw [h1] at hv; exact hF.get _ _ hv⟩ hK
theorem Sat.own {S : List Nat} {w0 w : World} {A : Option Addr} {n cp : Nat} {E : TypeId} {sz : Nat} {r : Nat → List Value} (h : Sat S w0 K w) (hp : Pick K (.own A n cp E sz r) K') : OwnR w A n cp E sz r := h.holds (.own A n cp E sz r) hp.mem
theorem TL.call {d : Option Tmp} {f : FuncId} {xs : List Operand} {ts : Array TypeId} {us : List Value} {M : List Fact} {X : Type} {val : X → Value} {L : X → List Fact} (hx : evs F xs = some us) (hen : Enters c.P f) (hM : K.Perm (M ++ K')) (hd : dok d c.n = true)
    (hc : ∀ w, Sat c.S c.w0 K w → CallsK c.P f us.toArray M w X val L) (h : ∀ x, TL c ops Q rest (fput F d (val x)) (L x ++ K')) : TL c ops Q (⟨d, .call { callee := .value (.func f), args := xs.toArray, argTypes := ts }, ty, pos, af, none⟩ :: rest) F K := fun a w hF hK =>
  wpList_plain rfl fun Z hZ => by
    have hr : (execOp a.eval ⟨d, .call { callee := .value (.func f), args := xs.toArray, argTypes := ts }, ty, pos, af, none⟩).run c.P w = .ok (.enter f us.toArray) w := by
      have := hF.evsl hx
      have h9 := hen us.toArray w
      simp [execOp, resolve, invoke, Deferred.ofValue, Act.eval, this, h9]
    unfold Oper.wp
    rw [hr]
    refine Calls.mono (hc w hK) ?_
    rintro e w' ⟨x, rfl, hs⟩
    exact hZ _ _ (h x _ _ (hF.fput hd _) ((hK.perm hM).step hs))
end
end Go.Proofs.YtfgnbkegdjkdmaaGreatDoor
namespace Go.Proofs.YtfgnbkegdjkdmaaGreatDoor
set_option linter.all false
set_option linter.unusedVariables false
set_option linter.unusedSimpArgs false
open Go.RowKit
section
variable {P : Program} {ops : Array Oper} {Q : Exit → Act → World → Prop}
def Ord2 (ops : Array Oper) : List (Nat × Bool) → (Nat → Prop) → (Nat → Bool) → Prop
  | [], F, l => ∀ i, i < ops.size → l i = true ∨ F i
  | (c, true) :: cs, F, l => c < ops.size ∧ l c = false ∧ ¬ F c ∧ (∀ o, ops[c]? = some o → ∀ e ∈ o.after, Region.binds .any e = true → l e.on = true ∧ e.on < ops.size) ∧
      (∀ o j oj, ops[c]? = some o → ops[j]? = some oj → j ≠ c → l j = false → (∀ e ∈ oj.after, Region.binds .any e = true → e.on ≠ c) → o.apart ops oj = true) ∧ Ord2 ops cs F (fun i => i == c || l i)
  | (c, false) :: cs, F, l => c < ops.size ∧ l c = false ∧ ¬ F c ∧ (∀ o, ops[c]? = some o → ∀ e ∈ o.after, Region.binds .any e = true → l e.on = true ∧ e.on < ops.size) ∧
      (∀ i, i < ops.size → l i = true ∨ F i ∨ i = c ∨ ∃ o e, ops[i]? = some o ∧ e ∈ o.after ∧ Region.binds .any e = true ∧ l e.on = false ∧ ¬ F e.on ∧ e.on < ops.size) ∧ Ord2 ops cs F (fun i => i == c || l i)
theorem Ord2.congr {cs : List (Nat × Bool)} : ∀ {F F' : Nat → Prop} {l l' : Nat → Bool}, (∀ i, F i ↔ F' i) → (∀ i, i < ops.size → l i = l' i) → Ord2 ops cs F l → Ord2 ops cs F' l' := by
  induction cs with
  | nil => intro F F' l l' hF hl h i hi; rw [← hl i hi, ← hF]; exact h i hi
  | cons c cs ih =>
    obtain ⟨c, b⟩ := c
    cases b
    · rintro F F' l l' hF hl ⟨h1, h2, h3, h4, h5, h6⟩
      refine ⟨h1, by rw [← hl c h1]; exact h2, by rw [← hF]; exact h3, fun o ho e he hb => ?_, fun i hi => ?_, ih hF (fun i hi => by rw [hl i hi]) h6⟩
      · obtain ⟨a1, a2⟩ := h4 o ho e he hb
        exact ⟨by rw [← hl _ a2]; exact a1, a2⟩
      · rw [← hl i hi, ← hF]
        rcases h5 i hi with a | a | a | ⟨o, e, b1, b2, b3, b4, b5, b6⟩
        · exact .inl a
        · exact .inr (.inl a)
        · exact .inr (.inr (.inl a))
        · exact .inr (.inr (.inr ⟨o, e, b1, b2, b3, by rw [← hl _ b6]; exact b4, by rw [← hF]; exact b5, b6⟩))
    · rintro F F' l l' hF hl ⟨h1, h2, h3, h4, h5, h6⟩
      refine ⟨h1, by rw [← hl c h1]; exact h2, by rw [← hF]; exact h3, fun o ho e he hb => ?_, fun o j oj ho hj hne hlj hno => ?_, ih hF (fun i hi => by rw [hl i hi]) h6⟩
      · obtain ⟨a1, a2⟩ := h4 o ho e he hb
        exact ⟨by rw [← hl _ a2]; exact a1, a2⟩
      · exact h5 o j oj ho hj hne (by rw [hl j (Array.getElem?_eq_some_iff.1 hj).1]; exact hlj) hno
theorem Ord2.float {f : Nat} {cs : List (Nat × Bool)} : ∀ {F : Nat → Prop} {l : Nat → Bool}, F f → Ord2 ops cs F l → Ord2 ops cs (fun i => F i ∧ i ≠ f) (fun i => i == f || l i) := by
  induction cs with
  | nil =>
    intro F l hf h i hi
    by_cases hif : i = f
    · simp [hif]
    · rcases h i hi with a | a
      · simp [a]
      · exact .inr ⟨a, hif⟩
  | cons c cs ih =>
    obtain ⟨c, b⟩ := c
    cases b
    · rintro F l hf ⟨h1, h2, h3, h4, h5, h6⟩
      have hcf : c ≠ f := fun e => h3 (e ▸ hf)
      refine ⟨h1, by simp [h2, hcf], fun h => h3 h.1, fun o ho e he hb => ?_, fun i hi => ?_, ?_⟩
      · obtain ⟨a1, a2⟩ := h4 o ho e he hb
        exact ⟨by simp [a1], a2⟩
      · by_cases hif : i = f
        · simp [hif]
        rcases h5 i hi with a | a | a | ⟨o, e, b1, b2, b3, b4, b5, b6⟩
        · simp [a]
        · exact .inr (.inl ⟨a, hif⟩)
        · exact .inr (.inr (.inl a))
        · have hef : e.on ≠ f := fun h => b5 (h ▸ hf)
          exact .inr (.inr (.inr ⟨o, e, b1, b2, b3, by simp [b4, hef], fun h => b5 h.1, b6⟩))
      · exact (ih hf h6).congr (fun i => Iff.rfl) (fun i _ => by show (i == f || (i == c || l i)) = (i == c || (i == f || l i)); cases l i <;> cases (i == f) <;> cases (i == c) <;> rfl)
    · rintro F l hf ⟨h1, h2, h3, h4, h5, h6⟩
      have hcf : c ≠ f := fun e => h3 (e ▸ hf)
      refine ⟨h1, by simp [h2, hcf], fun h => h3 h.1, fun o ho e he hb => ?_, fun o j oj ho hj hne hlj hno => ?_, ?_⟩
      · obtain ⟨a1, a2⟩ := h4 o ho e he hb
        exact ⟨by simp [a1], a2⟩
      · simp only [Bool.or_eq_false_iff] at hlj
        exact h5 o j oj ho hj hne hlj.2 hno
      · exact (ih hf h6).congr (fun i => Iff.rfl) (fun i _ => by show (i == f || (i == c || l i)) = (i == c || (i == f || l i)); cases l i <;> cases (i == f) <;> cases (i == c) <;> rfl)
def wpChain2 (P : Program) (ops : Array Oper) (Q : Exit → Act → World → Prop) (K : List (Nat × Nat) → Act → World → Prop) : List (Nat × Bool) → List (Nat × Nat) → Act → World → Prop
  | [], N, a, w => ∀ w', Ext w w' → K N a w'
  | (c, true) :: cs, N, a, w => ∀ w', Ext w w' → ∀ o, ops[c]? = some o → ∃ v, YieldsIf P ops (fun w3 => Ext w' w3) o v a ∧ wpChain2 P ops Q K cs N (a.put o.dst v) w'
  | (c, false) :: cs, N, a, w => ∀ w', Ext w w' → wpOp P ops Q c (fun a' w'' => Ext w' w'' ∧ wpChain2 P ops Q K cs ((w'.heap.size, w''.heap.size) :: N) a' w'') a w'
theorem wpChain2_ext {K : List (Nat × Nat) → Act → World → Prop} {cs : List (Nat × Bool)} {N : List (Nat × Nat)} {a : Act} {w w1 : World} (h : wpChain2 P ops Q K cs N a w) (he : Ext w w1) : wpChain2 P ops Q K cs N a w1 := by
  match cs, h with
  | [], h => exact fun w' h' => h w' (Ext.trans he h')
  | (c, true) :: cs, h => exact fun w' h' => h w' (Ext.trans he h')
  | (c, false) :: cs, h => exact fun w' h' => h w' (Ext.trans he h')
theorem wpAnyH_mono {md : Region.Mode} {S S' : World → Prop} (h : ∀ w, S' w → S w) : ∀ (fuel : Nat) (listed : Array Bool) (a : Act) (w : World), wpAnyH P md ops Q S' fuel listed a w → wpAnyH P md ops Q S fuel listed a w
  | 0, _, _, _, hh => hh
  | fuel + 1, _, _, _, hh => ⟨hh.1, fun i hi => wpOp_mono (fun a' w' h' => ⟨h _ h'.1, wpAnyH_mono h fuel _ a' w' h'.2⟩) (hh.2 i hi)⟩
theorem YieldsIf.puts {S : World → Prop} {o : Oper} {v : Value} (hs : ∀ cs b, o.op ≠ .select cs b) : ∀ (D : List (Fl × Nat)) (a : Act), (∀ p ∈ D, p.1.d ∉ o.looksAt ops ∧ o.dst ≠ some p.1.d) → YieldsIf P ops S o v a → YieldsIf P ops S o v (puts D a) ∧ (puts D a).put o.dst v = puts D (a.put o.dst v)
  | [], a, _, h => ⟨h, rfl⟩
  | p :: D, a, hp, h => by
    have h1 : ∀ d', some p.1.d = some d' → d' ∉ o.looksAt ops := fun d' e => by cases e; exact (hp p (by simp)).1
    have h2 := YieldsIf.puts hs D (a.put (some p.1.d) (.pointer (some ⟨p.2, 0, none⟩))) (fun q hq => hp q (by simp [hq])) (h.of_same (execOp_put o hs a _ _ h1) (wanted_put o a _ _ h1))
    refine ⟨h2.1, ?_⟩
    show (Go.Proofs.YtfgnbkegdjkdmaaGreatDoor.puts D (a.put (some p.1.d) (.pointer (some ⟨p.2, 0, none⟩)))).put o.dst v = _
    rw [h2.2]
    show _ = Go.Proofs.YtfgnbkegdjkdmaaGreatDoor.puts D ((a.put o.dst v).put (some p.1.d) (.pointer (some ⟨p.2, 0, none⟩)))
    rw [Act.put_comm a _ _ (fun d e => by cases e; exact (hp p (by simp)).2)]
theorem chain2_any {S0 : World → Prop} {Cs : List Nat} {F : List Fl} {l0 : Nat → Bool} (C : ChainOk P ops Q Cs F l0) (hpan : Pan Q) {B : Nat} {K : List (Nat × Nat) → Act → World → Prop}
    (hK : ∀ N a w D, D.map (·.1) = F → FlOk B w N D → S0 w → K N a w → Q .normal (puts D a) w) :
    ∀ (fuel : Nat) (S : World → Prop) (listed : Array Bool) (cs : List (Nat × Bool)) (R : List Fl) (D : List (Fl × Nat)) (N : List (Nat × Nat)) (a : Act) (w : World), (∀ w w', Ext w w' → S w → S w') → (∀ w, S w → S0 w) →
      listed.size = ops.size → (∀ i, i < ops.size → l0 i = true → listed.getD i true = true) → (D.map (·.1) ++ R).Perm F → (∀ c ∈ cs, c.1 ∈ Cs) → Ord2 ops cs (fun i => ∃ f ∈ R, f.i = i) (fun i => listed.getD i true) → (∀ f ∈ R, listed.getD f.i true = false) →
      FlOk B w N D → B ≤ w.heap.size → (∀ q ∈ N, q.2 ≤ w.heap.size) → S w → wpChain2 P ops Q K cs N a w → cs.length + R.length ≤ fuel → wpAnyH P .any ops Q S fuel listed (puts D a) w := by
  intro fuel
  have gf : ∀ (l : Array Bool) (i : Nat), l.size = ops.size → i < ops.size → l.getD i false = l.getD i true := fun l i hl hi => by simp [Array.getD, hl, hi]
  have gs : ∀ (l : Array Bool) (i j : Nat), l.size = ops.size → i < ops.size → (l.setIfInBounds i true).getD j true = (j == i || l.getD j true) := fun l i j hl hi => by
    by_cases hij : j = i
    · subst hij; simp [Array.getD, hl, hi]
    · have : (l.setIfInBounds i true)[j]? = l[j]? := Array.getElem?_setIfInBounds_ne (Ne.symm hij)
      simp only [Array.getD_eq_getD_getElem?, this]
      simp [hij]
  have hdn : ∀ D : List (Fl × Nat), (D.map (·.1)).Perm F → (D.map (·.1.d)).Nodup := fun D h => by
    have := ((h.map (·.d)).nodup_iff).2 C.dnd
    rw [List.map_map] at this
    exact this
  induction fuel with
  | zero =>
    intro S listed cs R D N a w hS hS0 hls hl0 hp hcs ho hR hD hB hN hs hc hf
    obtain rfl : cs = [] := List.eq_nil_of_length_eq_zero (by omega)
    obtain rfl : R = [] := List.eq_nil_of_length_eq_zero (by omega)
    obtain ⟨D', p1, p2⟩ := perm_map_lift (f := (·.1)) (by simpa using hp) D rfl
    refine ⟨?_, ?_⟩
    · apply List.eq_nil_iff_forall_not_mem.2
      intro i hi
      obtain ⟨h1, o, h2, _⟩ := mem_ready.1 hi
      have := ho i (Array.getElem?_eq_some_iff.1 h2).1
      simp [h1] at this
    · rw [puts_perm p1 (hdn D (by simpa using hp))]
      exact hK N a w D' p2 ⟨fun p hp' => hD.1 p (p1.mem_iff.2 hp'), ((p1.map _).nodup_iff).1 hD.2⟩ (hS0 _ hs) (hc w (Below.refl _ _))
  | succ fuel ih =>
    intro S listed cs R D N a w hS hS0 hls hl0 hp hcs ho hR hD hB hN hs hc hf
    have hRF : ∀ f ∈ R, f ∈ F := fun f hf => hp.mem_iff.1 (by simp [hf])
    have hDF : ∀ p ∈ D, p.1 ∈ F := fun p hp' => hp.mem_iff.1 (by simp; exact .inl ⟨p.2, hp'⟩)
    by_cases hpure : ∃ c cs', cs = (c, true) :: cs'
    · -- a quiet one is taken
      obtain ⟨c, cs', rfl⟩ := hpure
      obtain ⟨k1, k2, k3, k4, k5, k6⟩ := ho
      have hoc : ops[c]? = some ops[c] := Array.getElem?_eq_getElem k1
      obtain ⟨v, hy, hc'⟩ := hc w (Below.refl _ _) _ hoc
      refine wpAnyH_mono (S' := fun w3 => S w3 ∧ Ext w w3) (fun _ h => h.1) _ _ _ _ ?_
      have hsel := fun cs b => C.sel c ops[c] cs b hoc
      obtain ⟨hy1, hy2⟩ := YieldsIf.puts (S := fun w3 => S w3 ∧ Ext w w3) hsel D a (fun p hp' => C.ap p.1 (hDF p hp') c (hcs (c, true) (by simp)) _ hoc) (hy.imp (fun ⟨h1, h2⟩ => ⟨h1, fun w3 h3 => h2 w3 h3.2⟩) id)
      refine wpAnyH_first hoc (fun j o cs b hj => C.sel j o cs b hj) (fun ch a' w' h => (hpan _ v ch a' w').1 h) fuel listed (puts D a) w (fun j oj hj hne hlj hno => k5 _ j oj hoc hj hne hlj hno) (mem_ready.2 ⟨k2, _, hoc, fun e he hb => by
        obtain ⟨a1, a2⟩ := k4 _ hoc e he hb
        rw [gf _ _ hls a2]; exact a1⟩) hy1 ⟨hs, Below.refl _ _⟩ ?_
      rw [hy2]
      refine ih (fun w3 => S w3 ∧ Ext w w3) (listed.setIfInBounds c true) cs' R D N _ w (fun x y he h => ⟨hS x y he h.1, Ext.trans h.2 he⟩) (fun x h => hS0 x h.1) (by simpa using hls) (fun j hj h0 => by rw [gs _ _ _ hls k1, hl0 j hj h0]; simp) hp (fun q hq => hcs q (by simp [hq])) (k6.congr (fun j => Iff.rfl) (fun j hj => (gs _ _ _ hls k1).symm)) (fun f hf' => ?_) hD hB hN ⟨hs, Below.refl _ _⟩ hc' (by simp at hf ⊢; omega)
      rw [gs _ _ _ hls k1, hR f hf']
      have : f.i ≠ c := fun e => k3 ⟨f, hf', e⟩
      simp [this]
    have hRr : ∀ f ∈ R, f.i ∈ Region.ready .any ops listed := fun f hf => by
      obtain ⟨h1, o, h2, h3, h4, h5, h6⟩ := C.fup f (hRF f hf)
      exact mem_ready.2 ⟨hR f hf, o, h2, fun e he hb => by
        obtain ⟨a1, a2⟩ := h6 e he hb
        rw [gf _ _ hls a2]; exact hl0 _ a2 a1⟩
    have hcr : ∀ c cs', cs = (c, false) :: cs' → c ∈ Region.ready .any ops listed := fun c cs' e => by
      subst e
      obtain ⟨h1, h2, h3, h4, _⟩ := ho
      exact mem_ready.2 ⟨h2, ops[c], Array.getElem?_eq_getElem h1, fun e he hb => by
        obtain ⟨a1, a2⟩ := h4 _ (Array.getElem?_eq_getElem h1) e he hb
        rw [gf _ _ hls a2]; exact a1⟩
    have hcs2 : cs = [] ∨ ∃ c cs', cs = (c, false) :: cs' := by
      match cs, hpure with
      | [], _ => exact .inl rfl
      | (c, false) :: cs', _ => exact .inr ⟨c, cs', rfl⟩
      | (c, true) :: cs', hn => exact absurd ⟨c, cs', rfl⟩ hn
    refine ⟨fun h0 => ?_, fun i hi => ?_⟩
    · rcases hcs2 with rfl | ⟨c, cs', rfl⟩
      · cases R with
        | cons f R => have := hRr f (by simp); rw [h0] at this; cases this
        | nil =>
          obtain ⟨D', p1, p2⟩ := perm_map_lift (f := (·.1)) (by simpa using hp) D rfl
          rw [puts_perm p1 (hdn D (by simpa using hp))]
          exact hK N a w D' p2 ⟨fun p hp' => hD.1 p (p1.mem_iff.2 hp'), ((p1.map _).nodup_iff).1 hD.2⟩ (hS0 _ hs) (hc w (Below.refl _ _))
      · have := hcr c cs' rfl; rw [h0] at this; cases this
    · obtain ⟨h1, o, h2, h3⟩ := mem_ready.1 hi
      have hlt := (Array.getElem?_eq_some_iff.1 h2).1
      by_cases hfl : ∃ f ∈ R, f.i = i
      · obtain ⟨f, hfR, rfl⟩ := hfl
        obtain ⟨g1, o', g2, g3, g4, g5, g6⟩ := C.fup f (hRF f hfR)
        obtain rfl : o = o' := by rw [h2] at g2; injection g2
        obtain ⟨R1, R2, rfl⟩ := List.append_of_mem hfR
        unfold wpOp
        simp only [h2, Region.wanted, g4, if_true]
        refine .inl ?_
        unfold Oper.wp
        rw [g5]
        simp only [Oper.upon, g3]
        have hext : Ext w (w.alloc (.cells f.z f.ty)) := (Below.refl _ _).alloc (Nat.le_refl _) _
        have hnd : (F.map (·.i)).Nodup := C.fnd
        have hndR : ((D.map (·.1) ++ (R1 ++ f :: R2)).map (·.i)).Nodup := (hp.map _).nodup_iff.2 hnd
        have key : ((puts D a).put (some f.d) (.pointer (some ⟨w.heap.size, 0, none⟩))) = puts (D ++ [(f, w.heap.size)]) a := by simp [puts]
        refine ⟨hS _ _ hext hs, ?_⟩
        rw [key]
        have hne : ∀ g ∈ R1 ++ R2, g.i ≠ f.i := fun g hg he => by
          simp only [List.map_append, List.map_cons] at hndR
          have h9 := (List.nodup_append.1 hndR).2.1
          have h10 := (List.perm_middle.nodup_iff.1 h9)
          simp only [List.nodup_cons] at h10
          exact h10.1 (by rw [← he, ← List.map_append]; exact List.mem_map.2 ⟨g, hg, rfl⟩)
        refine ih S (listed.setIfInBounds f.i true) cs (R1 ++ R2) (D ++ [(f, w.heap.size)]) N a _ hS hS0 (by simpa using hls) (fun j hj h0 => by rw [gs _ _ _ hls g1, hl0 j hj h0]; simp) ?_ hcs ?_ (fun g hg => ?_) ⟨fun p hp' => ?_, ?_⟩ (by simp; omega) (fun q hq => by have := hN q hq; simp; omega) (hS _ _ hext hs) (wpChain2_ext hc hext) (by simp at hf ⊢; omega)
        · refine List.Perm.trans ?_ hp
          simp only [List.map_append, List.map_cons, List.map_nil, List.append_assoc, List.singleton_append]
          exact List.Perm.append_left _ List.perm_middle.symm
        · refine (Ord2.float (f := f.i) ⟨f, hfR, rfl⟩ ho).congr (fun j => ?_) (fun j hj => (gs _ _ _ hls g1).symm)
          constructor
          · rintro ⟨⟨g, hg, rfl⟩, hn⟩
            refine ⟨g, ?_, rfl⟩
            simp only [List.mem_append, List.mem_cons] at hg ⊢
            rcases hg with a | rfl | a
            · exact .inl a
            · exact absurd rfl hn
            · exact .inr a
          · rintro ⟨g, hg, rfl⟩
            exact ⟨⟨g, by simp only [List.mem_append, List.mem_cons] at hg ⊢; rcases hg with a | a <;> simp [a], rfl⟩, hne g hg⟩
        · rw [gs _ _ _ hls g1, hR g (by simp only [List.mem_append, List.mem_cons] at hg ⊢; rcases hg with a | a <;> simp [a])]
          simp [hne g hg]
        · rcases List.mem_append.1 hp' with hp' | hp'
          · obtain ⟨a1, a2, a3⟩ := hD.1 p hp'
            exact ⟨a1, a2.alloc _, a3⟩
          · simp only [List.mem_singleton] at hp'
            subst hp'
            exact ⟨hB, Blk.new _ _ _, fun q hq => .inr (hN q hq)⟩
        · simp only [List.map_append, List.map_cons, List.map_nil]
          refine List.nodup_append.2 ⟨hD.2, by simp, fun x hx y hy => ?_⟩
          simp only [List.mem_singleton] at hy
          subst hy
          obtain ⟨p, hp', rfl⟩ := List.mem_map.1 hx
          have := (hD.1 p hp').2.1.lt
          omega
      · rcases hcs2 with rfl | ⟨c, cs', rfl⟩
        · rcases ho i hlt with h9 | h9
          · have h9' : listed.getD i true = true := h9
            rw [h1] at h9'; cases h9'
          · exact absurd h9 hfl
        · obtain ⟨k1, k2, k3, k4, k5, k6⟩ := ho
          have hic : i = c := by
            rcases k5 i hlt with h9 | h9 | h9 | ⟨o', e, b1, b2, b3, b4, b5, b6⟩
            · have h9' : listed.getD i true = true := h9
              rw [h1] at h9'; cases h9'
            · exact absurd h9 hfl
            · exact h9
            · obtain rfl : o = o' := by rw [h2] at b1; injection b1
              have := h3 e b2 b3
              have b4' : listed.getD e.on true = false := b4
              rw [gf _ _ hls b6, b4'] at this; cases this
          subst hic
          have h9 := wpOp_puts (K := fun a' w'' => Ext w w'' ∧ wpChain2 P ops Q K cs' ((w.heap.size, w''.heap.size) :: N) a' w'') h2 (fun cs b => C.sel i o cs b h2) C.pan D a w (fun p hp' => C.ap p.1 (hDF p hp') i (hcs (i, false) (by simp)) o h2) (hc w (Below.refl _ _))
          refine wpOp_mono (fun a' w'' => ?_) h9
          rintro ⟨a1, rfl, hext, hc'⟩
          refine ⟨hS _ _ hext hs, ih S (listed.setIfInBounds i true) cs' R D _ a1 w'' hS hS0 (by simpa using hls) (fun j hj h0 => by rw [gs _ _ _ hls hlt, hl0 j hj h0]; simp) hp (fun c hc => hcs c (by simp [hc])) (k6.congr (fun j => Iff.rfl) (fun j hj => (gs _ _ _ hls hlt).symm)) (fun f hf' => ?_) ⟨fun p hp' => ?_, hD.2⟩ (Nat.le_trans hB hext.size) (fun q hq => ?_) (hS _ _ hext hs) hc' (by simp at hf ⊢; omega)⟩
          · rw [gs _ _ _ hls hlt, hR f hf']
            have : f.i ≠ i := fun e => k3 ⟨f, hf', e⟩
            simp [this]
          · obtain ⟨a1, a2, a3⟩ := hD.1 p hp'
            refine ⟨a1, a2.blw hext, fun q hq => ?_⟩
            rcases List.mem_cons.1 hq with rfl | hq
            · exact .inl a2.lt
            · exact a3 q hq
          · rcases List.mem_cons.1 hq with rfl | hq
            · exact Nat.le_refl _
            · exact Nat.le_trans (hN q hq) hext.size
def ordB2 (ops : Array Oper) (F : List Nat) : List (Nat × Bool) → (Nat → Bool) → Bool
  | [], l => (List.range ops.size).all fun i => l i || F.contains i
  | (c, true) :: cs, l => decide (c < ops.size) && !l c && !F.contains c && (match ops[c]? with
      | some o => o.after.all (fun e => !Region.binds .any e || (l e.on && decide (e.on < ops.size))) && (List.range ops.size).all fun j => l j || j == c || match ops[j]? with
        | some oj => oj.after.any (fun e => Region.binds .any e && e.on == c) || o.apart ops oj
        | none => true
      | none => true) && ordB2 ops F cs (fun i => i == c || l i)
  | (c, false) :: cs, l => decide (c < ops.size) && !l c && !F.contains c && (match ops[c]? with | some o => o.after.all (fun e => !Region.binds .any e || (l e.on && decide (e.on < ops.size))) | none => true) &&
      ((List.range ops.size).all fun i => l i || F.contains i || i == c || (match ops[i]? with | some o => o.after.any (fun e => Region.binds .any e && !l e.on && !F.contains e.on && decide (e.on < ops.size)) | none => false)) &&
      ordB2 ops F cs (fun i => i == c || l i)
theorem ordB2_spec {F : List Nat} : ∀ {cs : List (Nat × Bool)} {l : Nat → Bool}, ordB2 ops F cs l = true → Ord2 ops cs (· ∈ F) l
  | [], l, h => fun i hi => by simpa using List.all_eq_true.1 h i (List.mem_range.2 hi)
  | (c, true) :: cs, l, h => by
    simp only [ordB2, Bool.and_eq_true, decide_eq_true_eq, Bool.not_eq_true'] at h
    obtain ⟨⟨⟨⟨h1, h2⟩, h3⟩, h4⟩, h6⟩ := h
    refine ⟨h1, h2, by simpa using h3, fun o ho e he hb => ?_, fun o j oj ho hj hne hlj hno => ?_, ordB2_spec h6⟩
    · rw [ho] at h4
      simp only [Bool.and_eq_true] at h4
      have := Array.all_eq_true_iff_forall_mem.1 h4.1 e he
      simpa [hb] using this
    · rw [ho] at h4
      simp only [Bool.and_eq_true] at h4
      have := List.all_eq_true.1 h4.2 j (List.mem_range.2 (Array.getElem?_eq_some_iff.1 hj).1)
      rw [hj] at this
      simp only [hlj, Bool.false_or, Bool.or_eq_true, beq_iff_eq, hne, false_or] at this
      rcases this with h | h
      · obtain ⟨e, he, hb⟩ := Array.any_eq_true'.1 h
        simp only [Bool.and_eq_true, beq_iff_eq] at hb
        exact absurd hb.2 (hno e he hb.1)
      · exact h
  | (c, false) :: cs, l, h => by
    simp only [ordB2, Bool.and_eq_true, decide_eq_true_eq, Bool.not_eq_true'] at h
    obtain ⟨⟨⟨⟨⟨h1, h2⟩, h3⟩, h4⟩, h5⟩, h6⟩ := h
    refine ⟨h1, h2, by simpa using h3, fun o ho e he hb => ?_, fun i hi => ?_, ordB2_spec h6⟩
    · rw [ho] at h4
      have := Array.all_eq_true_iff_forall_mem.1 h4 e he
      simpa [hb] using this
    · have := List.all_eq_true.1 h5 i (List.mem_range.2 hi)
      simp only [Bool.or_eq_true, beq_iff_eq] at this
      rcases this with ((a | a) | a) | a
      · exact .inl a
      · exact .inr (.inl (by simpa using a))
      · exact .inr (.inr (.inl a))
      · cases ho : ops[i]? with
        | none => rw [ho] at a; cases a
        | some o =>
          rw [ho] at a
          obtain ⟨e, he, hb⟩ := Array.any_eq_true'.1 a
          simp only [Bool.and_eq_true, Bool.not_eq_true', decide_eq_true_eq] at hb
          exact .inr (.inr (.inr ⟨o, e, rfl, he, hb.1.1.1, hb.1.1.2, by simpa using hb.1.2, hb.2⟩))
def checkB2 (ops : Array Oper) (listed : Array Bool) (Cs : List (Nat × Bool)) (F : List (Nat × Tmp × TypeId)) : Bool :=
  Region.noSelect ops && decide (listed.size = ops.size) && F.all (fun f => flB ops (fun i => listed.getD i true) f.1 f.2.1 f.2.2 && apB ops (Cs.map (·.1)) f.2.1 && !listed.getD f.1 true) && decide (F.map (·.1)).Nodup && decide (F.map (·.2.1)).Nodup && ordB2 ops (F.map (·.1)) Cs (fun i => listed.getD i true)
theorem chain2_begin {S : World → Prop} (hS : ∀ w w', Ext w w' → S w → S w') (Cs : List (Nat × Bool)) (F : List Fl) {listed : Array Bool} {fuel : Nat} {a : Act} {w : World} {K : List (Nat × Nat) → Act → World → Prop} {B : Nat}
    (hb : checkB2 ops listed Cs (keys F) = true) (hfu : Cs.length + F.length ≤ fuel) (hpan : Pan Q)
    (hz : ∀ f ∈ F, Zero P f.ty f.z) (hs : S w)
    (hK : ∀ N a w D, D.map (·.1) = F → FlOk B w N D → S w → K N a w → Q .normal (puts D a) w) (hB : B ≤ w.heap.size) (h : wpChain2 P ops Q K Cs [] a w) : wpAnyH P .any ops Q S fuel listed a w := by
  simp only [checkB2, Bool.and_eq_true, decide_eq_true_eq] at hb
  obtain ⟨⟨⟨⟨⟨h1, h2⟩, h3⟩, h4⟩, h5⟩, h6⟩ := hb
  have hk1 : (keys F).map (·.1) = F.map (·.i) := by simp [keys, Function.comp_def]
  have hk2 : (keys F).map (·.2.1) = F.map (·.d) := by simp [keys, Function.comp_def]
  rw [hk1] at h4 h6
  rw [hk2] at h5
  have h3' : ∀ f ∈ F, (flB ops (fun i => listed.getD i true) f.i f.d f.ty && apB ops (Cs.map (·.1)) f.d && !listed.getD f.i true) = true := fun f hf => List.all_eq_true.1 h3 (f.i, f.d, f.ty) (List.mem_map.2 ⟨f, hf, rfl⟩)
  have hord := ordB2_spec h6
  have C : ChainOk P ops Q (Cs.map (·.1)) F (fun i => listed.getD i true) := {
    sel := Region.noSelect_spec h1
    pan := fun d ch a w v h => (hpan (some d) v ch a w).2 h
    fup := fun f hf => by
      have := h3' f hf
      simp only [Bool.and_eq_true, flB] at this
      obtain ⟨⟨g, _⟩, _⟩ := this
      cases ho : ops[f.i]? with
      | none => rw [ho] at g; cases g
      | some o =>
        rw [ho] at g
        simp only [Bool.and_eq_true, beq_iff_eq, Option.isNone_iff_eq_none] at g
        obtain ⟨⟨⟨g1, g2⟩, g3⟩, g4⟩ := g
        refine ⟨(Array.getElem?_eq_some_iff.1 ho).1, o, rfl, g1, g2, fun ρ w => hz f hf ρ o w ?_, fun e he hb => ?_⟩
        · cases hop : o.op <;> rw [hop] at g3 <;> first | (cases g3; done) | (simp only [beq_iff_eq] at g3; rw [g3])
        · have := Array.all_eq_true_iff_forall_mem.1 g4 e he
          simpa [hb] using this
    fnd := h4
    dnd := h5
    ap := fun f hf c hc o ho => by
      have := h3' f hf
      simp only [Bool.and_eq_true, apB] at this
      have := List.all_eq_true.1 this.1.2 c hc
      rw [ho] at this
      simpa using this }
  exact chain2_any C hpan hK fuel S listed Cs F [] [] a w hS (fun _ h => h) h2 (fun i hi h => h) (by simp) (fun c hc => List.mem_map.2 ⟨c, hc, rfl⟩) (hord.congr (fun i => by simp) (fun i _ => rfl)) (fun f hf => by
    have := h3' f hf
    simp only [Bool.and_eq_true, Bool.not_eq_true'] at this
    exact this.2) ⟨fun p hp => (by cases hp), by simp⟩ hB (fun q hq => by cases hq) hs h hfu
end
end Go.Proofs.YtfgnbkegdjkdmaaGreatDoor
namespace Go.Proofs.YtfgnbkegdjkdmaaGreatDoor
set_option linter.all false
set_option linter.unusedVariables false
set_option linter.unusedSimpArgs false
open Go.RowKit
def zipF : Nat → List Value → Fr
  | _, [] => []
  | i, v :: vs => (i, v) :: zipF (i + 1) vs
theorem zipF_get : ∀ (vs : List Value) (i t : Nat) (v : Value), fget (zipF i vs) t = some v → i ≤ t ∧ vs[t - i]? = some v
  | [], _, _, _, h => by cases h
  | u :: vs, i, t, v, h => by
    simp only [zipF, fget] at h
    cases hb : Nat.beq i t with
    | true =>
      rw [hb] at h
      have := beq_iff.1 hb
      subst this
      exact ⟨Nat.le_refl _, by simpa using h⟩
    | false =>
      rw [hb] at h
      obtain ⟨h1, h2⟩ := zipF_get vs (i + 1) t v h
      exact ⟨by omega, by rw [show t - i = (t - (i + 1)) + 1 by omega, List.getElem?_cons_succ]; exact h2⟩
theorem FS.start {n : Nat} {args : List Value} (hn : args.length ≤ n) : FS n [] (zipF 0 args) { tmps := args.toArray ++ Array.replicate (n - args.toArray.size) undef, defers := [] } := by
  refine ⟨by simp; omega, rfl, fun t v hv => ?_⟩
  obtain ⟨_, h⟩ := zipF_get args 0 t v hv
  rw [Nat.sub_zero] at h
  have hlt := (List.getElem?_eq_some_iff.1 h).1
  have h2 : args[t] = v := by rw [List.getElem?_eq_getElem hlt] at h; injection h
  simp [Array.getD_eq_getD_getElem?, Array.getElem?_append, hlt, h2]
theorem K_enter {P : Program} {f : FuncId} {fn : Func} {code : Code} {n : Nat} {args : List Value} {R : Ending → World → Prop} {w : World} {S : List Nat} {K : List Fact} (hf : P.funcs[f]? = some fn) (hb : fn.body = some code) (hn : fn.ntmps = n) (hl : Nat.ble args.length n = true) (hS : Sat S w K w)
    (h : TW ⟨P, n, [], S, w⟩ code (bodyPost P fn R) (zipF 0 args) K) : Calls P f args.toArray w R := by
  refine calls_of_wp hf hb ?_
  rw [hn]
  exact h _ _ (FS.start (Nat.le_of_ble_eq_true hl)) hS
inductive RV (c : Cx) (F : Fr) (K : List Fact) : List ResultVar → List Value → Prop
  | nil : RV c F K [] []
  | tmp {t : Nat} {v : Value} {rs : List ResultVar} {vs : List Value} : fget F t = some v → RV c F K rs vs → RV c F K (.tmp t :: rs) (v :: vs)
  | cell {t : Nat} {T : TypeId} {q : Option Addr} {v : Value} {rs : List ResultVar} {vs : List Value} : fget F t = some (.pointer q) → Sc c.P T → Cells c K q [v] → RV c F K rs vs → RV c F K (.cell t T :: rs) (v :: vs)
  | cells {t m : Nat} {T : TypeId} {q : Option Addr} {us : List Value} {rs : List ResultVar} {vs : List Value} : fget F t = some (.pointer q) → Ag c.P T m → Cells c K q us → us.length = m → RV c F K rs vs → RV c F K (.cell t T :: rs) (.agg us.toArray :: vs)
def retV : List Value → Value
  | [v] => v
  | vs => .tuple vs.toArray
def resOne (t : Array Value) : ResultVar → Sem Value
  | .tmp i => pure (t.getD i undef)
  | .cell p T => do loadVar T (← asAddr (t.getD p undef))
theorem results_eq (fn : Func) (t : Array Value) : Go.results fn t = (do let vs ← fn.results.mapM (resOne t); pure (if h : vs.size = 1 then vs[0] else .tuple vs)) := by
  unfold Go.results
  congr 2
theorem RV.run {c : Cx} {F : Fr} {K : List Fact} {rs : List ResultVar} {vs : List Value} (h : RV c F K rs vs) {a : Act} {w : World} (hF : FS c.n c.D F a) (hK : Sat c.S c.w0 K w) : (rs.mapM (resOne a.tmps)).run c.P w = .ok vs w := by
  induction h with
  | nil => rfl
  | tmp h1 _ ih => simp only [List.mapM_cons, Sem.run_bind, Sem.run_pure, Result.andThen_ok, resOne, hF.get _ _ h1, ih]
  | cell h1 h2 h3 _ ih =>
    obtain ⟨b, off, rfl, h4⟩ := h3 w hK
    have h5 := h4 0 _ rfl
    rw [Nat.add_zero] at h5
    simp only [List.mapM_cons, Sem.run_bind, Sem.run_pure, Result.andThen_ok, resOne, hF.get _ _ h1, ih, asAddr, loadVar, h2 w, Sem.run_ite, Bool.false_eq_true, if_false, run_load, h5]
  | cells h1 h2 h3 h4 _ ih =>
    obtain ⟨b, off, rfl, h5⟩ := h3 w hK
    have h6 := run_loadCells_list (P := c.P) (w := w) ⟨b, off, none⟩ _ (fun j v hv => by rw [add_plain]; exact h5 j v hv)
    rw [h4] at h6
    simp only [List.mapM_cons, Sem.run_bind, Sem.run_pure, Result.andThen_ok, resOne, hF.get _ _ h1, ih, asAddr, loadVar, h2.1 w, h2.2 w, Sem.run_ite, if_true, h6]
theorem RV.results {c : Cx} {F : Fr} {K : List Fact} {rs : List ResultVar} {vs : List Value} {fn : Func} (hr : fn.results = rs.toArray) (h : RV c F K rs vs) {a : Act} {w : World} (hF : FS c.n c.D F a) (hK : Sat c.S c.w0 K w) : (results fn a.tmps).run c.P w = .ok (retV vs) w := by
  have h1 := h.run hF hK
  rw [results_eq, hr]
  simp only [List.mapM_toArray, Sem.run_bind, Sem.run_map, h1, Result.andThen_ok, Sem.run_pure]
  match vs with
  | [] => rfl
  | [v] => rfl
  | _ :: _ :: _ => simp [retV]
section
variable {c : Cx} {Q : Exit → Act → World → Prop} {F F' : Fr} {K K' : List Fact} {ty : TypeId} {pos : String} {af : Array Edge} {g : Option (Nat × Bool)}
theorem TQ.ret {fn : Func} {R : Ending → World → Prop} {rs : List ResultVar} {vs : List Value} (hr : fn.results = rs.toArray) (hD : c.D = []) (hv : RV c F K rs vs) (h : ∀ w, Sat c.S c.w0 K w → R (.returned (retV vs)) w) : TQ c (bodyPost c.P fn R) .ret F K := fun a w hF hK =>
  ⟨hF.dfs.trans hD, _, hv.results hr hF hK, h w hK⟩
theorem fieldAt_of {P : Program} {T : Nat} {fs : Array Field} (i o ft m : Nat) (ht : P.underlying T = some (.struct fs)) (hf : (fs[i]?).map (fun f => (f.type, f.offset)) = some (ft, o)) (hs : Sz P ft m) (hm : Nat.beq m 0 = false) : FieldAt P T i o := fun w a => by
  obtain ⟨f, hf, e⟩ := Option.map_eq_some_iff.1 hf
  injection e with e1 e2
  have hs' : Sz P f.type m := by rw [e1]; exact hs
  rw [← e2]
  clear e1 hs
  have hm : m ≠ 0 := fun e => by rw [e] at hm; cases hm
  cases hsp : a.spot with
  | some s => exact .inr rfl
  | none =>
    refine .inl ?_
    have e : a.add f.offset = ⟨a.block, a.off + f.offset, none⟩ := by
      obtain ⟨b, o, sp⟩ := a
      simp only at hsp
      subst hsp
      exact add_plain b o _
    simp [Instr.fieldAt, run_underlying ht, hf, Instr.sureAddr, fieldPlace, hs' w, hm, e]
theorem tnS (n : Nat) : ((n : Int) + 1).toNat = n + 1 := by omega
def gdB (F : Fr) (ops : Array Oper) : Option (Nat × Bool) → Option Bool
  | none => some true
  | some (j, b) => match (ops[j]?).bind (·.dst) with
    | some t => match fget F t with
      | some (.bool b') => some (b' == b)
      | some (.tuple _) => some false
      | _ => none
    | none => none
theorem FS.wanted {n : Nat} {D : List Deferred} {a : Act} (h : FS n D F a) {ops : Array Oper} {o : Oper} {b : Bool} (hg : gdB F ops o.guard = some b) : Region.wanted o (yielded ops a.tmps) = b := by
  unfold Region.wanted
  cases ho : o.guard with
  | none => rw [ho] at hg; injection hg
  | some jb =>
    obtain ⟨j, b1⟩ := jb
    rw [ho] at hg
    simp only [gdB] at hg
    cases hd : (ops[j]?).bind (·.dst) with
    | none => rw [hd] at hg; cases hg
    | some t =>
      simp only [hd] at hg
      cases hf : fget F t with
      | none => simp [hf] at hg
      | some v =>
        simp only [hf] at hg
        have h1 := h.get t _ hf
        have h2 : a.tmps[t]? = some v ∨ (a.tmps[t]? = none ∧ v = undef) := by
          rw [Array.getD_eq_getD_getElem?] at h1
          cases h3 : a.tmps[t]? with
          | none => rw [h3] at h1; exact .inr ⟨rfl, by simpa using h1.symm⟩
          | some u => rw [h3] at h1; exact .inl (by simpa using h1)
        match v, hg, h2 with
        | .bool b2, hg, h2 =>
          rcases h2 with h2 | ⟨_, h2⟩
          · simp only [yielded, hd, Option.bind_some, h2]
            exact Option.some.inj hg
          · exact absurd h2 (by simp [undef])
        | .tuple vs, hg, h2 =>
          have hg := Option.some.inj hg
          subst hg
          rcases h2 with h2 | ⟨h2, _⟩ <;> simp [yielded, hd, h2]
def RK (c : Cx) (ops : Array Oper) (Q : Exit → Act → World → Prop) (nf k : Nat) (rest : List Oper) (pend : List (Nat × Oper)) (fl : List Fl) (listed : Array Bool) (fuel : Nat) (F : Fr) (K : List Fact) : Prop :=
  ∀ a W w, FS c.n c.D F a → Sat c.S c.w0 K W → Below W.heap.size W w → RW c.P ops Q nf (Below W.heap.size W) k rest pend fl listed fuel a w
def FLK (c : Cx) (ops : Array Oper) (Q : Exit → Act → World → Prop) (nf : Nat) : List Fl → Fr → List Fact → Prop
  | [], F, K => TL c ops Q (ops.toList.drop nf) F K
  | f :: fl, F, K => ∀ b, FLK c ops Q nf fl ((f.d, .pointer (some ⟨b, 0, none⟩)) :: F) (.blk b f.ty f.z.toList :: K)
def flagged (bs : List Bool) (pend : List (Nat × Oper)) : List (Nat × Bool) := List.zipWith (fun b p => (p.1, b)) bs pend
def WK (c : Cx) (ops : Array Oper) (Q : Exit → Act → World → Prop) (nf : Nat) (fl : List Fl) (bs : List Bool) (pend : List (Nat × Oper)) (F : Fr) (K : List Fact) : Prop :=
  ∀ W N a w, (∀ p ∈ pend, (frontOf ops nf)[p.1]? = some p.2) → c.w0.heap.size ≤ W.heap.size → FS c.n c.D F a → Sat c.S c.w0 K w → (∀ b ∈ feet K, b < W.heap.size ∨ ∃ q ∈ N, q.1 ≤ b ∧ b < q.2) → Below W.heap.size W w →
    wpChain2 c.P (frontOf ops nf) (tailPost c.P ops Q nf) (fun N a w => ∀ D, D.map (·.1) = fl → FlOk W.heap.size w N D → Ext W w → wpList c.P ops Q (ops.toList.drop nf) (puts D a) w) (flagged bs pend) N a w
variable {ops : Array Oper} {nf k fuel : Nat} {rest : List Oper} {pend : List (Nat × Oper)} {fl : List Fl} {listed : Array Bool} {bs : List Bool}
theorem TW.draw {id : Nat} {l : List Oper} (nf : Nat) (hm : c.P.follows .mixedOrders = true) (hT : tailOk l.toArray nf = true) (hp : Pan Q) (h : RK c l.toArray Q nf 0 (l.take nf) [] [] (Array.replicate nf false) nf F K) : TW c (.region id l.toArray true) Q F K := fun a w hF hK =>
  RW.begin hm hT hp fun hb => h a w _ hF hK hb
theorem RK.take {d : Nat} {op : Op} {v : Value} (hk : takeB ops nf listed k = true) (hg : gdB F (frontOf ops nf) g = some true) (hp : Pu c F K ⟨some d, op, ty, pos, af, g⟩ v) (hd : Nat.blt d c.n = true)
    (h : RK c ops Q nf (k + 1) rest pend fl (listed.setIfInBounds k true) fuel ((d, v) :: F) K) : RK c ops Q nf k (⟨some d, op, ty, pos, af, g⟩ :: rest) pend fl listed (fuel + 1) F K := fun a W w hF hK hb =>
  RW.take hb hk (hF.wanted hg) (fun w' hb' => hp a w' hF (hK.ext hb')) (h _ W w (hF.put hd v) hK hb)
theorem RK.keep {o : Oper} (h : RK c ops Q nf (k + 1) rest (pend ++ [(k, o)]) fl listed fuel F K) : RK c ops Q nf k (o :: rest) pend fl listed fuel F K := fun a W w hF hK hb => RW.keep (h a W w hF hK hb)
theorem RK.float {d : Tmp} {T : TypeId} (z : List Value) (h : RK c ops Q nf (k + 1) rest pend (fl ++ [⟨k, d, T, z.toArray⟩]) listed fuel F K) : RK c ops Q nf k (⟨some d, .alloc T, ty, pos, af, none⟩ :: rest) pend fl listed fuel F K := fun a W w hF hK hb => RW.float _ (h a W w hF hK hb)
def zrAll (P : Program) : List Fl → Prop
  | [] => True
  | f :: fl => Zr P f.ty f.z.toList ∧ zrAll P fl
theorem zrAll_spec {P : Program} : ∀ {fl : List Fl}, zrAll P fl → ∀ f ∈ fl, Zr P f.ty f.z.toList
  | f :: fl, h, g, hg => by
    rcases List.mem_cons.1 hg with rfl | hg
    · exact h.1
    · exact zrAll_spec h.2 g hg
theorem RK.chain (bs : List Bool) (hb : checkB2 (frontOf ops nf) listed (flagged bs pend) (keys fl) = true) (hfu : decide ((flagged bs pend).length + fl.length ≤ fuel) = true) (hz : zrAll c.P fl) (h : WK c ops Q nf fl bs pend F K) : RK c ops Q nf k [] pend fl listed fuel F K := fun a W w hF hK hb' _ h2 h3 => by
  refine chain2_begin (S := Below W.heap.size W) (B := W.heap.size) (fun w w' he hs => Ext.trans hs he) (flagged bs pend) fl hb (by simpa using hfu) (fun d v ch a w => h3 d v ch a w) (fun f hf ρ o w ho => by
    obtain ⟨z, h1, h2⟩ := zrAll_spec hz f hf
    simp only [execOp, ho, Instr.alloc, newVar, newRow, Sem.run_bind, Sem.run_pure, h2 w, Result.andThen_ok, run_newObj, h1]
    rfl) hb' (K := fun N a w => ∀ D, D.map (·.1) = fl → FlOk W.heap.size w N D → Ext W w → wpList c.P ops Q (ops.toList.drop nf) (puts D a) w) (fun N a w D e1 e2 e3 hk => tail_list (hk D e1 e2 e3)) hb'.size (h W [] a w h2 hK.chg.size hF (hK.ext hb') (fun b hb => .inl (hK.lt b hb)) hb')
theorem puts_cons (p : Fl × Nat) (D : List (Fl × Nat)) (a : Act) : puts (p :: D) a = puts D (a.put (some p.1.d) (.pointer (some ⟨p.2, 0, none⟩))) := rfl
theorem FLK.run : ∀ (fl : List Fl) (F : Fr) (K : List Fact) (D : List (Fl × Nat)) (a : Act) (w : World), FLK c ops Q nf fl F K → (fl.all fun f => Nat.blt f.d c.n) = true → D.map (·.1) = fl → FS c.n c.D F a → Sat c.S c.w0 K w →
    (∀ p ∈ D, c.w0.heap.size ≤ p.2 ∧ Blk w p.2 p.1.ty p.1.z ∧ p.2 ∉ feet K) → (D.map (·.2)).Nodup → wpList c.P ops Q (ops.toList.drop nf) (puts D a) w
  | [], F, K, D, a, w, h, _, hD, hF, hK, _, _ => by
    cases D with
    | nil => exact h a w hF hK
    | cons => cases hD
  | f :: fl, F, K, D, a, w, h, hok, hD, hF, hK, hb, hnd => by
    cases D with
    | nil => cases hD
    | cons p D =>
      simp only [List.map_cons, List.cons.injEq] at hD
      obtain ⟨rfl, hD⟩ := hD
      simp only [List.all_cons, Bool.and_eq_true] at hok
      simp only [List.map_cons, List.nodup_cons] at hnd
      obtain ⟨h1, h2, h3⟩ := hb p (by simp)
      rw [puts_cons]
      refine FLK.run fl _ _ D _ w (h p.2) hok.2 hD (hF.put hok.1 _) ?_ (fun q hq => ?_) hnd.2
      · refine ⟨hK.chg, ?_, fun b hb => ?_, fun ψ hψ => ?_⟩
        · rw [feet_cons]; simp only [Fact.foot, List.singleton_append, List.nodup_cons]; exact ⟨h3, hK.nd⟩
        · rw [feet_cons] at hb; simp only [Fact.foot, List.singleton_append, List.mem_cons] at hb
          rcases hb with rfl | hb
          · exact .inr h1
          · exact hK.ge b hb
        · rcases List.mem_cons.1 hψ with rfl | hψ
          · simpa [Fact.holds] using h2
          · exact hK.holds ψ hψ
      · obtain ⟨k1, k2, k3⟩ := hb q (by simp [hq])
        refine ⟨k1, k2, ?_⟩
        rw [feet_cons]; simp only [Fact.foot, List.singleton_append, List.mem_cons, not_or]
        exact ⟨fun e => hnd.1 (List.mem_map.2 ⟨q, hq, e⟩), k3⟩
theorem WK.nil (hok : (fl.all fun f => Nat.blt f.d c.n) = true) (h : FLK c ops Q nf fl F K) : WK c ops Q nf fl [] [] F K := fun W N a w _ h0 hF hK hN hb => by
  intro w' he D hD hO hE
  refine FLK.run fl F K D a w' h hok hD hF (hK.ext he) (fun p hp => ?_) hO.2
  obtain ⟨h1, h2, h3⟩ := hO.1 p hp
  refine ⟨Nat.le_trans h0 h1, h2, fun hm => ?_⟩
  rcases hN p.2 hm with h4 | ⟨q, hq, h4⟩
  · omega
  · have := h3 q hq; omega
theorem WK.feet {W w' w'' : World} {N : List (Nat × Nat)} {L : List Fact} (hN : ∀ b ∈ feet K, b < W.heap.size ∨ ∃ q ∈ N, q.1 ≤ b ∧ b < q.2) (hL : Sat [] w' L w'') : ∀ b ∈ feet (L ++ K), b < W.heap.size ∨ ∃ q ∈ (w'.heap.size, w''.heap.size) :: N, q.1 ≤ b ∧ b < q.2 := fun b hb => by
  rw [feet_append, List.mem_append] at hb
  rcases hb with hb | hb
  · rcases hL.ge b hb with h | h
    · cases h
    · exact .inr ⟨_, List.mem_cons_self, h, hL.lt b hb⟩
  · rcases hN b hb with h | ⟨q, hq, h⟩
    · exact .inl h
    · exact .inr ⟨q, by simp [hq], h⟩
theorem WK.act {i : Nat} {o : Oper} (h : ∀ (a : Act) (w' : World) (K' : Act → World → Prop), FS c.n c.D F a → Sat c.S c.w0 K w' → (frontOf ops nf)[i]? = some o →
      (∀ F2 L a' w'', Sat [] w' L w'' → FS c.n c.D F2 a' → WK c ops Q nf fl bs pend F2 (L ++ K) → K' a' w'') → wpOp c.P (frontOf ops nf) (tailPost c.P ops Q nf) i K' a w') : WK c ops Q nf fl (false :: bs) ((i, o) :: pend) F K := fun W N a w h2 h0 hF hK hN hb => by
  intro w' he
  refine h a w' _ hF (hK.ext he) (h2 (i, o) (by simp)) fun F2 L a' w'' hs hF2 hw => ?_
  have hE : Ext w' w'' := Chg.ext hs.chg
  exact ⟨hE, hw W _ _ _ (fun p hp => h2 p (by simp [hp])) h0 hF2 ((hK.ext he).add hs) (WK.feet hN hs) (Ext.trans (Ext.trans hb he) hE)⟩
theorem wpOp_of {P : Program} {front : Array Oper} {R : Exit → Act → World → Prop} {i : Nat} {o : Oper} {K' : Act → World → Prop} {a : Act} {w : World} (ho : front[i]? = some o) (hw : Region.wanted o (yielded front a.tmps) = true) (h : o.wp P a w K' R) : wpOp P front R i K' a w := by
  unfold wpOp
  simp only [ho, hw, if_true]
  exact .inl h
theorem WK.call {i : Nat} {d : Option Tmp} {f : FuncId} {xs : List Operand} {ts : Array TypeId} {us : List Value} {X : Type} {val : X → Value} {L : X → List Fact} (hx : evs F xs = some us) (hen : Enters c.P f) (hd : dok d c.n = true)
    (hc : ∀ w, Sat c.S c.w0 K w → CallsK c.P f us.toArray [] w X val L) (h : ∀ x, WK c ops Q nf fl bs pend (fput F d (val x)) (L x ++ K)) : WK c ops Q nf fl (false :: bs) ((i, ⟨d, .call { callee := .value (.func f), args := xs.toArray, argTypes := ts }, ty, pos, af, none⟩) :: pend) F K :=
  WK.act fun a w' K' hF hK ho hK' => by
    refine wpOp_of ho rfl ?_
    have hr : (execOp a.eval ⟨d, .call { callee := .value (.func f), args := xs.toArray, argTypes := ts }, ty, pos, af, none⟩).run c.P w' = .ok (.enter f us.toArray) w' := by
      have := hF.evsl hx
      have h9 := hen us.toArray w'
      simp [execOp, resolve, invoke, Deferred.ofValue, Act.eval, this, h9]
    unfold Oper.wp
    rw [hr]
    refine Calls.mono (hc w' hK) ?_
    rintro e w'' ⟨x, rfl, hs⟩
    exact hK' _ _ _ _ hs (hF.fput hd _) (h x)
theorem WK.mk {i : Nat} {d : Option Tmp} {op : Op} {v : Nat → Value} {t : TypeId} {cs : List Value} (hm : Mk c F K ⟨d, op, ty, pos, af, none⟩ v t cs) (hd : dok d c.n = true) (h : ∀ b, WK c ops Q nf fl bs pend (fput F d (v b)) (.blk b t cs :: K)) : WK c ops Q nf fl (false :: bs) ((i, ⟨d, op, ty, pos, af, none⟩) :: pend) F K :=
  WK.act fun a w' K' hF hK ho hK' => by
    refine wpOp_of ho rfl ?_
    have hr := hm a w' hF hK
    unfold Oper.wp
    rw [hr]
    have hs : Sat [] w' [.blk w'.heap.size t cs] (w'.alloc (.cells cs.toArray t)) := (Sat.start w').new t cs
    exact hK' _ [.blk w'.heap.size t cs] _ _ hs (hF.fput hd _) (h w'.heap.size)
theorem TL.guard {t : Nat} {b : Bool} (ht : fget F t = some (.bool b)) (h1 : b = true → TL c ops Q rest ((t, .bool true) :: F) K) (h2 : b = false → TL c ops Q rest ((t, .bool false) :: F) K) : TL c ops Q rest F K := fun a w hF hK => by
  have key : ∀ b', b = b' → FS c.n c.D ((t, .bool b') :: F) a := fun b' e => ⟨hF.size, hF.dfs, fun u v hv => by
    subst e
    simp only [fget] at hv
    cases hb : Nat.beq t u with
    | true => rw [hb] at hv; have := beq_iff.1 hb; subst this; injection hv with hv; subst hv; exact hF.get _ _ ht
    | false => rw [hb] at hv; exact hF.get _ _ hv⟩
  cases hb : b
  · exact h2 hb a w (key _ hb) hK
  · exact h1 hb a w (key _ hb) hK
theorem wpList_no {P : Program} {o : Oper} {a : Act} {w : World} (hg : Region.wanted o (yielded ops a.tmps) = false) (h : wpList P ops Q rest (a.put o.dst undef) w) : wpList P ops Q (o :: rest) a w := by
  unfold wpList
  rw [if_neg (by simp [hg])]
  exact h
theorem wpList_yes {P : Program} {o : Oper} {v : Value} {a : Act} {w : World} (hg : Region.wanted o (yielded ops a.tmps) = true) (hr : (execOp a.eval o).run P w = .ok (.value v) w) (h : wpList P ops Q rest (a.put o.dst v) w) : wpList P ops Q (o :: rest) a w := by
  unfold wpList
  rw [if_pos hg]
  exact .inl (by unfold Oper.wp; rw [hr]; exact h)
theorem TL.gskip {d : Nat} {op : Op} (hg : gdB F ops g = some false) (hd : Nat.blt d c.n = true) (h : TL c ops Q rest ((d, undef) :: F) K) : TL c ops Q (⟨some d, op, ty, pos, af, g⟩ :: rest) F K := fun a w hF hK =>
  wpList_no (hF.wanted hg) (h _ w (hF.put hd _) hK)
theorem TL.gpure {d : Nat} {op : Op} {v : Value} (hg : gdB F ops g = some true) (hp : Pu c F K ⟨some d, op, ty, pos, af, g⟩ v) (hd : Nat.blt d c.n = true) (h : TL c ops Q rest ((d, v) :: F) K) : TL c ops Q (⟨some d, op, ty, pos, af, g⟩ :: rest) F K := fun a w hF hK =>
  wpList_yes (hF.wanted hg) (hp a w hF hK) (h _ w (hF.put hd v) hK)
theorem TL.gcall {d : Option Tmp} {f : FuncId} {xs : List Operand} {ts : Array TypeId} {us : List Value} {v : Value} (hg : gdB F ops g = some true) (hx : evs F xs = some us) (hen : Enters c.P f) (hd : dok d c.n = true)
    (hc : ∀ w, Sat c.S c.w0 K w → Calls c.P f us.toArray w (Ret w v)) (h : TL c ops Q rest (fput F d v) K) : TL c ops Q (⟨d, .call { callee := .value (.func f), args := xs.toArray, argTypes := ts }, ty, pos, af, g⟩ :: rest) F K := fun a w hF hK => by
  have hr : (execOp a.eval ⟨d, .call { callee := .value (.func f), args := xs.toArray, argTypes := ts }, ty, pos, af, g⟩).run c.P w = .ok (.enter f us.toArray) w := by
    have := hF.evsl hx
    have h9 := hen us.toArray w
    simp [execOp, resolve, invoke, Deferred.ofValue, Act.eval, this, h9]
  unfold wpList
  rw [if_pos (hF.wanted hg)]
  refine .inl ?_
  unfold Oper.wp
  rw [hr]
  refine Calls.mono (hc w hK) ?_
  rintro e w' ⟨rfl, hb⟩
  exact h _ _ (hF.fput hd _) (hK.ext hb)
theorem WK.lit {t : Nat} {b b' : Bool} (ht : fget F t = some (.bool b)) (hb : b = b') (h : WK c ops Q nf fl bs pend ((t, .bool b') :: F) K) : WK c ops Q nf fl bs pend F K := fun W N a w hp h0 hF hK hN hb9 =>
  h W N a w hp h0 ⟨hF.size, hF.dfs, fun u v hv => by
    simp only [fget] at hv
    cases h1 : Nat.beq t u with
    | true => rw [h1] at hv; have := beq_iff.1 h1; subst this; injection hv with hv; subst hv; rw [← hb]; exact hF.get _ _ ht
    | false => rw [h1] at hv; exact hF.get _ _ hv⟩ hK hN hb9
theorem WK.quiet {i : Nat} {o : Oper} {v : Value} {F2 : Fr} (hF2 : ∀ a, FS c.n c.D F a → FS c.n c.D F2 (a.put o.dst v)) (hy : ∀ a w, FS c.n c.D F a → Sat c.S c.w0 K w → YieldsIf c.P (frontOf ops nf) (fun w3 => Ext w w3) o v a) (h : WK c ops Q nf fl bs pend F2 K) : WK c ops Q nf fl (true :: bs) ((i, o) :: pend) F K := fun W N a w hp h0 hF hK hN hb => by
  intro w' he o' ho'
  have : o = o' := by
    have := hp (i, o) (by simp)
    rw [this] at ho'; injection ho'
  subst this
  exact ⟨v, hy a w' hF (hK.ext he), h W N _ w' (fun p hp' => hp p (by simp [hp'])) h0 (hF2 a hF) (hK.ext he) hN (Ext.trans hb he)⟩
theorem WK.pure {i d : Nat} {op : Op} {v : Value} (hg : gdB F (frontOf ops nf) g = some true) (hp : Pu c F K ⟨some d, op, ty, pos, af, g⟩ v) (hd : Nat.blt d c.n = true) (h : WK c ops Q nf fl bs pend ((d, v) :: F) K) : WK c ops Q nf fl (true :: bs) ((i, ⟨some d, op, ty, pos, af, g⟩) :: pend) F K :=
  WK.quiet (fun a hF => hF.put hd v) (fun a w hF hK => .inl ⟨hF.wanted hg, fun w3 h3 => hp a w3 hF (hK.ext h3)⟩) h
theorem WK.gcall {i : Nat} {d : Option Tmp} {f : FuncId} {xs : List Operand} {ts : Array TypeId} {us : List Value} {v : Value} (hg : gdB F (frontOf ops nf) g = some true) (hx : evs F xs = some us) (hen : Enters c.P f) (hd : dok d c.n = true)
    (hc : ∀ w, Sat c.S c.w0 K w → Calls c.P f us.toArray w (Ret w v)) (h : WK c ops Q nf fl bs pend (fput F d v) K) : WK c ops Q nf fl (false :: bs) ((i, ⟨d, .call { callee := .value (.func f), args := xs.toArray, argTypes := ts }, ty, pos, af, g⟩) :: pend) F K :=
  WK.act fun a w' K' hF hK ho hK' => by
    refine wpOp_of ho (hF.wanted hg) ?_
    have hr : (execOp a.eval ⟨d, .call { callee := .value (.func f), args := xs.toArray, argTypes := ts }, ty, pos, af, g⟩).run c.P w' = .ok (.enter f us.toArray) w' := by
      have := hF.evsl hx
      have h9 := hen us.toArray w'
      simp [execOp, resolve, invoke, Deferred.ofValue, Act.eval, this, h9]
    unfold Oper.wp
    rw [hr]
    refine Calls.mono (hc w' hK) ?_
    rintro e w'' ⟨rfl, hb⟩
    exact hK' _ [] _ _ (Sat.nil (Chg.of_ext hb)) (hF.fput hd _) h
theorem TW.join {x : Code} (E : Fr) (h : TQ c Q .normal (E ++ F) K) (r : TQ c Q .normal (E ++ F) K → TW c x Q F K) : TW c x Q F K := r h
theorem Pu.pickT {d : Option Tmp} {t x y : Operand} {u : Value} (ht : ev F t = some (.bool true)) (hx : ev F x = some u) : Pu c F K ⟨d, .pick t x y, ty, pos, af, g⟩ u := fun a w hF _ => by
  simp only [execOp, hF.evl ht, hF.evl hx, asBool, Sem.run_bind, Sem.run_pure, Result.andThen_ok, if_true]
theorem Pu.pickF {d : Option Tmp} {t x y : Operand} {u : Value} (ht : ev F t = some (.bool false)) (hy : ev F y = some u) : Pu c F K ⟨d, .pick t x y, ty, pos, af, g⟩ u := fun a w hF _ => by
  simp only [execOp, hF.evl ht, hF.evl hy, asBool, Sem.run_bind, Sem.run_pure, Result.andThen_ok, Bool.false_eq_true, if_false]
theorem CallsK.ret {P : Program} {f : FuncId} {args : Array Value} {w : World} {v : Value} (h : Calls P f args w (Ret w v)) : CallsK P f args [] w Unit (fun _ => v) (fun _ => []) :=
  Calls.mono h fun e w' ⟨h1, h2⟩ => ⟨(), h1, Sat.nil (Chg.of_ext h2)⟩
theorem Ret.of {w w' : World} {v : Value} {L : List Fact} (h : Sat [] w L w') : Ret w v (.returned v) w' := ⟨rfl, Chg.ext h.chg⟩
end
end Go.Proofs.YtfgnbkegdjkdmaaGreatDoor
namespace Go.Proofs.YtfgnbkegdjkdmaaGreatDoor
set_option linter.all false
set_option linter.unusedVariables false
set_option linter.unusedSimpArgs false
open Go.ChangeShapes Go.WideShapes Go.RowKit Go.Deep
section
variable {H : Type} {enc : TypeId × Value → H} {P : Program} {w : World} {base : Nat} {spare : Nat → Bool} {held : Bool}
theorem trodAll_stays (hl : laidOutB P = true) {W W' : World} (hb : Below W.heap.size W W') {sp' : Nat → Bool} : ∀ {ts : List TypeId} {vs : List Value} {ds : List (DataW H)} {ps : List MemPlace}, ts.all (fun t => P.readableRec t && decide (t < P.types.size)) = true →
    DataW.TrodAll enc P W 0 (fun _ => true) true ts vs ds ps → (∀ p ∈ ps, p.block < W.heap.size) → (∀ p ∈ ps, sp' p.block = true) → DataW.TrodAll enc P W' 0 sp' true ts vs ds ps
  | [], [], [], ps, _, h, _, _ => h
  | t :: ts, v :: vs, d :: ds, ps, ht, h, hlt, hs => by
    simp only [List.all_cons, Bool.and_eq_true, decide_eq_true_eq] at ht
    obtain ⟨p, q, h1, h2, rfl⟩ := h
    exact ⟨p, q, WideElems.Trod_stays hl ht.1.1 ht.1.2 h1 (fun x hx => hb.same (hlt x (by simp [hx]))) (fun x hx => hs x (by simp [hx])), trodAll_stays hl hb ht.2 h2 (fun x hx => hlt x (by simp [hx])) (fun x hx => hs x (by simp [hx])), rfl⟩
theorem law_post {f : Func} {s : ChangeSpec} {apart fresh handsOn again : Bool} {W W' : World} {args : Array Value} {ds : List (DataW H)} {p : List MemPlace} {tb : TypeId} (hl : laidOutB P = true) (hvars : s.vars = [])
    (hW : DataW.Whole enc P f.params.toList s.vars apart W args.toList ds [] p) (hA : DataW.TrodAll enc P W 0 (fun _ => true) true f.params.toList args.toList ds p)
    (ht : f.params.toList.all (fun t => P.readableRec t && decide (t < P.types.size)) = true) (hrt : f.resultTypes = #[tb]) (htb : P.underlying tb = some .bool) (hfn : s.fn H ds = { results := [.lit (.bool true)], args := ds }) (hb : Below W.heap.size W W') :
    s.post enc P f apart fresh handsOn again W args (.bool true) W' := by
  have hlt : ∀ q ∈ p, q.block < W.heap.size := fun q hq => hW.lt q hq
  have hold : ∀ q ∈ p, (fun b => decide (b < W.heap.size)) q.block = true := fun q hq => by simpa using hW.lt q hq
  have hres : ∀ (b : Nat) (sp : Nat → Bool) (hd : Bool), DataW.TrodAll enc P W' b sp hd f.resultTypes.toList ((Value.bool true).resultList f.resultTypes.size) (s.fn H (ds ++ [])).results [] := fun b sp hd => by
    rw [List.append_nil, hfn, hrt]
    exact ⟨[], [], shut_bool htb true, rfl, rfl⟩
  have hargs : ∀ sp : Nat → Bool, (∀ q ∈ p, sp q.block = true) → DataW.TrodAll enc P W' 0 sp true f.params.toList args.toList (s.fn H (ds ++ [])).args p := fun sp hs => by
    rw [List.append_nil, hfn]
    exact trodAll_stays hl hb ht hA (fun q hq => hW.lt q hq) hs
  have hv : ∀ sp : Nat → Bool, DataW.TrodVars enc P W' sp s.vars (s.fn H (ds ++ [])).vars [] := fun sp => by
    rw [List.append_nil, hfn, hvars]; exact rfl
  have hok : ∀ (j : Nat) (t : TypeId) (r : Value), f.resultTypes[j]? = some t → ((Value.bool true).resultList f.resultTypes.size)[j]? = some r → Value.okWide P W' .any 0 t r := ok_one (by rw [hrt]) rfl (okWide_bool_mk htb true)
  refine ⟨ds, [], p, [], p, [], hW, hres _ _ _, hargs _ hold, hv _, World.keptBut_mono (fun q hq => ⟨hq, by simpa using hq⟩) (hb.frame (· ∈ p)), fun _ => ?_⟩
  obtain ⟨_, _, _, _, _, hz, hn⟩ := hW
  refine ⟨hok, _, _, ([] ++ p) ++ [], ⟨[] ++ p, [], trodAll_append (hargs _ (fun _ _ => rfl)) (hres _ _ _), hv _, rfl, ?_, ?_⟩, ?_⟩
  · intro b off hp
    have hin : MemPlace.cell b off ∈ p := by simpa using hp
    rw [hb.frozen (hlt _ hin)]
    exact hz b off hin
  · intro ha
    have := hn ha
    simpa using this
  · intro q hq _
    simpa using hq
end
end Go.Proofs.YtfgnbkegdjkdmaaGreatDoor
