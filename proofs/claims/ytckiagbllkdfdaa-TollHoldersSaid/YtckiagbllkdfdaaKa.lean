/-
  A layer over the walk: what is known of the frame and of memory as two lists; one rule for each operation. No condition on a program.
-/
import Derived.Test.YtckiagbllkdfdaaIn
import Derived.Deep.LoopGhost
namespace Go.Proofs.Ytckiagbllkdfdaa
set_option linter.all false
set_option linter.unusedVariables false
set_option linter.unusedSimpArgs false
open Go.RowKit
/-! ### The frame: what is known of its slots -/
abbrev Fr := List (Nat × Value)
def fget : Fr → Nat → Option Value
  | [], _ => none
  | (i, v) :: F, t => match Nat.beq i t with
    | true => some v
    | false => fget F t
def ev (F : Fr) : Operand → Option Value
  | .tmp t => fget F t
  | .const v => some v
  | .global g => some (.pointer (some ⟨g, 0, none⟩))
  | .func f => some (.func (.func f) #[] #[])
def evs (F : Fr) : List Operand → Option (List Value)
  | [] => some []
  | x :: xs => match ev F x with
    | some v => match evs F xs with
      | some vs => some (v :: vs)
      | none => none
    | none => none
structure FS (n : Nat) (D : List Deferred) (F : Fr) (a : Act) : Prop where
  size : a.tmps.size = n
  dfs : a.defers = D
  get : ∀ t v, fget F t = some v → a.tmps.getD t undef = v
section
variable {n : Nat} {D : List Deferred} {F F' : Fr} {a : Act}
theorem FS.evl (h : FS n D F a) {x : Operand} {v : Value} (hx : ev F x = some v) : a.eval x = v := by
  cases x with
  | tmp t => exact h.get t v hx
  | const u => injection hx
  | global g => injection hx
  | func f => injection hx
theorem FS.evsl (h : FS n D F a) : ∀ {xs : List Operand} {vs : List Value}, evs F xs = some vs → xs.map a.eval = vs
  | [], vs, hx => by cases hx; rfl
  | x :: xs, vs, hx => by
    simp only [evs] at hx
    cases h1 : ev F x with
    | none => rw [h1] at hx; cases hx
    | some v =>
      rw [h1] at hx
      cases h2 : evs F xs with
      | none => rw [h2] at hx; cases hx
      | some us =>
        rw [h2] at hx
        injection hx with hx
        subst hx
        rw [List.map_cons, h.evl h1, FS.evsl h h2]
theorem beq_iff {i t : Nat} : Nat.beq i t = true ↔ i = t := ⟨Nat.eq_of_beq_eq_true, fun e => by subst e; exact Nat.beq_refl i⟩
theorem FS.put (h : FS n D F a) {d : Nat} (hd : Nat.blt d n = true) (v : Value) : FS n D ((d, v) :: F) (a.put (some d) v) := by
  have hd' : d < n := by have := Nat.le_of_ble_eq_true hd; omega
  refine ⟨by simp [Act.put, h.size], by simp [Act.put, h.dfs], fun t u hu => ?_⟩
  simp only [fget] at hu
  cases hb : Nat.beq d t with
  | true =>
    rw [hb] at hu
    have := beq_iff.1 hb
    subst this
    injection hu with hu
    subst hu
    simp [Act.put, Array.getD_eq_getD_getElem?, h.size, hd']
  | false =>
    rw [hb] at hu
    have hne : d ≠ t := fun e => by rw [beq_iff.2 e] at hb; cases hb
    have := h.get t u hu
    simp only [Act.put, Array.getD_eq_getD_getElem?] at this ⊢
    rwa [Array.getElem?_setIfInBounds_ne hne]
theorem FS.sub (h : FS n D F a) (hs : ∀ t v, fget F' t = some v → fget F t = some v) : FS n D F' a := ⟨h.size, h.dfs, fun t v hv => h.get t v (hs t v hv)⟩
theorem FS.keep (h : FS n D F a) (d : Option Nat) (v : Value) (hF : ∀ t, d = some t → fget F t = none ∧ False) : FS n D F (a.put d v) := by
  cases d with
  | none => exact h
  | some t => exact (hF t rfl).2.elim
def hasN : List Nat → Nat → Bool
  | [], _ => false
  | x :: xs, t => match Nat.beq x t with
    | true => true
    | false => hasN xs t
/-- F' says nothing that F does not say. -/
def fsubS (F : Fr) : List Nat → Fr → Prop
  | _, [] => True
  | s, (i, v) :: G => (match hasN s i with
    | true => True
    | false => fget F i = some v) ∧ fsubS F (i :: s) G
def fsub (F G : Fr) : Prop := fsubS F [] G
theorem fsubS_spec : ∀ {G : Fr} {s : List Nat}, fsubS F s G → ∀ t v, hasN s t = false → fget G t = some v → fget F t = some v
  | [], _, _, t, v, _, h => by cases h
  | (i, u) :: G, s, h, t, v, hs, hv => by
    simp only [fget] at hv
    cases hb : Nat.beq i t with
    | true =>
      rw [hb] at hv
      have := beq_iff.1 hb
      subst this
      have h1 := h.1
      rw [hs] at h1
      exact h1.trans hv
    | false => rw [hb] at hv; exact fsubS_spec h.2 t v (by simp only [hasN, hb]; exact hs) hv
theorem fsub_spec {G : Fr} (h : fsub F G) : ∀ t v, fget G t = some v → fget F t = some v := fun t v hv => fsubS_spec h t v rfl hv
end
/-! ### Memory: what is known of blocks, each by itself -/
/-- Row i as a list, as a family of cells. -/
def rowF (r : Nat → List Value) : Nat → Nat → Value := fun i j => (r i).getD j undef
/-- The slice at A with n elements of sz cells holds the rows r. -/
structure RdR (w : World) (sz : Nat) (A : Option Addr) (n : Nat) (r : Nat → List Value) : Prop where
  rd : Rd w sz A n (rowF r)
  len : ∀ i, i < n → (r i).length = sz
structure OwnR (w : World) (A : Option Addr) (n c : Nat) (E : TypeId) (sz : Nat) (r : Nat → List Value) : Prop where
  own : Own w 0 E sz (.slice A n c) n (rowF r)
  len : ∀ i, i < n → (r i).length = sz
inductive Fact where
  | blk (b : Nat) (t : TypeId) (cs : List Value)
  | own (A : Option Addr) (n c : Nat) (E : TypeId) (sz : Nat) (r : Nat → List Value)
  | obj (b : Nat) (o : Obj)
  | pr (l : List Nat) (p : World → Prop)
def Fact.foot : Fact → List Nat
  | .blk b _ _ => [b]
  | .own (some a) _ _ _ _ _ => [a.block]
  | .own none _ _ _ _ _ => []
  | .obj b _ => [b]
  | .pr l _ => l
structure PrOk (l : List Nat) (p : World → Prop) (w : World) : Prop where
  now : p w
  lt : ∀ b ∈ l, b < w.heap.size
  loc : ∀ w w' : World, (∀ b ∈ l, b < w.heap.size) → p w → (∀ b ∈ l, w'.heap[b]? = w.heap[b]?) → p w'
def Fact.holds : Fact → World → Prop
  | .blk b t cs, w => Blk w b t cs.toArray
  | .own A n c E sz r, w => OwnR w A n c E sz r
  | .obj b o, w => w.heap[b]? = some o ∧ o.isCells = false
  | .pr l p, w => PrOk l p w
theorem lt_of_get {w : World} {b : Nat} {o : Obj} (h : w.heap[b]? = some o) : b < w.heap.size := (Array.getElem?_eq_some_iff.1 h).1
theorem own_foot {A : Option Addr} {n c : Nat} {E : TypeId} {sz : Nat} {r : Nat → List Value} : (Fact.own A n c E sz r).foot = (Value.slice A n c).ownBlock.toList := by
  cases A <;> rfl
theorem Fact.lt {φ : Fact} {w : World} (h : φ.holds w) : ∀ b ∈ φ.foot, b < w.heap.size := by
  intro b hb
  match φ, h, hb with
  | .blk b' t cs, h, hb => simp only [Fact.foot, List.mem_singleton] at hb; subst hb; exact Blk.lt h
  | .own (some a) n c E sz f, h, hb => simp only [Fact.foot, List.mem_singleton] at hb; subst hb; exact (Own.blk h.own rfl).2
  | .obj b' o, h, hb => simp only [Fact.foot, List.mem_singleton] at hb; subst hb; exact lt_of_get h.1
  | .pr l p, h, hb => exact h.lt b hb
theorem own_of_block {w w' : World} {E : TypeId} {sz n : Nat} {v : Value} {f : Nat → Nat → Value} (h : Own w 0 E sz v n f) (he : ∀ b, v.ownBlock = some b → w'.heap[b]? = w.heap[b]?) : Own w' 0 E sz v n f := by
  rcases h with ⟨h1, h2⟩
  refine ⟨h1, ?_⟩
  rcases h2 with h2 | ⟨g, cap, cur, rfl, hg, hh, r⟩
  · exact .inl h2
  · exact .inr ⟨g, cap, cur, rfl, hg, by rw [he g rfl]; exact hh, r⟩
theorem Fact.loc {φ : Fact} {w w' : World} (h : φ.holds w) (he : ∀ b ∈ φ.foot, w'.heap[b]? = w.heap[b]?) (hs : w.heap.size ≤ w'.heap.size) : φ.holds w' := by
  match φ, h, he with
  | .blk b t cs, h, he => exact (he b (by simp [Fact.foot])).trans h
  | .own A n c E sz f, h, he => exact ⟨own_of_block h.own fun b hb => he b (by rw [own_foot, hb]; simp), h.len⟩
  | .obj b o, h, he => exact ⟨(he b (by simp [Fact.foot])).trans h.1, h.2⟩
  | .pr l p, h, he => exact ⟨h.loc w w' h.lt h.now he, fun b hb => Nat.lt_of_lt_of_le (h.lt b hb) hs, h.loc⟩
def feet (K : List Fact) : List Nat := K.flatMap Fact.foot
theorem feet_cons (φ : Fact) (K : List Fact) : feet (φ :: K) = φ.foot ++ feet K := rfl
theorem feet_append (K L : List Fact) : feet (K ++ L) = feet K ++ feet L := by simp [feet]
/-- Of what was there only blocks of S have turned. -/
structure Chg (S : List Nat) (w w' : World) : Prop where
  os : w'.os = w.os
  tape : w'.tape = w.tape
  output : w'.output = w.output
  size : w.heap.size ≤ w'.heap.size
  block : ∀ k, k < w.heap.size → k ∉ S → w'.heap[k]? = w.heap[k]?
theorem Chg.of_ext {w w' : World} (h : Below w.heap.size w w') : Chg [] w w' := ⟨h.os, h.tape, h.output, h.size, fun k hk _ => h.block k hk⟩
theorem Chg.ext {w w' : World} (h : Chg [] w w') : Below w.heap.size w w' := ⟨h.os, h.tape, h.output, h.size, fun k hk => h.block k hk (by simp)⟩
theorem Chg.refl (S : List Nat) (w : World) : Chg S w w := ⟨rfl, rfl, rfl, Nat.le_refl _, fun _ _ _ => rfl⟩
theorem Chg.trans {S : List Nat} {a b c : World} (h : Chg S a b) (k : Chg S b c) : Chg S a c :=
  ⟨k.os.trans h.os, k.tape.trans h.tape, k.output.trans h.output, Nat.le_trans h.size k.size, fun i hi hS => (k.block i (Nat.lt_of_lt_of_le hi h.size) hS).trans (h.block i hi hS)⟩
theorem Chg.grown {w w' : World} {row : Option Nat} (h : w.grownBy w' row) : Chg row.toList w w' := ⟨h.os, h.tape, h.output, h.size, fun k hk hS => h.block k hk (fun e => hS (by rw [← e]; simp))⟩
theorem Chg.drew {S : List Nat} {a b : World} (h : Chg S a b) : Chg S a b.drew := ⟨h.os, h.tape, h.output, h.size, h.block⟩
theorem Chg.setCell (w : World) (p : Addr) (u : Value) : Chg [p.block] w (w.setCell p u) := ⟨rfl, rfl, rfl, by simp, fun k _ hk => Below.heap_setCell _ _ _ _ (by simpa using hk)⟩
/-- What is known: since w0 only blocks of S, and new ones, have turned; the facts hold, each of blocks of its own. -/
structure Sat (S : List Nat) (w0 : World) (K : List Fact) (w : World) : Prop where
  chg : Chg S w0 w
  nd : (feet K).Nodup
  ge : ∀ b ∈ feet K, b ∈ S ∨ w0.heap.size ≤ b
  holds : ∀ φ ∈ K, φ.holds w
inductive Pick : List Fact → Fact → List Fact → Prop
  | hd {φ : Fact} {K : List Fact} : Pick (φ :: K) φ K
  | tl {φ ψ : Fact} {K K' : List Fact} : Pick K φ K' → Pick (ψ :: K) φ (ψ :: K')
section
variable {S : List Nat} {w0 w w' : World} {K K' M L : List Fact} {φ φ' : Fact}
theorem Pick.perm (h : Pick K φ K') : K.Perm (φ :: K') := by
  induction h with
  | hd => exact List.Perm.refl _
  | tl _ ih => exact (ih.cons _).trans (List.Perm.swap _ _ _)
theorem Pick.mem (h : Pick K φ K') : φ ∈ K := h.perm.mem_iff.2 (by simp)
theorem Sat.perm (h : Sat S w0 K w) (hp : K.Perm K') : Sat S w0 K' w :=
  have hf : (feet K).Perm (feet K') := hp.flatMap_right _
  ⟨h.chg, hf.nodup_iff.1 h.nd, fun b hb => h.ge b (hf.mem_iff.2 hb), fun φ hφ => h.holds φ (hp.mem_iff.2 hφ)⟩
theorem Sat.pick (h : Sat S w0 K w) (hp : Pick K φ K') : Sat S w0 (φ :: K') w := h.perm hp.perm
theorem Sat.lt (h : Sat S w0 K w) : ∀ b ∈ feet K, b < w.heap.size := fun b hb => by
  obtain ⟨ψ, hψ, hb'⟩ := List.mem_flatMap.1 hb
  exact Fact.lt (h.holds ψ hψ) b hb'
/-- A step that takes the facts M and gives the facts L, whatever else is known. -/
theorem Sat.step (h : Sat S w0 (M ++ K) w) (k : Sat (feet M) w L w') : Sat S w0 (L ++ K) w' := by
  have hnd := List.nodup_append.1 (feet_append M K ▸ h.nd)
  have hltK : ∀ b ∈ feet K, b < w.heap.size := fun b hb => h.lt b (by rw [feet_append]; simp [hb])
  have hgeM : ∀ b ∈ feet M, b ∈ S ∨ w0.heap.size ≤ b := fun b hb => h.ge b (by rw [feet_append]; simp [hb])
  refine ⟨?_, ?_, fun b hb => ?_, fun ψ hψ => ?_⟩
  · refine ⟨k.chg.os.trans h.chg.os, k.chg.tape.trans h.chg.tape, k.chg.output.trans h.chg.output, Nat.le_trans h.chg.size k.chg.size, fun i hi hS => ?_⟩
    refine (k.chg.block i (Nat.lt_of_lt_of_le hi h.chg.size) (fun hm => ?_)).trans (h.chg.block i hi hS)
    rcases hgeM i hm with h1 | h1
    · exact hS h1
    · omega
  · rw [feet_append]
    refine List.nodup_append.2 ⟨k.nd, hnd.2.1, fun x hx y hy e => ?_⟩
    subst e
    rcases k.ge x hx with h1 | h1
    · exact hnd.2.2 x h1 x hy rfl
    · have := hltK x hy; omega
  · rw [feet_append, List.mem_append] at hb
    rcases hb with hb | hb
    · rcases k.ge b hb with h1 | h1
      · exact hgeM b h1
      · exact .inr (Nat.le_trans h.chg.size h1)
    · exact h.ge b (by rw [feet_append]; simp [hb])
  · rcases List.mem_append.1 hψ with hψ | hψ
    · exact k.holds ψ hψ
    · refine Fact.loc (h.holds ψ (by simp [hψ])) (fun b hb => ?_) k.chg.size
      have hb' : b ∈ feet K := List.mem_flatMap.2 ⟨ψ, hψ, hb⟩
      exact k.chg.block b (hltK b hb') (fun hm => hnd.2.2 b hm b hb' rfl)
theorem Sat.add (h : Sat S w0 K w) (k : Sat [] w L w') : Sat S w0 (L ++ K) w' := Sat.step (M := []) h k
theorem Sat.nil (h : Chg S w0 w) : Sat S w0 [] w := ⟨h, by simp [feet], fun b hb => (by cases hb), fun ψ hψ => (by cases hψ)⟩
theorem Sat.ext (h : Sat S w0 K w) (hb : Below w.heap.size w w') : Sat S w0 K w' := h.add (L := []) (Sat.nil (Chg.of_ext hb))
theorem Sat.start (w : World) : Sat [] w [] w := Sat.nil (Chg.refl _ _)
theorem Sat.one (hc : Chg S w0 w) (hnd : φ.foot.Nodup) (hge : ∀ b ∈ φ.foot, b ∈ S ∨ w0.heap.size ≤ b) (hh : φ.holds w) : Sat S w0 [φ] w :=
  ⟨hc, by simpa [feet] using hnd, fun b hb => hge b (by simpa [feet] using hb), fun ψ hψ => by simp only [List.mem_singleton] at hψ; subst hψ; exact hh⟩
theorem Sat.new (h : Sat S w0 K w) (t : TypeId) (cs : List Value) : Sat S w0 (.blk w.heap.size t cs :: K) (w.alloc (.cells cs.toArray t)) :=
  h.add (L := [_]) (Sat.one (Chg.of_ext ((Below.refl _ _).alloc (Nat.le_refl _) _)) (by simp [Fact.foot]) (fun b hb => by simp [Fact.foot] at hb; subst hb; exact .inr (Nat.le_refl _)) (Blk.new w t cs.toArray))
/-- One fact turns. -/
theorem Sat.turn (h : Sat S w0 (φ :: K) w) (hc : Chg φ.foot w w') (hnd : φ'.foot.Nodup) (hf : ∀ b ∈ φ'.foot, b ∈ φ.foot ∨ w.heap.size ≤ b) (hh : φ'.holds w') : Sat S w0 (φ' :: K) w' := by
  have e : feet [φ] = φ.foot := by simp [feet]
  exact Sat.step (M := [φ]) (L := [φ']) h (by rw [e]; exact Sat.one hc hnd hf hh)
end
def flatR : Nat → (Nat → List Value) → List Value
  | 0, _ => []
  | n + 1, r => flatR n r ++ r n
theorem flatR_spec {n sz : Nat} {r : Nat → List Value} (h : ∀ i, i < n → (r i).length = sz) : flatR n r = flat sz n (rowF r) := by
  induction n with
  | zero => rfl
  | succ n ih =>
    rw [flatR, ih fun i hi => h i (by omega), flat_succ]
    congr 1
    have hl := h n (by omega)
    refine List.ext_getElem (by simp [hl]) fun j h1 h2 => ?_
    simp [rowF, List.getD_eq_getElem?_getD, List.getElem?_eq_getElem h1]
theorem OwnR.of_blk {w : World} {b : Nat} {E : TypeId} {cs : List Value} {n sz : Nat} {r : Nat → List Value} (h : Blk w b E cs.toArray) (hr : flatR n r = cs) (hl : ∀ i, i < n → (r i).length = sz) (hz : Nat.blt 0 sz = true) (hn : Nat.ble n 1000000 = true) : OwnR w (some ⟨b, 0, none⟩) n n E sz r := by
  have e : cs = flat sz n (rowF r) := hr.symm.trans (flatR_spec hl)
  refine ⟨Own.of_blk h (Nat.zero_le _) (by rw [e]; simp [flat_length]) (Nat.le_of_ble_eq_true hz) (by have := Nat.le_of_ble_eq_true hn; simp only [maxLen]; omega) fun i j hi hj => ?_, hl⟩
  rw [e]
  have := flat_get (f := rowF r) hi hj
  simp [Array.getD_eq_getD_getElem?, this]
/-- What K knows gives what L knows. -/
inductive KSub : List Fact → List Fact → Prop
  | nil {K : List Fact} : KSub K []
  | nilOwn {K L : List Fact} {E : TypeId} {sz : Nat} {r : Nat → List Value} : KSub K L → KSub K (.own none 0 0 E sz r :: L)
  | cons {K K1 L : List Fact} {φ : Fact} : Pick K φ K1 → KSub K1 L → KSub K (φ :: L)
  | own {K K1 L : List Fact} {A : Option Addr} {n c : Nat} {E : TypeId} {sz : Nat} {r s : Nat → List Value} : Pick K (.own A n c E sz r) K1 → (∀ i, i < n → r i = s i) → KSub K1 L → KSub K (.own A n c E sz s :: L)
  | ofBlk {K K1 L : List Fact} {b : Nat} {E : TypeId} {cs : List Value} {n sz : Nat} {r : Nat → List Value} : Pick K (.blk b E cs) K1 → flatR n r = cs → (∀ i, i < n → (r i).length = sz) → Nat.blt 0 sz = true → Nat.ble n 1000000 = true → KSub K1 L → KSub K (.own (some ⟨b, 0, none⟩) n n E sz r :: L)
theorem own_foot1 {b n c : Nat} {E : TypeId} {sz : Nat} {r : Nat → List Value} : (Fact.own (some ⟨b, 0, none⟩) n c E sz r).foot = [b] := rfl
theorem KSub.spec {K L : List Fact} (h : KSub K L) : (∃ R, (feet K).Perm (feet L ++ R)) ∧ ∀ w, (∀ φ ∈ K, φ.holds w) → ∀ φ ∈ L, φ.holds w := by
  induction h with
  | nil => exact ⟨⟨_, List.Perm.refl _⟩, fun w _ φ hφ => by cases hφ⟩
  | @cons K K1 L φ hp _ ih =>
    obtain ⟨⟨R, hR⟩, ih⟩ := ih
    refine ⟨⟨R, ?_⟩, fun w hw ψ hψ => ?_⟩
    · have := hp.perm.flatMap_right Fact.foot
      refine List.Perm.trans this ?_
      show (φ.foot ++ feet K1).Perm (φ.foot ++ feet L ++ R)
      rw [List.append_assoc]
      exact List.Perm.append_left _ hR
    · rcases List.mem_cons.1 hψ with rfl | hψ
      · exact hw _ hp.mem
      · exact ih w (fun χ hχ => hw χ (hp.perm.mem_iff.2 (by simp [hχ]))) ψ hψ
  | @own K K1 L A n c E sz r s hp he _ ih =>
    obtain ⟨⟨R, hR⟩, ih⟩ := ih
    refine ⟨⟨R, ?_⟩, fun w hw ψ hψ => ?_⟩
    · have := hp.perm.flatMap_right Fact.foot
      refine List.Perm.trans this ?_
      show ((Fact.own A n c E sz r).foot ++ feet K1).Perm ((Fact.own A n c E sz s).foot ++ feet L ++ R)
      rw [List.append_assoc, own_foot, own_foot]
      exact List.Perm.append_left _ hR
    · rcases List.mem_cons.1 hψ with rfl | hψ
      · have h0 := hw _ hp.mem
        exact ⟨Own.congr h0.own fun i j hi hj => by simp only [rowF, he i hi], fun i hi => by rw [← he i hi]; exact h0.len i hi⟩
      · exact ih w (fun χ hχ => hw χ (hp.perm.mem_iff.2 (by simp [hχ]))) ψ hψ
  | @nilOwn K L E sz r _ ih =>
    obtain ⟨⟨R, hR⟩, ih⟩ := ih
    refine ⟨⟨R, hR⟩, fun w hw ψ hψ => ?_⟩
    rcases List.mem_cons.1 hψ with rfl | hψ
    · exact ⟨Own.nil _ _ _ _ _, fun i hi => by omega⟩
    · exact ih w hw ψ hψ
  | @ofBlk K K1 L b E cs n sz r hp e1 e2 e3 e4 _ ih =>
    obtain ⟨⟨R, hR⟩, ih⟩ := ih
    refine ⟨⟨R, ?_⟩, fun w hw ψ hψ => ?_⟩
    · have := hp.perm.flatMap_right Fact.foot
      refine List.Perm.trans this ?_
      show ([b] ++ feet K1).Perm ([b] ++ feet L ++ R)
      rw [List.append_assoc]
      exact List.Perm.append_left _ hR
    · rcases List.mem_cons.1 hψ with rfl | hψ
      · exact OwnR.of_blk (hw (.blk b E cs) hp.mem) e1 e2 e3 e4
      · exact ih w (fun χ hχ => hw χ (hp.perm.mem_iff.2 (by simp [hχ]))) ψ hψ
theorem Sat.sub {S : List Nat} {w0 w : World} {K L : List Fact} (h : Sat S w0 K w) (hs : KSub K L) : Sat S w0 L w := by
  obtain ⟨⟨R, hR⟩, hh⟩ := hs.spec
  refine ⟨h.chg, ?_, fun b hb => h.ge b (hR.mem_iff.2 (by simp [hb])), hh w h.holds⟩
  exact (List.nodup_append.1 (hR.nodup_iff.1 h.nd)).1
/-! ### The judgements -/
/-- The program, the number of slots, the deferred calls, the old blocks that may turn, the world at the call. -/
structure Cx where
  P : Program
  n : Nat
  D : List Deferred
  S : List Nat
  w0 : World
def TW (c : Cx) (code : Code) (Q : Exit → Act → World → Prop) (F : Fr) (K : List Fact) : Prop := ∀ a w, FS c.n c.D F a → Sat c.S c.w0 K w → code.wp c.P Q a w
def TL (c : Cx) (ops : Array Oper) (Q : Exit → Act → World → Prop) (rest : List Oper) (F : Fr) (K : List Fact) : Prop := ∀ a w, FS c.n c.D F a → Sat c.S c.w0 K w → wpList c.P ops Q rest a w
def TQ (c : Cx) (Q : Exit → Act → World → Prop) (e : Exit) (F : Fr) (K : List Fact) : Prop := ∀ a w, FS c.n c.D F a → Sat c.S c.w0 K w → Q e a w
/-- The operation yields v and does nothing else. -/
def Pu (c : Cx) (F : Fr) (K : List Fact) (o : Oper) (v : Value) : Prop := ∀ a w, FS c.n c.D F a → Sat c.S c.w0 K w → (execOp a.eval o).run c.P w = .ok (.value v) w
section
variable {c : Cx} {Q : Exit → Act → World → Prop} {F F' : Fr} {K K' : List Fact} {ops : Array Oper} {rest : List Oper}
theorem TW.seq {x y : Code} (h : ∀ Y : Act → World → Prop, (∀ F K, TW c y Q F K → TQ c (fun _ => Y) .normal F K) → TW c x (Exit.then Y Q) F K) : TW c (.seq x y) Q F K := fun a w hF hK =>
  wp_seq (h (y.wp c.P Q) (fun _ _ h => h) a w hF hK)
theorem TQ.thenN {Y : Act → World → Prop} (h : TQ c (fun _ => Y) .normal F K) : TQ c (Exit.then Y Q) .normal F K := h
theorem TQ.thenX {Y : Act → World → Prop} {i : Nat} (h : TQ c Q (.exit i) F K) : TQ c (Exit.then Y Q) (.exit i) F K := h
theorem TQ.thenR {Y : Act → World → Prop} (h : TQ c Q .ret F K) : TQ c (Exit.then Y Q) .ret F K := h
theorem TQ.blkN {i : Nat} (h : TQ c Q .normal F K) : TQ c (Exit.inBlock i Q) .normal F K := h
theorem TQ.blkR {i : Nat} (h : TQ c Q .ret F K) : TQ c (Exit.inBlock i Q) .ret F K := h
theorem TQ.blkX {i : Nat} (h : TQ c Q .normal F K) : TQ c (Exit.inBlock i Q) (.exit i) F K := fun a w hF hK => by
  show (if i = i then Q .normal a w else Q (.exit i) a w)
  rw [if_pos rfl]; exact h a w hF hK
theorem TQ.blkY {i j : Nat} (hij : Nat.beq j i = false) (h : TQ c Q (.exit j) F K) : TQ c (Exit.inBlock i Q) (.exit j) F K := fun a w hF hK => by
  show (if j = i then Q .normal a w else Q (.exit j) a w)
  rw [if_neg (fun e => by rw [beq_iff.2 e] at hij; cases hij)]; exact h a w hF hK
theorem TW.block {i : Nat} {x : Code} (h : TW c x (Exit.inBlock i Q) F K) : TW c (.block i x) Q F K := fun a w hF hK => wp_block (h a w hF hK)
theorem TW.ret (h : TQ c Q .ret F K) : TW c .ret Q F K := fun a w hF hK => wp_ret (h a w hF hK)
theorem TW.exit {i : Nat} (h : TQ c Q (.exit i) F K) : TW c (.exit i) Q F K := fun a w hF hK => wp_exit (h a w hF hK)
theorem TW.skip (h : TQ c Q .normal F K) : TW c .skip Q F K := fun a w hF hK => wp_skip (h a w hF hK)
theorem TW.cond {x : Operand} {s t : Code} {b : Bool} (hx : ev F x = some (.bool b)) (ht : b = true → TW c s Q F K) (hf : b = false → TW c t Q F K) : TW c (.cond x s t) Q F K := fun a w hF hK =>
  wp_cond_split (hF.evl hx) (fun e => ht e a w hF hK) (fun e => hf e a w hF hK)
theorem TW.condT {x : Operand} {s t : Code} {b : Bool} (hx : ev F x = some (.bool b)) (hb : b = true) (h : TW c s Q F K) : TW c (.cond x s t) Q F K := TW.cond hx (fun _ => h) (fun e => by rw [hb] at e; cases e)
theorem TW.condF {x : Operand} {s t : Code} {b : Bool} (hx : ev F x = some (.bool b)) (hb : b = false) (h : TW c t Q F K) : TW c (.cond x s t) Q F K := TW.cond hx (fun e => by rw [hb] at e; cases e) (fun _ => h)
theorem TW.sub {x : Code} (hF : fsub F F') (hK : KSub K K') (h : TW c x Q F' K') : TW c x Q F K := fun a w hf hk => h a w (hf.sub (fsub_spec hF)) (hk.sub hK)
theorem TL.sub (hF : fsub F F') (hK : KSub K K') (h : TL c ops Q rest F' K') : TL c ops Q rest F K := fun a w hf hk => h a w (hf.sub (fsub_spec hF)) (hk.sub hK)
theorem TQ.sub {e : Exit} (hF : fsub F F') (hK : KSub K K') (h : TQ c Q e F' K') : TQ c Q e F K := fun a w hf hk => h a w (hf.sub (fsub_spec hF)) (hk.sub hK)
theorem TW.loop {ι : Type} {x : Code} (FI : ι → Fr) (KI : ι → List Fact) (μ : ι → Nat) (i0 : ι) (hF : fsub F (FI i0)) (hK : KSub K (KI i0))
    (round : ∀ i, ∀ Y : Act → World → Prop, (∀ j F K, μ j < μ i → fsub F (FI j) → KSub K (KI j) → TQ c (fun _ => Y) .normal F K) → TW c x (Exit.then Y Q) (FI i) (KI i)) : TW c (.loop x) Q F K := fun a w hf hk => by
  refine wp_loop_ghost (fun k a w => ∃ i, μ i = k ∧ FS c.n c.D (FI i) a ∧ Sat c.S c.w0 (KI i) w) (μ i0) ⟨i0, rfl, hf.sub (fsub_spec hF), hk.sub hK⟩ ?_
  rintro k a w ⟨i, rfl, hf, hk⟩
  refine round i _ (fun j F K hj hF hK a w h1 h2 => ?_) a w hf hk
  exact ⟨μ j, hj, j, rfl, h1.sub (fsub_spec hF), h2.sub hK⟩
theorem TW.loop1 {ι1 : Type} {x : Code} (FI : ι1 → Fr) (KI : ι1 → List Fact) (p : ι1 → Prop) (μ : ι1 → Nat) (i1 : ι1) (hF : fsub F (FI i1)) (hK : KSub K (KI i1)) (hp : p i1)
    (round : ∀ i1, p i1 → ∀ Y : Act → World → Prop, (∀ j1 F K, p j1 → μ j1 < μ i1 → fsub F (FI j1) → KSub K (KI j1) → TQ c (fun _ => Y) .normal F K) → TW c x (Exit.then Y Q) (FI i1) (KI i1)) : TW c (.loop x) Q F K :=
  TW.loop (ι := { t : ι1 // p t }) (fun t => FI t.1) (fun t => KI t.1) (fun t => μ t.1) ⟨i1, hp⟩ hF hK fun t Y hY => round t.1 t.2 Y fun j1 F K h1 h2 h3 h4 => hY ⟨j1, h1⟩ F K h2 h3 h4
theorem TW.loop2 {ι1 ι2 : Type} {x : Code} (FI : ι1 → ι2 → Fr) (KI : ι1 → ι2 → List Fact) (p : ι1 → ι2 → Prop) (μ : ι1 → ι2 → Nat) (i1 : ι1) (i2 : ι2) (hF : fsub F (FI i1 i2)) (hK : KSub K (KI i1 i2)) (hp : p i1 i2)
    (round : ∀ i1 i2, p i1 i2 → ∀ Y : Act → World → Prop, (∀ j1 j2 F K, p j1 j2 → μ j1 j2 < μ i1 i2 → fsub F (FI j1 j2) → KSub K (KI j1 j2) → TQ c (fun _ => Y) .normal F K) → TW c x (Exit.then Y Q) (FI i1 i2) (KI i1 i2)) : TW c (.loop x) Q F K :=
  TW.loop (ι := { t : ι1 × ι2 // p t.1 t.2 }) (fun t => FI t.1.1 t.1.2) (fun t => KI t.1.1 t.1.2) (fun t => μ t.1.1 t.1.2) ⟨(i1, i2), hp⟩ hF hK fun t Y hY => round t.1.1 t.1.2 t.2 Y fun j1 j2 F K h1 h2 h3 h4 => hY ⟨(j1, j2), h1⟩ F K h2 h3 h4
theorem TW.loop3 {ι1 ι2 ι3 : Type} {x : Code} (FI : ι1 → ι2 → ι3 → Fr) (KI : ι1 → ι2 → ι3 → List Fact) (p : ι1 → ι2 → ι3 → Prop) (μ : ι1 → ι2 → ι3 → Nat) (i1 : ι1) (i2 : ι2) (i3 : ι3) (hF : fsub F (FI i1 i2 i3)) (hK : KSub K (KI i1 i2 i3)) (hp : p i1 i2 i3)
    (round : ∀ i1 i2 i3, p i1 i2 i3 → ∀ Y : Act → World → Prop, (∀ j1 j2 j3 F K, p j1 j2 j3 → μ j1 j2 j3 < μ i1 i2 i3 → fsub F (FI j1 j2 j3) → KSub K (KI j1 j2 j3) → TQ c (fun _ => Y) .normal F K) → TW c x (Exit.then Y Q) (FI i1 i2 i3) (KI i1 i2 i3)) : TW c (.loop x) Q F K :=
  TW.loop (ι := { t : ι1 × ι2 × ι3 // p t.1 t.2.1 t.2.2 }) (fun t => FI t.1.1 t.1.2.1 t.1.2.2) (fun t => KI t.1.1 t.1.2.1 t.1.2.2) (fun t => μ t.1.1 t.1.2.1 t.1.2.2) ⟨(i1, i2, i3), hp⟩ hF hK fun t Y hY => round t.1.1 t.1.2.1 t.1.2.2 t.2 Y fun j1 j2 j3 F K h1 h2 h3 h4 => hY ⟨(j1, j2, j3), h1⟩ F K h2 h3 h4
theorem TW.loop4 {ι1 ι2 ι3 ι4 : Type} {x : Code} (FI : ι1 → ι2 → ι3 → ι4 → Fr) (KI : ι1 → ι2 → ι3 → ι4 → List Fact) (p : ι1 → ι2 → ι3 → ι4 → Prop) (μ : ι1 → ι2 → ι3 → ι4 → Nat) (i1 : ι1) (i2 : ι2) (i3 : ι3) (i4 : ι4) (hF : fsub F (FI i1 i2 i3 i4)) (hK : KSub K (KI i1 i2 i3 i4)) (hp : p i1 i2 i3 i4)
    (round : ∀ i1 i2 i3 i4, p i1 i2 i3 i4 → ∀ Y : Act → World → Prop, (∀ j1 j2 j3 j4 F K, p j1 j2 j3 j4 → μ j1 j2 j3 j4 < μ i1 i2 i3 i4 → fsub F (FI j1 j2 j3 j4) → KSub K (KI j1 j2 j3 j4) → TQ c (fun _ => Y) .normal F K) → TW c x (Exit.then Y Q) (FI i1 i2 i3 i4) (KI i1 i2 i3 i4)) : TW c (.loop x) Q F K :=
  TW.loop (ι := { t : ι1 × ι2 × ι3 × ι4 // p t.1 t.2.1 t.2.2.1 t.2.2.2 }) (fun t => FI t.1.1 t.1.2.1 t.1.2.2.1 t.1.2.2.2) (fun t => KI t.1.1 t.1.2.1 t.1.2.2.1 t.1.2.2.2) (fun t => μ t.1.1 t.1.2.1 t.1.2.2.1 t.1.2.2.2) ⟨(i1, i2, i3, i4), hp⟩ hF hK fun t Y hY => round t.1.1 t.1.2.1 t.1.2.2.1 t.1.2.2.2 t.2 Y fun j1 j2 j3 j4 F K h1 h2 h3 h4 => hY ⟨(j1, j2, j3, j4), h1⟩ F K h2 h3 h4
theorem TW.loop5 {ι1 ι2 ι3 ι4 ι5 : Type} {x : Code} (FI : ι1 → ι2 → ι3 → ι4 → ι5 → Fr) (KI : ι1 → ι2 → ι3 → ι4 → ι5 → List Fact) (p : ι1 → ι2 → ι3 → ι4 → ι5 → Prop) (μ : ι1 → ι2 → ι3 → ι4 → ι5 → Nat) (i1 : ι1) (i2 : ι2) (i3 : ι3) (i4 : ι4) (i5 : ι5) (hF : fsub F (FI i1 i2 i3 i4 i5)) (hK : KSub K (KI i1 i2 i3 i4 i5)) (hp : p i1 i2 i3 i4 i5)
    (round : ∀ i1 i2 i3 i4 i5, p i1 i2 i3 i4 i5 → ∀ Y : Act → World → Prop, (∀ j1 j2 j3 j4 j5 F K, p j1 j2 j3 j4 j5 → μ j1 j2 j3 j4 j5 < μ i1 i2 i3 i4 i5 → fsub F (FI j1 j2 j3 j4 j5) → KSub K (KI j1 j2 j3 j4 j5) → TQ c (fun _ => Y) .normal F K) → TW c x (Exit.then Y Q) (FI i1 i2 i3 i4 i5) (KI i1 i2 i3 i4 i5)) : TW c (.loop x) Q F K :=
  TW.loop (ι := { t : ι1 × ι2 × ι3 × ι4 × ι5 // p t.1 t.2.1 t.2.2.1 t.2.2.2.1 t.2.2.2.2 }) (fun t => FI t.1.1 t.1.2.1 t.1.2.2.1 t.1.2.2.2.1 t.1.2.2.2.2) (fun t => KI t.1.1 t.1.2.1 t.1.2.2.1 t.1.2.2.2.1 t.1.2.2.2.2) (fun t => μ t.1.1 t.1.2.1 t.1.2.2.1 t.1.2.2.2.1 t.1.2.2.2.2) ⟨(i1, i2, i3, i4, i5), hp⟩ hF hK fun t Y hY => round t.1.1 t.1.2.1 t.1.2.2.1 t.1.2.2.2.1 t.1.2.2.2.2 t.2 Y fun j1 j2 j3 j4 j5 F K h1 h2 h3 h4 => hY ⟨(j1, j2, j3, j4, j5), h1⟩ F K h2 h3 h4
theorem TW.loop6 {ι1 ι2 ι3 ι4 ι5 ι6 : Type} {x : Code} (FI : ι1 → ι2 → ι3 → ι4 → ι5 → ι6 → Fr) (KI : ι1 → ι2 → ι3 → ι4 → ι5 → ι6 → List Fact) (p : ι1 → ι2 → ι3 → ι4 → ι5 → ι6 → Prop) (μ : ι1 → ι2 → ι3 → ι4 → ι5 → ι6 → Nat) (i1 : ι1) (i2 : ι2) (i3 : ι3) (i4 : ι4) (i5 : ι5) (i6 : ι6) (hF : fsub F (FI i1 i2 i3 i4 i5 i6)) (hK : KSub K (KI i1 i2 i3 i4 i5 i6)) (hp : p i1 i2 i3 i4 i5 i6)
    (round : ∀ i1 i2 i3 i4 i5 i6, p i1 i2 i3 i4 i5 i6 → ∀ Y : Act → World → Prop, (∀ j1 j2 j3 j4 j5 j6 F K, p j1 j2 j3 j4 j5 j6 → μ j1 j2 j3 j4 j5 j6 < μ i1 i2 i3 i4 i5 i6 → fsub F (FI j1 j2 j3 j4 j5 j6) → KSub K (KI j1 j2 j3 j4 j5 j6) → TQ c (fun _ => Y) .normal F K) → TW c x (Exit.then Y Q) (FI i1 i2 i3 i4 i5 i6) (KI i1 i2 i3 i4 i5 i6)) : TW c (.loop x) Q F K :=
  TW.loop (ι := { t : ι1 × ι2 × ι3 × ι4 × ι5 × ι6 // p t.1 t.2.1 t.2.2.1 t.2.2.2.1 t.2.2.2.2.1 t.2.2.2.2.2 }) (fun t => FI t.1.1 t.1.2.1 t.1.2.2.1 t.1.2.2.2.1 t.1.2.2.2.2.1 t.1.2.2.2.2.2) (fun t => KI t.1.1 t.1.2.1 t.1.2.2.1 t.1.2.2.2.1 t.1.2.2.2.2.1 t.1.2.2.2.2.2) (fun t => μ t.1.1 t.1.2.1 t.1.2.2.1 t.1.2.2.2.1 t.1.2.2.2.2.1 t.1.2.2.2.2.2) ⟨(i1, i2, i3, i4, i5, i6), hp⟩ hF hK fun t Y hY => round t.1.1 t.1.2.1 t.1.2.2.1 t.1.2.2.2.1 t.1.2.2.2.2.1 t.1.2.2.2.2.2 t.2 Y fun j1 j2 j3 j4 j5 j6 F K h1 h2 h3 h4 => hY ⟨(j1, j2, j3, j4, j5, j6), h1⟩ F K h2 h3 h4
theorem TW.region {id : Nat} {l : List Oper} (h : TL c l.toArray Q l F K) : TW c (.region id l.toArray false) Q F K := fun a w hF hK => wp_region_lit (h a w hF hK)
theorem TL.nil (h : TQ c Q .normal F K) : TL c ops Q [] F K := fun a w hF hK => wpList_nil (h a w hF hK)
theorem wpList_pure {P : Program} {o : Oper} {v : Value} {a : Act} {w : World} (hg : o.guard = none) (hr : (execOp a.eval o).run P w = .ok (.value v) w) (h : wpList P ops Q rest (a.put o.dst v) w) : wpList P ops Q (o :: rest) a w :=
  wpList_plain hg fun _ hK => by unfold Oper.wp; rw [hr]; exact hK _ _ h
theorem TL.pure {d : Nat} {op : Op} {ty : TypeId} {pos : String} {af : Array Edge} {v : Value} (hp : Pu c F K ⟨some d, op, ty, pos, af, none⟩ v) (hd : Nat.blt d c.n = true) (h : TL c ops Q rest ((d, v) :: F) K) : TL c ops Q (⟨some d, op, ty, pos, af, none⟩ :: rest) F K := fun a w hF hK =>
  wpList_pure rfl (hp a w hF hK) (h _ w (hF.put hd v) hK)
end
end Go.Proofs.Ytckiagbllkdfdaa
