/-
  Two laws on a region that draws its order. (1) A tail of operations that wait for all before them is walked behind all others. (2) What is left when loads and arithmetic are taken first: a chain of operations in one forced order, and new variables that may be made at any time: walked once, in worlds that may have grown. No condition on a program.
-/
import Derived.Test.YtckiagbllkdfdaaLib
import Derived.OrdersHeld
namespace Go.Proofs.Ytckiagbllkdfdaa
set_option linter.all false
set_option linter.unusedVariables false
set_option linter.unusedSimpArgs false
open Go.RowKit
section
variable {P : Program} {ops : Array Oper} {Q : Exit → Act → World → Prop}
/-- Behind the first n operations the others are walked in their order. -/
def tailPost (P : Program) (ops : Array Oper) (Q : Exit → Act → World → Prop) (n : Nat) : Exit → Act → World → Prop := fun e a w =>
  match e with
  | .normal => wpOps P ops Q (List.range' n (ops.size - n)) a w
  | e => Q e a w
def frontOf (ops : Array Oper) (n : Nat) : Array Oper := (ops.toList.take n).toArray
theorem frontOf_get {n i : Nat} (hi : i < n) : (frontOf ops n)[i]? = ops[i]? := by simp [frontOf, hi]
theorem frontOf_ge {n i : Nat} (hi : n ≤ i) : (frontOf ops n)[i]? = none := by simp [frontOf, List.getElem?_take]; omega
/-- What an operation waits for, as a bit mask. -/
def direct (o : Oper) : Nat := o.after.toList.foldl (fun m e => if Region.binds .any e then m ||| 2 ^ e.on else m) 0
/-- .. and through others below j. -/
def closeBack (ops : Array Oper) : Nat → Nat → Nat
  | 0, S => S
  | j + 1, S => closeBack ops j (if S.testBit j then (match ops[j]? with | none => S | some o => S ||| direct o) else S)
theorem direct_spec {o : Oper} {j : Nat} (h : (direct o).testBit j = true) : ∃ e ∈ o.after, Region.binds .any e = true ∧ e.on = j := by
  have key : ∀ (l : List Edge) (m : Nat), (l.foldl (fun m e => if Region.binds .any e then m ||| 2 ^ e.on else m) m).testBit j = true → m.testBit j = true ∨ ∃ e ∈ l, Region.binds .any e = true ∧ e.on = j := by
    intro l
    induction l with
    | nil => intro m h; exact .inl h
    | cons e l ih =>
      intro m h
      rw [List.foldl_cons] at h
      rcases ih _ h with h | ⟨e', he', h'⟩
      · split at h
        · rename_i hb
          rw [Nat.testBit_or, Nat.testBit_two_pow, Bool.or_eq_true, decide_eq_true_eq] at h
          rcases h with h | h
          · exact .inl h
          · exact .inr ⟨e, by simp, hb, h⟩
        · exact .inl h
      · exact .inr ⟨e', by simp [he'], h'⟩
  rcases key _ _ h with h | ⟨e, he, h'⟩
  · simp at h
  · exact ⟨e, by simpa using he, h'⟩
/-- What is listed has all listed that it waits for. -/
def Closed (ops : Array Oper) (L : Array Bool) : Prop := ∀ i o, L.getD i true = true → i < L.size → ops[i]? = some o → ∀ e ∈ o.after, Region.binds .any e = true → L.getD e.on true = true
theorem closeBack_spec {L : Array Bool} (hL : Closed ops L) (hs : ops.size ≤ L.size) : ∀ (j S : Nat), (∀ q, S.testBit q = true → L.getD q true = true) → ∀ q, (closeBack ops j S).testBit q = true → L.getD q true = true
  | 0, S, h => h
  | j + 1, S, h => by
    refine closeBack_spec hL hs j _ ?_
    split
    · rename_i hb
      cases ho : ops[j]? with
      | none => exact h
      | some o =>
        intro q hq
        simp only [Nat.testBit_or, Bool.or_eq_true] at hq
        rcases hq with hq | hq
        · exact h q hq
        · obtain ⟨e, he, hbi, rfl⟩ := direct_spec hq
          exact hL j o (h j hb) (Nat.lt_of_lt_of_le (Array.getElem?_eq_some_iff.1 ho).1 hs) ho e he hbi
    · exact h
def tailOk (ops : Array Oper) (n : Nat) : Bool := n ≤ ops.size && (List.range ops.size).all fun i => match ops[i]? with
  | none => true
  | some o => (o.after.all fun e => !Region.binds .any e || decide (e.on < i)) && (if i < n then (match o.guard with | none => true | some (g, _) => decide (g < n)) else (List.range i).all fun j => (closeBack ops i (direct o)).testBit j)
structure TailOk (ops : Array Oper) (n : Nat) : Prop where
  le : n ≤ ops.size
  low : ∀ i o, ops[i]? = some o → ∀ e ∈ o.after, Region.binds .any e = true → e.on < i
  guard : ∀ i o g b, i < n → ops[i]? = some o → o.guard = some (g, b) → g < n
  wait : ∀ i o j, n ≤ i → ops[i]? = some o → j < i → (closeBack ops i (direct o)).testBit j = true
theorem tailOk_spec {n : Nat} (h : tailOk ops n = true) : TailOk ops n := by
  simp only [tailOk, Bool.and_eq_true, decide_eq_true_eq, List.all_eq_true, List.mem_range] at h
  obtain ⟨h0, h⟩ := h
  have h' : ∀ i o, ops[i]? = some o → ((o.after.all fun e => !Region.binds .any e || decide (e.on < i)) && (if i < n then (match o.guard with | none => true | some (g, _) => decide (g < n)) else (List.range i).all fun j => (closeBack ops i (direct o)).testBit j)) = true := fun i o ho => by
    have := h i (Array.getElem?_eq_some_iff.1 ho).1
    simpa only [ho] using this
  refine ⟨h0, fun i o ho e he hb => ?_, fun i o g b hi ho hg => ?_, fun i o j hi ho hj => ?_⟩
  · have := (Bool.and_eq_true _ _ ▸ h' i o ho).1
    have := Array.all_eq_true_iff_forall_mem.1 this e he
    simpa [hb] using this
  · have := (Bool.and_eq_true _ _ ▸ h' i o ho).2
    rw [if_pos hi, hg] at this
    simpa using this
  · have := (Bool.and_eq_true _ _ ▸ h' i o ho).2
    rw [if_neg (by omega)] at this
    exact List.all_eq_true.1 this j (List.mem_range.2 hj)
theorem getD_up {L : Array Bool} {q : Nat} {d : Bool} (h : L.getD q d = true) : L.getD q true = true := by
  rw [Array.getD_eq_getD_getElem?] at h ⊢
  cases e : L[q]? with
  | none => rfl
  | some b => rw [e] at h; exact h
/-- A ready operation of the tail finds all before it listed. -/
theorem TailOk.listed {n i j : Nat} {o : Oper} {L : Array Bool} (T : TailOk ops n) (hc : Closed ops L) (hs : ops.size ≤ L.size) (hi : n ≤ i) (ho : ops[i]? = some o) (hj : j < i)
    (hr : ∀ e ∈ o.after, Region.binds .any e = true → L.getD e.on true = true) : L.getD j true = true :=
  closeBack_spec hc hs i (direct o) (fun q hq => by obtain ⟨e, he, hb, rfl⟩ := direct_spec hq; exact hr e he hb) j (T.wait i o j hi ho hj)
theorem getD_set {L : Array Bool} {i r : Nat} (h : L.getD r true = true) : (L.setIfInBounds i true).getD r true = true := by
  rw [Array.getD_eq_getD_getElem?] at h ⊢
  rw [Array.getElem?_setIfInBounds]
  split
  · split <;> rfl
  · exact h
theorem Closed.set {L : Array Bool} {i : Nat} (h : Closed ops L) (hr : ∀ o, ops[i]? = some o → ∀ e ∈ o.after, Region.binds .any e = true → L.getD e.on true = true) : Closed ops (L.setIfInBounds i true) := by
  intro q o hq hs ho e he hb
  refine getD_set ?_
  by_cases hqi : q = i
  · subst hqi; exact hr o ho e he hb
  · refine h q o ?_ (by simpa using hs) ho e he hb
    rw [Array.getD_eq_getD_getElem?] at hq ⊢
    rwa [Array.getElem?_setIfInBounds_ne (Ne.symm hqi)] at hq
theorem wpOp_front {n i : Nat} (T : TailOk ops n) (hi : i < n) {K K' : Act → World → Prop} {a : Act} {w : World} (hK : ∀ a w, K a w → K' a w)
    (h : wpOp P (frontOf ops n) (tailPost P ops Q n) i K a w) : wpOp P ops Q i K' a w := by
  unfold wpOp at *
  rw [frontOf_get hi] at h
  cases ho : ops[i]? with
  | none => simp only [ho] at h ⊢; exact hK _ _ h
  | some o =>
    simp only [ho] at h ⊢
    have hy : Region.wanted o (yielded (frontOf ops n) a.tmps) = Region.wanted o (yielded ops a.tmps) := by
      unfold Region.wanted
      cases hg : o.guard with
      | none => rfl
      | some gw =>
        obtain ⟨g, b⟩ := gw
        simp only [yielded, frontOf_get (T.guard i o g b hi ho hg)]
    rw [hy] at h
    split
    · rename_i hw
      rw [if_pos hw] at h
      rcases h with h | ⟨hA, hL⟩
      · refine .inl ?_
        unfold Oper.wp at *
        generalize (execOp a.eval o).run P w = r at *
        cases r with
        | ok x w' =>
          cases x <;> simp only [Oper.upon] at h ⊢ <;> first
            | exact hK _ _ h
            | exact Calls.mono h (fun e w'' he => by
                cases e with
                | returned v => exact hK _ _ he
                | panicked c => exact he
                | outgrown => obtain ⟨x, y, z⟩ := he; exact ⟨x, y, z⟩)
            | exact Rows.mono h (fun _ _ he => hK _ _ he)
        | halt x w' => cases x <;> simp only [Oper.upon] at h ⊢ <;> exact h
      · obtain ⟨x, y, z⟩ := hL
        exact .inr ⟨hA, x, y, z⟩
    · rename_i hw
      rw [if_neg hw] at h
      exact hK _ _ h
theorem getD_some {l : Array Bool} {i : Nat} {b d : Bool} (h : l[i]? = some b) : l.getD i d = b := by simp [Array.getD_eq_getD_getElem?, h]
theorem tail_any {n : Nat} (T : TailOk ops n) : ∀ (k fuel j : Nat) (L : Array Bool) (a : Act) (w : World), k ≤ fuel → n ≤ j → j + k = ops.size →
    (∀ i, i < ops.size → L[i]? = some (decide (i < j))) → wpOps P ops Q (List.range' j k) a w → wpAny P .any ops Q fuel L a w := by
  intro k
  induction k with
  | zero =>
    intro fuel j L a w _ _ hj hL h
    refine wpAny_done ?_ h fuel
    apply List.eq_nil_iff_forall_not_mem.2
    intro i hi
    obtain ⟨h1, o, ho, _⟩ := mem_ready.1 hi
    have hlt := (Array.getElem?_eq_some_iff.1 ho).1
    rw [getD_some (hL i hlt)] at h1
    simp at h1; omega
  | succ k ih =>
    intro fuel j L a w hf hn hj hL h
    obtain ⟨fuel, rfl⟩ : ∃ f, fuel = f + 1 := ⟨fuel - 1, by omega⟩
    have hjl : j < ops.size := by omega
    have ho : ops[j]? = some ops[j] := Array.getElem?_eq_getElem hjl
    have hr : j ∈ Region.ready .any ops L := mem_ready.2 ⟨by rw [getD_some (hL j hjl)]; simp, ops[j], ho, fun e he hb => by
      have := T.low j _ ho e he hb
      rw [getD_some (hL e.on (by omega))]; simpa using this⟩
    refine ⟨fun h0 => (by rw [h0] at hr; cases hr), fun i hi => ?_⟩
    obtain ⟨h1, o, hoi, hall⟩ := mem_ready.1 hi
    have hlt := (Array.getElem?_eq_some_iff.1 hoi).1
    rw [getD_some (hL i hlt)] at h1
    simp only [decide_eq_false_iff_not, Nat.not_lt] at h1
    have hij : i = j := by
      rcases Nat.lt_or_ge j i with hlt' | hge
      · have hsz : ops.size ≤ L.size := by
          refine Nat.le_of_not_lt fun hlt2 => ?_
          have := hL L.size hlt2
          simp at this
        have := T.listed (L := L) (fun q o' hq hqs hoq e he hb => by
          have hqo : q < ops.size := (Array.getElem?_eq_some_iff.1 hoq).1
          have hlo := T.low q o' hoq e he hb
          rw [getD_some (hL q hqo)] at hq
          rw [getD_some (hL e.on (by omega))]
          simp at hq ⊢; omega) hsz (by omega) hoi hlt' (fun e he hb => getD_up (hall e he hb))
        rw [getD_some (hL j hjl)] at this
        simp at this
      · omega
    subst hij
    rw [List.range'_succ, wpOps_cons] at h
    refine wpOp_mono (fun a' w' h' => ih fuel (i + 1) _ a' w' (by omega) (by omega) (by omega) (fun q hq => ?_) h') h
    by_cases hqi : q = i
    · subst hqi
      have hs : q < L.size := by
        rcases Nat.lt_or_ge q L.size with h' | h'
        · exact h'
        · have := hL q hq; rw [Array.getElem?_eq_none h'] at this; cases this
      simp [Array.getElem?_setIfInBounds_self_of_lt hs]
    · rw [Array.getElem?_setIfInBounds_ne (Ne.symm hqi), hL q hq]
      congr 1
      simp only [decide_eq_decide]
      omega
theorem front_any {n : Nat} (T : TailOk ops n) : ∀ (fuel : Nat) (l L : Array Bool) (a : Act) (w : World), l.size = n → L.size = ops.size →
    (∀ i, i < n → L[i]? = l[i]?) → (∀ i, n ≤ i → i < ops.size → L[i]? = some false) → Closed ops L →
    wpAny P .any (frontOf ops n) (tailPost P ops Q n) fuel l a w → wpAny P .any ops Q (fuel + (ops.size - n)) L a w := by
  have hle := T.le
  intro fuel
  induction fuel with
  | zero =>
    intro l L a w hl hLs h1 h2 hc h
    have hall : ∀ i, i < n → l[i]? = some true := fun i => by
      induction i using Nat.strongRecOn with
      | ind i ihi =>
        intro hi
        have hs : l[i]? = some l[i] := Array.getElem?_eq_getElem (by omega)
        cases hb : l[i] with
        | true => rw [hs, hb]
        | false =>
          have : i ∈ Region.ready .any (frontOf ops n) l := mem_ready.2 ⟨by rw [getD_some (hs.trans (by rw [hb]))], ops[i], by rw [frontOf_get hi]; exact Array.getElem?_eq_getElem (by omega), fun e he hbi => by
            have hlo := T.low i _ (Array.getElem?_eq_getElem (by omega)) e he hbi
            rw [getD_some (ihi e.on hlo (by omega))]⟩
          rw [h.1] at this; cases this
    have hq : wpOps P ops Q (List.range' n (ops.size - n)) a w := h.2
    exact tail_any T (ops.size - n) _ n L a w (by omega) (Nat.le_refl _) (by omega) (fun i hi => by
      by_cases hin : i < n
      · rw [h1 i hin, hall i hin]; simp [hin]
      · rw [h2 i (by omega) hi]; simp [hin]) hq
  | succ fuel ih =>
    intro l L a w hl hLs h1 h2 hc h
    by_cases hall : ∀ i, i < n → l[i]? = some true
    · have hq : wpOps P ops Q (List.range' n (ops.size - n)) a w := h.1 (by
        apply List.eq_nil_iff_forall_not_mem.2
        intro i hi
        obtain ⟨h3, o, ho, _⟩ := mem_ready.1 hi
        rcases Nat.lt_or_ge i n with hin | hin
        · rw [getD_some (hall i hin)] at h3; cases h3
        · rw [frontOf_ge hin] at ho; cases ho)
      exact tail_any T (ops.size - n) _ n L a w (by omega) (Nat.le_refl _) (by omega) (fun i hi => by
        by_cases hin : i < n
        · rw [h1 i hin, hall i hin]; simp [hin]
        · rw [h2 i (by omega) hi]; simp [hin]) hq
    · have hex : ∃ i, i < n ∧ l[i]? = some false ∧ ∀ j, j < i → l[j]? = some true := by
        refine Classical.byContradiction fun hno => hall fun i => ?_
        induction i using Nat.strongRecOn with
        | ind i ihi =>
          intro hi
          have hs : l[i]? = some l[i] := Array.getElem?_eq_getElem (by omega)
          cases hb : l[i] with
          | true => rw [hs, hb]
          | false => exact absurd ⟨i, hi, hs.trans (by rw [hb]), fun j hj => ihi j hj (by omega)⟩ hno
      obtain ⟨u, hu, huf, hub⟩ := hex
      have hrL : u ∈ Region.ready .any ops L := mem_ready.2 ⟨by rw [getD_some ((h1 u hu).trans huf)], ops[u], Array.getElem?_eq_getElem (by omega), fun e he hbi => by
        have hlo := T.low u _ (Array.getElem?_eq_getElem (by omega)) e he hbi
        rw [getD_some ((h1 e.on (by omega)).trans (hub e.on hlo))]⟩
      rw [show fuel + 1 + (ops.size - n) = (fuel + (ops.size - n)) + 1 by omega]
      refine ⟨fun h0 => (by rw [h0] at hrL; cases hrL), fun i hi => ?_⟩
      obtain ⟨h3, o, ho, hw⟩ := mem_ready.1 hi
      have hin : i < n := by
        rcases Nat.lt_or_ge i n with hin | hin
        · exact hin
        · have := T.listed (j := u) hc (Nat.le_of_eq hLs.symm) hin ho (by omega) (fun e he hb => getD_up (hw e he hb))
          rw [getD_some ((h1 u hu).trans huf)] at this; cases this
      have hrf : i ∈ Region.ready .any (frontOf ops n) l := mem_ready.2 ⟨by
          have hs : l[i]? = some l[i] := Array.getElem?_eq_getElem (by omega)
          rw [getD_some ((h1 i hin).trans hs)] at h3
          rw [getD_some hs]; exact h3, o, by rw [frontOf_get hin]; exact ho, fun e he hb => by
          have hlo := T.low i o ho e he hb
          have hs : l[e.on]? = some l[e.on] := Array.getElem?_eq_getElem (by omega)
          have := hw e he hb
          rw [getD_some ((h1 e.on (by omega)).trans hs)] at this
          rw [getD_some hs]; exact this⟩
      refine wpOp_front T hin (fun a' w' h' => ih _ _ a' w' (by simpa using hl) (by simpa using hLs) (fun q hq => ?_) (fun q hq hq' => ?_) (hc.set fun o' ho' e he hb => by rw [ho] at ho'; cases ho'; exact getD_up (hw e he hb)) h') (h.2 i hrf)
      · by_cases hqi : q = i
        · subst hqi
          rw [Array.getElem?_setIfInBounds_self_of_lt (by omega), Array.getElem?_setIfInBounds_self_of_lt (by omega)]
        · rw [Array.getElem?_setIfInBounds_ne (Ne.symm hqi), Array.getElem?_setIfInBounds_ne (Ne.symm hqi)]; exact h1 q hq
      · rw [Array.getElem?_setIfInBounds_ne (by omega)]; exact h2 q hq hq'
/-- THE BEGINNING: the operations behind number n wait for all before them: the first n in whatever order, the others behind them. S is what the loads lean on: nothing that was there turns. -/
theorem wp_region_front {id n : Nat} {a : Act} {w : World} (hm : P.follows .mixedOrders = true) (hT : tailOk ops n = true)
    (h : Below w.heap.size w w.drew → wpAnyH P .any (frontOf ops n) (tailPost P ops Q n) (Below w.heap.size w) n (Array.replicate n false) a w.drew) : (Code.region id ops true).wp P Q a w := by
  have T := tailOk_spec hT
  refine wp_region_any hm ?_
  have := front_any T n (Array.replicate n false) (Array.replicate ops.size false) a w.drew (by simp) (by simp) (fun i hi => by simp [Array.getElem?_replicate, hi]; have := T.le; omega) (fun i _ hi => by simp [hi]) (fun i o h0 hs _ _ _ _ => by simp at hs; rw [Array.getD_eq_getD_getElem?, Array.getElem?_replicate, if_pos hs] at h0; cases h0) (wpAny_of_held _ _ _ _ (h (keep_drew w)))
  rw [show n + (ops.size - n) = ops.size by have := T.le; omega] at this
  exact this
end
end Go.Proofs.Ytckiagbllkdfdaa
