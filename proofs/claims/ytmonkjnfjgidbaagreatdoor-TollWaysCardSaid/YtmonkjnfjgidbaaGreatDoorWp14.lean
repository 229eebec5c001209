/-
  Part 14 of the proof of tollWays_holds: declarations of several texts, in build order. No condition on a program.
-/
import Derived.Test.YtmonkjnfjgidbaaGreatDoorWp03
import Derived.ArgAppend
import Derived.Test.YtmonkjnfjgidbaaGreatDoorWp13
namespace Go.Proofs.YtmonkjnfjgidbaaGreatDoor
set_option linter.all false
set_option linter.unusedVariables false
set_option linter.unusedSimpArgs false
open Go.RowKit
section
variable {P : Program} {ops : Array Oper} {Q : Exit → Act → World → Prop} {md : Region.Mode} {S1 S : World → Prop} {s : Nat}
def wpUntil (P : Program) (md : Region.Mode) (ops : Array Oper) (Q : Exit → Act → World → Prop) (S1 S : World → Prop) (s : Nat) : Nat → Array Bool → Act → World → Prop
  | 0, l, a, w => Region.ready md ops l = [] ∧ Q .normal a w
  | n + 1, l, a, w => (Region.ready md ops l = [] → Q .normal a w) ∧ ∀ i ∈ Region.ready md ops l, wpOp P ops Q i (fun a' w' => S1 w' ∧ ((l.setIfInBounds i true).getD s true = false → S w') ∧ wpUntil P md ops Q S1 S s n (l.setIfInBounds i true) a' w') a w
theorem until_any : ∀ (n : Nat) (l : Array Bool) (a : Act) (w : World), wpUntil P md ops Q S1 S s n l a w → wpAnyH P md ops Q S1 n l a w
  | 0, _, _, _, h => h
  | n + 1, _, _, _, h => ⟨h.1, fun i hi => wpOp_mono (fun a' w' h' => ⟨h'.1, until_any n _ a' w' h'.2.2⟩) (h.2 i hi)⟩
theorem set_stays {l : Array Bool} {i : Nat} (h : l.getD s true = true) : (l.setIfInBounds i true).getD s true = true := by
  by_cases hi : i = s
  · subst hi
    by_cases hlt : i < l.size
    · simp [hlt]
    · simp [hlt]
  · rw [getD_set_ne true hi]; exact h
theorem until_of_any : ∀ (n : Nat) (l : Array Bool) (a : Act) (w : World), l.getD s true = true → wpAnyH P md ops Q S1 n l a w → wpUntil P md ops Q S1 S s n l a w
  | 0, _, _, _, _, h => h
  | n + 1, l, _, _, hs, h => ⟨h.1, fun i hi => wpOp_mono (fun a' w' h' => ⟨h'.1, fun h0 => (by rw [set_stays hs] at h0; cases h0), until_of_any n _ a' w' (set_stays hs) h'.2⟩) (h.2 i hi)⟩
theorem until_first {i : Nat} {oi : Oper} {v : Value} {T : World → Prop} (hi : ops[i]? = some oi) (hsel : ∀ (j : Nat) (o : Oper) cs b, ops[j]? = some o → o.op ≠ .select cs b)
    (hQ : ∀ c a w, Q (.panic c) (a.put oi.dst v) w → Q (.panic c) a w) (his : i ≠ s)
    (hT : (T = S ∧ ∃ os, ops[s]? = some os ∧ ∃ e ∈ os.after, Region.binds md e = true ∧ e.on = i) ∨ T = S1) :
    ∀ (n : Nat) (l : Array Bool) (a : Act) (w : World),
      (∀ j oj, ops[j]? = some oj → j ≠ i → l.getD j true = false → (∀ e ∈ oj.after, Region.binds md e = true → e.on ≠ i) → oi.apart ops oj = true) →
      i ∈ Region.ready md ops l → YieldsIf P ops T oi v a → l.getD s true = false → S1 w → S w →
      wpUntil P md ops Q S1 S s n (l.setIfInBounds i true) (a.put oi.dst v) w → wpUntil P md ops Q S1 S s (n + 1) l a w := by
  intro n
  have hTw : ∀ w, S1 w → S w → T w := fun w h1 h => by
    rcases hT with ⟨rfl, _⟩ | rfl
    · exact h
    · exact h1
  induction n with
  | zero =>
    intro l a w _ hr hy hs hS1 hS H
    refine ⟨fun h => (by rw [h] at hr; cases hr), fun j hj => ?_⟩
    by_cases hji : j = i
    · subst hji; exact hy.wpOp hi (hTw w hS1 hS) ⟨hS1, fun _ => hS, H⟩
    · have := ready_mono hj hji
      rw [H.1] at this
      cases this
  | succ n ih =>
    intro l a w hfree hr hy hs hS1 hS H
    refine ⟨fun h => (by rw [h] at hr; cases hr), fun j hj => ?_⟩
    by_cases hji : j = i
    · subst hji; exact hy.wpOp hi (hTw w hS1 hS) ⟨hS1, fun _ => hS, H⟩
    · have h1 := H.2 j (ready_mono hj hji)
      obtain ⟨hjun, oj, hoj, hall⟩ := mem_ready.1 hj
      have hiun := (mem_ready.1 hr).1
      have hnot : ∀ e ∈ oj.after, Region.binds md e = true → e.on ≠ i := fun e he hb heq => by
        have h2 := hall e he hb
        rw [heq] at h2
        rcases Nat.lt_or_ge i l.size with h' | h'
        · simp [h'] at hiun h2; rw [hiun] at h2; cases h2
        · simp [Array.getElem?_eq_none h'] at h2
      have h2 := wpOp_putIf hoj (hfree j oj hoj hji hjun hnot) (fun cs b => hsel i oi cs b hi) (fun cs b => hsel j oj cs b hoj) hQ hy h1
      have hfree' : ∀ k ok, ops[k]? = some ok → k ≠ i → (l.setIfInBounds j true).getD k true = false →
          (∀ e ∈ ok.after, Region.binds md e = true → e.on ≠ i) → oi.apart ops ok = true := fun k ok hk hki hun hno => by
        refine hfree k ok hk hki ?_ hno
        by_cases hjk : j = k
        · subst hjk; exact hjun
        · rw [getD_set_ne true hjk] at hun; exact hun
      have hcomm : (l.setIfInBounds i true).setIfInBounds j true = (l.setIfInBounds j true).setIfInBounds i true := Array.setIfInBounds_comm _ _ (fun e => hji e.symm)
      have hbit : ((l.setIfInBounds i true).setIfInBounds j true).getD s true = (l.setIfInBounds j true).getD s true := by rw [hcomm, getD_set_ne true his]
      refine wpOp_mono (fun a' w' h3 => ?_) h2
      obtain ⟨hy', hS1', hS', H'⟩ := h3
      rw [hbit] at hS'
      by_cases hjs : (l.setIfInBounds j true).getD s true = false
      · refine ⟨hS1', fun _ => hS' hjs, ih (l.setIfInBounds j true) a' w' hfree' (ready_mono hr (Ne.symm hji)) hy' hjs hS1' (hS' hjs) ?_⟩
        rw [← hcomm]
        exact H'
      · have hjs' : (l.setIfInBounds j true).getD s true = true := by simpa using hjs
        refine ⟨hS1', fun h => absurd h hjs, ?_⟩
        rcases hT with ⟨_, os, hos, e, he, hb, hei⟩ | rfl
        · exfalso
          have hsj : j = s := by
            by_cases hne : j = s
            · exact hne
            · rw [getD_set_ne true hne, hs] at hjs'; cases hjs'
          subst hsj
          rw [hoj] at hos
          cases hos
          exact hnot e he hb hei
        · refine until_of_any _ _ _ _ hjs' (wpAnyH_first hi hsel hQ n (l.setIfInBounds j true) a' w' hfree' (ready_mono hr (Ne.symm hji)) hy' hS1' ?_)
          have := until_any _ _ _ _ H'
          rw [hcomm] at this
          exact this
end
theorem wpOp_of_TL {c : Cx} {Q : Exit → Act → World → Prop} {F : Fr} {K : List Fact} {ops : Array Oper} {j : Nat} {o : Oper} {Z : Act → World → Prop} (ho : ops[j]? = some o) (h : TL c ops (nxt Z Q) [o] F K) {a : Act} {w : World} (hF : FS c.n c.D F a) (hK : Sat c.S c.w0 K w) : wpOp c.P ops Q j Z a w := by
  have h1 := h a w hF hK
  unfold wpList at h1
  unfold wpOp
  simp only [ho]
  split
  · rename_i hw
    rw [if_pos hw] at h1
    rcases h1 with h1 | ⟨hA, hL⟩
    · refine .inl ?_
      unfold Oper.wp at *
      generalize (execOp a.eval o).run c.P w = r at *
      cases r with
      | ok x w' =>
        cases x <;> simp only [Oper.upon] at h1 ⊢ <;> first
          | exact h1
          | exact Calls.mono h1 (fun e w'' he => by
              cases e with
              | returned v => exact he
              | panicked ch => exact he
              | outgrown => obtain ⟨x, y, z⟩ := he; exact ⟨x, y, z⟩)
          | exact Rows.mono h1 (fun _ _ he => he)
      | halt x w' => cases x <;> simp only [Oper.upon] at h1 ⊢ <;> exact h1
    · obtain ⟨x, y, z⟩ := hL
      exact .inr ⟨hA, x, y, z⟩
  · rename_i hw
    rw [if_neg hw] at h1
    exact h1
section
variable {c : Cx} {Q : Exit → Act → World → Prop} {F F' : Fr} {K K' K0 : List Fact} {ops : Array Oper} {listed : Array Bool} {fuel s : Nat}
def RU (c : Cx) (ops : Array Oper) (Q : Exit → Act → World → Prop) (K0 : List Fact) (s : Nat) (listed : Array Bool) (fuel : Nat) (F : Fr) (K : List Fact) : Prop :=
  ∀ a w, FS c.n c.D F a → Sat c.S c.w0 K w → wpUntil c.P .any ops Q (Sat c.S c.w0 []) (Sat c.S c.w0 K0) s fuel listed a w
def waitsB (ops : Array Oper) (s i : Nat) : Bool := match ops[s]? with
  | some o => o.after.any fun e => Region.binds .any e && e.on == i
  | none => false
theorem waits_spec {i : Nat} (h : waitsB ops s i = true) : ∃ os, ops[s]? = some os ∧ ∃ e ∈ os.after, Region.binds .any e = true ∧ e.on = i := by
  unfold waitsB at h
  split at h
  · rename_i o ho
    obtain ⟨e, he, h2⟩ := Array.any_eq_true'.1 h
    simp only [Bool.and_eq_true, beq_iff_eq] at h2
    exact ⟨o, ho, e, he, h2.1, h2.2⟩
  · cases h
theorem TW.exu {id : Nat} {l : List Oper} (s : Nat) (K0 : List Fact) (h2 : RU c l.toArray Q K0 s (Array.replicate l.length false) l.length F K) (hm : c.P.follows .mixedOrders = true := by rfl) : TW c (.region id l.toArray true) Q F K := fun a w hF hK => by
  refine wp_region_any hm (wpAny_of_held (S := Sat c.S c.w0 []) _ _ _ _ (until_any (S := Sat c.S c.w0 K0) (s := s) _ _ _ _ ?_))
  rw [List.size_toArray]
  exact h2 a w.drew hF (hK.ext (keep_drew w))
theorem RU.tk (i : Nat) {op : Op} {ty : TypeId} {pos : String} {af : Array Edge} {g : Option (Nat × Bool)} {t : Nat} {v : Value} (ho : ops[i]? = some ⟨some t, op, ty, pos, af, g⟩) (hp : Pu c F K0 ⟨some t, op, ty, pos, af, g⟩ v) (h : RU c ops Q K0 s (listed.setIfInBounds i true) fuel ((t, v) :: F) K) (hh : HasL K K0 := by repeat (first | exact HasL.nil | refine HasL.cons pk9 ?_)) (hk : takeA ops listed i = true := by kernel_rfl) (hw : waitsB ops s i = true := by kernel_rfl) (hn : Nat.beq i s = false := by rfl) (hu : listed.getD s true = false := by kernel_rfl) (hg : gdB F ops g = some true := by rfl) (hd : Nat.blt t c.n = true := by rfl) (hpan : Pan Q := by (intro d _ _ _ _; cases d <;> exact Iff.rfl)) :
    RU c ops Q K0 s listed (fuel + 1) F K := fun a w hF hK => by
  simp only [takeA, Bool.and_eq_true] at hk
  have his : i ≠ s := fun e => by rw [beq_iff.2 e] at hn; cases hn
  exact until_first ho (Region.noSelect_spec hk.1.1) (fun ch a w h => (hpan _ v ch a w).1 h) his (.inl ⟨rfl, waits_spec hw⟩) fuel listed a w (Region.free_spec ho hk.1.2) (by simpa using hk.2) (.inl ⟨hF.wanted hg, fun w' hS => hp a w' hF hS⟩) hu (HasL.nil.has.sat hK) (hh.has.sat hK) (h _ w (hF.put hd v) hK)
theorem RU.tm (i : Nat) {op : Op} {ty : TypeId} {pos : String} {af : Array Edge} {g : Option (Nat × Bool)} {t : Nat} {v : Value} (ho : ops[i]? = some ⟨some t, op, ty, pos, af, g⟩) (hp : Pu c F [] ⟨some t, op, ty, pos, af, g⟩ v) (h : RU c ops Q K0 s (listed.setIfInBounds i true) fuel ((t, v) :: F) K) (hh : HasL K K0 := by repeat (first | exact HasL.nil | refine HasL.cons pk9 ?_)) (hk : takeA ops listed i = true := by kernel_rfl) (hn : Nat.beq i s = false := by rfl) (hu : listed.getD s true = false := by kernel_rfl) (hg : gdB F ops g = some true := by rfl) (hd : Nat.blt t c.n = true := by rfl) (hpan : Pan Q := by (intro d _ _ _ _; cases d <;> exact Iff.rfl)) :
    RU c ops Q K0 s listed (fuel + 1) F K := fun a w hF hK => by
  simp only [takeA, Bool.and_eq_true] at hk
  have his : i ≠ s := fun e => by rw [beq_iff.2 e] at hn; cases hn
  exact until_first (T := Sat c.S c.w0 []) ho (Region.noSelect_spec hk.1.1) (fun ch a w h => (hpan _ v ch a w).1 h) his (.inr rfl) fuel listed a w (Region.free_spec ho hk.1.2) (by simpa using hk.2) (.inl ⟨hF.wanted hg, fun w' hS => hp a w' hF hS⟩) hu (HasL.nil.has.sat hK) (hh.has.sat hK) (h _ w (hF.put hd v) hK)
theorem RU.a1 (i : Nat) {o : Oper} (ho : ops[i]? = some o) (h : ∀ Z : Act → World → Prop, (∀ F2 K2, HasL K2 K0 → RU c ops Q K0 s (listed.setIfInBounds i true) fuel F2 K2 → TQ c (fun _ => Z) .normal F2 K2) → TL c ops (nxt Z Q) [o] F K) (hr : Region.ready .any ops listed = [i] := by kernel_rfl) : RU c ops Q K0 s listed (fuel + 1) F K := fun a w hF hK => by
  refine ⟨fun h0 => (by rw [hr] at h0; cases h0), fun j hj => ?_⟩
  rw [hr, List.mem_singleton] at hj
  subst hj
  exact wpOp_of_TL ho (h (fun a' w' => Sat c.S c.w0 [] w' ∧ ((listed.setIfInBounds j true).getD s true = false → Sat c.S c.w0 K0 w') ∧ wpUntil c.P .any ops Q (Sat c.S c.w0 []) (Sat c.S c.w0 K0) s fuel (listed.setIfInBounds j true) a' w') (fun F2 K2 hh hg a' w' hF2 hK2 => ⟨HasL.nil.has.sat hK2, fun _ => hh.has.sat hK2, hg a' w' hF2 hK2⟩)) hF hK
theorem RU.st {o : Oper} (ho : ops[s]? = some o) (h : ∀ Z : Act → World → Prop, (∀ F2 K2, RG c ops Q [] [] (listed.setIfInBounds s true) fuel F2 K2 → TQ c (fun _ => Z) .normal F2 K2) → TL c ops (nxt Z Q) [o] F K) (hr : Region.ready .any ops listed = [s] := by kernel_rfl) (hu : (listed.setIfInBounds s true).getD s true = true := by kernel_rfl) : RU c ops Q K0 s listed (fuel + 1) F K := fun a w hF hK => by
  refine ⟨fun h0 => (by rw [hr] at h0; cases h0), fun j hj => ?_⟩
  rw [hr, List.mem_singleton] at hj
  subst hj
  exact wpOp_of_TL ho (h (fun a' w' => Sat c.S c.w0 [] w' ∧ ((listed.setIfInBounds j true).getD j true = false → Sat c.S c.w0 K0 w') ∧ wpUntil c.P .any ops Q (Sat c.S c.w0 []) (Sat c.S c.w0 K0) j fuel (listed.setIfInBounds j true) a' w') (fun F2 K2 hg a' w' hF2 hK2 => ⟨HasL.nil.has.sat hK2, fun h0 => (by rw [hu] at h0; cases h0), until_of_any _ _ _ _ hu (hg (fun p hp => by cases hp) a' w' hF2 hK2)⟩)) hF hK
end
theorem Pu.fs {c : Cx} {F : Fr} {K : List Fact} {d : Option Tmp} {ty : TypeId} {pos : String} {af : Array Edge} {g : Option (Nat × Bool)} {x : Operand} {T i o gB q sz j : Nat} (hf : FieldAt c.P T i o) (hx : ev F x = some (.pointer (elA (some ⟨gB, 0, none⟩) q sz j)) := by rfl) : Pu c F K ⟨d, .fieldAddr T x i, ty, pos, af, g⟩ (.pointer (elA (some ⟨gB, 0, none⟩) q sz (j + o))) := fun a w hF hK => by
  obtain ⟨off, h1⟩ : ∃ off, elA (some ⟨gB, 0, none⟩) q sz j = some ⟨gB, off, none⟩ := ⟨0 + (q * sz + j), by unfold elA; rw [Option.map_some, add_plain]⟩
  have h2 : elA (some ⟨gB, 0, none⟩) q sz (j + o) = some ⟨gB, off + o, none⟩ := by rw [← elA_add, h1, Option.map_some, add_plain]
  rcases hf w ⟨gB, off, none⟩ with h | h
  · rw [h1] at hx
    rw [h2]
    simp only [execOp, hF.evl hx, Sem.run_bind, h, Result.andThen_ok, Sem.run_pure]
  · cases h
end Go.Proofs.YtmonkjnfjgidbaaGreatDoor
namespace Go.Proofs.YtmonkjnfjgidbaaGreatDoor
set_option linter.all false
set_option linter.unusedVariables false
set_option linter.unusedSimpArgs false
open Go.RowKit
section
variable {c : Cx} {Q : Exit → Act → World → Prop} {F F' : Fr} {K K' K0 : List Fact} {ops : Array Oper} {listed : Array Bool} {fuel s : Nat}
theorem TW.expu {id : Nat} {l : List Oper} {X : Type} (s : Nat) (K0 : List Fact) (Fj : X → Fr) (Kj : X → List Fact) (h1 : ∀ x, TQ c Q .normal (Fj x) (Kj x)) (h2 : (∀ x, TQ c Q .normal (Fj x) (Kj x)) → RU c l.toArray Q K0 s (Array.replicate l.length false) l.length F K) (hm : c.P.follows .mixedOrders = true := by rfl) : TW c (.region id l.toArray true) Q F K := TW.exu s K0 (h2 h1) hm
def RUo (c : Cx) (ops : Array Oper) (Q : Exit → Act → World → Prop) (K0 : List Fact) (s : Nat) (listed : Array Bool) (fuel : Nat) (F : Fr) (K : List Fact) (i : Nat) (o : Oper) : Prop :=
  ∀ Z : Act → World → Prop, (∀ F2 K2, HasL K2 K0 → RU c ops Q K0 s (listed.setIfInBounds i true) fuel F2 K2 → TQ c (fun _ => Z) .normal F2 K2) → TL c ops (nxt Z Q) [o] F K
theorem RU.all {L : List Nat} (hr : Region.ready .any ops listed = L) (hL : L ≠ []) (h : ∀ j ∈ L, ∃ o, ops[j]? = some o ∧ RUo c ops Q K0 s listed fuel F K j o) : RU c ops Q K0 s listed (fuel + 1) F K := fun a w hF hK => by
  refine ⟨fun h0 => absurd (hr.symm.trans h0) hL, fun j hj => ?_⟩
  rw [hr] at hj
  obtain ⟨o, ho, h9⟩ := h j hj
  exact wpOp_of_TL ho (h9 (fun a' w' => Sat c.S c.w0 [] w' ∧ ((listed.setIfInBounds j true).getD s true = false → Sat c.S c.w0 K0 w') ∧ wpUntil c.P .any ops Q (Sat c.S c.w0 []) (Sat c.S c.w0 K0) s fuel (listed.setIfInBounds j true) a' w') (fun F2 K2 hh hg a' w' hF2 hK2 => ⟨HasL.nil.has.sat hK2, fun _ => hh.has.sat hK2, hg a' w' hF2 hK2⟩)) hF hK
theorem RU.a2 (i j : Nat) {o o' : Oper} (ho : ops[i]? = some o) (ho' : ops[j]? = some o') (h : RUo c ops Q K0 s listed fuel F K i o) (h' : RUo c ops Q K0 s listed fuel F K j o') (hr : Region.ready .any ops listed = [i, j] := by kernel_rfl) : RU c ops Q K0 s listed (fuel + 1) F K :=
  RU.all hr (by simp) fun k hk => by
    simp only [List.mem_cons, List.not_mem_nil, or_false] at hk
    rcases hk with rfl | rfl
    · exact ⟨o, ho, h⟩
    · exact ⟨o', ho', h'⟩
theorem RU.a3 (i j k : Nat) {o o' o'' : Oper} (ho : ops[i]? = some o) (ho' : ops[j]? = some o') (ho'' : ops[k]? = some o'') (h : RUo c ops Q K0 s listed fuel F K i o) (h' : RUo c ops Q K0 s listed fuel F K j o') (h'' : RUo c ops Q K0 s listed fuel F K k o'') (hr : Region.ready .any ops listed = [i, j, k] := by kernel_rfl) : RU c ops Q K0 s listed (fuel + 1) F K :=
  RU.all hr (by simp) fun k hk => by
    simp only [List.mem_cons, List.not_mem_nil, or_false] at hk
    rcases hk with rfl | rfl | rfl
    · exact ⟨o, ho, h⟩
    · exact ⟨o', ho', h'⟩
    · exact ⟨o'', ho'', h''⟩
end
section
variable {c : Cx} {Q : Exit → Act → World → Prop} {F F' : Fr} {K K' K0 : List Fact} {ops : Array Oper} {listed l2 : Array Bool} {fuel f2 : Nat}
def lstA (n : Nat) (L : List Nat) : Array Bool := L.foldl (fun l i => l.setIfInBounds i true) (Array.replicate n false)
theorem RG.later {X : Type} (n : Nat) (L : List Nat) (f2 : Nat) (Fj : X → Fr) (Kj : X → List Fact) (h1 : ∀ x, RG c ops Q K0 [] (lstA n L) f2 (Fj x) (Kj x)) (h2 : (∀ x, RG c ops Q K0 [] (lstA n L) f2 (Fj x) (Kj x)) → RG c ops Q K0 [] listed fuel F K) : RG c ops Q K0 [] listed fuel F K := h2 h1
theorem RG.meet (h : RG c ops Q K0 [] l2 f2 F' K') (hF : fsub F F') (hK : KSub K K') (e : listed = l2 := by kernel_rfl) (ef : fuel = f2 := by rfl) : RG c ops Q K0 [] listed fuel F K := by
  subst e ef
  exact fun hp a w hf hk => h hp a w (hf.sub (fsub_spec hF)) (hk.sub hK)
end
section
variable {c : Cx} {Q : Exit → Act → World → Prop} {F : Fr} {K K0 : List Fact} {ops : Array Oper} {listed : Array Bool} {fuel : Nat}
theorem RG.a4 (i0 i1 i2 i3 : Nat) {o0 : Oper} {o1 : Oper} {o2 : Oper} {o3 : Oper} (e0 : ops[i0]? = some o0) (e1 : ops[i1]? = some o1) (e2 : ops[i2]? = some o2) (e3 : ops[i3]? = some o3) (h0 : RGo c ops Q K0 listed fuel F K i0 o0) (h1 : RGo c ops Q K0 listed fuel F K i1 o1) (h2 : RGo c ops Q K0 listed fuel F K i2 o2) (h3 : RGo c ops Q K0 listed fuel F K i3 o3) (hr : Region.ready .any ops listed = [i0, i1, i2, i3] := by kernel_rfl) : RG c ops Q K0 [] listed (fuel + 1) F K :=
  RG.all hr (by simp) fun k hk => by
    simp only [List.mem_cons, List.not_mem_nil, or_false] at hk
    rcases hk with rfl | rfl | rfl | rfl
    · exact ⟨o0, e0, h0⟩
    · exact ⟨o1, e1, h1⟩
    · exact ⟨o2, e2, h2⟩
    · exact ⟨o3, e3, h3⟩
theorem RG.a5 (i0 i1 i2 i3 i4 : Nat) {o0 : Oper} {o1 : Oper} {o2 : Oper} {o3 : Oper} {o4 : Oper} (e0 : ops[i0]? = some o0) (e1 : ops[i1]? = some o1) (e2 : ops[i2]? = some o2) (e3 : ops[i3]? = some o3) (e4 : ops[i4]? = some o4) (h0 : RGo c ops Q K0 listed fuel F K i0 o0) (h1 : RGo c ops Q K0 listed fuel F K i1 o1) (h2 : RGo c ops Q K0 listed fuel F K i2 o2) (h3 : RGo c ops Q K0 listed fuel F K i3 o3) (h4 : RGo c ops Q K0 listed fuel F K i4 o4) (hr : Region.ready .any ops listed = [i0, i1, i2, i3, i4] := by kernel_rfl) : RG c ops Q K0 [] listed (fuel + 1) F K :=
  RG.all hr (by simp) fun k hk => by
    simp only [List.mem_cons, List.not_mem_nil, or_false] at hk
    rcases hk with rfl | rfl | rfl | rfl | rfl
    · exact ⟨o0, e0, h0⟩
    · exact ⟨o1, e1, h1⟩
    · exact ⟨o2, e2, h2⟩
    · exact ⟨o3, e3, h3⟩
    · exact ⟨o4, e4, h4⟩
end
section
variable {c : Cx} {Q : Exit → Act → World → Prop} {F F' : Fr} {K K' K0 : List Fact} {ops : Array Oper} {nf : Nat} {fl : List Fl} {bs : List Bool} {pend : List (Nat × Oper)} {ty : TypeId} {pos : String} {af : Array Edge}
end
end Go.Proofs.YtmonkjnfjgidbaaGreatDoor
namespace Go.Proofs.YtmonkjnfjgidbaaGreatDoor
set_option linter.all false
set_option linter.unusedVariables false
set_option linter.unusedSimpArgs false
open Go.RowKit
set_option maxRecDepth 100000 in
theorem neToll (x y : Operand) (v : TlX) (w : World) : (do eqGuard .neq 78 x y (.agg (tolL v).toArray) (.agg (tolL v).toArray); binOp .neq 78 (.agg (tolL v).toArray) (.agg (tolL v).toArray) : Sem Value).run Tryz.prog w = .ok (.bool false) w := by
  unfold tolL
  go_simp
set_option maxRecDepth 100000 in
theorem sameTolls_any {A B : Option Addr} {L : List TlX} {c1 c2 : Nat} {w : World} (hn : L.length ≤ 1000000) (hA : RdR w 4 A L.length (rowsT L)) (hB : RdR w 4 B L.length (rowsT L)) :
    Calls Tryz.prog 22 #[.slice A L.length c1, .slice B L.length c2] w (Ret w (.bool true)) := by
  unfold rowsT at hA hB
  refine K_enter (S := []) (K := []) Tryz.func22 rfl Tryz.ntmps22 rfl (Sat.start _) ?_
  refine TW.seq fun Y1 hY1 => ?_
  refine TW.region ?_
  refine TL.p Pu.as ?_
  refine TL.nil ?_
  refine TQ.thenN (hY1 _ _ ?_)
  refine TW.seq fun Y2 hY2 => ?_
  refine TW.seq fun Y3 hY3 => ?_
  refine TW.region ?_
  refine TL.p Pu.mv ?_
  refine TL.p (Pu.ln Tryz.underlying45) ?_
  refine TL.p Pu.mv ?_
  refine TL.p (Pu.ln Tryz.underlying45) ?_
  refine TL.p Pu.ne ?_
  refine TL.nil ?_
  refine TQ.thenN (hY3 _ _ ?_)
  refine TW.condF rfl ((by simp)) ?_
  refine TW.skip ?_
  refine TQ.thenN (hY2 _ _ ?_)
  refine TW.seq fun Y4 hY4 => ?_
  refine TW.seq fun Y5 hY5 => ?_
  refine TW.region ?_
  refine TL.p Pu.as ?_
  refine TL.nil ?_
  refine TQ.thenN (hY5 _ _ ?_)
  refine TW.block ?_
  refine TW.loop1 (fun (i : Nat) => [(5, .int .i64 (i : Int)), (0, .slice A L.length c1), (1, .slice B L.length c2)]) (fun i => []) (fun i => i ≤ L.length) (fun i => L.length - i) 0 fs9 ?_ ?_ ?_
  exact ks9
  exact Nat.zero_le _
  rintro i hi Z0 hZ0
  refine TW.seq fun Y6 hY6 => ?_
  refine TW.seq fun Y7 hY7 => ?_
  refine TW.region ?_
  refine TL.p Pu.mv ?_
  refine TL.p Pu.mv ?_
  refine TL.p (Pu.ln Tryz.underlying45) ?_
  refine TL.p Pu.lt ?_
  refine TL.nil ?_
  refine TQ.thenN (hY7 _ _ ?_)
  refine TW.cond rfl (fun hc1 => ?_) (fun hc1 => ?_)
  try simp only [decide_eq_true_eq, decide_eq_false_iff_not, Bool.not_eq_true', Bool.not_eq_false', Bool.and_eq_true, Bool.or_eq_true, Bool.and_eq_false_iff, Bool.or_eq_false_iff, Int.not_lt, Int.not_le] at hc1
  have hin : i < L.length := by omega
  refine TW.skip ?_
  refine TQ.thenN (hY6 _ _ ?_)
  refine TW.seq fun Y8 hY8 => ?_
  refine TW.block ?_
  refine TW.seq fun Y9 hY9 => ?_
  refine TW.dw 9 ?_
  refine RK.tk Pu.mv ?_
  refine RK.tk Pu.mv ?_
  refine RK.tk (Pu.el ty_et45) ?_
  refine RK.tk (Pu.lds ty_ag78) ?_
  refine RK.tk Pu.mv ?_
  refine RK.tk Pu.mv ?_
  refine RK.tk (Pu.el ty_et45) ?_
  refine RK.tk (Pu.lds ty_ag78) ?_
  refine RK.tk (Pu.bn rfl rfl (fun w => neToll _ _ (L.getD i (0, 0, 0, 0)) w)) ?_
  refine RK.ch [] ?_ trivial
  refine WK.n ?_
  refine TL.nil ?_
  refine TQ.thenN (hY9 _ _ ?_)
  refine TW.condF rfl (rfl) ?_
  refine TW.skip ?_
  refine TQ.blkN ?_
  refine TQ.thenN (hY8 _ _ ?_)
  refine TW.region ?_
  refine TL.p Pu.mv ?_
  refine TL.p Pu.ad ?_
  refine TL.p Pu.as ?_
  refine TL.nil ?_
  refine TQ.thenN (hZ0 (i + 1) _ _ ?_ ?_ fs9 ?_)
  exact (by omega)
  exact (by first | omega | (simp only []; omega) | (simp; omega))
  exact ks9
  try simp only [decide_eq_true_eq, decide_eq_false_iff_not, Bool.not_eq_true', Bool.not_eq_false', Bool.and_eq_true, Bool.or_eq_true, Bool.and_eq_false_iff, Bool.or_eq_false_iff, Int.not_lt, Int.not_le] at hc1
  have hin : i = L.length := by omega
  refine TW.exit ?_
  refine TQ.thenX ?_
  refine TQ.thenX ?_
  refine TQ.blkX ?_
  refine TQ.thenN (hY4 _ _ ?_)
  refine TW.seq fun Y10 hY10 => ?_
  refine TW.region ?_
  refine TL.p Pu.as ?_
  refine TL.nil ?_
  refine TQ.thenN (hY10 _ _ ?_)
  refine TW.ret ?_
  refine TQ.ret Tryz.results22 rfl ((.tmp rfl .nil)) ?_
  exact fun w hw => Ret.of hw
def sameN (n1 : Nat) (v1 : Nat → Int) (n2 : Nat) (v2 : Nat → Int) : Bool := decide (n1 = n2) && allB n1 (fun k => decide (v1 k = v2 k))
theorem sameN_self {n : Nat} {v : Nat → Int} : sameN n v n v = true := by
  unfold sameN
  rw [decide_eq_true rfl, Bool.true_and, allB_iff]
  exact fun _ _ => decide_eq_true rfl
set_option maxRecDepth 100000 in
theorem sameInts3_any {A B : Option Addr} {n1 n2 c1 c2 : Nat} {v1 v2 : Nat → Int} {w : World} (hn : n1 ≤ 1000000000) (hA : RdR w 1 A n1 (fun k => [.int .i64 (v1 k)])) (hB : RdR w 1 B n2 (fun k => [.int .i64 (v2 k)])) :
    Calls Tryz.prog 26 #[.slice A n1 c1, .slice B n2 c2] w (Ret w (.bool (sameN n1 v1 n2 v2))) := by
  refine K_enter (S := []) (K := []) Tryz.func26 rfl Tryz.ntmps26 rfl (Sat.start _) ?_
  refine TW.seq fun Y1 hY1 => ?_
  refine TW.region ?_
  refine TL.p Pu.as ?_
  refine TL.nil ?_
  refine TQ.thenN (hY1 _ _ ?_)
  refine TW.seq fun Y2 hY2 => ?_
  refine TW.seq fun Y3 hY3 => ?_
  refine TW.region ?_
  refine TL.p Pu.mv ?_
  refine TL.p (Pu.ln Tryz.underlying31) ?_
  refine TL.p Pu.mv ?_
  refine TL.p (Pu.ln Tryz.underlying31) ?_
  refine TL.p Pu.ne ?_
  refine TL.nil ?_
  refine TQ.thenN (hY3 _ _ ?_)
  refine TW.cond rfl (fun hc0 => ?_) (fun hc0 => ?_)
  try simp only [decide_eq_true_eq, decide_eq_false_iff_not, Bool.not_eq_true', Bool.not_eq_false', Bool.and_eq_true, Bool.or_eq_true, Bool.and_eq_false_iff, Bool.or_eq_false_iff, Int.not_lt, Int.not_le] at hc0
  refine TW.seq fun Y4 hY4 => ?_
  refine TW.region ?_
  refine TL.p Pu.as ?_
  refine TL.nil ?_
  refine TQ.thenN (hY4 _ _ ?_)
  refine TW.ret ?_
  refine TQ.thenR ?_
  refine TQ.ret Tryz.results26 rfl ((.tmp rfl .nil)) ?_
  exact fun w hw => ⟨ret_bool (by
    have : ¬ n1 = n2 := fun e => by subst e; simp at hc0
    simp [sameN, this]), Chg.ext hw.chg⟩
  try simp only [decide_eq_true_eq, decide_eq_false_iff_not, Bool.not_eq_true', Bool.not_eq_false', Bool.and_eq_true, Bool.or_eq_true, Bool.and_eq_false_iff, Bool.or_eq_false_iff, Int.not_lt, Int.not_le] at hc0
  have hnn : n1 = n2 := by
    have : ¬ ¬ ((n1 : Int) = (n2 : Int)) := by simpa using hc0
    omega
  refine TW.skip ?_
  refine TQ.thenN (hY2 _ _ ?_)
  refine TW.seq fun Y5 hY5 => ?_
  refine TW.seq fun Y6 hY6 => ?_
  refine TW.region ?_
  refine TL.p Pu.as ?_
  refine TL.nil ?_
  refine TQ.thenN (hY6 _ _ ?_)
  refine TW.block ?_
  refine TW.loop1 (fun (k : Nat) => [(5, .int .i64 (k : Int)), (0, .slice A n1 c1), (1, .slice B n2 c2)]) (fun k => []) (fun k => k ≤ n1 ∧ ∀ j, j < k → v1 j = v2 j) (fun k => n1 - k) 0 fs9 ?_ ?_ ?_
  exact ks9
  exact ⟨by omega, fun j hj => by omega⟩
  rintro k ⟨hk, hall⟩ Z0 hZ0
  refine TW.seq fun Y7 hY7 => ?_
  refine TW.seq fun Y8 hY8 => ?_
  refine TW.region ?_
  refine TL.p Pu.mv ?_
  refine TL.p Pu.mv ?_
  refine TL.p (Pu.ln Tryz.underlying31) ?_
  refine TL.p Pu.lt ?_
  refine TL.nil ?_
  refine TQ.thenN (hY8 _ _ ?_)
  refine TW.cond rfl (fun hc1 => ?_) (fun hc1 => ?_)
  try simp only [decide_eq_true_eq, decide_eq_false_iff_not, Bool.not_eq_true', Bool.not_eq_false', Bool.and_eq_true, Bool.or_eq_true, Bool.and_eq_false_iff, Bool.or_eq_false_iff, Int.not_lt, Int.not_le] at hc1
  refine TW.skip ?_
  refine TQ.thenN (hY7 _ _ ?_)
  refine TW.seq fun Y9 hY9 => ?_
  refine TW.block ?_
  refine TW.seq fun Y10 hY10 => ?_
  refine TW.dw 9 ?_
  refine RK.tk Pu.mv ?_
  refine RK.tk Pu.mv ?_
  refine RK.tk (Pu.el ty_et31) ?_
  refine RK.tk (Pu.ld ty_sc3) ?_
  refine RK.tk Pu.mv ?_
  refine RK.tk Pu.mv ?_
  refine RK.tk (Pu.el ty_et31) ?_
  refine RK.tk (Pu.ld ty_sc3) ?_
  refine RK.tk Pu.ne ?_
  refine RK.ch [] ?_ trivial
  refine WK.n ?_
  refine TL.nil ?_
  refine TQ.thenN (hY10 _ _ ?_)
  refine TW.cond rfl (fun hc2 => ?_) (fun hc2 => ?_)
  try simp only [decide_eq_true_eq, decide_eq_false_iff_not, Bool.not_eq_true', Bool.not_eq_false', Bool.and_eq_true, Bool.or_eq_true, Bool.and_eq_false_iff, Bool.or_eq_false_iff, Int.not_lt, Int.not_le] at hc2
  have hbad : ¬ v1 k = v2 k := by simpa using hc2
  refine TW.seq fun Y11 hY11 => ?_
  refine TW.region ?_
  refine TL.p Pu.as ?_
  refine TL.nil ?_
  refine TQ.thenN (hY11 _ _ ?_)
  refine TW.ret ?_
  refine TQ.blkR ?_
  refine TQ.thenR ?_
  refine TQ.thenR ?_
  refine TQ.blkR ?_
  refine TQ.thenR ?_
  refine TQ.ret Tryz.results26 rfl ((.tmp rfl .nil)) ?_
  exact fun w hw => ⟨ret_bool (by
    cases h : sameN n1 v1 n2 v2 with
    | false => rfl
    | true =>
      simp only [sameN, Bool.and_eq_true, allB_iff, decide_eq_true_eq] at h
      exact absurd (h.2 k (by omega)) hbad), Chg.ext hw.chg⟩
  try simp only [decide_eq_true_eq, decide_eq_false_iff_not, Bool.not_eq_true', Bool.not_eq_false', Bool.and_eq_true, Bool.or_eq_true, Bool.and_eq_false_iff, Bool.or_eq_false_iff, Int.not_lt, Int.not_le] at hc2
  have hgood : v1 k = v2 k := by simpa using hc2
  refine TW.skip ?_
  refine TQ.blkN ?_
  refine TQ.thenN (hY9 _ _ ?_)
  refine TW.region ?_
  refine TL.p Pu.mv ?_
  refine TL.p Pu.ad ?_
  refine TL.p Pu.as ?_
  refine TL.nil ?_
  refine TQ.thenN (hZ0 (k + 1) _ _ ?_ ?_ fs9 ?_)
  refine ⟨by omega, fun j hj => ?_⟩
  by_cases h : j = k
  subst h; exact hgood
  exact hall j (by omega)
  exact (by first | omega | (simp only []; omega) | (simp; omega))
  exact ks9
  try simp only [decide_eq_true_eq, decide_eq_false_iff_not, Bool.not_eq_true', Bool.not_eq_false', Bool.and_eq_true, Bool.or_eq_true, Bool.and_eq_false_iff, Bool.or_eq_false_iff, Int.not_lt, Int.not_le] at hc1
  refine TW.exit ?_
  refine TQ.thenX ?_
  refine TQ.thenX ?_
  refine TQ.blkX ?_
  refine TQ.thenN (hY5 _ _ ?_)
  refine TW.seq fun Y12 hY12 => ?_
  refine TW.region ?_
  refine TL.p Pu.as ?_
  refine TL.nil ?_
  refine TQ.thenN (hY12 _ _ ?_)
  refine TW.ret ?_
  refine TQ.ret Tryz.results26 rfl ((.tmp rfl .nil)) ?_
  exact fun w hw => ⟨ret_bool (by
    obtain rfl : k = n1 := by omega
    simp only [sameN, Bool.and_eq_true, allB_iff, decide_eq_true_eq]
    exact ⟨hnn, hall⟩), Chg.ext hw.chg⟩
theorem same3_true {A B : Option Addr} {n c1 c2 : Nat} {v : Nat → Int} {w : World} (hn : n ≤ 1000000000) (hA : RdR w 1 A n (fun k => [.int .i64 (v k)])) (hB : RdR w 1 B n (fun k => [.int .i64 (v k)])) :
    Calls Tryz.prog 26 #[.slice A n c1, .slice B n c2] w (Ret w (.bool true)) := by
  have h := sameInts3_any (c1 := c1) (c2 := c2) hn hA hB
  rwa [sameN_self] at h
abbrev TTx := (Option Addr × Nat) × (Option Addr × Nat) × (Option Addr × Nat)
def twT (T : Trp) (x : TTx) : List Fact :=
  [.own x.1.1 T.no x.1.2 3 1 (fun i => [.int .i64 (T.o i)]), .own x.2.1.1 T.nu x.2.1.2 3 1 (fun i => [.int .i64 (T.u i)]), .own x.2.2.1 T.nv x.2.2.2 3 1 (fun i => [.int .i64 (T.v i)])]
section
variable {T : Trp} {O U V O' U' V' : Option Addr} {co cu cv co' cu' cv' : Nat} {w w0 : World} {S : List Nat} {K : List Fact}
set_option maxRecDepth 100000 in
set_option maxHeartbeats 4000000 in
theorem twinTroop_any (t : TrpIn w T O U V) :
    CallsK Tryz.prog 17 #[.agg (troopL T.hd T.wo O T.no co U T.nu cu V T.nv cv).toArray] [] w TTx (fun x => .agg (troopL T.hd T.wo x.1.1 T.no x.1.2 x.2.1.1 T.nu x.2.1.2 x.2.2.1 T.nv x.2.2.2).toArray) (fun x => twT T x) := by
  have hRO := t.hO
  have hRU := t.hU
  have hRV := t.hV
  have hno := t.hno
  have hnu := t.hnu
  have hnv := t.hnv
  unfold troopL twT
  refine K_enter (S := []) (K := []) Tryz.func17 rfl Tryz.ntmps17 rfl (Sat.start _) ?_
  refine TW.seq fun Y1 hY1 => ?_
  refine TW.region ?_
  refine TL.m Mk.bx ?_
  intro b1
  refine TL.m (Mk.al ty_zr33) ?_
  intro b2
  refine TL.nil ?_
  refine TQ.thenN (hY1 _ _ ?_)
  refine TW.seq fun Y2 hY2 => ?_
  refine TW.expu 13 [.blk b1 33 [.int .i64 T.hd, .int .i64 T.wo, .slice O T.no co, .slice U T.nu cu, .slice V T.nv cv]] (fun (⟨A3, c3, A7, c7, A11, c11⟩ : Option Addr × Nat × Option Addr × Nat × Option Addr × Nat) => ([(1, .pointer (some ⟨b1, 0, none⟩)), (2, .pointer (some ⟨b2, 0, none⟩))] : Fr)) (fun (⟨A3, c3, A7, c7, A11, c11⟩ : Option Addr × Nat × Option Addr × Nat × Option Addr × Nat) => [.blk b1 33 [.int .i64 T.hd, .int .i64 T.wo, .slice A3 T.no c3, .slice A7 T.nu c7, .slice A11 T.nv c11], .own A3 T.no c3 3 1 (fun i => [.int .i64 (T.o i)]), .own A7 T.nu c7 3 1 (fun i => [.int .i64 (T.u i)]), .own A11 T.nv c11 3 1 (fun i => [.int .i64 (T.v i)]), .blk b2 33 [.int .i64 0, .int .i64 0, .slice none 0 0, .slice none 0 0, .slice none 0 0]]) ?_ (fun hE => ?_)
  rintro ⟨A3, c3, A7, c7, A11, c11⟩
  refine TQ.thenN (hY2 _ _ ?_)
  refine TW.seq fun Y3 hY3 => ?_
  refine TW.region ?_
  refine TL.p (Pu.lds ty_ag33) ?_
  first | refine TL.st ty_sz33 ?_ | refine TL.se ty_sz33 ?_
  refine TL.nil ?_
  refine TQ.thenN (hY3 _ _ ?_)
  refine TW.ret ?_
  refine TQ.ret Tryz.results17 rfl ((RV.cs ty_ag33 .nil)) ?_
  exact fun w hw => ⟨((A3, c3), (A7, c7), (A11, c11)), rfl, hw.sub ks9⟩
  refine RU.tm 1 rfl (by first | exact Pu.fb ty_fa33_2 | exact Pu.fs ty_fa33_2) ?_
  refine RU.tk 2 rfl (Pu.ld ty_sc31) ?_
  refine RU.tm 5 rfl (by first | exact Pu.fb ty_fa33_3 | exact Pu.fs ty_fa33_3) ?_
  refine RU.tk 6 rfl (Pu.ld ty_sc31) ?_
  refine RU.tm 9 rfl (by first | exact Pu.fb ty_fa33_4 | exact Pu.fs ty_fa33_4) ?_
  refine RU.tk 10 rfl (Pu.ld ty_sc31) ?_
  refine RU.a3 0 4 8 rfl rfl rfl (fun X0 hX0 => ?_) (fun X4 hX4 => ?_) (fun X8 hX8 => ?_)
  refine TL.m Mk.bl ?_
  intro x0
  refine TL.nil ?_
  refine TQ.nxt (hX0 _ _ hl9 ?_)
  refine RU.a3 3 4 8 rfl rfl rfl (fun X3 hX3 => ?_) (fun X4 hX4 => ?_) (fun X8 hX8 => ?_)
  refine TL.ob (b := x0) (sz := 1) (r := fun _ => []) pk9 rfl ?_
  first | refine TL.a0 ty_et31 ?_ | refine TL.ap ty_et31 ?_
  intro A3 c3
  refine TL.nil ?_
  refine TQ.nxt (hX3 _ _ hl9 ?_)
  refine RU.tm 12 rfl (by first | exact Pu.fb ty_fa33_2 | exact Pu.fs ty_fa33_2) ?_
  refine RU.a2 4 8 rfl rfl (fun X4 hX4 => ?_) (fun X8 hX8 => ?_)
  refine TL.m Mk.bl ?_
  intro x4
  refine TL.nil ?_
  refine TQ.nxt (hX4 _ _ hl9 ?_)
  refine RU.a2 7 8 rfl rfl (fun X7 hX7 => ?_) (fun X8 hX8 => ?_)
  refine TL.ob (b := x4) (sz := 1) (r := fun _ => []) pk9 rfl ?_
  first | refine TL.a0 ty_et31 ?_ | refine TL.ap ty_et31 ?_
  intro A7 c7
  refine TL.nil ?_
  refine TQ.nxt (hX7 _ _ hl9 ?_)
  refine RU.a1 8 rfl (fun X8 hX8 => ?_)
  refine TL.m Mk.bl ?_
  intro x8
  refine TL.nil ?_
  refine TQ.nxt (hX8 _ _ hl9 ?_)
  refine RU.a1 11 rfl (fun X11 hX11 => ?_)
  refine TL.ob (b := x8) (sz := 1) (r := fun _ => []) pk9 rfl ?_
  first | refine TL.a0 ty_et31 ?_ | refine TL.ap ty_et31 ?_
  intro A11 c11
  refine TL.nil ?_
  refine TQ.nxt (hX11 _ _ hl9 ?_)
  refine RU.st rfl (fun X13 hX13 => ?_)
  first | refine TL.st ty_sz31 ?_ | refine TL.se ty_sz31 ?_
  refine TL.nil ?_
  refine TQ.nxt (hX13 _ _ ?_)
  refine RG.tk 14 rfl (by first | exact Pu.fb ty_fa33_3 | exact Pu.fs ty_fa33_3) ?_
  refine RG.a1 15 rfl (fun X15 hX15 => ?_)
  first | refine TL.st ty_sz31 ?_ | refine TL.se ty_sz31 ?_
  refine TL.nil ?_
  refine TQ.nxt (hX15 _ _ hl9 ?_)
  refine RG.tk 16 rfl (by first | exact Pu.fb ty_fa33_4 | exact Pu.fs ty_fa33_4) ?_
  refine RG.a1 17 rfl (fun X17 hX17 => ?_)
  first | refine TL.st ty_sz31 ?_ | refine TL.se ty_sz31 ?_
  refine TL.nil ?_
  refine TQ.nxt (hX17 _ _ hl9 ?_)
  exact RG.nil (TQ.sub fs9 kt9 (hE ⟨A3, c3, A7, c7, A11, c11⟩)) (by kernel_rfl)
  refine TL.m Mk.bl ?_
  intro x8
  refine TL.nil ?_
  refine TQ.nxt (hX8 _ _ hl9 ?_)
  refine RU.a1 7 rfl (fun X7 hX7 => ?_)
  refine TL.ob (b := x4) (sz := 1) (r := fun _ => []) pk9 rfl ?_
  first | refine TL.a0 ty_et31 ?_ | refine TL.ap ty_et31 ?_
  intro A7 c7
  refine TL.nil ?_
  refine TQ.nxt (hX7 _ _ hl9 ?_)
  refine RU.a1 11 rfl (fun X11 hX11 => ?_)
  refine TL.ob (b := x8) (sz := 1) (r := fun _ => []) pk9 rfl ?_
  first | refine TL.a0 ty_et31 ?_ | refine TL.ap ty_et31 ?_
  intro A11 c11
  refine TL.nil ?_
  refine TQ.nxt (hX11 _ _ hl9 ?_)
  refine RU.st rfl (fun X13 hX13 => ?_)
  first | refine TL.st ty_sz31 ?_ | refine TL.se ty_sz31 ?_
  refine TL.nil ?_
  refine TQ.nxt (hX13 _ _ ?_)
  refine RG.tk 14 rfl (by first | exact Pu.fb ty_fa33_3 | exact Pu.fs ty_fa33_3) ?_
  refine RG.a1 15 rfl (fun X15 hX15 => ?_)
  first | refine TL.st ty_sz31 ?_ | refine TL.se ty_sz31 ?_
  refine TL.nil ?_
  refine TQ.nxt (hX15 _ _ hl9 ?_)
  refine RG.tk 16 rfl (by first | exact Pu.fb ty_fa33_4 | exact Pu.fs ty_fa33_4) ?_
  refine RG.a1 17 rfl (fun X17 hX17 => ?_)
  first | refine TL.st ty_sz31 ?_ | refine TL.se ty_sz31 ?_
  refine TL.nil ?_
  refine TQ.nxt (hX17 _ _ hl9 ?_)
  exact RG.nil (TQ.sub fs9 kt9 (hE ⟨A3, c3, A7, c7, A11, c11⟩)) (by kernel_rfl)
  refine TL.m Mk.bl ?_
  intro x8
  refine TL.nil ?_
  refine TQ.nxt (hX8 _ _ hl9 ?_)
  refine RU.a1 4 rfl (fun X4 hX4 => ?_)
  refine TL.m Mk.bl ?_
  intro x4
  refine TL.nil ?_
  refine TQ.nxt (hX4 _ _ hl9 ?_)
  refine RU.a1 7 rfl (fun X7 hX7 => ?_)
  refine TL.ob (b := x4) (sz := 1) (r := fun _ => []) pk9 rfl ?_
  first | refine TL.a0 ty_et31 ?_ | refine TL.ap ty_et31 ?_
  intro A7 c7
  refine TL.nil ?_
  refine TQ.nxt (hX7 _ _ hl9 ?_)
  refine RU.a1 11 rfl (fun X11 hX11 => ?_)
  refine TL.ob (b := x8) (sz := 1) (r := fun _ => []) pk9 rfl ?_
  first | refine TL.a0 ty_et31 ?_ | refine TL.ap ty_et31 ?_
  intro A11 c11
  refine TL.nil ?_
  refine TQ.nxt (hX11 _ _ hl9 ?_)
  refine RU.st rfl (fun X13 hX13 => ?_)
  first | refine TL.st ty_sz31 ?_ | refine TL.se ty_sz31 ?_
  refine TL.nil ?_
  refine TQ.nxt (hX13 _ _ ?_)
  refine RG.tk 14 rfl (by first | exact Pu.fb ty_fa33_3 | exact Pu.fs ty_fa33_3) ?_
  refine RG.a1 15 rfl (fun X15 hX15 => ?_)
  first | refine TL.st ty_sz31 ?_ | refine TL.se ty_sz31 ?_
  refine TL.nil ?_
  refine TQ.nxt (hX15 _ _ hl9 ?_)
  refine RG.tk 16 rfl (by first | exact Pu.fb ty_fa33_4 | exact Pu.fs ty_fa33_4) ?_
  refine RG.a1 17 rfl (fun X17 hX17 => ?_)
  first | refine TL.st ty_sz31 ?_ | refine TL.se ty_sz31 ?_
  refine TL.nil ?_
  refine TQ.nxt (hX17 _ _ hl9 ?_)
  exact RG.nil (TQ.sub fs9 kt9 (hE ⟨A3, c3, A7, c7, A11, c11⟩)) (by kernel_rfl)
  refine TL.m Mk.bl ?_
  intro x4
  refine TL.nil ?_
  refine TQ.nxt (hX4 _ _ hl9 ?_)
  refine RU.a2 3 8 rfl rfl (fun X3 hX3 => ?_) (fun X8 hX8 => ?_)
  refine TL.ob (b := x0) (sz := 1) (r := fun _ => []) pk9 rfl ?_
  first | refine TL.a0 ty_et31 ?_ | refine TL.ap ty_et31 ?_
  intro A3 c3
  refine TL.nil ?_
  refine TQ.nxt (hX3 _ _ hl9 ?_)
  refine RU.tm 12 rfl (by first | exact Pu.fb ty_fa33_2 | exact Pu.fs ty_fa33_2) ?_
  refine RU.a2 7 8 rfl rfl (fun X7 hX7 => ?_) (fun X8 hX8 => ?_)
  refine TL.ob (b := x4) (sz := 1) (r := fun _ => []) pk9 rfl ?_
  first | refine TL.a0 ty_et31 ?_ | refine TL.ap ty_et31 ?_
  intro A7 c7
  refine TL.nil ?_
  refine TQ.nxt (hX7 _ _ hl9 ?_)
  refine RU.a1 8 rfl (fun X8 hX8 => ?_)
  refine TL.m Mk.bl ?_
  intro x8
  refine TL.nil ?_
  refine TQ.nxt (hX8 _ _ hl9 ?_)
  refine RU.a1 11 rfl (fun X11 hX11 => ?_)
  refine TL.ob (b := x8) (sz := 1) (r := fun _ => []) pk9 rfl ?_
  first | refine TL.a0 ty_et31 ?_ | refine TL.ap ty_et31 ?_
  intro A11 c11
  refine TL.nil ?_
  refine TQ.nxt (hX11 _ _ hl9 ?_)
  refine RU.st rfl (fun X13 hX13 => ?_)
  first | refine TL.st ty_sz31 ?_ | refine TL.se ty_sz31 ?_
  refine TL.nil ?_
  refine TQ.nxt (hX13 _ _ ?_)
  refine RG.tk 14 rfl (by first | exact Pu.fb ty_fa33_3 | exact Pu.fs ty_fa33_3) ?_
  refine RG.a1 15 rfl (fun X15 hX15 => ?_)
  first | refine TL.st ty_sz31 ?_ | refine TL.se ty_sz31 ?_
  refine TL.nil ?_
  refine TQ.nxt (hX15 _ _ hl9 ?_)
  refine RG.tk 16 rfl (by first | exact Pu.fb ty_fa33_4 | exact Pu.fs ty_fa33_4) ?_
  refine RG.a1 17 rfl (fun X17 hX17 => ?_)
  first | refine TL.st ty_sz31 ?_ | refine TL.se ty_sz31 ?_
  refine TL.nil ?_
  refine TQ.nxt (hX17 _ _ hl9 ?_)
  exact RG.nil (TQ.sub fs9 kt9 (hE ⟨A3, c3, A7, c7, A11, c11⟩)) (by kernel_rfl)
  refine TL.m Mk.bl ?_
  intro x8
  refine TL.nil ?_
  refine TQ.nxt (hX8 _ _ hl9 ?_)
  refine RU.a1 7 rfl (fun X7 hX7 => ?_)
  refine TL.ob (b := x4) (sz := 1) (r := fun _ => []) pk9 rfl ?_
  first | refine TL.a0 ty_et31 ?_ | refine TL.ap ty_et31 ?_
  intro A7 c7
  refine TL.nil ?_
  refine TQ.nxt (hX7 _ _ hl9 ?_)
  refine RU.a1 11 rfl (fun X11 hX11 => ?_)
  refine TL.ob (b := x8) (sz := 1) (r := fun _ => []) pk9 rfl ?_
  first | refine TL.a0 ty_et31 ?_ | refine TL.ap ty_et31 ?_
  intro A11 c11
  refine TL.nil ?_
  refine TQ.nxt (hX11 _ _ hl9 ?_)
  refine RU.st rfl (fun X13 hX13 => ?_)
  first | refine TL.st ty_sz31 ?_ | refine TL.se ty_sz31 ?_
  refine TL.nil ?_
  refine TQ.nxt (hX13 _ _ ?_)
  refine RG.tk 14 rfl (by first | exact Pu.fb ty_fa33_3 | exact Pu.fs ty_fa33_3) ?_
  refine RG.a1 15 rfl (fun X15 hX15 => ?_)
  first | refine TL.st ty_sz31 ?_ | refine TL.se ty_sz31 ?_
  refine TL.nil ?_
  refine TQ.nxt (hX15 _ _ hl9 ?_)
  refine RG.tk 16 rfl (by first | exact Pu.fb ty_fa33_4 | exact Pu.fs ty_fa33_4) ?_
  refine RG.a1 17 rfl (fun X17 hX17 => ?_)
  first | refine TL.st ty_sz31 ?_ | refine TL.se ty_sz31 ?_
  refine TL.nil ?_
  refine TQ.nxt (hX17 _ _ hl9 ?_)
  exact RG.nil (TQ.sub fs9 kt9 (hE ⟨A3, c3, A7, c7, A11, c11⟩)) (by kernel_rfl)
  refine TL.m Mk.bl ?_
  intro x8
  refine TL.nil ?_
  refine TQ.nxt (hX8 _ _ hl9 ?_)
  refine RU.a1 3 rfl (fun X3 hX3 => ?_)
  refine TL.ob (b := x0) (sz := 1) (r := fun _ => []) pk9 rfl ?_
  first | refine TL.a0 ty_et31 ?_ | refine TL.ap ty_et31 ?_
  intro A3 c3
  refine TL.nil ?_
  refine TQ.nxt (hX3 _ _ hl9 ?_)
  refine RU.tm 12 rfl (by first | exact Pu.fb ty_fa33_2 | exact Pu.fs ty_fa33_2) ?_
  refine RU.a1 7 rfl (fun X7 hX7 => ?_)
  refine TL.ob (b := x4) (sz := 1) (r := fun _ => []) pk9 rfl ?_
  first | refine TL.a0 ty_et31 ?_ | refine TL.ap ty_et31 ?_
  intro A7 c7
  refine TL.nil ?_
  refine TQ.nxt (hX7 _ _ hl9 ?_)
  refine RU.a1 11 rfl (fun X11 hX11 => ?_)
  refine TL.ob (b := x8) (sz := 1) (r := fun _ => []) pk9 rfl ?_
  first | refine TL.a0 ty_et31 ?_ | refine TL.ap ty_et31 ?_
  intro A11 c11
  refine TL.nil ?_
  refine TQ.nxt (hX11 _ _ hl9 ?_)
  refine RU.st rfl (fun X13 hX13 => ?_)
  first | refine TL.st ty_sz31 ?_ | refine TL.se ty_sz31 ?_
  refine TL.nil ?_
  refine TQ.nxt (hX13 _ _ ?_)
  refine RG.tk 14 rfl (by first | exact Pu.fb ty_fa33_3 | exact Pu.fs ty_fa33_3) ?_
  refine RG.a1 15 rfl (fun X15 hX15 => ?_)
  first | refine TL.st ty_sz31 ?_ | refine TL.se ty_sz31 ?_
  refine TL.nil ?_
  refine TQ.nxt (hX15 _ _ hl9 ?_)
  refine RG.tk 16 rfl (by first | exact Pu.fb ty_fa33_4 | exact Pu.fs ty_fa33_4) ?_
  refine RG.a1 17 rfl (fun X17 hX17 => ?_)
  first | refine TL.st ty_sz31 ?_ | refine TL.se ty_sz31 ?_
  refine TL.nil ?_
  refine TQ.nxt (hX17 _ _ hl9 ?_)
  exact RG.nil (TQ.sub fs9 kt9 (hE ⟨A3, c3, A7, c7, A11, c11⟩)) (by kernel_rfl)
  refine TL.m Mk.bl ?_
  intro x8
  refine TL.nil ?_
  refine TQ.nxt (hX8 _ _ hl9 ?_)
  refine RU.a2 3 4 rfl rfl (fun X3 hX3 => ?_) (fun X4 hX4 => ?_)
  refine TL.ob (b := x0) (sz := 1) (r := fun _ => []) pk9 rfl ?_
  first | refine TL.a0 ty_et31 ?_ | refine TL.ap ty_et31 ?_
  intro A3 c3
  refine TL.nil ?_
  refine TQ.nxt (hX3 _ _ hl9 ?_)
  refine RU.tm 12 rfl (by first | exact Pu.fb ty_fa33_2 | exact Pu.fs ty_fa33_2) ?_
  refine RU.a1 4 rfl (fun X4 hX4 => ?_)
  refine TL.m Mk.bl ?_
  intro x4
  refine TL.nil ?_
  refine TQ.nxt (hX4 _ _ hl9 ?_)
  refine RU.a1 7 rfl (fun X7 hX7 => ?_)
  refine TL.ob (b := x4) (sz := 1) (r := fun _ => []) pk9 rfl ?_
  first | refine TL.a0 ty_et31 ?_ | refine TL.ap ty_et31 ?_
  intro A7 c7
  refine TL.nil ?_
  refine TQ.nxt (hX7 _ _ hl9 ?_)
  refine RU.a1 11 rfl (fun X11 hX11 => ?_)
  refine TL.ob (b := x8) (sz := 1) (r := fun _ => []) pk9 rfl ?_
  first | refine TL.a0 ty_et31 ?_ | refine TL.ap ty_et31 ?_
  intro A11 c11
  refine TL.nil ?_
  refine TQ.nxt (hX11 _ _ hl9 ?_)
  refine RU.st rfl (fun X13 hX13 => ?_)
  first | refine TL.st ty_sz31 ?_ | refine TL.se ty_sz31 ?_
  refine TL.nil ?_
  refine TQ.nxt (hX13 _ _ ?_)
  refine RG.tk 14 rfl (by first | exact Pu.fb ty_fa33_3 | exact Pu.fs ty_fa33_3) ?_
  refine RG.a1 15 rfl (fun X15 hX15 => ?_)
  first | refine TL.st ty_sz31 ?_ | refine TL.se ty_sz31 ?_
  refine TL.nil ?_
  refine TQ.nxt (hX15 _ _ hl9 ?_)
  refine RG.tk 16 rfl (by first | exact Pu.fb ty_fa33_4 | exact Pu.fs ty_fa33_4) ?_
  refine RG.a1 17 rfl (fun X17 hX17 => ?_)
  first | refine TL.st ty_sz31 ?_ | refine TL.se ty_sz31 ?_
  refine TL.nil ?_
  refine TQ.nxt (hX17 _ _ hl9 ?_)
  exact RG.nil (TQ.sub fs9 kt9 (hE ⟨A3, c3, A7, c7, A11, c11⟩)) (by kernel_rfl)
  refine TL.m Mk.bl ?_
  intro x4
  refine TL.nil ?_
  refine TQ.nxt (hX4 _ _ hl9 ?_)
  refine RU.a1 3 rfl (fun X3 hX3 => ?_)
  refine TL.ob (b := x0) (sz := 1) (r := fun _ => []) pk9 rfl ?_
  first | refine TL.a0 ty_et31 ?_ | refine TL.ap ty_et31 ?_
  intro A3 c3
  refine TL.nil ?_
  refine TQ.nxt (hX3 _ _ hl9 ?_)
  refine RU.tm 12 rfl (by first | exact Pu.fb ty_fa33_2 | exact Pu.fs ty_fa33_2) ?_
  refine RU.a1 7 rfl (fun X7 hX7 => ?_)
  refine TL.ob (b := x4) (sz := 1) (r := fun _ => []) pk9 rfl ?_
  first | refine TL.a0 ty_et31 ?_ | refine TL.ap ty_et31 ?_
  intro A7 c7
  refine TL.nil ?_
  refine TQ.nxt (hX7 _ _ hl9 ?_)
  refine RU.a1 11 rfl (fun X11 hX11 => ?_)
  refine TL.ob (b := x8) (sz := 1) (r := fun _ => []) pk9 rfl ?_
  first | refine TL.a0 ty_et31 ?_ | refine TL.ap ty_et31 ?_
  intro A11 c11
  refine TL.nil ?_
  refine TQ.nxt (hX11 _ _ hl9 ?_)
  refine RU.st rfl (fun X13 hX13 => ?_)
  first | refine TL.st ty_sz31 ?_ | refine TL.se ty_sz31 ?_
  refine TL.nil ?_
  refine TQ.nxt (hX13 _ _ ?_)
  refine RG.tk 14 rfl (by first | exact Pu.fb ty_fa33_3 | exact Pu.fs ty_fa33_3) ?_
  refine RG.a1 15 rfl (fun X15 hX15 => ?_)
  first | refine TL.st ty_sz31 ?_ | refine TL.se ty_sz31 ?_
  refine TL.nil ?_
  refine TQ.nxt (hX15 _ _ hl9 ?_)
  refine RG.tk 16 rfl (by first | exact Pu.fb ty_fa33_4 | exact Pu.fs ty_fa33_4) ?_
  refine RG.a1 17 rfl (fun X17 hX17 => ?_)
  first | refine TL.st ty_sz31 ?_ | refine TL.se ty_sz31 ?_
  refine TL.nil ?_
  refine TQ.nxt (hX17 _ _ hl9 ?_)
  exact RG.nil (TQ.sub fs9 kt9 (hE ⟨A3, c3, A7, c7, A11, c11⟩)) (by kernel_rfl)
  refine TL.m Mk.bl ?_
  intro x4
  refine TL.nil ?_
  refine TQ.nxt (hX4 _ _ hl9 ?_)
  refine RU.a2 0 8 rfl rfl (fun X0 hX0 => ?_) (fun X8 hX8 => ?_)
  refine TL.m Mk.bl ?_
  intro x0
  refine TL.nil ?_
  refine TQ.nxt (hX0 _ _ hl9 ?_)
  refine RU.a2 3 8 rfl rfl (fun X3 hX3 => ?_) (fun X8 hX8 => ?_)
  refine TL.ob (b := x0) (sz := 1) (r := fun _ => []) pk9 rfl ?_
  first | refine TL.a0 ty_et31 ?_ | refine TL.ap ty_et31 ?_
  intro A3 c3
  refine TL.nil ?_
  refine TQ.nxt (hX3 _ _ hl9 ?_)
  refine RU.tm 12 rfl (by first | exact Pu.fb ty_fa33_2 | exact Pu.fs ty_fa33_2) ?_
  refine RU.a2 7 8 rfl rfl (fun X7 hX7 => ?_) (fun X8 hX8 => ?_)
  refine TL.ob (b := x4) (sz := 1) (r := fun _ => []) pk9 rfl ?_
  first | refine TL.a0 ty_et31 ?_ | refine TL.ap ty_et31 ?_
  intro A7 c7
  refine TL.nil ?_
  refine TQ.nxt (hX7 _ _ hl9 ?_)
  refine RU.a1 8 rfl (fun X8 hX8 => ?_)
  refine TL.m Mk.bl ?_
  intro x8
  refine TL.nil ?_
  refine TQ.nxt (hX8 _ _ hl9 ?_)
  refine RU.a1 11 rfl (fun X11 hX11 => ?_)
  refine TL.ob (b := x8) (sz := 1) (r := fun _ => []) pk9 rfl ?_
  first | refine TL.a0 ty_et31 ?_ | refine TL.ap ty_et31 ?_
  intro A11 c11
  refine TL.nil ?_
  refine TQ.nxt (hX11 _ _ hl9 ?_)
  refine RU.st rfl (fun X13 hX13 => ?_)
  first | refine TL.st ty_sz31 ?_ | refine TL.se ty_sz31 ?_
  refine TL.nil ?_
  refine TQ.nxt (hX13 _ _ ?_)
  refine RG.tk 14 rfl (by first | exact Pu.fb ty_fa33_3 | exact Pu.fs ty_fa33_3) ?_
  refine RG.a1 15 rfl (fun X15 hX15 => ?_)
  first | refine TL.st ty_sz31 ?_ | refine TL.se ty_sz31 ?_
  refine TL.nil ?_
  refine TQ.nxt (hX15 _ _ hl9 ?_)
  refine RG.tk 16 rfl (by first | exact Pu.fb ty_fa33_4 | exact Pu.fs ty_fa33_4) ?_
  refine RG.a1 17 rfl (fun X17 hX17 => ?_)
  first | refine TL.st ty_sz31 ?_ | refine TL.se ty_sz31 ?_
  refine TL.nil ?_
  refine TQ.nxt (hX17 _ _ hl9 ?_)
  exact RG.nil (TQ.sub fs9 kt9 (hE ⟨A3, c3, A7, c7, A11, c11⟩)) (by kernel_rfl)
  refine TL.m Mk.bl ?_
  intro x8
  refine TL.nil ?_
  refine TQ.nxt (hX8 _ _ hl9 ?_)
  refine RU.a1 7 rfl (fun X7 hX7 => ?_)
  refine TL.ob (b := x4) (sz := 1) (r := fun _ => []) pk9 rfl ?_
  first | refine TL.a0 ty_et31 ?_ | refine TL.ap ty_et31 ?_
  intro A7 c7
  refine TL.nil ?_
  refine TQ.nxt (hX7 _ _ hl9 ?_)
  refine RU.a1 11 rfl (fun X11 hX11 => ?_)
  refine TL.ob (b := x8) (sz := 1) (r := fun _ => []) pk9 rfl ?_
  first | refine TL.a0 ty_et31 ?_ | refine TL.ap ty_et31 ?_
  intro A11 c11
  refine TL.nil ?_
  refine TQ.nxt (hX11 _ _ hl9 ?_)
  refine RU.st rfl (fun X13 hX13 => ?_)
  first | refine TL.st ty_sz31 ?_ | refine TL.se ty_sz31 ?_
  refine TL.nil ?_
  refine TQ.nxt (hX13 _ _ ?_)
  refine RG.tk 14 rfl (by first | exact Pu.fb ty_fa33_3 | exact Pu.fs ty_fa33_3) ?_
  refine RG.a1 15 rfl (fun X15 hX15 => ?_)
  first | refine TL.st ty_sz31 ?_ | refine TL.se ty_sz31 ?_
  refine TL.nil ?_
  refine TQ.nxt (hX15 _ _ hl9 ?_)
  refine RG.tk 16 rfl (by first | exact Pu.fb ty_fa33_4 | exact Pu.fs ty_fa33_4) ?_
  refine RG.a1 17 rfl (fun X17 hX17 => ?_)
  first | refine TL.st ty_sz31 ?_ | refine TL.se ty_sz31 ?_
  refine TL.nil ?_
  refine TQ.nxt (hX17 _ _ hl9 ?_)
  exact RG.nil (TQ.sub fs9 kt9 (hE ⟨A3, c3, A7, c7, A11, c11⟩)) (by kernel_rfl)
  refine TL.m Mk.bl ?_
  intro x8
  refine TL.nil ?_
  refine TQ.nxt (hX8 _ _ hl9 ?_)
  refine RU.a1 3 rfl (fun X3 hX3 => ?_)
  refine TL.ob (b := x0) (sz := 1) (r := fun _ => []) pk9 rfl ?_
  first | refine TL.a0 ty_et31 ?_ | refine TL.ap ty_et31 ?_
  intro A3 c3
  refine TL.nil ?_
  refine TQ.nxt (hX3 _ _ hl9 ?_)
  refine RU.tm 12 rfl (by first | exact Pu.fb ty_fa33_2 | exact Pu.fs ty_fa33_2) ?_
  refine RU.a1 7 rfl (fun X7 hX7 => ?_)
  refine TL.ob (b := x4) (sz := 1) (r := fun _ => []) pk9 rfl ?_
  first | refine TL.a0 ty_et31 ?_ | refine TL.ap ty_et31 ?_
  intro A7 c7
  refine TL.nil ?_
  refine TQ.nxt (hX7 _ _ hl9 ?_)
  refine RU.a1 11 rfl (fun X11 hX11 => ?_)
  refine TL.ob (b := x8) (sz := 1) (r := fun _ => []) pk9 rfl ?_
  first | refine TL.a0 ty_et31 ?_ | refine TL.ap ty_et31 ?_
  intro A11 c11
  refine TL.nil ?_
  refine TQ.nxt (hX11 _ _ hl9 ?_)
  refine RU.st rfl (fun X13 hX13 => ?_)
  first | refine TL.st ty_sz31 ?_ | refine TL.se ty_sz31 ?_
  refine TL.nil ?_
  refine TQ.nxt (hX13 _ _ ?_)
  refine RG.tk 14 rfl (by first | exact Pu.fb ty_fa33_3 | exact Pu.fs ty_fa33_3) ?_
  refine RG.a1 15 rfl (fun X15 hX15 => ?_)
  first | refine TL.st ty_sz31 ?_ | refine TL.se ty_sz31 ?_
  refine TL.nil ?_
  refine TQ.nxt (hX15 _ _ hl9 ?_)
  refine RG.tk 16 rfl (by first | exact Pu.fb ty_fa33_4 | exact Pu.fs ty_fa33_4) ?_
  refine RG.a1 17 rfl (fun X17 hX17 => ?_)
  first | refine TL.st ty_sz31 ?_ | refine TL.se ty_sz31 ?_
  refine TL.nil ?_
  refine TQ.nxt (hX17 _ _ hl9 ?_)
  exact RG.nil (TQ.sub fs9 kt9 (hE ⟨A3, c3, A7, c7, A11, c11⟩)) (by kernel_rfl)
  refine TL.m Mk.bl ?_
  intro x8
  refine TL.nil ?_
  refine TQ.nxt (hX8 _ _ hl9 ?_)
  refine RU.a1 0 rfl (fun X0 hX0 => ?_)
  refine TL.m Mk.bl ?_
  intro x0
  refine TL.nil ?_
  refine TQ.nxt (hX0 _ _ hl9 ?_)
  refine RU.a1 3 rfl (fun X3 hX3 => ?_)
  refine TL.ob (b := x0) (sz := 1) (r := fun _ => []) pk9 rfl ?_
  first | refine TL.a0 ty_et31 ?_ | refine TL.ap ty_et31 ?_
  intro A3 c3
  refine TL.nil ?_
  refine TQ.nxt (hX3 _ _ hl9 ?_)
  refine RU.tm 12 rfl (by first | exact Pu.fb ty_fa33_2 | exact Pu.fs ty_fa33_2) ?_
  refine RU.a1 7 rfl (fun X7 hX7 => ?_)
  refine TL.ob (b := x4) (sz := 1) (r := fun _ => []) pk9 rfl ?_
  first | refine TL.a0 ty_et31 ?_ | refine TL.ap ty_et31 ?_
  intro A7 c7
  refine TL.nil ?_
  refine TQ.nxt (hX7 _ _ hl9 ?_)
  refine RU.a1 11 rfl (fun X11 hX11 => ?_)
  refine TL.ob (b := x8) (sz := 1) (r := fun _ => []) pk9 rfl ?_
  first | refine TL.a0 ty_et31 ?_ | refine TL.ap ty_et31 ?_
  intro A11 c11
  refine TL.nil ?_
  refine TQ.nxt (hX11 _ _ hl9 ?_)
  refine RU.st rfl (fun X13 hX13 => ?_)
  first | refine TL.st ty_sz31 ?_ | refine TL.se ty_sz31 ?_
  refine TL.nil ?_
  refine TQ.nxt (hX13 _ _ ?_)
  refine RG.tk 14 rfl (by first | exact Pu.fb ty_fa33_3 | exact Pu.fs ty_fa33_3) ?_
  refine RG.a1 15 rfl (fun X15 hX15 => ?_)
  first | refine TL.st ty_sz31 ?_ | refine TL.se ty_sz31 ?_
  refine TL.nil ?_
  refine TQ.nxt (hX15 _ _ hl9 ?_)
  refine RG.tk 16 rfl (by first | exact Pu.fb ty_fa33_4 | exact Pu.fs ty_fa33_4) ?_
  refine RG.a1 17 rfl (fun X17 hX17 => ?_)
  first | refine TL.st ty_sz31 ?_ | refine TL.se ty_sz31 ?_
  refine TL.nil ?_
  refine TQ.nxt (hX17 _ _ hl9 ?_)
  exact RG.nil (TQ.sub fs9 kt9 (hE ⟨A3, c3, A7, c7, A11, c11⟩)) (by kernel_rfl)
  refine TL.m Mk.bl ?_
  intro x8
  refine TL.nil ?_
  refine TQ.nxt (hX8 _ _ hl9 ?_)
  refine RU.a2 0 4 rfl rfl (fun X0 hX0 => ?_) (fun X4 hX4 => ?_)
  refine TL.m Mk.bl ?_
  intro x0
  refine TL.nil ?_
  refine TQ.nxt (hX0 _ _ hl9 ?_)
  refine RU.a2 3 4 rfl rfl (fun X3 hX3 => ?_) (fun X4 hX4 => ?_)
  refine TL.ob (b := x0) (sz := 1) (r := fun _ => []) pk9 rfl ?_
  first | refine TL.a0 ty_et31 ?_ | refine TL.ap ty_et31 ?_
  intro A3 c3
  refine TL.nil ?_
  refine TQ.nxt (hX3 _ _ hl9 ?_)
  refine RU.tm 12 rfl (by first | exact Pu.fb ty_fa33_2 | exact Pu.fs ty_fa33_2) ?_
  refine RU.a1 4 rfl (fun X4 hX4 => ?_)
  refine TL.m Mk.bl ?_
  intro x4
  refine TL.nil ?_
  refine TQ.nxt (hX4 _ _ hl9 ?_)
  refine RU.a1 7 rfl (fun X7 hX7 => ?_)
  refine TL.ob (b := x4) (sz := 1) (r := fun _ => []) pk9 rfl ?_
  first | refine TL.a0 ty_et31 ?_ | refine TL.ap ty_et31 ?_
  intro A7 c7
  refine TL.nil ?_
  refine TQ.nxt (hX7 _ _ hl9 ?_)
  refine RU.a1 11 rfl (fun X11 hX11 => ?_)
  refine TL.ob (b := x8) (sz := 1) (r := fun _ => []) pk9 rfl ?_
  first | refine TL.a0 ty_et31 ?_ | refine TL.ap ty_et31 ?_
  intro A11 c11
  refine TL.nil ?_
  refine TQ.nxt (hX11 _ _ hl9 ?_)
  refine RU.st rfl (fun X13 hX13 => ?_)
  first | refine TL.st ty_sz31 ?_ | refine TL.se ty_sz31 ?_
  refine TL.nil ?_
  refine TQ.nxt (hX13 _ _ ?_)
  refine RG.tk 14 rfl (by first | exact Pu.fb ty_fa33_3 | exact Pu.fs ty_fa33_3) ?_
  refine RG.a1 15 rfl (fun X15 hX15 => ?_)
  first | refine TL.st ty_sz31 ?_ | refine TL.se ty_sz31 ?_
  refine TL.nil ?_
  refine TQ.nxt (hX15 _ _ hl9 ?_)
  refine RG.tk 16 rfl (by first | exact Pu.fb ty_fa33_4 | exact Pu.fs ty_fa33_4) ?_
  refine RG.a1 17 rfl (fun X17 hX17 => ?_)
  first | refine TL.st ty_sz31 ?_ | refine TL.se ty_sz31 ?_
  refine TL.nil ?_
  refine TQ.nxt (hX17 _ _ hl9 ?_)
  exact RG.nil (TQ.sub fs9 kt9 (hE ⟨A3, c3, A7, c7, A11, c11⟩)) (by kernel_rfl)
  refine TL.m Mk.bl ?_
  intro x4
  refine TL.nil ?_
  refine TQ.nxt (hX4 _ _ hl9 ?_)
  refine RU.a1 3 rfl (fun X3 hX3 => ?_)
  refine TL.ob (b := x0) (sz := 1) (r := fun _ => []) pk9 rfl ?_
  first | refine TL.a0 ty_et31 ?_ | refine TL.ap ty_et31 ?_
  intro A3 c3
  refine TL.nil ?_
  refine TQ.nxt (hX3 _ _ hl9 ?_)
  refine RU.tm 12 rfl (by first | exact Pu.fb ty_fa33_2 | exact Pu.fs ty_fa33_2) ?_
  refine RU.a1 7 rfl (fun X7 hX7 => ?_)
  refine TL.ob (b := x4) (sz := 1) (r := fun _ => []) pk9 rfl ?_
  first | refine TL.a0 ty_et31 ?_ | refine TL.ap ty_et31 ?_
  intro A7 c7
  refine TL.nil ?_
  refine TQ.nxt (hX7 _ _ hl9 ?_)
  refine RU.a1 11 rfl (fun X11 hX11 => ?_)
  refine TL.ob (b := x8) (sz := 1) (r := fun _ => []) pk9 rfl ?_
  first | refine TL.a0 ty_et31 ?_ | refine TL.ap ty_et31 ?_
  intro A11 c11
  refine TL.nil ?_
  refine TQ.nxt (hX11 _ _ hl9 ?_)
  refine RU.st rfl (fun X13 hX13 => ?_)
  first | refine TL.st ty_sz31 ?_ | refine TL.se ty_sz31 ?_
  refine TL.nil ?_
  refine TQ.nxt (hX13 _ _ ?_)
  refine RG.tk 14 rfl (by first | exact Pu.fb ty_fa33_3 | exact Pu.fs ty_fa33_3) ?_
  refine RG.a1 15 rfl (fun X15 hX15 => ?_)
  first | refine TL.st ty_sz31 ?_ | refine TL.se ty_sz31 ?_
  refine TL.nil ?_
  refine TQ.nxt (hX15 _ _ hl9 ?_)
  refine RG.tk 16 rfl (by first | exact Pu.fb ty_fa33_4 | exact Pu.fs ty_fa33_4) ?_
  refine RG.a1 17 rfl (fun X17 hX17 => ?_)
  first | refine TL.st ty_sz31 ?_ | refine TL.se ty_sz31 ?_
  refine TL.nil ?_
  refine TQ.nxt (hX17 _ _ hl9 ?_)
  exact RG.nil (TQ.sub fs9 kt9 (hE ⟨A3, c3, A7, c7, A11, c11⟩)) (by kernel_rfl)
  refine TL.m Mk.bl ?_
  intro x4
  refine TL.nil ?_
  refine TQ.nxt (hX4 _ _ hl9 ?_)
  refine RU.a1 0 rfl (fun X0 hX0 => ?_)
  refine TL.m Mk.bl ?_
  intro x0
  refine TL.nil ?_
  refine TQ.nxt (hX0 _ _ hl9 ?_)
  refine RU.a1 3 rfl (fun X3 hX3 => ?_)
  refine TL.ob (b := x0) (sz := 1) (r := fun _ => []) pk9 rfl ?_
  first | refine TL.a0 ty_et31 ?_ | refine TL.ap ty_et31 ?_
  intro A3 c3
  refine TL.nil ?_
  refine TQ.nxt (hX3 _ _ hl9 ?_)
  refine RU.tm 12 rfl (by first | exact Pu.fb ty_fa33_2 | exact Pu.fs ty_fa33_2) ?_
  refine RU.a1 7 rfl (fun X7 hX7 => ?_)
  refine TL.ob (b := x4) (sz := 1) (r := fun _ => []) pk9 rfl ?_
  first | refine TL.a0 ty_et31 ?_ | refine TL.ap ty_et31 ?_
  intro A7 c7
  refine TL.nil ?_
  refine TQ.nxt (hX7 _ _ hl9 ?_)
  refine RU.a1 11 rfl (fun X11 hX11 => ?_)
  refine TL.ob (b := x8) (sz := 1) (r := fun _ => []) pk9 rfl ?_
  first | refine TL.a0 ty_et31 ?_ | refine TL.ap ty_et31 ?_
  intro A11 c11
  refine TL.nil ?_
  refine TQ.nxt (hX11 _ _ hl9 ?_)
  refine RU.st rfl (fun X13 hX13 => ?_)
  first | refine TL.st ty_sz31 ?_ | refine TL.se ty_sz31 ?_
  refine TL.nil ?_
  refine TQ.nxt (hX13 _ _ ?_)
  refine RG.tk 14 rfl (by first | exact Pu.fb ty_fa33_3 | exact Pu.fs ty_fa33_3) ?_
  refine RG.a1 15 rfl (fun X15 hX15 => ?_)
  first | refine TL.st ty_sz31 ?_ | refine TL.se ty_sz31 ?_
  refine TL.nil ?_
  refine TQ.nxt (hX15 _ _ hl9 ?_)
  refine RG.tk 16 rfl (by first | exact Pu.fb ty_fa33_4 | exact Pu.fs ty_fa33_4) ?_
  refine RG.a1 17 rfl (fun X17 hX17 => ?_)
  first | refine TL.st ty_sz31 ?_ | refine TL.se ty_sz31 ?_
  refine TL.nil ?_
  refine TQ.nxt (hX17 _ _ hl9 ?_)
  exact RG.nil (TQ.sub fs9 kt9 (hE ⟨A3, c3, A7, c7, A11, c11⟩)) (by kernel_rfl)
set_option maxRecDepth 100000 in
theorem sameTroop_any (t : TrpIn w T O U V) (t' : TrpIn w T O' U' V') :
    Calls Tryz.prog 25 #[.agg (troopL T.hd T.wo O T.no co U T.nu cu V T.nv cv).toArray, .agg (troopL T.hd T.wo O' T.no co' U' T.nu cu' V' T.nv cv').toArray] w (Ret w (.bool true)) := by
  have hno := t.hno
  have hnu := t.hnu
  have hnv := t.hnv
  unfold troopL
  refine K_enter (S := []) (K := []) Tryz.func25 rfl Tryz.ntmps25 rfl (Sat.start _) ?_
  refine TW.seq fun Y1 hY1 => ?_
  refine TW.region ?_
  refine TL.m Mk.bx ?_
  intro b1
  refine TL.m Mk.bx ?_
  intro b2
  refine TL.p Pu.as ?_
  refine TL.nil ?_
  refine TQ.thenN (hY1 _ _ ?_)
  refine TW.seq fun Y2 hY2 => ?_
  refine TW.region ?_
  refine TL.p (by first | exact Pu.fb ty_fa33_0 | exact Pu.fe ty_fa33_0) ?_
  refine TL.p (Pu.ld ty_sc3) ?_
  refine TL.p (by first | exact Pu.fb ty_fa33_0 | exact Pu.fe ty_fa33_0) ?_
  refine TL.p (Pu.ld ty_sc3) ?_
  refine TL.p Pu.eq ?_
  refine TL.lit (t := 9) (b' := true) rfl ((by simp)) ?_
  refine TL.p Pu.mv ?_
  refine TL.gd (by first | exact Pu.fb ty_fa33_1 | exact Pu.fe ty_fa33_1) ?_
  refine TL.gd (Pu.ld ty_sc3) ?_
  refine TL.gd (by first | exact Pu.fb ty_fa33_1 | exact Pu.fe ty_fa33_1) ?_
  refine TL.gd (Pu.ld ty_sc3) ?_
  refine TL.gd Pu.eq ?_
  refine TL.lit (t := 15) (b' := true) rfl ((by simp)) ?_
  refine TL.p Pu.kt ?_
  refine TL.p Pu.mv ?_
  refine TL.gd (by first | exact Pu.fb ty_fa33_2 | exact Pu.fe ty_fa33_2) ?_
  refine TL.gd (Pu.ld ty_sc31) ?_
  refine TL.gd (by first | exact Pu.fb ty_fa33_2 | exact Pu.fe ty_fa33_2) ?_
  refine TL.gd (Pu.ld ty_sc31) ?_
  refine TL.cr rfl (enters Tryz.func26 rfl rfl) (fun w hw => by
      first | exact same3_true (by omega) (t.hO.sat hw Apart.nil) (t'.hO.sat hw Apart.nil) | exact same3_true (by omega) (t.hU.sat hw Apart.nil) (t'.hU.sat hw Apart.nil) | exact same3_true (by omega) (t.hV.sat hw Apart.nil) (t'.hV.sat hw Apart.nil)) ?_
  refine TL.p Pu.kt ?_
  refine TL.p Pu.mv ?_
  refine TL.gd (by first | exact Pu.fb ty_fa33_3 | exact Pu.fe ty_fa33_3) ?_
  refine TL.gd (Pu.ld ty_sc31) ?_
  refine TL.gd (by first | exact Pu.fb ty_fa33_3 | exact Pu.fe ty_fa33_3) ?_
  refine TL.gd (Pu.ld ty_sc31) ?_
  refine TL.cr rfl (enters Tryz.func26 rfl rfl) (fun w hw => by
      first | exact same3_true (by omega) (t.hO.sat hw Apart.nil) (t'.hO.sat hw Apart.nil) | exact same3_true (by omega) (t.hU.sat hw Apart.nil) (t'.hU.sat hw Apart.nil) | exact same3_true (by omega) (t.hV.sat hw Apart.nil) (t'.hV.sat hw Apart.nil)) ?_
  refine TL.p Pu.kt ?_
  refine TL.p Pu.mv ?_
  refine TL.gd (by first | exact Pu.fb ty_fa33_4 | exact Pu.fe ty_fa33_4) ?_
  refine TL.gd (Pu.ld ty_sc31) ?_
  refine TL.gd (by first | exact Pu.fb ty_fa33_4 | exact Pu.fe ty_fa33_4) ?_
  refine TL.gd (Pu.ld ty_sc31) ?_
  refine TL.cr rfl (enters Tryz.func26 rfl rfl) (fun w hw => by
      first | exact same3_true (by omega) (t.hO.sat hw Apart.nil) (t'.hO.sat hw Apart.nil) | exact same3_true (by omega) (t.hU.sat hw Apart.nil) (t'.hU.sat hw Apart.nil) | exact same3_true (by omega) (t.hV.sat hw Apart.nil) (t'.hV.sat hw Apart.nil)) ?_
  refine TL.p Pu.kt ?_
  refine TL.p Pu.as ?_
  refine TL.nil ?_
  refine TQ.thenN (hY2 _ _ ?_)
  refine TW.ret ?_
  refine TQ.ret Tryz.results25 rfl ((.tmp rfl .nil)) ?_
  exact fun w hw => Ret.of hw
end
end Go.Proofs.YtmonkjnfjgidbaaGreatDoor
namespace Go.Proofs.YtmonkjnfjgidbaaGreatDoor
set_option linter.all false
set_option linter.unusedVariables false
set_option linter.unusedSimpArgs false
open Go.RowKit
theorem WK.perm {c : Cx} {Q : Exit → Act → World → Prop} {F : Fr} {K K2 : List Fact} {ops : Array Oper} {nf : Nat} {fl : List Fl} {bs : List Bool} {pend : List (Nat × Oper)} (hp : K.Perm K2) (h : WK c ops Q nf fl bs pend F K2) : WK c ops Q nf fl bs pend F K :=
  fun W N a w h2 h0 hF hK hN hb => h W N a w h2 h0 hF (hK.perm hp) (fun b hb' => hN b ((hp.flatMap_right Fact.foot).mem_iff.2 hb')) hb
section
variable {W A C D B : Option Addr} {nw nl nc nd nb : Nat} {f : Nat → Nat → Int} {x : Nat → Leg} {g : Nat → Nat → Nat → Int} {c : Nat → (Nat → Int) × Bool} {d b : Nat → Nat → Int} {w w0 : World} {S : List Nat} {K : List Fact}
theorem great_small {no nu nv : Nat} (h : great7 nw nl x nc nd nb no nu nv = false) : nw ≤ 20 ∧ nl ≤ 40 ∧ (∀ k, k < nl → (x k).n ≤ 20) ∧ nc ≤ 40 ∧ nd ≤ 30 ∧ nb ≤ 30 ∧ no ≤ 12 ∧ nu ≤ 12 ∧ nv ≤ 12 := by
  unfold great7 great3 at h
  simp only [Bool.or_eq_false_iff, decide_eq_false_iff_not, Int.not_lt] at h
  obtain ⟨⟨⟨⟨⟨⟨⟨⟨h1, h2⟩, h3⟩, h4⟩, h5⟩, h6⟩, h7⟩, h8⟩, h9⟩ := h
  refine ⟨by omega, by omega, fun k hk => ?_, by omega, by omega, by omega, by omega, by omega, by omega⟩
  unfold anyB at h3
  rw [List.any_eq_false] at h3
  have := h3 k (List.mem_range.2 hk)
  simp only [decide_eq_true_eq] at this
  omega
def twC (nc nd nb : Nat) (c : Nat → (Nat → Int) × Bool) (d b : Nat → Nat → Int) (x : TCx) : List Fact :=
  [.own x.1.1 nc x.1.2 71 7 (fun i => claimL (c i)), .own x.2.1.1 nd x.2.1.2 73 4 (fun i => feudL (d i)), .own x.2.2.1 nb x.2.2.2 75 3 (fun i => borderL (b i))]
theorem OwnR.cap {A : Option Addr} {n cp : Nat} {E : TypeId} {sz : Nat} {r : Nat → List Value} (h : OwnR w A n cp E sz r) : n ≤ cp := by
  obtain ⟨A', c', e, h1, _⟩ := h.own.form
  cases e
  exact h1
variable {cw cl cc cd cb : Nat} {a : Nat → Option Addr} {e : Nat → Nat}
theorem twinCustom_tw (k : CustIn w C nc D nd B nb c d b) : CallsK Tryz.prog 16 #[.agg (custL C nc cc D nd cd B nb cb).toArray] [] w TCx (fun x => .agg (custL x.1.1 nc x.1.2 x.2.1.1 nd x.2.1.2 x.2.2.1 nb x.2.2.2).toArray) (twC nc nd nb c d b) := twinCustom_any k
end
end Go.Proofs.YtmonkjnfjgidbaaGreatDoor
