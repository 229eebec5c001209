/-
  A region that draws its order, when loads and arithmetic have been taken first: a chain of operations in one forced order, and new variables that may be made at any time. It is walked once; the world may have grown before each step. No condition on a program.
-/
import Derived.Test.YtckiagbllkdfdaaReg
namespace Go.Proofs.Ytckiagbllkdfdaa
set_option linter.all false
set_option linter.unusedVariables false
set_option linter.unusedSimpArgs false
open Go.RowKit
/-- A new variable of the region: the operation's number, its slot, the type, its cells. -/
structure Fl where
  i : Nat
  d : Tmp
  ty : TypeId
  z : Array Value
abbrev Ext (w w' : World) : Prop := Below w.heap.size w w'
theorem Ext.trans {a b c : World} (h : Ext a b) (k : Ext b c) : Ext a c := Below.trans h (k.mono h.size)
/-- The variables' pointers are laid into their slots. -/
def puts (D : List (Fl × Nat)) (a : Act) : Act := D.foldl (fun a p => a.put (some p.1.d) (.pointer (some ⟨p.2, 0, none⟩))) a
/-- The new variables lie at blocks of their own, untouched; N: the ranges of blocks that the chain's steps made. -/
def FlOk (B : Nat) (w : World) (N : List (Nat × Nat)) (D : List (Fl × Nat)) : Prop :=
  (∀ p ∈ D, B ≤ p.2 ∧ Blk w p.2 p.1.ty p.1.z ∧ ∀ q ∈ N, p.2 < q.1 ∨ q.2 ≤ p.2) ∧ (D.map (·.2)).Nodup
section
variable {P : Program} {ops : Array Oper} {Q : Exit → Act → World → Prop}
/-- The chain, walked in worlds that may have grown before each step. -/
def wpChain (P : Program) (ops : Array Oper) (Q : Exit → Act → World → Prop) (K : List (Nat × Nat) → Act → World → Prop) : List Nat → List (Nat × Nat) → Act → World → Prop
  | [], N, a, w => ∀ w', Ext w w' → K N a w'
  | c :: cs, N, a, w => ∀ w', Ext w w' → wpOp P ops Q c (fun a' w'' => Ext w' w'' ∧ wpChain P ops Q K cs ((w'.heap.size, w''.heap.size) :: N) a' w'') a w'
theorem wpChain_ext {K : List (Nat × Nat) → Act → World → Prop} {cs : List Nat} {N : List (Nat × Nat)} {a : Act} {w w1 : World} (h : wpChain P ops Q K cs N a w) (he : Ext w w1) : wpChain P ops Q K cs N a w1 := by
  cases cs with
  | nil => exact fun w' h' => h w' (Ext.trans he h')
  | cons c cs => exact fun w' h' => h w' (Ext.trans he h')
theorem wpChain_nil {K : List (Nat × Nat) → Act → World → Prop} {N : List (Nat × Nat)} {a : Act} {w : World} (h : ∀ w', Ext w w' → K N a w') : wpChain P ops Q K [] N a w := h
/-- One step of the chain. -/
theorem wpChain_step {K : List (Nat × Nat) → Act → World → Prop} {c : Nat} {cs : List Nat} {N : List (Nat × Nat)} {a : Act} {w : World} {o : Oper} (ho : ops[c]? = some o) (hg : o.guard = none)
    (h : ∀ w', Ext w w' → ∀ K' : Act → World → Prop, (∀ a' w'', Ext w' w'' → wpChain P ops Q K cs ((w'.heap.size, w''.heap.size) :: N) a' w'' → K' a' w'') → o.wp P a w' K' Q) : wpChain P ops Q K (c :: cs) N a w := fun w' he => by
  unfold wpOp
  simp only [ho, Region.wanted, hg, if_true]
  exact .inl (h w' he _ fun a' w'' h1 h2 => ⟨h1, h2⟩)
theorem wpOp_put1 {c : Nat} {oc : Oper} {d : Tmp} {v : Value} (hc : ops[c]? = some oc) (hl : d ∉ oc.looksAt ops) (hd : oc.dst ≠ some d) (hs : ∀ cs b, oc.op ≠ .select cs b)
    (hQ : ∀ ch a w v, Q (.panic ch) a w → Q (.panic ch) (a.put (some d) v) w) {K : Act → World → Prop} {a : Act} {w : World} (h : wpOp P ops Q c K a w) :
    wpOp P ops Q c (fun a' w' => ∃ a1, a' = a1.put (some d) v ∧ K a1 w') (a.put (some d) v) w := by
  have hl' : ∀ d', some d = some d' → d' ∉ oc.looksAt ops := fun d' e => by cases e; exact hl
  have hcm : ∀ (a : Act) (u : Value), (a.put (some d) v).put oc.dst u = (a.put oc.dst u).put (some d) v := fun a u => Act.put_comm a v u (fun d' e => by cases e; exact hd)
  unfold wpOp at *
  simp only [hc] at h ⊢
  rw [wanted_put oc a (some d) v hl']
  split
  · rename_i hw
    rw [if_pos hw] at h
    rcases h with h | ⟨hA, hL⟩
    · refine .inl ?_
      unfold Oper.wp at *
      rw [execOp_put oc hs a (some d) v hl']
      generalize (execOp a.eval oc).run P w = r at *
      cases r with
      | ok n w' =>
        cases n <;> simp only [Oper.upon] at h ⊢
        case value u => exact ⟨_, hcm a u, h⟩
        case skip => exact ⟨_, hcm a _, h⟩
        case defer df => exact ⟨_, by rw [Act.put_defers, hcm], h⟩
        case enter f args =>
          refine Calls.mono h fun e w'' he => ?_
          cases e with
          | returned u => exact ⟨_, hcm a u, he⟩
          | panicked ch => exact hQ _ _ _ _ he
          | outgrown => exact he
        case row row args => exact Rows.mono h fun u w'' he => ⟨_, hcm a u, he⟩
      | halt x w' =>
        cases x <;> simp only [Oper.upon] at h ⊢
        case panic u => exact hQ _ _ _ _ h
    · exact .inr ⟨by unfold Oper.asks at *; rw [execOp_put oc hs a (some d) v hl']; exact hA, hL⟩
  · rename_i hw
    rw [if_neg hw] at h
    exact ⟨_, hcm a _, h⟩
theorem wpOp_puts {c : Nat} {oc : Oper} (hc : ops[c]? = some oc) (hs : ∀ cs b, oc.op ≠ .select cs b) (hQ : ∀ d ch a w v, Q (.panic ch) a w → Q (.panic ch) (a.put (some d) v) w) :
    ∀ (D : List (Fl × Nat)) (a : Act) (w : World) (K : Act → World → Prop), (∀ p ∈ D, p.1.d ∉ oc.looksAt ops ∧ oc.dst ≠ some p.1.d) → wpOp P ops Q c K a w →
      wpOp P ops Q c (fun a' w' => ∃ a1, a' = puts D a1 ∧ K a1 w') (puts D a) w := by
  intro D
  induction D with
  | nil => intro a w K _ h; exact wpOp_mono (fun a w h => ⟨a, rfl, h⟩) h
  | cons p D ih =>
    intro a w K hap h
    have h1 := wpOp_put1 (v := .pointer (some ⟨p.2, 0, none⟩)) hc (hap p (by simp)).1 (hap p (by simp)).2 hs (hQ _) h
    have h2 := ih _ w _ (fun q hq => hap q (by simp [hq])) h1
    exact wpOp_mono (fun a' w' ⟨a1, e1, a2, e2, hk⟩ => ⟨a2, by rw [e1, e2]; rfl, hk⟩) h2
theorem puts_perm {D D' : List (Fl × Nat)} (h : D.Perm D') (hn : (D.map (·.1.d)).Nodup) (a : Act) : puts D a = puts D' a := by
  induction h generalizing a with
  | nil => rfl
  | cons p _ ih => exact ih (by simp at hn; exact hn.2) _
  | swap p q l =>
    simp only [List.map_cons, List.nodup_cons, List.mem_cons, not_or] at hn
    simp only [puts, List.foldl_cons]
    rw [Act.put_comm a _ _ (fun d e => by cases e; exact fun h => hn.1.1 (by injection h with h; exact h.symm))]
  | trans h1 _ ih1 ih2 => rw [ih1 hn, ih2 ((h1.map _).nodup_iff.1 hn)]
theorem perm_map_lift {α β : Type} {f : α → β} {x m : List β} (h : x.Perm m) : ∀ l : List α, l.map f = x → ∃ l', l.Perm l' ∧ l'.map f = m := by
  induction h with
  | nil => intro l hl; exact ⟨l, List.Perm.refl _, hl⟩
  | cons a _ ih =>
    intro l hl
    cases l with
    | nil => simp at hl
    | cons b l =>
      simp only [List.map_cons, List.cons.injEq] at hl
      obtain ⟨l', h1, h2⟩ := ih l hl.2
      exact ⟨b :: l', h1.cons b, by simp [hl.1, h2]⟩
  | swap a b t =>
    intro l hl
    match l, hl with
    | x :: y :: l, hl =>
      simp only [List.map_cons, List.cons.injEq] at hl
      exact ⟨y :: x :: l, List.Perm.swap _ _ _, by simp [hl.1, hl.2.1, hl.2.2]⟩
  | trans _ _ ih1 ih2 =>
    intro l hl
    obtain ⟨l1, a1, b1⟩ := ih1 l hl
    obtain ⟨l2, a2, b2⟩ := ih2 l1 b1
    exact ⟨l2, a1.trans a2, b2⟩
/-- The order of the chain: each waits for the one before it, and for what is listed; nothing else is left but the variables. -/
def Ord (ops : Array Oper) : List Nat → (Nat → Prop) → (Nat → Bool) → Prop
  | [], F, l => ∀ i, i < ops.size → l i = true ∨ F i
  | c :: cs, F, l => c < ops.size ∧ l c = false ∧ ¬ F c ∧ (∀ o, ops[c]? = some o → ∀ e ∈ o.after, Region.binds .any e = true → l e.on = true ∧ e.on < ops.size) ∧
      (∀ i, i < ops.size → l i = true ∨ F i ∨ i = c ∨ ∃ o e, ops[i]? = some o ∧ e ∈ o.after ∧ Region.binds .any e = true ∧ l e.on = false ∧ ¬ F e.on ∧ e.on < ops.size) ∧ Ord ops cs F (fun i => i == c || l i)
theorem Ord.congr {cs : List Nat} : ∀ {F F' : Nat → Prop} {l l' : Nat → Bool}, (∀ i, F i ↔ F' i) → (∀ i, i < ops.size → l i = l' i) → Ord ops cs F l → Ord ops cs F' l' := by
  induction cs with
  | nil => intro F F' l l' hF hl h i hi; rw [← hl i hi, ← hF]; exact h i hi
  | cons c cs ih =>
    rintro F F' l l' hF hl ⟨h1, h2, h3, h4, h5, h6⟩
    refine ⟨h1, by rw [← hl c h1]; exact h2, by rw [← hF]; exact h3, fun o ho e he hb => ?_, fun i hi => ?_, ih hF (fun i hi => by rw [hl i hi]) h6⟩
    · obtain ⟨a1, a2⟩ := h4 o ho e he hb
      exact ⟨by rw [← hl _ a2]; exact a1, a2⟩
    · rw [← hl i hi, ← hF]
      rcases h5 i hi with a | a | a | ⟨o, e, b1, b2, b3, b4, b5, b6⟩
      · exact .inl a
      · exact .inr (.inl a)
      · exact .inr (.inr (.inl a))
      · exact .inr (.inr (.inr ⟨o, e, b1, b2, b3, by rw [← hl _ b6]; exact b4, by rw [← hF]; exact b5, b6⟩))
theorem Ord.float {f : Nat} {cs : List Nat} : ∀ {F : Nat → Prop} {l : Nat → Bool}, F f → Ord ops cs F l → Ord ops cs (fun i => F i ∧ i ≠ f) (fun i => i == f || l i) := by
  induction cs with
  | nil =>
    intro F l hf h i hi
    by_cases hif : i = f
    · simp [hif]
    · rcases h i hi with a | a
      · simp [a]
      · exact .inr ⟨a, hif⟩
  | cons c cs ih =>
    rintro F l hf ⟨h1, h2, h3, h4, h5, h6⟩
    have hcf : c ≠ f := fun e => h3 (e ▸ hf)
    refine ⟨h1, by simp [h2, hcf], fun h => h3 h.1, fun o ho e he hb => ?_, fun i hi => ?_, ?_⟩
    · obtain ⟨a1, a2⟩ := h4 o ho e he hb
      exact ⟨by simp [a1], a2⟩
    · by_cases hif : i = f
      · simp [hif]
      rcases h5 i hi with a | a | a | ⟨o, e, b1, b2, b3, b4, b5, b6⟩
      · simp [a]
      · exact .inr (.inl ⟨a, hif⟩)
      · exact .inr (.inr (.inl a))
      · have hef : e.on ≠ f := fun h => b5 (h ▸ hf)
        exact .inr (.inr (.inr ⟨o, e, b1, b2, b3, by simp [b4, hef], fun h => b5 h.1, b6⟩))
    · exact (ih hf h6).congr (fun i => Iff.rfl) (fun i _ => by show (i == f || (i == c || l i)) = (i == c || (i == f || l i)); cases l i <;> cases (i == f) <;> cases (i == c) <;> rfl)
/-- What the walk leans on. -/
structure ChainOk (P : Program) (ops : Array Oper) (Q : Exit → Act → World → Prop) (Cs : List Nat) (F : List Fl) (l0 : Nat → Bool) : Prop where
  sel : ∀ (j : Nat) (o : Oper) cs b, ops[j]? = some o → o.op ≠ .select cs b
  pan : ∀ d ch a w v, Q (.panic ch) a w → Q (.panic ch) (a.put (some d) v) w
  fup : ∀ f ∈ F, f.i < ops.size ∧ ∃ o, ops[f.i]? = some o ∧ o.dst = some f.d ∧ o.guard = none ∧ (∀ ρ w, (execOp ρ o).run P w = .ok (.value (.pointer (some ⟨w.heap.size, 0, none⟩))) (w.alloc (.cells f.z f.ty))) ∧ ∀ e ∈ o.after, Region.binds .any e = true → l0 e.on = true ∧ e.on < ops.size
  fnd : (F.map (·.i)).Nodup
  dnd : (F.map (·.d)).Nodup
  ap : ∀ f ∈ F, ∀ c ∈ Cs, ∀ o, ops[c]? = some o → f.d ∉ o.looksAt ops ∧ o.dst ≠ some f.d
theorem eq_of_i {F : List Fl} (h : (F.map (·.i)).Nodup) {f g : Fl} (hf : f ∈ F) (hg : g ∈ F) (he : f.i = g.i) : f = g := by
  induction F with
  | nil => cases hf
  | cons x F ih =>
    simp only [List.map_cons, List.nodup_cons, List.mem_map, not_exists, not_and] at h
    rcases List.mem_cons.1 hf with rfl | hf' <;> rcases List.mem_cons.1 hg with rfl | hg'
    · rfl
    · exact absurd he.symm (h.1 g hg')
    · exact absurd he (h.1 f hf')
    · exact ih h.2 hf' hg'
theorem chain_any {S : World → Prop} (hS : ∀ w w', Ext w w' → S w → S w') {Cs : List Nat} {F : List Fl} {l0 : Nat → Bool} (C : ChainOk P ops Q Cs F l0) {B : Nat} {K : List (Nat × Nat) → Act → World → Prop}
    (hK : ∀ N a w D, D.map (·.1) = F → FlOk B w N D → S w → K N a w → Q .normal (puts D a) w) :
    ∀ (fuel : Nat) (listed : Array Bool) (cs : List Nat) (R : List Fl) (D : List (Fl × Nat)) (N : List (Nat × Nat)) (a : Act) (w : World),
      listed.size = ops.size → (∀ i, i < ops.size → l0 i = true → listed.getD i true = true) → (D.map (·.1) ++ R).Perm F → (∀ c ∈ cs, c ∈ Cs) → Ord ops cs (fun i => ∃ f ∈ R, f.i = i) (fun i => listed.getD i true) → (∀ f ∈ R, listed.getD f.i true = false) →
      FlOk B w N D → B ≤ w.heap.size → (∀ q ∈ N, q.2 ≤ w.heap.size) → S w → wpChain P ops Q K cs N a w → cs.length + R.length ≤ fuel → wpAnyH P .any ops Q S fuel listed (puts D a) w := by
  intro fuel
  have gf : ∀ (l : Array Bool) (i : Nat), l.size = ops.size → i < ops.size → l.getD i false = l.getD i true := fun l i hl hi => by simp [Array.getD, hl, hi]
  have gs : ∀ (l : Array Bool) (i j : Nat), l.size = ops.size → i < ops.size → (l.setIfInBounds i true).getD j true = (j == i || l.getD j true) := fun l i j hl hi => by
    by_cases hij : j = i
    · subst hij; simp [Array.getD, hl, hi]
    · have : (l.setIfInBounds i true)[j]? = l[j]? := Array.getElem?_setIfInBounds_ne (Ne.symm hij)
      simp only [Array.getD_eq_getD_getElem?, this]
      simp [hij]
  have hdn : ∀ D : List (Fl × Nat), (D.map (·.1)).Perm F → (D.map (·.1.d)).Nodup := fun D h => by
    have := ((h.map (·.d)).nodup_iff).2 C.dnd
    rw [List.map_map] at this
    exact this
  induction fuel with
  | zero =>
    intro listed cs R D N a w hls hl0 hp hcs ho hR hD hB hN hs hc hf
    obtain rfl : cs = [] := List.eq_nil_of_length_eq_zero (by omega)
    obtain rfl : R = [] := List.eq_nil_of_length_eq_zero (by omega)
    obtain ⟨D', p1, p2⟩ := perm_map_lift (f := (·.1)) (by simpa using hp) D rfl
    refine ⟨?_, ?_⟩
    · apply List.eq_nil_iff_forall_not_mem.2
      intro i hi
      obtain ⟨h1, o, h2, _⟩ := mem_ready.1 hi
      have := ho i (Array.getElem?_eq_some_iff.1 h2).1
      simp [h1] at this
    · rw [puts_perm p1 (hdn D (by simpa using hp))]
      exact hK N a w D' p2 ⟨fun p hp' => hD.1 p (p1.mem_iff.2 hp'), ((p1.map _).nodup_iff).1 hD.2⟩ hs (hc w (Below.refl _ _))
  | succ fuel ih =>
    intro listed cs R D N a w hls hl0 hp hcs ho hR hD hB hN hs hc hf
    have hRF : ∀ f ∈ R, f ∈ F := fun f hf => hp.mem_iff.1 (by simp [hf])
    have hDF : ∀ p ∈ D, p.1 ∈ F := fun p hp' => hp.mem_iff.1 (by simp; exact .inl ⟨p.2, hp'⟩)
    have hRr : ∀ f ∈ R, f.i ∈ Region.ready .any ops listed := fun f hf => by
      obtain ⟨h1, o, h2, h3, h4, h5, h6⟩ := C.fup f (hRF f hf)
      exact mem_ready.2 ⟨hR f hf, o, h2, fun e he hb => by
        obtain ⟨a1, a2⟩ := h6 e he hb
        rw [gf _ _ hls a2]; exact hl0 _ a2 a1⟩
    have hcr : ∀ c cs', cs = c :: cs' → c ∈ Region.ready .any ops listed := fun c cs' e => by
      subst e
      obtain ⟨h1, h2, h3, h4, _⟩ := ho
      exact mem_ready.2 ⟨h2, ops[c], Array.getElem?_eq_getElem h1, fun e he hb => by
        obtain ⟨a1, a2⟩ := h4 _ (Array.getElem?_eq_getElem h1) e he hb
        rw [gf _ _ hls a2]; exact a1⟩
    refine ⟨fun h0 => ?_, fun i hi => ?_⟩
    · cases cs with
      | cons c cs' => have := hcr c cs' rfl; rw [h0] at this; cases this
      | nil =>
        cases R with
        | cons f R => have := hRr f (by simp); rw [h0] at this; cases this
        | nil =>
          obtain ⟨D', p1, p2⟩ := perm_map_lift (f := (·.1)) (by simpa using hp) D rfl
          rw [puts_perm p1 (hdn D (by simpa using hp))]
          exact hK N a w D' p2 ⟨fun p hp' => hD.1 p (p1.mem_iff.2 hp'), ((p1.map _).nodup_iff).1 hD.2⟩ hs (hc w (Below.refl _ _))
    · obtain ⟨h1, o, h2, h3⟩ := mem_ready.1 hi
      have hlt := (Array.getElem?_eq_some_iff.1 h2).1
      by_cases hfl : ∃ f ∈ R, f.i = i
      · -- a variable is made
        obtain ⟨f, hfR, rfl⟩ := hfl
        obtain ⟨g1, o', g2, g3, g4, g5, g6⟩ := C.fup f (hRF f hfR)
        obtain rfl : o = o' := by rw [h2] at g2; injection g2
        obtain ⟨R1, R2, rfl⟩ := List.append_of_mem hfR
        unfold wpOp
        simp only [h2, Region.wanted, g4, if_true]
        refine .inl ?_
        unfold Oper.wp
        rw [g5]
        simp only [Oper.upon, g3]
        have hext : Ext w (w.alloc (.cells f.z f.ty)) := (Below.refl _ _).alloc (Nat.le_refl _) _
        have hnd : (F.map (·.i)).Nodup := C.fnd
        have hndR : ((D.map (·.1) ++ (R1 ++ f :: R2)).map (·.i)).Nodup := (hp.map _).nodup_iff.2 hnd
        have key : ((puts D a).put (some f.d) (.pointer (some ⟨w.heap.size, 0, none⟩))) = puts (D ++ [(f, w.heap.size)]) a := by simp [puts]
        refine ⟨hS _ _ hext hs, ?_⟩
        rw [key]
        have hne : ∀ g ∈ R1 ++ R2, g.i ≠ f.i := fun g hg he => by
          simp only [List.map_append, List.map_cons] at hndR
          have h9 := (List.nodup_append.1 hndR).2.1
          have h10 := (List.perm_middle.nodup_iff.1 h9)
          simp only [List.nodup_cons] at h10
          exact h10.1 (by rw [← he, ← List.map_append]; exact List.mem_map.2 ⟨g, hg, rfl⟩)
        refine ih (listed.setIfInBounds f.i true) cs (R1 ++ R2) (D ++ [(f, w.heap.size)]) N a _ (by simpa using hls) (fun j hj h0 => by rw [gs _ _ _ hls g1, hl0 j hj h0]; simp) ?_ hcs ?_ (fun g hg => ?_) ⟨fun p hp' => ?_, ?_⟩ (by simp; omega) (fun q hq => by have := hN q hq; simp; omega) (hS _ _ hext hs) (wpChain_ext hc hext) (by simp at hf ⊢; omega)
        · refine List.Perm.trans ?_ hp
          simp only [List.map_append, List.map_cons, List.map_nil, List.append_assoc, List.singleton_append]
          exact List.Perm.append_left _ List.perm_middle.symm
        · refine (Ord.float (f := f.i) ⟨f, hfR, rfl⟩ ho).congr (fun j => ?_) (fun j hj => (gs _ _ _ hls g1).symm)
          constructor
          · rintro ⟨⟨g, hg, rfl⟩, hn⟩
            refine ⟨g, ?_, rfl⟩
            simp only [List.mem_append, List.mem_cons] at hg ⊢
            rcases hg with a | rfl | a
            · exact .inl a
            · exact absurd rfl hn
            · exact .inr a
          · rintro ⟨g, hg, rfl⟩
            exact ⟨⟨g, by simp only [List.mem_append, List.mem_cons] at hg ⊢; rcases hg with a | a <;> simp [a], rfl⟩, hne g hg⟩
        · rw [gs _ _ _ hls g1, hR g (by simp only [List.mem_append, List.mem_cons] at hg ⊢; rcases hg with a | a <;> simp [a])]
          simp [hne g hg]
        · rcases List.mem_append.1 hp' with hp' | hp'
          · obtain ⟨a1, a2, a3⟩ := hD.1 p hp'
            exact ⟨a1, a2.alloc _, a3⟩
          · simp only [List.mem_singleton] at hp'
            subst hp'
            exact ⟨hB, Blk.new _ _ _, fun q hq => .inr (hN q hq)⟩
        · simp only [List.map_append, List.map_cons, List.map_nil]
          refine List.nodup_append.2 ⟨hD.2, by simp, fun x hx y hy => ?_⟩
          simp only [List.mem_singleton] at hy
          subst hy
          obtain ⟨p, hp', rfl⟩ := List.mem_map.1 hx
          have := (hD.1 p hp').2.1.lt
          omega
      · -- the chain's next
        cases cs with
        | nil =>
          rcases ho i hlt with h9 | h9
          · have h9' : listed.getD i true = true := h9
            rw [h1] at h9'; cases h9'
          · exact absurd h9 hfl
        | cons c cs' =>
          obtain ⟨k1, k2, k3, k4, k5, k6⟩ := ho
          have hic : i = c := by
            rcases k5 i hlt with h9 | h9 | h9 | ⟨o', e, b1, b2, b3, b4, b5, b6⟩
            · have h9' : listed.getD i true = true := h9
              rw [h1] at h9'; cases h9'
            · exact absurd h9 hfl
            · exact h9
            · obtain rfl : o = o' := by rw [h2] at b1; injection b1
              have := h3 e b2 b3
              have b4' : listed.getD e.on true = false := b4
              rw [gf _ _ hls b6, b4'] at this; cases this
          subst hic
          have h9 := wpOp_puts (K := fun a' w'' => Ext w w'' ∧ wpChain P ops Q K cs' ((w.heap.size, w''.heap.size) :: N) a' w'') h2 (fun cs b => C.sel i o cs b h2) C.pan D a w (fun p hp' => C.ap p.1 (hDF p hp') i (hcs i (by simp)) o h2) (hc w (Below.refl _ _))
          refine wpOp_mono (fun a' w'' => ?_) h9
          rintro ⟨a1, rfl, hext, hc'⟩
          refine ⟨hS _ _ hext hs, ih (listed.setIfInBounds i true) cs' R D _ a1 w'' (by simpa using hls) (fun j hj h0 => by rw [gs _ _ _ hls hlt, hl0 j hj h0]; simp) hp (fun c hc => hcs c (by simp [hc])) (k6.congr (fun j => Iff.rfl) (fun j hj => (gs _ _ _ hls hlt).symm)) (fun f hf' => ?_) ⟨fun p hp' => ?_, hD.2⟩ (Nat.le_trans hB hext.size) (fun q hq => ?_) (hS _ _ hext hs) hc' (by simp at hf ⊢; omega)⟩
          · rw [gs _ _ _ hls hlt, hR f hf']
            have : f.i ≠ i := fun e => k3 ⟨f, hf', e⟩
            simp [this]
          · obtain ⟨a1, a2, a3⟩ := hD.1 p hp'
            refine ⟨a1, a2.blw hext, fun q hq => ?_⟩
            rcases List.mem_cons.1 hq with rfl | hq
            · exact .inl a2.lt
            · exact a3 q hq
          · rcases List.mem_cons.1 hq with rfl | hq
            · exact Nat.le_refl _
            · exact Nat.le_trans (hN q hq) hext.size
/-! ### The same by Bools -/
def ordB (ops : Array Oper) (F : List Nat) : List Nat → (Nat → Bool) → Bool
  | [], l => (List.range ops.size).all fun i => l i || F.contains i
  | c :: cs, l => decide (c < ops.size) && !l c && !F.contains c && (match ops[c]? with | some o => o.after.all (fun e => !Region.binds .any e || (l e.on && decide (e.on < ops.size))) | none => true) &&
      ((List.range ops.size).all fun i => l i || F.contains i || i == c || (match ops[i]? with | some o => o.after.any (fun e => Region.binds .any e && !l e.on && !F.contains e.on && decide (e.on < ops.size)) | none => false)) &&
      ordB ops F cs (fun i => i == c || l i)
theorem ordB_spec {F : List Nat} {cs : List Nat} : ∀ {l : Nat → Bool}, ordB ops F cs l = true → Ord ops cs (· ∈ F) l := by
  induction cs with
  | nil =>
    intro l h i hi
    have := List.all_eq_true.1 h i (List.mem_range.2 hi)
    simpa using this
  | cons c cs ih =>
    intro l h
    simp only [ordB, Bool.and_eq_true, decide_eq_true_eq, Bool.not_eq_true'] at h
    obtain ⟨⟨⟨⟨⟨h1, h2⟩, h3⟩, h4⟩, h5⟩, h6⟩ := h
    refine ⟨h1, h2, by simpa using h3, fun o ho e he hb => ?_, fun i hi => ?_, ih h6⟩
    · rw [ho] at h4
      have := Array.all_eq_true_iff_forall_mem.1 h4 e he
      simpa [hb] using this
    · have := List.all_eq_true.1 h5 i (List.mem_range.2 hi)
      simp only [Bool.or_eq_true, beq_iff_eq] at this
      rcases this with ((a | a) | a) | a
      · exact .inl a
      · exact .inr (.inl (by simpa using a))
      · exact .inr (.inr (.inl a))
      · cases ho : ops[i]? with
        | none => rw [ho] at a; cases a
        | some o =>
          rw [ho] at a
          obtain ⟨e, he, hb⟩ := Array.any_eq_true'.1 a
          simp only [Bool.and_eq_true, Bool.not_eq_true', decide_eq_true_eq] at hb
          exact .inr (.inr (.inr ⟨o, e, rfl, he, hb.1.1.1, hb.1.1.2, by simpa using hb.1.2, hb.2⟩))
/-- Operation i of the region makes a new variable in slot d, of type T; its edges are listed. -/
def flB (ops : Array Oper) (l : Nat → Bool) (i : Nat) (d : Tmp) (T : TypeId) : Bool := match ops[i]? with
  | some o => o.dst == some d && o.guard.isNone && (match o.op with | .alloc t => t == T | _ => false) && o.after.all fun e => !Region.binds .any e || (l e.on && decide (e.on < ops.size))
  | none => false
def apB (ops : Array Oper) (Cs : List Nat) (d : Tmp) : Bool := Cs.all fun c => match ops[c]? with | some o => !(o.looksAt ops).contains d && o.dst != some d | none => true
def checkB (ops : Array Oper) (listed : Array Bool) (Cs : List Nat) (F : List (Nat × Tmp × TypeId)) : Bool :=
  Region.noSelect ops && decide (listed.size = ops.size) && F.all (fun f => flB ops (fun i => listed.getD i true) f.1 f.2.1 f.2.2 && apB ops Cs f.2.1 && !listed.getD f.1 true) && decide (F.map (·.1)).Nodup && decide (F.map (·.2.1)).Nodup && ordB ops (F.map (·.1)) Cs (fun i => listed.getD i true)
/-- A new variable of type T is these cells. -/
def Zero (P : Program) (T : TypeId) (z : Array Value) : Prop := ∀ ρ o w, o.op = .alloc T → (execOp ρ o).run P w = .ok (.value (.pointer (some ⟨w.heap.size, 0, none⟩))) (w.alloc (.cells z T))
def keys (F : List Fl) : List (Nat × Tmp × TypeId) := F.map fun f => (f.i, f.d, f.ty)
theorem chain_begin {S : World → Prop} (hS : ∀ w w', Ext w w' → S w → S w') (Cs : List Nat) (F : List Fl) {listed : Array Bool} {fuel : Nat} {a : Act} {w : World} {K : List (Nat × Nat) → Act → World → Prop} {B : Nat}
    (hb : checkB ops listed Cs (keys F) = true) (hfu : Cs.length + F.length ≤ fuel) (hpan : ∀ d ch a w v, Q (.panic ch) a w → Q (.panic ch) (a.put (some d) v) w)
    (hz : ∀ f ∈ F, Zero P f.ty f.z) (hs : S w)
    (hK : ∀ N a w D, D.map (·.1) = F → FlOk B w N D → S w → K N a w → Q .normal (puts D a) w) (hB : B ≤ w.heap.size) (h : wpChain P ops Q K Cs [] a w) : wpAnyH P .any ops Q S fuel listed a w := by
  simp only [checkB, Bool.and_eq_true, decide_eq_true_eq] at hb
  obtain ⟨⟨⟨⟨⟨h1, h2⟩, h3⟩, h4⟩, h5⟩, h6⟩ := hb
  have hk1 : (keys F).map (·.1) = F.map (·.i) := by simp [keys, Function.comp_def]
  have hk2 : (keys F).map (·.2.1) = F.map (·.d) := by simp [keys, Function.comp_def]
  rw [hk1] at h4 h6
  rw [hk2] at h5
  have h3' : ∀ f ∈ F, (flB ops (fun i => listed.getD i true) f.i f.d f.ty && apB ops Cs f.d && !listed.getD f.i true) = true := fun f hf => List.all_eq_true.1 h3 (f.i, f.d, f.ty) (List.mem_map.2 ⟨f, hf, rfl⟩)
  have hord := ordB_spec h6
  have hcup : ∀ (cs : List Nat) (F : Nat → Prop) (l : Nat → Bool), Ord ops cs F l → ∀ c ∈ cs, c < ops.size := by
    intro cs
    induction cs with
    | nil => intro _ _ _ c hc; cases hc
    | cons c cs ih => intro F l h c' hc'; rcases List.mem_cons.1 hc' with rfl | hc'; exact h.1; exact ih _ _ h.2.2.2.2.2 c' hc'
  have C : ChainOk P ops Q Cs F (fun i => listed.getD i true) := {
    sel := Region.noSelect_spec h1
    pan := hpan
    fup := fun f hf => by
      have := h3' f hf
      simp only [Bool.and_eq_true, flB] at this
      obtain ⟨⟨g, _⟩, _⟩ := this
      cases ho : ops[f.i]? with
      | none => rw [ho] at g; cases g
      | some o =>
        rw [ho] at g
        simp only [Bool.and_eq_true, beq_iff_eq, Option.isNone_iff_eq_none] at g
        obtain ⟨⟨⟨g1, g2⟩, g3⟩, g4⟩ := g
        refine ⟨(Array.getElem?_eq_some_iff.1 ho).1, o, rfl, g1, g2, fun ρ w => hz f hf ρ o w ?_, fun e he hb => ?_⟩
        · cases hop : o.op <;> rw [hop] at g3 <;> first | (cases g3; done) | (simp only [beq_iff_eq] at g3; rw [g3])
        · have := Array.all_eq_true_iff_forall_mem.1 g4 e he
          simpa [hb] using this
    fnd := h4
    dnd := h5
    ap := fun f hf c hc o ho => by
      have := h3' f hf
      simp only [Bool.and_eq_true, apB] at this
      have := List.all_eq_true.1 this.1.2 c hc
      rw [ho] at this
      simpa using this }
  have := chain_any hS C hK fuel listed Cs F [] [] a w h2 (fun i hi h => h) (by simp) (fun c hc => hc) (hord.congr (fun i => by simp) (fun i _ => rfl)) (fun f hf => by
    have := h3' f hf
    simp only [Bool.and_eq_true, Bool.not_eq_true'] at this
    exact this.2) ⟨fun p hp => (by cases hp), by simp⟩ hB (fun q hq => by cases hq) hs h hfu
  exact this
end
end Go.Proofs.Ytckiagbllkdfdaa
