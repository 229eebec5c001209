/-
  A region that draws its order, once more: between the steps of the chain quiet operations may be taken as soon as they may come up, whatever else may. No condition on a program.
-/
import Derived.Test.YtckiagbllkdfdaaRw
namespace Go.Proofs.Ytckiagbllkdfdaa
set_option linter.all false
set_option linter.unusedVariables false
set_option linter.unusedSimpArgs false
open Go.RowKit
section
variable {P : Program} {ops : Array Oper} {Q : Exit → Act → World → Prop}
def Ord2 (ops : Array Oper) : List (Nat × Bool) → (Nat → Prop) → (Nat → Bool) → Prop
  | [], F, l => ∀ i, i < ops.size → l i = true ∨ F i
  | (c, true) :: cs, F, l => c < ops.size ∧ l c = false ∧ ¬ F c ∧ (∀ o, ops[c]? = some o → ∀ e ∈ o.after, Region.binds .any e = true → l e.on = true ∧ e.on < ops.size) ∧
      (∀ o j oj, ops[c]? = some o → ops[j]? = some oj → j ≠ c → l j = false → (∀ e ∈ oj.after, Region.binds .any e = true → e.on ≠ c) → o.apart ops oj = true) ∧ Ord2 ops cs F (fun i => i == c || l i)
  | (c, false) :: cs, F, l => c < ops.size ∧ l c = false ∧ ¬ F c ∧ (∀ o, ops[c]? = some o → ∀ e ∈ o.after, Region.binds .any e = true → l e.on = true ∧ e.on < ops.size) ∧
      (∀ i, i < ops.size → l i = true ∨ F i ∨ i = c ∨ ∃ o e, ops[i]? = some o ∧ e ∈ o.after ∧ Region.binds .any e = true ∧ l e.on = false ∧ ¬ F e.on ∧ e.on < ops.size) ∧ Ord2 ops cs F (fun i => i == c || l i)
theorem Ord2.congr {cs : List (Nat × Bool)} : ∀ {F F' : Nat → Prop} {l l' : Nat → Bool}, (∀ i, F i ↔ F' i) → (∀ i, i < ops.size → l i = l' i) → Ord2 ops cs F l → Ord2 ops cs F' l' := by
  induction cs with
  | nil => intro F F' l l' hF hl h i hi; rw [← hl i hi, ← hF]; exact h i hi
  | cons c cs ih =>
    obtain ⟨c, b⟩ := c
    cases b
    · rintro F F' l l' hF hl ⟨h1, h2, h3, h4, h5, h6⟩
      refine ⟨h1, by rw [← hl c h1]; exact h2, by rw [← hF]; exact h3, fun o ho e he hb => ?_, fun i hi => ?_, ih hF (fun i hi => by rw [hl i hi]) h6⟩
      · obtain ⟨a1, a2⟩ := h4 o ho e he hb
        exact ⟨by rw [← hl _ a2]; exact a1, a2⟩
      · rw [← hl i hi, ← hF]
        rcases h5 i hi with a | a | a | ⟨o, e, b1, b2, b3, b4, b5, b6⟩
        · exact .inl a
        · exact .inr (.inl a)
        · exact .inr (.inr (.inl a))
        · exact .inr (.inr (.inr ⟨o, e, b1, b2, b3, by rw [← hl _ b6]; exact b4, by rw [← hF]; exact b5, b6⟩))
    · rintro F F' l l' hF hl ⟨h1, h2, h3, h4, h5, h6⟩
      refine ⟨h1, by rw [← hl c h1]; exact h2, by rw [← hF]; exact h3, fun o ho e he hb => ?_, fun o j oj ho hj hne hlj hno => ?_, ih hF (fun i hi => by rw [hl i hi]) h6⟩
      · obtain ⟨a1, a2⟩ := h4 o ho e he hb
        exact ⟨by rw [← hl _ a2]; exact a1, a2⟩
      · exact h5 o j oj ho hj hne (by rw [hl j (Array.getElem?_eq_some_iff.1 hj).1]; exact hlj) hno
theorem Ord2.float {f : Nat} {cs : List (Nat × Bool)} : ∀ {F : Nat → Prop} {l : Nat → Bool}, F f → Ord2 ops cs F l → Ord2 ops cs (fun i => F i ∧ i ≠ f) (fun i => i == f || l i) := by
  induction cs with
  | nil =>
    intro F l hf h i hi
    by_cases hif : i = f
    · simp [hif]
    · rcases h i hi with a | a
      · simp [a]
      · exact .inr ⟨a, hif⟩
  | cons c cs ih =>
    obtain ⟨c, b⟩ := c
    cases b
    · rintro F l hf ⟨h1, h2, h3, h4, h5, h6⟩
      have hcf : c ≠ f := fun e => h3 (e ▸ hf)
      refine ⟨h1, by simp [h2, hcf], fun h => h3 h.1, fun o ho e he hb => ?_, fun i hi => ?_, ?_⟩
      · obtain ⟨a1, a2⟩ := h4 o ho e he hb
        exact ⟨by simp [a1], a2⟩
      · by_cases hif : i = f
        · simp [hif]
        rcases h5 i hi with a | a | a | ⟨o, e, b1, b2, b3, b4, b5, b6⟩
        · simp [a]
        · exact .inr (.inl ⟨a, hif⟩)
        · exact .inr (.inr (.inl a))
        · have hef : e.on ≠ f := fun h => b5 (h ▸ hf)
          exact .inr (.inr (.inr ⟨o, e, b1, b2, b3, by simp [b4, hef], fun h => b5 h.1, b6⟩))
      · exact (ih hf h6).congr (fun i => Iff.rfl) (fun i _ => by show (i == f || (i == c || l i)) = (i == c || (i == f || l i)); cases l i <;> cases (i == f) <;> cases (i == c) <;> rfl)
    · rintro F l hf ⟨h1, h2, h3, h4, h5, h6⟩
      have hcf : c ≠ f := fun e => h3 (e ▸ hf)
      refine ⟨h1, by simp [h2, hcf], fun h => h3 h.1, fun o ho e he hb => ?_, fun o j oj ho hj hne hlj hno => ?_, ?_⟩
      · obtain ⟨a1, a2⟩ := h4 o ho e he hb
        exact ⟨by simp [a1], a2⟩
      · simp only [Bool.or_eq_false_iff] at hlj
        exact h5 o j oj ho hj hne hlj.2 hno
      · exact (ih hf h6).congr (fun i => Iff.rfl) (fun i _ => by show (i == f || (i == c || l i)) = (i == c || (i == f || l i)); cases l i <;> cases (i == f) <;> cases (i == c) <;> rfl)
/-- The chain; an element marked true is quiet. -/
def wpChain2 (P : Program) (ops : Array Oper) (Q : Exit → Act → World → Prop) (K : List (Nat × Nat) → Act → World → Prop) : List (Nat × Bool) → List (Nat × Nat) → Act → World → Prop
  | [], N, a, w => ∀ w', Ext w w' → K N a w'
  | (c, true) :: cs, N, a, w => ∀ w', Ext w w' → ∀ o, ops[c]? = some o → ∃ v, YieldsIf P ops (fun w3 => Ext w' w3) o v a ∧ wpChain2 P ops Q K cs N (a.put o.dst v) w'
  | (c, false) :: cs, N, a, w => ∀ w', Ext w w' → wpOp P ops Q c (fun a' w'' => Ext w' w'' ∧ wpChain2 P ops Q K cs ((w'.heap.size, w''.heap.size) :: N) a' w'') a w'
theorem wpChain2_ext {K : List (Nat × Nat) → Act → World → Prop} {cs : List (Nat × Bool)} {N : List (Nat × Nat)} {a : Act} {w w1 : World} (h : wpChain2 P ops Q K cs N a w) (he : Ext w w1) : wpChain2 P ops Q K cs N a w1 := by
  match cs, h with
  | [], h => exact fun w' h' => h w' (Ext.trans he h')
  | (c, true) :: cs, h => exact fun w' h' => h w' (Ext.trans he h')
  | (c, false) :: cs, h => exact fun w' h' => h w' (Ext.trans he h')
theorem wpAnyH_mono {md : Region.Mode} {S S' : World → Prop} (h : ∀ w, S' w → S w) : ∀ (fuel : Nat) (listed : Array Bool) (a : Act) (w : World), wpAnyH P md ops Q S' fuel listed a w → wpAnyH P md ops Q S fuel listed a w
  | 0, _, _, _, hh => hh
  | fuel + 1, _, _, _, hh => ⟨hh.1, fun i hi => wpOp_mono (fun a' w' h' => ⟨h _ h'.1, wpAnyH_mono h fuel _ a' w' h'.2⟩) (hh.2 i hi)⟩
theorem YieldsIf.puts {S : World → Prop} {o : Oper} {v : Value} (hs : ∀ cs b, o.op ≠ .select cs b) : ∀ (D : List (Fl × Nat)) (a : Act), (∀ p ∈ D, p.1.d ∉ o.looksAt ops ∧ o.dst ≠ some p.1.d) → YieldsIf P ops S o v a → YieldsIf P ops S o v (puts D a) ∧ (puts D a).put o.dst v = puts D (a.put o.dst v)
  | [], a, _, h => ⟨h, rfl⟩
  | p :: D, a, hp, h => by
    have h1 : ∀ d', some p.1.d = some d' → d' ∉ o.looksAt ops := fun d' e => by cases e; exact (hp p (by simp)).1
    have h2 := YieldsIf.puts hs D (a.put (some p.1.d) (.pointer (some ⟨p.2, 0, none⟩))) (fun q hq => hp q (by simp [hq])) (h.of_same (execOp_put o hs a _ _ h1) (wanted_put o a _ _ h1))
    refine ⟨h2.1, ?_⟩
    show (Go.Proofs.Ytckiagbllkdfdaa.puts D (a.put (some p.1.d) (.pointer (some ⟨p.2, 0, none⟩)))).put o.dst v = _
    rw [h2.2]
    show _ = Go.Proofs.Ytckiagbllkdfdaa.puts D ((a.put o.dst v).put (some p.1.d) (.pointer (some ⟨p.2, 0, none⟩)))
    rw [Act.put_comm a _ _ (fun d e => by cases e; exact (hp p (by simp)).2)]
theorem chain2_any {S0 : World → Prop} {Cs : List Nat} {F : List Fl} {l0 : Nat → Bool} (C : ChainOk P ops Q Cs F l0) (hpan : Pan Q) {B : Nat} {K : List (Nat × Nat) → Act → World → Prop}
    (hK : ∀ N a w D, D.map (·.1) = F → FlOk B w N D → S0 w → K N a w → Q .normal (puts D a) w) :
    ∀ (fuel : Nat) (S : World → Prop) (listed : Array Bool) (cs : List (Nat × Bool)) (R : List Fl) (D : List (Fl × Nat)) (N : List (Nat × Nat)) (a : Act) (w : World), (∀ w w', Ext w w' → S w → S w') → (∀ w, S w → S0 w) →
      listed.size = ops.size → (∀ i, i < ops.size → l0 i = true → listed.getD i true = true) → (D.map (·.1) ++ R).Perm F → (∀ c ∈ cs, c.1 ∈ Cs) → Ord2 ops cs (fun i => ∃ f ∈ R, f.i = i) (fun i => listed.getD i true) → (∀ f ∈ R, listed.getD f.i true = false) →
      FlOk B w N D → B ≤ w.heap.size → (∀ q ∈ N, q.2 ≤ w.heap.size) → S w → wpChain2 P ops Q K cs N a w → cs.length + R.length ≤ fuel → wpAnyH P .any ops Q S fuel listed (puts D a) w := by
  intro fuel
  have gf : ∀ (l : Array Bool) (i : Nat), l.size = ops.size → i < ops.size → l.getD i false = l.getD i true := fun l i hl hi => by simp [Array.getD, hl, hi]
  have gs : ∀ (l : Array Bool) (i j : Nat), l.size = ops.size → i < ops.size → (l.setIfInBounds i true).getD j true = (j == i || l.getD j true) := fun l i j hl hi => by
    by_cases hij : j = i
    · subst hij; simp [Array.getD, hl, hi]
    · have : (l.setIfInBounds i true)[j]? = l[j]? := Array.getElem?_setIfInBounds_ne (Ne.symm hij)
      simp only [Array.getD_eq_getD_getElem?, this]
      simp [hij]
  have hdn : ∀ D : List (Fl × Nat), (D.map (·.1)).Perm F → (D.map (·.1.d)).Nodup := fun D h => by
    have := ((h.map (·.d)).nodup_iff).2 C.dnd
    rw [List.map_map] at this
    exact this
  induction fuel with
  | zero =>
    intro S listed cs R D N a w hS hS0 hls hl0 hp hcs ho hR hD hB hN hs hc hf
    obtain rfl : cs = [] := List.eq_nil_of_length_eq_zero (by omega)
    obtain rfl : R = [] := List.eq_nil_of_length_eq_zero (by omega)
    obtain ⟨D', p1, p2⟩ := perm_map_lift (f := (·.1)) (by simpa using hp) D rfl
    refine ⟨?_, ?_⟩
    · apply List.eq_nil_iff_forall_not_mem.2
      intro i hi
      obtain ⟨h1, o, h2, _⟩ := mem_ready.1 hi
      have := ho i (Array.getElem?_eq_some_iff.1 h2).1
      simp [h1] at this
    · rw [puts_perm p1 (hdn D (by simpa using hp))]
      exact hK N a w D' p2 ⟨fun p hp' => hD.1 p (p1.mem_iff.2 hp'), ((p1.map _).nodup_iff).1 hD.2⟩ (hS0 _ hs) (hc w (Below.refl _ _))
  | succ fuel ih =>
    intro S listed cs R D N a w hS hS0 hls hl0 hp hcs ho hR hD hB hN hs hc hf
    have hRF : ∀ f ∈ R, f ∈ F := fun f hf => hp.mem_iff.1 (by simp [hf])
    have hDF : ∀ p ∈ D, p.1 ∈ F := fun p hp' => hp.mem_iff.1 (by simp; exact .inl ⟨p.2, hp'⟩)
    by_cases hpure : ∃ c cs', cs = (c, true) :: cs'
    · -- a quiet one is taken
      obtain ⟨c, cs', rfl⟩ := hpure
      obtain ⟨k1, k2, k3, k4, k5, k6⟩ := ho
      have hoc : ops[c]? = some ops[c] := Array.getElem?_eq_getElem k1
      obtain ⟨v, hy, hc'⟩ := hc w (Below.refl _ _) _ hoc
      refine wpAnyH_mono (S' := fun w3 => S w3 ∧ Ext w w3) (fun _ h => h.1) _ _ _ _ ?_
      have hsel := fun cs b => C.sel c ops[c] cs b hoc
      obtain ⟨hy1, hy2⟩ := YieldsIf.puts (S := fun w3 => S w3 ∧ Ext w w3) hsel D a (fun p hp' => C.ap p.1 (hDF p hp') c (hcs (c, true) (by simp)) _ hoc) (hy.imp (fun ⟨h1, h2⟩ => ⟨h1, fun w3 h3 => h2 w3 h3.2⟩) id)
      refine wpAnyH_first hoc (fun j o cs b hj => C.sel j o cs b hj) (fun ch a' w' h => (hpan _ v ch a' w').1 h) fuel listed (puts D a) w (fun j oj hj hne hlj hno => k5 _ j oj hoc hj hne hlj hno) (mem_ready.2 ⟨k2, _, hoc, fun e he hb => by
        obtain ⟨a1, a2⟩ := k4 _ hoc e he hb
        rw [gf _ _ hls a2]; exact a1⟩) hy1 ⟨hs, Below.refl _ _⟩ ?_
      rw [hy2]
      refine ih (fun w3 => S w3 ∧ Ext w w3) (listed.setIfInBounds c true) cs' R D N _ w (fun x y he h => ⟨hS x y he h.1, Ext.trans h.2 he⟩) (fun x h => hS0 x h.1) (by simpa using hls) (fun j hj h0 => by rw [gs _ _ _ hls k1, hl0 j hj h0]; simp) hp (fun q hq => hcs q (by simp [hq])) (k6.congr (fun j => Iff.rfl) (fun j hj => (gs _ _ _ hls k1).symm)) (fun f hf' => ?_) hD hB hN ⟨hs, Below.refl _ _⟩ hc' (by simp at hf ⊢; omega)
      rw [gs _ _ _ hls k1, hR f hf']
      have : f.i ≠ c := fun e => k3 ⟨f, hf', e⟩
      simp [this]
    have hRr : ∀ f ∈ R, f.i ∈ Region.ready .any ops listed := fun f hf => by
      obtain ⟨h1, o, h2, h3, h4, h5, h6⟩ := C.fup f (hRF f hf)
      exact mem_ready.2 ⟨hR f hf, o, h2, fun e he hb => by
        obtain ⟨a1, a2⟩ := h6 e he hb
        rw [gf _ _ hls a2]; exact hl0 _ a2 a1⟩
    have hcr : ∀ c cs', cs = (c, false) :: cs' → c ∈ Region.ready .any ops listed := fun c cs' e => by
      subst e
      obtain ⟨h1, h2, h3, h4, _⟩ := ho
      exact mem_ready.2 ⟨h2, ops[c], Array.getElem?_eq_getElem h1, fun e he hb => by
        obtain ⟨a1, a2⟩ := h4 _ (Array.getElem?_eq_getElem h1) e he hb
        rw [gf _ _ hls a2]; exact a1⟩
    have hcs2 : cs = [] ∨ ∃ c cs', cs = (c, false) :: cs' := by
      match cs, hpure with
      | [], _ => exact .inl rfl
      | (c, false) :: cs', _ => exact .inr ⟨c, cs', rfl⟩
      | (c, true) :: cs', hn => exact absurd ⟨c, cs', rfl⟩ hn
    refine ⟨fun h0 => ?_, fun i hi => ?_⟩
    · rcases hcs2 with rfl | ⟨c, cs', rfl⟩
      · cases R with
        | cons f R => have := hRr f (by simp); rw [h0] at this; cases this
        | nil =>
          obtain ⟨D', p1, p2⟩ := perm_map_lift (f := (·.1)) (by simpa using hp) D rfl
          rw [puts_perm p1 (hdn D (by simpa using hp))]
          exact hK N a w D' p2 ⟨fun p hp' => hD.1 p (p1.mem_iff.2 hp'), ((p1.map _).nodup_iff).1 hD.2⟩ (hS0 _ hs) (hc w (Below.refl _ _))
      · have := hcr c cs' rfl; rw [h0] at this; cases this
    · obtain ⟨h1, o, h2, h3⟩ := mem_ready.1 hi
      have hlt := (Array.getElem?_eq_some_iff.1 h2).1
      by_cases hfl : ∃ f ∈ R, f.i = i
      · obtain ⟨f, hfR, rfl⟩ := hfl
        obtain ⟨g1, o', g2, g3, g4, g5, g6⟩ := C.fup f (hRF f hfR)
        obtain rfl : o = o' := by rw [h2] at g2; injection g2
        obtain ⟨R1, R2, rfl⟩ := List.append_of_mem hfR
        unfold wpOp
        simp only [h2, Region.wanted, g4, if_true]
        refine .inl ?_
        unfold Oper.wp
        rw [g5]
        simp only [Oper.upon, g3]
        have hext : Ext w (w.alloc (.cells f.z f.ty)) := (Below.refl _ _).alloc (Nat.le_refl _) _
        have hnd : (F.map (·.i)).Nodup := C.fnd
        have hndR : ((D.map (·.1) ++ (R1 ++ f :: R2)).map (·.i)).Nodup := (hp.map _).nodup_iff.2 hnd
        have key : ((puts D a).put (some f.d) (.pointer (some ⟨w.heap.size, 0, none⟩))) = puts (D ++ [(f, w.heap.size)]) a := by simp [puts]
        refine ⟨hS _ _ hext hs, ?_⟩
        rw [key]
        have hne : ∀ g ∈ R1 ++ R2, g.i ≠ f.i := fun g hg he => by
          simp only [List.map_append, List.map_cons] at hndR
          have h9 := (List.nodup_append.1 hndR).2.1
          have h10 := (List.perm_middle.nodup_iff.1 h9)
          simp only [List.nodup_cons] at h10
          exact h10.1 (by rw [← he, ← List.map_append]; exact List.mem_map.2 ⟨g, hg, rfl⟩)
        refine ih S (listed.setIfInBounds f.i true) cs (R1 ++ R2) (D ++ [(f, w.heap.size)]) N a _ hS hS0 (by simpa using hls) (fun j hj h0 => by rw [gs _ _ _ hls g1, hl0 j hj h0]; simp) ?_ hcs ?_ (fun g hg => ?_) ⟨fun p hp' => ?_, ?_⟩ (by simp; omega) (fun q hq => by have := hN q hq; simp; omega) (hS _ _ hext hs) (wpChain2_ext hc hext) (by simp at hf ⊢; omega)
        · refine List.Perm.trans ?_ hp
          simp only [List.map_append, List.map_cons, List.map_nil, List.append_assoc, List.singleton_append]
          exact List.Perm.append_left _ List.perm_middle.symm
        · refine (Ord2.float (f := f.i) ⟨f, hfR, rfl⟩ ho).congr (fun j => ?_) (fun j hj => (gs _ _ _ hls g1).symm)
          constructor
          · rintro ⟨⟨g, hg, rfl⟩, hn⟩
            refine ⟨g, ?_, rfl⟩
            simp only [List.mem_append, List.mem_cons] at hg ⊢
            rcases hg with a | rfl | a
            · exact .inl a
            · exact absurd rfl hn
            · exact .inr a
          · rintro ⟨g, hg, rfl⟩
            exact ⟨⟨g, by simp only [List.mem_append, List.mem_cons] at hg ⊢; rcases hg with a | a <;> simp [a], rfl⟩, hne g hg⟩
        · rw [gs _ _ _ hls g1, hR g (by simp only [List.mem_append, List.mem_cons] at hg ⊢; rcases hg with a | a <;> simp [a])]
          simp [hne g hg]
        · rcases List.mem_append.1 hp' with hp' | hp'
          · obtain ⟨a1, a2, a3⟩ := hD.1 p hp'
            exact ⟨a1, a2.alloc _, a3⟩
          · simp only [List.mem_singleton] at hp'
            subst hp'
            exact ⟨hB, Blk.new _ _ _, fun q hq => .inr (hN q hq)⟩
        · simp only [List.map_append, List.map_cons, List.map_nil]
          refine List.nodup_append.2 ⟨hD.2, by simp, fun x hx y hy => ?_⟩
          simp only [List.mem_singleton] at hy
          subst hy
          obtain ⟨p, hp', rfl⟩ := List.mem_map.1 hx
          have := (hD.1 p hp').2.1.lt
          omega
      · rcases hcs2 with rfl | ⟨c, cs', rfl⟩
        · rcases ho i hlt with h9 | h9
          · have h9' : listed.getD i true = true := h9
            rw [h1] at h9'; cases h9'
          · exact absurd h9 hfl
        · obtain ⟨k1, k2, k3, k4, k5, k6⟩ := ho
          have hic : i = c := by
            rcases k5 i hlt with h9 | h9 | h9 | ⟨o', e, b1, b2, b3, b4, b5, b6⟩
            · have h9' : listed.getD i true = true := h9
              rw [h1] at h9'; cases h9'
            · exact absurd h9 hfl
            · exact h9
            · obtain rfl : o = o' := by rw [h2] at b1; injection b1
              have := h3 e b2 b3
              have b4' : listed.getD e.on true = false := b4
              rw [gf _ _ hls b6, b4'] at this; cases this
          subst hic
          have h9 := wpOp_puts (K := fun a' w'' => Ext w w'' ∧ wpChain2 P ops Q K cs' ((w.heap.size, w''.heap.size) :: N) a' w'') h2 (fun cs b => C.sel i o cs b h2) C.pan D a w (fun p hp' => C.ap p.1 (hDF p hp') i (hcs (i, false) (by simp)) o h2) (hc w (Below.refl _ _))
          refine wpOp_mono (fun a' w'' => ?_) h9
          rintro ⟨a1, rfl, hext, hc'⟩
          refine ⟨hS _ _ hext hs, ih S (listed.setIfInBounds i true) cs' R D _ a1 w'' hS hS0 (by simpa using hls) (fun j hj h0 => by rw [gs _ _ _ hls hlt, hl0 j hj h0]; simp) hp (fun c hc => hcs c (by simp [hc])) (k6.congr (fun j => Iff.rfl) (fun j hj => (gs _ _ _ hls hlt).symm)) (fun f hf' => ?_) ⟨fun p hp' => ?_, hD.2⟩ (Nat.le_trans hB hext.size) (fun q hq => ?_) (hS _ _ hext hs) hc' (by simp at hf ⊢; omega)⟩
          · rw [gs _ _ _ hls hlt, hR f hf']
            have : f.i ≠ i := fun e => k3 ⟨f, hf', e⟩
            simp [this]
          · obtain ⟨a1, a2, a3⟩ := hD.1 p hp'
            refine ⟨a1, a2.blw hext, fun q hq => ?_⟩
            rcases List.mem_cons.1 hq with rfl | hq
            · exact .inl a2.lt
            · exact a3 q hq
          · rcases List.mem_cons.1 hq with rfl | hq
            · exact Nat.le_refl _
            · exact Nat.le_trans (hN q hq) hext.size
/-! ### By Bools -/
def ordB2 (ops : Array Oper) (F : List Nat) : List (Nat × Bool) → (Nat → Bool) → Bool
  | [], l => (List.range ops.size).all fun i => l i || F.contains i
  | (c, true) :: cs, l => decide (c < ops.size) && !l c && !F.contains c && (match ops[c]? with
      | some o => o.after.all (fun e => !Region.binds .any e || (l e.on && decide (e.on < ops.size))) && (List.range ops.size).all fun j => l j || j == c || match ops[j]? with
        | some oj => oj.after.any (fun e => Region.binds .any e && e.on == c) || o.apart ops oj
        | none => true
      | none => true) && ordB2 ops F cs (fun i => i == c || l i)
  | (c, false) :: cs, l => decide (c < ops.size) && !l c && !F.contains c && (match ops[c]? with | some o => o.after.all (fun e => !Region.binds .any e || (l e.on && decide (e.on < ops.size))) | none => true) &&
      ((List.range ops.size).all fun i => l i || F.contains i || i == c || (match ops[i]? with | some o => o.after.any (fun e => Region.binds .any e && !l e.on && !F.contains e.on && decide (e.on < ops.size)) | none => false)) &&
      ordB2 ops F cs (fun i => i == c || l i)
theorem ordB2_spec {F : List Nat} : ∀ {cs : List (Nat × Bool)} {l : Nat → Bool}, ordB2 ops F cs l = true → Ord2 ops cs (· ∈ F) l
  | [], l, h => fun i hi => by simpa using List.all_eq_true.1 h i (List.mem_range.2 hi)
  | (c, true) :: cs, l, h => by
    simp only [ordB2, Bool.and_eq_true, decide_eq_true_eq, Bool.not_eq_true'] at h
    obtain ⟨⟨⟨⟨h1, h2⟩, h3⟩, h4⟩, h6⟩ := h
    refine ⟨h1, h2, by simpa using h3, fun o ho e he hb => ?_, fun o j oj ho hj hne hlj hno => ?_, ordB2_spec h6⟩
    · rw [ho] at h4
      simp only [Bool.and_eq_true] at h4
      have := Array.all_eq_true_iff_forall_mem.1 h4.1 e he
      simpa [hb] using this
    · rw [ho] at h4
      simp only [Bool.and_eq_true] at h4
      have := List.all_eq_true.1 h4.2 j (List.mem_range.2 (Array.getElem?_eq_some_iff.1 hj).1)
      rw [hj] at this
      simp only [hlj, Bool.false_or, Bool.or_eq_true, beq_iff_eq, hne, false_or] at this
      rcases this with h | h
      · obtain ⟨e, he, hb⟩ := Array.any_eq_true'.1 h
        simp only [Bool.and_eq_true, beq_iff_eq] at hb
        exact absurd hb.2 (hno e he hb.1)
      · exact h
  | (c, false) :: cs, l, h => by
    simp only [ordB2, Bool.and_eq_true, decide_eq_true_eq, Bool.not_eq_true'] at h
    obtain ⟨⟨⟨⟨⟨h1, h2⟩, h3⟩, h4⟩, h5⟩, h6⟩ := h
    refine ⟨h1, h2, by simpa using h3, fun o ho e he hb => ?_, fun i hi => ?_, ordB2_spec h6⟩
    · rw [ho] at h4
      have := Array.all_eq_true_iff_forall_mem.1 h4 e he
      simpa [hb] using this
    · have := List.all_eq_true.1 h5 i (List.mem_range.2 hi)
      simp only [Bool.or_eq_true, beq_iff_eq] at this
      rcases this with ((a | a) | a) | a
      · exact .inl a
      · exact .inr (.inl (by simpa using a))
      · exact .inr (.inr (.inl a))
      · cases ho : ops[i]? with
        | none => rw [ho] at a; cases a
        | some o =>
          rw [ho] at a
          obtain ⟨e, he, hb⟩ := Array.any_eq_true'.1 a
          simp only [Bool.and_eq_true, Bool.not_eq_true', decide_eq_true_eq] at hb
          exact .inr (.inr (.inr ⟨o, e, rfl, he, hb.1.1.1, hb.1.1.2, by simpa using hb.1.2, hb.2⟩))
def checkB2 (ops : Array Oper) (listed : Array Bool) (Cs : List (Nat × Bool)) (F : List (Nat × Tmp × TypeId)) : Bool :=
  Region.noSelect ops && decide (listed.size = ops.size) && F.all (fun f => flB ops (fun i => listed.getD i true) f.1 f.2.1 f.2.2 && apB ops (Cs.map (·.1)) f.2.1 && !listed.getD f.1 true) && decide (F.map (·.1)).Nodup && decide (F.map (·.2.1)).Nodup && ordB2 ops (F.map (·.1)) Cs (fun i => listed.getD i true)
theorem chain2_begin {S : World → Prop} (hS : ∀ w w', Ext w w' → S w → S w') (Cs : List (Nat × Bool)) (F : List Fl) {listed : Array Bool} {fuel : Nat} {a : Act} {w : World} {K : List (Nat × Nat) → Act → World → Prop} {B : Nat}
    (hb : checkB2 ops listed Cs (keys F) = true) (hfu : Cs.length + F.length ≤ fuel) (hpan : Pan Q)
    (hz : ∀ f ∈ F, Zero P f.ty f.z) (hs : S w)
    (hK : ∀ N a w D, D.map (·.1) = F → FlOk B w N D → S w → K N a w → Q .normal (puts D a) w) (hB : B ≤ w.heap.size) (h : wpChain2 P ops Q K Cs [] a w) : wpAnyH P .any ops Q S fuel listed a w := by
  simp only [checkB2, Bool.and_eq_true, decide_eq_true_eq] at hb
  obtain ⟨⟨⟨⟨⟨h1, h2⟩, h3⟩, h4⟩, h5⟩, h6⟩ := hb
  have hk1 : (keys F).map (·.1) = F.map (·.i) := by simp [keys, Function.comp_def]
  have hk2 : (keys F).map (·.2.1) = F.map (·.d) := by simp [keys, Function.comp_def]
  rw [hk1] at h4 h6
  rw [hk2] at h5
  have h3' : ∀ f ∈ F, (flB ops (fun i => listed.getD i true) f.i f.d f.ty && apB ops (Cs.map (·.1)) f.d && !listed.getD f.i true) = true := fun f hf => List.all_eq_true.1 h3 (f.i, f.d, f.ty) (List.mem_map.2 ⟨f, hf, rfl⟩)
  have hord := ordB2_spec h6
  have C : ChainOk P ops Q (Cs.map (·.1)) F (fun i => listed.getD i true) := {
    sel := Region.noSelect_spec h1
    pan := fun d ch a w v h => (hpan (some d) v ch a w).2 h
    fup := fun f hf => by
      have := h3' f hf
      simp only [Bool.and_eq_true, flB] at this
      obtain ⟨⟨g, _⟩, _⟩ := this
      cases ho : ops[f.i]? with
      | none => rw [ho] at g; cases g
      | some o =>
        rw [ho] at g
        simp only [Bool.and_eq_true, beq_iff_eq, Option.isNone_iff_eq_none] at g
        obtain ⟨⟨⟨g1, g2⟩, g3⟩, g4⟩ := g
        refine ⟨(Array.getElem?_eq_some_iff.1 ho).1, o, rfl, g1, g2, fun ρ w => hz f hf ρ o w ?_, fun e he hb => ?_⟩
        · cases hop : o.op <;> rw [hop] at g3 <;> first | (cases g3; done) | (simp only [beq_iff_eq] at g3; rw [g3])
        · have := Array.all_eq_true_iff_forall_mem.1 g4 e he
          simpa [hb] using this
    fnd := h4
    dnd := h5
    ap := fun f hf c hc o ho => by
      have := h3' f hf
      simp only [Bool.and_eq_true, apB] at this
      have := List.all_eq_true.1 this.1.2 c hc
      rw [ho] at this
      simpa using this }
  exact chain2_any C hpan hK fuel S listed Cs F [] [] a w hS (fun _ h => h) h2 (fun i hi h => h) (by simp) (fun c hc => List.mem_map.2 ⟨c, hc, rfl⟩) (hord.congr (fun i => by simp) (fun i _ => rfl)) (fun f hf => by
    have := h3' f hf
    simp only [Bool.and_eq_true, Bool.not_eq_true'] at this
    exact this.2) ⟨fun p hp => (by cases hp), by simp⟩ hB (fun q hq => by cases hq) hs h hfu
end
end Go.Proofs.Ytckiagbllkdfdaa
