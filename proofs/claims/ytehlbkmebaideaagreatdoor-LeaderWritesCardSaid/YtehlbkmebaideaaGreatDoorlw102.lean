/-
  Part 2 of the proof of leaderWrites_holds: declarations of several texts, in build order. No condition on a program.
-/
import Derived.Test.YtehlbkmebaideaaGreatDoorlw101
import Derived.ProofKit
import Derived.Deep.Slices
import Derived.Carry
import Derived.Laws.Strings
import Derived.Lib.ItoaLen
import Derived.IntWalk
import Derived.MapKept
import Derived.Lib.AppendZerosOnto
import Derived.Laws.OwnMore
namespace Go.Proofs.YtehlbkmebaideaaGreatDoor
set_option linter.all false
set_option linter.unusedVariables false
set_option linter.unusedSimpArgs false
open Go.RowKit
section
variable {P : Program} {ops : Array Oper} {Q : Exit → Act → World → Prop}
def Ord2 (ops : Array Oper) : List (Nat × Bool) → (Nat → Prop) → (Nat → Bool) → Prop
  | [], F, l => ∀ i, i < ops.size → l i = true ∨ F i
  | (c, true) :: cs, F, l => c < ops.size ∧ l c = false ∧ ¬ F c ∧ (∀ o, ops[c]? = some o → ∀ e ∈ o.after, Region.binds .any e = true → l e.on = true ∧ e.on < ops.size) ∧
      (∀ o j oj, ops[c]? = some o → ops[j]? = some oj → j ≠ c → l j = false → (∀ e ∈ oj.after, Region.binds .any e = true → e.on ≠ c) → o.apart ops oj = true) ∧ Ord2 ops cs F (fun i => i == c || l i)
  | (c, false) :: cs, F, l => c < ops.size ∧ l c = false ∧ ¬ F c ∧ (∀ o, ops[c]? = some o → ∀ e ∈ o.after, Region.binds .any e = true → l e.on = true ∧ e.on < ops.size) ∧
      (∀ i, i < ops.size → l i = true ∨ F i ∨ i = c ∨ ∃ o e, ops[i]? = some o ∧ e ∈ o.after ∧ Region.binds .any e = true ∧ l e.on = false ∧ ¬ F e.on ∧ e.on < ops.size) ∧ Ord2 ops cs F (fun i => i == c || l i)
theorem Ord2.congr {cs : List (Nat × Bool)} : ∀ {F F' : Nat → Prop} {l l' : Nat → Bool}, (∀ i, F i ↔ F' i) → (∀ i, i < ops.size → l i = l' i) → Ord2 ops cs F l → Ord2 ops cs F' l' := by
  induction cs with
  | nil => intro F F' l l' hF hl h i hi; rw [← hl i hi, ← hF]; exact h i hi
  | cons c cs ih =>
    obtain ⟨c, b⟩ := c
    cases b
    · rintro F F' l l' hF hl ⟨h1, h2, h3, h4, h5, h6⟩
      refine ⟨h1, by rw [← hl c h1]; exact h2, by rw [← hF]; exact h3, fun o ho e he hb => ?_, fun i hi => ?_, ih hF (fun i hi => by rw [hl i hi]) h6⟩
      · obtain ⟨a1, a2⟩ := h4 o ho e he hb
        exact ⟨by rw [← hl _ a2]; exact a1, a2⟩
      · rw [← hl i hi, ← hF]
        rcases h5 i hi with a | a | a | ⟨o, e, b1, b2, b3, b4, b5, b6⟩
        · exact .inl a
        · exact .inr (.inl a)
        · exact .inr (.inr (.inl a))
        · exact .inr (.inr (.inr ⟨o, e, b1, b2, b3, by rw [← hl _ b6]; exact b4, by rw [← hF]; exact b5, b6⟩))
    · rintro F F' l l' hF hl ⟨h1, h2, h3, h4, h5, h6⟩
      refine ⟨h1, by rw [← hl c h1]; exact h2, by rw [← hF]; exact h3, fun o ho e he hb => ?_, fun o j oj ho hj hne hlj hno => ?_, ih hF (fun i hi => by rw [hl i hi]) h6⟩
      · obtain ⟨a1, a2⟩ := h4 o ho e he hb
        exact ⟨by rw [← hl _ a2]; exact a1, a2⟩
      · exact h5 o j oj ho hj hne (by rw [hl j (Array.getElem?_eq_some_iff.1 hj).1]; exact hlj) hno
theorem Ord2.float {f : Nat} {cs : List (Nat × Bool)} : ∀ {F : Nat → Prop} {l : Nat → Bool}, F f → Ord2 ops cs F l → Ord2 ops cs (fun i => F i ∧ i ≠ f) (fun i => i == f || l i) := by
  induction cs with
  | nil =>
    intro F l hf h i hi
    by_cases hif : i = f
    · simp [hif]
    · rcases h i hi with a | a
      · simp [a]
      · exact .inr ⟨a, hif⟩
  | cons c cs ih =>
    obtain ⟨c, b⟩ := c
    cases b
    · rintro F l hf ⟨h1, h2, h3, h4, h5, h6⟩
      have hcf : c ≠ f := fun e => h3 (e ▸ hf)
      refine ⟨h1, by simp [h2, hcf], fun h => h3 h.1, fun o ho e he hb => ?_, fun i hi => ?_, ?_⟩
      · obtain ⟨a1, a2⟩ := h4 o ho e he hb
        exact ⟨by simp [a1], a2⟩
      · by_cases hif : i = f
        · simp [hif]
        rcases h5 i hi with a | a | a | ⟨o, e, b1, b2, b3, b4, b5, b6⟩
        · simp [a]
        · exact .inr (.inl ⟨a, hif⟩)
        · exact .inr (.inr (.inl a))
        · have hef : e.on ≠ f := fun h => b5 (h ▸ hf)
          exact .inr (.inr (.inr ⟨o, e, b1, b2, b3, by simp [b4, hef], fun h => b5 h.1, b6⟩))
      · exact (ih hf h6).congr (fun i => Iff.rfl) (fun i _ => by show (i == f || (i == c || l i)) = (i == c || (i == f || l i)); cases l i <;> cases (i == f) <;> cases (i == c) <;> rfl)
    · rintro F l hf ⟨h1, h2, h3, h4, h5, h6⟩
      have hcf : c ≠ f := fun e => h3 (e ▸ hf)
      refine ⟨h1, by simp [h2, hcf], fun h => h3 h.1, fun o ho e he hb => ?_, fun o j oj ho hj hne hlj hno => ?_, ?_⟩
      · obtain ⟨a1, a2⟩ := h4 o ho e he hb
        exact ⟨by simp [a1], a2⟩
      · simp only [Bool.or_eq_false_iff] at hlj
        exact h5 o j oj ho hj hne hlj.2 hno
      · exact (ih hf h6).congr (fun i => Iff.rfl) (fun i _ => by show (i == f || (i == c || l i)) = (i == c || (i == f || l i)); cases l i <;> cases (i == f) <;> cases (i == c) <;> rfl)
def wpChain2 (P : Program) (ops : Array Oper) (Q : Exit → Act → World → Prop) (K : List (Nat × Nat) → Act → World → Prop) : List (Nat × Bool) → List (Nat × Nat) → Act → World → Prop
  | [], N, a, w => ∀ w', Ext w w' → K N a w'
  | (c, true) :: cs, N, a, w => ∀ w', Ext w w' → ∀ o, ops[c]? = some o → ∃ v, YieldsIf P ops (fun w3 => Ext w' w3) o v a ∧ wpChain2 P ops Q K cs N (a.put o.dst v) w'
  | (c, false) :: cs, N, a, w => ∀ w', Ext w w' → wpOp P ops Q c (fun a' w'' => Ext w' w'' ∧ wpChain2 P ops Q K cs ((w'.heap.size, w''.heap.size) :: N) a' w'') a w'
theorem wpChain2_ext {K : List (Nat × Nat) → Act → World → Prop} {cs : List (Nat × Bool)} {N : List (Nat × Nat)} {a : Act} {w w1 : World} (h : wpChain2 P ops Q K cs N a w) (he : Ext w w1) : wpChain2 P ops Q K cs N a w1 := by
  match cs, h with
  | [], h => exact fun w' h' => h w' (Ext.trans he h')
  | (c, true) :: cs, h => exact fun w' h' => h w' (Ext.trans he h')
  | (c, false) :: cs, h => exact fun w' h' => h w' (Ext.trans he h')
theorem wpAnyH_mono {md : Region.Mode} {S S' : World → Prop} (h : ∀ w, S' w → S w) : ∀ (fuel : Nat) (listed : Array Bool) (a : Act) (w : World), wpAnyH P md ops Q S' fuel listed a w → wpAnyH P md ops Q S fuel listed a w
  | 0, _, _, _, hh => hh
  | fuel + 1, _, _, _, hh => ⟨hh.1, fun i hi => wpOp_mono (fun a' w' h' => ⟨h _ h'.1, wpAnyH_mono h fuel _ a' w' h'.2⟩) (hh.2 i hi)⟩
theorem YieldsIf.puts {S : World → Prop} {o : Oper} {v : Value} (hs : ∀ cs b, o.op ≠ .select cs b) : ∀ (D : List (Fl × Nat)) (a : Act), (∀ p ∈ D, p.1.d ∉ o.looksAt ops ∧ o.dst ≠ some p.1.d) → YieldsIf P ops S o v a → YieldsIf P ops S o v (puts D a) ∧ (puts D a).put o.dst v = puts D (a.put o.dst v)
  | [], a, _, h => ⟨h, rfl⟩
  | p :: D, a, hp, h => by
    have h1 : ∀ d', some p.1.d = some d' → d' ∉ o.looksAt ops := fun d' e => by cases e; exact (hp p (by simp)).1
    have h2 := YieldsIf.puts hs D (a.put (some p.1.d) (.pointer (some ⟨p.2, 0, none⟩))) (fun q hq => hp q (by simp [hq])) (h.of_same (execOp_put o hs a _ _ h1) (wanted_put o a _ _ h1))
    refine ⟨h2.1, ?_⟩
    show (Go.Proofs.YtehlbkmebaideaaGreatDoor.puts D (a.put (some p.1.d) (.pointer (some ⟨p.2, 0, none⟩)))).put o.dst v = _
    rw [h2.2]
    show _ = Go.Proofs.YtehlbkmebaideaaGreatDoor.puts D ((a.put o.dst v).put (some p.1.d) (.pointer (some ⟨p.2, 0, none⟩)))
    rw [Act.put_comm a _ _ (fun d e => by cases e; exact (hp p (by simp)).2)]
theorem chain2_any {S0 : World → Prop} {Cs : List Nat} {F : List Fl} {l0 : Nat → Bool} (C : ChainOk P ops Q Cs F l0) (hpan : Pan Q) {B : Nat} {K : List (Nat × Nat) → Act → World → Prop}
    (hK : ∀ N a w D, D.map (·.1) = F → FlOk B w N D → S0 w → K N a w → Q .normal (puts D a) w) :
    ∀ (fuel : Nat) (S : World → Prop) (listed : Array Bool) (cs : List (Nat × Bool)) (R : List Fl) (D : List (Fl × Nat)) (N : List (Nat × Nat)) (a : Act) (w : World), (∀ w w', Ext w w' → S w → S w') → (∀ w, S w → S0 w) →
      listed.size = ops.size → (∀ i, i < ops.size → l0 i = true → listed.getD i true = true) → (D.map (·.1) ++ R).Perm F → (∀ c ∈ cs, c.1 ∈ Cs) → Ord2 ops cs (fun i => ∃ f ∈ R, f.i = i) (fun i => listed.getD i true) → (∀ f ∈ R, listed.getD f.i true = false) →
      FlOk B w N D → B ≤ w.heap.size → (∀ q ∈ N, q.2 ≤ w.heap.size) → S w → wpChain2 P ops Q K cs N a w → cs.length + R.length ≤ fuel → wpAnyH P .any ops Q S fuel listed (puts D a) w := by
  intro fuel
  have gf : ∀ (l : Array Bool) (i : Nat), l.size = ops.size → i < ops.size → l.getD i false = l.getD i true := fun l i hl hi => by simp [Array.getD, hl, hi]
  have gs : ∀ (l : Array Bool) (i j : Nat), l.size = ops.size → i < ops.size → (l.setIfInBounds i true).getD j true = (j == i || l.getD j true) := fun l i j hl hi => by
    by_cases hij : j = i
    · subst hij; simp [Array.getD, hl, hi]
    · have : (l.setIfInBounds i true)[j]? = l[j]? := Array.getElem?_setIfInBounds_ne (Ne.symm hij)
      simp only [Array.getD_eq_getD_getElem?, this]
      simp [hij]
  have hdn : ∀ D : List (Fl × Nat), (D.map (·.1)).Perm F → (D.map (·.1.d)).Nodup := fun D h => by
    have := ((h.map (·.d)).nodup_iff).2 C.dnd
    rw [List.map_map] at this
    exact this
  induction fuel with
  | zero =>
    intro S listed cs R D N a w hS hS0 hls hl0 hp hcs ho hR hD hB hN hs hc hf
    obtain rfl : cs = [] := List.eq_nil_of_length_eq_zero (by omega)
    obtain rfl : R = [] := List.eq_nil_of_length_eq_zero (by omega)
    obtain ⟨D', p1, p2⟩ := perm_map_lift (f := (·.1)) (by simpa using hp) D rfl
    refine ⟨?_, ?_⟩
    · apply List.eq_nil_iff_forall_not_mem.2
      intro i hi
      obtain ⟨h1, o, h2, _⟩ := mem_ready.1 hi
      have := ho i (Array.getElem?_eq_some_iff.1 h2).1
      simp [h1] at this
    · rw [puts_perm p1 (hdn D (by simpa using hp))]
      exact hK N a w D' p2 ⟨fun p hp' => hD.1 p (p1.mem_iff.2 hp'), ((p1.map _).nodup_iff).1 hD.2⟩ (hS0 _ hs) (hc w (Below.refl _ _))
  | succ fuel ih =>
    intro S listed cs R D N a w hS hS0 hls hl0 hp hcs ho hR hD hB hN hs hc hf
    have hRF : ∀ f ∈ R, f ∈ F := fun f hf => hp.mem_iff.1 (by simp [hf])
    have hDF : ∀ p ∈ D, p.1 ∈ F := fun p hp' => hp.mem_iff.1 (by simp; exact .inl ⟨p.2, hp'⟩)
    by_cases hpure : ∃ c cs', cs = (c, true) :: cs'
    · -- a quiet one is taken
      obtain ⟨c, cs', rfl⟩ := hpure
      obtain ⟨k1, k2, k3, k4, k5, k6⟩ := ho
      have hoc : ops[c]? = some ops[c] := Array.getElem?_eq_getElem k1
      obtain ⟨v, hy, hc'⟩ := hc w (Below.refl _ _) _ hoc
      refine wpAnyH_mono (S' := fun w3 => S w3 ∧ Ext w w3) (fun _ h => h.1) _ _ _ _ ?_
      have hsel := fun cs b => C.sel c ops[c] cs b hoc
      obtain ⟨hy1, hy2⟩ := YieldsIf.puts (S := fun w3 => S w3 ∧ Ext w w3) hsel D a (fun p hp' => C.ap p.1 (hDF p hp') c (hcs (c, true) (by simp)) _ hoc) (hy.imp (fun ⟨h1, h2⟩ => ⟨h1, fun w3 h3 => h2 w3 h3.2⟩) id)
      refine wpAnyH_first hoc (fun j o cs b hj => C.sel j o cs b hj) (fun ch a' w' h => (hpan _ v ch a' w').1 h) fuel listed (puts D a) w (fun j oj hj hne hlj hno => k5 _ j oj hoc hj hne hlj hno) (mem_ready.2 ⟨k2, _, hoc, fun e he hb => by
        obtain ⟨a1, a2⟩ := k4 _ hoc e he hb
        rw [gf _ _ hls a2]; exact a1⟩) hy1 ⟨hs, Below.refl _ _⟩ ?_
      rw [hy2]
      refine ih (fun w3 => S w3 ∧ Ext w w3) (listed.setIfInBounds c true) cs' R D N _ w (fun x y he h => ⟨hS x y he h.1, Ext.trans h.2 he⟩) (fun x h => hS0 x h.1) (by simpa using hls) (fun j hj h0 => by rw [gs _ _ _ hls k1, hl0 j hj h0]; simp) hp (fun q hq => hcs q (by simp [hq])) (k6.congr (fun j => Iff.rfl) (fun j hj => (gs _ _ _ hls k1).symm)) (fun f hf' => ?_) hD hB hN ⟨hs, Below.refl _ _⟩ hc' (by simp at hf ⊢; omega)
      rw [gs _ _ _ hls k1, hR f hf']
      have : f.i ≠ c := fun e => k3 ⟨f, hf', e⟩
      simp [this]
    have hRr : ∀ f ∈ R, f.i ∈ Region.ready .any ops listed := fun f hf => by
      obtain ⟨h1, o, h2, h3, h4, h5, h6⟩ := C.fup f (hRF f hf)
      exact mem_ready.2 ⟨hR f hf, o, h2, fun e he hb => by
        obtain ⟨a1, a2⟩ := h6 e he hb
        rw [gf _ _ hls a2]; exact hl0 _ a2 a1⟩
    have hcr : ∀ c cs', cs = (c, false) :: cs' → c ∈ Region.ready .any ops listed := fun c cs' e => by
      subst e
      obtain ⟨h1, h2, h3, h4, _⟩ := ho
      exact mem_ready.2 ⟨h2, ops[c], Array.getElem?_eq_getElem h1, fun e he hb => by
        obtain ⟨a1, a2⟩ := h4 _ (Array.getElem?_eq_getElem h1) e he hb
        rw [gf _ _ hls a2]; exact a1⟩
    have hcs2 : cs = [] ∨ ∃ c cs', cs = (c, false) :: cs' := by
      match cs, hpure with
      | [], _ => exact .inl rfl
      | (c, false) :: cs', _ => exact .inr ⟨c, cs', rfl⟩
      | (c, true) :: cs', hn => exact absurd ⟨c, cs', rfl⟩ hn
    refine ⟨fun h0 => ?_, fun i hi => ?_⟩
    · rcases hcs2 with rfl | ⟨c, cs', rfl⟩
      · cases R with
        | cons f R => have := hRr f (by simp); rw [h0] at this; cases this
        | nil =>
          obtain ⟨D', p1, p2⟩ := perm_map_lift (f := (·.1)) (by simpa using hp) D rfl
          rw [puts_perm p1 (hdn D (by simpa using hp))]
          exact hK N a w D' p2 ⟨fun p hp' => hD.1 p (p1.mem_iff.2 hp'), ((p1.map _).nodup_iff).1 hD.2⟩ (hS0 _ hs) (hc w (Below.refl _ _))
      · have := hcr c cs' rfl; rw [h0] at this; cases this
    · obtain ⟨h1, o, h2, h3⟩ := mem_ready.1 hi
      have hlt := (Array.getElem?_eq_some_iff.1 h2).1
      by_cases hfl : ∃ f ∈ R, f.i = i
      · obtain ⟨f, hfR, rfl⟩ := hfl
        obtain ⟨g1, o', g2, g3, g4, g5, g6⟩ := C.fup f (hRF f hfR)
        obtain rfl : o = o' := by rw [h2] at g2; injection g2
        obtain ⟨R1, R2, rfl⟩ := List.append_of_mem hfR
        unfold wpOp
        simp only [h2, Region.wanted, g4, if_true]
        refine .inl ?_
        unfold Oper.wp
        rw [g5]
        simp only [Oper.upon, g3]
        have hext : Ext w (w.alloc (.cells f.z f.ty)) := (Below.refl _ _).alloc (Nat.le_refl _) _
        have hnd : (F.map (·.i)).Nodup := C.fnd
        have hndR : ((D.map (·.1) ++ (R1 ++ f :: R2)).map (·.i)).Nodup := (hp.map _).nodup_iff.2 hnd
        have key : ((puts D a).put (some f.d) (.pointer (some ⟨w.heap.size, 0, none⟩))) = puts (D ++ [(f, w.heap.size)]) a := by simp [puts]
        refine ⟨hS _ _ hext hs, ?_⟩
        rw [key]
        have hne : ∀ g ∈ R1 ++ R2, g.i ≠ f.i := fun g hg he => by
          simp only [List.map_append, List.map_cons] at hndR
          have h9 := (List.nodup_append.1 hndR).2.1
          have h10 := (List.perm_middle.nodup_iff.1 h9)
          simp only [List.nodup_cons] at h10
          exact h10.1 (by rw [← he, ← List.map_append]; exact List.mem_map.2 ⟨g, hg, rfl⟩)
        refine ih S (listed.setIfInBounds f.i true) cs (R1 ++ R2) (D ++ [(f, w.heap.size)]) N a _ hS hS0 (by simpa using hls) (fun j hj h0 => by rw [gs _ _ _ hls g1, hl0 j hj h0]; simp) ?_ hcs ?_ (fun g hg => ?_) ⟨fun p hp' => ?_, ?_⟩ (by simp; omega) (fun q hq => by have := hN q hq; simp; omega) (hS _ _ hext hs) (wpChain2_ext hc hext) (by simp at hf ⊢; omega)
        · refine List.Perm.trans ?_ hp
          simp only [List.map_append, List.map_cons, List.map_nil, List.append_assoc, List.singleton_append]
          exact List.Perm.append_left _ List.perm_middle.symm
        · refine (Ord2.float (f := f.i) ⟨f, hfR, rfl⟩ ho).congr (fun j => ?_) (fun j hj => (gs _ _ _ hls g1).symm)
          constructor
          · rintro ⟨⟨g, hg, rfl⟩, hn⟩
            refine ⟨g, ?_, rfl⟩
            simp only [List.mem_append, List.mem_cons] at hg ⊢
            rcases hg with a | rfl | a
            · exact .inl a
            · exact absurd rfl hn
            · exact .inr a
          · rintro ⟨g, hg, rfl⟩
            exact ⟨⟨g, by simp only [List.mem_append, List.mem_cons] at hg ⊢; rcases hg with a | a <;> simp [a], rfl⟩, hne g hg⟩
        · rw [gs _ _ _ hls g1, hR g (by simp only [List.mem_append, List.mem_cons] at hg ⊢; rcases hg with a | a <;> simp [a])]
          simp [hne g hg]
        · rcases List.mem_append.1 hp' with hp' | hp'
          · obtain ⟨a1, a2, a3⟩ := hD.1 p hp'
            exact ⟨a1, a2.alloc _, a3⟩
          · simp only [List.mem_singleton] at hp'
            subst hp'
            exact ⟨hB, Blk.new _ _ _, fun q hq => .inr (hN q hq)⟩
        · simp only [List.map_append, List.map_cons, List.map_nil]
          refine List.nodup_append.2 ⟨hD.2, by simp, fun x hx y hy => ?_⟩
          simp only [List.mem_singleton] at hy
          subst hy
          obtain ⟨p, hp', rfl⟩ := List.mem_map.1 hx
          have := (hD.1 p hp').2.1.lt
          omega
      · rcases hcs2 with rfl | ⟨c, cs', rfl⟩
        · rcases ho i hlt with h9 | h9
          · have h9' : listed.getD i true = true := h9
            rw [h1] at h9'; cases h9'
          · exact absurd h9 hfl
        · obtain ⟨k1, k2, k3, k4, k5, k6⟩ := ho
          have hic : i = c := by
            rcases k5 i hlt with h9 | h9 | h9 | ⟨o', e, b1, b2, b3, b4, b5, b6⟩
            · have h9' : listed.getD i true = true := h9
              rw [h1] at h9'; cases h9'
            · exact absurd h9 hfl
            · exact h9
            · obtain rfl : o = o' := by rw [h2] at b1; injection b1
              have := h3 e b2 b3
              have b4' : listed.getD e.on true = false := b4
              rw [gf _ _ hls b6, b4'] at this; cases this
          subst hic
          have h9 := wpOp_puts (K := fun a' w'' => Ext w w'' ∧ wpChain2 P ops Q K cs' ((w.heap.size, w''.heap.size) :: N) a' w'') h2 (fun cs b => C.sel i o cs b h2) C.pan D a w (fun p hp' => C.ap p.1 (hDF p hp') i (hcs (i, false) (by simp)) o h2) (hc w (Below.refl _ _))
          refine wpOp_mono (fun a' w'' => ?_) h9
          rintro ⟨a1, rfl, hext, hc'⟩
          refine ⟨hS _ _ hext hs, ih S (listed.setIfInBounds i true) cs' R D _ a1 w'' hS hS0 (by simpa using hls) (fun j hj h0 => by rw [gs _ _ _ hls hlt, hl0 j hj h0]; simp) hp (fun c hc => hcs c (by simp [hc])) (k6.congr (fun j => Iff.rfl) (fun j hj => (gs _ _ _ hls hlt).symm)) (fun f hf' => ?_) ⟨fun p hp' => ?_, hD.2⟩ (Nat.le_trans hB hext.size) (fun q hq => ?_) (hS _ _ hext hs) hc' (by simp at hf ⊢; omega)⟩
          · rw [gs _ _ _ hls hlt, hR f hf']
            have : f.i ≠ i := fun e => k3 ⟨f, hf', e⟩
            simp [this]
          · obtain ⟨a1, a2, a3⟩ := hD.1 p hp'
            refine ⟨a1, a2.blw hext, fun q hq => ?_⟩
            rcases List.mem_cons.1 hq with rfl | hq
            · exact .inl a2.lt
            · exact a3 q hq
          · rcases List.mem_cons.1 hq with rfl | hq
            · exact Nat.le_refl _
            · exact Nat.le_trans (hN q hq) hext.size
def ordB2 (ops : Array Oper) (F : List Nat) : List (Nat × Bool) → (Nat → Bool) → Bool
  | [], l => (List.range ops.size).all fun i => l i || F.contains i
  | (c, true) :: cs, l => decide (c < ops.size) && !l c && !F.contains c && (match ops[c]? with
      | some o => o.after.all (fun e => !Region.binds .any e || (l e.on && decide (e.on < ops.size))) && (List.range ops.size).all fun j => l j || j == c || match ops[j]? with
        | some oj => oj.after.any (fun e => Region.binds .any e && e.on == c) || o.apart ops oj
        | none => true
      | none => true) && ordB2 ops F cs (fun i => i == c || l i)
  | (c, false) :: cs, l => decide (c < ops.size) && !l c && !F.contains c && (match ops[c]? with | some o => o.after.all (fun e => !Region.binds .any e || (l e.on && decide (e.on < ops.size))) | none => true) &&
      ((List.range ops.size).all fun i => l i || F.contains i || i == c || (match ops[i]? with | some o => o.after.any (fun e => Region.binds .any e && !l e.on && !F.contains e.on && decide (e.on < ops.size)) | none => false)) &&
      ordB2 ops F cs (fun i => i == c || l i)
theorem ordB2_spec {F : List Nat} : ∀ {cs : List (Nat × Bool)} {l : Nat → Bool}, ordB2 ops F cs l = true → Ord2 ops cs (· ∈ F) l
  | [], l, h => fun i hi => by simpa using List.all_eq_true.1 h i (List.mem_range.2 hi)
  | (c, true) :: cs, l, h => by
    simp only [ordB2, Bool.and_eq_true, decide_eq_true_eq, Bool.not_eq_true'] at h
    obtain ⟨⟨⟨⟨h1, h2⟩, h3⟩, h4⟩, h6⟩ := h
    refine ⟨h1, h2, by simpa using h3, fun o ho e he hb => ?_, fun o j oj ho hj hne hlj hno => ?_, ordB2_spec h6⟩
    · rw [ho] at h4
      simp only [Bool.and_eq_true] at h4
      have := Array.all_eq_true_iff_forall_mem.1 h4.1 e he
      simpa [hb] using this
    · rw [ho] at h4
      simp only [Bool.and_eq_true] at h4
      have := List.all_eq_true.1 h4.2 j (List.mem_range.2 (Array.getElem?_eq_some_iff.1 hj).1)
      rw [hj] at this
      simp only [hlj, Bool.false_or, Bool.or_eq_true, beq_iff_eq, hne, false_or] at this
      rcases this with h | h
      · obtain ⟨e, he, hb⟩ := Array.any_eq_true'.1 h
        simp only [Bool.and_eq_true, beq_iff_eq] at hb
        exact absurd hb.2 (hno e he hb.1)
      · exact h
  | (c, false) :: cs, l, h => by
    simp only [ordB2, Bool.and_eq_true, decide_eq_true_eq, Bool.not_eq_true'] at h
    obtain ⟨⟨⟨⟨⟨h1, h2⟩, h3⟩, h4⟩, h5⟩, h6⟩ := h
    refine ⟨h1, h2, by simpa using h3, fun o ho e he hb => ?_, fun i hi => ?_, ordB2_spec h6⟩
    · rw [ho] at h4
      have := Array.all_eq_true_iff_forall_mem.1 h4 e he
      simpa [hb] using this
    · have := List.all_eq_true.1 h5 i (List.mem_range.2 hi)
      simp only [Bool.or_eq_true, beq_iff_eq] at this
      rcases this with ((a | a) | a) | a
      · exact .inl a
      · exact .inr (.inl (by simpa using a))
      · exact .inr (.inr (.inl a))
      · cases ho : ops[i]? with
        | none => rw [ho] at a; cases a
        | some o =>
          rw [ho] at a
          obtain ⟨e, he, hb⟩ := Array.any_eq_true'.1 a
          simp only [Bool.and_eq_true, Bool.not_eq_true', decide_eq_true_eq] at hb
          exact .inr (.inr (.inr ⟨o, e, rfl, he, hb.1.1.1, hb.1.1.2, by simpa using hb.1.2, hb.2⟩))
def checkB2 (ops : Array Oper) (listed : Array Bool) (Cs : List (Nat × Bool)) (F : List (Nat × Tmp × TypeId)) : Bool :=
  Region.noSelect ops && decide (listed.size = ops.size) && F.all (fun f => flB ops (fun i => listed.getD i true) f.1 f.2.1 f.2.2 && apB ops (Cs.map (·.1)) f.2.1 && !listed.getD f.1 true) && decide (F.map (·.1)).Nodup && decide (F.map (·.2.1)).Nodup && ordB2 ops (F.map (·.1)) Cs (fun i => listed.getD i true)
theorem chain2_begin {S : World → Prop} (hS : ∀ w w', Ext w w' → S w → S w') (Cs : List (Nat × Bool)) (F : List Fl) {listed : Array Bool} {fuel : Nat} {a : Act} {w : World} {K : List (Nat × Nat) → Act → World → Prop} {B : Nat}
    (hb : checkB2 ops listed Cs (keys F) = true) (hfu : Cs.length + F.length ≤ fuel) (hpan : Pan Q)
    (hz : ∀ f ∈ F, Zero P f.ty f.z) (hs : S w)
    (hK : ∀ N a w D, D.map (·.1) = F → FlOk B w N D → S w → K N a w → Q .normal (puts D a) w) (hB : B ≤ w.heap.size) (h : wpChain2 P ops Q K Cs [] a w) : wpAnyH P .any ops Q S fuel listed a w := by
  simp only [checkB2, Bool.and_eq_true, decide_eq_true_eq] at hb
  obtain ⟨⟨⟨⟨⟨h1, h2⟩, h3⟩, h4⟩, h5⟩, h6⟩ := hb
  have hk1 : (keys F).map (·.1) = F.map (·.i) := by simp [keys, Function.comp_def]
  have hk2 : (keys F).map (·.2.1) = F.map (·.d) := by simp [keys, Function.comp_def]
  rw [hk1] at h4 h6
  rw [hk2] at h5
  have h3' : ∀ f ∈ F, (flB ops (fun i => listed.getD i true) f.i f.d f.ty && apB ops (Cs.map (·.1)) f.d && !listed.getD f.i true) = true := fun f hf => List.all_eq_true.1 h3 (f.i, f.d, f.ty) (List.mem_map.2 ⟨f, hf, rfl⟩)
  have hord := ordB2_spec h6
  have C : ChainOk P ops Q (Cs.map (·.1)) F (fun i => listed.getD i true) := {
    sel := Region.noSelect_spec h1
    pan := fun d ch a w v h => (hpan (some d) v ch a w).2 h
    fup := fun f hf => by
      have := h3' f hf
      simp only [Bool.and_eq_true, flB] at this
      obtain ⟨⟨g, _⟩, _⟩ := this
      cases ho : ops[f.i]? with
      | none => rw [ho] at g; cases g
      | some o =>
        rw [ho] at g
        simp only [Bool.and_eq_true, beq_iff_eq, Option.isNone_iff_eq_none] at g
        obtain ⟨⟨⟨g1, g2⟩, g3⟩, g4⟩ := g
        refine ⟨(Array.getElem?_eq_some_iff.1 ho).1, o, rfl, g1, g2, fun ρ w => hz f hf ρ o w ?_, fun e he hb => ?_⟩
        · cases hop : o.op <;> rw [hop] at g3 <;> first | (cases g3; done) | (simp only [beq_iff_eq] at g3; rw [g3])
        · have := Array.all_eq_true_iff_forall_mem.1 g4 e he
          simpa [hb] using this
    fnd := h4
    dnd := h5
    ap := fun f hf c hc o ho => by
      have := h3' f hf
      simp only [Bool.and_eq_true, apB] at this
      have := List.all_eq_true.1 this.1.2 c hc
      rw [ho] at this
      simpa using this }
  exact chain2_any C hpan hK fuel S listed Cs F [] [] a w hS (fun _ h => h) h2 (fun i hi h => h) (by simp) (fun c hc => List.mem_map.2 ⟨c, hc, rfl⟩) (hord.congr (fun i => by simp) (fun i _ => rfl)) (fun f hf => by
    have := h3' f hf
    simp only [Bool.and_eq_true, Bool.not_eq_true'] at this
    exact this.2) ⟨fun p hp => (by cases hp), by simp⟩ hB (fun q hq => by cases hq) hs h hfu
end
end Go.Proofs.YtehlbkmebaideaaGreatDoor
namespace Go.Proofs.YtehlbkmebaideaaGreatDoor
set_option linter.all false
set_option linter.unusedVariables false
set_option linter.unusedSimpArgs false
open Go.RowKit
def zipF : Nat → List Value → Fr
  | _, [] => []
  | i, v :: vs => (i, v) :: zipF (i + 1) vs
theorem zipF_get : ∀ (vs : List Value) (i t : Nat) (v : Value), fget (zipF i vs) t = some v → i ≤ t ∧ vs[t - i]? = some v
  | [], _, _, _, h => by cases h
  | u :: vs, i, t, v, h => by
    simp only [zipF, fget] at h
    cases hb : Nat.beq i t with
    | true =>
      rw [hb] at h
      have := beq_iff.1 hb
      subst this
      exact ⟨Nat.le_refl _, by simpa using h⟩
    | false =>
      rw [hb] at h
      obtain ⟨h1, h2⟩ := zipF_get vs (i + 1) t v h
      exact ⟨by omega, by rw [show t - i = (t - (i + 1)) + 1 by omega, List.getElem?_cons_succ]; exact h2⟩
theorem FS.start {n : Nat} {args : List Value} (hn : args.length ≤ n) : FS n [] (zipF 0 args) { tmps := args.toArray ++ Array.replicate (n - args.toArray.size) undef, defers := [] } := by
  refine ⟨by simp; omega, rfl, fun t v hv => ?_⟩
  obtain ⟨_, h⟩ := zipF_get args 0 t v hv
  rw [Nat.sub_zero] at h
  have hlt := (List.getElem?_eq_some_iff.1 h).1
  have h2 : args[t] = v := by rw [List.getElem?_eq_getElem hlt] at h; injection h
  simp [Array.getD_eq_getD_getElem?, Array.getElem?_append, hlt, h2]
theorem K_enter {P : Program} {f : FuncId} {fn : Func} {code : Code} {n : Nat} {args : List Value} {R : Ending → World → Prop} {w : World} {S : List Nat} {K : List Fact} (hf : P.funcs[f]? = some fn) (hb : fn.body = some code) (hn : fn.ntmps = n) (hl : Nat.ble args.length n = true) (hS : Sat S w K w)
    (h : TW ⟨P, n, [], S, w⟩ code (bodyPost P fn R) (zipF 0 args) K) : Calls P f args.toArray w R := by
  refine calls_of_wp hf hb ?_
  rw [hn]
  exact h _ _ (FS.start (Nat.le_of_ble_eq_true hl)) hS
inductive RV (c : Cx) (F : Fr) (K : List Fact) : List ResultVar → List Value → Prop
  | nil : RV c F K [] []
  | tmp {t : Nat} {v : Value} {rs : List ResultVar} {vs : List Value} : fget F t = some v → RV c F K rs vs → RV c F K (.tmp t :: rs) (v :: vs)
  | cell {t : Nat} {T : TypeId} {q : Option Addr} {v : Value} {rs : List ResultVar} {vs : List Value} : fget F t = some (.pointer q) → Sc c.P T → Cells c K q [v] → RV c F K rs vs → RV c F K (.cell t T :: rs) (v :: vs)
  | cells {t m : Nat} {T : TypeId} {q : Option Addr} {us : List Value} {rs : List ResultVar} {vs : List Value} : fget F t = some (.pointer q) → Ag c.P T m → Cells c K q us → us.length = m → RV c F K rs vs → RV c F K (.cell t T :: rs) (.agg us.toArray :: vs)
def retV : List Value → Value
  | [v] => v
  | vs => .tuple vs.toArray
def resOne (t : Array Value) : ResultVar → Sem Value
  | .tmp i => pure (t.getD i undef)
  | .cell p T => do loadVar T (← asAddr (t.getD p undef))
theorem results_eq (fn : Func) (t : Array Value) : Go.results fn t = (do let vs ← fn.results.mapM (resOne t); pure (if h : vs.size = 1 then vs[0] else .tuple vs)) := by
  unfold Go.results
  congr 2
theorem RV.run {c : Cx} {F : Fr} {K : List Fact} {rs : List ResultVar} {vs : List Value} (h : RV c F K rs vs) {a : Act} {w : World} (hF : FS c.n c.D F a) (hK : Sat c.S c.w0 K w) : (rs.mapM (resOne a.tmps)).run c.P w = .ok vs w := by
  induction h with
  | nil => rfl
  | tmp h1 _ ih => simp only [List.mapM_cons, Sem.run_bind, Sem.run_pure, Result.andThen_ok, resOne, hF.get _ _ h1, ih]
  | cell h1 h2 h3 _ ih =>
    obtain ⟨b, off, rfl, h4⟩ := h3 w hK
    have h5 := h4 0 _ rfl
    rw [Nat.add_zero] at h5
    simp only [List.mapM_cons, Sem.run_bind, Sem.run_pure, Result.andThen_ok, resOne, hF.get _ _ h1, ih, asAddr, loadVar, h2 w, Sem.run_ite, Bool.false_eq_true, if_false, run_load, h5]
  | cells h1 h2 h3 h4 _ ih =>
    obtain ⟨b, off, rfl, h5⟩ := h3 w hK
    have h6 := run_loadCells_list (P := c.P) (w := w) ⟨b, off, none⟩ _ (fun j v hv => by rw [add_plain]; exact h5 j v hv)
    rw [h4] at h6
    simp only [List.mapM_cons, Sem.run_bind, Sem.run_pure, Result.andThen_ok, resOne, hF.get _ _ h1, ih, asAddr, loadVar, h2.1 w, h2.2 w, Sem.run_ite, if_true, h6]
theorem RV.results {c : Cx} {F : Fr} {K : List Fact} {rs : List ResultVar} {vs : List Value} {fn : Func} (hr : fn.results = rs.toArray) (h : RV c F K rs vs) {a : Act} {w : World} (hF : FS c.n c.D F a) (hK : Sat c.S c.w0 K w) : (results fn a.tmps).run c.P w = .ok (retV vs) w := by
  have h1 := h.run hF hK
  rw [results_eq, hr]
  simp only [List.mapM_toArray, Sem.run_bind, Sem.run_map, h1, Result.andThen_ok, Sem.run_pure]
  match vs with
  | [] => rfl
  | [v] => rfl
  | _ :: _ :: _ => simp [retV]
section
variable {c : Cx} {Q : Exit → Act → World → Prop} {F F' : Fr} {K K' : List Fact} {ty : TypeId} {pos : String} {af : Array Edge} {g : Option (Nat × Bool)}
theorem TQ.ret {fn : Func} {R : Ending → World → Prop} {rs : List ResultVar} {vs : List Value} (hr : fn.results = rs.toArray) (hD : c.D = []) (hv : RV c F K rs vs) (h : ∀ w, Sat c.S c.w0 K w → R (.returned (retV vs)) w) : TQ c (bodyPost c.P fn R) .ret F K := fun a w hF hK =>
  ⟨hF.dfs.trans hD, _, hv.results hr hF hK, h w hK⟩
theorem TQ.end {fn : Func} {R : Ending → World → Prop} {rs : List ResultVar} {vs : List Value} (hr : fn.results = rs.toArray) (hD : c.D = []) (hv : RV c F K rs vs) (h : ∀ w, Sat c.S c.w0 K w → R (.returned (retV vs)) w) : TQ c (bodyPost c.P fn R) .normal F K := fun a w hF hK =>
  ⟨hF.dfs.trans hD, _, hv.results hr hF hK, h w hK⟩
theorem fieldAt_of {P : Program} {T : Nat} {fs : Array Field} (i o ft m : Nat) (ht : P.underlying T = some (.struct fs)) (hf : (fs[i]?).map (fun f => (f.type, f.offset)) = some (ft, o)) (hs : Sz P ft m) (hm : Nat.beq m 0 = false) : FieldAt P T i o := fun w a => by
  obtain ⟨f, hf, e⟩ := Option.map_eq_some_iff.1 hf
  injection e with e1 e2
  have hs' : Sz P f.type m := by rw [e1]; exact hs
  rw [← e2]
  clear e1 hs
  have hm : m ≠ 0 := fun e => by rw [e] at hm; cases hm
  cases hsp : a.spot with
  | some s => exact .inr rfl
  | none =>
    refine .inl ?_
    have e : a.add f.offset = ⟨a.block, a.off + f.offset, none⟩ := by
      obtain ⟨b, o, sp⟩ := a
      simp only at hsp
      subst hsp
      exact add_plain b o _
    simp [Instr.fieldAt, run_underlying ht, hf, Instr.sureAddr, fieldPlace, hs' w, hm, e]
def gdB (F : Fr) (ops : Array Oper) : Option (Nat × Bool) → Option Bool
  | none => some true
  | some (j, b) => match (ops[j]?).bind (·.dst) with
    | some t => match fget F t with
      | some (.bool b') => some (b' == b)
      | some (.tuple _) => some false
      | _ => none
    | none => none
theorem FS.wanted {n : Nat} {D : List Deferred} {a : Act} (h : FS n D F a) {ops : Array Oper} {o : Oper} {b : Bool} (hg : gdB F ops o.guard = some b) : Region.wanted o (yielded ops a.tmps) = b := by
  unfold Region.wanted
  cases ho : o.guard with
  | none => rw [ho] at hg; injection hg
  | some jb =>
    obtain ⟨j, b1⟩ := jb
    rw [ho] at hg
    simp only [gdB] at hg
    cases hd : (ops[j]?).bind (·.dst) with
    | none => rw [hd] at hg; cases hg
    | some t =>
      simp only [hd] at hg
      cases hf : fget F t with
      | none => simp [hf] at hg
      | some v =>
        simp only [hf] at hg
        have h1 := h.get t _ hf
        have h2 : a.tmps[t]? = some v ∨ (a.tmps[t]? = none ∧ v = undef) := by
          rw [Array.getD_eq_getD_getElem?] at h1
          cases h3 : a.tmps[t]? with
          | none => rw [h3] at h1; exact .inr ⟨rfl, by simpa using h1.symm⟩
          | some u => rw [h3] at h1; exact .inl (by simpa using h1)
        match v, hg, h2 with
        | .bool b2, hg, h2 =>
          rcases h2 with h2 | ⟨_, h2⟩
          · simp only [yielded, hd, Option.bind_some, h2]
            exact Option.some.inj hg
          · exact absurd h2 (by simp [undef])
        | .tuple vs, hg, h2 =>
          have hg := Option.some.inj hg
          subst hg
          rcases h2 with h2 | ⟨h2, _⟩ <;> simp [yielded, hd, h2]
def RK (c : Cx) (ops : Array Oper) (Q : Exit → Act → World → Prop) (nf k : Nat) (rest : List Oper) (pend : List (Nat × Oper)) (fl : List Fl) (listed : Array Bool) (fuel : Nat) (F : Fr) (K : List Fact) : Prop :=
  ∀ a W w, FS c.n c.D F a → Sat c.S c.w0 K W → Below W.heap.size W w → RW c.P ops Q nf (Below W.heap.size W) k rest pend fl listed fuel a w
def FLK (c : Cx) (ops : Array Oper) (Q : Exit → Act → World → Prop) (nf : Nat) : List Fl → Fr → List Fact → Prop
  | [], F, K => TL c ops Q (ops.toList.drop nf) F K
  | f :: fl, F, K => ∀ b, FLK c ops Q nf fl ((f.d, .pointer (some ⟨b, 0, none⟩)) :: F) (.blk b f.ty f.z.toList :: K)
def flagged (bs : List Bool) (pend : List (Nat × Oper)) : List (Nat × Bool) := List.zipWith (fun b p => (p.1, b)) bs pend
def WK (c : Cx) (ops : Array Oper) (Q : Exit → Act → World → Prop) (nf : Nat) (fl : List Fl) (bs : List Bool) (pend : List (Nat × Oper)) (F : Fr) (K : List Fact) : Prop :=
  ∀ W N a w, (∀ p ∈ pend, (frontOf ops nf)[p.1]? = some p.2) → c.w0.heap.size ≤ W.heap.size → FS c.n c.D F a → Sat c.S c.w0 K w → (∀ b ∈ feet K, b < W.heap.size ∨ ∃ q ∈ N, q.1 ≤ b ∧ b < q.2) → Below W.heap.size W w →
    wpChain2 c.P (frontOf ops nf) (tailPost c.P ops Q nf) (fun N a w => ∀ D, D.map (·.1) = fl → FlOk W.heap.size w N D → Ext W w → wpList c.P ops Q (ops.toList.drop nf) (puts D a) w) (flagged bs pend) N a w
variable {ops : Array Oper} {nf k fuel : Nat} {rest : List Oper} {pend : List (Nat × Oper)} {fl : List Fl} {listed : Array Bool} {bs : List Bool}
theorem TW.draw {id : Nat} {l : List Oper} (nf : Nat) (hm : c.P.follows .mixedOrders = true) (hT : tailOk l.toArray nf = true) (hp : Pan Q) (h : RK c l.toArray Q nf 0 (l.take nf) [] [] (Array.replicate nf false) nf F K) : TW c (.region id l.toArray true) Q F K := fun a w hF hK =>
  RW.begin hm hT hp fun hb => h a w _ hF hK hb
theorem RK.take {d : Nat} {op : Op} {v : Value} (hk : takeB ops nf listed k = true) (hg : gdB F (frontOf ops nf) g = some true) (hp : Pu c F K ⟨some d, op, ty, pos, af, g⟩ v) (hd : Nat.blt d c.n = true)
    (h : RK c ops Q nf (k + 1) rest pend fl (listed.setIfInBounds k true) fuel ((d, v) :: F) K) : RK c ops Q nf k (⟨some d, op, ty, pos, af, g⟩ :: rest) pend fl listed (fuel + 1) F K := fun a W w hF hK hb =>
  RW.take hb hk (hF.wanted hg) (fun w' hb' => hp a w' hF (hK.ext hb')) (h _ W w (hF.put hd v) hK hb)
theorem RK.keep {o : Oper} (h : RK c ops Q nf (k + 1) rest (pend ++ [(k, o)]) fl listed fuel F K) : RK c ops Q nf k (o :: rest) pend fl listed fuel F K := fun a W w hF hK hb => RW.keep (h a W w hF hK hb)
def zrAll (P : Program) : List Fl → Prop
  | [] => True
  | f :: fl => Zr P f.ty f.z.toList ∧ zrAll P fl
theorem zrAll_spec {P : Program} : ∀ {fl : List Fl}, zrAll P fl → ∀ f ∈ fl, Zr P f.ty f.z.toList
  | f :: fl, h, g, hg => by
    rcases List.mem_cons.1 hg with rfl | hg
    · exact h.1
    · exact zrAll_spec h.2 g hg
theorem RK.chain (bs : List Bool) (hb : checkB2 (frontOf ops nf) listed (flagged bs pend) (keys fl) = true) (hfu : decide ((flagged bs pend).length + fl.length ≤ fuel) = true) (hz : zrAll c.P fl) (h : WK c ops Q nf fl bs pend F K) : RK c ops Q nf k [] pend fl listed fuel F K := fun a W w hF hK hb' _ h2 h3 => by
  refine chain2_begin (S := Below W.heap.size W) (B := W.heap.size) (fun w w' he hs => Ext.trans hs he) (flagged bs pend) fl hb (by simpa using hfu) (fun d v ch a w => h3 d v ch a w) (fun f hf ρ o w ho => by
    obtain ⟨z, h1, h2⟩ := zrAll_spec hz f hf
    simp only [execOp, ho, Instr.alloc, newVar, newRow, Sem.run_bind, Sem.run_pure, h2 w, Result.andThen_ok, run_newObj, h1]
    rfl) hb' (K := fun N a w => ∀ D, D.map (·.1) = fl → FlOk W.heap.size w N D → Ext W w → wpList c.P ops Q (ops.toList.drop nf) (puts D a) w) (fun N a w D e1 e2 e3 hk => tail_list (hk D e1 e2 e3)) hb'.size (h W [] a w h2 hK.chg.size hF (hK.ext hb') (fun b hb => .inl (hK.lt b hb)) hb')
theorem puts_cons (p : Fl × Nat) (D : List (Fl × Nat)) (a : Act) : puts (p :: D) a = puts D (a.put (some p.1.d) (.pointer (some ⟨p.2, 0, none⟩))) := rfl
theorem FLK.run : ∀ (fl : List Fl) (F : Fr) (K : List Fact) (D : List (Fl × Nat)) (a : Act) (w : World), FLK c ops Q nf fl F K → (fl.all fun f => Nat.blt f.d c.n) = true → D.map (·.1) = fl → FS c.n c.D F a → Sat c.S c.w0 K w →
    (∀ p ∈ D, c.w0.heap.size ≤ p.2 ∧ Blk w p.2 p.1.ty p.1.z ∧ p.2 ∉ feet K) → (D.map (·.2)).Nodup → wpList c.P ops Q (ops.toList.drop nf) (puts D a) w
  | [], F, K, D, a, w, h, _, hD, hF, hK, _, _ => by
    cases D with
    | nil => exact h a w hF hK
    | cons => cases hD
  | f :: fl, F, K, D, a, w, h, hok, hD, hF, hK, hb, hnd => by
    cases D with
    | nil => cases hD
    | cons p D =>
      simp only [List.map_cons, List.cons.injEq] at hD
      obtain ⟨rfl, hD⟩ := hD
      simp only [List.all_cons, Bool.and_eq_true] at hok
      simp only [List.map_cons, List.nodup_cons] at hnd
      obtain ⟨h1, h2, h3⟩ := hb p (by simp)
      rw [puts_cons]
      refine FLK.run fl _ _ D _ w (h p.2) hok.2 hD (hF.put hok.1 _) ?_ (fun q hq => ?_) hnd.2
      · refine ⟨hK.chg, ?_, fun b hb => ?_, fun ψ hψ => ?_⟩
        · rw [feet_cons]; simp only [Fact.foot, List.singleton_append, List.nodup_cons]; exact ⟨h3, hK.nd⟩
        · rw [feet_cons] at hb; simp only [Fact.foot, List.singleton_append, List.mem_cons] at hb
          rcases hb with rfl | hb
          · exact .inr h1
          · exact hK.ge b hb
        · rcases List.mem_cons.1 hψ with rfl | hψ
          · simpa [Fact.holds] using h2
          · exact hK.holds ψ hψ
      · obtain ⟨k1, k2, k3⟩ := hb q (by simp [hq])
        refine ⟨k1, k2, ?_⟩
        rw [feet_cons]; simp only [Fact.foot, List.singleton_append, List.mem_cons, not_or]
        exact ⟨fun e => hnd.1 (List.mem_map.2 ⟨q, hq, e⟩), k3⟩
theorem WK.nil (hok : (fl.all fun f => Nat.blt f.d c.n) = true) (h : FLK c ops Q nf fl F K) : WK c ops Q nf fl [] [] F K := fun W N a w _ h0 hF hK hN hb => by
  intro w' he D hD hO hE
  refine FLK.run fl F K D a w' h hok hD hF (hK.ext he) (fun p hp => ?_) hO.2
  obtain ⟨h1, h2, h3⟩ := hO.1 p hp
  refine ⟨Nat.le_trans h0 h1, h2, fun hm => ?_⟩
  rcases hN p.2 hm with h4 | ⟨q, hq, h4⟩
  · omega
  · have := h3 q hq; omega
theorem WK.feet {W w' w'' : World} {N : List (Nat × Nat)} {L : List Fact} (hN : ∀ b ∈ feet K, b < W.heap.size ∨ ∃ q ∈ N, q.1 ≤ b ∧ b < q.2) (hL : Sat [] w' L w'') : ∀ b ∈ feet (L ++ K), b < W.heap.size ∨ ∃ q ∈ (w'.heap.size, w''.heap.size) :: N, q.1 ≤ b ∧ b < q.2 := fun b hb => by
  rw [feet_append, List.mem_append] at hb
  rcases hb with hb | hb
  · rcases hL.ge b hb with h | h
    · cases h
    · exact .inr ⟨_, List.mem_cons_self, h, hL.lt b hb⟩
  · rcases hN b hb with h | ⟨q, hq, h⟩
    · exact .inl h
    · exact .inr ⟨q, by simp [hq], h⟩
theorem WK.act {i : Nat} {o : Oper} (h : ∀ (a : Act) (w' : World) (K' : Act → World → Prop), FS c.n c.D F a → Sat c.S c.w0 K w' → (frontOf ops nf)[i]? = some o →
      (∀ F2 L a' w'', Sat [] w' L w'' → FS c.n c.D F2 a' → WK c ops Q nf fl bs pend F2 (L ++ K) → K' a' w'') → wpOp c.P (frontOf ops nf) (tailPost c.P ops Q nf) i K' a w') : WK c ops Q nf fl (false :: bs) ((i, o) :: pend) F K := fun W N a w h2 h0 hF hK hN hb => by
  intro w' he
  refine h a w' _ hF (hK.ext he) (h2 (i, o) (by simp)) fun F2 L a' w'' hs hF2 hw => ?_
  have hE : Ext w' w'' := Chg.ext hs.chg
  exact ⟨hE, hw W _ _ _ (fun p hp => h2 p (by simp [hp])) h0 hF2 ((hK.ext he).add hs) (WK.feet hN hs) (Ext.trans (Ext.trans hb he) hE)⟩
theorem wpOp_of {P : Program} {front : Array Oper} {R : Exit → Act → World → Prop} {i : Nat} {o : Oper} {K' : Act → World → Prop} {a : Act} {w : World} (ho : front[i]? = some o) (hw : Region.wanted o (yielded front a.tmps) = true) (h : o.wp P a w K' R) : wpOp P front R i K' a w := by
  unfold wpOp
  simp only [ho, hw, if_true]
  exact .inl h
theorem WK.mk {i : Nat} {d : Option Tmp} {op : Op} {v : Nat → Value} {t : TypeId} {cs : List Value} (hm : Mk c F K ⟨d, op, ty, pos, af, none⟩ v t cs) (hd : dok d c.n = true) (h : ∀ b, WK c ops Q nf fl bs pend (fput F d (v b)) (.blk b t cs :: K)) : WK c ops Q nf fl (false :: bs) ((i, ⟨d, op, ty, pos, af, none⟩) :: pend) F K :=
  WK.act fun a w' K' hF hK ho hK' => by
    refine wpOp_of ho rfl ?_
    have hr := hm a w' hF hK
    unfold Oper.wp
    rw [hr]
    have hs : Sat [] w' [.blk w'.heap.size t cs] (w'.alloc (.cells cs.toArray t)) := (Sat.start w').new t cs
    exact hK' _ [.blk w'.heap.size t cs] _ _ hs (hF.fput hd _) (h w'.heap.size)
theorem TL.guard {t : Nat} {b : Bool} (ht : fget F t = some (.bool b)) (h1 : b = true → TL c ops Q rest ((t, .bool true) :: F) K) (h2 : b = false → TL c ops Q rest ((t, .bool false) :: F) K) : TL c ops Q rest F K := fun a w hF hK => by
  have key : ∀ b', b = b' → FS c.n c.D ((t, .bool b') :: F) a := fun b' e => ⟨hF.size, hF.dfs, fun u v hv => by
    subst e
    simp only [fget] at hv
    cases hb : Nat.beq t u with
    | true => rw [hb] at hv; have := beq_iff.1 hb; subst this; injection hv with hv; subst hv; exact hF.get _ _ ht
    | false => rw [hb] at hv; exact hF.get _ _ hv⟩
  cases hb : b
  · exact h2 hb a w (key _ hb) hK
  · exact h1 hb a w (key _ hb) hK
theorem wpList_no {P : Program} {o : Oper} {a : Act} {w : World} (hg : Region.wanted o (yielded ops a.tmps) = false) (h : wpList P ops Q rest (a.put o.dst undef) w) : wpList P ops Q (o :: rest) a w := by
  unfold wpList
  rw [if_neg (by simp [hg])]
  exact h
theorem wpList_yes {P : Program} {o : Oper} {v : Value} {a : Act} {w : World} (hg : Region.wanted o (yielded ops a.tmps) = true) (hr : (execOp a.eval o).run P w = .ok (.value v) w) (h : wpList P ops Q rest (a.put o.dst v) w) : wpList P ops Q (o :: rest) a w := by
  unfold wpList
  rw [if_pos hg]
  exact .inl (by unfold Oper.wp; rw [hr]; exact h)
theorem TL.gskip {d : Nat} {op : Op} (hg : gdB F ops g = some false) (hd : Nat.blt d c.n = true) (h : TL c ops Q rest ((d, undef) :: F) K) : TL c ops Q (⟨some d, op, ty, pos, af, g⟩ :: rest) F K := fun a w hF hK =>
  wpList_no (hF.wanted hg) (h _ w (hF.put hd _) hK)
theorem TL.gpure {d : Nat} {op : Op} {v : Value} (hg : gdB F ops g = some true) (hp : Pu c F K ⟨some d, op, ty, pos, af, g⟩ v) (hd : Nat.blt d c.n = true) (h : TL c ops Q rest ((d, v) :: F) K) : TL c ops Q (⟨some d, op, ty, pos, af, g⟩ :: rest) F K := fun a w hF hK =>
  wpList_yes (hF.wanted hg) (hp a w hF hK) (h _ w (hF.put hd v) hK)
theorem TL.gcall {d : Option Tmp} {f : FuncId} {xs : List Operand} {ts : Array TypeId} {us : List Value} {v : Value} (hg : gdB F ops g = some true) (hx : evs F xs = some us) (hen : Enters c.P f) (hd : dok d c.n = true)
    (hc : ∀ w, Sat c.S c.w0 K w → Calls c.P f us.toArray w (Ret w v)) (h : TL c ops Q rest (fput F d v) K) : TL c ops Q (⟨d, .call { callee := .value (.func f), args := xs.toArray, argTypes := ts }, ty, pos, af, g⟩ :: rest) F K := fun a w hF hK => by
  have hr : (execOp a.eval ⟨d, .call { callee := .value (.func f), args := xs.toArray, argTypes := ts }, ty, pos, af, g⟩).run c.P w = .ok (.enter f us.toArray) w := by
    have := hF.evsl hx
    have h9 := hen us.toArray w
    simp [execOp, resolve, invoke, Deferred.ofValue, Act.eval, this, h9]
  unfold wpList
  rw [if_pos (hF.wanted hg)]
  refine .inl ?_
  unfold Oper.wp
  rw [hr]
  refine Calls.mono (hc w hK) ?_
  rintro e w' ⟨rfl, hb⟩
  exact h _ _ (hF.fput hd _) (hK.ext hb)
theorem WK.quiet {i : Nat} {o : Oper} {v : Value} {F2 : Fr} (hF2 : ∀ a, FS c.n c.D F a → FS c.n c.D F2 (a.put o.dst v)) (hy : ∀ a w, FS c.n c.D F a → Sat c.S c.w0 K w → YieldsIf c.P (frontOf ops nf) (fun w3 => Ext w w3) o v a) (h : WK c ops Q nf fl bs pend F2 K) : WK c ops Q nf fl (true :: bs) ((i, o) :: pend) F K := fun W N a w hp h0 hF hK hN hb => by
  intro w' he o' ho'
  have : o = o' := by
    have := hp (i, o) (by simp)
    rw [this] at ho'; injection ho'
  subst this
  exact ⟨v, hy a w' hF (hK.ext he), h W N _ w' (fun p hp' => hp p (by simp [hp'])) h0 (hF2 a hF) (hK.ext he) hN (Ext.trans hb he)⟩
theorem WK.pure {i d : Nat} {op : Op} {v : Value} (hg : gdB F (frontOf ops nf) g = some true) (hp : Pu c F K ⟨some d, op, ty, pos, af, g⟩ v) (hd : Nat.blt d c.n = true) (h : WK c ops Q nf fl bs pend ((d, v) :: F) K) : WK c ops Q nf fl (true :: bs) ((i, ⟨some d, op, ty, pos, af, g⟩) :: pend) F K :=
  WK.quiet (fun a hF => hF.put hd v) (fun a w hF hK => .inl ⟨hF.wanted hg, fun w3 h3 => hp a w3 hF (hK.ext h3)⟩) h
theorem WK.gcall {i : Nat} {d : Option Tmp} {f : FuncId} {xs : List Operand} {ts : Array TypeId} {us : List Value} {v : Value} (hg : gdB F (frontOf ops nf) g = some true) (hx : evs F xs = some us) (hen : Enters c.P f) (hd : dok d c.n = true)
    (hc : ∀ w, Sat c.S c.w0 K w → Calls c.P f us.toArray w (Ret w v)) (h : WK c ops Q nf fl bs pend (fput F d v) K) : WK c ops Q nf fl (false :: bs) ((i, ⟨d, .call { callee := .value (.func f), args := xs.toArray, argTypes := ts }, ty, pos, af, g⟩) :: pend) F K :=
  WK.act fun a w' K' hF hK ho hK' => by
    refine wpOp_of ho (hF.wanted hg) ?_
    have hr : (execOp a.eval ⟨d, .call { callee := .value (.func f), args := xs.toArray, argTypes := ts }, ty, pos, af, g⟩).run c.P w' = .ok (.enter f us.toArray) w' := by
      have := hF.evsl hx
      have h9 := hen us.toArray w'
      simp [execOp, resolve, invoke, Deferred.ofValue, Act.eval, this, h9]
    unfold Oper.wp
    rw [hr]
    refine Calls.mono (hc w' hK) ?_
    rintro e w'' ⟨rfl, hb⟩
    exact hK' _ [] _ _ (Sat.nil (Chg.of_ext hb)) (hF.fput hd _) h
theorem TW.join {x : Code} (E : Fr) (h : TQ c Q .normal (E ++ F) K) (r : TQ c Q .normal (E ++ F) K → TW c x Q F K) : TW c x Q F K := r h
theorem Pu.pickT {d : Option Tmp} {t x y : Operand} {u : Value} (ht : ev F t = some (.bool true)) (hx : ev F x = some u) : Pu c F K ⟨d, .pick t x y, ty, pos, af, g⟩ u := fun a w hF _ => by
  simp only [execOp, hF.evl ht, hF.evl hx, asBool, Sem.run_bind, Sem.run_pure, Result.andThen_ok, if_true]
theorem Pu.pickF {d : Option Tmp} {t x y : Operand} {u : Value} (ht : ev F t = some (.bool false)) (hy : ev F y = some u) : Pu c F K ⟨d, .pick t x y, ty, pos, af, g⟩ u := fun a w hF _ => by
  simp only [execOp, hF.evl ht, hF.evl hy, asBool, Sem.run_bind, Sem.run_pure, Result.andThen_ok, Bool.false_eq_true, if_false]
theorem CallsK.ret {P : Program} {f : FuncId} {args : Array Value} {w : World} {v : Value} (h : Calls P f args w (Ret w v)) : CallsK P f args [] w Unit (fun _ => v) (fun _ => []) :=
  Calls.mono h fun e w' ⟨h1, h2⟩ => ⟨(), h1, Sat.nil (Chg.of_ext h2)⟩
theorem Ret.of {w w' : World} {v : Value} {L : List Fact} (h : Sat [] w L w') : Ret w v (.returned v) w' := ⟨rfl, Chg.ext h.chg⟩
end
end Go.Proofs.YtehlbkmebaideaaGreatDoor
namespace Go.Proofs.YtehlbkmebaideaaGreatDoor
set_option linter.all false
set_option linter.unusedVariables false
set_option linter.unusedSimpArgs false
open Go.ChangeShapes Go.WideShapes Go.RowKit Go.Deep
section
variable {H : Type} {enc : TypeId × Value → H} {P : Program} {w : World} {base : Nat} {spare : Nat → Bool} {held : Bool}
def kindsL (P : Program) (g : TypeId → Option (List IntKind)) : List Field → Nat → Option (List IntKind)
  | [], _ => some []
  | f :: fs, off => match g f.type with
    | some a => if f.offset = off ∧ a.length = P.cellsOf f.type then match kindsL P g fs (off + a.length) with
      | some b => some (a ++ b)
      | none => none
      else none
    | none => none
def kindsF (P : Program) : Nat → TypeId → Option (List IntKind)
  | 0, _ => none
  | d + 1, t => match P.underlying t with
    | some (.int k) => some [k]
    | some (.struct fs) => match kindsL P (kindsF P d) fs.toList 0 with
      | some a => if a.length = P.cellsOf t then some a else none
      | none => none
    | _ => none
def ints (ks : List IntKind) (ns : List Int) : List Value := List.zipWith Value.int ks ns
theorem ints_append {a b : List IntKind} {x y : List Int} (h : x.length = a.length) : ints (a ++ b) (x ++ y) = ints a x ++ ints b y := by
  unfold ints; rw [List.zipWith_append h.symm]
theorem ints_length {a : List IntKind} {x : List Int} (h : x.length = a.length) : (ints a x).length = a.length := by simp [ints, h]
theorem kindsL_spec {g : TypeId → Option (List IntKind)} (hg : ∀ t ks, g t = some ks → ∀ fuel cs x, DataW.trod enc P w base spare held fuel t cs = some x → ∃ ns : List Int, cs = ints ks ns ∧ ns.length = ks.length) :
    ∀ (fs : List Field) (off : Nat) (ks : List IntKind) (cs : List Value), kindsL P g fs off = some ks → cs.length = off + ks.length →
      (∀ f ∈ fs, ∃ n x, DataW.trod enc P w base spare held n f.type ((cs.drop f.offset).take (P.cellsOf f.type)) = some x) → ∃ ns : List Int, cs.drop off = ints ks ns ∧ ns.length = ks.length
  | [], off, ks, cs, h, hl, _ => by cases h; exact ⟨[], by simp at hl; simp [ints, hl], rfl⟩
  | f :: fs, off, ks, cs, h, hl, hf => by
    simp only [kindsL] at h
    cases h1 : g f.type with
    | none => rw [h1] at h; cases h
    | some a =>
      rw [h1] at h
      simp only at h
      split at h
      · rename_i h2
        obtain ⟨h2, h3⟩ := h2
        cases h4 : kindsL P g fs (off + a.length) with
        | none => rw [h4] at h; cases h
        | some b =>
          rw [h4] at h
          cases h
          obtain ⟨n, x, hx⟩ := hf f (by simp)
          rw [h2, ← h3] at hx
          obtain ⟨ns, e1, e2⟩ := hg _ _ h1 _ _ _ hx
          obtain ⟨ms, e3, e4⟩ := kindsL_spec hg fs (off + a.length) b cs h4 (by rw [hl]; simp; omega) (fun f' hf' => hf f' (by simp [hf']))
          refine ⟨ns ++ ms, ?_, by simp [e2, e4]⟩
          rw [ints_append e2, ← e1, ← e3, ← List.drop_drop, List.take_append_drop]
      · cases h
theorem kindsF_spec : ∀ (d : Nat) (t : TypeId) (ks : List IntKind), kindsF P d t = some ks → ∀ fuel cs x, DataW.trod enc P w base spare held fuel t cs = some x → ∃ ns : List Int, cs = ints ks ns ∧ ns.length = ks.length
  | 0, _, _, h, _, _, _, _ => by cases h
  | d + 1, t, ks, h, fuel, cs, x, hx => by
    simp only [kindsF] at h
    cases hu : P.underlying t with
    | none => rw [hu] at h; cases h
    | some desc =>
      rw [hu] at h
      match desc, hu, h with
      | .int k, hu, h =>
        injection h with h
        subst h
        obtain ⟨n, rfl, _, _⟩ := DataW.trod_int hu hx
        exact ⟨[n], rfl, rfl⟩
      | .struct fs, hu, h =>
        simp only at h
        cases h1 : kindsL P (kindsF P d) fs.toList 0 with
        | none => rw [h1] at h; cases h
        | some a =>
          rw [h1] at h
          simp only at h
          split at h
          · rename_i h2
            cases h
            obtain ⟨xs, n, _, _, hlen, hxl, hf⟩ := DataW.trod_struct hu hx
            obtain ⟨ns, e1, e2⟩ := kindsL_spec (kindsF_spec d) fs.toList 0 _ cs h1 (by omega) (fun f hf' => by
              obtain ⟨i, hi, rfl⟩ := List.getElem_of_mem hf'
              have hi' : i < fs.size := by simpa using hi
              have := hf i fs[i] (by simp [hi'])
              rw [List.getElem?_eq_getElem (by omega)] at this
              exact ⟨n, _, this⟩)
            exact ⟨ns, by simpa using e1, e2⟩
          · cases h
theorem open_flat_slice {t e : TypeId} {fuel : Nat} {cs : List Value} {x : DataW H × List MemPlace} (d : Nat) {ks : List IntKind} (ht : P.underlying t = some (.slice e)) (hk : kindsF P d e = some ks) (hC : P.cellsOf e = ks.length) (h0 : Nat.blt 0 ks.length = true) (h : DataW.trod enc P w base spare held fuel t cs = some x) :
    ∃ (A : Option Addr) (len cap : Nat) (g : Nat → List Int), cs = [.slice A len cap] ∧ (∀ i, i < len → (g i).length = ks.length) ∧ RdR w ks.length A len (fun i => ints ks (g i)) ∧ (A = none → len = 0 ∧ cap = 0) ∧ len ≤ cap ∧ cap ≤ maxLen := by
  have h0 : 0 < ks.length := Nat.le_of_ble_eq_true h0
  rcases open_slice ht h with ⟨rfl, rfl⟩ | ⟨a, len, cap, m, n, D, Pl, rfl, hb, hl, hm, hmm, _, hi⟩
  · exact ⟨none, 0, 0, fun _ => [], rfl, fun i hi => by omega, ⟨Rd.nil, fun i hi => by omega⟩, fun _ => ⟨rfl, rfl⟩, Nat.le_refl _, Nat.zero_le _⟩
  · have hlm : len ≤ m := by rw [hmm]; split <;> omega
    have key : ∀ i, i < len → ∃ ns : List Int, ns.length = ks.length ∧ ∀ j, j < ks.length → w.cell? (a.add (i * ks.length + j)) = (ints ks ns)[j]? := fun i hil => by
      obtain ⟨cs', hc, hx⟩ := hi i (by omega)
      obtain ⟨_, hcl, hat⟩ := World.cells?_some hc
      obtain ⟨ns, rfl, e2⟩ := kindsF_spec d e ks hk _ _ _ hx
      refine ⟨ns, e2, fun j hj => ?_⟩
      have := hat j (by rw [hC]; exact hj)
      rw [hC] at this
      rw [← this, ← add_add]
    refine ⟨some a, len, cap, fun i => if hi : i < len then (key i hi).choose else [], rfl, fun i hi => ?_, ⟨fun hn => ?_, fun i hi => ?_⟩, fun h => (by cases h), hl, hm⟩
    · simp only [hi, dite_true]; exact (key i hi).choose_spec.1
    · have h1 := (key 0 hn).choose_spec.2 0 h0
      have hsome : (ints ks (key 0 hn).choose)[0]? = some ((ints ks (key 0 hn).choose)[0]'(by rw [ints_length (key 0 hn).choose_spec.1]; exact h0)) := List.getElem?_eq_getElem _
      rw [hsome] at h1
      have hadd : a.add (0 * ks.length + 0) = a := by simp [Addr.add]
      rw [hadd] at h1
      have hsp : a.spot = none := by
        unfold World.cell? at h1
        split at h1
        · cases hs : a.spot with
          | none => rfl
          | some s => simp [hs] at h1
        · cases h1
      have hlt : a.block < w.heap.size := World.block_lt_of_cell? w a h1
      obtain ⟨b, o, s⟩ := a
      simp only at hsp
      subst hsp
      refine ⟨b, o, rfl, hlt, fun i j hi hj => ?_⟩
      have h2 := (key i hi).choose_spec.2 j hj
      rw [add_plain] at h2
      rw [show o + i * ks.length + j = o + (i * ks.length + j) by omega, h2]
      simp only [rowF, hi, dite_true]
      have hl2 : j < (ints ks (key i hi).choose).length := by rw [ints_length (key i hi).choose_spec.1]; exact hj
      rw [List.getElem?_eq_getElem hl2]
      simp [List.getD_eq_getElem?_getD, List.getElem?_eq_getElem hl2]
    · simp only [hi, dite_true]
      exact ints_length (key i hi).choose_spec.1
def gi (ns : List Int) (j : Nat) : Int := ns.getD j 0
def rowK : List IntKind → (Nat → Int) → List Value
  | [], _ => []
  | k :: ks, f => .int k (f 0) :: rowK ks fun j => f (j + 1)
theorem ints_rowK : ∀ (ks : List IntKind) (ns : List Int), ns.length = ks.length → ints ks ns = rowK ks (gi ns)
  | [], [], _ => rfl
  | k :: ks, n :: ns, h => by
    show Value.int k n :: ints ks ns = _
    rw [ints_rowK ks ns (by simpa using h)]
    rfl
theorem RdR.rowK {sz n : Nat} {A : Option Addr} {ks : List IntKind} {g : Nat → List Int} (h : RdR w sz A n (fun i => ints ks (g i))) (hl : ∀ i, i < n → (g i).length = ks.length) : RdR w sz A n (fun i => rowK ks (gi (g i))) :=
  ⟨h.rd.congr fun i j hi hj => by simp only [rowF, ints_rowK ks (g i) (hl i hi)], fun i hi => by rw [← ints_rowK ks (g i) (hl i hi)]; exact h.len i hi⟩
theorem trodAll_stays (hl : laidOutB P = true) {W W' : World} (hb : Below W.heap.size W W') {sp' : Nat → Bool} : ∀ {ts : List TypeId} {vs : List Value} {ds : List (DataW H)} {ps : List MemPlace}, ts.all (fun t => P.readableRec t && decide (t < P.types.size)) = true →
    DataW.TrodAll enc P W 0 (fun _ => true) true ts vs ds ps → (∀ p ∈ ps, p.block < W.heap.size) → (∀ p ∈ ps, sp' p.block = true) → DataW.TrodAll enc P W' 0 sp' true ts vs ds ps
  | [], [], [], ps, _, h, _, _ => h
  | t :: ts, v :: vs, d :: ds, ps, ht, h, hlt, hs => by
    simp only [List.all_cons, Bool.and_eq_true, decide_eq_true_eq] at ht
    obtain ⟨p, q, h1, h2, rfl⟩ := h
    exact ⟨p, q, WideElems.Trod_stays hl ht.1.1 ht.1.2 h1 (fun x hx => hb.same (hlt x (by simp [hx]))) (fun x hx => hs x (by simp [hx])), trodAll_stays hl hb ht.2 h2 (fun x hx => hlt x (by simp [hx])) (fun x hx => hs x (by simp [hx])), rfl⟩
theorem law_post {f : Func} {s : ChangeSpec} {apart fresh handsOn again : Bool} {W W' : World} {args : Array Value} {ds : List (DataW H)} {p : List MemPlace} {tb : TypeId} (hl : laidOutB P = true) (hvars : s.vars = [])
    (hW : DataW.Whole enc P f.params.toList s.vars apart W args.toList ds [] p) (hA : DataW.TrodAll enc P W 0 (fun _ => true) true f.params.toList args.toList ds p)
    (ht : f.params.toList.all (fun t => P.readableRec t && decide (t < P.types.size)) = true) (hrt : f.resultTypes = #[tb]) (htb : P.underlying tb = some .bool) (hfn : s.fn H ds = { results := [.lit (.bool true)], args := ds }) (hb : Below W.heap.size W W') :
    s.post enc P f apart fresh handsOn again W args (.bool true) W' := by
  have hlt : ∀ q ∈ p, q.block < W.heap.size := fun q hq => hW.lt q hq
  have hold : ∀ q ∈ p, (fun b => decide (b < W.heap.size)) q.block = true := fun q hq => by simpa using hW.lt q hq
  have hres : ∀ (b : Nat) (sp : Nat → Bool) (hd : Bool), DataW.TrodAll enc P W' b sp hd f.resultTypes.toList ((Value.bool true).resultList f.resultTypes.size) (s.fn H (ds ++ [])).results [] := fun b sp hd => by
    rw [List.append_nil, hfn, hrt]
    exact ⟨[], [], shut_bool htb true, rfl, rfl⟩
  have hargs : ∀ sp : Nat → Bool, (∀ q ∈ p, sp q.block = true) → DataW.TrodAll enc P W' 0 sp true f.params.toList args.toList (s.fn H (ds ++ [])).args p := fun sp hs => by
    rw [List.append_nil, hfn]
    exact trodAll_stays hl hb ht hA (fun q hq => hW.lt q hq) hs
  have hv : ∀ sp : Nat → Bool, DataW.TrodVars enc P W' sp s.vars (s.fn H (ds ++ [])).vars [] := fun sp => by
    rw [List.append_nil, hfn, hvars]; exact rfl
  have hok : ∀ (j : Nat) (t : TypeId) (r : Value), f.resultTypes[j]? = some t → ((Value.bool true).resultList f.resultTypes.size)[j]? = some r → Value.okWide P W' .any 0 t r := ok_one (by rw [hrt]) rfl (okWide_bool_mk htb true)
  refine ⟨ds, [], p, [], p, [], hW, hres _ _ _, hargs _ hold, hv _, World.keptBut_mono (fun q hq => ⟨hq, by simpa using hq⟩) (hb.frame (· ∈ p)), fun _ => ?_⟩
  obtain ⟨_, _, _, _, _, hz, hn⟩ := hW
  refine ⟨hok, _, _, ([] ++ p) ++ [], ⟨[] ++ p, [], trodAll_append (hargs _ (fun _ _ => rfl)) (hres _ _ _), hv _, rfl, ?_, ?_⟩, ?_⟩
  · intro b off hp
    have hin : MemPlace.cell b off ∈ p := by simpa using hp
    rw [hb.frozen (hlt _ hin)]
    exact hz b off hin
  · intro ha
    have := hn ha
    simpa using this
  · intro q hq _
    simpa using hq
end
end Go.Proofs.YtehlbkmebaideaaGreatDoor
namespace Go.Proofs.YtehlbkmebaideaaGreatDoor
set_option linter.all false
set_option linter.unusedVariables false
set_option linter.unusedSimpArgs false
open Go.RowKit
section
variable {c : Cx} {Q : Exit → Act → World → Prop} {F F' : Fr} {K K' : List Fact} {ops : Array Oper} {rest : List Oper} {d : Option Tmp} {ty : TypeId} {pos : String} {af : Array Edge} {g : Option (Nat × Bool)} {nf k fuel : Nat} {pend : List (Nat × Oper)} {fl : List Fl} {listed : Array Bool} {bs : List Bool} {op : Op} {t : Nat}
theorem TL.p {v : Value} (hp : Pu c F K ⟨some t, op, ty, pos, af, none⟩ v) (h : TL c ops Q rest ((t, v) :: F) K) (hd : Nat.blt t c.n = true := by rfl) : TL c ops Q (⟨some t, op, ty, pos, af, none⟩ :: rest) F K := TL.pure hp hd h
theorem TL.gd {v : Value} (hp : Pu c F K ⟨some t, op, ty, pos, af, g⟩ v) (h : TL c ops Q rest ((t, v) :: F) K) (hg : gdB F ops g = some true := by rfl) (hd : Nat.blt t c.n = true := by rfl) : TL c ops Q (⟨some t, op, ty, pos, af, g⟩ :: rest) F K := TL.gpure hg hp hd h
theorem TL.gs (h : TL c ops Q rest ((t, undef) :: F) K) (hg : gdB F ops g = some false := by rfl) (hd : Nat.blt t c.n = true := by rfl) : TL c ops Q (⟨some t, op, ty, pos, af, g⟩ :: rest) F K := TL.gskip hg hd h
theorem TL.m {v : Nat → Value} {T : TypeId} {cs : List Value} (hm : Mk c F K ⟨d, op, ty, pos, af, none⟩ v T cs) (h : ∀ b, TL c ops Q rest (fput F d (v b)) (.blk b T cs :: K)) (hd : dok d c.n = true := by rfl) : TL c ops Q (⟨d, op, ty, pos, af, none⟩ :: rest) F K := TL.mk hm hd h
theorem RK.tk {v : Value} (hp : Pu c F K ⟨some t, op, ty, pos, af, g⟩ v) (h : RK c ops Q nf (k + 1) rest pend fl (listed.setIfInBounds k true) fuel ((t, v) :: F) K) (hk : takeB ops nf listed k = true := by kernel_rfl) (hg : gdB F (frontOf ops nf) g = some true := by rfl) (hd : Nat.blt t c.n = true := by rfl) :
    RK c ops Q nf k (⟨some t, op, ty, pos, af, g⟩ :: rest) pend fl listed (fuel + 1) F K := RK.take hk hg hp hd h
theorem WK.p {i : Nat} {v : Value} (hp : Pu c F K ⟨some t, op, ty, pos, af, g⟩ v) (h : WK c ops Q nf fl bs pend ((t, v) :: F) K) (hg : gdB F (frontOf ops nf) g = some true := by rfl) (hd : Nat.blt t c.n = true := by rfl) : WK c ops Q nf fl (true :: bs) ((i, ⟨some t, op, ty, pos, af, g⟩) :: pend) F K := WK.pure hg hp hd h
theorem WK.m {i : Nat} {v : Nat → Value} {T : TypeId} {cs : List Value} (hm : Mk c F K ⟨d, op, ty, pos, af, none⟩ v T cs) (h : ∀ b, WK c ops Q nf fl bs pend (fput F d (v b)) (.blk b T cs :: K)) (hd : dok d c.n = true := by rfl) : WK c ops Q nf fl (false :: bs) ((i, ⟨d, op, ty, pos, af, none⟩) :: pend) F K := WK.mk hm hd h
theorem RK.ch (bs : List Bool) (h : WK c ops Q nf fl bs pend F K) (hz : zrAll c.P fl) (hb : checkB2 (frontOf ops nf) listed (flagged bs pend) (keys fl) = true := by kernel_rfl) (hfu : decide ((flagged bs pend).length + fl.length ≤ fuel) = true := by kernel_rfl) : RK c ops Q nf k [] pend fl listed fuel F K := RK.chain bs hb hfu hz h
theorem TW.dw {id : Nat} {l : List Oper} (nf : Nat) (h : RK c l.toArray Q nf 0 (l.take nf) [] [] (Array.replicate nf false) nf F K) (hm : c.P.follows .mixedOrders = true := by rfl) (hT : tailOk l.toArray nf = true := by kernel_rfl) (hp : Pan Q := by (intro d _ _ _ _; cases d <;> exact Iff.rfl)) : TW c (.region id l.toArray true) Q F K := TW.draw nf hm hT hp h
theorem Pu.mv {x : Operand} {v : Value} (hx : ev F x = some v := by rfl) : Pu c F K ⟨d, .move x, ty, pos, af, g⟩ v := Pu.move hx
theorem Pu.as {x : Operand} {v : Value} (hx : ev F x = some v := by rfl) : Pu c F K ⟨d, .assign x, ty, pos, af, g⟩ v := Pu.assign hx
theorem Pu.ex {x : Operand} {vs : Array Value} {i : Nat} {v : Value} (hx : ev F x = some (.tuple vs) := by rfl) (hv : vs[i]? = some v := by rfl) : Pu c F K ⟨d, .extract x i, ty, pos, af, g⟩ v := Pu.extract hx hv
theorem Pu.fn {f : Fn} {xs ys : List Operand} {us vs : List Value} (hx : evs F xs = some us := by rfl) (hy : evs F ys = some vs := by rfl) : Pu c F K ⟨d, .makeFunc f xs.toArray ys.toArray, ty, pos, af, g⟩ (.func f us.toArray vs.toArray) := Pu.func hx hy
theorem Pu.ld {x : Operand} {T : TypeId} {q : Option Addr} {v : Value} (hT : Sc c.P T) (hx : ev F x = some (.pointer q) := by rfl) (hq : Cells c K q [v] := by first | exact Cells.blk (m := 1) (by repeat (first | exact Pick.hd | apply Pick.tl)) (by repeat (first | exact SubL.nil | apply SubL.take | apply SubL.drop)) | exact Cells.old (m := 1) (by assumption) (by first | exact Apart.nil | assumption) (by omega) (by repeat (first | exact SubL.nil | apply SubL.take | apply SubL.drop)) | exact Cells.own (m := 1) (by repeat (first | exact Pick.hd | apply Pick.tl)) (by omega) (by repeat (first | exact SubL.nil | apply SubL.take | apply SubL.drop))) :
    Pu c F K ⟨d, .load T x, ty, pos, af, g⟩ v := Pu.load hx hT hq
def CellsN (c : Cx) (K : List Fact) (q : Option Addr) (m : Nat) (vs : List Value) : Prop := Cells c K q vs ∧ vs.length = m
theorem CellsN.blk {b off m : Nat} {T : TypeId} {cs vs : List Value} (hp : Pick K (.blk b T cs) K') (hs : SubL cs off m vs) : CellsN c K (some ⟨b, off, none⟩) m vs := ⟨Cells.blk hp hs, hs.spec.1⟩
theorem CellsN.old {sz n i j m : Nat} {A : Option Addr} {r : Nat → List Value} {vs : List Value} (h : RdR c.w0 sz A n r) (hS : Apart c.S A) (hk : i < n) (hs : SubL (r i) j m vs) : CellsN c K (elA A i sz j) m vs := ⟨Cells.old h hS hk hs, hs.spec.1⟩
theorem CellsN.own {A : Option Addr} {n cp i j m : Nat} {E : TypeId} {sz : Nat} {r : Nat → List Value} {vs : List Value} (hp : Pick K (.own A n cp E sz r) K') (hk : i < n) (hs : SubL (r i) j m vs) : CellsN c K (elA A i sz j) m vs := ⟨Cells.own hp hk hs, hs.spec.1⟩
theorem Pu.lds {x : Operand} {T : TypeId} {m : Nat} {q : Option Addr} {vs : List Value} (hT : Ag c.P T m) (hx : ev F x = some (.pointer q) := by rfl) (hq : CellsN c K q m vs := by first | exact CellsN.blk (by repeat (first | exact Pick.hd | apply Pick.tl)) (by repeat (first | exact SubL.nil | apply SubL.take | apply SubL.drop)) | exact CellsN.old (by assumption) (by first | exact Apart.nil | assumption) (by omega) (by repeat (first | exact SubL.nil | apply SubL.take | apply SubL.drop)) | exact CellsN.own (by repeat (first | exact Pick.hd | apply Pick.tl)) (by omega) (by repeat (first | exact SubL.nil | apply SubL.take | apply SubL.drop))) :
    Pu c F K ⟨d, .load T x, ty, pos, af, g⟩ (.agg vs.toArray) := Pu.loads hx hT hq.1 hq.2
theorem Pu.nn {x : Operand} {v : Value} (hx : ev F x = some v := by rfl) (hv : notNil v = true := by rfl) : Pu c F K ⟨d, .nilCheck x, ty, pos, af, g⟩ v := Pu.nil hx hv
theorem Pu.fb {x : Operand} {T i o b off : Nat} (hf : FieldAt c.P T i o) (hx : ev F x = some (.pointer (some ⟨b, off, none⟩)) := by rfl) : Pu c F K ⟨d, .fieldAddr T x i, ty, pos, af, g⟩ (.pointer (some ⟨b, off + o, none⟩)) := Pu.fieldAt hx hf
theorem Pu.fe {x : Operand} {T i o j sz q : Nat} {A : Option Addr} (hf : FieldAt c.P T i o) (hx : ev F x = some (.pointer (elA A q sz j)) := by rfl) {vs : List Value} (hq : CellsN c K (elA A q sz j) 0 vs := by first | exact CellsN.old (by assumption) (by first | exact Apart.nil | assumption) (by omega) (by repeat (first | exact SubL.nil | apply SubL.take | apply SubL.drop)) | exact CellsN.own (by repeat (first | exact Pick.hd | apply Pick.tl)) (by omega) (by repeat (first | exact SubL.nil | apply SubL.take | apply SubL.drop))) : Pu c F K ⟨d, .fieldAddr T x i, ty, pos, af, g⟩ (.pointer (elA A q sz (j + o))) := Pu.fieldEl hx hf hq.1
theorem Pu.el {T E : TypeId} {sz bytes : Nat} {x y : Operand} {A : Option Addr} {n cp q : Nat} {kk : IntKind} {i : Int} (hT : ElemT c.P T E sz bytes) (hx : ev F x = some (.slice A n cp) := by rfl) (hy : ev F y = some (.int kk i) := by rfl) (hk : i.toNat = q := by first | exact tnS _ | exact Int.toNat_natCast _ | exact tnA _ _ | rfl) (h0 : 0 ≤ i := by omega) (h1 : i < n := by omega) {vs : List Value}
    (hA : CellsN c K (elA A q sz 0) 0 vs := by first | exact CellsN.old (by assumption) (by first | exact Apart.nil | assumption) (by omega) SubL.nil | exact CellsN.own (by repeat (first | exact Pick.hd | apply Pick.tl)) (by omega) SubL.nil) : Pu c F K ⟨d, .indexAddr T x y, ty, pos, af, g⟩ (.pointer (elA A q sz 0)) := Pu.elem hT hx hy hk h0 h1 hA.1
theorem Pu.ln {T E : TypeId} {x : Operand} {A : Option Addr} {n cp : Nat} (ht : c.P.underlying T = some (.slice E)) (hx : ev F x = some (.slice A n cp) := by rfl) : Pu c F K ⟨d, .call { callee := .builtin .len, args := #[x], argTypes := #[T] }, ty, pos, af, g⟩ (.int .i64 n) := Pu.len ht hx
section
variable {x y : Operand} {xt yt : TypeId} {i j : Int} {kk : IntKind}
theorem Pu.ad (hx : ev F x = some (.int .i64 i) := by rfl) (hy : ev F y = some (.int .i64 j) := by rfl) (h : -9223372036854775808 ≤ i + j ∧ i + j ≤ 9223372036854775807 := by omega) : Pu c F K ⟨d, .binOp .add xt x y yt, ty, pos, af, g⟩ (.int .i64 (i + j)) := Pu.add hx hy h
theorem Pu.ml (hx : ev F x = some (.int .i64 i) := by rfl) (hy : ev F y = some (.int .i64 j) := by rfl) (h : -9223372036854775808 ≤ i * j ∧ i * j ≤ 9223372036854775807 := by omega) : Pu c F K ⟨d, .binOp .mul xt x y yt, ty, pos, af, g⟩ (.int .i64 (i * j)) := Pu.mul hx hy h
theorem Pu.lt (hx : ev F x = some (.int kk i) := by rfl) (hy : ev F y = some (.int kk j) := by rfl) : Pu c F K ⟨d, .binOp .lss xt x y yt, ty, pos, af, g⟩ (.bool (decide (i < j))) := Pu.lss hx hy
theorem Pu.le (hx : ev F x = some (.int kk i) := by rfl) (hy : ev F y = some (.int kk j) := by rfl) : Pu c F K ⟨d, .binOp .leq xt x y yt, ty, pos, af, g⟩ (.bool (decide (i ≤ j))) := Pu.leq hx hy
theorem Pu.gt (hx : ev F x = some (.int kk i) := by rfl) (hy : ev F y = some (.int kk j) := by rfl) : Pu c F K ⟨d, .binOp .gtr xt x y yt, ty, pos, af, g⟩ (.bool (decide (j < i))) := Pu.gtr hx hy
theorem Pu.ge (hx : ev F x = some (.int kk i) := by rfl) (hy : ev F y = some (.int kk j) := by rfl) : Pu c F K ⟨d, .binOp .geq xt x y yt, ty, pos, af, g⟩ (.bool (decide (j ≤ i))) := Pu.geq hx hy
theorem Pu.eq (hx : ev F x = some (.int kk i) := by rfl) (hy : ev F y = some (.int kk j) := by rfl) : Pu c F K ⟨d, .binOp .eql xt x y yt, ty, pos, af, g⟩ (.bool (decide (i = j))) := Pu.eql hx hy
theorem Pu.no {b : Bool} (hx : ev F x = some (.bool b) := by rfl) : Pu c F K ⟨d, .unOp .not xt x, ty, pos, af, g⟩ (.bool !b) := Pu.not hx
theorem Pu.ng (hx : ev F x = some (.int .i64 i) := by rfl) (h : -9223372036854775807 ≤ i ∧ i ≤ 9223372036854775807 := by omega) : Pu c F K ⟨d, .unOp .neg xt x, ty, pos, af, g⟩ (.int .i64 (-i)) := Pu.neg hx h
theorem Pu.bn {op : BinOp} {u v r : Value} (hx : ev F x = some u := by rfl) (hy : ev F y = some v := by rfl) (hr : ∀ w, (do eqGuard op xt x y u v; binOp op xt u v : Sem Value).run c.P w = .ok r w := by (intro w; go_simp; rfl)) : Pu c F K ⟨d, .binOp op xt x y yt, ty, pos, af, g⟩ r := Pu.bin hx hy hr
theorem Pu.kt {z : Operand} {u : Value} (hz : ev F z = some (.bool true) := by rfl) (hx : ev F x = some u := by rfl) : Pu c F K ⟨d, .pick z x y, ty, pos, af, g⟩ u := Pu.pickT hz hx
theorem Pu.kf {z : Operand} {u : Value} (hz : ev F z = some (.bool false) := by rfl) (hy : ev F y = some u := by rfl) : Pu c F K ⟨d, .pick z x y, ty, pos, af, g⟩ u := Pu.pickF hz hy
end
theorem Pu.bd {T : TypeId} {ps : List (Nat × Operand)} {vs : List (Nat × Value)} {v : Value} (hx : evp F ps = some vs := by rfl) (hr : ∀ w, (Instr.build T vs.toArray).run c.P w = .ok v w := by (intro w; go_simp; rfl)) : Pu c F K ⟨d, .build T ps.toArray, ty, pos, af, g⟩ v := Pu.build hx hr
theorem Pu.ix {T : TypeId} {x y : Operand} {u u' v : Value} (hx : ev F x = some u := by rfl) (hy : ev F y = some u' := by rfl) (hr : ∀ w, (Instr.index T u u').run c.P w = .ok v w := by (intro w; go_simp; rfl)) : Pu c F K ⟨d, .index T x y, ty, pos, af, g⟩ v := Pu.index hx hy hr
theorem Pu.cv {S T : TypeId} {x : Operand} {u v : Value} (hx : ev F x = some u := by rfl) (hr : ∀ w, (convert S T u).run c.P w = .ok v w := by (intro w; go_simp; rfl)) : Pu c F K ⟨d, .convert S T x, ty, pos, af, g⟩ v := Pu.conv hx hr
theorem Mk.al {T : TypeId} {zs : List Value} (hT : Zr c.P T zs) : Mk c F K ⟨d, .alloc T, ty, pos, af, g⟩ (fun b => .pointer (some ⟨b, 0, none⟩)) T zs := Mk.alloc hT
theorem Mk.bx {T : TypeId} {x : Operand} {v : Value} {vs : List Value} (hx : ev F x = some v := by rfl) (hv : v.cells = vs.toArray := by rfl) : Mk c F K ⟨d, .box T x, ty, pos, af, g⟩ (fun b => .pointer (some ⟨b, 0, none⟩)) T vs := Mk.box hx hv
theorem Mk.bl {T E : TypeId} {len : Nat} {ps : List (Nat × Operand)} {vs : List (Nat × Value)} {cs : List Value} (hx : evp F ps = some vs := by rfl) (hr : ∀ w, (Instr.buildSlice T len vs.toArray).run c.P w = .ok (.slice (some ⟨w.heap.size, 0, none⟩) len len) (w.alloc (.cells cs.toArray E)) := by (intro w; go_simp; rfl)) :
    Mk c F K ⟨d, .buildSlice T len ps.toArray, ty, pos, af, g⟩ (fun b => .slice (some ⟨b, 0, none⟩) len len) E cs := Mk.bslice hx hr
theorem TL.st {x y : Operand} {T : TypeId} {b off m : Nat} {v : Value} {vs cs cs' : List Value} {E : TypeId} (hT : Sz c.P T m) (h : TL c ops Q rest F (.blk b E cs' :: K')) (hx : ev F x = some (.pointer (some ⟨b, off, none⟩)) := by rfl) (hy : ev F y = some v := by rfl) (hv : v.cells = vs.toArray := by rfl) (h1 : vs.all Value.oneCell' = true := by rfl) (hm : vs.length = m := by rfl)
    (hp : Pick K (.blk b E cs) K' := by repeat (first | exact Pick.hd | apply Pick.tl)) (hput : PutL cs off vs cs' := by repeat (first | exact PutL.nil | apply PutL.put | apply PutL.pass)) : TL c ops Q (⟨none, .store T x y, ty, pos, af, none⟩ :: rest) F K := TL.store hx hy hv h1 hT hm hp hput h
theorem TL.se {x y : Operand} {T : TypeId} {A : Option Addr} {n cp i j m : Nat} {E : TypeId} {sz : Nat} {r : Nat → List Value} {v : Value} {vs row : List Value} (hT : Sz c.P T m) (h : TL c ops Q rest F (.own A n cp E sz (updR r i row) :: K')) (hx : ev F x = some (.pointer (elA A i sz j)) := by rfl) (hy : ev F y = some v := by rfl) (hv : v.cells = vs.toArray := by rfl) (h1 : vs.all Value.oneCell' = true := by rfl) (hm : vs.length = m := by rfl)
    (hp : Pick K (.own A n cp E sz r) K' := by repeat (first | exact Pick.hd | apply Pick.tl)) (hk : i < n := by omega) (hput : PutL (r i) j vs row := by repeat (first | exact PutL.nil | apply PutL.put | apply PutL.pass)) : TL c ops Q (⟨none, .store T x y, ty, pos, af, none⟩ :: rest) F K := TL.storeEl hx hy hv h1 hT hm hp hk hput h
theorem TL.a0 {x y : Operand} {T E : TypeId} {sz bytes : Nat} {A A2 : Option Addr} {cp m cp2 : Nat} {r s : Nat → List Value} (hT : ElemT c.P T E sz bytes) (h : ∀ A' cp', TL c ops Q rest (fput F d (.slice A' m cp')) (.own A' m cp' E sz s :: K')) (hx : ev F x = some (.slice A 0 cp) := by rfl) (hy : ev F y = some (.slice A2 m cp2) := by rfl) (hd : dok d c.n = true := by rfl)
    (hp : Pick K (.own A 0 cp E sz r) K' := by repeat (first | exact Pick.hd | apply Pick.tl)) (hsrc : Src c K sz A2 m s := by first | exact Src.blk1 (by repeat (first | exact Pick.hd | apply Pick.tl)) rfl | exact Src.old (by assumption) (by first | exact Apart.nil | assumption) | exact Src.own (by repeat (first | exact Pick.hd | apply Pick.tl))) (h1 : ∀ i, i < m → (s i).all Value.oneCell' = true := by first | (intro i hi; rfl) | assumption) (hm : m ≤ 1000000000 := by omega) (hby : bytes ≤ 10000 := by decide) :
    TL c ops Q (⟨d, .call { callee := .builtin .append, args := #[x, y], argTypes := #[T, T] }, ty, pos, af, none⟩ :: rest) F K := TL.app0 hT hx hy hd hp hsrc h1 hm hby h
theorem TL.ap {x y : Operand} {T E : TypeId} {sz bytes : Nat} {A A2 : Option Addr} {n cp m cp2 : Nat} {r s : Nat → List Value} (hT : ElemT c.P T E sz bytes) (h : ∀ A' cp', TL c ops Q rest (fput F d (.slice A' (n + m) cp')) (.own A' (n + m) cp' E sz (catR n r s) :: K')) (hx : ev F x = some (.slice A n cp) := by rfl) (hy : ev F y = some (.slice A2 m cp2) := by rfl) (hd : dok d c.n = true := by rfl)
    (hp : Pick K (.own A n cp E sz r) K' := by repeat (first | exact Pick.hd | apply Pick.tl)) (hsrc : Src c K sz A2 m s := by first | exact Src.blk1 (by repeat (first | exact Pick.hd | apply Pick.tl)) rfl | exact Src.old (by assumption) (by first | exact Apart.nil | assumption) | exact Src.own (by repeat (first | exact Pick.hd | apply Pick.tl))) (h1 : ∀ i, i < m → (s i).all Value.oneCell' = true := by first | (intro i hi; rfl) | assumption) (hm : n + m ≤ 1000000000 := by omega) (hby : bytes ≤ 10000 := by decide) :
    TL c ops Q (⟨d, .call { callee := .builtin .append, args := #[x, y], argTypes := #[T, T] }, ty, pos, af, none⟩ :: rest) F K := TL.app hT hx hy hd hp hsrc h1 hm hby h
theorem TL.cr {f : FuncId} {xs : List Operand} {ts : Array TypeId} {us : List Value} {v : Value} (hx : evs F xs = some us) (hen : Enters c.P f) (hc : ∀ w, Sat c.S c.w0 K w → Calls c.P f us.toArray w (Ret w v)) (h : TL c ops Q rest (fput F d v) K) (hg : gdB F ops g = some true := by rfl) (hd : dok d c.n = true := by rfl) :
    TL c ops Q (⟨d, .call { callee := .value (.func f), args := xs.toArray, argTypes := ts }, ty, pos, af, g⟩ :: rest) F K := TL.gcall hg hx hen hd hc h
theorem WK.cr {i : Nat} {f : FuncId} {xs : List Operand} {ts : Array TypeId} {us : List Value} {v : Value} (hx : evs F xs = some us) (hen : Enters c.P f) (hc : ∀ w, Sat c.S c.w0 K w → Calls c.P f us.toArray w (Ret w v)) (h : WK c ops Q nf fl bs pend (fput F d v) K) (hg : gdB F (frontOf ops nf) g = some true := by rfl) (hd : dok d c.n = true := by rfl) :
    WK c ops Q nf fl (false :: bs) ((i, ⟨d, .call { callee := .value (.func f), args := xs.toArray, argTypes := ts }, ty, pos, af, g⟩) :: pend) F K := WK.gcall hg hx hen hd hc h
theorem WK.n (h : FLK c ops Q nf fl F K) (hok : (fl.all fun f => Nat.blt f.d c.n) = true := by rfl) : WK c ops Q nf fl [] [] F K := WK.nil hok h
theorem RV.c1 {T : TypeId} {q : Option Addr} {v : Value} {rs : List ResultVar} {vs : List Value} (hT : Sc c.P T) (h : RV c F K rs vs) (hx : fget F t = some (.pointer q) := by rfl) (hq : CellsN c K q 1 [v] := by first | exact CellsN.blk (by repeat (first | exact Pick.hd | apply Pick.tl)) (by repeat (first | exact SubL.nil | apply SubL.take | apply SubL.drop))) : RV c F K (.cell t T :: rs) (v :: vs) := .cell hx hT hq.1 h
end
end Go.Proofs.YtehlbkmebaideaaGreatDoor
namespace Go.Proofs.YtehlbkmebaideaaGreatDoor
set_option linter.all false
set_option linter.unusedVariables false
set_option linter.unusedSimpArgs false
open Go.RowKit
def sv (l : List UInt8) : Value := .string ⟨l.toArray⟩
theorem ba_app {a b : List UInt8} : (⟨a.toArray⟩ : ByteArray) ++ ⟨b.toArray⟩ = ⟨(a ++ b).toArray⟩ := by
  rw [ByteArray.ext_iff, ByteArray.data_append]
  simp
theorem ba_size {a : List UInt8} : (⟨a.toArray⟩ : ByteArray).size = a.length := by
  show a.toArray.size = a.length
  exact List.size_toArray
theorem ba_list {a : List UInt8} : (⟨a.toArray⟩ : ByteArray).toList = a := by
  rw [ByteArray.toList_eq]
section
variable {c : Cx} {F : Fr} {K : List Fact} {d : Option Tmp} {ty xt yt : TypeId} {pos : String} {af : Array Edge} {g : Option (Nat × Bool)} {x y : Operand} {a b : List UInt8}
theorem Pu.sad (hx : ev F x = some (sv a) := by rfl) (hy : ev F y = some (sv b) := by rfl) (hl : a.length + b.length ≤ 9223372036854775807 := by first | omega | (simp only [List.length_append, List.length_cons, List.length_nil]; omega)) : Pu c F K ⟨d, .binOp .add xt x y yt, ty, pos, af, g⟩ (sv (a ++ b)) := Pu.bin hx hy fun w => by
  have h1 : ¬ ((((⟨a.toArray⟩ : ByteArray).size + (⟨b.toArray⟩ : ByteArray).size : Nat) : Int) > IntKind.i64.max) := by
    rw [ba_size, ba_size]
    show ¬ (((a.length + b.length : Nat) : Int) > 9223372036854775807)
    omega
  simp only [eqGuard, binOp, sv, Op.stringOp]
  rw [if_neg h1, ba_app]
  rfl
theorem Pu.sw {o : Oper} (h : Pu c F K o (sv a)) (e : a = b) : Pu c F K o (sv b) := e ▸ h
theorem Pu.seq_ (hx : ev F x = some (sv a) := by rfl) (hy : ev F y = some (sv b) := by rfl) : Pu c F K ⟨d, .binOp .eql xt x y yt, ty, pos, af, g⟩ (.bool (decide (a = b))) := Pu.bin hx hy fun w => by
  have h1 : (a == b) = decide (a = b) := by
    rw [Bool.eq_iff_iff, decide_eq_true_eq, beq_iff_eq]
  simp only [eqGuard, binOp, sv, Op.stringOp, ba_list]
  rw [h1]
  rfl
theorem ba_get {a : List UInt8} {k : Nat} : (⟨a.toArray⟩ : ByteArray)[k]? = a[k]? := by
  show (if h : k < (⟨a.toArray⟩ : ByteArray).size then some ((⟨a.toArray⟩ : ByteArray)[k]'h) else none) = _
  by_cases h : k < a.length
  · rw [dif_pos (by rw [ba_size]; exact h), List.getElem?_eq_getElem h]
    rfl
  · rw [dif_neg (by rw [ba_size]; exact h), List.getElem?_eq_none (by omega)]
theorem Pu.sln {t : TypeId} (ht : c.P.underlying t = some .string) (hx : ev F x = some (sv a) := by rfl) : Pu c F K ⟨d, .call { callee := .builtin .len, args := #[x], argTypes := #[t] }, ty, pos, af, g⟩ (.int .i64 (a.length : Int)) := fun w1 w hF _ => by
  simp [execOp, resolve, invoke, builtin, Builtin.len_, hF.evl hx, run_underlying ht, goInt, sv, ba_size]
theorem Pu.six {t : TypeId} {i : Int} {k : Nat} {u : UInt8} (ht : c.P.underlying t = some .string) (hb : a[k]? = some u) (hx : ev F x = some (sv a) := by rfl) (hy : ev F y = some (.int .i64 i) := by rfl) (hk : i.toNat = k := by rfl) (h0 : 0 ≤ i := by omega) : Pu c F K ⟨d, .index t x y, ty, pos, af, g⟩ (.int .u8 (u.toNat : Int)) := fun w1 w hF _ => by
  subst hk
  simp [execOp, Instr.index, asIntOf, hF.evl hx, hF.evl hy, run_underlying ht, sv, h0, ba_get, hb]
end
end Go.Proofs.YtehlbkmebaideaaGreatDoor
namespace Go.Proofs.YtehlbkmebaideaaGreatDoor
set_option linter.all false
set_option linter.unusedVariables false
set_option linter.unusedSimpArgs false
open Go.RowKit
theorem KSub.refl : ∀ K : List Fact, KSub K K
  | [] => .nil
  | _ :: K => .cons .hd (KSub.refl K)
section
variable {c : Cx} {Q : Exit → Act → World → Prop} {F F' : Fr} {K K' K0 : List Fact} {ops : Array Oper} {rest : List Oper} {d : Option Tmp} {ty : TypeId} {pos : String} {af : Array Edge} {g : Option (Nat × Bool)} {k fuel t : Nat} {pend : List (Nat × Oper)} {listed : Array Bool} {op : Op}
theorem Pu.qu {x y : Operand} {xt yt : TypeId} {i j : Int} (hx : ev F x = some (.int .i64 i) := by rfl) (hy : ev F y = some (.int .i64 j) := by rfl) (h0 : 0 ≤ i ∧ i ≤ 9223372036854775807 ∧ 0 < j := by omega) : Pu c F K ⟨d, .binOp .quo xt x y yt, ty, pos, af, g⟩ (.int .i64 (i / j)) := Pu.bin hx hy fun w => by
  obtain ⟨h0, h1, h2⟩ := h0
  have hj : j ≠ 0 := by omega
  have e : i.tdiv j = i / j := Int.tdiv_eq_ediv_of_nonneg h0
  have h3 : 0 ≤ i / j := Int.ediv_nonneg h0 (by omega)
  have h4 : i / j ≤ i := Int.ediv_le_self j h0
  simp only [eqGuard, binOp, Op.intDiv, hj, if_false, e, IntWalk.i64_in (i / j) (by omega)]
  rfl
theorem Pu.rm {x y : Operand} {xt yt : TypeId} {i j : Int} (hx : ev F x = some (.int .i64 i) := by rfl) (hy : ev F y = some (.int .i64 j) := by rfl) (h0 : 0 ≤ i ∧ 0 < j := by omega) : Pu c F K ⟨d, .binOp .rem xt x y yt, ty, pos, af, g⟩ (.int .i64 (i % j)) := Pu.bin hx hy fun w => by
  obtain ⟨h0, h2⟩ := h0
  have hj : j ≠ 0 := by omega
  have e : i.tmod j = i % j := Int.tmod_eq_emod_of_nonneg h0
  simp only [eqGuard, binOp, Op.intDiv, hj, if_false, e]
  rfl
def nxt (Z : Act → World → Prop) (Q : Exit → Act → World → Prop) : Exit → Act → World → Prop
  | .normal, a, w => Z a w
  | e, a, w => Q e a w
theorem TQ.nxt {Z : Act → World → Prop} (h : TQ c (fun _ => Z) .normal F K) : TQ c (nxt Z Q) .normal F K := h
end
end Go.Proofs.YtehlbkmebaideaaGreatDoor
namespace Go.Proofs.YtehlbkmebaideaaGreatDoor
set_option linter.all false
set_option linter.unusedVariables false
set_option linter.unusedSimpArgs false
open Go.Lib
def ckB (s : Nat) (b : UInt8) : Nat := (37 * s + b.toNat) % 8191
def ckL (s : Nat) (t : List UInt8) : Nat := t.foldl ckB s
theorem ckL_app {s : Nat} {t x : List UInt8} : ckL s (t ++ x) = ckL (ckL s t) x := List.foldl_append
theorem ckL_snoc {s : Nat} {t : List UInt8} {b : UInt8} : ckL s (t ++ [b]) = ckB (ckL s t) b := by rw [ckL_app]; rfl
theorem ckB_lt {s : Nat} {b : UInt8} : ckB s b < 8191 := Nat.mod_lt _ (by decide)
theorem ckL_lt {s : Nat} (hs : s < 8191) : ∀ {t : List UInt8}, ckL s t < 8191
  | [] => hs
  | _ :: t => ckL_lt ckB_lt (t := t)
def phr (w : List UInt8) : List Int → List UInt8
  | [] => w
  | n :: l => phr (w ++ 32 :: itoa n) l
theorem phr_app {w : List UInt8} : ∀ {l m : List Int}, phr w (l ++ m) = phr (phr w l) m := by
  intro l
  induction l generalizing w with
  | nil => exact fun {m} => rfl
  | cons n l ih => exact fun {m} => ih
theorem phr_snoc {w : List UInt8} {l : List Int} {n : Int} : phr w (l ++ [n]) = phr w l ++ 32 :: itoa n := by rw [phr_app]; rfl
theorem phr_len {w : List UInt8} {l : List Int} (h : ∀ n, n ∈ l → -9223372036854775808 ≤ n ∧ n ≤ 9223372036854775807) : (phr w l).length ≤ w.length + 22 * l.length := by
  induction l generalizing w with
  | nil => exact Nat.le_refl _
  | cons n l ih =>
    have h1 := ih (w := w ++ 32 :: itoa n) fun m hm => h m (List.mem_cons_of_mem _ hm)
    have h2 := h n (List.mem_cons_self ..)
    have h3 := itoa_length_le n h2.1 h2.2
    simp only [List.length_append, List.length_cons] at h1 ⊢
    show (phr (w ++ 32 :: itoa n) l).length ≤ _
    omega
def tyL (t x : List UInt8) : List UInt8 := (t ++ x) ++ (32 :: itoa (ckL 23 (t ++ x) : Int) ++ [10])
def endL (s : Nat) (x : List UInt8) : List UInt8 := 32 :: itoa (ckL s x : Int) ++ [10]
theorem ty_end {t x : List UInt8} : tyL t x = t ++ (x ++ endL (ckL 23 t) x) := by
  unfold tyL endL
  rw [ckL_app, List.append_assoc]
def twL (t : List UInt8) : List (List UInt8) → List UInt8
  | [] => t
  | x :: l => twL (tyL t x) l
theorem tw_app {t : List UInt8} : ∀ {l m : List (List UInt8)}, twL t (l ++ m) = twL (twL t l) m := by
  intro l
  induction l generalizing t with
  | nil => exact fun {m} => rfl
  | cons x l ih => exact fun {m} => ih
theorem tw_snoc {t : List UInt8} {l : List (List UInt8)} {x : List UInt8} : twL t (l ++ [x]) = tyL (twL t l) x := by rw [tw_app]; rfl
def txtL (l : List (List UInt8)) : List UInt8 := twL [] (l ++ [phr [69] [(l.length : Int)]])
theorem txt_eq {l : List (List UInt8)} : txtL l = tyL (twL [] l) (phr [69] [(l.length : Int)]) := tw_snoc
def outL (l : List (List UInt8)) : List UInt8 × Int := if 30000 < (txtL l).length then ([], 9) else (txtL l, 0)
end Go.Proofs.YtehlbkmebaideaaGreatDoor
namespace Go.Proofs.YtehlbkmebaideaaGreatDoor
set_option linter.all false
set_option linter.unusedVariables false
set_option linter.unusedSimpArgs false
open Go.Lib
def wrB (n : Int) : Bool := decide (-1000000000000 ≤ n) && decide (n ≤ 1000000000000)
theorem wrB_iff {n : Int} : wrB n = true ↔ -1000000000000 ≤ n ∧ n ≤ 1000000000000 := by
  unfold wrB
  rw [Bool.and_eq_true, decide_eq_true_eq, decide_eq_true_eq]
structure Ltr where
  id : Int
  day : Int
  kind : Int
  who : Int
  other : Int
  animal : Int
  rials : Int
  mouth : Bool
def ltrN (x : Ltr) : List Int := [x.id, x.day, x.kind, x.who, x.other, x.animal, x.rials, if x.mouth then 1 else 0]
def rowN (f : Nat → Int) : List Int := (List.range 14).map f
def pgR (f : Nat → Nat → Int) (n : Nat) : List (UInt8 × List Int) := (List.range n).map fun i => (82, rowN (f i))
def pgL (g : Nat → Ltr) (n : Nat) : List (UInt8 × List Int) := (List.range n).map fun i => (76, ltrN (g i))
theorem pgR_succ {f : Nat → Nat → Int} {n : Nat} : pgR f (n + 1) = pgR f n ++ [(82, rowN (f n))] := by
  unfold pgR; rw [List.range_succ, List.map_append]; rfl
theorem pgL_succ {g : Nat → Ltr} {n : Nat} : pgL g (n + 1) = pgL g n ++ [(76, ltrN (g n))] := by
  unfold pgL; rw [List.range_succ, List.map_append]; rfl
theorem pgR_len {f : Nat → Nat → Int} {n : Nat} : (pgR f n).length = n := by unfold pgR; rw [List.length_map, List.length_range]
theorem pgL_len {g : Nat → Ltr} {n : Nat} : (pgL g n).length = n := by unfold pgL; rw [List.length_map, List.length_range]
def pgOk (l : List (UInt8 × List Int)) : Bool := l.all fun p => p.2.all wrB
theorem pgOk_app {l m : List (UInt8 × List Int)} : pgOk (l ++ m) = (pgOk l && pgOk m) := List.all_append
def pgT (l : List (UInt8 × List Int)) : List (List UInt8) := l.map fun p => phr [p.1] p.2
theorem pgT_app {l m : List (UInt8 × List Int)} : pgT (l ++ m) = pgT l ++ pgT m := List.map_append
def bkOk (f : Nat → Nat → Int) (nr : Nat) (g : Nat → Ltr) (nl : Nat) : Bool := pgOk (pgR f nr ++ pgL g nl) && decide (nr + nl ≤ 300)
def bkW (f : Nat → Nat → Int) (nr : Nat) (g : Nat → Ltr) (nl : Nat) : List UInt8 × Int := if bkOk f nr g nl then outL (pgT (pgR f nr ++ pgL g nl)) else ([], 2)
def cmT : List (List UInt8 × Nat) := [([77, 65, 82, 67, 72], 9), ([82, 69, 83, 84], 4), ([77, 65, 82, 75], 6), ([83, 84, 65, 82], 2), ([78, 69, 65, 82], 3), ([68, 82, 73, 78, 75], 1), ([74, 79, 76, 84], 2), ([83, 69, 84, 84, 76, 69], 1), ([82, 79, 87], 14), ([76, 69, 84, 84, 69, 82], 8)]
def cmB (w : List UInt8) (n : Nat) : Bool := cmT.any fun p => decide (p.1 = w) && decide (n = p.2)
structure Ent where
  day : Int
  word : List UInt8
  args : List Int
def entOk (x : Ent) : Bool := cmB x.word x.args.length && wrB x.day && x.args.all wrB
def entT (x : Ent) : List UInt8 := phr (phr [68] [x.day] ++ 32 :: x.word) x.args
def lgW (x : Nat → Ent) (n : Nat) : List UInt8 × Int := if decide (n ≤ 200) && ((List.range n).map x).all entOk then outL (((List.range n).map x).map entT) else ([], 2)
theorem cm_one {w : List UInt8} {n m : Nat} (h : (w, m) ∈ cmT) : cmB w n = decide (n = m) := by
  have h1 : ∀ p, p ∈ cmT → ∀ q, q ∈ cmT → p.1 = q.1 → p = q := by decide
  unfold cmB
  by_cases e : n = m
  · subst e
    rw [decide_eq_true rfl]
    exact List.any_eq_true.2 ⟨_, h, by simp⟩
  · rw [decide_eq_false e]
    refine List.any_eq_false.2 fun p hp => ?_
    simp only [Bool.and_eq_true, decide_eq_true_eq, not_and]
    intro h2 h3
    have := h1 p hp _ h h2
    subst this
    exact e h3
theorem cm_none {w : List UInt8} {n : Nat} (h : ∀ p, p ∈ cmT → p.1 ≠ w) : cmB w n = false :=
  List.any_eq_false.2 fun p hp => by
    simp only [Bool.and_eq_true, decide_eq_true_eq, not_and]
    exact fun h2 => absurd h2 (h p hp)
end Go.Proofs.YtehlbkmebaideaaGreatDoor
namespace Go.Proofs.YtehlbkmebaideaaGreatDoor
set_option linter.all false
set_option linter.unusedVariables false
set_option linter.unusedSimpArgs false
open Go.Lib
theorem ck_int {s : Nat} {t : List UInt8} (hs : s < 8191) : (itoa (ckL s t : Int)).length ≤ 21 := itoa_length_le _ (by omega) (by have := ckL_lt hs (t := t); omega)
theorem ty_len {t x : List UInt8} : (tyL t x).length ≤ t.length + x.length + 23 := by
  have h := ck_int (s := 23) (t := t ++ x) (by decide)
  unfold tyL
  simp only [List.length_append, List.length_cons, List.length_nil]
  omega
theorem end_len {s : Nat} {x : List UInt8} (hs : s < 8191) : (endL s x).length ≤ 23 := by
  have h := ck_int (s := s) (t := x) hs
  unfold endL
  simp only [List.length_append, List.length_cons, List.length_nil]
  omega
theorem tw_len {B : Nat} : ∀ {l : List (List UInt8)} {t : List UInt8}, (∀ x, x ∈ l → x.length ≤ B) → (twL t l).length ≤ t.length + l.length * (B + 23)
  | [], t, _ => by
    show t.length ≤ _
    omega
  | x :: l, t, h => by
    have h1 := tw_len (l := l) (t := tyL t x) fun y hy => h y (List.mem_cons_of_mem _ hy)
    have h2 := ty_len (t := t) (x := x)
    have h3 := h x (List.mem_cons_self ..)
    have h4 : (l.length + 1) * (B + 23) = l.length * (B + 23) + (B + 23) := Nat.succ_mul _ _
    show (twL (tyL t x) l).length ≤ t.length + (l.length + 1) * (B + 23)
    omega
theorem wr_bd {n : Int} (h : wrB n = true) : -9223372036854775808 ≤ n ∧ n ≤ 9223372036854775807 := by
  have := wrB_iff.1 h
  omega
theorem phr_wr {w : List UInt8} {l : List Int} (h : l.all wrB = true) : (phr w l).length ≤ w.length + 22 * l.length :=
  phr_len fun n hn => wr_bd (List.all_eq_true.1 h n hn)
theorem ent_len {x : Ent} (h : entOk x = true) (hw : x.word.length ≤ 40) (ha : x.args.length ≤ 20) : (entT x).length ≤ 1000 := by
  unfold entOk at h
  rw [Bool.and_eq_true, Bool.and_eq_true] at h
  have h1 := phr_wr (w := phr [68] [x.day] ++ 32 :: x.word) h.2
  have h2 := phr_wr (w := [68]) (l := [x.day]) (by simp [h.1.2])
  simp only [List.length_append, List.length_cons, List.length_nil] at h1 h2
  unfold entT
  omega
theorem pg_len {p : UInt8 × List Int} (h : p.2.all wrB = true) (hl : p.2.length ≤ 14) : (phr [p.1] p.2).length ≤ 1000 := by
  have h1 := phr_wr (w := [p.1]) h
  simp only [List.length_cons, List.length_nil] at h1
  omega
end Go.Proofs.YtehlbkmebaideaaGreatDoor
namespace Go.Proofs.YtehlbkmebaideaaGreatDoor
set_option linter.all false
set_option linter.unusedVariables false
set_option linter.unusedSimpArgs false
open Go.RowKit Go.Lib
theorem retI {a b : Int} (h : a = b) : Ending.returned (.int .i64 a) = .returned (.int .i64 b) := by rw [h]
theorem retS {a b : List UInt8} (h : a = b) : Ending.returned (sv a) = .returned (sv b) := by rw [h]
theorem u8_bd (b : UInt8) : b.toNat ≤ 255 := by have := b.toNat_lt; omega
set_option maxRecDepth 100000 in
theorem step_any {s : Nat} {b : UInt8} (hs : s < 8191) (w : World) : Calls Tryz.prog 70 #[.int .i64 (s : Int), .int .u8 (b.toNat : Int)] w (Ret w (.int .i64 (ckB s b : Int))) := by
  have hb := u8_bd b
  refine K_enter (S := []) (K := []) Tryz.func70 rfl Tryz.ntmps70 rfl (Sat.start _) ?_
  refine TW.seq fun Y1 hY1 => ?_
  refine TW.region ?_
  refine TL.p Pu.as ?_
  refine TL.nil ?_
  refine TQ.thenN (hY1 _ _ ?_)
  refine TW.seq fun Y2 hY2 => ?_
  refine TW.region ?_
  refine TL.p Pu.mv ?_
  refine TL.p Pu.ml ?_
  refine TL.p Pu.mv ?_
  refine TL.p (Pu.cv (v := .int .i64 (b.toNat : Int)) rfl (fun w => by go_simp; rw [IntWalk.i64_in (b.toNat : Int) (by omega)])) ?_
  refine TL.p Pu.ad ?_
  refine TL.p Pu.rm ?_
  refine TL.p Pu.as ?_
  refine TL.nil ?_
  refine TQ.thenN (hY2 _ _ ?_)
  refine TW.ret ?_
  refine TQ.ret Tryz.results70 rfl ((.tmp rfl .nil)) ?_
  exact fun w hw => ⟨retI (by unfold ckB; omega), Chg.ext hw.chg⟩
set_option maxRecDepth 100000 in
theorem sum_any {t : List UInt8} (ht : t.length ≤ 1000000000) (w : World) : Calls Tryz.prog 51 #[sv t] w (Ret w (.int .i64 (ckL 23 t : Int))) := by
  refine K_enter (S := []) (K := []) Tryz.func51 rfl Tryz.ntmps51 rfl (Sat.start _) ?_
  refine TW.seq fun Y1 hY1 => ?_
  refine TW.region ?_
  refine TL.p Pu.as ?_
  refine TL.nil ?_
  refine TQ.thenN (hY1 _ _ ?_)
  refine TW.seq fun Y2 hY2 => ?_
  refine TW.region ?_
  refine TL.p Pu.as ?_
  refine TL.nil ?_
  refine TQ.thenN (hY2 _ _ ?_)
  refine TW.seq fun Y3 hY3 => ?_
  refine TW.seq fun Y4 hY4 => ?_
  refine TW.region ?_
  refine TL.p Pu.as ?_
  refine TL.nil ?_
  refine TQ.thenN (hY4 _ _ ?_)
  refine TW.block ?_
  refine TW.loop1 (fun (k : Nat) => [(4, .int .i64 (k : Int)), (3, .int .i64 (ckL 23 (t.take k) : Int)), (0, sv t)]) (fun k => []) (fun k => k ≤ t.length) (fun k => t.length - k) 0 (by repeat (first | exact trivial | refine ⟨rfl, ?_⟩ | refine ⟨trivial, ?_⟩)) ?_ ?_ ?_
  · exact (by repeat (first | exact KSub.nil | refine KSub.cons (by repeat (first | exact Pick.hd | apply Pick.tl)) ?_))
  · exact Nat.zero_le _
  rintro k hk Z0 hZ0
  have hck : ckL 23 (t.take k) < 8191 := ckL_lt (by decide)
  refine TW.seq fun Y5 hY5 => ?_
  refine TW.seq fun Y6 hY6 => ?_
  refine TW.region ?_
  refine TL.p Pu.mv ?_
  refine TL.p Pu.mv ?_
  refine TL.p (Pu.sln Tryz.underlying9) ?_
  refine TL.p Pu.lt ?_
  refine TL.nil ?_
  refine TQ.thenN (hY6 _ _ ?_)
  refine TW.cond rfl (fun hc0 => ?_) (fun hc0 => ?_)
  · try simp only [decide_eq_true_eq, decide_eq_false_iff_not, Bool.not_eq_true', Bool.not_eq_false', Bool.and_eq_true, Bool.or_eq_true, Bool.and_eq_false_iff, Bool.or_eq_false_iff, Int.not_lt, Int.not_le] at hc0
    have hkl : k < t.length := by omega
    have hg : t[k]? = some t[k] := List.getElem?_eq_getElem hkl
    have hst : ckB (ckL 23 (t.take k)) t[k] = ckL 23 (t.take (k + 1)) := by rw [List.take_succ, hg]; exact ckL_snoc.symm
    refine TW.skip ?_
    refine TQ.thenN (hY5 _ _ ?_)
    refine TW.seq fun Y7 hY7 => ?_
    refine TW.block ?_
    refine TW.region ?_
    refine TL.p Pu.mv ?_
    refine TL.p Pu.mv ?_
    refine TL.p Pu.mv ?_
    refine TL.p (Pu.six Tryz.underlying9 hg) ?_
    refine TL.cr rfl (enters Tryz.func70 rfl rfl) (fun w hw => by
        have h9 := step_any (b := t[k]) hck
        rw [hst] at h9
        exact h9 _) ?_
    refine TL.p Pu.as ?_
    refine TL.nil ?_
    refine TQ.blkN ?_
    refine TQ.thenN (hY7 _ _ ?_)
    refine TW.region ?_
    refine TL.p Pu.mv ?_
    refine TL.p Pu.ad ?_
    refine TL.p Pu.as ?_
    refine TL.nil ?_
    refine TQ.thenN (hZ0 (k + 1) _ _ ?_ ?_ (by repeat (first | exact trivial | refine ⟨rfl, ?_⟩ | refine ⟨trivial, ?_⟩)) ?_)
    · exact (by omega)
    · exact (by first | omega | (simp only []; omega) | (simp; omega))
    · exact (by repeat (first | exact KSub.nil | refine KSub.cons (by repeat (first | exact Pick.hd | apply Pick.tl)) ?_))
  · try simp only [decide_eq_true_eq, decide_eq_false_iff_not, Bool.not_eq_true', Bool.not_eq_false', Bool.and_eq_true, Bool.or_eq_true, Bool.and_eq_false_iff, Bool.or_eq_false_iff, Int.not_lt, Int.not_le] at hc0
    obtain rfl : k = t.length := by omega
    refine TW.exit ?_
    refine TQ.thenX ?_
    refine TQ.thenX ?_
    refine TQ.blkX ?_
    refine TQ.thenN (hY3 _ _ ?_)
    refine TW.seq fun Y8 hY8 => ?_
    refine TW.region ?_
    refine TL.p Pu.mv ?_
    refine TL.p Pu.as ?_
    refine TL.nil ?_
    refine TQ.thenN (hY8 _ _ ?_)
    refine TW.ret ?_
    refine TQ.ret Tryz.results51 rfl ((.tmp rfl .nil)) ?_
    exact fun w hw => ⟨retI (by rw [List.take_length]), Chg.ext hw.chg⟩
end Go.Proofs.YtehlbkmebaideaaGreatDoor
namespace Go.Proofs.YtehlbkmebaideaaGreatDoor
set_option linter.all false
set_option linter.unusedVariables false
set_option linter.unusedSimpArgs false
open Go.RowKit
section
variable {c : Cx} {Q : Exit → Act → World → Prop} {F F' : Fr} {K K' K0 : List Fact} {ops : Array Oper} {rest : List Oper} {d : Option Tmp} {ty : TypeId} {pos : String} {af : Array Edge} {g : Option (Nat × Bool)} {k fuel t nf : Nat} {pend : List (Nat × Oper)} {listed : Array Bool} {bs : List Bool} {fl : List Fl} {op : Op}
theorem wpList_yes' {P : Program} {o : Oper} {v : Value} {a : Act} {w w' : World} (hg : Region.wanted o (yielded ops a.tmps) = true) (hr : (execOp a.eval o).run P w = .ok (.value v) w') (h : wpList P ops Q rest (a.put o.dst v) w') : wpList P ops Q (o :: rest) a w := by
  unfold wpList
  rw [if_pos hg]
  exact .inl (by unfold Oper.wp; rw [hr]; exact h)
theorem TL.gm {v : Nat → Value} {T : TypeId} {cs : List Value} (hm : Mk c F K ⟨d, op, ty, pos, af, g⟩ v T cs) (h : ∀ b, TL c ops Q rest (fput F d (v b)) (.blk b T cs :: K)) (hg : gdB F ops g = some true := by rfl) (hd : dok d c.n = true := by rfl) : TL c ops Q (⟨d, op, ty, pos, af, g⟩ :: rest) F K := fun a w hF hK =>
  wpList_yes' (hF.wanted hg) (hm a w hF hK) (h _ _ _ (hF.fput hd _) (hK.new T cs))
theorem run_callv {P : Program} {f : FuncId} {fs us cs : List Value} {w : World} {x : Operand} {xs : List Operand} {ts : Array TypeId} {o : Oper} {ρ : Operand → Value} (hf : ρ x = .func (.func f) fs.toArray cs.toArray) (hx : xs.map ρ = us) (hen : Enters P f) (ho : o.op = .call { callee := .value x, args := xs.toArray, argTypes := ts }) :
    (execOp ρ o).run P w = .ok (.enter f (fs ++ us ++ cs).toArray) w := by
  have h9 := hen (fs ++ us ++ cs).toArray w
  have e : fs.toArray ++ us.toArray ++ cs.toArray = (fs ++ us ++ cs).toArray := by simp
  simp only [execOp, ho, resolve, hf, Deferred.ofValue, List.map_toArray, hx, Sem.run_bind, Sem.run_pure, Result.andThen_ok, invoke, e]
  exact h9
theorem TL.cvk {f : FuncId} {x : Operand} {xs : List Operand} {ts : Array TypeId} {us fs cs : List Value} {M : List Fact} {X : Type} {val : X → Value} {L : X → List Fact} (hf : ev F x = some (.func (.func f) fs.toArray cs.toArray)) (hx : evs F xs = some us) (hen : Enters c.P f) (hM : K.Perm (M ++ K'))
    (hc : ∀ w, Sat c.S c.w0 K w → CallsK c.P f (fs ++ us ++ cs).toArray M w X val L) (h : ∀ x, TL c ops Q rest (fput F d (val x)) (L x ++ K')) (hd : dok d c.n = true := by rfl) : TL c ops Q (⟨d, .call { callee := .value x, args := xs.toArray, argTypes := ts }, ty, pos, af, none⟩ :: rest) F K := fun a w hF hK =>
  wpList_plain rfl fun Z hZ => by
    unfold Oper.wp
    rw [run_callv (hF.evl hf) (hF.evsl hx) hen rfl]
    refine Calls.mono (hc w hK) ?_
    rintro e w' ⟨x, rfl, hs⟩
    exact hZ _ _ (h x _ _ (hF.fput hd _) ((hK.perm hM).step hs))
def OldB (w0 : World) (b : Nat) (cs : List Value) : Prop := b < w0.heap.size ∧ ∀ j v, cs[j]? = some v → w0.cell? ⟨b, j, none⟩ = some v
theorem CellsN.ob {b off m : Nat} {cs vs : List Value} (h : OldB c.w0 b cs) (hS : Apart c.S (some ⟨b, 0, none⟩)) (hs : SubL cs off m vs) : CellsN c K (some ⟨b, off, none⟩) m vs := ⟨fun w hK => ⟨b, off, rfl, fun j v hv => by
  rw [hK.chg.cell h.1 (hS b rfl)]
  exact h.2 _ _ (hs.spec.2 j v hv)⟩, hs.spec.1⟩
theorem OldB.of_blk {w0 : World} {b : Nat} {T : TypeId} {cs : List Value} (h : Blk w0 b T cs.toArray) : OldB w0 b cs := ⟨h.lt, fun j v hv => by rw [h.cell]; simpa using hv⟩
theorem OldB.ext {w w' : World} {b : Nat} {cs : List Value} (h : OldB w b cs) (he : Below w.heap.size w w') : OldB w' b cs := ⟨Nat.lt_of_lt_of_le h.1 he.size, fun j v hv => by rw [he.cell (p := ⟨b, j, none⟩) h.1]; exact h.2 j v hv⟩
theorem Pu.ldo {x : Operand} {T : TypeId} {q : Option Addr} {v : Value} (hT : Sc c.P T) (hx : ev F x = some (.pointer q) := by rfl) (hq : CellsN c K q 1 [v] := by exact CellsN.ob (by assumption) (by first | exact Apart.nil | assumption) (by repeat (first | exact SubL.nil | apply SubL.take | apply SubL.drop))) : Pu c F K ⟨d, .load T x, ty, pos, af, g⟩ v := Pu.load hx hT hq.1
end
theorem Rd.chg {w w' : World} {S : List Nat} {sz n : Nat} {A : Option Addr} {f : Nat → Nat → Value} (h : Rd w sz A n f) (hc : Chg S w w') (hA : Apart S A) : Rd w' sz A n f := fun hn => by
  obtain ⟨b, o, rfl, hb, hcell⟩ := h hn
  exact ⟨b, o, rfl, Nat.lt_of_lt_of_le hb hc.size, fun i j hi hj => by rw [hc.cell hb (hA b rfl)]; exact hcell i j hi hj⟩
theorem RdR.chg {w w' : World} {S : List Nat} {sz n : Nat} {A : Option Addr} {r : Nat → List Value} (h : RdR w sz A n r) (hc : Chg S w w') (hA : Apart S A) : RdR w' sz A n r := ⟨h.rd.chg hc hA, h.len⟩
theorem RdR.sat {w w' : World} {S : List Nat} {K : List Fact} {sz n : Nat} {A : Option Addr} {r : Nat → List Value} (h : RdR w sz A n r) (hs : Sat S w K w') (hA : Apart S A) : RdR w' sz A n r := h.chg hs.chg hA
theorem RdR.sat0 {w w' : World} {S : List Nat} {K : List Fact} {sz n : Nat} {A : Option Addr} {r : Nat → List Value} (h : RdR w sz A n r) (hs : Sat S w K w') (hA : 0 < n → Apart S A) : RdR w' sz A n r :=
  ⟨fun hn => h.rd.chg hs.chg (hA hn) hn, h.len⟩
theorem Sat.self {S : List Nat} {w0 w : World} {K : List Fact} (h : Sat S w0 K w) : Sat (feet K) w K w := ⟨Chg.refl _ _, h.nd, fun _ hb => .inl hb, h.holds⟩
theorem Sat.from {S T : List Nat} {w0 w1 w : World} {K : List Fact} (h : Sat T w1 K w) (hc : Chg S w0 w1) (hT : ∀ b ∈ T, b ∈ S ∨ w0.heap.size ≤ b) : Sat S w0 K w :=
  ⟨⟨h.chg.os.trans hc.os, h.chg.tape.trans hc.tape, h.chg.output.trans hc.output, Nat.le_trans hc.size h.chg.size, fun i hi hS => (h.chg.block i (Nat.lt_of_lt_of_le hi hc.size) (fun hm => by
      rcases hT i hm with h1 | h1
      · exact hS h1
      · omega)).trans (hc.block i hi hS)⟩, h.nd, fun b hb => by
    rcases h.ge b hb with h1 | h1
    · exact hT b h1
    · exact .inr (Nat.le_trans hc.size h1), h.holds⟩
theorem CallsK.retOf {P : Program} {f : FuncId} {args : Array Value} {w : World} {X : Type} {val : X → Value} {v : Value} (h : CallsK P f args [] w X val (fun _ => [])) (hv : ∀ x, val x = v) : Calls P f args w (Ret w v) :=
  Calls.mono h fun e w' ⟨x, he, hs⟩ => ⟨by rw [he, hv x], Chg.ext hs.chg⟩
section
variable {c : Cx} {Q : Exit → Act → World → Prop} {F F' : Fr} {K K' K0 : List Fact} {ops : Array Oper} {listed : Array Bool} {fuel : Nat}
end
theorem zcb9 : (∀ (p : Prop) [Decidable p], (decide p = true) = p) ∧ (∀ (p : Prop) [Decidable p], decide p = false ↔ ¬p) ∧ (∀ b, ((!b) = true) = (b = false)) ∧ (∀ b, ((!b) = false) = (b = true)) ∧ (∀ a b : Bool, ((a && b) = true) = (a = true ∧ b = true)) ∧ (∀ a b : Bool, ((a || b) = true) = (a = true ∨ b = true)) ∧ (∀ a b : Bool, (a && b) = false ↔ a = false ∨ b = false) ∧ (∀ a b : Bool, (a || b) = false ↔ a = false ∧ b = false) ∧ (∀ a b : Int, ¬a < b ↔ b ≤ a) ∧ (∀ a b : Int, ¬a ≤ b ↔ b < a) :=
  ⟨@decide_eq_true_eq, @decide_eq_false_iff_not, Bool.not_eq_true', Bool.not_eq_false', Bool.and_eq_true, Bool.or_eq_true, @Bool.and_eq_false_iff, @Bool.or_eq_false_iff, @Int.not_lt, @Int.not_le⟩
theorem zom9 {p : Prop} (h : p := by first | omega | (simp only []; omega) | (simp; omega)) : p := h
theorem pk9 {K K2 : List Fact} {φ : Fact} (h : Pick K φ K2 := by repeat (first | exact Pick.hd | apply Pick.tl)) : Pick K φ K2 := h
theorem fs9 {F G : Fr} (h : fsub F G := by repeat (first | exact trivial | refine ⟨rfl, ?_⟩ | refine ⟨trivial, ?_⟩)) : fsub F G := h
theorem ks9 {K L : List Fact} (h : KSub K L := by repeat (first | exact KSub.nil | refine KSub.cons (by repeat (first | exact Pick.hd | apply Pick.tl)) ?_)) : KSub K L := h
end Go.Proofs.YtehlbkmebaideaaGreatDoor
namespace Go.Proofs.YtehlbkmebaideaaGreatDoor
set_option linter.all false
set_option linter.unusedVariables false
set_option linter.unusedSimpArgs false
open Go.RowKit Go.MapKept
section
variable {c : Cx} {Q : Exit → Act → World → Prop} {F F' : Fr} {K K' K0 : List Fact} {ops : Array Oper} {rest : List Oper} {d : Option Tmp} {ty : TypeId} {pos : String} {af : Array Edge} {g : Option (Nat × Bool)} {k fuel t nf : Nat} {pend : List (Nat × Oper)} {listed : Array Bool} {bs : List Bool} {fl : List Fl} {op : Op}
theorem Sat.newObj {S : List Nat} {w0 w : World} (h : Sat S w0 K w) (o : Obj) (ho : o.isCells = false) : Sat S w0 (.obj w.heap.size o :: K) (w.alloc o) :=
 h.add (L := [_]) (Sat.one (Chg.of_ext ((Below.refl _ _).alloc (Nat.le_refl _) _)) (by simp [Fact.foot]) (fun b hb => by simp [Fact.foot] at hb; subst hb; exact .inr (Nat.le_refl _)) ⟨(heap_alloc w o).1, ho⟩)
end
end Go.Proofs.YtehlbkmebaideaaGreatDoor
namespace Go.Proofs.YtehlbkmebaideaaGreatDoor
set_option linter.all false
set_option linter.unusedVariables false
set_option linter.unusedSimpArgs false
open Go.RowKit
theorem KSub.drop {φ : Fact} : ∀ {K L : List Fact}, KSub K L → KSub (φ :: K) L
 | _, _, .nil => .nil
 | _, _, .nilOwn h => .nilOwn (KSub.drop h)
 | _, _, .cons hp h => .cons (.tl hp) (KSub.drop h)
 | _, _, .own hp hr h => .own (.tl hp) hr (KSub.drop h)
 | _, _, .ofBlk hp h1 h2 h3 h4 h => .ofBlk (.tl hp) h1 h2 h3 h4 (KSub.drop h)
section
variable {c : Cx} {Q : Exit → Act → World → Prop} {F F' : Fr} {K K' K0 : List Fact} {ops : Array Oper} {rest : List Oper} {d : Option Tmp} {ty : TypeId} {pos : String} {af : Array Edge} {g : Option (Nat × Bool)} {t : Nat}
end
end Go.Proofs.YtehlbkmebaideaaGreatDoor
