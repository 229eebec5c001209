/-
  The layer's rules: a region walked in its orders with given facts held; guarded calls that give facts; facts in another order. No condition on a program.
-/
import Derived.Test.YtckiagbllkdfdaaKi
namespace Go.Proofs.Ytckiagbllkdfdaa
set_option linter.all false
set_option linter.unusedVariables false
set_option linter.unusedSimpArgs false
open Go.RowKit
theorem TL.perm {c : Cx} {Q : Exit → Act → World → Prop} {F : Fr} {K K2 : List Fact} {ops : Array Oper} {rest : List Oper} (hp : K.Perm K2) (h : TL c ops Q rest F K2) : TL c ops Q rest F K := fun a w hF hK => h a w hF (hK.perm hp)
theorem KSub.perm : ∀ {L K : List Fact}, K.Perm L → KSub K L
  | [], K, _ => .nil
  | φ :: L, K, h => by
    have hm : φ ∈ K := h.mem_iff.2 (by simp)
    obtain ⟨K1, hp⟩ : ∃ K1, Pick K φ K1 := by
      clear h
      induction K with
      | nil => cases hm
      | cons ψ K ih =>
        rcases List.mem_cons.1 hm with rfl | hm
        · exact ⟨K, .hd⟩
        · obtain ⟨K1, h1⟩ := ih hm
          exact ⟨ψ :: K1, .tl h1⟩
    exact .cons hp (KSub.perm ((hp.perm.symm.trans h).cons_inv))
theorem KSub.dropL : ∀ (X : List Fact) {Y L : List Fact}, KSub Y L → KSub (X ++ Y) L
  | [], _, _, h => h
  | _ :: X, _, _, h => KSub.drop (KSub.dropL X h)
section
variable {c : Cx} {Q : Exit → Act → World → Prop} {F F' : Fr} {K K' : List Fact} {ops : Array Oper} {rest : List Oper} {d : Option Tmp} {ty : TypeId} {pos : String} {af : Array Edge} {g : Option (Nat × Bool)} {nf : Nat} {pend : List (Nat × Oper)} {fl : List Fl} {bs : List Bool}
theorem TW.expk {id : Nat} {l : List Oper} {X : Type} (K0 : List Fact) (Fj : X → Fr) (Kj : X → List Fact) (h1 : ∀ x, TQ c Q .normal (Fj x) (Kj x)) (h2 : (∀ x, TQ c Q .normal (Fj x) (Kj x)) → RG c l.toArray Q K0 [] (Array.replicate l.length false) l.length F K) (hm : c.P.follows .mixedOrders = true := by rfl) : TW c (.region id l.toArray true) Q F K := fun a w hF hK => by
  refine wp_region_any hm (wpAny_of_held (S := Sat c.S c.w0 K0) _ _ _ _ ?_)
  rw [List.size_toArray]
  exact h2 h1 (fun p hp => by cases hp) a w.drew hF (hK.ext (keep_drew w))
theorem WK.gck {i : Nat} {f : FuncId} {xs : List Operand} {ts : Array TypeId} {us : List Value} {X : Type} {val : X → Value} {L : X → List Fact} (hx : evs F xs = some us) (hen : Enters c.P f)
    (hc : ∀ w, Sat c.S c.w0 K w → CallsK c.P f us.toArray [] w X val L) (h : ∀ x, WK c ops Q nf fl bs pend (fput F d (val x)) (L x ++ K)) (hg : gdB F (frontOf ops nf) g = some true := by rfl) (hd : dok d c.n = true := by rfl) :
    WK c ops Q nf fl (false :: bs) ((i, ⟨d, .call { callee := .value (.func f), args := xs.toArray, argTypes := ts }, ty, pos, af, g⟩) :: pend) F K :=
  WK.act fun a w' K' hF hK ho hK' => by
    refine wpOp_of ho (hF.wanted hg) ?_
    have hr : (execOp a.eval ⟨d, .call { callee := .value (.func f), args := xs.toArray, argTypes := ts }, ty, pos, af, g⟩).run c.P w' = .ok (.enter f us.toArray) w' := by
      have := hF.evsl hx
      have h9 := hen us.toArray w'
      simp [execOp, resolve, invoke, Deferred.ofValue, Act.eval, this, h9]
    unfold Oper.wp
    rw [hr]
    refine Calls.mono (hc w' hK) ?_
    rintro e w'' ⟨x, rfl, hs⟩
    exact hK' _ _ _ _ hs (hF.fput hd _) (h x)
theorem TL.gck {f : FuncId} {xs : List Operand} {ts : Array TypeId} {us : List Value} {X : Type} {val : X → Value} {L : X → List Fact} (hx : evs F xs = some us) (hen : Enters c.P f)
    (hc : ∀ w, Sat c.S c.w0 K w → CallsK c.P f us.toArray [] w X val L) (h : ∀ x, TL c ops Q rest (fput F d (val x)) (L x ++ K)) (hg : gdB F ops g = some true := by rfl) (hd : dok d c.n = true := by rfl) :
    TL c ops Q (⟨d, .call { callee := .value (.func f), args := xs.toArray, argTypes := ts }, ty, pos, af, g⟩ :: rest) F K := fun a w hF hK => by
  unfold wpList
  rw [if_pos (hF.wanted hg)]
  refine .inl ?_
  have hr : (execOp a.eval ⟨d, .call { callee := .value (.func f), args := xs.toArray, argTypes := ts }, ty, pos, af, g⟩).run c.P w = .ok (.enter f us.toArray) w := by
    have := hF.evsl hx
    have h9 := hen us.toArray w
    simp [execOp, resolve, invoke, Deferred.ofValue, Act.eval, this, h9]
  unfold Oper.wp
  rw [hr]
  refine Calls.mono (hc w hK) ?_
  rintro e w' ⟨x, rfl, hs⟩
  exact h x _ _ (hF.fput hd _) (hK.add hs)
variable {K0 : List Fact} {listed : Array Bool} {fuel : Nat} {op : Op} {t : Nat}
theorem TW.ex0k {id : Nat} {l : List Oper} (K0 : List Fact) (h2 : RG c l.toArray Q K0 [] (Array.replicate l.length false) l.length F K) (hm : c.P.follows .mixedOrders = true := by rfl) : TW c (.region id l.toArray true) Q F K := fun a w hF hK => by
  refine wp_region_any hm (wpAny_of_held (S := Sat c.S c.w0 K0) _ _ _ _ ?_)
  rw [List.size_toArray]
  exact h2 (fun p hp => by cases hp) a w.drew hF (hK.ext (keep_drew w))
theorem RG.guard {b : Bool} (ht : fget F t = some (.bool b)) (h1 : b = true → RG c ops Q K0 [] listed fuel ((t, .bool true) :: F) K) (h2 : b = false → RG c ops Q K0 [] listed fuel ((t, .bool false) :: F) K) : RG c ops Q K0 [] listed fuel F K := fun hp a w hF hK => by
  have key : ∀ b', b = b' → FS c.n c.D ((t, .bool b') :: F) a := fun b' e => ⟨hF.size, hF.dfs, fun u v hv => by
    subst e
    simp only [fget] at hv
    cases hb : Nat.beq t u with
    | true => rw [hb] at hv; have := beq_iff.1 hb; subst this; injection hv with hv; subst hv; exact hF.get _ _ ht
    | false => rw [hb] at hv; exact hF.get _ _ hv⟩
  cases hb : b
  · exact h2 hb hp a w (key _ hb) hK
  · exact h1 hb hp a w (key _ hb) hK
/-- A step that is not wanted. -/
theorem RG.ts (i : Nat) (ho : ops[i]? = some ⟨some t, op, ty, pos, af, g⟩) (h : RG c ops Q K0 [] (listed.setIfInBounds i true) fuel ((t, undef) :: F) K) (hh : HasL K K0 := by repeat (first | exact HasL.nil | refine HasL.cons (by repeat (first | exact Pick.hd | apply Pick.tl)) ?_)) (hk : takeA ops listed i = true := by kernel_rfl) (hg : gdB F ops g = some false := by rfl) (hd : Nat.blt t c.n = true := by rfl) (hpan : Pan Q := by (intro d _ _ _ _; cases d <;> exact Iff.rfl)) :
    RG c ops Q K0 [] listed (fuel + 1) F K := fun h1 a w hF hK => by
  simp only [takeA, Bool.and_eq_true] at hk
  exact wpAnyH_take ho hk.1.1 hk.1.2 hk.2 (fun ch a w h => (hpan _ undef ch a w).1 h) (.inr ⟨hF.wanted hg, rfl⟩) (hh.has.sat hK) (h h1 _ w (hF.put hd undef) hK)
end
end Go.Proofs.Ytckiagbllkdfdaa
