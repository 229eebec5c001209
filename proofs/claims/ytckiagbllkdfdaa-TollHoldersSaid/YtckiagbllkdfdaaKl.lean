/-
  The layer's rules: a round of a range over a function, and the statement itself; an iterator's call of its yield. No condition on a program.
-/
import Derived.Test.YtckiagbllkdfdaaKk
import Derived.Test.YtckiagbllkdfdaaIn
namespace Go.Proofs.Ytckiagbllkdfdaa
set_option linter.all false
set_option linter.unusedVariables false
set_option linter.unusedSimpArgs false
open Go.RowKit
def TWi (l : Nat) (c : Cx) (code : Code) (Q : Exit → Act → World → Prop) (F : Fr) (K : List Fact) : Prop := ∀ a w, FS c.n c.D F a → Sat c.S c.w0 K w → code.wpIn (Fence.wide.inRound l) 0 c.P Q a w
theorem operIn {P : Program} {l m : Nat} {o : Oper} {a : Act} {w : World} {K K' : Act → World → Prop} {Q : Exit → Act → World → Prop} (hK : ∀ a w, K a w → K' a w) (hnd : ∀ c, o.op ≠ .defer c) (h : o.wp P a w K Q) : o.wpIn (Fence.wide.inRound l) m P a w K' Q := by
  refine ⟨fun _ _ => trivial, ?_⟩
  rw [Fence.inRound_round, Oper.semAt_some l a.eval o hnd]
  unfold Oper.wp at h
  generalize (execOp a.eval o).run P w = r at *
  cases r with
  | ok x w' =>
    cases x <;> simp only [Oper.upon] at h <;> simp only [Oper.uponIn]
    case value u => exact hK _ _ h
    case skip => exact hK _ _ h
    case defer d => exact hK _ _ h
    case enter f args =>
      refine ⟨fun h9 => (by simp [Fence.wide] at h9), CallsIn.inRound l (callsIn_wide.2 (Calls.mono h fun e w'' he => ?_))⟩
      cases e with
      | returned u => exact hK _ _ he
      | panicked ch => exact he
      | outgrown => exact he
    case row row args =>
      refine ⟨fun h9 => (by simp [Fence.wide] at h9), fun c cs _ => ?_⟩
      obtain ⟨v, w'', r1, s1⟩ := h c cs
      exact ⟨v, w'', hK _ _ r1, stepsIn_wide.2 s1⟩
  | halt x w' => cases x <;> simp only [Oper.upon] at h <;> exact h
/-- At the wide fence, outside of rounds. -/
theorem operWide {P : Program} {m : Nat} {o : Oper} {a : Act} {w : World} {Z K' : Act → World → Prop} {Q : Exit → Act → World → Prop} (hK : ∀ a w, Z a w → K' a w) (h : o.wp P a w Z (nxt Z Q)) : o.wpIn Fence.wide m P a w K' Q := by
  refine ⟨fun _ _ => trivial, ?_⟩
  rw [Fence.wide_round, Oper.semAt_none]
  unfold Oper.wp at h
  generalize (execOp a.eval o).run P w = r at *
  cases r with
  | ok x w' =>
    cases x <;> simp only [Oper.upon] at h <;> simp only [Oper.uponIn]
    case value u => exact hK _ _ h
    case skip => exact hK _ _ h
    case defer d => exact hK _ _ h
    case enter f args =>
      refine ⟨fun h9 => (by simp [Fence.wide] at h9), callsIn_wide.2 (Calls.mono h fun e w'' he => ?_)⟩
      cases e with
      | returned u => exact hK _ _ he
      | panicked ch => exact he
      | outgrown => obtain ⟨x, y, z⟩ := he; exact ⟨x, y, z⟩
    case row row args =>
      refine ⟨fun h9 => (by simp [Fence.wide] at h9), fun c cs _ => ?_⟩
      obtain ⟨v, w'', r1, s1⟩ := h c cs
      exact ⟨v, w'', hK _ _ r1, stepsIn_wide.2 s1⟩
  | halt x w' => cases x <;> simp only [Oper.upon] at h <;> exact h
def noDeferL (l : List Oper) : Bool := l.all fun o => match o.op with | .defer _ => false | _ => true
theorem listIn {P : Program} {ops : Array Oper} {Q : Exit → Act → World → Prop} {l m : Nat} (hL : ¬ LetsOut Q) : ∀ (rest : List Oper), noDeferL rest = true → ∀ a w, wpList P ops Q rest a w → wpListIn (Fence.wide.inRound l) m P ops Q rest a w
  | [], _, _, _, h => h
  | o :: rest, hn, a, w, h => by
    simp only [noDeferL, List.all_cons, Bool.and_eq_true] at hn
    unfold wpList at h
    unfold wpListIn
    split
    · rename_i hw
      rw [if_pos hw] at h
      rcases h with h | ⟨_, h⟩
      · exact operIn (fun a w h => listIn hL rest hn.2 a w h) (fun c e => by rw [e] at hn; simp at hn) h
      · exact absurd h hL
    · rename_i hw
      rw [if_neg hw] at h
      exact ⟨fun _ _ => trivial, listIn hL rest hn.2 _ _ h⟩
theorem rounds_mono {F : Fence} {n : Nat} {P : Program} {x : Code} {Q : Exit → Act → World → Prop} : ∀ {m m' : Nat} {a : Act} {w : World}, m ≤ m' → Code.roundsIn F n P x Q m a w → Code.roundsIn F n P x Q m' a w
  | 0, _, _, _, _, h => h.elim
  | m + 1, 0, _, _, hm, _ => by omega
  | m + 1, m' + 1, a, w, hm, h => by
    refine wpIn_mono h fun e a w he => ?_
    cases e with
    | normal => exact rounds_mono (by omega) he
    | _ => exact he
section
variable {l : Nat} {c : Cx} {Q : Exit → Act → World → Prop} {F F' : Fr} {K K' K0 : List Fact} {ops : Array Oper} {rest : List Oper} {d : Option Tmp} {ty : TypeId} {pos : String} {af : Array Edge} {g : Option (Nat × Bool)}
theorem TWi.seq {x y : Code} (h : ∀ Y : Act → World → Prop, (∀ F K, TWi l c y Q F K → TQ c (fun _ => Y) .normal F K) → TWi l c x (Exit.then Y Q) F K) : TWi l c (.seq x y) Q F K := fun a w hF hK =>
  wpIn_seq (h (y.wpIn (Fence.wide.inRound l) 0 c.P Q) (fun _ _ h => h) a w hF hK)
theorem TWi.block {i : Nat} {x : Code} (h : TWi l c x (Exit.inBlock i Q) F K) : TWi l c (.block i x) Q F K := fun a w hF hK => wpIn_block (h a w hF hK)
theorem TWi.ret (h : TQ c Q .ret F K) : TWi l c .ret Q F K := fun a w hF hK => wpIn_ret (h a w hF hK)
theorem TWi.exit {i : Nat} (h : TQ c Q (.exit i) F K) : TWi l c (.exit i) Q F K := fun a w hF hK => wpIn_exit (h a w hF hK)
theorem TWi.skip (h : TQ c Q .normal F K) : TWi l c .skip Q F K := fun a w hF hK => wpIn_skip (h a w hF hK)
theorem TWi.cond {x : Operand} {s t : Code} {b : Bool} (hx : ev F x = some (.bool b)) (ht : b = true → TWi l c s Q F K) (hf : b = false → TWi l c t Q F K) : TWi l c (.cond x s t) Q F K := fun a w hF hK =>
  wpIn_cond_split (hF.evl hx) (fun e => ht e a w hF hK) (fun e => hf e a w hF hK)
theorem TWi.condT {x : Operand} {s t : Code} {b : Bool} (hx : ev F x = some (.bool b)) (hb : b = true) (h : TWi l c s Q F K) : TWi l c (.cond x s t) Q F K := TWi.cond hx (fun _ => h) (fun e => by rw [hb] at e; cases e)
theorem TWi.condF {x : Operand} {s t : Code} {b : Bool} (hx : ev F x = some (.bool b)) (hb : b = false) (h : TWi l c t Q F K) : TWi l c (.cond x s t) Q F K := TWi.cond hx (fun e => by rw [hb] at e; cases e) (fun _ => h)
theorem TWi.sub {x : Code} (hF : fsub F F') (hK : KSub K K') (h : TWi l c x Q F' K') : TWi l c x Q F K := fun a w hf hk => h a w (hf.sub (fsub_spec hF)) (hk.sub hK)
theorem TWi.subK {x : Code} (hK : KSub K K') (h : TWi l c x Q F K') : TWi l c x Q F K := fun a w hf hk => h a w hf (hk.sub hK)
theorem TWi.join {x : Code} (E : Fr) (h : TQ c Q .normal (E ++ F) K) (r : TQ c Q .normal (E ++ F) K → TWi l c x Q F K) : TWi l c x Q F K := r h
theorem TWi.region {id : Nat} {os : List Oper} (h : TL c os.toArray Q os F K) (hnd : noDeferL os = true := by rfl) (hL : ¬ LetsOut Q := by (rintro ⟨_, _, h⟩; exact h)) : TWi l c (.region id os.toArray false) Q F K := fun a w hF hK => wpIn_region_lit (listIn hL os hnd a w (h a w hF hK))
theorem TWi.dw {id : Nat} {os : List Oper} (nf : Nat) (h : RK c os.toArray Q nf 0 (os.take nf) [] [] (Array.replicate nf false) nf F K) (hm : c.P.follows .mixedOrders = true := by rfl) (hT : tailOk os.toArray nf = true := by kernel_rfl) (hp : Pan Q := by (intro d _ _ _ _; cases d <;> exact Iff.rfl)) (hnd : noDefer os.toArray = true := by rfl) (hL : ¬ LetsOut Q := by (rintro ⟨_, _, h⟩; exact h)) : TWi l c (.region id os.toArray true) Q F K := fun a w hF hK =>
  RW.beginIn hm hT hp hnd hL fun hb => h a w _ hF hK hb
theorem TWi.any {id : Nat} {os : List Oper} (hm : c.P.follows .mixedOrders = true) (hnd : noDefer os.toArray = true) (hL : ¬ LetsOut Q) (h : ∀ a w, FS c.n c.D F a → Sat c.S c.w0 K w → wpAnyH c.P .any os.toArray Q (Sat c.S c.w0 K0) os.length (Array.replicate os.length false) a w) : TWi l c (.region id os.toArray true) Q F K := fun a w hF hK => by
  refine wpIn_region_any hm (anyIn hnd hL _ _ _ _ (wpAny_of_held (S := Sat c.S c.w0 K0) _ _ _ _ ?_))
  rw [List.size_toArray]
  exact h a w.drew hF (hK.ext (keep_drew w))
theorem TWi.rf {id : Nat} {os : List Oper} (hd : Drop F K K0) (h : RF c os.toArray Q K0 0 os [] (Array.replicate os.length false) os.length F K) (hm : c.P.follows .mixedOrders = true := by rfl) (hp : Pan Q := by (intro d _ _ _ _; cases d <;> exact Iff.rfl)) (hnd : noDefer os.toArray = true := by rfl) (hL : ¬ LetsOut Q := by (rintro ⟨_, _, h⟩; exact h)) : TWi l c (.region id os.toArray true) Q F K :=
  TWi.any (K0 := K0) hm hnd hL fun a w hF hK => h rfl (fun p hp => by cases hp) hp a w hF hK
theorem TWi.ex0k {id : Nat} {os : List Oper} (K0 : List Fact) (h2 : RG c os.toArray Q K0 [] (Array.replicate os.length false) os.length F K) (hm : c.P.follows .mixedOrders = true := by rfl) (hnd : noDefer os.toArray = true := by rfl) (hL : ¬ LetsOut Q := by (rintro ⟨_, _, h⟩; exact h)) : TWi l c (.region id os.toArray true) Q F K :=
  TWi.any (K0 := K0) hm hnd hL fun a w hF hK => h2 (fun p hp => by cases hp) a w hF hK
theorem TWi.ex0 {id : Nat} {os : List Oper} (hd : Drop F K K0) (h2 : RG c os.toArray Q K0 [] (Array.replicate os.length false) os.length F K) (hm : c.P.follows .mixedOrders = true := by rfl) (hnd : noDefer os.toArray = true := by rfl) (hL : ¬ LetsOut Q := by (rintro ⟨_, _, h⟩; exact h)) : TWi l c (.region id os.toArray true) Q F K := TWi.ex0k K0 h2 hm hnd hL
theorem TWi.expl {id : Nat} {os : List Oper} {X : Type} (Fj : X → Fr) (Kj : X → List Fact) (hd : Drop F K K0) (h1 : ∀ x, TQ c Q .normal (Fj x) (Kj x)) (h2 : (∀ x, TQ c Q .normal (Fj x) (Kj x)) → RG c os.toArray Q K0 [] (Array.replicate os.length false) os.length F K) (hm : c.P.follows .mixedOrders = true := by rfl) (hnd : noDefer os.toArray = true := by rfl) (hL : ¬ LetsOut Q := by (rintro ⟨_, _, h⟩; exact h)) : TWi l c (.region id os.toArray true) Q F K := TWi.ex0k K0 (h2 h1) hm hnd hL
theorem TWi.exn {id : Nat} {os : List Oper} {X : Type} (Fj : X → Fr) (Kj : X → List Fact) (h1 : ∀ x, TQ c Q .normal (Fj x) (Kj x)) (h2 : (∀ x, TQ c Q .normal (Fj x) (Kj x)) → RG c os.toArray Q [] [] (Array.replicate os.length false) os.length F K) (hm : c.P.follows .mixedOrders = true := by rfl) (hnd : noDefer os.toArray = true := by rfl) (hL : ¬ LetsOut Q := by (rintro ⟨_, _, h⟩; exact h)) : TWi l c (.region id os.toArray true) Q F K := TWi.ex0k [] (h2 h1) hm hnd hL
theorem TWi.expk {id : Nat} {os : List Oper} {X : Type} (K0 : List Fact) (Fj : X → Fr) (Kj : X → List Fact) (h1 : ∀ x, TQ c Q .normal (Fj x) (Kj x)) (h2 : (∀ x, TQ c Q .normal (Fj x) (Kj x)) → RG c os.toArray Q K0 [] (Array.replicate os.length false) os.length F K) (hm : c.P.follows .mixedOrders = true := by rfl) (hnd : noDefer os.toArray = true := by rfl) (hL : ¬ LetsOut Q := by (rintro ⟨_, _, h⟩; exact h)) : TWi l c (.region id os.toArray true) Q F K := TWi.ex0k K0 (h2 h1) hm hnd hL
theorem TWi.loop {ι : Type} {x : Code} (FI : ι → Fr) (KI : ι → List Fact) (μ : ι → Nat) (i0 : ι) (hF : fsub F (FI i0)) (hK : KSub K (KI i0))
    (round : ∀ i, ∀ Y : Act → World → Prop, (∀ j F K, μ j < μ i → fsub F (FI j) → KSub K (KI j) → TQ c (fun _ => Y) .normal F K) → TWi l c x (Exit.then Y Q) (FI i) (KI i)) : TWi l c (.loop x) Q F K := fun a w hf hk => by
  have key : ∀ (k : Nat) (i : ι) (a : Act) (w : World), μ i = k → FS c.n c.D (FI i) a → Sat c.S c.w0 (KI i) w → Code.roundsIn (Fence.wide.inRound l) 0 c.P x Q (k + 1) a w := by
    intro k
    induction k using Nat.strongRecOn with
    | _ k ih =>
      rintro i a w rfl hf hk
      rw [roundsIn_succ]
      refine round i _ (fun j F K hj hF hK a w h1 h2 => ?_) a w hf hk
      exact rounds_mono (by omega) (ih (μ j) hj j a w rfl (h1.sub (fsub_spec hF)) (h2.sub hK))
  exact wpIn_loop_rounds _ (key _ i0 a w rfl (hf.sub (fsub_spec hF)) (hk.sub hK))
theorem TWi.loop1 {ι1 : Type} {x : Code} (FI : ι1 → Fr) (KI : ι1 → List Fact) (p : ι1 → Prop) (μ : ι1 → Nat) (i1 : ι1) (hF : fsub F (FI i1)) (hK : KSub K (KI i1)) (hp : p i1)
    (round : ∀ i1, p i1 → ∀ Y : Act → World → Prop, (∀ j1 F K, p j1 → μ j1 < μ i1 → fsub F (FI j1) → KSub K (KI j1) → TQ c (fun _ => Y) .normal F K) → TWi l c x (Exit.then Y Q) (FI i1) (KI i1)) : TWi l c (.loop x) Q F K :=
  TWi.loop (ι := { t : ι1 // p t }) (fun t => FI t.1) (fun t => KI t.1) (fun t => μ t.1) ⟨i1, hp⟩ hF hK fun t Y hY => round t.1 t.2 Y fun j1 F K h1 h2 h3 h4 => hY ⟨j1, h1⟩ F K h2 h3 h4
theorem TWi.loop2 {ι1 ι2 : Type} {x : Code} (FI : ι1 → ι2 → Fr) (KI : ι1 → ι2 → List Fact) (p : ι1 → ι2 → Prop) (μ : ι1 → ι2 → Nat) (i1 : ι1) (i2 : ι2) (hF : fsub F (FI i1 i2)) (hK : KSub K (KI i1 i2)) (hp : p i1 i2)
    (round : ∀ i1 i2, p i1 i2 → ∀ Y : Act → World → Prop, (∀ j1 j2 F K, p j1 j2 → μ j1 j2 < μ i1 i2 → fsub F (FI j1 j2) → KSub K (KI j1 j2) → TQ c (fun _ => Y) .normal F K) → TWi l c x (Exit.then Y Q) (FI i1 i2) (KI i1 i2)) : TWi l c (.loop x) Q F K :=
  TWi.loop (ι := { t : ι1 × ι2 // p t.1 t.2 }) (fun t => FI t.1.1 t.1.2) (fun t => KI t.1.1 t.1.2) (fun t => μ t.1.1 t.1.2) ⟨(i1, i2), hp⟩ hF hK fun t Y hY => round t.1.1 t.1.2 t.2 Y fun j1 j2 F K h1 h2 h3 h4 => hY ⟨(j1, j2), h1⟩ F K h2 h3 h4
theorem TWi.loop3 {ι1 ι2 ι3 : Type} {x : Code} (FI : ι1 → ι2 → ι3 → Fr) (KI : ι1 → ι2 → ι3 → List Fact) (p : ι1 → ι2 → ι3 → Prop) (μ : ι1 → ι2 → ι3 → Nat) (i1 : ι1) (i2 : ι2) (i3 : ι3) (hF : fsub F (FI i1 i2 i3)) (hK : KSub K (KI i1 i2 i3)) (hp : p i1 i2 i3)
    (round : ∀ i1 i2 i3, p i1 i2 i3 → ∀ Y : Act → World → Prop, (∀ j1 j2 j3 F K, p j1 j2 j3 → μ j1 j2 j3 < μ i1 i2 i3 → fsub F (FI j1 j2 j3) → KSub K (KI j1 j2 j3) → TQ c (fun _ => Y) .normal F K) → TWi l c x (Exit.then Y Q) (FI i1 i2 i3) (KI i1 i2 i3)) : TWi l c (.loop x) Q F K :=
  TWi.loop (ι := { t : ι1 × ι2 × ι3 // p t.1 t.2.1 t.2.2 }) (fun t => FI t.1.1 t.1.2.1 t.1.2.2) (fun t => KI t.1.1 t.1.2.1 t.1.2.2) (fun t => μ t.1.1 t.1.2.1 t.1.2.2) ⟨(i1, i2, i3), hp⟩ hF hK fun t Y hY => round t.1.1 t.1.2.1 t.1.2.2 t.2 Y fun j1 j2 j3 F K h1 h2 h3 h4 => hY ⟨(j1, j2, j3), h1⟩ F K h2 h3 h4
theorem TWi.loop4 {ι1 ι2 ι3 ι4 : Type} {x : Code} (FI : ι1 → ι2 → ι3 → ι4 → Fr) (KI : ι1 → ι2 → ι3 → ι4 → List Fact) (p : ι1 → ι2 → ι3 → ι4 → Prop) (μ : ι1 → ι2 → ι3 → ι4 → Nat) (i1 : ι1) (i2 : ι2) (i3 : ι3) (i4 : ι4) (hF : fsub F (FI i1 i2 i3 i4)) (hK : KSub K (KI i1 i2 i3 i4)) (hp : p i1 i2 i3 i4)
    (round : ∀ i1 i2 i3 i4, p i1 i2 i3 i4 → ∀ Y : Act → World → Prop, (∀ j1 j2 j3 j4 F K, p j1 j2 j3 j4 → μ j1 j2 j3 j4 < μ i1 i2 i3 i4 → fsub F (FI j1 j2 j3 j4) → KSub K (KI j1 j2 j3 j4) → TQ c (fun _ => Y) .normal F K) → TWi l c x (Exit.then Y Q) (FI i1 i2 i3 i4) (KI i1 i2 i3 i4)) : TWi l c (.loop x) Q F K :=
  TWi.loop (ι := { t : ι1 × ι2 × ι3 × ι4 // p t.1 t.2.1 t.2.2.1 t.2.2.2 }) (fun t => FI t.1.1 t.1.2.1 t.1.2.2.1 t.1.2.2.2) (fun t => KI t.1.1 t.1.2.1 t.1.2.2.1 t.1.2.2.2) (fun t => μ t.1.1 t.1.2.1 t.1.2.2.1 t.1.2.2.2) ⟨(i1, i2, i3, i4), hp⟩ hF hK fun t Y hY => round t.1.1 t.1.2.1 t.1.2.2.1 t.1.2.2.2 t.2 Y fun j1 j2 j3 j4 F K h1 h2 h3 h4 => hY ⟨(j1, j2, j3, j4), h1⟩ F K h2 h3 h4
theorem TWi.loop5 {ι1 ι2 ι3 ι4 ι5 : Type} {x : Code} (FI : ι1 → ι2 → ι3 → ι4 → ι5 → Fr) (KI : ι1 → ι2 → ι3 → ι4 → ι5 → List Fact) (p : ι1 → ι2 → ι3 → ι4 → ι5 → Prop) (μ : ι1 → ι2 → ι3 → ι4 → ι5 → Nat) (i1 : ι1) (i2 : ι2) (i3 : ι3) (i4 : ι4) (i5 : ι5) (hF : fsub F (FI i1 i2 i3 i4 i5)) (hK : KSub K (KI i1 i2 i3 i4 i5)) (hp : p i1 i2 i3 i4 i5)
    (round : ∀ i1 i2 i3 i4 i5, p i1 i2 i3 i4 i5 → ∀ Y : Act → World → Prop, (∀ j1 j2 j3 j4 j5 F K, p j1 j2 j3 j4 j5 → μ j1 j2 j3 j4 j5 < μ i1 i2 i3 i4 i5 → fsub F (FI j1 j2 j3 j4 j5) → KSub K (KI j1 j2 j3 j4 j5) → TQ c (fun _ => Y) .normal F K) → TWi l c x (Exit.then Y Q) (FI i1 i2 i3 i4 i5) (KI i1 i2 i3 i4 i5)) : TWi l c (.loop x) Q F K :=
  TWi.loop (ι := { t : ι1 × ι2 × ι3 × ι4 × ι5 // p t.1 t.2.1 t.2.2.1 t.2.2.2.1 t.2.2.2.2 }) (fun t => FI t.1.1 t.1.2.1 t.1.2.2.1 t.1.2.2.2.1 t.1.2.2.2.2) (fun t => KI t.1.1 t.1.2.1 t.1.2.2.1 t.1.2.2.2.1 t.1.2.2.2.2) (fun t => μ t.1.1 t.1.2.1 t.1.2.2.1 t.1.2.2.2.1 t.1.2.2.2.2) ⟨(i1, i2, i3, i4, i5), hp⟩ hF hK fun t Y hY => round t.1.1 t.1.2.1 t.1.2.2.1 t.1.2.2.2.1 t.1.2.2.2.2 t.2 Y fun j1 j2 j3 j4 j5 F K h1 h2 h3 h4 => hY ⟨(j1, j2, j3, j4, j5), h1⟩ F K h2 h3 h4
theorem TWi.loop6 {ι1 ι2 ι3 ι4 ι5 ι6 : Type} {x : Code} (FI : ι1 → ι2 → ι3 → ι4 → ι5 → ι6 → Fr) (KI : ι1 → ι2 → ι3 → ι4 → ι5 → ι6 → List Fact) (p : ι1 → ι2 → ι3 → ι4 → ι5 → ι6 → Prop) (μ : ι1 → ι2 → ι3 → ι4 → ι5 → ι6 → Nat) (i1 : ι1) (i2 : ι2) (i3 : ι3) (i4 : ι4) (i5 : ι5) (i6 : ι6) (hF : fsub F (FI i1 i2 i3 i4 i5 i6)) (hK : KSub K (KI i1 i2 i3 i4 i5 i6)) (hp : p i1 i2 i3 i4 i5 i6)
    (round : ∀ i1 i2 i3 i4 i5 i6, p i1 i2 i3 i4 i5 i6 → ∀ Y : Act → World → Prop, (∀ j1 j2 j3 j4 j5 j6 F K, p j1 j2 j3 j4 j5 j6 → μ j1 j2 j3 j4 j5 j6 < μ i1 i2 i3 i4 i5 i6 → fsub F (FI j1 j2 j3 j4 j5 j6) → KSub K (KI j1 j2 j3 j4 j5 j6) → TQ c (fun _ => Y) .normal F K) → TWi l c x (Exit.then Y Q) (FI i1 i2 i3 i4 i5 i6) (KI i1 i2 i3 i4 i5 i6)) : TWi l c (.loop x) Q F K :=
  TWi.loop (ι := { t : ι1 × ι2 × ι3 × ι4 × ι5 × ι6 // p t.1 t.2.1 t.2.2.1 t.2.2.2.1 t.2.2.2.2.1 t.2.2.2.2.2 }) (fun t => FI t.1.1 t.1.2.1 t.1.2.2.1 t.1.2.2.2.1 t.1.2.2.2.2.1 t.1.2.2.2.2.2) (fun t => KI t.1.1 t.1.2.1 t.1.2.2.1 t.1.2.2.2.1 t.1.2.2.2.2.1 t.1.2.2.2.2.2) (fun t => μ t.1.1 t.1.2.1 t.1.2.2.1 t.1.2.2.2.1 t.1.2.2.2.2.1 t.1.2.2.2.2.2) ⟨(i1, i2, i3, i4, i5, i6), hp⟩ hF hK fun t Y hY => round t.1.1 t.1.2.1 t.1.2.2.1 t.1.2.2.2.1 t.1.2.2.2.2.1 t.1.2.2.2.2.2 t.2 Y fun j1 j2 j3 j4 j5 j6 F K h1 h2 h3 h4 => hY ⟨(j1, j2, j3, j4, j5, j6), h1⟩ F K h2 h3 h4
/-! ### An iterator's call of its yield -/
def TLi (c : Cx) (ops : Array Oper) (Q : Exit → Act → World → Prop) (rest : List Oper) (F : Fr) (K : List Fact) : Prop := ∀ a w, FS c.n c.D F a → Sat c.S c.w0 K w → wpListIn Fence.wide 1 c.P ops Q rest a w
theorem TW.regionI {id : Nat} {os : List Oper} (h : TLi c os.toArray Q os F K) : TW c (.region id os.toArray false) Q F K := fun a w hF hK => (wpIn_wide (n := 1)).1 (wpIn_region_lit (h a w hF hK))
theorem TLi.nil (h : TQ c Q .normal F K) : TLi c ops Q [] F K := fun a w hF hK => h a w hF hK
theorem TLi.op {o : Oper} (h : ∀ Z : Act → World → Prop, (∀ F2 K2, TLi c ops Q rest F2 K2 → TQ c (fun _ => Z) .normal F2 K2) → TL c ops (nxt Z Q) [o] F K) (hL : ¬ LetsOut Q := by (rintro ⟨_, _, h⟩; exact h)) : TLi c ops Q (o :: rest) F K := fun a w hF hK => by
  have h1 := h (wpListIn Fence.wide 1 c.P ops Q rest) (fun F2 K2 h2 a w h3 h4 => h2 a w h3 h4) a w hF hK
  unfold wpList at h1
  unfold wpListIn
  split
  · rename_i hw
    rw [if_pos hw] at h1
    rcases h1 with h1 | ⟨_, h2⟩
    · exact operWide (fun _ _ h => h) h1
    · obtain ⟨x, y, z⟩ := h2
      exact absurd ⟨x, y, z⟩ hL
  · rename_i hw
    rw [if_neg hw] at h1
    exact ⟨fun _ _ => trivial, h1⟩
theorem TLi.guard {t : Nat} {b : Bool} (ht : fget F t = some (.bool b)) (h1 : b = true → TLi c ops Q rest ((t, .bool true) :: F) K) (h2 : b = false → TLi c ops Q rest ((t, .bool false) :: F) K) : TLi c ops Q rest F K := fun a w hF hK => by
  have key : ∀ b', b = b' → FS c.n c.D ((t, .bool b') :: F) a := fun b' e => ⟨hF.size, hF.dfs, fun u v hv => by
    subst e
    simp only [fget] at hv
    cases hb : Nat.beq t u with
    | true => rw [hb] at hv; have := beq_iff.1 hb; subst this; injection hv with hv; subst hv; exact hF.get _ _ ht
    | false => rw [hb] at hv; exact hF.get _ _ hv⟩
  cases hb : b
  · exact h2 hb a w (key _ hb) hK
  · exact h1 hb a w (key _ hb) hK
/-- The call of yield: the loop's round. -/
theorem TLi.yi {l : Nat} {x : Operand} {xs : List Operand} {ts : Array TypeId} {us : List Value} {R : Type} {K1 K2 : R → List Fact} (hf : ev F x = some (.func (.yield l) #[] #[])) (hx : evs F xs = some us)
    (hy : ∀ w, Sat c.S c.w0 K w → YieldAt Fence.wide 0 c.P l us.toArray w fun e w' => (e = .returned (.bool true) ∧ ∃ r, Sat c.S c.w0 (K1 r) w') ∨ (e = .returned (.bool false) ∧ ∃ r, Sat c.S c.w0 (K2 r) w'))
    (h1 : ∀ r, TLi c ops Q rest (fput F d (.bool true)) (K1 r)) (h2 : ∀ r, TLi c ops Q rest (fput F d (.bool false)) (K2 r)) (hg : gdB F ops g = some true := by rfl) (hd : dok d c.n = true := by rfl) :
    TLi c ops Q (⟨d, .call { callee := .value x, args := xs.toArray, argTypes := ts }, ty, pos, af, g⟩ :: rest) F K := fun a w hF hK => by
  unfold wpListIn
  rw [if_pos (hF.wanted hg)]
  obtain ⟨fn, tmps, assign, body, hy1, hy2⟩ := hy w hK
  have e1 := hF.evl hf
  have e2 := hF.evsl hx
  have hr : (execOp a.eval ⟨d, .call { callee := .value x, args := xs.toArray, argTypes := ts }, ty, pos, af, g⟩).run c.P w = .ok (.round l fn tmps assign body) w := by
    simp only [execOp, resolve, e1, Deferred.ofValue, List.map_toArray, e2, Sem.run_bind, Sem.run_pure, Result.andThen_ok, invoke]
    simpa using hy1
  refine ⟨fun _ _ => trivial, ?_⟩
  rw [Fence.wide_round, Oper.semAt_none, hr, Oper.uponIn_round]
  refine ⟨fun h9 => (by simp [Fence.wide] at h9), hy2.mono ?_⟩
  rintro e w' (⟨rfl, r, hs⟩ | ⟨rfl, r, hs⟩)
  · exact h1 r _ _ (hF.fput hd _) hs
  · exact h2 r _ _ (hF.fput hd _) hs
/-! ### The statement -/
theorem Sat.newO {S : List Nat} {w0 w : World} (h : Sat S w0 K w) (o : Obj) (ho : o.isCells = false) : Sat S w0 (.obj w.heap.size o :: K) (w.alloc o) :=
  h.add (L := [_]) (Sat.one (Chg.of_ext ((Below.refl _ _).alloc (Nat.le_refl _) _)) (by simp [Fact.foot]) (fun b hb => by simp [Fact.foot] at hb; subst hb; exact .inr (Nat.le_refl _)) ⟨World.alloc_heap_new w o, ho⟩)
theorem Sat.putO {S : List Nat} {w0 w : World} {b : Nat} {o o' : Obj} (h : Sat S w0 (.obj b o :: K) w) (ho : o'.isCells = false) : Sat S w0 (.obj b o' :: K) (w.putObj b o') :=
  h.turn (φ' := .obj b o') (Chg.grown (grownBy_putObj' w b o')) (by simp [Fact.foot]) (fun x hx => .inl hx) ⟨World.putObj_heap_same (lt_of_get (h.holds (.obj b o) (by simp)).1), ho⟩
def putF : List Tmp → List Value → Fr → Fr
  | p :: ps, v :: vs, F => putF ps vs ((p, v) :: F)
  | _, _, F => F
theorem FS.putF {n : Nat} : ∀ {ps : List Tmp} {vs : List Value} {F : Fr} {t : Array Value}, FS n [] F { tmps := t, defers := [] } → (ps.all fun p => Nat.blt p n) = true → FS n [] (Go.Proofs.Ytckiagbllkdfdaa.putF ps vs F) { tmps := (ps.zip vs).foldl (fun t (p, v) => t.setIfInBounds p v) t, defers := [] }
  | [], _, _, _, h, _ => by simpa [Go.Proofs.Ytckiagbllkdfdaa.putF] using h
  | _ :: _, [], _, _, h, _ => by simpa [Go.Proofs.Ytckiagbllkdfdaa.putF] using h
  | p :: ps, v :: vs, F, t, h, hp => by
    simp only [List.all_cons, Bool.and_eq_true] at hp
    have := FS.putF (ps := ps) (vs := vs) (h.put hp.1 v) hp.2
    simpa [Go.Proofs.Ytckiagbllkdfdaa.putF, Act.put] using this
/-- How a round may end. -/
def RB (c : Cx) {R Rx : Type} (KN : R → List Fact) (jx : Rx → Code) (KX : Rx → List Fact) : Exit → Act → World → Prop
  | .normal, _, w => ∃ r, Sat c.S c.w0 (KN r) w
  | .ret, _, w => ∃ x, jx x = .ret ∧ Sat c.S c.w0 (KX x) w
  | .exit i, _, w => ∃ x, jx x = .exit i ∧ Sat c.S c.w0 (KX x) w
  | _, _, _ => False
theorem TQ.rbN {R Rx : Type} {KN : R → List Fact} {jx : Rx → Code} {KX : Rx → List Fact} (r : R) (hK : KSub K (KN r)) : TQ c (RB c KN jx KX) .normal F K := fun _ _ _ h => ⟨r, h.sub hK⟩
theorem TQ.rbR {R Rx : Type} {KN : R → List Fact} {jx : Rx → Code} {KX : Rx → List Fact} (x : Rx) (hx : jx x = .ret) (hK : KSub K (KX x)) : TQ c (RB c KN jx KX) .ret F K := fun _ _ _ h => ⟨x, hx, h.sub hK⟩
theorem TQ.rbX {R Rx : Type} {KN : R → List Fact} {jx : Rx → Code} {KX : Rx → List Fact} {i : Nat} (x : Rx) (hx : jx x = .exit i) (hK : KSub K (KX x)) : TQ c (RB c KN jx KX) (.exit i) F K := fun _ _ _ h => ⟨x, hx, h.sub hK⟩
/-- An iterator's contract: M: what it takes; Y q g: what it holds, and hands the round, at its q-th call of yield, with the values enc q g; Y' q g: what it wants back; J q r: what the rounds know after q of them; Jx x: .. when one has left. -/
def IterK (P : Program) (gf : FuncId) (lb : List Value) (M : List Fact) (G : Type) (enc : Nat → G → List Value) (Y Y' : Nat → G → List Fact) (N : Nat) (L : List Fact) (S : List Nat) (w0 : World) : Prop :=
  ∀ (l : Nat) (R Rx : Type) (J : Nat → R → List Fact) (Jx : Rx → List Fact) (r0 : R) (w : World), Sat S w0 (M ++ J 0 r0) w →
    (∀ q g r w', q < N → Sat S w0 (Y q g ++ J q r) w' → YieldAt Fence.wide 0 P l (enc q g).toArray w' fun e w'' => (e = .returned (.bool true) ∧ ∃ r', Sat S w0 (Y' q g ++ J (q + 1) r') w'') ∨ (e = .returned (.bool false) ∧ ∃ x, Sat S w0 (Y' q g ++ Jx x) w'')) →
    Calls P gf (.func (.yield l) #[] #[] :: lb).toArray w fun e w' => (∃ v, e = .returned v) ∧ ((∃ r, Sat S w0 (L ++ J N r) w') ∨ ∃ x, Sat S w0 (Jx x) w')
theorem perm_objs (A B : List Fact) (x y : Fact) : (A ++ (x :: y :: B)).Perm (x :: y :: (A ++ B)) := List.perm_middle.trans (List.Perm.cons _ List.perm_middle)
theorem TW.range {g : Operand} {ps : List Tmp} {assign body : Code} {gf : Nat} {lb : List Value} {M L : List Fact} {G R Rx : Type} {enc : Nat → G → List Value} {Y Y' : Nat → G → List Fact} {N : Nat} (J : Nat → R → List Fact) (jx : Rx → Code) (Jx : Rx → List Fact) (r0 : R)
    (it : IterK c.P gf lb M G enc Y Y' N L c.S c.w0) (hKs : KSub K (M ++ J 0 r0))
    (round : ∀ (l D : Nat) (o1 o1' o2 : Obj) (q : Nat) (g : G) (r : R), q < N → ∀ Z : Act → World → Prop,
      (∀ F2 K1 K2, Pick K1 (.obj l o1) K2 → TWi l { c with D := [] } body (RB { c with D := [] } (fun r' => .obj l o1' :: .obj D o2 :: (Y' q g ++ J (q + 1) r')) jx (fun x => .obj l o1' :: .obj D o2 :: (Y' q g ++ Jx x))) F2 (.obj l o1' :: K2) → TQ { c with D := [] } (fun _ => Z) .normal F2 K1) →
      TWi l { c with D := [] } assign (Exit.then Z (fun _ _ _ => False)) (putF ps (enc q g) F) (.obj l o1 :: .obj D o2 :: (Y q g ++ J q r)))
    (done : ∀ (D : Nat) (r : R), TQ { c with D := { target := .collected D, args := #[] } :: c.D } Q .normal F (.obj D (.deferred (some [])) :: (L ++ J N r)))
    (stop : ∀ (D : Nat) (x : Rx), TW { c with D := { target := .collected D, args := #[] } :: c.D } (jx x) Q F (.obj D (.deferred (some [])) :: Jx x))
    (hg : ev F g = some (.func (.func gf) #[] lb.toArray) := by rfl) (eg : Enters c.P gf) (hps : ∀ q g, (enc q g).length = ps.length := by (intro _ _; rfl)) (hpn : (ps.all fun p => Nat.blt p c.n) = true := by rfl) :
    TW c (.rangeFunc g ps.toArray assign body) Q F K := fun a w hF hK => by
  refine (wpIn_wide (n := 2)).1 (wpIn_rangeFunc fun fn _ => ?_)
  obtain ⟨rc, hrc⟩ : ∃ rc : LoopState → Option Code → Loop, rc = fun st pe => { state := st, pending := pe, fn, tmps := a.tmps, params := ps.toArray, assign, body, defers := w.heap.size } := ⟨_, rfl⟩
  obtain ⟨W1, hW1⟩ : ∃ W1, (w.alloc (.deferred (some []))).alloc (.loop (rc .ready none)) = W1 := ⟨_, rfl⟩
  have hs := ((hK.sub hKs).newO (.deferred (some [])) rfl).newO (.loop (rc .ready none)) rfl
  rw [World.size_alloc, hW1] at hs
  have hFr : FS c.n ({ target := .collected w.heap.size, args := #[] } :: c.D) F { a with defers := [{ target := .collected w.heap.size, args := #[] }] ++ a.defers } := ⟨hF.size, by rw [hF.dfs]; rfl, hF.get⟩
  refine ⟨w.heap.size + 1, [{ target := .collected w.heap.size, args := #[] }], W1, { target := .fn (.func gf) lb.toArray, args := #[.func (.yield (w.heap.size + 1)) #[] #[]] }, W1, gf, (.func (.yield (w.heap.size + 1)) #[] #[] :: lb).toArray, W1, ?_, ?_, fun _ _ => trivial, ?_, fun _ => by decide, ?_⟩
  · rw [← hW1, hrc]; exact run_enterLoop_outer _ _ _ _ _
  · have := hF.evl hg
    simp only [resolve, this]
    simp [go_sem]
  · have := eg (.func (.yield (w.heap.size + 1)) #[] #[] :: lb).toArray W1
    have e : #[Value.func (.yield (w.heap.size + 1)) #[] #[]] ++ lb.toArray = (.func (.yield (w.heap.size + 1)) #[] #[] :: lb).toArray := by simp
    simp only [invoke, e]
    exact this
  · refine callsIn_wide.2 (Calls.mono (it (w.heap.size + 1) R Rx (fun q r => .obj (w.heap.size + 1) (.loop (rc .ready none)) :: .obj w.heap.size (.deferred (some [])) :: J q r) (fun x => .obj (w.heap.size + 1) (.loop (rc .done (some (jx x)))) :: .obj w.heap.size (.deferred (some [])) :: Jx x) r0 W1 (hs.perm (perm_objs M _ _ _).symm) ?_) ?_)
    · intro q g r w' hq hw'
      replace hw' := hw'.perm (perm_objs _ _ _ _)
      have hl : w'.heap[w.heap.size + 1]? = some (.loop (rc .ready none)) := (hw'.holds (.obj _ _) (by simp)).1
      have hy := run_yield (P := c.P) (args := (enc q g).toArray) hl (by rw [hrc]; simp [hps q g])
      rw [hrc] at hy
      refine ⟨fn, _, assign, body, hy, roundIn_of_wpIn trivial ?_⟩
      have hF0 : FS c.n [] F { tmps := a.tmps, defers := [] } := ⟨hF.size, rfl, hF.get⟩
      have hF1 := hF0.putF (vs := enc q g) hpn
      simp only [List.zip_toArray, List.foldl_toArray]
      refine round (w.heap.size + 1) w.heap.size (.loop (rc .ready none)) (.loop { rc .ready none with state := .busy }) (.deferred (some [])) q g r hq _ ?_ _ w' hF1 hw'
      intro F2 K1 K2 hp hb a1 w1 hF2 hK1
      have h1 := hK1.pick hp
      have hl1 : w1.heap[w.heap.size + 1]? = some (.loop (rc .ready none)) := (h1.holds (.obj _ _) (by simp)).1
      refine ⟨_, run_beginRound hl1 (by rw [hrc]), wpIn_mono (hb a1 _ hF2 (h1.putO rfl)) ?_⟩
      have fin : ∀ (jump : Option Code) (w3 : World), w3.heap[w.heap.size + 1]? = some (.loop { rc .ready none with state := .busy }) → (Instr.endRound (w.heap.size + 1) jump).run c.P w3 = .ok (.bool jump.isNone) (w3.putObj (w.heap.size + 1) (.loop (rc (if jump.isNone then .ready else .done) jump))) := fun jump w3 h3 => by
        have := run_endRound (P := c.P) jump h3
        rw [hrc] at this ⊢
        exact this
      rintro e a3 w3 he
      cases e with
      | normal =>
        obtain ⟨r', h3⟩ := he
        exact ⟨_, _, fin none w3 (h3.holds (.obj _ _) (by simp)).1, .inl ⟨rfl, r', (h3.putO rfl).perm (perm_objs _ _ _ _).symm⟩⟩
      | ret =>
        obtain ⟨x, hx, h3⟩ := he
        exact ⟨_, _, fin (some .ret) w3 (h3.holds (.obj _ _) (by simp)).1, .inr ⟨rfl, x, by rw [hx]; exact (h3.putO rfl).perm (perm_objs _ _ _ _).symm⟩⟩
      | exit i =>
        obtain ⟨x, hx, h3⟩ := he
        exact ⟨_, _, fin (some (.exit i)) w3 (h3.holds (.obj _ _) (by simp)).1, .inr ⟨rfl, x, by rw [hx]; exact (h3.putO rfl).perm (perm_objs _ _ _ _).symm⟩⟩
      | goto t => exact he.elim
      | panic ch => exact he.elim
      | outgrown => exact he.elim
    · rintro e w2 ⟨⟨v, rfl⟩, ⟨r, h2⟩ | ⟨x, h2⟩⟩
      · replace h2 := h2.perm (perm_objs _ _ _ _)
        have hl : w2.heap[w.heap.size + 1]? = some (.loop (rc .ready none)) := (h2.holds (.obj _ _) (by simp)).1
        refine ⟨none, _, by have := run_endLoop (P := c.P) hl (by rw [hrc]; simp); rw [hrc] at this; exact this, ?_⟩
        exact done w.heap.size r _ _ hFr ((h2.putO rfl).sub (KSub.drop (KSub.refl _)))
      · have hl : w2.heap[w.heap.size + 1]? = some (.loop (rc .done (some (jx x)))) := (h2.holds (.obj _ _) (by simp)).1
        refine ⟨some (jx x), _, by have := run_endLoop (P := c.P) hl (by rw [hrc]; simp); rw [hrc] at this; exact this, ?_⟩
        exact (wpIn_wide (n := 2)).2 (stop w.heap.size x _ _ hFr ((h2.putO rfl).sub (KSub.drop (KSub.refl _))))
/-! ### Entry and end of a function with such a loop -/
theorem K_enterM {P : Program} {f : FuncId} {fn : Func} {code : Code} {n : Nat} {args : List Value} {R : Ending → World → Prop} {w w0 : World} {S : List Nat} {K : List Fact} (hf : P.funcs[f]? = some fn) (hb : fn.body = some code) (hn : fn.ntmps = n) (hl : Nat.ble args.length n = true) (hS : Sat S w0 K w)
    (h : TW ⟨P, n, [], S, w0⟩ code (bodyPostM Fence.wide 2 P fn R) (zipF 0 args) K) : Calls P f args.toArray w R := by
  refine calls_of_marks hf hb ?_
  rw [hn]
  exact h _ _ (FS.start (Nat.le_of_ble_eq_true hl)) hS
/-- At an earlier world. -/
theorem K_enterW {P : Program} {f : FuncId} {fn : Func} {code : Code} {n : Nat} {args : List Value} {R : Ending → World → Prop} {w w0 : World} {S : List Nat} {K : List Fact} (hf : P.funcs[f]? = some fn) (hb : fn.body = some code) (hn : fn.ntmps = n) (hl : Nat.ble args.length n = true) (hS : Sat S w0 K w)
    (h : TW ⟨P, n, [], S, w0⟩ code (bodyPost P fn R) (zipF 0 args) K) : Calls P f args.toArray w R := by
  refine calls_of_wp hf hb ?_
  rw [hn]
  exact h _ _ (FS.start (Nat.le_of_ble_eq_true hl)) hS
theorem TQ.retM {fn : Func} {R : Ending → World → Prop} {rs : List ResultVar} {vs : List Value} {D : Nat} (hr : fn.results = rs.toArray) (hp : Pick K (.obj D (.deferred (some []))) K') (hv : RV c F K' rs vs) (h : ∀ w, Sat c.S c.w0 K' w → R (.returned (retV vs)) w) (hD : c.D = [{ target := .collected D, args := #[] }] := by rfl) : TQ c (bodyPostM Fence.wide 2 c.P fn R) .ret F K := fun a w hF hK => by
  have h1 := hK.pick hp
  have hd : w.heap[D]? = some (.deferred (some [])) := (h1.holds (.obj _ _) (by simp)).1
  have h2 : Sat c.S c.w0 K' (w.putObj D (.deferred none)) := (h1.putO (o' := .deferred none) rfl).sub (KSub.drop (KSub.refl _))
  obtain ⟨t, ds⟩ := a
  have e : ds = [{ target := .collected D, args := #[] }] := hF.dfs.trans hD
  subst e
  exact ret_marks hd (hv.results hr hF h2) (h _ h2)
theorem TQ.retM0 {fn : Func} {R : Ending → World → Prop} {rs : List ResultVar} {vs : List Value} (hr : fn.results = rs.toArray) (hv : RV c F K rs vs) (h : ∀ w, Sat c.S c.w0 K w → R (.returned (retV vs)) w) (hD : c.D = [] := by rfl) : TQ c (bodyPostM Fence.wide 2 c.P fn R) .ret F K := fun a w hF hK => by
  obtain ⟨t, ds⟩ := a
  have e : ds = [] := hF.dfs.trans hD
  subst e
  exact ret_marks0 (hv.results hr hF hK) (h w hK)
end
end Go.Proofs.Ytckiagbllkdfdaa
