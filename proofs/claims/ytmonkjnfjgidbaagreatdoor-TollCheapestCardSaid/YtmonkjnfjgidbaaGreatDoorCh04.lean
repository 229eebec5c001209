/-
  Part 4 of the proof of tollCheapest_holds: declarations of several texts, in build order. No condition on a program.
-/
import Derived.Test.YtmonkjnfjgidbaaGreatDoorCh03
import Derived.Test.YtmonkjnfjgidbaaGreatDoorCh01
import Derived.Sort.Grow
namespace Go.Proofs.YtmonkjnfjgidbaaGreatDoor
set_option linter.all false
set_option linter.unusedVariables false
set_option linter.unusedSimpArgs false
open Go.RowKit
def TWi (l : Nat) (c : Cx) (code : Code) (Q : Exit → Act → World → Prop) (F : Fr) (K : List Fact) : Prop := ∀ a w, FS c.n c.D F a → Sat c.S c.w0 K w → code.wpIn (Fence.wide.inRound l) 0 c.P Q a w
theorem operIn {P : Program} {l m : Nat} {o : Oper} {a : Act} {w : World} {K K' : Act → World → Prop} {Q : Exit → Act → World → Prop} (hK : ∀ a w, K a w → K' a w) (hnd : ∀ c, o.op ≠ .defer c) (h : o.wp P a w K Q) : o.wpIn (Fence.wide.inRound l) m P a w K' Q := by
  refine ⟨fun _ _ => trivial, ?_⟩
  rw [Fence.inRound_round, Oper.semAt_some l a.eval o hnd]
  unfold Oper.wp at h
  generalize (execOp a.eval o).run P w = r at *
  cases r with
  | ok x w' =>
    cases x <;> simp only [Oper.upon] at h <;> simp only [Oper.uponIn]
    case value u => exact hK _ _ h
    case skip => exact hK _ _ h
    case defer d => exact hK _ _ h
    case enter f args =>
      refine ⟨fun h9 => (by simp [Fence.wide] at h9), CallsIn.inRound l (callsIn_wide.2 (Calls.mono h fun e w'' he => ?_))⟩
      cases e with
      | returned u => exact hK _ _ he
      | panicked ch => exact he
      | outgrown => exact he
    case row row args =>
      refine ⟨fun h9 => (by simp [Fence.wide] at h9), fun c cs _ => ?_⟩
      obtain ⟨v, w'', r1, s1⟩ := h c cs
      exact ⟨v, w'', hK _ _ r1, stepsIn_wide.2 s1⟩
  | halt x w' => cases x <;> simp only [Oper.upon] at h <;> exact h
theorem operWide {P : Program} {m : Nat} {o : Oper} {a : Act} {w : World} {Z K' : Act → World → Prop} {Q : Exit → Act → World → Prop} (hK : ∀ a w, Z a w → K' a w) (h : o.wp P a w Z (nxt Z Q)) : o.wpIn Fence.wide m P a w K' Q := by
  refine ⟨fun _ _ => trivial, ?_⟩
  rw [Fence.wide_round, Oper.semAt_none]
  unfold Oper.wp at h
  generalize (execOp a.eval o).run P w = r at *
  cases r with
  | ok x w' =>
    cases x <;> simp only [Oper.upon] at h <;> simp only [Oper.uponIn]
    case value u => exact hK _ _ h
    case skip => exact hK _ _ h
    case defer d => exact hK _ _ h
    case enter f args =>
      refine ⟨fun h9 => (by simp [Fence.wide] at h9), callsIn_wide.2 (Calls.mono h fun e w'' he => ?_)⟩
      cases e with
      | returned u => exact hK _ _ he
      | panicked ch => exact he
      | outgrown => obtain ⟨x, y, z⟩ := he; exact ⟨x, y, z⟩
    case row row args =>
      refine ⟨fun h9 => (by simp [Fence.wide] at h9), fun c cs _ => ?_⟩
      obtain ⟨v, w'', r1, s1⟩ := h c cs
      exact ⟨v, w'', hK _ _ r1, stepsIn_wide.2 s1⟩
  | halt x w' => cases x <;> simp only [Oper.upon] at h <;> exact h
def noDeferL (l : List Oper) : Bool := l.all fun o => match o.op with | .defer _ => false | _ => true
theorem listIn {P : Program} {ops : Array Oper} {Q : Exit → Act → World → Prop} {l m : Nat} (hL : ¬ LetsOut Q) : ∀ (rest : List Oper), noDeferL rest = true → ∀ a w, wpList P ops Q rest a w → wpListIn (Fence.wide.inRound l) m P ops Q rest a w
  | [], _, _, _, h => h
  | o :: rest, hn, a, w, h => by
    simp only [noDeferL, List.all_cons, Bool.and_eq_true] at hn
    unfold wpList at h
    unfold wpListIn
    split
    · rename_i hw
      rw [if_pos hw] at h
      rcases h with h | ⟨_, h⟩
      · exact operIn (fun a w h => listIn hL rest hn.2 a w h) (fun c e => by rw [e] at hn; simp at hn) h
      · exact absurd h hL
    · rename_i hw
      rw [if_neg hw] at h
      exact ⟨fun _ _ => trivial, listIn hL rest hn.2 _ _ h⟩
theorem rounds_mono {F : Fence} {n : Nat} {P : Program} {x : Code} {Q : Exit → Act → World → Prop} : ∀ {m m' : Nat} {a : Act} {w : World}, m ≤ m' → Code.roundsIn F n P x Q m a w → Code.roundsIn F n P x Q m' a w
  | 0, _, _, _, _, h => h.elim
  | m + 1, 0, _, _, hm, _ => by omega
  | m + 1, m' + 1, a, w, hm, h => by
    refine wpIn_mono h fun e a w he => ?_
    cases e with
    | normal => exact rounds_mono (by omega) he
    | _ => exact he
section
variable {l : Nat} {c : Cx} {Q : Exit → Act → World → Prop} {F F' : Fr} {K K' K0 : List Fact} {ops : Array Oper} {rest : List Oper} {d : Option Tmp} {ty : TypeId} {pos : String} {af : Array Edge} {g : Option (Nat × Bool)}
theorem TWi.seq {x y : Code} (h : ∀ Y : Act → World → Prop, (∀ F K, TWi l c y Q F K → TQ c (fun _ => Y) .normal F K) → TWi l c x (Exit.then Y Q) F K) : TWi l c (.seq x y) Q F K := fun a w hF hK =>
  wpIn_seq (h (y.wpIn (Fence.wide.inRound l) 0 c.P Q) (fun _ _ h => h) a w hF hK)
theorem TWi.block {i : Nat} {x : Code} (h : TWi l c x (Exit.inBlock i Q) F K) : TWi l c (.block i x) Q F K := fun a w hF hK => wpIn_block (h a w hF hK)
theorem TWi.ret (h : TQ c Q .ret F K) : TWi l c .ret Q F K := fun a w hF hK => wpIn_ret (h a w hF hK)
theorem TWi.exit {i : Nat} (h : TQ c Q (.exit i) F K) : TWi l c (.exit i) Q F K := fun a w hF hK => wpIn_exit (h a w hF hK)
theorem TWi.skip (h : TQ c Q .normal F K) : TWi l c .skip Q F K := fun a w hF hK => wpIn_skip (h a w hF hK)
theorem TWi.cond {x : Operand} {s t : Code} {b : Bool} (hx : ev F x = some (.bool b)) (ht : b = true → TWi l c s Q F K) (hf : b = false → TWi l c t Q F K) : TWi l c (.cond x s t) Q F K := fun a w hF hK =>
  wpIn_cond_split (hF.evl hx) (fun e => ht e a w hF hK) (fun e => hf e a w hF hK)
theorem TWi.condT {x : Operand} {s t : Code} {b : Bool} (hx : ev F x = some (.bool b)) (hb : b = true) (h : TWi l c s Q F K) : TWi l c (.cond x s t) Q F K := TWi.cond hx (fun _ => h) (fun e => by rw [hb] at e; cases e)
theorem TWi.condF {x : Operand} {s t : Code} {b : Bool} (hx : ev F x = some (.bool b)) (hb : b = false) (h : TWi l c t Q F K) : TWi l c (.cond x s t) Q F K := TWi.cond hx (fun e => by rw [hb] at e; cases e) (fun _ => h)
theorem TWi.sub {x : Code} (hF : fsub F F') (hK : KSub K K') (h : TWi l c x Q F' K') : TWi l c x Q F K := fun a w hf hk => h a w (hf.sub (fsub_spec hF)) (hk.sub hK)
theorem TWi.subK {x : Code} (hK : KSub K K') (h : TWi l c x Q F K') : TWi l c x Q F K := fun a w hf hk => h a w hf (hk.sub hK)
theorem TWi.join {x : Code} (E : Fr) (h : TQ c Q .normal (E ++ F) K) (r : TQ c Q .normal (E ++ F) K → TWi l c x Q F K) : TWi l c x Q F K := r h
theorem TWi.region {id : Nat} {os : List Oper} (h : TL c os.toArray Q os F K) (hnd : noDeferL os = true := by rfl) (hL : ¬ LetsOut Q := by (rintro ⟨_, _, h⟩; exact h)) : TWi l c (.region id os.toArray false) Q F K := fun a w hF hK => wpIn_region_lit (listIn hL os hnd a w (h a w hF hK))
theorem TWi.dw {id : Nat} {os : List Oper} (nf : Nat) (h : RK c os.toArray Q nf 0 (os.take nf) [] [] (Array.replicate nf false) nf F K) (hm : c.P.follows .mixedOrders = true := by rfl) (hT : tailOk os.toArray nf = true := by kernel_rfl) (hp : Pan Q := by (intro d _ _ _ _; cases d <;> exact Iff.rfl)) (hnd : noDefer os.toArray = true := by kernel_rfl) (hL : ¬ LetsOut Q := by (rintro ⟨_, _, h⟩; exact h)) : TWi l c (.region id os.toArray true) Q F K := fun a w hF hK =>
  RW.beginIn hm hT hp hnd hL fun hb => h a w _ hF hK hb
theorem TWi.any {id : Nat} {os : List Oper} (hm : c.P.follows .mixedOrders = true) (hnd : noDefer os.toArray = true) (hL : ¬ LetsOut Q) (h : ∀ a w, FS c.n c.D F a → Sat c.S c.w0 K w → wpAnyH c.P .any os.toArray Q (Sat c.S c.w0 K0) os.length (Array.replicate os.length false) a w) : TWi l c (.region id os.toArray true) Q F K := fun a w hF hK => by
  refine wpIn_region_any hm (anyIn hnd hL _ _ _ _ (wpAny_of_held (S := Sat c.S c.w0 K0) _ _ _ _ ?_))
  rw [List.size_toArray]
  exact h a w.drew hF (hK.ext (keep_drew w))
theorem TWi.rf {id : Nat} {os : List Oper} (hd : Drop F K K0) (h : RF c os.toArray Q K0 0 os [] (Array.replicate os.length false) os.length F K) (hm : c.P.follows .mixedOrders = true := by rfl) (hp : Pan Q := by (intro d _ _ _ _; cases d <;> exact Iff.rfl)) (hnd : noDefer os.toArray = true := by kernel_rfl) (hL : ¬ LetsOut Q := by (rintro ⟨_, _, h⟩; exact h)) : TWi l c (.region id os.toArray true) Q F K :=
  TWi.any (K0 := K0) hm hnd hL fun a w hF hK => h rfl (fun p hp => by cases hp) hp a w hF hK
theorem TWi.ex0k {id : Nat} {os : List Oper} (K0 : List Fact) (h2 : RG c os.toArray Q K0 [] (Array.replicate os.length false) os.length F K) (hm : c.P.follows .mixedOrders = true := by rfl) (hnd : noDefer os.toArray = true := by kernel_rfl) (hL : ¬ LetsOut Q := by (rintro ⟨_, _, h⟩; exact h)) : TWi l c (.region id os.toArray true) Q F K :=
  TWi.any (K0 := K0) hm hnd hL fun a w hF hK => h2 (fun p hp => by cases hp) a w hF hK
theorem TWi.ex0 {id : Nat} {os : List Oper} (hd : Drop F K K0) (h2 : RG c os.toArray Q K0 [] (Array.replicate os.length false) os.length F K) (hm : c.P.follows .mixedOrders = true := by rfl) (hnd : noDefer os.toArray = true := by kernel_rfl) (hL : ¬ LetsOut Q := by (rintro ⟨_, _, h⟩; exact h)) : TWi l c (.region id os.toArray true) Q F K := TWi.ex0k K0 h2 hm hnd hL
theorem TWi.expl {id : Nat} {os : List Oper} {X : Type} (Fj : X → Fr) (Kj : X → List Fact) (hd : Drop F K K0) (h1 : ∀ x, TQ c Q .normal (Fj x) (Kj x)) (h2 : (∀ x, TQ c Q .normal (Fj x) (Kj x)) → RG c os.toArray Q K0 [] (Array.replicate os.length false) os.length F K) (hm : c.P.follows .mixedOrders = true := by rfl) (hnd : noDefer os.toArray = true := by kernel_rfl) (hL : ¬ LetsOut Q := by (rintro ⟨_, _, h⟩; exact h)) : TWi l c (.region id os.toArray true) Q F K := TWi.ex0k K0 (h2 h1) hm hnd hL
theorem TWi.expk {id : Nat} {os : List Oper} {X : Type} (K0 : List Fact) (Fj : X → Fr) (Kj : X → List Fact) (h1 : ∀ x, TQ c Q .normal (Fj x) (Kj x)) (h2 : (∀ x, TQ c Q .normal (Fj x) (Kj x)) → RG c os.toArray Q K0 [] (Array.replicate os.length false) os.length F K) (hm : c.P.follows .mixedOrders = true := by rfl) (hnd : noDefer os.toArray = true := by kernel_rfl) (hL : ¬ LetsOut Q := by (rintro ⟨_, _, h⟩; exact h)) : TWi l c (.region id os.toArray true) Q F K := TWi.ex0k K0 (h2 h1) hm hnd hL
theorem TWi.loop {ι : Type} {x : Code} (FI : ι → Fr) (KI : ι → List Fact) (μ : ι → Nat) (i0 : ι) (hF : fsub F (FI i0)) (hK : KSub K (KI i0))
    (round : ∀ i, ∀ Y : Act → World → Prop, (∀ j F K, μ j < μ i → fsub F (FI j) → KSub K (KI j) → TQ c (fun _ => Y) .normal F K) → TWi l c x (Exit.then Y Q) (FI i) (KI i)) : TWi l c (.loop x) Q F K := fun a w hf hk => by
  have key : ∀ (k : Nat) (i : ι) (a : Act) (w : World), μ i = k → FS c.n c.D (FI i) a → Sat c.S c.w0 (KI i) w → Code.roundsIn (Fence.wide.inRound l) 0 c.P x Q (k + 1) a w := by
    intro k
    induction k using Nat.strongRecOn with
    | _ k ih =>
      rintro i a w rfl hf hk
      rw [roundsIn_succ]
      refine round i _ (fun j F K hj hF hK a w h1 h2 => ?_) a w hf hk
      exact rounds_mono (by omega) (ih (μ j) hj j a w rfl (h1.sub (fsub_spec hF)) (h2.sub hK))
  exact wpIn_loop_rounds _ (key _ i0 a w rfl (hf.sub (fsub_spec hF)) (hk.sub hK))
theorem TWi.loop1 {ι1 : Type} {x : Code} (FI : ι1 → Fr) (KI : ι1 → List Fact) (p : ι1 → Prop) (μ : ι1 → Nat) (i1 : ι1) (hF : fsub F (FI i1)) (hK : KSub K (KI i1)) (hp : p i1)
    (round : ∀ i1, p i1 → ∀ Y : Act → World → Prop, (∀ j1 F K, p j1 → μ j1 < μ i1 → fsub F (FI j1) → KSub K (KI j1) → TQ c (fun _ => Y) .normal F K) → TWi l c x (Exit.then Y Q) (FI i1) (KI i1)) : TWi l c (.loop x) Q F K :=
  TWi.loop (ι := { t : ι1 // p t }) (fun t => FI t.1) (fun t => KI t.1) (fun t => μ t.1) ⟨i1, hp⟩ hF hK fun t Y hY => round t.1 t.2 Y fun j1 F K h1 h2 h3 h4 => hY ⟨j1, h1⟩ F K h2 h3 h4
theorem TWi.loop2 {ι1 ι2 : Type} {x : Code} (FI : ι1 → ι2 → Fr) (KI : ι1 → ι2 → List Fact) (p : ι1 → ι2 → Prop) (μ : ι1 → ι2 → Nat) (i1 : ι1) (i2 : ι2) (hF : fsub F (FI i1 i2)) (hK : KSub K (KI i1 i2)) (hp : p i1 i2)
    (round : ∀ i1 i2, p i1 i2 → ∀ Y : Act → World → Prop, (∀ j1 j2 F K, p j1 j2 → μ j1 j2 < μ i1 i2 → fsub F (FI j1 j2) → KSub K (KI j1 j2) → TQ c (fun _ => Y) .normal F K) → TWi l c x (Exit.then Y Q) (FI i1 i2) (KI i1 i2)) : TWi l c (.loop x) Q F K :=
  TWi.loop (ι := { t : ι1 × ι2 // p t.1 t.2 }) (fun t => FI t.1.1 t.1.2) (fun t => KI t.1.1 t.1.2) (fun t => μ t.1.1 t.1.2) ⟨(i1, i2), hp⟩ hF hK fun t Y hY => round t.1.1 t.1.2 t.2 Y fun j1 j2 F K h1 h2 h3 h4 => hY ⟨(j1, j2), h1⟩ F K h2 h3 h4
theorem TWi.loop3 {ι1 ι2 ι3 : Type} {x : Code} (FI : ι1 → ι2 → ι3 → Fr) (KI : ι1 → ι2 → ι3 → List Fact) (p : ι1 → ι2 → ι3 → Prop) (μ : ι1 → ι2 → ι3 → Nat) (i1 : ι1) (i2 : ι2) (i3 : ι3) (hF : fsub F (FI i1 i2 i3)) (hK : KSub K (KI i1 i2 i3)) (hp : p i1 i2 i3)
    (round : ∀ i1 i2 i3, p i1 i2 i3 → ∀ Y : Act → World → Prop, (∀ j1 j2 j3 F K, p j1 j2 j3 → μ j1 j2 j3 < μ i1 i2 i3 → fsub F (FI j1 j2 j3) → KSub K (KI j1 j2 j3) → TQ c (fun _ => Y) .normal F K) → TWi l c x (Exit.then Y Q) (FI i1 i2 i3) (KI i1 i2 i3)) : TWi l c (.loop x) Q F K :=
  TWi.loop (ι := { t : ι1 × ι2 × ι3 // p t.1 t.2.1 t.2.2 }) (fun t => FI t.1.1 t.1.2.1 t.1.2.2) (fun t => KI t.1.1 t.1.2.1 t.1.2.2) (fun t => μ t.1.1 t.1.2.1 t.1.2.2) ⟨(i1, i2, i3), hp⟩ hF hK fun t Y hY => round t.1.1 t.1.2.1 t.1.2.2 t.2 Y fun j1 j2 j3 F K h1 h2 h3 h4 => hY ⟨(j1, j2, j3), h1⟩ F K h2 h3 h4
theorem TWi.loop4 {ι1 ι2 ι3 ι4 : Type} {x : Code} (FI : ι1 → ι2 → ι3 → ι4 → Fr) (KI : ι1 → ι2 → ι3 → ι4 → List Fact) (p : ι1 → ι2 → ι3 → ι4 → Prop) (μ : ι1 → ι2 → ι3 → ι4 → Nat) (i1 : ι1) (i2 : ι2) (i3 : ι3) (i4 : ι4) (hF : fsub F (FI i1 i2 i3 i4)) (hK : KSub K (KI i1 i2 i3 i4)) (hp : p i1 i2 i3 i4)
    (round : ∀ i1 i2 i3 i4, p i1 i2 i3 i4 → ∀ Y : Act → World → Prop, (∀ j1 j2 j3 j4 F K, p j1 j2 j3 j4 → μ j1 j2 j3 j4 < μ i1 i2 i3 i4 → fsub F (FI j1 j2 j3 j4) → KSub K (KI j1 j2 j3 j4) → TQ c (fun _ => Y) .normal F K) → TWi l c x (Exit.then Y Q) (FI i1 i2 i3 i4) (KI i1 i2 i3 i4)) : TWi l c (.loop x) Q F K :=
  TWi.loop (ι := { t : ι1 × ι2 × ι3 × ι4 // p t.1 t.2.1 t.2.2.1 t.2.2.2 }) (fun t => FI t.1.1 t.1.2.1 t.1.2.2.1 t.1.2.2.2) (fun t => KI t.1.1 t.1.2.1 t.1.2.2.1 t.1.2.2.2) (fun t => μ t.1.1 t.1.2.1 t.1.2.2.1 t.1.2.2.2) ⟨(i1, i2, i3, i4), hp⟩ hF hK fun t Y hY => round t.1.1 t.1.2.1 t.1.2.2.1 t.1.2.2.2 t.2 Y fun j1 j2 j3 j4 F K h1 h2 h3 h4 => hY ⟨(j1, j2, j3, j4), h1⟩ F K h2 h3 h4
theorem TWi.loop5 {ι1 ι2 ι3 ι4 ι5 : Type} {x : Code} (FI : ι1 → ι2 → ι3 → ι4 → ι5 → Fr) (KI : ι1 → ι2 → ι3 → ι4 → ι5 → List Fact) (p : ι1 → ι2 → ι3 → ι4 → ι5 → Prop) (μ : ι1 → ι2 → ι3 → ι4 → ι5 → Nat) (i1 : ι1) (i2 : ι2) (i3 : ι3) (i4 : ι4) (i5 : ι5) (hF : fsub F (FI i1 i2 i3 i4 i5)) (hK : KSub K (KI i1 i2 i3 i4 i5)) (hp : p i1 i2 i3 i4 i5)
    (round : ∀ i1 i2 i3 i4 i5, p i1 i2 i3 i4 i5 → ∀ Y : Act → World → Prop, (∀ j1 j2 j3 j4 j5 F K, p j1 j2 j3 j4 j5 → μ j1 j2 j3 j4 j5 < μ i1 i2 i3 i4 i5 → fsub F (FI j1 j2 j3 j4 j5) → KSub K (KI j1 j2 j3 j4 j5) → TQ c (fun _ => Y) .normal F K) → TWi l c x (Exit.then Y Q) (FI i1 i2 i3 i4 i5) (KI i1 i2 i3 i4 i5)) : TWi l c (.loop x) Q F K :=
  TWi.loop (ι := { t : ι1 × ι2 × ι3 × ι4 × ι5 // p t.1 t.2.1 t.2.2.1 t.2.2.2.1 t.2.2.2.2 }) (fun t => FI t.1.1 t.1.2.1 t.1.2.2.1 t.1.2.2.2.1 t.1.2.2.2.2) (fun t => KI t.1.1 t.1.2.1 t.1.2.2.1 t.1.2.2.2.1 t.1.2.2.2.2) (fun t => μ t.1.1 t.1.2.1 t.1.2.2.1 t.1.2.2.2.1 t.1.2.2.2.2) ⟨(i1, i2, i3, i4, i5), hp⟩ hF hK fun t Y hY => round t.1.1 t.1.2.1 t.1.2.2.1 t.1.2.2.2.1 t.1.2.2.2.2 t.2 Y fun j1 j2 j3 j4 j5 F K h1 h2 h3 h4 => hY ⟨(j1, j2, j3, j4, j5), h1⟩ F K h2 h3 h4
def TLi (c : Cx) (ops : Array Oper) (Q : Exit → Act → World → Prop) (rest : List Oper) (F : Fr) (K : List Fact) : Prop := ∀ a w, FS c.n c.D F a → Sat c.S c.w0 K w → wpListIn Fence.wide 1 c.P ops Q rest a w
theorem TW.regionI {id : Nat} {os : List Oper} (h : TLi c os.toArray Q os F K) : TW c (.region id os.toArray false) Q F K := fun a w hF hK => (wpIn_wide (n := 1)).1 (wpIn_region_lit (h a w hF hK))
theorem TLi.nil (h : TQ c Q .normal F K) : TLi c ops Q [] F K := fun a w hF hK => h a w hF hK
theorem TLi.op {o : Oper} (h : ∀ Z : Act → World → Prop, (∀ F2 K2, TLi c ops Q rest F2 K2 → TQ c (fun _ => Z) .normal F2 K2) → TL c ops (nxt Z Q) [o] F K) (hL : ¬ LetsOut Q := by (rintro ⟨_, _, h⟩; exact h)) : TLi c ops Q (o :: rest) F K := fun a w hF hK => by
  have h1 := h (wpListIn Fence.wide 1 c.P ops Q rest) (fun F2 K2 h2 a w h3 h4 => h2 a w h3 h4) a w hF hK
  unfold wpList at h1
  unfold wpListIn
  split
  · rename_i hw
    rw [if_pos hw] at h1
    rcases h1 with h1 | ⟨_, h2⟩
    · exact operWide (fun _ _ h => h) h1
    · obtain ⟨x, y, z⟩ := h2
      exact absurd ⟨x, y, z⟩ hL
  · rename_i hw
    rw [if_neg hw] at h1
    exact ⟨fun _ _ => trivial, h1⟩
theorem TLi.guard {t : Nat} {b : Bool} (ht : fget F t = some (.bool b)) (h1 : b = true → TLi c ops Q rest ((t, .bool true) :: F) K) (h2 : b = false → TLi c ops Q rest ((t, .bool false) :: F) K) : TLi c ops Q rest F K := fun a w hF hK => by
  have key : ∀ b', b = b' → FS c.n c.D ((t, .bool b') :: F) a := fun b' e => ⟨hF.size, hF.dfs, fun u v hv => by
    subst e
    simp only [fget] at hv
    cases hb : Nat.beq t u with
    | true => rw [hb] at hv; have := beq_iff.1 hb; subst this; injection hv with hv; subst hv; exact hF.get _ _ ht
    | false => rw [hb] at hv; exact hF.get _ _ hv⟩
  cases hb : b
  · exact h2 hb a w (key _ hb) hK
  · exact h1 hb a w (key _ hb) hK
theorem TLi.yi {l : Nat} {x : Operand} {xs : List Operand} {ts : Array TypeId} {us : List Value} {R1 R2 : Type} {K1 : R1 → List Fact} {K2 : R2 → List Fact} (hf : ev F x = some (.func (.yield l) #[] #[])) (hx : evs F xs = some us)
    (hy : ∀ w, Sat c.S c.w0 K w → YieldAt Fence.wide 0 c.P l us.toArray w fun e w' => (e = .returned (.bool true) ∧ ∃ r, Sat c.S c.w0 (K1 r) w') ∨ (e = .returned (.bool false) ∧ ∃ r, Sat c.S c.w0 (K2 r) w'))
    (h1 : ∀ r, TLi c ops Q rest (fput F d (.bool true)) (K1 r)) (h2 : ∀ r, TLi c ops Q rest (fput F d (.bool false)) (K2 r)) (hg : gdB F ops g = some true := by rfl) (hd : dok d c.n = true := by rfl) :
    TLi c ops Q (⟨d, .call { callee := .value x, args := xs.toArray, argTypes := ts }, ty, pos, af, g⟩ :: rest) F K := fun a w hF hK => by
  unfold wpListIn
  rw [if_pos (hF.wanted hg)]
  obtain ⟨fn, tmps, assign, body, hy1, hy2⟩ := hy w hK
  have e1 := hF.evl hf
  have e2 := hF.evsl hx
  have hr : (execOp a.eval ⟨d, .call { callee := .value x, args := xs.toArray, argTypes := ts }, ty, pos, af, g⟩).run c.P w = .ok (.round l fn tmps assign body) w := by
    simp only [execOp, resolve, e1, Deferred.ofValue, List.map_toArray, e2, Sem.run_bind, Sem.run_pure, Result.andThen_ok, invoke]
    simpa using hy1
  refine ⟨fun _ _ => trivial, ?_⟩
  rw [Fence.wide_round, Oper.semAt_none, hr, Oper.uponIn_round]
  refine ⟨fun h9 => (by simp [Fence.wide] at h9), hy2.mono ?_⟩
  rintro e w' (⟨rfl, r, hs⟩ | ⟨rfl, r, hs⟩)
  · exact h1 r _ _ (hF.fput hd _) hs
  · exact h2 r _ _ (hF.fput hd _) hs
theorem Sat.newO {S : List Nat} {w0 w : World} (h : Sat S w0 K w) (o : Obj) (ho : o.isCells = false) : Sat S w0 (.obj w.heap.size o :: K) (w.alloc o) :=
  h.add (L := [_]) (Sat.one (Chg.of_ext ((Below.refl _ _).alloc (Nat.le_refl _) _)) (by simp [Fact.foot]) (fun b hb => by simp [Fact.foot] at hb; subst hb; exact .inr (Nat.le_refl _)) ⟨World.alloc_heap_new w o, ho⟩)
theorem Sat.putO {S : List Nat} {w0 w : World} {b : Nat} {o o' : Obj} (h : Sat S w0 (.obj b o :: K) w) (ho : o'.isCells = false) : Sat S w0 (.obj b o' :: K) (w.putObj b o') :=
  h.turn (φ' := .obj b o') (Chg.grown (grownBy_putObj' w b o')) (by simp [Fact.foot]) (fun x hx => .inl hx) ⟨World.putObj_heap_same (lt_of_get (h.holds (.obj b o) (by simp)).1), ho⟩
def putF : List Tmp → List Value → Fr → Fr
  | p :: ps, v :: vs, F => putF ps vs ((p, v) :: F)
  | _, _, F => F
theorem FS.putF {n : Nat} : ∀ {ps : List Tmp} {vs : List Value} {F : Fr} {t : Array Value}, FS n [] F { tmps := t, defers := [] } → (ps.all fun p => Nat.blt p n) = true → FS n [] (Go.Proofs.YtmonkjnfjgidbaaGreatDoor.putF ps vs F) { tmps := (ps.zip vs).foldl (fun t (p, v) => t.setIfInBounds p v) t, defers := [] }
  | [], _, _, _, h, _ => by simpa [Go.Proofs.YtmonkjnfjgidbaaGreatDoor.putF] using h
  | _ :: _, [], _, _, h, _ => by simpa [Go.Proofs.YtmonkjnfjgidbaaGreatDoor.putF] using h
  | p :: ps, v :: vs, F, t, h, hp => by
    simp only [List.all_cons, Bool.and_eq_true] at hp
    have := FS.putF (ps := ps) (vs := vs) (h.put hp.1 v) hp.2
    simpa [Go.Proofs.YtmonkjnfjgidbaaGreatDoor.putF, Act.put] using this
def RB (c : Cx) {R Rx : Type} (KN : R → List Fact) (jx : Rx → Code) (KX : Rx → List Fact) : Exit → Act → World → Prop
  | .normal, _, w => ∃ r, Sat c.S c.w0 (KN r) w
  | .ret, _, w => ∃ x, jx x = .ret ∧ Sat c.S c.w0 (KX x) w
  | .exit i, _, w => ∃ x, jx x = .exit i ∧ Sat c.S c.w0 (KX x) w
  | _, _, _ => False
theorem TQ.rbN {R Rx : Type} {KN : R → List Fact} {jx : Rx → Code} {KX : Rx → List Fact} (r : R) (hK : KSub K (KN r)) : TQ c (RB c KN jx KX) .normal F K := fun _ _ _ h => ⟨r, h.sub hK⟩
theorem TQ.rbR {R Rx : Type} {KN : R → List Fact} {jx : Rx → Code} {KX : Rx → List Fact} (x : Rx) (hx : jx x = .ret) (hK : KSub K (KX x)) : TQ c (RB c KN jx KX) .ret F K := fun _ _ _ h => ⟨x, hx, h.sub hK⟩
theorem perm_objs (A B : List Fact) (x y : Fact) : (A ++ (x :: y :: B)).Perm (x :: y :: (A ++ B)) := List.perm_middle.trans (List.Perm.cons _ List.perm_middle)
theorem K_enterM {P : Program} {f : FuncId} {fn : Func} {code : Code} {n : Nat} {args : List Value} {R : Ending → World → Prop} {w w0 : World} {S : List Nat} {K : List Fact} (hf : P.funcs[f]? = some fn) (hb : fn.body = some code) (hn : fn.ntmps = n) (hl : Nat.ble args.length n = true) (hS : Sat S w0 K w)
    (h : TW ⟨P, n, [], S, w0⟩ code (bodyPostM Fence.wide 2 P fn R) (zipF 0 args) K) : Calls P f args.toArray w R := by
  refine calls_of_marks hf hb ?_
  rw [hn]
  exact h _ _ (FS.start (Nat.le_of_ble_eq_true hl)) hS
theorem K_enterW {P : Program} {f : FuncId} {fn : Func} {code : Code} {n : Nat} {args : List Value} {R : Ending → World → Prop} {w w0 : World} {S : List Nat} {K : List Fact} (hf : P.funcs[f]? = some fn) (hb : fn.body = some code) (hn : fn.ntmps = n) (hl : Nat.ble args.length n = true) (hS : Sat S w0 K w)
    (h : TW ⟨P, n, [], S, w0⟩ code (bodyPost P fn R) (zipF 0 args) K) : Calls P f args.toArray w R := by
  refine calls_of_wp hf hb ?_
  rw [hn]
  exact h _ _ (FS.start (Nat.le_of_ble_eq_true hl)) hS
theorem TQ.retM {fn : Func} {R : Ending → World → Prop} {rs : List ResultVar} {vs : List Value} {D : Nat} (hr : fn.results = rs.toArray) (hp : Pick K (.obj D (.deferred (some []))) K') (hv : RV c F K' rs vs) (h : ∀ w, Sat c.S c.w0 K' w → R (.returned (retV vs)) w) (hD : c.D = [{ target := .collected D, args := #[] }] := by rfl) : TQ c (bodyPostM Fence.wide 2 c.P fn R) .ret F K := fun a w hF hK => by
  have h1 := hK.pick hp
  have hd : w.heap[D]? = some (.deferred (some [])) := (h1.holds (.obj _ _) (by simp)).1
  have h2 : Sat c.S c.w0 K' (w.putObj D (.deferred none)) := (h1.putO (o' := .deferred none) rfl).sub (KSub.drop (KSub.refl _))
  obtain ⟨t, ds⟩ := a
  have e : ds = [{ target := .collected D, args := #[] }] := hF.dfs.trans hD
  subst e
  exact ret_marks hd (hv.results hr hF h2) (h _ h2)
end
end Go.Proofs.YtmonkjnfjgidbaaGreatDoor
namespace Go.Proofs.YtmonkjnfjgidbaaGreatDoor
set_option linter.all false
set_option linter.unusedVariables false
set_option linter.unusedSimpArgs false
open Go.RowKit
def spL (a b : Int) : List Value := [.int .i64 a, .int .i64 b]
def ordB5 (lo hi a b : Int) : Bool := decide (lo ≤ a) && decide (a ≤ b) && decide (b ≤ hi)
def inB5 (lo hi a : Int) : Bool := decide (lo ≤ a) && decide (a ≤ hi)
def Fst (p : Nat → Bool) (n : Nat) : Type := { k : Nat // k ≤ n ∧ (∀ j, j < k → p j = false) ∧ (k < n → p k = true) }
def aft (n k : Nat) : Nat := if k < n then k + 1 else n
theorem Fst.any {p : Nat → Bool} {n : Nat} (x : Fst p n) : decide (x.1 < n) = (List.range n).any p := by
  obtain ⟨k, h1, h2, h3⟩ := x
  by_cases h : k < n
  · have : (List.range n).any p = true := List.any_eq_true.2 ⟨k, List.mem_range.2 h, h3 h⟩
    rw [this]; simpa using h
  · have : (List.range n).any p = false := by
      rw [List.any_eq_false]
      intro j hj
      have := h2 j (by have := List.mem_range.1 hj; omega)
      simp [this]
    rw [this]; simpa using h
theorem RdR.blk {w : World} {b : Nat} {E : TypeId} {cs : List Value} {n sz : Nat} {r : Nat → List Value} (h : Blk w b E cs.toArray) (hr : flatR n r = cs) (hl : ∀ i, i < n → (r i).length = sz) (hz : Nat.blt 0 sz = true := by rfl) (hn : Nat.ble n 1000000 = true := by rfl) : RdR w sz (some ⟨b, 0, none⟩) n r :=
  (OwnR.of_blk h hr hl hz hn).rdr
end Go.Proofs.YtmonkjnfjgidbaaGreatDoor
namespace Go.Proofs.YtmonkjnfjgidbaaGreatDoor
set_option linter.all false
set_option linter.unusedVariables false
set_option linter.unusedSimpArgs false
open Go.RowKit
def iL (L : List Int) : Nat → List Value := fun k => [.int .i64 (L.getD k 0)]
theorem iL_lt {L : List Int} {k : Nat} (h : k < L.length) : L[k]? = some (L.getD k 0) := by
  rw [List.getD_eq_getElem?_getD, List.getElem?_eq_getElem h]
  rfl
theorem getD_app {L M : List Int} {k : Nat} : (L ++ M).getD k 0 = if k < L.length then L.getD k 0 else M.getD (k - L.length) 0 := by
  simp only [List.getD_eq_getElem?_getD]
  by_cases h : k < L.length
  · rw [if_pos h, List.getElem?_append_left h]
  · rw [if_neg h, List.getElem?_append_right (by omega)]
theorem iL_app {L L' : List Int} {m : Nat} {x : Int} {s : Nat → List Value} (hm : m = L.length) (hL : L' = L ++ [x]) (hs : s 0 = [.int .i64 x]) : ∀ i, i < m + 1 → catR m (iL L) s i = iL L' i := fun i hi => by
  subst hL
  simp only [catR, iL]
  rw [getD_app]
  by_cases h : i < m
  · rw [if_pos h, if_pos (by omega)]
  · obtain rfl : i = m := by omega
    rw [if_neg h, Nat.sub_self, hs, if_neg (by omega), hm, Nat.sub_self]
    rfl
def toI (v : Nat → Int) (n : Nat) : List Int := (List.range n).map v
theorem toI_len {v : Nat → Int} {n : Nat} : (toI v n).length = n := by simp [toI]
theorem toI_get {v : Nat → Int} {n k : Nat} (h : k < n) : (toI v n).getD k 0 = v k := by
  simp [toI, List.getD_eq_getElem?_getD, h]
theorem toI_getD (L : List Int) : toI (fun k => L.getD k 0) L.length = L := by
  apply List.ext_getElem
  · simp [toI]
  · intro i h1 h2
    simp [toI, List.getD_eq_getElem?_getD, h2]
theorem mem_getD {L : List Int} {k : Nat} (h : k < L.length) : L.getD k 0 ∈ L := by
  have := iL_lt h
  exact List.mem_of_getElem? this
theorem take_succ {L : List Int} {k : Nat} (h : k < L.length) : L.take (k + 1) = L.take k ++ [L.getD k 0] := by
  rw [List.take_succ, iL_lt h]
  rfl
def ins (x : Int) : List Int → List Int
  | [] => [x]
  | y :: ys => if x ≤ y then x :: y :: ys else y :: ins x ys
def srt : List Int → List Int
  | [] => []
  | x :: xs => ins x (srt xs)
theorem ins_perm (x : Int) : ∀ L : List Int, (ins x L).Perm (x :: L)
  | [] => List.Perm.refl _
  | y :: ys => by
    simp only [ins]
    split
    · exact List.Perm.refl _
    · exact ((ins_perm x ys).cons y).trans (List.Perm.swap _ _ _)
theorem srt_perm : ∀ L : List Int, (srt L).Perm L
  | [] => List.Perm.refl _
  | x :: xs => (ins_perm x (srt xs)).trans ((srt_perm xs).cons x)
theorem srt_len (L : List Int) : (srt L).length = L.length := (srt_perm L).length_eq
theorem ins_mono (x : Int) : ∀ L : List Int, L.Pairwise (· ≤ ·) → (ins x L).Pairwise (· ≤ ·)
  | [], _ => by simp [ins]
  | y :: ys, h => by
    have h1 := List.pairwise_cons.1 h
    simp only [ins]
    split
    · rename_i hxy
      refine List.pairwise_cons.2 ⟨fun z hz => ?_, h⟩
      rcases List.mem_cons.1 hz with rfl | hz
      · exact hxy
      · exact Int.le_trans hxy (h1.1 z hz)
    · refine List.pairwise_cons.2 ⟨fun z hz => ?_, ins_mono x ys h1.2⟩
      rcases List.mem_cons.1 ((ins_perm x ys).mem_iff.1 hz) with rfl | hz
      · omega
      · exact h1.1 z hz
theorem srt_mono : ∀ L : List Int, (srt L).Pairwise (· ≤ ·)
  | [] => List.Pairwise.nil
  | x :: xs => ins_mono x _ (srt_mono xs)
theorem ms_mono (L : List Int) : (L.mergeSort fun x y => decide (x ≤ y)).Pairwise (· ≤ ·) :=
  (List.pairwise_mergeSort (le := fun x y : Int => decide (x ≤ y)) (fun a b c h1 h2 => by simp only [decide_eq_true_eq] at *; omega) (fun a b => by simp only [Bool.or_eq_true, decide_eq_true_eq]; omega) L).imp (by intro a b h; simpa using h)
theorem ms_srt (L : List Int) : (L.mergeSort fun x y => decide (x ≤ y)) = srt L :=
  List.Perm.eq_of_pairwise (le := (· ≤ ·)) (fun a b _ _ h1 h2 => Int.le_antisymm h1 h2) (ms_mono L) (srt_mono L) ((List.mergeSort_perm L _).trans (srt_perm L).symm)
theorem srt_nil : srt [] = [] := rfl
theorem Sat.own1 {w : World} {A : Option Addr} {n cp : Nat} {E : TypeId} {sz : Nat} {r : Nat → List Value} (h : OwnR w A n cp E sz r) : Sat (feet [.own A n cp E sz r]) w [.own A n cp E sz r] w :=
  ⟨Chg.refl _ _, by cases A <;> simp [feet, Fact.foot], fun b hb => .inl hb, by intro φ hφ; obtain rfl := List.mem_singleton.1 hφ; exact h⟩
theorem own_putRow {w : World} {G cp : Nat} {E : TypeId} {L M : List Int} (os : Array Obj) (n : Nat) (hl : M.length = L.length) (h : OwnR w (some ⟨G, 0, none⟩) L.length cp E 1 (iL L)) :
    Sat [G] w [.own (some ⟨G, 0, none⟩) L.length cp E 1 (iL M)] (Sort.grow (Sort.putRow (Value.int .i64) (Sort.ahead w n) G 0 M.toArray) os) := by
  rcases h.own.2 with ⟨e, _⟩ | ⟨g, cap, cur, e, hg, hh, hnc, hcm, hcs, ht⟩
  · cases e
  · simp only [Value.slice.injEq, Option.some.injEq, Addr.mk.injEq, and_true, true_and] at e
    obtain ⟨rfl, rfl⟩ := e
    have hlt := lt_of_get hh
    have hsz : L.length * 1 ≤ cur.size := by rw [hcs]; exact Nat.mul_le_mul_right _ hnc
    have hheap : (Sort.putRow (Value.int .i64) (Sort.ahead w n) G 0 M.toArray).heap = w.heap.modify G (Sort.onCells (Sort.putCells (Value.int .i64) 0 M.toArray)) := rfl
    have hget : (Sort.grow (Sort.putRow (Value.int .i64) (Sort.ahead w n) G 0 M.toArray) os).heap[G]? = some (.cells (Sort.putCells (Value.int .i64) 0 M.toArray cur) E (0, 0)) := by
      show ((Sort.putRow (Value.int .i64) (Sort.ahead w n) G 0 M.toArray).heap ++ os)[G]? = _
      rw [hheap, Array.getElem?_append_left (by simpa using hlt), Array.getElem?_modify, if_pos rfl, hh]
      rfl
    have hps : (Sort.putCells (Value.int .i64) 0 M.toArray cur).size = cur.size := by simp [Sort.putCells]
    refine Sat.one ⟨rfl, rfl, rfl, ?_, fun k hk hS => ?_⟩ (by simp [Fact.foot]) (fun q hq => .inl hq) ⟨⟨by rw [flat_length], .inr ⟨G, cp, _, rfl, hg, hget, hnc, hcm, by rw [hps, hcs], ?_⟩⟩, fun i hi => rfl⟩
    · show w.heap.size ≤ ((Sort.putRow (Value.int .i64) (Sort.ahead w n) G 0 M.toArray).heap ++ os).size
      rw [hheap]
      simp
    · show ((Sort.putRow (Value.int .i64) (Sort.ahead w n) G 0 M.toArray).heap ++ os)[k]? = _
      rw [hheap, Array.getElem?_append_left (by simpa using hk), Array.getElem?_modify, if_neg (fun e => hS (by simp [e]))]
    · apply List.ext_getElem?
      intro k
      by_cases hk : k < L.length * 1
      · have h1 := flat_get (f := rowF (iL M)) (n := L.length) (sz := 1) (i := k) (j := 0) (by omega) (by omega)
        rw [Nat.mul_one, Nat.add_zero] at h1
        rw [h1, List.getElem?_take, if_pos hk]
        simp only [Sort.putCells, Array.getElem?_toList, Array.getElem?_mapIdx, Array.getElem?_eq_getElem (show k < cur.size by omega), Option.map_some]
        have hk2 : k < M.length := by omega
        rw [if_pos ⟨Nat.zero_le _, by simpa using hk2⟩]
        simp [rowF, iL, List.getD_eq_getElem?_getD, hk2]
      · rw [List.getElem?_eq_none (by rw [List.length_take]; omega), List.getElem?_eq_none (by rw [flat_length]; omega)]
end Go.Proofs.YtmonkjnfjgidbaaGreatDoor
namespace Go.Proofs.YtmonkjnfjgidbaaGreatDoor
set_option linter.all false
set_option linter.unusedVariables false
set_option linter.unusedSimpArgs false
set_option linter.all false
set_option linter.unusedVariables false
set_option linter.unusedSimpArgs false
def prsL (f g : Nat → Int) : Nat → List Int
  | 0 => []
  | k + 1 => prsL f g k ++ [f k, g k]
theorem prs_len {f g : Nat → Int} : ∀ k, (prsL f g k).length = 2 * k
  | 0 => rfl
  | k + 1 => by simp only [prsL, List.length_append, List.length_cons, List.length_nil, prs_len k]; omega
def rulL (lo : Int) (nc nd nb : Nat) (c : Nat → (Nat → Int) × Bool) (d b : Nat → Nat → Int) : List Int :=
  ((([lo] : List Int) ++ prsL (fun k => (c k).1 2) (fun k => (c k).1 3 + 1) nc) ++ prsL (fun k => d k 2) (fun k => d k 3 + 1) nd) ++ prsL (fun k => b k 1) (fun k => b k 2 + 1) nb
theorem rul_len {lo : Int} {nc nd nb : Nat} {c : Nat → (Nat → Int) × Bool} {d b : Nat → Nat → Int} : (rulL lo nc nd nb c d b).length = 1 + 2 * nc + 2 * nd + 2 * nb := by
  simp only [rulL, List.length_append, prs_len, List.length_cons, List.length_nil]
theorem rul_lo {lo : Int} {nc nd nb : Nat} {c : Nat → (Nat → Int) × Bool} {d b : Nat → Nat → Int} : lo ∈ rulL lo nc nd nb c d b := by simp [rulL]
def tuK (lo hi : Int) (v : Nat → Int) : Nat → List Int
  | 0 => []
  | k + 1 => if (inB5 lo hi (v k) && !(tuK lo hi v k).contains (v k)) = true then tuK lo hi v k ++ [v k] else tuK lo hi v k
theorem tu_mem {lo hi t : Int} {v : Nat → Int} : ∀ k, t ∈ tuK lo hi v k ↔ inB5 lo hi t = true ∧ ∃ j, j < k ∧ v j = t
  | 0 => by simp [tuK]
  | k + 1 => by
    have ih := tu_mem (lo := lo) (hi := hi) (t := t) (v := v) k
    have hx : (∃ j, j < k + 1 ∧ v j = t) ↔ (∃ j, j < k ∧ v j = t) ∨ v k = t :=
      ⟨fun ⟨j, hj, e⟩ => by
        by_cases h : j < k
        · exact .inl ⟨j, h, e⟩
        · obtain rfl : j = k := by omega
          exact .inr e, fun h => h.elim (fun ⟨j, hj, e⟩ => ⟨j, by omega, e⟩) (fun e => ⟨k, by omega, e⟩)⟩
    simp only [tuK]
    rw [hx]
    split
    · next h =>
      simp only [Bool.and_eq_true] at h
      rw [List.mem_append, List.mem_singleton, ih]
      constructor
      · rintro (⟨h1, h2⟩ | rfl)
        · exact ⟨h1, .inl h2⟩
        · exact ⟨h.1, .inr rfl⟩
      · rintro ⟨h1, h2 | rfl⟩
        · exact .inl ⟨h1, h2⟩
        · exact .inr rfl
    · next h =>
      rw [ih]
      constructor
      · rintro ⟨h1, h2⟩
        exact ⟨h1, .inl h2⟩
      · rintro ⟨h1, h2 | rfl⟩
        · exact ⟨h1, h2⟩
        · rw [h1] at h
          simp only [Bool.true_and, Bool.not_eq_true', Bool.not_eq_false] at h
          exact ih.1 (by simpa using h)
def cmpL : List Int → List Int
  | [] => []
  | a :: l => match cmpL l with
    | [] => [a]
    | b :: m => if a = b then b :: m else a :: b :: m
theorem cmpL_mem {t : Int} : ∀ L : List Int, t ∈ cmpL L ↔ t ∈ L
  | [] => by simp [cmpL]
  | a :: l => by
    have ih := cmpL_mem (t := t) l
    simp only [cmpL]
    split
    · next h =>
      rw [h] at ih
      simp only [List.not_mem_nil, false_iff] at ih
      simp [ih]
    · next b m h =>
      rw [h] at ih
      split
      · next e =>
        subst e
        rw [ih]
        simp only [List.mem_cons] at ih ⊢
        exact ⟨fun h => .inr h, fun h => h.elim (fun e => ih.1 (.inl e)) id⟩
      · rw [List.mem_cons, ih, List.mem_cons]
def cdL (lo hi : Int) (L : List Int) : List Int := (cmpL (srt L)).filter (inB5 lo hi)
theorem cd_mem {lo hi t : Int} {L : List Int} : t ∈ cdL lo hi L ↔ inB5 lo hi t = true ∧ t ∈ L := by
  unfold cdL
  rw [List.mem_filter, cmpL_mem, (srt_perm L).mem_iff, and_comm]
theorem tu_cd {lo hi t : Int} {L : List Int} : t ∈ tuK lo hi (fun k => L.getD k 0) L.length ↔ t ∈ cdL lo hi L := by
  rw [tu_mem, cd_mem]
  refine and_congr_right fun _ => ⟨fun ⟨j, hj, e⟩ => ?_, fun h => ?_⟩
  · rw [← e]; simp [List.getD_eq_getElem?_getD, hj]
  · obtain ⟨j, hj, e⟩ := List.mem_iff_getElem.1 h
    exact ⟨j, hj, by simp [List.getD_eq_getElem?_getD, hj, e]⟩
def wrK (f : Int → Int) : List Int → Int → Int
  | [], a => a
  | t :: L, a => wrK f L (if 0 < f t ∧ (a = 0 ∨ f t < a) then f t else a)
def wcK (f : Int → Int) : List Int → Int → Int
  | [], a => a
  | t :: L, a => wcK f L (if f t = 0 then a else min a (f t))
theorem wr_spec {f : Int → Int} (hf : ∀ t, 0 ≤ f t) : ∀ (L : List Int) (a : Int), 0 ≤ a →
    (wrK f L a = 0 ∧ a = 0 ∧ ∀ t ∈ L, f t = 0) ∨ (0 < wrK f L a ∧ (wrK f L a = a ∨ ∃ t ∈ L, f t = wrK f L a) ∧ (a = 0 ∨ wrK f L a ≤ a) ∧ ∀ t ∈ L, 0 < f t → wrK f L a ≤ f t)
  | [], a, ha => by
    simp only [wrK]
    by_cases h : a = 0
    · exact .inl ⟨h, h, by simp⟩
    · exact .inr ⟨by omega, .inl trivial, .inr (by omega), by simp⟩
  | x :: L, a, ha => by
    have hx := hf x
    simp only [wrK]
    by_cases h : 0 < f x ∧ (a = 0 ∨ f x < a)
    · rw [if_pos h]
      rcases wr_spec hf L (f x) (by omega) with ⟨h1, h2, h3⟩ | ⟨h1, h2, h3, h4⟩
      · omega
      · refine .inr ⟨h1, ?_, by omega, ?_⟩
        · rcases h2 with h2 | ⟨t, ht, e⟩
          · exact .inr ⟨x, List.mem_cons_self .., h2.symm⟩
          · exact .inr ⟨t, List.mem_cons_of_mem _ ht, e⟩
        · intro t ht hp
          rcases List.mem_cons.1 ht with rfl | ht
          · omega
          · exact h4 t ht hp
    · rw [if_neg h]
      rcases wr_spec hf L a ha with ⟨h1, h2, h3⟩ | ⟨h1, h2, h3, h4⟩
      · refine .inl ⟨h1, h2, fun t ht => ?_⟩
        rcases List.mem_cons.1 ht with rfl | ht
        · omega
        · exact h3 t ht
      · refine .inr ⟨h1, ?_, h3, ?_⟩
        · rcases h2 with h2 | ⟨t, ht, e⟩
          · exact .inl h2
          · exact .inr ⟨t, List.mem_cons_of_mem _ ht, e⟩
        · intro t ht hp
          rcases List.mem_cons.1 ht with rfl | ht
          · omega
          · exact h4 t ht hp
theorem wc_spec {f : Int → Int} (hf : ∀ t, 0 ≤ f t ∧ f t ≤ 3) : ∀ (L : List Int) (a : Int), (a = 255 ∨ 0 < a ∧ a ≤ 3) →
    (wcK f L a = 255 ∧ a = 255 ∧ ∀ t ∈ L, f t = 0) ∨ (0 < wcK f L a ∧ wcK f L a ≤ 3 ∧ (wcK f L a = a ∨ ∃ t ∈ L, f t = wcK f L a) ∧ wcK f L a ≤ a ∧ ∀ t ∈ L, 0 < f t → wcK f L a ≤ f t)
  | [], a, ha => by
    simp only [wcK]
    rcases ha with h | h
    · exact .inl ⟨h, h, by simp⟩
    · exact .inr ⟨by omega, by omega, .inl trivial, by omega, by simp⟩
  | x :: L, a, ha => by
    have hx := hf x
    simp only [wcK]
    by_cases h : f x = 0
    · rw [if_pos h]
      rcases wc_spec hf L a ha with ⟨h1, h2, h3⟩ | ⟨h1, h0, h2, h3, h4⟩
      · refine .inl ⟨h1, h2, fun t ht => ?_⟩
        rcases List.mem_cons.1 ht with rfl | ht
        · omega
        · exact h3 t ht
      · refine .inr ⟨h1, h0, ?_, h3, ?_⟩
        · rcases h2 with h2 | ⟨t, ht, e⟩
          · exact .inl h2
          · exact .inr ⟨t, List.mem_cons_of_mem _ ht, e⟩
        · intro t ht hp
          rcases List.mem_cons.1 ht with rfl | ht
          · omega
          · exact h4 t ht hp
    · rw [if_neg h]
      rcases wc_spec hf L (min a (f x)) (by omega) with ⟨h1, h2, h3⟩ | ⟨h1, h0, h2, h3, h4⟩
      · omega
      · refine .inr ⟨h1, h0, ?_, by omega, ?_⟩
        · rcases h2 with h2 | ⟨t, ht, e⟩
          · by_cases ha2 : a ≤ f x
            · exact .inl (by omega)
            · exact .inr ⟨x, List.mem_cons_self .., by omega⟩
          · exact .inr ⟨t, List.mem_cons_of_mem _ ht, e⟩
        · intro t ht hp
          rcases List.mem_cons.1 ht with rfl | ht
          · omega
          · exact h4 t ht hp
theorem why_same {f : Int → Int} {L M : List Int} (hf : ∀ t, 0 ≤ f t ∧ f t ≤ 3) (h : ∀ t, t ∈ L ↔ t ∈ M) :
    (if wcK f L 255 = 255 then 0 else wcK f L 255) = wrK f M 0 := by
  rcases wc_spec hf L 255 (.inl rfl) with ⟨h1, _, h3⟩ | ⟨h1, h0, h2, _, h4⟩ <;>
  rcases wr_spec (fun t => (hf t).1) M 0 (by omega) with ⟨k1, _, k3⟩ | ⟨k1, k2, _, k4⟩
  · rw [if_pos h1, k1]
  · obtain ⟨t, ht, e⟩ := k2.resolve_left (by omega)
    have := h3 t ((h t).2 ht)
    omega
  · obtain ⟨t, ht, e⟩ := h2.resolve_left (by omega)
    have := k3 t ((h t).1 ht)
    omega
  · obtain ⟨t, ht, e⟩ := h2.resolve_left (by omega)
    obtain ⟨s, hs, e2⟩ := k2.resolve_left (by omega)
    have a := k4 t ((h t).1 ht) (by omega)
    have b := h4 s ((h s).2 hs) (by omega)
    rw [if_neg (by omega)]
    omega
def Lst1 (L : List Int) (r : Int) : Prop := r ∈ L ∧ ∀ t ∈ L, r ≤ t
def Mst1 (L : List Int) (r : Int) : Prop := r ∈ L ∧ ∀ t ∈ L, t ≤ r
theorem Lst1.eq {L M : List Int} {r s : Int} (h : ∀ t, t ∈ L ↔ t ∈ M) (a : Lst1 L r) (b : Lst1 M s) : r = s := by
  have h1 := a.2 s ((h s).2 b.1)
  have h2 := b.2 r ((h r).1 a.1)
  omega
theorem Mst1.eq {L M : List Int} {r s : Int} (h : ∀ t, t ∈ L ↔ t ∈ M) (a : Mst1 L r) (b : Mst1 M s) : r = s := by
  have h1 := a.2 s ((h s).2 b.1)
  have h2 := b.2 r ((h r).1 a.1)
  omega
def gtL (who : Int → Bool) (f : Int → Int) (D : List Int) : List Int := (D.filter who).map f
def gotL (who : Int → Bool) (f : Int → Int) (D : List Int) : List Int := if (gtL who f D).length < D.length then gtL who f D ++ [0] else gtL who f D
def onW (who : Int → Bool) (f : Int → Int) (t : Int) : Int := if who t = true then f t else 0
theorem gt_lt {who : Int → Bool} {f : Int → Int} {D : List Int} : (gtL who f D).length < D.length ↔ ∃ t ∈ D, who t = false := by
  unfold gtL
  rw [List.length_map]
  constructor
  · intro h
    refine Classical.byContradiction fun hn => ?_
    have : D.filter who = D := List.filter_eq_self.2 fun t ht => by
      cases e : who t
      · exact absurd ⟨t, ht, e⟩ hn
      · rfl
    rw [this] at h
    omega
  · rintro ⟨t, ht, e⟩
    have h1 := List.length_filter_le who D
    refine Nat.lt_of_le_of_ne h1 fun h2 => ?_
    have := (List.length_filter_eq_length_iff.1 h2) t ht
    rw [e] at this
    cases this
theorem got_mem {who : Int → Bool} {f : Int → Int} {D : List Int} {x : Int} : x ∈ gotL who f D ↔ x ∈ D.map (onW who f) := by
  have h0 : ∀ x, x ∈ gtL who f D ↔ ∃ t ∈ D, who t = true ∧ f t = x := by
    intro x
    simp only [gtL, List.mem_map, List.mem_filter]
    exact ⟨fun ⟨t, ⟨a, b⟩, e⟩ => ⟨t, a, b, e⟩, fun ⟨t, a, b, e⟩ => ⟨t, ⟨a, b⟩, e⟩⟩
  rw [List.mem_map]
  unfold gotL
  split
  · next h =>
    obtain ⟨s, hs, es⟩ := gt_lt.1 h
    rw [List.mem_append, List.mem_singleton, h0]
    constructor
    · rintro (⟨t, ht, hw, e⟩ | rfl)
      · exact ⟨t, ht, by simp [onW, hw, e]⟩
      · exact ⟨s, hs, by simp [onW, es]⟩
    · rintro ⟨t, ht, e⟩
      cases hw : who t
      · exact .inr (by simpa [onW, hw] using e.symm)
      · exact .inl ⟨t, ht, hw, by simpa [onW, hw] using e⟩
  · next h =>
    rw [h0]
    constructor
    · rintro ⟨t, ht, hw, e⟩
      exact ⟨t, ht, by simp [onW, hw, e]⟩
    · rintro ⟨t, ht, e⟩
      cases hw : who t
      · exact absurd (gt_lt.2 ⟨t, ht, hw⟩) h
      · exact ⟨t, ht, hw, by simpa [onW, hw] using e⟩
end Go.Proofs.YtmonkjnfjgidbaaGreatDoor
namespace Go.Proofs.YtmonkjnfjgidbaaGreatDoor
set_option linter.all false
set_option linter.unusedVariables false
set_option linter.unusedSimpArgs false
set_option linter.all false
set_option linter.unusedVariables false
set_option linter.unusedSimpArgs false
theorem cmpL_cons (a b : Int) (m : List Int) : cmpL (a :: b :: m) = if a = b then cmpL (b :: m) else a :: cmpL (b :: m) := by
  have hd : ∃ r, cmpL (b :: m) = b :: r := by
    simp only [cmpL]
    split
    · exact ⟨_, rfl⟩
    · next c q _ =>
      split
      · next e => subst e; exact ⟨_, rfl⟩
      · exact ⟨_, rfl⟩
  obtain ⟨r, hr⟩ := hd
  rw [cmpL, hr]
theorem cmpL_le : ∀ L : List Int, (cmpL L).length ≤ L.length
  | [] => by simp [cmpL]
  | [a] => by simp [cmpL]
  | a :: b :: m => by
    have ih := cmpL_le (b :: m)
    rw [cmpL_cons]
    split
    · simp only [List.length_cons] at ih ⊢; omega
    · simp only [List.length_cons] at ih ⊢; omega
theorem cmpL_len : ∀ L : List Int, (cmpL L).length = L.length ↔ ∀ k, k + 1 < L.length → L.getD k 0 ≠ L.getD (k + 1) 0
  | [] => by simp [cmpL]
  | [a] => by simp [cmpL]
  | a :: b :: m => by
    have ih := cmpL_len (b :: m)
    have hl := cmpL_le (b :: m)
    rw [cmpL_cons]
    by_cases e : a = b
    · rw [if_pos e]
      constructor
      · intro h
        simp only [List.length_cons] at h hl
        omega
      · intro h
        exact absurd (by simpa using e) (h 0 (by simp))
    · rw [if_neg e, show (a :: cmpL (b :: m)).length = (cmpL (b :: m)).length + 1 from rfl, show (a :: b :: m).length = (b :: m).length + 1 from rfl]
      constructor
      · intro h k hk
        cases k with
        | zero => simpa using e
        | succ k =>
          have := ih.1 (by omega) k (by simp only [List.length_cons] at hk ⊢; omega)
          simpa using this
      · intro h
        have : (cmpL (b :: m)).length = (b :: m).length := ih.2 fun k hk => by
          have := h (k + 1) (by simp only [List.length_cons] at hk ⊢; omega)
          simpa using this
        omega
def triOk (v : Nat → Int) (n : Nat) : Bool := allB n fun i => inB5 0 7 (v i) && (decide (i = 0) || decide (v (i - 1) < v i))
def sortB (v : Nat → Int) (n : Nat) : Bool := allB n fun i => decide (i = 0) || !decide (v i < v (i - 1))
theorem tri_eq {v : Nat → Int} {n : Nat} : ((allB n fun i => inB5 0 7 (v i)) && sortB v n && decide ((cmpL (toI v n)).length = n)) = triOk v n := by
  have hc : (cmpL (toI v n)).length = n ↔ ∀ k, k + 1 < n → v k ≠ v (k + 1) := by
    have := cmpL_len (toI v n)
    rw [toI_len] at this
    rw [this]
    exact ⟨fun h k hk => by have := h k hk; rwa [toI_get (by omega), toI_get (by omega)] at this, fun h k hk => by rw [toI_get (by omega), toI_get (by omega)]; exact h k hk⟩
  rw [Bool.eq_iff_iff]
  simp only [Bool.and_eq_true, decide_eq_true_eq, hc, sortB, triOk, allB_iff, Bool.or_eq_true, Bool.not_eq_true', decide_eq_false_iff_not]
  constructor
  · rintro ⟨⟨h1, h2⟩, h3⟩ i hi
    refine ⟨h1 i hi, ?_⟩
    cases i with
    | zero => exact .inl rfl
    | succ i =>
      have a := (h2 (i + 1) hi).resolve_left (by omega)
      have b := h3 i hi
      simp only [Nat.add_sub_cancel] at a ⊢
      omega
  · intro h
    refine ⟨⟨fun i hi => (h i hi).1, fun i hi => ?_⟩, fun k hk => ?_⟩
    · rcases (h i hi).2 with a | a
      · exact .inl a
      · exact .inr (by omega)
    · have := (h (k + 1) hk).2.resolve_left (by omega)
      simp only [Nat.add_sub_cancel] at this
      omega
def exB (n : Nat) (p : Nat → Bool) : Bool := !(allB n fun k => !p k)
theorem exB_iff {n : Nat} {p : Nat → Bool} : exB n p = true ↔ ∃ k, k < n ∧ p k = true := by
  unfold exB
  rw [Bool.not_eq_true', Bool.eq_false_iff, Ne, allB_iff]
  constructor
  · intro h
    refine Classical.byContradiction fun hn => h fun i hi => ?_
    cases e : p i
    · rfl
    · exact absurd ⟨i, hi, e⟩ hn
  · rintro ⟨k, hk, e⟩ h
    have := h k hk
    rw [e] at this
    cases this
def feuC (na : Nat) (a : Nat → Int) (tribe day : Int) (d : Nat → Int) : Bool :=
  (decide (d 0 = tribe) || decide (d 1 = tribe)) && inB5 (d 2) (d 3) day && exB na fun i => decide (a i = d 0 + d 1 - tribe)
def feuR (who tribe day : Int) (d : Nat → Int) : Bool :=
  inB5 (d 2) (d 3) day && (decide (d 0 = who) && decide (d 1 = tribe) || decide (d 0 = tribe) && decide (d 1 = who))
theorem feu_eq {na nd : Nat} {a : Nat → Int} {tribe day : Int} {d : Nat → Nat → Int} :
    (exB nd fun k => feuC na a tribe day (d k)) = exB na fun i => exB nd fun k => feuR (a i) tribe day (d k) := by
  rw [Bool.eq_iff_iff]
  simp only [exB_iff, feuC, feuR, Bool.and_eq_true, Bool.or_eq_true, decide_eq_true_eq]
  constructor
  · rintro ⟨k, hk, ⟨h1, h2⟩, i, hi, h3⟩
    exact ⟨i, hi, k, hk, h2, by omega⟩
  · rintro ⟨i, hi, k, hk, h2, h3⟩
    exact ⟨k, hk, ⟨by omega, h2⟩, i, hi, by omega⟩
def whyV (closed hated lost : Bool) : Int := if closed = true then 1 else if hated = true then 2 else if lost = true then 3 else 0
theorem whyV_bd {a b c : Bool} : 0 ≤ whyV a b c ∧ whyV a b c ≤ 3 := by
  unfold whyV
  split
  · omega
  · split
    · omega
    · split <;> omega
def lesV (is_ : Bool) (r why : Int) : Int := if is_ = true then min why r else why
theorem les_eq {a b c : Bool} {w : Int} : lesV c 3 (lesV b 2 (lesV a 1 w)) = if whyV a b c = 0 then w else min w (whyV a b c) := by
  cases a <;> cases b <;> cases c <;> simp [lesV, whyV] <;> omega
end Go.Proofs.YtmonkjnfjgidbaaGreatDoor
namespace Go.Proofs.YtmonkjnfjgidbaaGreatDoor
set_option linter.all false
set_option linter.unusedVariables false
set_option linter.unusedSimpArgs false
open Go.RowKit
theorem indexInt_any {g : FuncId} {fs cs : List Value} {A : Option Addr} {n cp : Nat} {v : Nat → Int} {p : Nat → Bool} {M : Nat → List Fact} {w : World} (hen : Enters Tryz.prog g) (hn : n ≤ 9223372036854775807)
    (hR : RdR w 1 A n (fun k => [.int .i64 (v k)])) (hA : 0 < n → Apart (feet (M 0)) A) (hM : Sat (feet (M 0)) w (M 0) w) (hfe : ∀ k, feet (M k) = feet (M 0))
    (hg : ∀ k, k < n → (∀ j, j < k → p j = false) → ∀ w', Sat (feet (M 0)) w (M k) w' → CallsK Tryz.prog g (fs ++ [Value.int .i64 (v k)] ++ cs).toArray (M k) w' Unit (fun _ => .bool (p k)) (fun _ => M (k + 1))) :
    CallsK Tryz.prog 162 #[.slice A n cp, .func (.func g) fs.toArray cs.toArray] (M 0) w (Fst p n) (fun x => .int .i64 (if x.1 < n then (x.1 : Int) else -1)) (fun x => M (aft n x.1)) := by
  refine K_enter (S := feet (M 0)) (K := M 0) Tryz.func162 rfl Tryz.ntmps162 rfl hM ?_
  refine TW.seq fun Y1 hY1 => ?_
  refine TW.region ?_
  refine TL.p Pu.as ?_
  refine TL.nil ?_
  refine TQ.thenN (hY1 _ _ ?_)
  refine TW.seq fun Y2 hY2 => ?_
  refine TW.seq fun Y3 hY3 => ?_
  refine TW.region ?_
  refine TL.p Pu.mv ?_
  refine TL.p (Pu.ln Tryz.underlying31) ?_
  refine TL.p Pu.mv ?_
  refine TL.nil ?_
  refine TQ.thenN (hY3 _ _ ?_)
  refine TW.block ?_
  refine TW.loop1 (fun (k : Nat) => [(8, .int .i64 (k : Int)), (7, .int .i64 (n : Int)), (0, .slice A n cp), (1, .func (.func g) fs.toArray cs.toArray)]) (fun k => M k) (fun k => k ≤ n ∧ ∀ j, j < k → p j = false) (fun k => n - k) 0 fs9 ?_ ?_ ?_
  exact KSub.refl _
  exact ⟨by omega, fun j hj => by omega⟩
  rintro k ⟨hk, hall⟩ Z0 hZ0
  refine TW.seq fun Y4 hY4 => ?_
  refine TW.region ?_
  refine TL.p Pu.lt ?_
  refine TL.nil ?_
  refine TQ.thenN (hY4 _ _ ?_)
  refine TW.seq fun Y5 hY5 => ?_
  refine TW.cond rfl (fun hc0 => ?_) (fun hc0 => ?_)
  try simp only [decide_eq_true_eq, decide_eq_false_iff_not, Bool.not_eq_true', Bool.not_eq_false', Bool.and_eq_true, Bool.or_eq_true, Bool.and_eq_false_iff, Bool.or_eq_false_iff, Int.not_lt, Int.not_le] at hc0
  have hkn : k < n := by omega
  have hA := hA (by omega)
  refine TW.skip ?_
  refine TQ.thenN (hY5 _ _ ?_)
  refine TW.seq fun Y6 hY6 => ?_
  refine TW.block ?_
  refine TW.seq fun Y7 hY7 => ?_
  refine TW.region ?_
  refine TL.p Pu.mv ?_
  refine TL.p Pu.as ?_
  refine TL.nil ?_
  refine TQ.thenN (hY7 _ _ ?_)
  refine TW.seq fun Y8 hY8 => ?_
  refine TW.region ?_
  refine TL.p Pu.mv ?_
  refine TL.p Pu.mv ?_
  refine TL.p Pu.mv ?_
  refine TL.p (Pu.el ty_et31) ?_
  refine TL.p (Pu.ld ty_sc3) ?_
  refine TL.cvk rfl rfl hen (by rw [List.append_nil]) (fun w hw => by
      exact hg k (by omega) hall w hw) ?_
  intro _
  refine TL.nil ?_
  refine TQ.thenN (hY8 _ _ ?_)
  refine TW.cond rfl (fun hc1 => ?_) (fun hc1 => ?_)
  try simp only [decide_eq_true_eq, decide_eq_false_iff_not, Bool.not_eq_true', Bool.not_eq_false', Bool.and_eq_true, Bool.or_eq_true, Bool.and_eq_false_iff, Bool.or_eq_false_iff, Int.not_lt, Int.not_le] at hc1
  refine TW.seq fun Y9 hY9 => ?_
  refine TW.region ?_
  refine TL.p Pu.mv ?_
  refine TL.p Pu.as ?_
  refine TL.nil ?_
  refine TQ.thenN (hY9 _ _ ?_)
  refine TW.ret ?_
  refine TQ.blkR ?_
  refine TQ.thenR ?_
  refine TQ.thenR ?_
  refine TQ.blkR ?_
  refine TQ.thenR ?_
  refine TQ.ret Tryz.results162 rfl ((.tmp rfl .nil)) ?_
  exact fun w hw => ⟨⟨k, by omega, hall, fun _ => hc1⟩, by simp [hkn]; rfl, by simpa [aft, hkn] using hw⟩
  try simp only [decide_eq_true_eq, decide_eq_false_iff_not, Bool.not_eq_true', Bool.not_eq_false', Bool.and_eq_true, Bool.or_eq_true, Bool.and_eq_false_iff, Bool.or_eq_false_iff, Int.not_lt, Int.not_le] at hc1
  refine TW.skip ?_
  refine TQ.blkN ?_
  refine TQ.thenN (hY6 _ _ ?_)
  refine TW.region ?_
  refine TL.p Pu.ad ?_
  refine TL.p Pu.mv ?_
  refine TL.nil ?_
  refine TQ.thenN (hZ0 (k + 1) _ _ ?_ ?_ fs9 ?_)
  refine ⟨by omega, fun j hj => ?_⟩
  by_cases h : j = k
  subst h; exact hc1
  exact hall j (by omega)
  exact (by first | omega | (simp only []; omega) | (simp; omega))
  rw [List.append_nil]; exact KSub.refl _
  try simp only [decide_eq_true_eq, decide_eq_false_iff_not, Bool.not_eq_true', Bool.not_eq_false', Bool.and_eq_true, Bool.or_eq_true, Bool.and_eq_false_iff, Bool.or_eq_false_iff, Int.not_lt, Int.not_le] at hc0
  have hkn : k = n := by omega
  refine TW.exit ?_
  refine TQ.thenX ?_
  refine TQ.thenX ?_
  refine TQ.blkX ?_
  refine TQ.thenN (hY2 _ _ ?_)
  refine TW.seq fun Y10 hY10 => ?_
  refine TW.region ?_
  refine TL.p Pu.as ?_
  refine TL.nil ?_
  refine TQ.thenN (hY10 _ _ ?_)
  refine TW.ret ?_
  refine TQ.ret Tryz.results162 rfl ((.tmp rfl .nil)) ?_
  exact fun w hw => ⟨⟨k, by omega, hall, fun h => by omega⟩, by simp [hkn]; rfl, by simpa [aft, hkn] using hw⟩
theorem hasInt_st {g : FuncId} {fs cs : List Value} {A : Option Addr} {n cp : Nat} {v : Nat → Int} {p : Nat → Bool} {M : Nat → List Fact} {w : World} (hen : Enters Tryz.prog g) (hn : n ≤ 9223372036854775807)
    (hR : RdR w 1 A n (fun k => [.int .i64 (v k)])) (hA : 0 < n → Apart (feet (M 0)) A) (hM : Sat (feet (M 0)) w (M 0) w) (hfe : ∀ k, feet (M k) = feet (M 0))
    (hg : ∀ k, k < n → (∀ j, j < k → p j = false) → ∀ w', Sat (feet (M 0)) w (M k) w' → CallsK Tryz.prog g (fs ++ [Value.int .i64 (v k)] ++ cs).toArray (M k) w' Unit (fun _ => .bool (p k)) (fun _ => M (k + 1))) :
    CallsK Tryz.prog 128 #[.slice A n cp, .func (.func g) fs.toArray cs.toArray] (M 0) w (Fst p n) (fun x => .bool (decide (x.1 < n))) (fun x => M (aft n x.1)) := by
  refine K_enter (S := feet (M 0)) (K := M 0) Tryz.func128 rfl Tryz.ntmps128 rfl hM ?_
  refine TW.seq fun Y1 hY1 => ?_
  refine TW.region ?_
  refine TL.p Pu.as ?_
  refine TL.nil ?_
  refine TQ.thenN (hY1 _ _ ?_)
  refine TW.seq fun Y2 hY2 => ?_
  refine TW.region ?_
  refine TL.p Pu.mv ?_
  refine TL.p Pu.mv ?_
  refine TL.call rfl (enters Tryz.func162 rfl rfl) (by rw [List.append_nil]) rfl (fun w hw => by
      exact indexInt_any hen hn (hR.sat0 hw hA) hA hw.self hfe (fun k hk hp w' hw' => hg k hk hp w' (hw'.from hw.chg fun _ hb => .inl hb))) ?_
  intro x
  refine TL.p Pu.ge ?_
  refine TL.p Pu.as ?_
  refine TL.nil ?_
  refine TQ.thenN (hY2 _ _ ?_)
  refine TW.ret ?_
  refine TQ.ret Tryz.results128 rfl ((.tmp rfl .nil)) ?_
  exact fun w hw => ⟨x, by by_cases h : x.1 < n <;> simp [retV, h], by simpa using hw⟩
theorem hasInt_any {g : FuncId} {fs cs : List Value} {A : Option Addr} {n cp : Nat} {v : Nat → Int} {p : Nat → Bool} {w : World} (hen : Enters Tryz.prog g) (hn : n ≤ 9223372036854775807)
    (hR : RdR w 1 A n (fun k => [.int .i64 (v k)])) (hg : ∀ k, k < n → ∀ w', Below w.heap.size w w' → Calls Tryz.prog g (fs ++ [Value.int .i64 (v k)] ++ cs).toArray w' (Ret w' (.bool (p k)))) :
    Calls Tryz.prog 128 #[.slice A n cp, .func (.func g) fs.toArray cs.toArray] w (Ret w (.bool (anyB n p))) :=
  CallsK.retOf (hasInt_st (M := fun _ => []) hen hn hR (fun _ => Apart.nil) (Sat.start w) (fun _ => rfl) fun k hk _ w' hw' => CallsK.ret (hg k hk w' (Chg.ext hw'.chg))) fun x => by rw [x.any]; rfl
theorem indexSpan_any {g : FuncId} {fs cs : List Value} {A : Option Addr} {n cp : Nat} {v : Nat → Nat → Int} {p : Nat → Bool} {M : Nat → List Fact} {w : World} (hen : Enters Tryz.prog g) (hn : n ≤ 9223372036854775807)
    (hR : RdR w 2 A n (fun k => spL (v k 0) (v k 1))) (hA : 0 < n → Apart (feet (M 0)) A) (hM : Sat (feet (M 0)) w (M 0) w) (hfe : ∀ k, feet (M k) = feet (M 0))
    (hg : ∀ k, k < n → (∀ j, j < k → p j = false) → ∀ w', Sat (feet (M 0)) w (M k) w' → CallsK Tryz.prog g (fs ++ [Value.agg (spL (v k 0) (v k 1)).toArray] ++ cs).toArray (M k) w' Unit (fun _ => .bool (p k)) (fun _ => M (k + 1))) :
    CallsK Tryz.prog 173 #[.slice A n cp, .func (.func g) fs.toArray cs.toArray] (M 0) w (Fst p n) (fun x => .int .i64 (if x.1 < n then (x.1 : Int) else -1)) (fun x => M (aft n x.1)) := by
  refine K_enter (S := feet (M 0)) (K := M 0) Tryz.func173 rfl Tryz.ntmps173 rfl hM ?_
  refine TW.seq fun Y1 hY1 => ?_
  refine TW.region ?_
  refine TL.p Pu.as ?_
  refine TL.nil ?_
  refine TQ.thenN (hY1 _ _ ?_)
  refine TW.seq fun Y2 hY2 => ?_
  refine TW.seq fun Y3 hY3 => ?_
  refine TW.region ?_
  refine TL.p Pu.mv ?_
  refine TL.p (Pu.ln Tryz.underlying232) ?_
  refine TL.p Pu.mv ?_
  refine TL.nil ?_
  refine TQ.thenN (hY3 _ _ ?_)
  refine TW.block ?_
  refine TW.loop1 (fun (k : Nat) => [(8, .int .i64 (k : Int)), (7, .int .i64 (n : Int)), (0, .slice A n cp), (1, .func (.func g) fs.toArray cs.toArray)]) (fun k => M k) (fun k => k ≤ n ∧ ∀ j, j < k → p j = false) (fun k => n - k) 0 fs9 ?_ ?_ ?_
  exact KSub.refl _
  exact ⟨by omega, fun j hj => by omega⟩
  rintro k ⟨hk, hall⟩ Z0 hZ0
  refine TW.seq fun Y4 hY4 => ?_
  refine TW.region ?_
  refine TL.p Pu.lt ?_
  refine TL.nil ?_
  refine TQ.thenN (hY4 _ _ ?_)
  refine TW.seq fun Y5 hY5 => ?_
  refine TW.cond rfl (fun hc0 => ?_) (fun hc0 => ?_)
  try simp only [decide_eq_true_eq, decide_eq_false_iff_not, Bool.not_eq_true', Bool.not_eq_false', Bool.and_eq_true, Bool.or_eq_true, Bool.and_eq_false_iff, Bool.or_eq_false_iff, Int.not_lt, Int.not_le] at hc0
  have hkn : k < n := by omega
  have hA := hA (by omega)
  refine TW.skip ?_
  refine TQ.thenN (hY5 _ _ ?_)
  refine TW.seq fun Y6 hY6 => ?_
  refine TW.block ?_
  refine TW.seq fun Y7 hY7 => ?_
  refine TW.region ?_
  refine TL.p Pu.mv ?_
  refine TL.p Pu.as ?_
  refine TL.nil ?_
  refine TQ.thenN (hY7 _ _ ?_)
  refine TW.seq fun Y8 hY8 => ?_
  refine TW.region ?_
  refine TL.p Pu.mv ?_
  refine TL.p Pu.mv ?_
  refine TL.p Pu.mv ?_
  refine TL.p (Pu.el ty_et232) ?_
  refine TL.p (Pu.lds ty_ag35) ?_
  refine TL.cvk rfl rfl hen (by rw [List.append_nil]) (fun w hw => by
      exact hg k (by omega) hall w hw) ?_
  intro _
  refine TL.nil ?_
  refine TQ.thenN (hY8 _ _ ?_)
  refine TW.cond rfl (fun hc1 => ?_) (fun hc1 => ?_)
  try simp only [decide_eq_true_eq, decide_eq_false_iff_not, Bool.not_eq_true', Bool.not_eq_false', Bool.and_eq_true, Bool.or_eq_true, Bool.and_eq_false_iff, Bool.or_eq_false_iff, Int.not_lt, Int.not_le] at hc1
  refine TW.seq fun Y9 hY9 => ?_
  refine TW.region ?_
  refine TL.p Pu.mv ?_
  refine TL.p Pu.as ?_
  refine TL.nil ?_
  refine TQ.thenN (hY9 _ _ ?_)
  refine TW.ret ?_
  refine TQ.blkR ?_
  refine TQ.thenR ?_
  refine TQ.thenR ?_
  refine TQ.blkR ?_
  refine TQ.thenR ?_
  refine TQ.ret Tryz.results173 rfl ((.tmp rfl .nil)) ?_
  exact fun w hw => ⟨⟨k, by omega, hall, fun _ => hc1⟩, by simp [hkn]; rfl, by simpa [aft, hkn] using hw⟩
  try simp only [decide_eq_true_eq, decide_eq_false_iff_not, Bool.not_eq_true', Bool.not_eq_false', Bool.and_eq_true, Bool.or_eq_true, Bool.and_eq_false_iff, Bool.or_eq_false_iff, Int.not_lt, Int.not_le] at hc1
  refine TW.skip ?_
  refine TQ.blkN ?_
  refine TQ.thenN (hY6 _ _ ?_)
  refine TW.region ?_
  refine TL.p Pu.ad ?_
  refine TL.p Pu.mv ?_
  refine TL.nil ?_
  refine TQ.thenN (hZ0 (k + 1) _ _ ?_ ?_ fs9 ?_)
  refine ⟨by omega, fun j hj => ?_⟩
  by_cases h : j = k
  subst h; exact hc1
  exact hall j (by omega)
  exact (by first | omega | (simp only []; omega) | (simp; omega))
  rw [List.append_nil]; exact KSub.refl _
  try simp only [decide_eq_true_eq, decide_eq_false_iff_not, Bool.not_eq_true', Bool.not_eq_false', Bool.and_eq_true, Bool.or_eq_true, Bool.and_eq_false_iff, Bool.or_eq_false_iff, Int.not_lt, Int.not_le] at hc0
  have hkn : k = n := by omega
  refine TW.exit ?_
  refine TQ.thenX ?_
  refine TQ.thenX ?_
  refine TQ.blkX ?_
  refine TQ.thenN (hY2 _ _ ?_)
  refine TW.seq fun Y10 hY10 => ?_
  refine TW.region ?_
  refine TL.p Pu.as ?_
  refine TL.nil ?_
  refine TQ.thenN (hY10 _ _ ?_)
  refine TW.ret ?_
  refine TQ.ret Tryz.results173 rfl ((.tmp rfl .nil)) ?_
  exact fun w hw => ⟨⟨k, by omega, hall, fun h => by omega⟩, by simp [hkn]; rfl, by simpa [aft, hkn] using hw⟩
theorem hasSpan_st {g : FuncId} {fs cs : List Value} {A : Option Addr} {n cp : Nat} {v : Nat → Nat → Int} {p : Nat → Bool} {M : Nat → List Fact} {w : World} (hen : Enters Tryz.prog g) (hn : n ≤ 9223372036854775807)
    (hR : RdR w 2 A n (fun k => spL (v k 0) (v k 1))) (hA : 0 < n → Apart (feet (M 0)) A) (hM : Sat (feet (M 0)) w (M 0) w) (hfe : ∀ k, feet (M k) = feet (M 0))
    (hg : ∀ k, k < n → (∀ j, j < k → p j = false) → ∀ w', Sat (feet (M 0)) w (M k) w' → CallsK Tryz.prog g (fs ++ [Value.agg (spL (v k 0) (v k 1)).toArray] ++ cs).toArray (M k) w' Unit (fun _ => .bool (p k)) (fun _ => M (k + 1))) :
    CallsK Tryz.prog 160 #[.slice A n cp, .func (.func g) fs.toArray cs.toArray] (M 0) w (Fst p n) (fun x => .bool (decide (x.1 < n))) (fun x => M (aft n x.1)) := by
  refine K_enter (S := feet (M 0)) (K := M 0) Tryz.func160 rfl Tryz.ntmps160 rfl hM ?_
  refine TW.seq fun Y1 hY1 => ?_
  refine TW.region ?_
  refine TL.p Pu.as ?_
  refine TL.nil ?_
  refine TQ.thenN (hY1 _ _ ?_)
  refine TW.seq fun Y2 hY2 => ?_
  refine TW.region ?_
  refine TL.p Pu.mv ?_
  refine TL.p Pu.mv ?_
  refine TL.call rfl (enters Tryz.func173 rfl rfl) (by rw [List.append_nil]) rfl (fun w hw => by
      exact indexSpan_any hen hn (hR.sat0 hw hA) hA hw.self hfe (fun k hk hp w' hw' => hg k hk hp w' (hw'.from hw.chg fun _ hb => .inl hb))) ?_
  intro x
  refine TL.p Pu.ge ?_
  refine TL.p Pu.as ?_
  refine TL.nil ?_
  refine TQ.thenN (hY2 _ _ ?_)
  refine TW.ret ?_
  refine TQ.ret Tryz.results160 rfl ((.tmp rfl .nil)) ?_
  exact fun w hw => ⟨x, by by_cases h : x.1 < n <;> simp [retV, h], by simpa using hw⟩
theorem hasSpan_any {g : FuncId} {fs cs : List Value} {A : Option Addr} {n cp : Nat} {v : Nat → Nat → Int} {p : Nat → Bool} {w : World} (hen : Enters Tryz.prog g) (hn : n ≤ 9223372036854775807)
    (hR : RdR w 2 A n (fun k => spL (v k 0) (v k 1))) (hg : ∀ k, k < n → ∀ w', Below w.heap.size w w' → Calls Tryz.prog g (fs ++ [Value.agg (spL (v k 0) (v k 1)).toArray] ++ cs).toArray w' (Ret w' (.bool (p k)))) :
    Calls Tryz.prog 160 #[.slice A n cp, .func (.func g) fs.toArray cs.toArray] w (Ret w (.bool (anyB n p))) :=
  CallsK.retOf (hasSpan_st (M := fun _ => []) hen hn hR (fun _ => Apart.nil) (Sat.start w) (fun _ => rfl) fun k hk _ w' hw' => CallsK.ret (hg k hk w' (Chg.ext hw'.chg))) fun x => by rw [x.any]; rfl
end Go.Proofs.YtmonkjnfjgidbaaGreatDoor
namespace Go.Proofs.YtmonkjnfjgidbaaGreatDoor
set_option linter.all false
set_option linter.unusedVariables false
set_option linter.unusedSimpArgs false
open Go.RowKit
theorem from1_any (x lo hi : Int) (b1 b2 : Nat) (w : World) (h1 : OldB w b1 [.int .i64 lo]) (h2 : OldB w b2 [.int .i64 hi]) :
    Calls Tryz.prog 129 #[.int .i64 x, .pointer (some ⟨b1, 0, none⟩), .pointer (some ⟨b2, 0, none⟩)] w (Ret w (.bool (!inB5 lo hi x))) := by
  refine K_enter (S := []) (K := []) Tryz.func129 rfl Tryz.ntmps129 rfl (Sat.start _) ?_
  refine TW.seq fun Y1 hY1 => ?_
  refine TW.region ?_
  refine TL.p Pu.as ?_
  refine TL.nil ?_
  refine TQ.thenN (hY1 _ _ ?_)
  refine TW.seq fun Y2 hY2 => ?_
  refine TW.join [(4, .bool (decide (x < lo) || decide (hi < x)))] ?_ (fun hJ1 => ?_)
  refine TQ.thenN (hY2 _ _ ?_)
  refine TW.ret ?_
  refine TQ.ret Tryz.results129 rfl ((.tmp rfl .nil)) ?_
  exact fun w hw => ⟨ret_bool (by unfold inB5; rw [Bool.eq_iff_iff]; simp only [Bool.not_eq_true', Bool.and_eq_false_iff, Bool.or_eq_true, decide_eq_true_eq, decide_eq_false_iff_not]; omega), Chg.ext hw.chg⟩
  refine TW.region ?_
  refine TL.p Pu.mv ?_
  refine TL.p (by first | exact (Pu.ld ty_sc3) | exact (Pu.ldo ty_sc3)) ?_
  refine TL.p Pu.lt ?_
  refine TL.p Pu.mv ?_
  refine TL.guard (t := 8) rfl (fun hg1 => ?_) (fun hg1 => ?_)
  refine TL.gs ?_
  refine TL.gs ?_
  refine TL.gs ?_
  refine TL.p Pu.kt ?_
  refine TL.p Pu.as ?_
  refine TL.nil ?_
  exact TQ.sub (by repeat (first | exact trivial | refine ⟨rfl, ?_⟩ | refine ⟨trivial, ?_⟩ | refine ⟨(by show some (Value.bool _) = some (Value.bool _); first | (simp [hg1]; done) | (refine congrArg (fun z => some (Value.bool z)) (Bool.eq_iff_iff.2 ?_); simp [hg1]; omega)), ?_⟩)) ks9 hJ1
  refine TL.gd Pu.mv ?_
  refine TL.gd (by first | exact (Pu.ld ty_sc3) | exact (Pu.ldo ty_sc3)) ?_
  refine TL.gd Pu.gt ?_
  refine TL.p Pu.kf ?_
  refine TL.p Pu.as ?_
  refine TL.nil ?_
  exact TQ.sub (by repeat (first | exact trivial | refine ⟨rfl, ?_⟩ | refine ⟨trivial, ?_⟩ | refine ⟨(by show some (Value.bool _) = some (Value.bool _); first | (simp [hg1]; done) | (refine congrArg (fun z => some (Value.bool z)) (Bool.eq_iff_iff.2 ?_); simp [hg1]; omega)), ?_⟩)) ks9 hJ1
theorem from_any (lo hi : Int) {A : Option Addr} {n cp : Nat} {v : Nat → Int} {w : World} (hn : n ≤ 9223372036854775807) (hR : RdR w 1 A n (fun k => [.int .i64 (v k)])) :
    Calls Tryz.prog 86 #[.int .i64 lo, .int .i64 hi, .slice A n cp] w (Ret w (.bool (allB n fun k => inB5 lo hi (v k)))) := by
  refine K_enter (S := []) (K := []) Tryz.func86 rfl Tryz.ntmps86 rfl (Sat.start _) ?_
  refine TW.seq fun Y1 hY1 => ?_
  refine TW.region ?_
  refine TL.m Mk.bx ?_
  intro b1
  refine TL.m Mk.bx ?_
  intro b2
  refine TL.p Pu.as ?_
  refine TL.nil ?_
  refine TQ.thenN (hY1 _ _ ?_)
  refine TW.seq fun Y2 hY2 => ?_
  refine TW.region ?_
  refine TL.p Pu.mv ?_
  refine TL.p Pu.fn ?_
  refine TL.cr rfl (enters Tryz.func128 rfl rfl) (fun w hw => by
      have h1 := OldB.of_blk (hw.holds (.blk b1 3 [.int .i64 lo]) (by simp))
      have h2 := OldB.of_blk (hw.holds (.blk b2 3 [.int .i64 hi]) (by simp))
      exact hasInt_any (fs := []) (p := fun k => !inB5 lo hi (v k)) (enters Tryz.func129 rfl rfl) hn (hR.sat hw Apart.nil) fun k hk w' hb => from1_any _ _ _ b1 b2 w' (h1.ext hb) (h2.ext hb)) ?_
  refine TL.p Pu.no ?_
  refine TL.p Pu.as ?_
  refine TL.nil ?_
  refine TQ.thenN (hY2 _ _ ?_)
  refine TW.ret ?_
  refine TQ.ret Tryz.results86 rfl ((.tmp rfl .nil)) ?_
  exact fun w hw => ⟨ret_bool (by rw [not_anyB]; simp), Chg.ext hw.chg⟩
theorem fromOne_any (lo hi x : Int) {b E : Nat} {w : World} (h : Blk w b E #[.int .i64 x]) :
    Calls Tryz.prog 86 #[.int .i64 lo, .int .i64 hi, .slice (some ⟨b, 0, none⟩) 1 1] w (Ret w (.bool (inB5 lo hi x))) := by
  have := from_any lo hi (n := 1) (cp := 1) (v := fun _ => x) (by decide) (RdR.blk (cs := [.int .i64 x]) h rfl (fun _ _ => rfl))
  simpa [allB] using this
theorem fromTwo_any (lo hi x y : Int) {b E : Nat} {w : World} (h : Blk w b E #[.int .i64 x, .int .i64 y]) :
    Calls Tryz.prog 86 #[.int .i64 lo, .int .i64 hi, .slice (some ⟨b, 0, none⟩) 2 2] w (Ret w (.bool (inB5 lo hi x && inB5 lo hi y))) := by
  have := from_any lo hi (n := 2) (cp := 2) (v := fun k => if k = 0 then x else y) (by decide) (RdR.blk (cs := [.int .i64 x, .int .i64 y]) h rfl (fun _ _ => rfl))
  simpa [allB, List.range_succ] using this
theorem ordered1_any (x y lo hi : Int) (b1 b2 : Nat) (w : World) (h1 : OldB w b1 [.int .i64 lo]) (h2 : OldB w b2 [.int .i64 hi]) :
    Calls Tryz.prog 161 #[.agg (spL x y).toArray, .pointer (some ⟨b1, 0, none⟩), .pointer (some ⟨b2, 0, none⟩)] w (Ret w (.bool (!ordB5 lo hi x y))) := by
  refine K_enter (S := []) (K := []) Tryz.func161 rfl Tryz.ntmps161 rfl (Sat.start _) ?_
  refine TW.seq fun Y1 hY1 => ?_
  refine TW.region ?_
  refine TL.m Mk.bx ?_
  intro b1
  refine TL.p Pu.as ?_
  refine TL.nil ?_
  refine TQ.thenN (hY1 _ _ ?_)
  refine TW.seq fun Y2 hY2 => ?_
  refine TW.join [(4, .bool (decide (y < x) || !(inB5 lo hi x && inB5 lo hi y)))] ?_ (fun hJ1 => ?_)
  refine TQ.thenN (hY2 _ _ ?_)
  refine TW.ret ?_
  refine TQ.ret Tryz.results161 rfl ((.tmp rfl .nil)) ?_
  exact fun w hw => ⟨ret_bool (by unfold ordB5 inB5; rw [Bool.eq_iff_iff]; simp only [Bool.not_eq_true', Bool.and_eq_false_iff, Bool.or_eq_true, decide_eq_true_eq, decide_eq_false_iff_not]; omega), Chg.ext hw.chg⟩
  refine TW.region ?_
  refine TL.p (by first | exact Pu.fb ty_fa35_0 | exact Pu.fe ty_fa35_0) ?_
  refine TL.p (by first | exact (Pu.ld ty_sc3) | exact (Pu.ldo ty_sc3)) ?_
  refine TL.p (by first | exact Pu.fb ty_fa35_1 | exact Pu.fe ty_fa35_1) ?_
  refine TL.p (by first | exact (Pu.ld ty_sc3) | exact (Pu.ldo ty_sc3)) ?_
  refine TL.p Pu.gt ?_
  refine TL.p Pu.mv ?_
  refine TL.guard (t := 10) rfl (fun hg1 => ?_) (fun hg1 => ?_)
  refine TL.gs ?_
  refine TL.gs ?_
  refine TL.gs ?_
  refine TL.gs ?_
  refine TL.gs ?_
  refine TL.gs ?_
  refine TL.gs ?_
  refine TL.gs ?_
  refine TL.gs ?_
  refine TL.p Pu.kt ?_
  refine TL.p Pu.as ?_
  refine TL.nil ?_
  exact TQ.sub (by repeat (first | exact trivial | refine ⟨rfl, ?_⟩ | refine ⟨trivial, ?_⟩ | refine ⟨(by show some (Value.bool _) = some (Value.bool _); first | (simp [hg1]; done) | (refine congrArg (fun z => some (Value.bool z)) (Bool.eq_iff_iff.2 ?_); simp [hg1]; omega)), ?_⟩)) ks9 hJ1
  refine TL.gd (by first | exact (Pu.ld ty_sc3) | exact (Pu.ldo ty_sc3)) ?_
  refine TL.gd (by first | exact (Pu.ld ty_sc3) | exact (Pu.ldo ty_sc3)) ?_
  refine TL.gd (by first | exact Pu.fb ty_fa35_0 | exact Pu.fe ty_fa35_0) ?_
  refine TL.gd (by first | exact (Pu.ld ty_sc3) | exact (Pu.ldo ty_sc3)) ?_
  refine TL.gd (by first | exact Pu.fb ty_fa35_1 | exact Pu.fe ty_fa35_1) ?_
  refine TL.gd (by first | exact (Pu.ld ty_sc3) | exact (Pu.ldo ty_sc3)) ?_
  refine TL.gm Mk.bl ?_
  intro b2
  refine TL.cr rfl (enters Tryz.func86 rfl rfl) (fun w hw => by
      exact fromTwo_any _ _ _ _ (hw.holds _ (List.mem_cons_self ..))) ?_
  refine TL.gd Pu.no ?_
  refine TL.p Pu.kf ?_
  refine TL.p Pu.as ?_
  refine TL.nil ?_
  exact TQ.sub (by repeat (first | exact trivial | refine ⟨rfl, ?_⟩ | refine ⟨trivial, ?_⟩ | refine ⟨(by show some (Value.bool _) = some (Value.bool _); first | (simp [hg1]; done) | (refine congrArg (fun z => some (Value.bool z)) (Bool.eq_iff_iff.2 ?_); simp [hg1]; omega)), ?_⟩)) ks9 hJ1
theorem ordered_any (lo hi : Int) {A : Option Addr} {n cp : Nat} {v : Nat → Nat → Int} {w : World} (hn : n ≤ 9223372036854775807) (hR : RdR w 2 A n (fun k => spL (v k 0) (v k 1))) :
    Calls Tryz.prog 127 #[.int .i64 lo, .int .i64 hi, .slice A n cp] w (Ret w (.bool (allB n fun k => ordB5 lo hi (v k 0) (v k 1)))) := by
  refine K_enter (S := []) (K := []) Tryz.func127 rfl Tryz.ntmps127 rfl (Sat.start _) ?_
  refine TW.seq fun Y1 hY1 => ?_
  refine TW.region ?_
  refine TL.m Mk.bx ?_
  intro b1
  refine TL.m Mk.bx ?_
  intro b2
  refine TL.p Pu.as ?_
  refine TL.nil ?_
  refine TQ.thenN (hY1 _ _ ?_)
  refine TW.seq fun Y2 hY2 => ?_
  refine TW.region ?_
  refine TL.p Pu.mv ?_
  refine TL.p Pu.fn ?_
  refine TL.cr rfl (enters Tryz.func160 rfl rfl) (fun w hw => by
      have h1 := OldB.of_blk (hw.holds (.blk b1 3 [.int .i64 lo]) (by simp))
      have h2 := OldB.of_blk (hw.holds (.blk b2 3 [.int .i64 hi]) (by simp))
      exact hasSpan_any (fs := []) (v := v) (p := fun k => !ordB5 lo hi (v k 0) (v k 1)) (enters Tryz.func161 rfl rfl) hn (hR.sat hw Apart.nil) fun k hk w' hb => ordered1_any _ _ _ _ b1 b2 w' (h1.ext hb) (h2.ext hb)) ?_
  refine TL.p Pu.no ?_
  refine TL.p Pu.as ?_
  refine TL.nil ?_
  refine TQ.thenN (hY2 _ _ ?_)
  refine TW.ret ?_
  refine TQ.ret Tryz.results127 rfl ((.tmp rfl .nil)) ?_
  exact fun w hw => ⟨ret_bool (by rw [not_anyB]; simp), Chg.ext hw.chg⟩
theorem orderedOne_any (lo hi x y : Int) {b E : Nat} {w : World} (h : Blk w b E #[.int .i64 x, .int .i64 y]) :
    Calls Tryz.prog 127 #[.int .i64 lo, .int .i64 hi, .slice (some ⟨b, 0, none⟩) 1 1] w (Ret w (.bool (ordB5 lo hi x y))) := by
  have := ordered_any lo hi (n := 1) (cp := 1) (v := fun _ j => if j = 0 then x else y) (by decide) (RdR.blk (cs := [.int .i64 x, .int .i64 y]) h rfl (fun _ _ => rfl))
  simpa [allB] using this
theorem orderedTwo_any (lo hi x y z u : Int) {b E : Nat} {w : World} (h : Blk w b E #[.int .i64 x, .int .i64 y, .int .i64 z, .int .i64 u]) :
    Calls Tryz.prog 127 #[.int .i64 lo, .int .i64 hi, .slice (some ⟨b, 0, none⟩) 2 2] w (Ret w (.bool (ordB5 lo hi x y && ordB5 lo hi z u))) := by
  have := ordered_any lo hi (n := 2) (cp := 2) (v := fun i j => if i = 0 then (if j = 0 then x else y) else (if j = 0 then z else u)) (by decide) (RdR.blk (cs := [.int .i64 x, .int .i64 y, .int .i64 z, .int .i64 u]) h rfl (fun _ _ => rfl))
  simpa [allB, List.range_succ] using this
def wellL (f : Nat → Int) : List Value := [.int .i64 (f 0), .int .i64 (f 1), .int .i64 (f 2), .int .i64 (f 3), .int .i64 (f 4), .int .i64 (f 5), .int .i64 (f 6), .int .i64 (f 7), .int .i64 (f 8)]
def wellOk (f : Nat → Int) : Bool := inB5 (-10000000) 10000000 (f 0) && inB5 (-10000000) 10000000 (f 1) && inB5 0 200 (f 2) && ordB5 0 10000000 (f 3) (f 4) && inB5 0 1000000000 (f 5) && ordB5 0 (f 5) (f 6) (f 7) && inB5 0 9999 (f 8)
set_option maxRecDepth 100000 in
theorem dug_any (f : Nat → Int) (w : World) : Calls Tryz.prog 117 #[.agg (wellL f).toArray] w (Ret w (.bool (wellOk f))) := by
  refine K_enter (S := []) (K := []) Tryz.func117 rfl Tryz.ntmps117 rfl (Sat.start _) ?_
  refine TW.seq fun Y1 hY1 => ?_
  refine TW.region ?_
  refine TL.m Mk.bx ?_
  intro b1
  refine TL.p Pu.as ?_
  refine TL.nil ?_
  refine TQ.thenN (hY1 _ _ ?_)
  refine TW.seq fun Y2 hY2 => ?_
  refine TW.join [(2, .bool (wellOk f))] ?_ (fun hJ1 => ?_)
  refine TQ.thenN (hY2 _ _ ?_)
  refine TW.ret ?_
  refine TQ.ret Tryz.results117 rfl ((.tmp rfl .nil)) ?_
  exact fun w hw => Ret.of hw
  refine TW.region ?_
  refine TL.p (by first | exact Pu.fb ty_fa136_0 | exact Pu.fe ty_fa136_0) ?_
  refine TL.p (Pu.ld ty_sc3) ?_
  refine TL.p (by first | exact Pu.fb ty_fa136_1 | exact Pu.fe ty_fa136_1) ?_
  refine TL.p (Pu.ld ty_sc3) ?_
  refine TL.m Mk.bl ?_
  intro b2
  refine TL.cr rfl (enters Tryz.func86 rfl rfl) (fun w hw => by
      exact fromTwo_any _ _ _ _ (hw.holds _ (List.mem_cons_self ..))) ?_
  refine TL.p Pu.mv ?_
  refine TL.guard (t := 9) rfl (fun hg1 => ?_) (fun hg1 => ?_)
  refine TL.gd (by first | exact Pu.fb ty_fa136_2 | exact Pu.fe ty_fa136_2) ?_
  refine TL.gd (Pu.ld ty_sc3) ?_
  refine TL.gm Mk.bl ?_
  intro b3
  refine TL.cr rfl (enters Tryz.func86 rfl rfl) (fun w hw => by
      exact fromOne_any _ _ _ (hw.holds _ (List.mem_cons_self ..))) ?_
  refine TL.p Pu.kt ?_
  refine TL.p Pu.mv ?_
  refine TL.guard (t := 15) rfl (fun hg2 => ?_) (fun hg2 => ?_)
  refine TL.gd (by first | exact Pu.fb ty_fa136_3 | exact Pu.fe ty_fa136_3) ?_
  refine TL.gd (Pu.lds ty_ag35) ?_
  refine TL.gm Mk.bl ?_
  intro b4
  refine TL.cr rfl (enters Tryz.func127 rfl rfl) (fun w hw => by
      exact orderedOne_any _ _ _ _ (hw.holds _ (List.mem_cons_self ..))) ?_
  refine TL.p Pu.kt ?_
  refine TL.p Pu.mv ?_
  refine TL.guard (t := 21) rfl (fun hg3 => ?_) (fun hg3 => ?_)
  refine TL.gd (by first | exact Pu.fb ty_fa136_4 | exact Pu.fe ty_fa136_4) ?_
  refine TL.gd (Pu.ld ty_sc3) ?_
  refine TL.gm Mk.bl ?_
  intro b5
  refine TL.cr rfl (enters Tryz.func86 rfl rfl) (fun w hw => by
      exact fromOne_any _ _ _ (hw.holds _ (List.mem_cons_self ..))) ?_
  refine TL.p Pu.kt ?_
  refine TL.p Pu.mv ?_
  refine TL.guard (t := 27) rfl (fun hg4 => ?_) (fun hg4 => ?_)
  refine TL.gd (by first | exact Pu.fb ty_fa136_4 | exact Pu.fe ty_fa136_4) ?_
  refine TL.gd (Pu.ld ty_sc3) ?_
  refine TL.gd (by first | exact Pu.fb ty_fa136_5 | exact Pu.fe ty_fa136_5) ?_
  refine TL.gd (Pu.lds ty_ag35) ?_
  refine TL.gm Mk.bl ?_
  intro b6
  refine TL.cr rfl (enters Tryz.func127 rfl rfl) (fun w hw => by
      exact orderedOne_any _ _ _ _ (hw.holds _ (List.mem_cons_self ..))) ?_
  refine TL.p Pu.kt ?_
  refine TL.p Pu.mv ?_
  refine TL.guard (t := 35) rfl (fun hg5 => ?_) (fun hg5 => ?_)
  refine TL.gd (by first | exact Pu.fb ty_fa136_6 | exact Pu.fe ty_fa136_6) ?_
  refine TL.gd (Pu.ld ty_sc3) ?_
  refine TL.gm Mk.bl ?_
  intro b7
  refine TL.cr rfl (enters Tryz.func86 rfl rfl) (fun w hw => by
      exact fromOne_any _ _ _ (hw.holds _ (List.mem_cons_self ..))) ?_
  refine TL.p Pu.kt ?_
  refine TL.p Pu.as ?_
  refine TL.nil ?_
  exact TQ.sub (by repeat (first | exact trivial | refine ⟨rfl, ?_⟩ | refine ⟨trivial, ?_⟩ | refine ⟨(by show some (Value.bool _) = some (Value.bool _); first | (simp [hg1, hg2, hg3, hg4, hg5, wellOk]; done) | (refine congrArg (fun z => some (Value.bool z)) (Bool.eq_iff_iff.2 ?_); simp [hg1, hg2, hg3, hg4, hg5, wellOk]; omega)), ?_⟩)) ks9 hJ1
  refine TL.gs ?_
  refine TL.gs ?_
  refine TL.gs ?_
  refine TL.gs ?_
  refine TL.p Pu.kf ?_
  refine TL.p Pu.as ?_
  refine TL.nil ?_
  exact TQ.sub (by repeat (first | exact trivial | refine ⟨rfl, ?_⟩ | refine ⟨trivial, ?_⟩ | refine ⟨(by show some (Value.bool _) = some (Value.bool _); first | (simp [hg1, hg2, hg3, hg4, hg5, wellOk]; done) | (refine congrArg (fun z => some (Value.bool z)) (Bool.eq_iff_iff.2 ?_); simp [hg1, hg2, hg3, hg4, hg5, wellOk]; omega)), ?_⟩)) ks9 hJ1
  refine TL.gs ?_
  refine TL.gs ?_
  refine TL.gs ?_
  refine TL.gs ?_
  refine TL.gs ?_
  refine TL.gs ?_
  refine TL.p Pu.kf ?_
  refine TL.p Pu.mv ?_
  refine TL.gs ?_
  refine TL.gs ?_
  refine TL.gs ?_
  refine TL.gs ?_
  refine TL.p Pu.kf ?_
  refine TL.p Pu.as ?_
  refine TL.nil ?_
  exact TQ.sub (by repeat (first | exact trivial | refine ⟨rfl, ?_⟩ | refine ⟨trivial, ?_⟩ | refine ⟨(by show some (Value.bool _) = some (Value.bool _); first | (simp [hg1, hg2, hg3, hg4, wellOk]; done) | (refine congrArg (fun z => some (Value.bool z)) (Bool.eq_iff_iff.2 ?_); simp [hg1, hg2, hg3, hg4, wellOk]; omega)), ?_⟩)) ks9 hJ1
  refine TL.gs ?_
  refine TL.gs ?_
  refine TL.gs ?_
  refine TL.gs ?_
  refine TL.p Pu.kf ?_
  refine TL.p Pu.mv ?_
  refine TL.gs ?_
  refine TL.gs ?_
  refine TL.gs ?_
  refine TL.gs ?_
  refine TL.gs ?_
  refine TL.gs ?_
  refine TL.p Pu.kf ?_
  refine TL.p Pu.mv ?_
  refine TL.gs ?_
  refine TL.gs ?_
  refine TL.gs ?_
  refine TL.gs ?_
  refine TL.p Pu.kf ?_
  refine TL.p Pu.as ?_
  refine TL.nil ?_
  exact TQ.sub (by repeat (first | exact trivial | refine ⟨rfl, ?_⟩ | refine ⟨trivial, ?_⟩ | refine ⟨(by show some (Value.bool _) = some (Value.bool _); first | (simp [hg1, hg2, hg3, wellOk]; done) | (refine congrArg (fun z => some (Value.bool z)) (Bool.eq_iff_iff.2 ?_); simp [hg1, hg2, hg3, wellOk]; omega)), ?_⟩)) ks9 hJ1
  refine TL.gs ?_
  refine TL.gs ?_
  refine TL.gs ?_
  refine TL.gs ?_
  refine TL.p Pu.kf ?_
  refine TL.p Pu.mv ?_
  refine TL.gs ?_
  refine TL.gs ?_
  refine TL.gs ?_
  refine TL.gs ?_
  refine TL.p Pu.kf ?_
  refine TL.p Pu.mv ?_
  refine TL.gs ?_
  refine TL.gs ?_
  refine TL.gs ?_
  refine TL.gs ?_
  refine TL.gs ?_
  refine TL.gs ?_
  refine TL.p Pu.kf ?_
  refine TL.p Pu.mv ?_
  refine TL.gs ?_
  refine TL.gs ?_
  refine TL.gs ?_
  refine TL.gs ?_
  refine TL.p Pu.kf ?_
  refine TL.p Pu.as ?_
  refine TL.nil ?_
  exact TQ.sub (by repeat (first | exact trivial | refine ⟨rfl, ?_⟩ | refine ⟨trivial, ?_⟩ | refine ⟨(by show some (Value.bool _) = some (Value.bool _); first | (simp [hg1, hg2, wellOk]; done) | (refine congrArg (fun z => some (Value.bool z)) (Bool.eq_iff_iff.2 ?_); simp [hg1, hg2, wellOk]; omega)), ?_⟩)) ks9 hJ1
  refine TL.gs ?_
  refine TL.gs ?_
  refine TL.gs ?_
  refine TL.gs ?_
  refine TL.p Pu.kf ?_
  refine TL.p Pu.mv ?_
  refine TL.gs ?_
  refine TL.gs ?_
  refine TL.gs ?_
  refine TL.gs ?_
  refine TL.p Pu.kf ?_
  refine TL.p Pu.mv ?_
  refine TL.gs ?_
  refine TL.gs ?_
  refine TL.gs ?_
  refine TL.gs ?_
  refine TL.p Pu.kf ?_
  refine TL.p Pu.mv ?_
  refine TL.gs ?_
  refine TL.gs ?_
  refine TL.gs ?_
  refine TL.gs ?_
  refine TL.gs ?_
  refine TL.gs ?_
  refine TL.p Pu.kf ?_
  refine TL.p Pu.mv ?_
  refine TL.gs ?_
  refine TL.gs ?_
  refine TL.gs ?_
  refine TL.gs ?_
  refine TL.p Pu.kf ?_
  refine TL.p Pu.as ?_
  refine TL.nil ?_
  exact TQ.sub (by repeat (first | exact trivial | refine ⟨rfl, ?_⟩ | refine ⟨trivial, ?_⟩ | refine ⟨(by show some (Value.bool _) = some (Value.bool _); first | (simp [hg1, wellOk]; done) | (refine congrArg (fun z => some (Value.bool z)) (Bool.eq_iff_iff.2 ?_); simp [hg1, wellOk]; omega)), ?_⟩)) ks9 hJ1
theorem checkWell_any (f : Nat → Int) (w : World) : Calls Tryz.prog 116 #[.agg (wellL f).toArray] w (Ret w (.bool (!wellOk f))) := by
  refine K_enter (S := []) (K := []) Tryz.func116 rfl Tryz.ntmps116 rfl (Sat.start _) ?_
  refine TW.seq fun Y1 hY1 => ?_
  refine TW.region ?_
  refine TL.m Mk.bx ?_
  intro b1
  refine TL.p Pu.as ?_
  refine TL.nil ?_
  refine TQ.thenN (hY1 _ _ ?_)
  refine TW.seq fun Y2 hY2 => ?_
  refine TW.region ?_
  refine TL.p (Pu.lds ty_ag136) ?_
  refine TL.cr rfl (enters Tryz.func117 rfl rfl) (fun w hw => by
      exact dug_any f _) ?_
  refine TL.p Pu.no ?_
  refine TL.p Pu.as ?_
  refine TL.nil ?_
  refine TQ.thenN (hY2 _ _ ?_)
  refine TW.ret ?_
  refine TQ.ret Tryz.results116 rfl ((.tmp rfl .nil)) ?_
  exact fun w hw => Ret.of hw
theorem indexWell_any {g : FuncId} {fs cs : List Value} {A : Option Addr} {n cp : Nat} {v : Nat → Nat → Int} {p : Nat → Bool} {M : Nat → List Fact} {w : World} (hen : Enters Tryz.prog g) (hn : n ≤ 9223372036854775807)
    (hR : RdR w 9 A n (fun k => wellL (v k))) (hA : 0 < n → Apart (feet (M 0)) A) (hM : Sat (feet (M 0)) w (M 0) w) (hfe : ∀ k, feet (M k) = feet (M 0))
    (hg : ∀ k, k < n → (∀ j, j < k → p j = false) → ∀ w', Sat (feet (M 0)) w (M k) w' → CallsK Tryz.prog g (fs ++ [Value.agg (wellL (v k)).toArray] ++ cs).toArray (M k) w' Unit (fun _ => .bool (p k)) (fun _ => M (k + 1))) :
    CallsK Tryz.prog 155 #[.slice A n cp, .func (.func g) fs.toArray cs.toArray] (M 0) w (Fst p n) (fun x => .int .i64 (if x.1 < n then (x.1 : Int) else -1)) (fun x => M (aft n x.1)) := by
  refine K_enter (S := feet (M 0)) (K := M 0) Tryz.func155 rfl Tryz.ntmps155 rfl hM ?_
  refine TW.seq fun Y1 hY1 => ?_
  refine TW.region ?_
  refine TL.p Pu.as ?_
  refine TL.nil ?_
  refine TQ.thenN (hY1 _ _ ?_)
  refine TW.seq fun Y2 hY2 => ?_
  refine TW.seq fun Y3 hY3 => ?_
  refine TW.region ?_
  refine TL.p Pu.mv ?_
  refine TL.p (Pu.ln Tryz.underlying22) ?_
  refine TL.p Pu.mv ?_
  refine TL.nil ?_
  refine TQ.thenN (hY3 _ _ ?_)
  refine TW.block ?_
  refine TW.loop1 (fun (k : Nat) => [(8, .int .i64 (k : Int)), (7, .int .i64 (n : Int)), (0, .slice A n cp), (1, .func (.func g) fs.toArray cs.toArray)]) (fun k => M k) (fun k => k ≤ n ∧ ∀ j, j < k → p j = false) (fun k => n - k) 0 fs9 ?_ ?_ ?_
  exact KSub.refl _
  exact ⟨by omega, fun j hj => by omega⟩
  rintro k ⟨hk, hall⟩ Z0 hZ0
  refine TW.seq fun Y4 hY4 => ?_
  refine TW.region ?_
  refine TL.p Pu.lt ?_
  refine TL.nil ?_
  refine TQ.thenN (hY4 _ _ ?_)
  refine TW.seq fun Y5 hY5 => ?_
  refine TW.cond rfl (fun hc0 => ?_) (fun hc0 => ?_)
  try simp only [decide_eq_true_eq, decide_eq_false_iff_not, Bool.not_eq_true', Bool.not_eq_false', Bool.and_eq_true, Bool.or_eq_true, Bool.and_eq_false_iff, Bool.or_eq_false_iff, Int.not_lt, Int.not_le] at hc0
  have hkn : k < n := by omega
  have hA := hA (by omega)
  refine TW.skip ?_
  refine TQ.thenN (hY5 _ _ ?_)
  refine TW.seq fun Y6 hY6 => ?_
  refine TW.block ?_
  refine TW.seq fun Y7 hY7 => ?_
  refine TW.region ?_
  refine TL.p Pu.mv ?_
  refine TL.p Pu.as ?_
  refine TL.nil ?_
  refine TQ.thenN (hY7 _ _ ?_)
  refine TW.seq fun Y8 hY8 => ?_
  refine TW.region ?_
  refine TL.p Pu.mv ?_
  refine TL.p Pu.mv ?_
  refine TL.p Pu.mv ?_
  refine TL.p (Pu.el ty_et22) ?_
  refine TL.p (Pu.lds ty_ag136) ?_
  refine TL.cvk rfl rfl hen (by rw [List.append_nil]) (fun w hw => by
      exact hg k (by omega) hall w hw) ?_
  intro _
  refine TL.nil ?_
  refine TQ.thenN (hY8 _ _ ?_)
  refine TW.cond rfl (fun hc1 => ?_) (fun hc1 => ?_)
  try simp only [decide_eq_true_eq, decide_eq_false_iff_not, Bool.not_eq_true', Bool.not_eq_false', Bool.and_eq_true, Bool.or_eq_true, Bool.and_eq_false_iff, Bool.or_eq_false_iff, Int.not_lt, Int.not_le] at hc1
  refine TW.seq fun Y9 hY9 => ?_
  refine TW.region ?_
  refine TL.p Pu.mv ?_
  refine TL.p Pu.as ?_
  refine TL.nil ?_
  refine TQ.thenN (hY9 _ _ ?_)
  refine TW.ret ?_
  refine TQ.blkR ?_
  refine TQ.thenR ?_
  refine TQ.thenR ?_
  refine TQ.blkR ?_
  refine TQ.thenR ?_
  refine TQ.ret Tryz.results155 rfl ((.tmp rfl .nil)) ?_
  exact fun w hw => ⟨⟨k, by omega, hall, fun _ => hc1⟩, by simp [hkn]; rfl, by simpa [aft, hkn] using hw⟩
  try simp only [decide_eq_true_eq, decide_eq_false_iff_not, Bool.not_eq_true', Bool.not_eq_false', Bool.and_eq_true, Bool.or_eq_true, Bool.and_eq_false_iff, Bool.or_eq_false_iff, Int.not_lt, Int.not_le] at hc1
  refine TW.skip ?_
  refine TQ.blkN ?_
  refine TQ.thenN (hY6 _ _ ?_)
  refine TW.region ?_
  refine TL.p Pu.ad ?_
  refine TL.p Pu.mv ?_
  refine TL.nil ?_
  refine TQ.thenN (hZ0 (k + 1) _ _ ?_ ?_ fs9 ?_)
  refine ⟨by omega, fun j hj => ?_⟩
  by_cases h : j = k
  subst h; exact hc1
  exact hall j (by omega)
  exact (by first | omega | (simp only []; omega) | (simp; omega))
  rw [List.append_nil]; exact KSub.refl _
  try simp only [decide_eq_true_eq, decide_eq_false_iff_not, Bool.not_eq_true', Bool.not_eq_false', Bool.and_eq_true, Bool.or_eq_true, Bool.and_eq_false_iff, Bool.or_eq_false_iff, Int.not_lt, Int.not_le] at hc0
  have hkn : k = n := by omega
  refine TW.exit ?_
  refine TQ.thenX ?_
  refine TQ.thenX ?_
  refine TQ.blkX ?_
  refine TQ.thenN (hY2 _ _ ?_)
  refine TW.seq fun Y10 hY10 => ?_
  refine TW.region ?_
  refine TL.p Pu.as ?_
  refine TL.nil ?_
  refine TQ.thenN (hY10 _ _ ?_)
  refine TW.ret ?_
  refine TQ.ret Tryz.results155 rfl ((.tmp rfl .nil)) ?_
  exact fun w hw => ⟨⟨k, by omega, hall, fun h => by omega⟩, by simp [hkn]; rfl, by simpa [aft, hkn] using hw⟩
theorem hasWell_st {g : FuncId} {fs cs : List Value} {A : Option Addr} {n cp : Nat} {v : Nat → Nat → Int} {p : Nat → Bool} {M : Nat → List Fact} {w : World} (hen : Enters Tryz.prog g) (hn : n ≤ 9223372036854775807)
    (hR : RdR w 9 A n (fun k => wellL (v k))) (hA : 0 < n → Apart (feet (M 0)) A) (hM : Sat (feet (M 0)) w (M 0) w) (hfe : ∀ k, feet (M k) = feet (M 0))
    (hg : ∀ k, k < n → (∀ j, j < k → p j = false) → ∀ w', Sat (feet (M 0)) w (M k) w' → CallsK Tryz.prog g (fs ++ [Value.agg (wellL (v k)).toArray] ++ cs).toArray (M k) w' Unit (fun _ => .bool (p k)) (fun _ => M (k + 1))) :
    CallsK Tryz.prog 115 #[.slice A n cp, .func (.func g) fs.toArray cs.toArray] (M 0) w (Fst p n) (fun x => .bool (decide (x.1 < n))) (fun x => M (aft n x.1)) := by
  refine K_enter (S := feet (M 0)) (K := M 0) Tryz.func115 rfl Tryz.ntmps115 rfl hM ?_
  refine TW.seq fun Y1 hY1 => ?_
  refine TW.region ?_
  refine TL.p Pu.as ?_
  refine TL.nil ?_
  refine TQ.thenN (hY1 _ _ ?_)
  refine TW.seq fun Y2 hY2 => ?_
  refine TW.region ?_
  refine TL.p Pu.mv ?_
  refine TL.p Pu.mv ?_
  refine TL.call rfl (enters Tryz.func155 rfl rfl) (by rw [List.append_nil]) rfl (fun w hw => by
      exact indexWell_any hen hn (hR.sat0 hw hA) hA hw.self hfe (fun k hk hp w' hw' => hg k hk hp w' (hw'.from hw.chg fun _ hb => .inl hb))) ?_
  intro x
  refine TL.p Pu.ge ?_
  refine TL.p Pu.as ?_
  refine TL.nil ?_
  refine TQ.thenN (hY2 _ _ ?_)
  refine TW.ret ?_
  refine TQ.ret Tryz.results115 rfl ((.tmp rfl .nil)) ?_
  exact fun w hw => ⟨x, by by_cases h : x.1 < n <;> simp [retV, h], by simpa using hw⟩
theorem hasWell_any {g : FuncId} {fs cs : List Value} {A : Option Addr} {n cp : Nat} {v : Nat → Nat → Int} {p : Nat → Bool} {w : World} (hen : Enters Tryz.prog g) (hn : n ≤ 9223372036854775807)
    (hR : RdR w 9 A n (fun k => wellL (v k))) (hg : ∀ k, k < n → ∀ w', Below w.heap.size w w' → Calls Tryz.prog g (fs ++ [Value.agg (wellL (v k)).toArray] ++ cs).toArray w' (Ret w' (.bool (p k)))) :
    Calls Tryz.prog 115 #[.slice A n cp, .func (.func g) fs.toArray cs.toArray] w (Ret w (.bool (anyB n p))) :=
  CallsK.retOf (hasWell_st (M := fun _ => []) hen hn hR (fun _ => Apart.nil) (Sat.start w) (fun _ => rfl) fun k hk _ w' hw' => CallsK.ret (hg k hk w' (Chg.ext hw'.chg))) fun x => by rw [x.any]; rfl
theorem within3_any (a lo hi : Int) (w : World) :
    Calls Tryz.prog 113 #[.int .i64 a, .int .i64 lo, .int .i64 hi] w (Ret w (.bool (inB5 lo hi a))) := by
  refine K_enter (S := []) (K := []) Tryz.func113 rfl Tryz.ntmps113 rfl (Sat.start _) ?_
  refine TW.seq fun Y1 hY1 => ?_
  refine TW.region ?_
  refine TL.p Pu.as ?_
  refine TL.nil ?_
  refine TQ.thenN (hY1 _ _ ?_)
  refine TW.seq fun Y2 hY2 => ?_
  refine TW.join [(6, .bool (inB5 lo hi a))] ?_ (fun hJ1 => ?_)
  refine TQ.thenN (hY2 _ _ ?_)
  refine TW.ret ?_
  refine TQ.ret Tryz.results113 rfl ((.tmp rfl .nil)) ?_
  exact fun w hw => Ret.of hw
  refine TW.region ?_
  refine TL.p Pu.mv ?_
  refine TL.p Pu.mv ?_
  refine TL.p Pu.ge ?_
  refine TL.p Pu.mv ?_
  refine TL.guard (t := 10) rfl (fun hg1 => ?_) (fun hg1 => ?_)
  refine TL.gd Pu.mv ?_
  refine TL.gd Pu.mv ?_
  refine TL.gd Pu.le ?_
  refine TL.p Pu.kt ?_
  refine TL.p Pu.as ?_
  refine TL.nil ?_
  exact TQ.sub (by repeat (first | exact trivial | refine ⟨rfl, ?_⟩ | refine ⟨trivial, ?_⟩ | refine ⟨(by show some (Value.bool _) = some (Value.bool _); first | (simp [hg1, inB5]; done) | (refine congrArg (fun z => some (Value.bool z)) (Bool.eq_iff_iff.2 ?_); simp [hg1, inB5]; omega)), ?_⟩)) ks9 hJ1
  refine TL.gs ?_
  refine TL.gs ?_
  refine TL.gs ?_
  refine TL.p Pu.kf ?_
  refine TL.p Pu.as ?_
  refine TL.nil ?_
  exact TQ.sub (by repeat (first | exact trivial | refine ⟨rfl, ?_⟩ | refine ⟨trivial, ?_⟩ | refine ⟨(by show some (Value.bool _) = some (Value.bool _); first | (simp [hg1, inB5]; done) | (refine congrArg (fun z => some (Value.bool z)) (Bool.eq_iff_iff.2 ?_); simp [hg1, inB5]; omega)), ?_⟩)) ks9 hJ1
theorem spanned_any (a b lo hi : Int) (w : World) :
    Calls Tryz.prog 149 #[.agg (spL a b).toArray, .int .i64 lo, .int .i64 hi] w (Ret w (.bool (ordB5 lo hi a b))) := by
  refine K_enter (S := []) (K := []) Tryz.func149 rfl Tryz.ntmps149 rfl (Sat.start _) ?_
  refine TW.seq fun Y1 hY1 => ?_
  refine TW.region ?_
  refine TL.m Mk.bx ?_
  intro b1
  refine TL.p Pu.as ?_
  refine TL.nil ?_
  refine TQ.thenN (hY1 _ _ ?_)
  refine TW.seq fun Y2 hY2 => ?_
  refine TW.join [(6, .bool (inB5 lo b a && decide (b ≤ hi)))] ?_ (fun hJ1 => ?_)
  refine TQ.thenN (hY2 _ _ ?_)
  refine TW.ret ?_
  refine TQ.ret Tryz.results149 rfl ((.tmp rfl .nil)) ?_
  exact fun w hw => ⟨ret_bool (by unfold ordB5 inB5; rfl), Chg.ext hw.chg⟩
  refine TW.region ?_
  refine TL.p (by first | exact Pu.fb ty_fa35_0 | exact Pu.fe ty_fa35_0) ?_
  refine TL.p (Pu.ld ty_sc3) ?_
  refine TL.p Pu.mv ?_
  refine TL.p (by first | exact Pu.fb ty_fa35_1 | exact Pu.fe ty_fa35_1) ?_
  refine TL.p (Pu.ld ty_sc3) ?_
  refine TL.cr rfl (enters Tryz.func113 rfl rfl) (fun w hw => by
      exact within3_any _ _ _ _) ?_
  refine TL.p Pu.mv ?_
  refine TL.guard (t := 13) rfl (fun hg1 => ?_) (fun hg1 => ?_)
  refine TL.gd (by first | exact Pu.fb ty_fa35_1 | exact Pu.fe ty_fa35_1) ?_
  refine TL.gd (Pu.ld ty_sc3) ?_
  refine TL.gd Pu.mv ?_
  refine TL.gd Pu.le ?_
  refine TL.p Pu.kt ?_
  refine TL.p Pu.as ?_
  refine TL.nil ?_
  exact TQ.sub (by repeat (first | exact trivial | refine ⟨rfl, ?_⟩ | refine ⟨trivial, ?_⟩ | refine ⟨(by show some (Value.bool _) = some (Value.bool _); first | (simp [hg1]; done) | (refine congrArg (fun z => some (Value.bool z)) (Bool.eq_iff_iff.2 ?_); simp [hg1]; omega)), ?_⟩)) ks9 hJ1
  refine TL.gs ?_
  refine TL.gs ?_
  refine TL.gs ?_
  refine TL.gs ?_
  refine TL.p Pu.kf ?_
  refine TL.p Pu.as ?_
  refine TL.nil ?_
  exact TQ.sub (by repeat (first | exact trivial | refine ⟨rfl, ?_⟩ | refine ⟨trivial, ?_⟩ | refine ⟨(by show some (Value.bool _) = some (Value.bool _); first | (simp [hg1]; done) | (refine congrArg (fun z => some (Value.bool z)) (Bool.eq_iff_iff.2 ?_); simp [hg1]; omega)), ?_⟩)) ks9 hJ1
end Go.Proofs.YtmonkjnfjgidbaaGreatDoor
namespace Go.Proofs.YtmonkjnfjgidbaaGreatDoor
set_option linter.all false
set_option linter.unusedVariables false
set_option linter.unusedSimpArgs false
open Go.RowKit
def gateL (g : Nat → Int) : List Value := [.int .i64 (g 0), .int .i64 (g 1), .int .i64 (g 2), .int .i64 (g 3)]
structure Leg where
  u : Nat → Int
  A : Option Addr
  n : Nat
  c : Nat
def legL (x : Leg) : List Value := [.int .i64 (x.u 0), .int .i64 (x.u 1), .int .i64 (x.u 2), .int .i64 (x.u 3), .slice x.A x.n x.c]
def nxtG (g : Nat → Nat → Int) : Nat → Int
  | 0 => 0
  | k + 1 => g k 3 + 1
def gateOk (lo : Int) (g : Nat → Int) : Bool := ordB5 0 100000 (g 0) (g 1) && ordB5 0 100000 (g 2) (g 3) && inB5 lo (g 3) (g 0)
def gatesOk (n : Nat) (g : Nat → Nat → Int) : Bool := allB n fun k => gateOk (nxtG g k) (g k)
def legHead (nw : Nat) (u : Nat → Int) (n : Nat) : Bool := inB5 0 ((nw : Int) - 1) (u 0) && inB5 0 ((nw : Int) - 1) (u 1) && !decide (u 0 = u 1) && ordB5 1 1000000 (u 2) (u 3) && !decide (6 < (n : Int))
def legOk (nw : Nat) (u : Nat → Int) (n : Nat) (g : Nat → Nat → Int) : Bool := legHead nw u n && gatesOk n g
theorem gateOk_bd {lo : Int} {g : Nat → Int} (h : gateOk lo g = true) : 0 ≤ g 3 ∧ g 3 ≤ 100000 := by
  unfold gateOk ordB5 at h
  simp only [Bool.and_eq_true, decide_eq_true_eq] at h
  omega
theorem nxtG_bd {g : Nat → Nat → Int} {k : Nat} (h : ∀ j, j < k → gateOk (nxtG g j) (g j) = true) : 0 ≤ nxtG g k ∧ nxtG g k ≤ 100001 := by
  cases k with
  | zero => simp [nxtG]
  | succ k => have := gateOk_bd (h k (by omega)); simp only [nxtG]; omega
theorem gates_no {n k : Nat} {g : Nat → Nat → Int} (hk : k < n) (h : gateOk (nxtG g k) (g k) = false) : gatesOk n g = false := by
  unfold gatesOk
  rw [Bool.eq_false_iff]
  intro h2
  rw [allB_iff.1 h2 k hk] at h
  cases h
set_option maxRecDepth 100000 in
set_option maxHeartbeats 800000 in
theorem trodden_any (x : Leg) (nw : Nat) (g : Nat → Nat → Int) (w : World) (hw1 : nw ≤ 1000000) (hn : x.n ≤ 1000000) (hR : RdR w 4 x.A x.n (fun k => gateL (g k))) :
    Calls Tryz.prog 120 #[.agg (legL x).toArray, .int .i64 (nw : Int)] w (Ret w (.bool (legOk nw x.u x.n g))) := by
  obtain ⟨u, A, n, cp⟩ := x
  simp only at hn hR
  unfold legL
  simp only
  refine K_enter (S := []) (K := []) Tryz.func120 rfl Tryz.ntmps120 rfl (Sat.start _) ?_
  refine TW.seq fun Y1 hY1 => ?_
  refine TW.region ?_
  refine TL.m Mk.bx ?_
  intro b1
  refine TL.p Pu.as ?_
  refine TL.nil ?_
  refine TQ.thenN (hY1 _ _ ?_)
  refine TW.seq fun Y2 hY2 => ?_
  refine TW.seq fun Y3 hY3 => ?_
  refine TW.join [(36, .bool (!legHead nw u n))] ?_ (fun hJ1 => ?_)
  refine TQ.thenN (hY3 _ _ ?_)
  refine TW.cond rfl (fun hc0 => ?_) (fun hc0 => ?_)
  try simp only [decide_eq_true_eq, decide_eq_false_iff_not, Bool.not_eq_true', Bool.not_eq_false', Bool.and_eq_true, Bool.or_eq_true, Bool.and_eq_false_iff, Bool.or_eq_false_iff, Int.not_lt, Int.not_le] at hc0
  have hh : legHead nw u n = false := by simpa using hc0
  refine TW.seq fun Y4 hY4 => ?_
  refine TW.region ?_
  refine TL.p Pu.as ?_
  refine TL.nil ?_
  refine TQ.thenN (hY4 _ _ ?_)
  refine TW.ret ?_
  refine TQ.thenR ?_
  refine TQ.ret Tryz.results120 rfl ((.tmp rfl .nil)) ?_
  exact fun w hw => ⟨ret_bool (by unfold legOk; rw [hh]; rfl), Chg.ext hw.chg⟩
  try simp only [decide_eq_true_eq, decide_eq_false_iff_not, Bool.not_eq_true', Bool.not_eq_false', Bool.and_eq_true, Bool.or_eq_true, Bool.and_eq_false_iff, Bool.or_eq_false_iff, Int.not_lt, Int.not_le] at hc0
  have hh : legHead nw u n = true := by simpa using hc0
  refine TW.skip ?_
  refine TQ.thenN (hY2 _ _ ?_)
  refine TW.seq fun Y5 hY5 => ?_
  refine TW.region ?_
  refine TL.p Pu.as ?_
  refine TL.nil ?_
  refine TQ.thenN (hY5 _ _ ?_)
  refine TW.seq fun Y6 hY6 => ?_
  refine TW.seq fun Y7 hY7 => ?_
  refine TW.region ?_
  refine TL.p (by first | exact Pu.fb ty_fa122_3 | exact Pu.fe ty_fa122_3) ?_
  refine TL.p (Pu.ld ty_sc120) ?_
  refine TL.p (Pu.ln Tryz.underlying120) ?_
  refine TL.p Pu.mv ?_
  refine TL.nil ?_
  refine TQ.thenN (hY7 _ _ ?_)
  refine TW.block ?_
  refine TW.loop1 (fun (k : Nat) => [(40, .int .i64 (k : Int)), (39, .int .i64 (n : Int)), (38, .slice A n cp), (5, .int .i64 (nxtG g k))]) (fun k => []) (fun k => k ≤ n ∧ ∀ j, j < k → gateOk (nxtG g j) (g j) = true) (fun k => n - k) 0 fs9 ?_ ?_ ?_
  exact ks9
  exact ⟨Nat.zero_le _, fun j hj => by omega⟩
  rintro k ⟨hk, hall⟩ Z0 hZ0
  refine TW.seq fun Y8 hY8 => ?_
  refine TW.region ?_
  refine TL.p Pu.lt ?_
  refine TL.nil ?_
  refine TQ.thenN (hY8 _ _ ?_)
  refine TW.seq fun Y9 hY9 => ?_
  refine TW.cond rfl (fun hc1 => ?_) (fun hc1 => ?_)
  try simp only [decide_eq_true_eq, decide_eq_false_iff_not, Bool.not_eq_true', Bool.not_eq_false', Bool.and_eq_true, Bool.or_eq_true, Bool.and_eq_false_iff, Bool.or_eq_false_iff, Int.not_lt, Int.not_le] at hc1
  have hkn : k < n := by omega
  have hbd := nxtG_bd hall
  refine TW.skip ?_
  refine TQ.thenN (hY9 _ _ ?_)
  refine TW.seq fun Y10 hY10 => ?_
  refine TW.block ?_
  refine TW.seq fun Y11 hY11 => ?_
  refine TW.region ?_
  refine TL.p (Pu.el ty_et120) ?_
  refine TL.p (Pu.lds ty_ag138) ?_
  refine TL.m (Mk.al ty_zr138) ?_
  intro b2
  first | refine TL.st ty_sz138 ?_ | refine TL.se ty_sz138 ?_
  refine TL.nil ?_
  refine TQ.thenN (hY11 _ _ ?_)
  refine TW.seq fun Y12 hY12 => ?_
  refine TW.seq fun Y13 hY13 => ?_
  refine TW.join [(62, .bool (!gateOk (nxtG g k) (g k)))] ?_ (fun hJ2 => ?_)
  refine TQ.thenN (hY13 _ _ ?_)
  refine TW.cond rfl (fun hc2 => ?_) (fun hc2 => ?_)
  try simp only [decide_eq_true_eq, decide_eq_false_iff_not, Bool.not_eq_true', Bool.not_eq_false', Bool.and_eq_true, Bool.or_eq_true, Bool.and_eq_false_iff, Bool.or_eq_false_iff, Int.not_lt, Int.not_le] at hc2
  have hg : gateOk (nxtG g k) (g k) = false := by simpa using hc2
  refine TW.seq fun Y14 hY14 => ?_
  refine TW.region ?_
  refine TL.p Pu.as ?_
  refine TL.nil ?_
  refine TQ.thenN (hY14 _ _ ?_)
  refine TW.ret ?_
  refine TQ.thenR ?_
  refine TQ.blkR ?_
  refine TQ.thenR ?_
  refine TQ.thenR ?_
  refine TQ.blkR ?_
  refine TQ.thenR ?_
  refine TQ.ret Tryz.results120 rfl ((.tmp rfl .nil)) ?_
  exact fun w hw => ⟨ret_bool (by unfold legOk; rw [hh, gates_no hkn hg]; rfl), Chg.ext hw.chg⟩
  try simp only [decide_eq_true_eq, decide_eq_false_iff_not, Bool.not_eq_true', Bool.not_eq_false', Bool.and_eq_true, Bool.or_eq_true, Bool.and_eq_false_iff, Bool.or_eq_false_iff, Int.not_lt, Int.not_le] at hc2
  have hg : gateOk (nxtG g k) (g k) = true := by simpa using hc2
  have hgb := gateOk_bd hg
  refine TW.skip ?_
  refine TQ.thenN (hY12 _ _ ?_)
  refine TW.region ?_
  refine TL.p (by first | exact Pu.fb ty_fa138_1 | exact Pu.fe ty_fa138_1) ?_
  refine TL.p (by first | exact Pu.fb ty_fa35_1 | exact Pu.fe ty_fa35_1) ?_
  refine TL.p (Pu.ld ty_sc3) ?_
  refine TL.p Pu.ad ?_
  refine TL.p Pu.as ?_
  refine TL.nil ?_
  refine TQ.blkN ?_
  refine TQ.thenN (hY10 _ _ ?_)
  refine TW.region ?_
  refine TL.p Pu.ad ?_
  refine TL.p Pu.mv ?_
  refine TL.nil ?_
  refine TQ.thenN (hZ0 (k + 1) _ _ ?_ ?_ fs9 ?_)
  refine ⟨by omega, fun j hj => ?_⟩
  by_cases h : j = k
  subst h; exact hg
  exact hall j (by omega)
  exact (by first | omega | (simp only []; omega) | (simp; omega))
  exact ks9
  refine TW.region ?_
  refine TL.p (by first | exact Pu.fb ty_fa138_0 | exact Pu.fe ty_fa138_0) ?_
  refine TL.p (Pu.lds ty_ag35) ?_
  refine TL.p (by first | exact Pu.fb ty_fa138_1 | exact Pu.fe ty_fa138_1) ?_
  refine TL.p (Pu.lds ty_ag35) ?_
  refine TL.m Mk.bl ?_
  intro b3
  refine TL.cr rfl (enters Tryz.func127 rfl rfl) (fun w hw => by
      exact orderedTwo_any _ _ _ _ _ _ (hw.holds _ (List.mem_cons_self ..))) ?_
  refine TL.p Pu.no ?_
  refine TL.p Pu.mv ?_
  refine TL.guard (t := 51) rfl (fun hg1 => ?_) (fun hg1 => ?_)
  refine TL.gs ?_
  refine TL.gs ?_
  refine TL.gs ?_
  refine TL.gs ?_
  refine TL.gs ?_
  refine TL.gs ?_
  refine TL.gs ?_
  refine TL.gs ?_
  refine TL.gs ?_
  refine TL.gs ?_
  refine TL.p Pu.kt ?_
  refine TL.nil ?_
  exact TQ.sub (by repeat (first | exact trivial | refine ⟨rfl, ?_⟩ | refine ⟨trivial, ?_⟩ | refine ⟨(by show some (Value.bool _) = some (Value.bool _); first | (simp [hg1, gateOk]; done) | (refine congrArg (fun z => some (Value.bool z)) (Bool.eq_iff_iff.2 ?_); simp [hg1, gateOk]; omega)), ?_⟩)) ks9 hJ2
  refine TL.gd Pu.mv ?_
  refine TL.gd (by first | exact Pu.fb ty_fa138_1 | exact Pu.fe ty_fa138_1) ?_
  refine TL.gd (by first | exact Pu.fb ty_fa35_1 | exact Pu.fe ty_fa35_1) ?_
  refine TL.gd (Pu.ld ty_sc3) ?_
  refine TL.gd (by first | exact Pu.fb ty_fa138_0 | exact Pu.fe ty_fa138_0) ?_
  refine TL.gd (by first | exact Pu.fb ty_fa35_0 | exact Pu.fe ty_fa35_0) ?_
  refine TL.gd (Pu.ld ty_sc3) ?_
  refine TL.gm Mk.bl ?_
  intro b4
  refine TL.cr rfl (enters Tryz.func86 rfl rfl) (fun w hw => by
      exact fromOne_any _ _ _ (hw.holds _ (List.mem_cons_self ..))) ?_
  refine TL.gd Pu.no ?_
  refine TL.p Pu.kf ?_
  refine TL.nil ?_
  exact TQ.sub (by repeat (first | exact trivial | refine ⟨rfl, ?_⟩ | refine ⟨trivial, ?_⟩ | refine ⟨(by show some (Value.bool _) = some (Value.bool _); first | (simp [hg1, gateOk]; done) | (refine congrArg (fun z => some (Value.bool z)) (Bool.eq_iff_iff.2 ?_); simp [hg1, gateOk]; omega)), ?_⟩)) ks9 hJ2
  try simp only [decide_eq_true_eq, decide_eq_false_iff_not, Bool.not_eq_true', Bool.not_eq_false', Bool.and_eq_true, Bool.or_eq_true, Bool.and_eq_false_iff, Bool.or_eq_false_iff, Int.not_lt, Int.not_le] at hc1
  have hkn : k = n := by omega
  refine TW.exit ?_
  refine TQ.thenX ?_
  refine TQ.thenX ?_
  refine TQ.blkX ?_
  refine TQ.thenN (hY6 _ _ ?_)
  refine TW.seq fun Y15 hY15 => ?_
  refine TW.region ?_
  refine TL.p Pu.as ?_
  refine TL.nil ?_
  refine TQ.thenN (hY15 _ _ ?_)
  refine TW.ret ?_
  refine TQ.ret Tryz.results120 rfl ((.tmp rfl .nil)) ?_
  exact fun w hw => ⟨ret_bool (by unfold legOk gatesOk; rw [hh, allB_iff.2 fun j hj => hall j (by omega)]; rfl), Chg.ext hw.chg⟩
  refine TW.region ?_
  refine TL.p Pu.mv ?_
  refine TL.p Pu.sb ?_
  refine TL.p (by first | exact Pu.fb ty_fa122_0 | exact Pu.fe ty_fa122_0) ?_
  refine TL.p (Pu.ld ty_sc3) ?_
  refine TL.p (by first | exact Pu.fb ty_fa122_1 | exact Pu.fe ty_fa122_1) ?_
  refine TL.p (Pu.ld ty_sc3) ?_
  refine TL.m Mk.bl ?_
  intro b5
  refine TL.cr rfl (enters Tryz.func86 rfl rfl) (fun w hw => by
      exact fromTwo_any _ _ _ _ (hw.holds _ (List.mem_cons_self ..))) ?_
  refine TL.p Pu.no ?_
  refine TL.p Pu.mv ?_
  refine TL.guard (t := 17) rfl (fun hg2 => ?_) (fun hg2 => ?_)
  refine TL.gs ?_
  refine TL.gs ?_
  refine TL.gs ?_
  refine TL.gs ?_
  refine TL.gs ?_
  refine TL.p Pu.kt ?_
  refine TL.p Pu.mv ?_
  refine TL.gs ?_
  refine TL.gs ?_
  refine TL.gs ?_
  refine TL.gs ?_
  refine TL.gs ?_
  refine TL.p Pu.kt ?_
  refine TL.p Pu.mv ?_
  refine TL.gs ?_
  refine TL.gs ?_
  refine TL.gs ?_
  refine TL.gs ?_
  refine TL.p Pu.kt ?_
  refine TL.nil ?_
  exact TQ.sub (by repeat (first | exact trivial | refine ⟨rfl, ?_⟩ | refine ⟨trivial, ?_⟩ | refine ⟨(by show some (Value.bool _) = some (Value.bool _); first | (simp [hg2, legHead]; done) | (refine congrArg (fun z => some (Value.bool z)) (Bool.eq_iff_iff.2 ?_); simp [hg2, legHead]; omega)), ?_⟩)) ks9 hJ1
  refine TL.gd (by first | exact Pu.fb ty_fa122_0 | exact Pu.fe ty_fa122_0) ?_
  refine TL.gd (Pu.ld ty_sc3) ?_
  refine TL.gd (by first | exact Pu.fb ty_fa122_1 | exact Pu.fe ty_fa122_1) ?_
  refine TL.gd (Pu.ld ty_sc3) ?_
  refine TL.gd Pu.eq ?_
  refine TL.p Pu.kf ?_
  refine TL.p Pu.mv ?_
  refine TL.guard (t := 24) rfl (fun hg3 => ?_) (fun hg3 => ?_)
  refine TL.gs ?_
  refine TL.gs ?_
  refine TL.gs ?_
  refine TL.gs ?_
  refine TL.gs ?_
  refine TL.p Pu.kt ?_
  refine TL.p Pu.mv ?_
  refine TL.gs ?_
  refine TL.gs ?_
  refine TL.gs ?_
  refine TL.gs ?_
  refine TL.p Pu.kt ?_
  refine TL.nil ?_
  exact TQ.sub (by repeat (first | exact trivial | refine ⟨rfl, ?_⟩ | refine ⟨trivial, ?_⟩ | refine ⟨(by show some (Value.bool _) = some (Value.bool _); first | (simp [hg2, hg3, legHead]; done) | (refine congrArg (fun z => some (Value.bool z)) (Bool.eq_iff_iff.2 ?_); simp [hg2, hg3, legHead]; omega)), ?_⟩)) ks9 hJ1
  refine TL.gd (by first | exact Pu.fb ty_fa122_2 | exact Pu.fe ty_fa122_2) ?_
  refine TL.gd (Pu.lds ty_ag35) ?_
  refine TL.gm Mk.bl ?_
  intro b6
  refine TL.cr rfl (enters Tryz.func127 rfl rfl) (fun w hw => by
      exact orderedOne_any _ _ _ _ (hw.holds _ (List.mem_cons_self ..))) ?_
  refine TL.gd Pu.no ?_
  refine TL.p Pu.kf ?_
  refine TL.p Pu.mv ?_
  refine TL.guard (t := 31) rfl (fun hg4 => ?_) (fun hg4 => ?_)
  refine TL.gs ?_
  refine TL.gs ?_
  refine TL.gs ?_
  refine TL.gs ?_
  refine TL.p Pu.kt ?_
  refine TL.nil ?_
  exact TQ.sub (by repeat (first | exact trivial | refine ⟨rfl, ?_⟩ | refine ⟨trivial, ?_⟩ | refine ⟨(by show some (Value.bool _) = some (Value.bool _); first | (simp [hg2, hg3, hg4, legHead]; done) | (refine congrArg (fun z => some (Value.bool z)) (Bool.eq_iff_iff.2 ?_); simp [hg2, hg3, hg4, legHead]; omega)), ?_⟩)) ks9 hJ1
  refine TL.gd (by first | exact Pu.fb ty_fa122_3 | exact Pu.fe ty_fa122_3) ?_
  refine TL.gd (Pu.ld ty_sc120) ?_
  refine TL.gd (Pu.ln Tryz.underlying120) ?_
  refine TL.gd Pu.gt ?_
  refine TL.p Pu.kf ?_
  refine TL.nil ?_
  exact TQ.sub (by repeat (first | exact trivial | refine ⟨rfl, ?_⟩ | refine ⟨trivial, ?_⟩ | refine ⟨(by show some (Value.bool _) = some (Value.bool _); first | (simp [hg2, hg3, hg4, legHead]; done) | (refine congrArg (fun z => some (Value.bool z)) (Bool.eq_iff_iff.2 ?_); simp [hg2, hg3, hg4, legHead]; omega)), ?_⟩)) ks9 hJ1
end Go.Proofs.YtmonkjnfjgidbaaGreatDoor
namespace Go.Proofs.YtmonkjnfjgidbaaGreatDoor
set_option linter.all false
set_option linter.unusedVariables false
set_option linter.unusedSimpArgs false
set_option linter.all false
set_option linter.unusedVariables false
set_option linter.unusedSimpArgs false
def thruB (g : Nat → Int) (op sh : Nat) (at_ n : Int) : Bool := decide (max at_ (g op) + n - 1 ≤ g sh)
def lvF (g : Nat → Nat → Int) (op sh : Nat) (at_ n : Int) : Nat → Int
  | 0 => 100001
  | k + 1 => if thruB (g k) op sh at_ n = true then min (lvF g op sh at_ n k) (max at_ (g k op)) else lvF g op sh at_ n k
theorem lv_le {g : Nat → Nat → Int} {op sh : Nat} {a n : Int} : ∀ k, lvF g op sh a n k ≤ 100001
  | 0 => by simp [lvF]
  | k + 1 => by
    have := lv_le (g := g) (op := op) (sh := sh) (a := a) (n := n) k
    simp only [lvF]
    split <;> omega
theorem lv_ge {g : Nat → Nat → Int} {op sh : Nat} {a n : Int} (ha : a ≤ 100001) : ∀ k, a ≤ lvF g op sh a n k
  | 0 => by simpa [lvF] using ha
  | k + 1 => by
    have := lv_ge (g := g) (op := op) (sh := sh) (n := n) ha k
    simp only [lvF]
    split <;> omega
theorem gate_in {n k : Nat} {g : Nat → Nat → Int} (h : gatesOk n g = true) (hk : k < n) :
    0 ≤ g k 0 ∧ g k 0 ≤ g k 1 ∧ g k 1 ≤ 100000 ∧ 0 ≤ g k 2 ∧ g k 2 ≤ g k 3 ∧ g k 3 ≤ 100000 ∧ g k 0 ≤ g k 3 ∧ nxtG g k ≤ g k 0 := by
  have := allB_iff.1 h k hk
  unfold gateOk ordB5 inB5 at this
  simp only [Bool.and_eq_true, decide_eq_true_eq] at this
  omega
theorem lv_mono {N : Nat} {g : Nat → Nat → Int} {a b n m : Int} (hg : gatesOk N g = true) (hab : a ≤ b) (hnm : n ≤ m) :
    ∀ k, k ≤ N → lvF g 0 3 a n k ≤ lvF g 1 2 b m k
  | 0, _ => by simp [lvF]
  | k + 1, hk => by
    have ih := lv_mono hg hab hnm k (by omega)
    have h1 := gate_in hg (show k < N by omega)
    simp only [lvF]
    by_cases hs : thruB (g k) 1 2 b m = true
    · have hb : thruB (g k) 0 3 a n = true := by
        simp only [thruB, decide_eq_true_eq] at hs ⊢
        omega
      rw [if_pos hs, if_pos hb]
      omega
    · rw [if_neg hs]
      split <;> omega
def arV (lv n : Int) : Int := min 100001 (lv + n)
def dyB (u : Nat → Int) (p1 : Int) : Int := (u 2 + p1 - 1) / p1
def dyS (u : Nat → Int) (p0 : Int) : Int := (u 3 + p0 - 1) / p0
theorem dy_bd {u : Nat → Int} {p0 p1 : Int} (h0 : 1 ≤ p0) (h1 : p0 ≤ p1) (hu : 1 ≤ u 2) (hv : u 2 ≤ u 3) (hw : u 3 ≤ 1000000) :
    1 ≤ dyB u p1 ∧ dyB u p1 ≤ dyS u p0 ∧ dyS u p0 ≤ 1000000 := by
  unfold dyB dyS
  refine ⟨?_, ?_, ?_⟩
  · rw [Int.le_ediv_iff_mul_le (by omega)]; omega
  · have e1 : u 2 + p1 - 1 = (u 2 - 1) + p1 := by omega
    have e0 : u 3 + p0 - 1 = (u 3 - 1) + p0 := by omega
    rw [e1, e0, Int.add_ediv_of_dvd_right ⟨1, by omega⟩, Int.add_ediv_of_dvd_right ⟨1, by omega⟩, Int.ediv_self (by omega), Int.ediv_self (by omega)]
    have k1 : (u 2 - 1) / p1 ≤ (u 2 - 1) / p0 := by
      rw [Int.le_ediv_iff_mul_le (by omega)]
      have q1 : 0 ≤ (u 2 - 1) / p1 := Int.ediv_nonneg (by omega) (by omega)
      have q2 : (u 2 - 1) / p1 * p1 ≤ u 2 - 1 := Int.ediv_mul_le _ (by omega)
      have q3 : (u 2 - 1) / p1 * p0 ≤ (u 2 - 1) / p1 * p1 := Int.mul_le_mul_of_nonneg_left h1 q1
      omega
    have k2 : (u 2 - 1) / p0 ≤ (u 3 - 1) / p0 := Int.ediv_le_ediv (by omega) (by omega)
    omega
  · have : (u 3 + p0 - 1) / p0 ≤ 1000000 := by
      have : u 3 + p0 - 1 < (1000000 + 1) * p0 := by
        have : 1000000 * 1 ≤ 1000000 * p0 := Int.mul_le_mul_of_nonneg_left h0 (by omega)
        omega
      have := (Int.ediv_lt_iff_lt_mul (by omega : (0:Int) < p0)).2 this
      omega
    exact this
end Go.Proofs.YtmonkjnfjgidbaaGreatDoor
