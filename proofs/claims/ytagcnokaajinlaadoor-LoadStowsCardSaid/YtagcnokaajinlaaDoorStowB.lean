/-
  Many lists of numbers, each in memory of its own; slices.Clone at ints.
-/
import Derived.Test.YtagcnokaajinlaaDoorStowA
import Derived.Test.YtagcnokaajinlaaDoorKj
namespace Go.Proofs.YtagcnokaajinlaaDoor
set_option linter.all false
set_option linter.unusedVariables false
set_option linter.unusedSimpArgs false
open Go.RowKit
def ownsK (A : Nat → Option Addr) (l c : Nat → Nat) (v : Nat → Nat → Int) : Nat → List Fact
  | 0 => []
  | n + 1 => .own (A n) (l n) (c n) 3 1 (fun k => [.int .i64 (v n k)]) :: ownsK A l c v n
/-- All but list s. -/
def ownsX (A : Nat → Option Addr) (l c : Nat → Nat) (v : Nat → Nat → Int) (s : Nat) : Nat → List Fact
  | 0 => []
  | n + 1 => if n = s then ownsK A l c v n else .own (A n) (l n) (c n) 3 1 (fun k => [.int .i64 (v n k)]) :: ownsX A l c v s n
section
variable {A A2 : Nat → Option Addr} {l l2 c c2 : Nat → Nat} {v v2 : Nat → Nat → Int} {s : Nat}
theorem ownsK_congr : ∀ {n : Nat}, (∀ i, i < n → A i = A2 i ∧ l i = l2 i ∧ c i = c2 i ∧ v i = v2 i) → ownsK A l c v n = ownsK A2 l2 c2 v2 n
  | 0, _ => rfl
  | n + 1, h => by
    obtain ⟨h1, h2, h3, h4⟩ := h n (by omega)
    simp only [ownsK, h1, h2, h3, h4, ownsK_congr (n := n) fun i hi => h i (by omega)]
theorem ownsK_perm : ∀ {n : Nat}, s < n → (ownsK A l c v n).Perm (.own (A s) (l s) (c s) 3 1 (fun k => [.int .i64 (v s k)]) :: ownsX A l c v s n)
  | n + 1, h => by
    by_cases hs : n = s
    · subst hs
      simp only [ownsK, ownsX, if_true]
      exact List.Perm.refl _
    · simp only [ownsK, ownsX, if_neg hs]
      exact ((ownsK_perm (n := n) (by omega)).cons _).trans (List.Perm.swap _ _ _)
theorem ownsX_congr : ∀ {n : Nat}, (∀ i, i < n → i ≠ s → A i = A2 i ∧ l i = l2 i ∧ c i = c2 i ∧ v i = v2 i) → ownsX A l c v s n = ownsX A2 l2 c2 v2 s n
  | 0, _ => rfl
  | n + 1, h => by
    by_cases hs : n = s
    · subst hs
      simp only [ownsX, if_true]
      exact ownsK_congr fun i hi => h i (by omega) (by omega)
    · obtain ⟨h1, h2, h3, h4⟩ := h n (by omega) hs
      simp only [ownsX, if_neg hs, h1, h2, h3, h4, ownsX_congr (n := n) fun i hi hne => h i (by omega) hne]
theorem ownsK_mem {n : Nat} (h : s < n) : Fact.own (A s) (l s) (c s) 3 1 (fun k => [.int .i64 (v s k)]) ∈ ownsK A l c v n := (ownsK_perm h).mem_iff.2 (by simp)
theorem ownsK_rd {S : List Nat} {w0 w : World} {K : List Fact} {n : Nat} (hs : Sat S w0 K w) (hK : ∀ φ ∈ ownsK A l c v n, φ ∈ K) : ∀ i, i < n → RdR w 1 (A i) (l i) (fun k => [.int .i64 (v i k)]) := fun i hi => OwnR.rdr (hs.holds _ (hK _ (ownsK_mem hi)))
end
def updN {α : Type} (f : Nat → α) (s : Nat) (x : α) : Nat → α := fun i => if i = s then x else f i
/-- A tie of lists 2 k and 2 k + 1; nothing on top. -/
def tieS (A : Nat → Option Addr) (l c : Nat → Nat) (k : Nat) : List Value := [.slice (A (2 * k)) (l (2 * k)) (c (2 * k)), .slice (A (2 * k + 1)) (l (2 * k + 1)) (c (2 * k + 1)), .slice none 0 0]
set_option maxRecDepth 100000 in
theorem cloneI_any {A : Option Addr} {n cp : Nat} {v : Nat → Int} {w : World} (hn : n ≤ 1000000000) (hR : RdR w 1 A n (fun k => [.int .i64 (v k)])) :
    CallsK Tryd.prog 51 #[.slice A n cp] [] w (Option Addr × Nat) (fun x => .slice x.1 n x.2) (fun x => [.own x.1 n x.2 3 1 (fun k => [.int .i64 (v k)])]) := by
  cases A with
  | none =>
    have h0 : n = 0 := by
      rcases Nat.eq_zero_or_pos n with h | h
      · exact h
      · obtain ⟨b, o, e, _⟩ := hR.rd h
        cases e
    subst h0
    refine K_enter (S := []) (K := []) Tryd.func51 rfl Tryd.ntmps51 rfl (Sat.start _) ?_
    refine TW.seq fun Y1 hY1 => ?_
    refine TW.region ?_
    refine TL.p Pu.as ?_
    refine TL.nil ?_
    refine TQ.thenN (hY1 _ _ ?_)
    refine TW.seq fun Y2 hY2 => ?_
    refine TW.seq fun Y3 hY3 => ?_
    refine TW.region ?_
    refine TL.p Pu.mv ?_
    refine TL.p Pu.bn ?_
    refine TL.nil ?_
    refine TQ.thenN (hY3 _ _ ?_)
    refine TW.condT rfl (rfl) ?_
    refine TW.seq fun Y4 hY4 => ?_
    refine TW.region ?_
    refine TL.p Pu.as ?_
    refine TL.nil ?_
    refine TQ.thenN (hY4 _ _ ?_)
    refine TW.ret ?_
    refine TQ.thenR ?_
    refine TQ.ret Tryd.results51 rfl ((.tmp rfl .nil)) ?_
    exact fun w hw => ⟨(none, 0), rfl, hw.sub (KSub.nilOwn KSub.nil)⟩
  | some p =>
    refine K_enter (S := []) (K := []) Tryd.func51 rfl Tryd.ntmps51 rfl (Sat.start _) ?_
    refine TW.seq fun Y1 hY1 => ?_
    refine TW.region ?_
    refine TL.p Pu.as ?_
    refine TL.nil ?_
    refine TQ.thenN (hY1 _ _ ?_)
    refine TW.seq fun Y2 hY2 => ?_
    refine TW.seq fun Y3 hY3 => ?_
    refine TW.region ?_
    refine TL.p Pu.mv ?_
    refine TL.p Pu.bn ?_
    refine TL.nil ?_
    refine TQ.thenN (hY3 _ _ ?_)
    refine TW.condF rfl (rfl) ?_
    refine TW.skip ?_
    refine TQ.thenN (hY2 _ _ ?_)
    refine TW.seq fun Y4 hY4 => ?_
    refine TW.region ?_
    refine TL.m Mk.bl ?_
    intro b1
    refine TL.p Pu.mv ?_
    refine TL.subK (KSub.ofBlk (n := 0) (sz := 1) (r := fun _ => []) Pick.hd rfl (fun _ h => by omega) rfl rfl KSub.nil) ?_
    first | refine TL.a0 ty_et47 ?_ | refine TL.ap ty_et47 ?_
    intro A2 c2
    refine TL.p Pu.as ?_
    refine TL.nil ?_
    refine TQ.thenN (hY4 _ _ ?_)
    refine TW.ret ?_
    refine TQ.ret Tryd.results51 rfl ((.tmp rfl .nil)) ?_
    exact fun w hw => ⟨(A2, c2), rfl, hw⟩
end Go.Proofs.YtagcnokaajinlaaDoor
