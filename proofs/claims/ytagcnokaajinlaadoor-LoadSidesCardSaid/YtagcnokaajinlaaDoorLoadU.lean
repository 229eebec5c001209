/-
  Loads that were copied read as the ones that they were copied from.
-/
import Derived.Test.YtagcnokaajinlaaDoorLoadT
namespace Go.Proofs.YtagcnokaajinlaaDoor
set_option linter.all false
set_option linter.unusedVariables false
set_option linter.unusedSimpArgs false
open Go.RowKit
theorem innerK_mem {b : Nat → Nat → Option Addr} {l d : Nat → Nat → Nat} {v : Nat → Nat → Nat → Int} {i j : Nat} (hj : j < 3) : ∀ q, i < q → Fact.own (b i j) (l i j) (d i j) 3 1 (fun k => [.int .i64 (v i j k)]) ∈ innerK b l d v q
  | 0, h => by omega
  | q + 1, h => by
    by_cases hi : i = q
    · subst hi
      have : j = 0 ∨ j = 1 ∨ j = 2 := by omega
      rcases this with rfl | rfl | rfl <;> simp [innerK]
    · have := innerK_mem (b := b) (l := l) (d := d) (v := v) (i := i) hj q (by omega)
      simp only [innerK, List.mem_cons]
      exact .inr (.inr (.inr this))
theorem innerK_rd {S : List Nat} {w0 w : World} {K : List Fact} {b : Nat → Nat → Option Addr} {l d : Nat → Nat → Nat} {v : Nat → Nat → Nat → Int} {m : Nat} (hs : Sat S w0 K w) (hK : ∀ φ ∈ innerK b l d v m, φ ∈ K) :
    ∀ i, i < m → ∀ j, j < 3 → RdR w 1 (b i j) (l i j) (fun k => [.int .i64 (v i j k)]) := fun i hi j hj =>
  OwnR.rdr (hs.holds _ (hK _ (innerK_mem hj m hi)))
/-- Packs and loads that were copied, as the functions of layer 5 get them. -/
theorem Lay.twin {w0 w : World} {S : List Nat} {K : List Fact} {A AT A' B' : Option Addr} {np m cp' co' E E' : Nat} {pk : Nat → Nat → Int} {a b : Nat → Nat → Option Addr} {l c d : Nat → Nat → Nat} {v : Nat → Nat → Nat → Int} (h : Lay w0 A AT np m pk a l c v) (hS : S = []) (hs : Sat S w0 K w)
    (h1 : Fact.own A' np cp' E 11 (fun q => packL (pk q)) ∈ K) (h2 : Fact.own B' m co' E' 3 (fun i => tieL (b i) (l i) (d i)) ∈ K) (hK : ∀ φ ∈ innerK b l d v m, φ ∈ K) : Lay w A' B' np m pk b l d v := by
  subst hS
  exact ⟨h.hG.sat hs (by simp), h.hnp, h.hm, OwnR.rdr (hs.holds _ h1), OwnR.rdr (hs.holds _ h2), innerK_rd hs hK, h.hL⟩
theorem TL.perm {c : Cx} {Q : Exit → Act → World → Prop} {F : Fr} {K K2 : List Fact} {ops : Array Oper} {rest : List Oper} (hp : K.Perm K2) (h : TL c ops Q rest F K2) : TL c ops Q rest F K := fun a w hF hK => h a w hF (hK.perm hp)
end Go.Proofs.YtagcnokaajinlaaDoor
