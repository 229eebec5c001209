/-
  The layer's rules for slices: cap, a slice from its head, append of zeros to nil. No condition on a program.
-/
import Derived.Test.YtckiagbllkdfdaaKh
import Derived.Lib.AppendZerosOnto
import Derived.Laws.OwnMore
namespace Go.Proofs.Ytckiagbllkdfdaa
set_option linter.all false
set_option linter.unusedVariables false
set_option linter.unusedSimpArgs false
open Go.RowKit
theorem flat_take {sz : Nat} {f : Nat → Nat → Value} : ∀ {n m : Nat}, m ≤ n → (flat sz n f).take (m * sz) = flat sz m f
  | 0, m, h => by
    have : m = 0 := by omega
    subst this
    simp [flat]
  | n + 1, m, h => by
    by_cases hm : m = n + 1
    · subst hm
      exact List.take_of_length_le (by rw [flat_length]; exact Nat.le_refl _)
    · rw [flat_succ, List.take_append_of_le_length (by rw [flat_length]; exact Nat.mul_le_mul_right sz (by omega))]
      exact flat_take (by omega)
theorem own_feet {A : Option Addr} {n m cp : Nat} {E : TypeId} {sz : Nat} {r s : Nat → List Value} {K : List Fact} : feet (.own A n cp E sz r :: K) = feet (.own A m cp E sz s :: K) := by
  cases A <;> rfl
theorem OwnR.take {w : World} {A : Option Addr} {n m cp : Nat} {E : TypeId} {sz : Nat} {r : Nat → List Value} (h : OwnR w A n cp E sz r) (hm : m ≤ n) : OwnR w A m cp E sz r := by
  refine ⟨?_, fun i hi => h.len i (by omega)⟩
  rcases h.own.2 with ⟨e, h0⟩ | ⟨g, cap, cur, e, hg, hh, hnc, hcm, hcs, ht⟩
  · injection e with e1 e2 e3
    subst e1 e2 e3
    have : m = 0 := by omega
    subst this
    exact h.own
  · injection e with e1 e2 e3
    subst e1 e3
    refine ⟨by simp [flat_length], .inr ⟨g, cp, cur, rfl, hg, hh, by omega, hcm, hcs, ?_⟩⟩
    have h2 : (cur.toList.take (n * sz)).take (m * sz) = (flat sz n (rowF r)).take (m * sz) := by rw [ht]
    rw [List.take_take, Nat.min_eq_left (Nat.mul_le_mul_right sz hm)] at h2
    rw [h2]
    exact flat_take hm
theorem KSub.drop {φ : Fact} : ∀ {K L : List Fact}, KSub K L → KSub (φ :: K) L
  | _, _, .nil => .nil
  | _, _, .nilOwn h => .nilOwn (KSub.drop h)
  | _, _, .cons hp h => .cons (.tl hp) (KSub.drop h)
  | _, _, .own hp hr h => .own (.tl hp) hr (KSub.drop h)
  | _, _, .ofBlk hp h1 h2 h3 h4 h => .ofBlk (.tl hp) h1 h2 h3 h4 (KSub.drop h)
section
variable {c : Cx} {Q : Exit → Act → World → Prop} {F F' : Fr} {K K' K0 : List Fact} {ops : Array Oper} {rest : List Oper} {d : Option Tmp} {ty : TypeId} {pos : String} {af : Array Edge} {g : Option (Nat × Bool)} {t : Nat}
theorem Pu.cp {T E : TypeId} {x : Operand} {A : Option Addr} {n cp : Nat} (ht : c.P.underlying T = some (.slice E)) (hx : ev F x = some (.slice A n cp) := by rfl) : Pu c F K ⟨d, .call { callee := .builtin .cap, args := #[x], argTypes := #[T] }, ty, pos, af, g⟩ (.int .i64 cp) := fun a w hF _ => by
  simp [execOp, resolve, invoke, builtin, Builtin.cap_, hF.evl hx, run_underlying ht, goInt]
/-- s[:j] -/
theorem Pu.sh {T E : TypeId} {sz bytes : Nat} {x y : Operand} {A : Option Addr} {n cp q : Nat} {i : Int} (hT : ElemT c.P T E sz bytes) (hx : ev F x = some (.slice A n cp) := by rfl) (hy : ev F y = some (.int .i64 i) := by rfl) (hk : i.toNat = q := by first | exact tnS _ | exact Int.toNat_natCast _ | rfl) (h0 : 0 ≤ i := by omega) (h1 : i ≤ cp := by omega) : Pu c F K ⟨d, .slice T x none (some y) none, ty, pos, af, g⟩ (.slice A q cp) := fun a w hF _ => by
  obtain ⟨i', z, hi, hz, hs, hb, hzs⟩ := hT.hi
  have hsz : (sizeOf E).run c.P w = .ok sz w := by simp [sizeOf, typeInfo, hi, hs]
  have hA : A.map (fun x => x.add 0) = A := by
    cases A with
    | none => rfl
    | some p => simp [Addr.add]
  subst hk
  simp [execOp, Instr.sliceAt, Instr.slice, hF.evl hx, hF.evl hy, run_underlying hT.ht, Instr.sliceBounds, Instr.sliceBound, asIntOf, h0, h1, hsz, hA]
theorem TL.take {A : Option Addr} {n m cp : Nat} {E : TypeId} {sz : Nat} {r : Nat → List Value} (hp : Pick K (.own A n cp E sz r) K') (hm : m ≤ n) (h : TL c ops Q rest F (.own A m cp E sz r :: K')) : TL c ops Q rest F K := fun a w hF hK => by
  have hs := hK.pick hp
  have hb : OwnR w A n cp E sz r := hs.holds (.own A n cp E sz r) (by simp)
  refine h a w hF ⟨hs.chg, by rw [own_feet]; exact hs.nd, by rw [own_feet]; exact hs.ge, fun φ hφ => ?_⟩
  rcases List.mem_cons.1 hφ with rfl | hφ
  · exact hb.take hm
  · exact hs.holds φ (by simp [hφ])
theorem made_flat {z : Array Value} {sz : Nat} (hz : z.size = sz) (hp : 0 < sz) (n : Nat) : (madeCells z (n * sz)).toList = flat sz n (rowF fun _ => z.toList) := by
  refine List.ext_getElem (by simp [madeCells, flat_length]) fun q h1 h2 => ?_
  have hq : q < n * sz := by simpa [flat_length] using h2
  have hdiv : q / sz < n := Nat.div_lt_of_lt_mul (by rw [Nat.mul_comm]; exact hq)
  have hmod : q % sz < sz := Nat.mod_lt _ hp
  have hg := flat_get (f := rowF fun _ => z.toList) hdiv hmod
  rw [Nat.mul_comm (q / sz), Nat.div_add_mod] at hg
  have h3 : (flat sz n (rowF fun _ => z.toList))[q]? = some ((flat sz n (rowF fun _ => z.toList))[q]) := List.getElem?_eq_getElem h2
  rw [hg] at h3
  injection h3 with h3
  rw [← h3]
  subst hz
  simp [madeCells, rowF, List.getD_eq_getElem?_getD, hmod]
/-- make([]E, k) -/
theorem TL.ms {T E : TypeId} {sz bytes : Nat} {x y : Operand} {i : Int} {k : Nat} {zs : List Value} {kl kc : IntKind} (hT : ElemT c.P T E sz bytes) (hZ : Zr c.P E zs) (h : ∀ b, TL c ops Q rest (fput F d (.slice (some ⟨b, 0, none⟩) k k)) (.own (some ⟨b, 0, none⟩) k k E sz (fun _ => zs) :: K)) (hx : ev F x = some (.int kl i) := by rfl) (hy : ev F y = some (.int kc i) := by rfl) (hk : i.toNat = k := by first | exact Int.toNat_natCast _ | rfl) (h0 : 0 ≤ i := by omega) (h1 : i ≤ 1000000000 := by omega) (hby : bytes ≤ 10000 := by decide) (hd : dok d c.n = true := by rfl) :
    TL c ops Q (⟨d, .makeSlice T x y, ty, pos, af, none⟩ :: rest) F K := fun a w hF hK =>
  wpList_plain rfl fun Z hZ' => by
    subst hk
    obtain ⟨i', z, hi, hz, hs, hb, hzs⟩ := hT.hi
    obtain ⟨k, rfl⟩ : ∃ k : Nat, i = (k : Int) := ⟨i.toNat, by omega⟩
    simp only [Int.toNat_natCast] at *
    have hkb : bytes * k ≤ 10000 * 1000000000 := Nat.mul_le_mul hby (by omega)
    obtain ⟨w', hr, hown, hgr⟩ := run_make_full (P := c.P) w 0 T E i' z sz hT.ht hi hz hs kl kc k (by rw [hb]; omega) (by simp only [maxLen]; omega) (Nat.zero_le _)
    have hr2 : (execOp a.eval ⟨d, .makeSlice T x y, ty, pos, af, none⟩).run c.P w = .ok (.value (.slice (some ⟨w.heap.size, 0, none⟩) k k)) w' := by
      simp only [execOp, hF.evl hx, hF.evl hy, Sem.run_bind, hr, Result.andThen_ok, Sem.run_pure]
    unfold Oper.wp
    rw [hr2]
    have hzc : z.cells.toList = zs := by
      obtain ⟨z', h2, h3⟩ := hZ
      have h4 := h3 w
      simp [zeroValue, typeInfo, hi, hz] at h4
      rw [h4, h2]
    refine hZ' _ _ (h _ _ _ (hF.fput hd _) ?_)
    have hO : OwnR w' (some ⟨w.heap.size, 0, none⟩) k k E sz (fun _ => zs) := by
      refine ⟨?_, fun q _ => by rw [← hzc]; simpa using hzs⟩
      have := hown
      rw [made_flat hzs hT.pos, hzc] at this
      exact this
    exact hK.add (L := [_]) (Sat.one (Chg.grown hgr) (by simp [Fact.foot]) (fun b hb => by simp [Fact.foot] at hb; subst hb; exact .inr (Nat.le_refl _)) hO)
theorem TL.ob {b : Nat} {E : TypeId} {sz : Nat} {r : Nat → List Value} (hp : Pick K (.blk b E []) K') (hz : Nat.blt 0 sz = true) (h : TL c ops Q rest F (.own (some ⟨b, 0, none⟩) 0 0 E sz r :: K')) : TL c ops Q rest F K := fun a w hF hK => by
  have hs := hK.pick hp
  have hb : Blk w b E #[] := hs.holds (.blk b E []) (by simp)
  have ho : OwnR w (some ⟨b, 0, none⟩) 0 0 E sz r := OwnR.of_blk (cs := []) hb rfl (fun _ h => by omega) hz rfl
  refine h a w hF ⟨hs.chg, hs.nd, hs.ge, fun φ hφ => ?_⟩
  rcases List.mem_cons.1 hφ with rfl | hφ
  · exact ho
  · exact hs.holds φ (by simp [hφ])
theorem TW.exn {id : Nat} {l : List Oper} {X : Type} (Fj : X → Fr) (Kj : X → List Fact) (h1 : ∀ x, TQ c Q .normal (Fj x) (Kj x)) (h2 : (∀ x, TQ c Q .normal (Fj x) (Kj x)) → RG c l.toArray Q [] [] (Array.replicate l.length false) l.length F K) (hm : c.P.follows .mixedOrders = true := by rfl) : TW c (.region id l.toArray true) Q F K := fun a w hF hK => by
  refine wp_region_any hm (wpAny_of_held (S := Sat c.S c.w0 []) _ _ _ _ ?_)
  rw [List.size_toArray]
  exact h2 h1 (fun p hp => by cases hp) a w.drew hF (hK.ext (keep_drew w))
/-- Two roads meet at an operation within a region; what is known there is named first. -/
theorem TL.mid (j : Nat) (F2 : Fr) (h1 : TL c ops Q (ops.toList.drop j) (F2 ++ F) K) (h2 : TL c ops Q (ops.toList.drop j) (F2 ++ F) K → TL c ops Q rest F K) : TL c ops Q rest F K := h2 h1
/-- append(nil, make([]E, k)...) -/
theorem TL.az {T N E : TypeId} {sz bytes : Nat} {x y : Operand} {i : Int} {k : Nat} {r : Nat → List Value} {kn : IntKind} (hT : ElemT c.P T E sz bytes) (hN : c.P.underlying N = some (.int kn)) (h : ∀ b cp, k ≤ cp → cp ≤ maxLen → TL c ops Q rest (fput F d (.slice (some ⟨b, 0, none⟩) k cp)) (.own (some ⟨b, 0, none⟩) 0 cp E sz r :: K)) (hx : ev F x = some (.slice none 0 0) := by rfl) (hy : ev F y = some (.int .i64 i) := by rfl) (hk : i.toNat = k := by first | exact tnS _ | exact Int.toNat_natCast _ | rfl) (h0 : 0 < i := by omega) (h1 : i ≤ 1000000000 := by omega) (hby : bytes ≤ 10000 := by decide) (hd : dok d c.n = true := by rfl) :
    TL c ops Q (⟨d, .call { callee := .builtin .append, args := #[x, y], argTypes := #[T, N] }, ty, pos, af, none⟩ :: rest) F K := fun a w hF hK =>
  wpList_plain rfl fun Z hZ => by
    subst hk
    obtain ⟨i', z, hi, hz, hs, hb, hzs⟩ := hT.hi
    obtain ⟨k, rfl⟩ : ∃ k : Nat, i = (k : Int) := ⟨i.toNat, by omega⟩
    have hk0 : 0 < k := by omega
    have hk1 : k ≤ 1000000000 := by omega
    have hpos := hT.pos
    have hcap := nextslicecap_zero hk0
    have hkb : k * bytes ≤ 1000000000 * 10000 := Nat.mul_le_mul hk1 hby
    have hr := Go.Lib.run_append_grow_zeros (P := c.P) w T N ty E i' z .i64 kn hT.ht hN hi hz none 0 0 [] rfl k hk0 (by omega) (by omega) (by omega) (by rw [hb]; omega) (by rw [Nat.zero_add, hcap, hb]; omega)
    simp only [Nat.zero_add] at hr
    have hr2 : (execOp a.eval ⟨d, .call { callee := .builtin .append, args := #[x, y], argTypes := #[T, N] }, ty, pos, af, none⟩).run c.P w = .ok (.value (.slice (some ⟨w.heap.size, 0, none⟩) k (grownCap w k 0 E))) (w.drew.alloc (.cells (#[] ++ Builtin.zeroCells z.cells k ++ Builtin.zeroCells z.cells (grownCap w k 0 E - k)) E)) := by
      simp only [execOp, resolve, invoke, builtin, Sem.run_bind, Sem.run_pure, Result.andThen_ok, List.map_toArray, List.map_cons, List.map_nil, hF.evl hx, hF.evl hy, hr]
    unfold Oper.wp
    rw [hr2]
    have hge := grownCap_ge w k 0 E
    have hml := grownCap_le_maxLen w k 0 E (by simp only [maxLen]; omega)
    refine hZ _ _ (h _ _ hge hml _ _ (hF.fput hd _) ?_)
    have hown : OwnR (w.drew.alloc (.cells (#[] ++ Builtin.zeroCells z.cells k ++ Builtin.zeroCells z.cells (grownCap w k 0 E - k)) E)) (some ⟨w.heap.size, 0, none⟩) 0 (grownCap w k 0 E) E sz r := ⟨World.ownsRow_made (size := sz) w.drew _ _ (Nat.zero_le _) hml (by
      simp only [Array.size_append, size_zeroCells, hzs]
      show 0 + k * sz + (grownCap w k 0 E - k) * sz = _
      rw [Nat.zero_add, ← Nat.add_mul, Nat.add_sub_cancel' hge]), fun _ h => by omega⟩
    exact (hK.ext (keep_drew w)).add (L := [_]) (Sat.one (Chg.of_ext ((Below.refl _ _).alloc (Nat.le_refl _) _)) (by simp [Fact.foot]) (fun b hb => by simp [Fact.foot] at hb; subst hb; exact .inr (Nat.le_refl _)) hown)
end
end Go.Proofs.Ytckiagbllkdfdaa
