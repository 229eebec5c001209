/-
  Part 9 of the proof of tollCheapest_holds: declarations of several texts, in build order. No condition on a program.
-/
import Derived.Test.YtmonkjnfjgidbaaGreatDoorCh08
import Derived.Test.YtmonkjnfjgidbaaGreatDoorCh07
import Derived.Ground.SlgmProg
import Derived.Shelf.SortM.Plain
import Derived.Shelf.SortM.SortNone
import Derived.Test.YtmonkjnfjgidbaaGreatDoorProg
namespace Go.Proofs.YtmonkjnfjgidbaaGreatDoor
set_option linter.all false
set_option linter.unusedVariables false
set_option linter.unusedSimpArgs false
open Go.RowKit
theorem cmpL_snoc {x y : Int} : ∀ P : List Int, P.getLast? = some y → cmpL (P ++ [x]) = if x = y then cmpL P else cmpL P ++ [x]
  | [], h => by cases h
  | [a], h => by
    have e : a = y := by simpa using h
    subst e
    show cmpL [a, x] = _
    rw [cmpL_cons]
    by_cases hx : x = a
    · rw [if_pos hx, if_pos hx.symm, hx]
    · rw [if_neg hx, if_neg (fun e => hx e.symm)]
      rfl
  | a :: b :: m, h => by
    have ih := cmpL_snoc (x := x) (y := y) (b :: m) (by simpa using h)
    show cmpL (a :: b :: (m ++ [x])) = _
    rw [cmpL_cons, cmpL_cons]
    have e : b :: (m ++ [x]) = (b :: m) ++ [x] := rfl
    rw [e, ih]
    by_cases hx : x = y
    · rw [if_pos hx, if_pos hx]
    · rw [if_neg hx, if_neg hx]
      split <;> rfl
theorem take_last {L : List Int} {k : Nat} (h : k < L.length) : (L.take (k + 1)).getLast? = some (L.getD k 0) := by
  rw [take_succ h, List.getLast?_append]
  simp
theorem cmp_take {L : List Int} {m : Nat} (h0 : 1 ≤ m) (h : m < L.length) : cmpL (L.take (m + 1)) = if L.getD m 0 = L.getD (m - 1) 0 then cmpL (L.take m) else cmpL (L.take m) ++ [L.getD m 0] := by
  rw [take_succ h]
  refine cmpL_snoc _ ?_
  have := take_last (L := L) (k := m - 1) (by omega)
  rwa [show m - 1 + 1 = m by omega] at this
theorem cmp_all {L : List Int} : ∀ m, m ≤ L.length → (∀ j, 1 ≤ j → j < m → L.getD j 0 ≠ L.getD (j - 1) 0) → cmpL (L.take m) = L.take m
  | 0, _, _ => by simp [cmpL]
  | 1, h, _ => by
    cases L with
    | nil => rfl
    | cons a l => rfl
  | m + 2, h, hn => by
    rw [cmp_take (by omega) (by omega), if_neg (hn (m + 1) (by omega) (by omega)), cmp_all (m + 1) (by omega) fun j h1 h2 => hn j h1 (by omega), ← take_succ (by omega)]
section
variable {c : Cx} {F : Fr} {K K' : List Fact} {d : Option Tmp} {ty : TypeId} {pos : String} {af : Array Edge} {g : Option (Nat × Bool)}
theorem Pu.elT {T E : TypeId} {sz bytes : Nat} {x y : Operand} {A : Option Addr} {n cp k q m cm : Nat} {r : Nat → List Value} {kk : IntKind} {i : Int} (hT : ElemT c.P T E sz bytes) (hkn : k + q < n) (hx : ev F x = some (.slice (slA A cp sz k) m cm) := by rfl) (hy : ev F y = some (.int kk i) := by rfl) (hk : i.toNat = q := by first | exact Int.toNat_natCast _ | rfl) (h0 : 0 ≤ i := by omega) (h1 : i < m := by omega)
    (hp : Pick K (.own A n cp E sz r) K' := by repeat (first | exact Pick.hd | apply Pick.tl)) : Pu c F K ⟨d, .indexAddr T x y, ty, pos, af, g⟩ (.pointer (elA A (k + q) sz 0)) := fun a w hF hK => by
  have ho : OwnR w A n cp E sz r := hK.holds _ hp.mem
  obtain ⟨b, cp', e0, hnc, _⟩ := ho.own.form1 (by omega)
  cases e0
  have e : elA (slA (some ⟨b, 0, none⟩) cp sz k) q sz 0 = elA (some ⟨b, 0, none⟩) (k + q) sz 0 := by
    unfold slA
    rw [if_neg (by omega)]
    simp only [elA, Option.map_some, add_plain]
    congr 2
    rw [Nat.add_mul]; omega
  rw [← e]
  have hc : Cells c K (elA (slA (some ⟨b, 0, none⟩) cp sz k) q sz 0) [] := by
    rw [e]
    exact Cells.own hp hkn SubL.nil
  exact Pu.elem hT hx hy hk h0 h1 hc a w hF hK
end
set_option maxRecDepth 100000 in
set_option maxHeartbeats 1000000 in
theorem compact_any {w : World} {A : Option Addr} {n cp : Nat} {L : List Int} (hn : n = L.length) (h1 : n ≤ 1000000) (h : OwnR w A n cp 3 1 (iL L)) :
    CallsK Tryz.prog 167 #[.slice A n cp] [.own A n cp 3 1 (iL L)] w Unit (fun _ => .slice A (cmpL L).length cp) (fun _ => [.own A (cmpL L).length cp 3 1 (iL (cmpL L))]) := by
  subst hn
  have hcp : L.length ≤ cp := by
    obtain ⟨A', c', e, h2, _⟩ := h.own.form
    cases e
    exact h2
  refine K_enter (S := feet [.own A L.length cp 3 1 (iL L)]) (K := [.own A L.length cp 3 1 (iL L)]) Tryz.func167 rfl Tryz.ntmps167 rfl (Sat.own1 h) ?_
  refine TW.seq fun Y1 hY1 => ?_
  refine TW.region ?_
  refine TL.p Pu.as ?_
  refine TL.nil ?_
  refine TQ.thenN (hY1 _ _ ?_)
  refine TW.seq fun Y2 hY2 => ?_
  refine TW.seq fun Y3 hY3 => ?_
  refine TW.region ?_
  refine TL.p Pu.mv ?_
  refine TL.p (Pu.ln Tryz.underlying31) ?_
  refine TL.p Pu.lt ?_
  refine TL.nil ?_
  refine TQ.thenN (hY3 _ _ ?_)
  refine TW.cond rfl (fun hc0 => ?_) (fun hc0 => ?_)
  try simp only [decide_eq_true_eq, decide_eq_false_iff_not, Bool.not_eq_true', Bool.not_eq_false', Bool.and_eq_true, Bool.or_eq_true, Bool.and_eq_false_iff, Bool.or_eq_false_iff, Int.not_lt, Int.not_le] at hc0
  have hc9 : cmpL L = L := by
    match L, hc0 with
    | [], _ => rfl
    | [a], _ => rfl
    | a :: b :: m, h9 => simp only [List.length_cons] at h9; omega
  refine TW.seq fun Y4 hY4 => ?_
  refine TW.region ?_
  refine TL.p Pu.mv ?_
  refine TL.p Pu.as ?_
  refine TL.nil ?_
  refine TQ.thenN (hY4 _ _ ?_)
  refine TW.ret ?_
  refine TQ.thenR ?_
  refine TQ.ret Tryz.results167 rfl ((.tmp rfl .nil)) ?_
  exact fun w hw => ⟨(), by rw [hc9]; rfl, by rw [hc9]; exact hw.sub ks9⟩
  try simp only [decide_eq_true_eq, decide_eq_false_iff_not, Bool.not_eq_true', Bool.not_eq_false', Bool.and_eq_true, Bool.or_eq_true, Bool.and_eq_false_iff, Bool.or_eq_false_iff, Int.not_lt, Int.not_le] at hc0
  have h2 : 2 ≤ L.length := by omega
  refine TW.skip ?_
  refine TQ.thenN (hY2 _ _ ?_)
  refine TW.seq fun Y5 hY5 => ?_
  refine TW.seq fun Y6 hY6 => ?_
  refine TW.region ?_
  refine TL.p Pu.as ?_
  refine TL.nil ?_
  refine TQ.thenN (hY6 _ _ ?_)
  refine TW.block ?_
  refine TW.loop1 (fun (k : Nat) => [(3, .int .i64 (k : Int)), (0, .slice A L.length cp)]) (fun k => [.own A L.length cp 3 1 (iL L)]) (fun k => 1 ≤ k ∧ k ≤ L.length ∧ ∀ j, 1 ≤ j → j < k → L.getD j 0 ≠ L.getD (j - 1) 0) (fun k => L.length - k) 1 fs9 ?_ ?_ ?_
  exact ks9
  exact ⟨Nat.le_refl _, by omega, fun j h1 h2 => by omega⟩
  rintro k ⟨hk1, hk, hno⟩ Z0 hZ0
  refine TW.seq fun Y7 hY7 => ?_
  refine TW.seq fun Y8 hY8 => ?_
  refine TW.region ?_
  refine TL.p Pu.mv ?_
  refine TL.p Pu.mv ?_
  refine TL.p (Pu.ln Tryz.underlying31) ?_
  refine TL.p Pu.lt ?_
  refine TL.nil ?_
  refine TQ.thenN (hY8 _ _ ?_)
  refine TW.cond rfl (fun hc1 => ?_) (fun hc1 => ?_)
  try simp only [decide_eq_true_eq, decide_eq_false_iff_not, Bool.not_eq_true', Bool.not_eq_false', Bool.and_eq_true, Bool.or_eq_true, Bool.and_eq_false_iff, Bool.or_eq_false_iff, Int.not_lt, Int.not_le] at hc1
  have hkn : k < L.length := by omega
  refine TW.skip ?_
  refine TQ.thenN (hY7 _ _ ?_)
  refine TW.seq fun Y9 hY9 => ?_
  refine TW.block ?_
  refine TW.seq fun Y10 hY10 => ?_
  refine TW.dw 10 ?_
  refine RK.tk Pu.mv ?_
  refine RK.tk Pu.mv ?_
  refine RK.tk (Pu.el ty_et31) ?_
  refine RK.tk (Pu.ld ty_sc3) ?_
  refine RK.tk Pu.mv ?_
  refine RK.tk Pu.mv ?_
  refine RK.tk Pu.sb ?_
  refine RK.tk (Pu.el (q := k - 1) ty_et31 (hk := by omega)) ?_
  refine RK.tk (Pu.ld ty_sc3) ?_
  refine RK.tk Pu.eq ?_
  refine RK.ch [] ?_ trivial
  refine WK.n ?_
  refine TL.nil ?_
  refine TQ.thenN (hY10 _ _ ?_)
  refine TW.cond rfl (fun hc2 => ?_) (fun hc2 => ?_)
  try simp only [decide_eq_true_eq, decide_eq_false_iff_not, Bool.not_eq_true', Bool.not_eq_false', Bool.and_eq_true, Bool.or_eq_true, Bool.and_eq_false_iff, Bool.or_eq_false_iff, Int.not_lt, Int.not_le] at hc2
  have hdup : L.getD k 0 = L.getD (k - 1) 0 := by omega
  have hpre : cmpL (L.take (k + 1)) = L.take k := by rw [cmp_take hk1 hkn, if_pos hdup, cmp_all k hk hno]
  refine TW.seq fun Y11 hY11 => ?_
  refine TW.region ?_
  refine TL.p Pu.mv ?_
  refine TL.p Pu.mv ?_
  refine TL.p (Pu.sf ty_et31) ?_
  refine TL.p Pu.as ?_
  refine TL.nil ?_
  refine TQ.thenN (hY11 _ _ ?_)
  refine TW.seq fun Y12 hY12 => ?_
  refine TW.seq fun Y13 hY13 => ?_
  refine TW.region ?_
  refine TL.p Pu.as ?_
  refine TL.nil ?_
  refine TQ.thenN (hY13 _ _ ?_)
  refine TW.block ?_
  refine TW.loop3 (fun (j : Nat) (i : Nat) (u : Nat → Int) => [(5, .int .i64 (j : Int)), (3, .int .i64 (i : Int)), (4, .slice (slA A cp 1 k) (L.length - k) (cp - k)), (0, .slice A L.length cp)]) (fun j i u => [.own A L.length cp 3 1 (fun q => [.int .i64 (u q)])]) (fun j i u => 1 ≤ j ∧ k + j ≤ L.length ∧ i < k + j ∧ i = (cmpL (L.take (k + j))).length ∧ (∀ q, q < i → u q = (cmpL (L.take (k + j))).getD q 0) ∧ ∀ q, k + j ≤ q + 1 → q < L.length → u q = L.getD q 0) (fun j i u => L.length - j) 1 k (fun q => L.getD q 0) fs9 ?_ ?_ ?_
  exact ks9
  exact ⟨Nat.le_refl _, hkn, by omega, by rw [hpre, List.length_take]; omega, fun q hq => by rw [hpre]; simp [List.getD_eq_getElem?_getD, hq], fun q _ _ => rfl⟩
  rintro j i u ⟨hj1, hj, hij, hi, hu1, hu2⟩ Z1 hZ1
  refine TW.seq fun Y14 hY14 => ?_
  refine TW.seq fun Y15 hY15 => ?_
  refine TW.region ?_
  refine TL.p Pu.mv ?_
  refine TL.p Pu.mv ?_
  refine TL.p (Pu.ln Tryz.underlying31) ?_
  refine TL.p Pu.lt ?_
  refine TL.nil ?_
  refine TQ.thenN (hY15 _ _ ?_)
  refine TW.cond rfl (fun hc3 => ?_) (fun hc3 => ?_)
  try simp only [decide_eq_true_eq, decide_eq_false_iff_not, Bool.not_eq_true', Bool.not_eq_false', Bool.and_eq_true, Bool.or_eq_true, Bool.and_eq_false_iff, Bool.or_eq_false_iff, Int.not_lt, Int.not_le] at hc3
  have hjn : k + j < L.length := by omega
  have hft := cmp_take (L := L) (m := k + j) (by omega) hjn
  have ha := hu2 (k + j) (by omega) hjn
  have hb := hu2 (k + (j - 1)) (by omega) (by omega)
  rw [← ha, show k + j - 1 = k + (j - 1) by omega, ← hb] at hft
  replace ha := hidT ha
  replace hb := hidT hb
  refine TW.skip ?_
  refine TQ.thenN (hY14 _ _ ?_)
  refine TW.seq fun Y16 hY16 => ?_
  refine TW.block ?_
  refine TW.seq fun Y17 hY17 => ?_
  refine TW.dw 10 ?_
  refine RK.tk Pu.mv ?_
  refine RK.tk Pu.mv ?_
  refine RK.tk (Pu.elT (n := L.length) (k := k) (q := j) ty_et31 hjn) ?_
  refine RK.tk (Pu.ld ty_sc3) ?_
  refine RK.tk Pu.mv ?_
  refine RK.tk Pu.mv ?_
  refine RK.tk Pu.sb ?_
  refine RK.tk (Pu.elT (n := L.length) (k := k) (q := j - 1) ty_et31 (by omega) (hk := by omega)) ?_
  refine RK.tk (Pu.ld ty_sc3) ?_
  refine RK.tk Pu.ne ?_
  refine RK.ch [] ?_ trivial
  refine WK.n ?_
  refine TL.nil ?_
  refine TQ.thenN (hY17 _ _ ?_)
  refine TW.cond rfl (fun hc4 => ?_) (fun hc4 => ?_)
  try simp only [decide_eq_true_eq, decide_eq_false_iff_not, Bool.not_eq_true', Bool.not_eq_false', Bool.and_eq_true, Bool.or_eq_true, Bool.and_eq_false_iff, Bool.or_eq_false_iff, Int.not_lt, Int.not_le] at hc4
  rw [if_neg hc4] at hft
  obtain ⟨i', hi'⟩ : ∃ y : Nat, y = i + 1 := ⟨_, rfl⟩
  obtain ⟨u', hu'⟩ : ∃ y : Nat → Int, y = fun q => if q = i then u (k + j) else u q := ⟨_, rfl⟩
  have s1 : i' = (cmpL (L.take (k + (j + 1)))).length := by rw [show k + (j + 1) = k + j + 1 by omega, hft, List.length_append, ← hi, hi']; rfl
  have s2 : ∀ q, q < i' → u' q = (cmpL (L.take (k + (j + 1)))).getD q 0 := fun q hq => by
    rw [show k + (j + 1) = k + j + 1 by omega, hft, getD_app, ← hi, hu']
    by_cases h9 : q = i
    subst h9; simp
    simp only [if_neg h9]; rw [if_pos (by omega)]; exact hu1 q (by omega)
  have s3 : ∀ q, k + (j + 1) ≤ q + 1 → q < L.length → u' q = L.getD q 0 := fun q h7 h8 => by
    rw [hu']; simp only []; rw [if_neg (by omega)]; exact hu2 q (by omega) h8
  refine TW.seq fun Y18 hY18 => ?_
  refine TW.region ?_
  refine TL.p Pu.mv ?_
  refine TL.p Pu.mv ?_
  refine TL.p Pu.mv ?_
  refine TL.p Pu.mv ?_
  refine TL.p (Pu.elT (n := L.length) (k := k) (q := j) ty_et31 hjn) ?_
  refine TL.p (Pu.ld ty_sc3) ?_
  refine TL.p (Pu.el ty_et31) ?_
  first | refine TL.st ty_sz3 ?_ | refine TL.se ty_sz3 ?_
  refine TL.nil ?_
  refine TQ.thenN (hY18 _ _ ?_)
  refine TW.region ?_
  refine TL.p Pu.mv ?_
  refine TL.p Pu.ad ?_
  refine TL.p Pu.as ?_
  refine TL.nil ?_
  refine TQ.blkN ?_
  refine TQ.thenN (hY16 _ _ ?_)
  refine TW.region ?_
  refine TL.p Pu.mv ?_
  refine TL.p Pu.ad ?_
  refine TL.p Pu.as ?_
  refine TL.nil ?_
  refine TQ.thenN (hZ1 (j + 1) i' u' _ _ ?_ ?_ (by refine ⟨rfl, ⟨congrArg (fun z => some (Value.int .i64 z)) (by omega), ?_⟩⟩; repeat (first | exact trivial | refine ⟨rfl, ?_⟩ | refine ⟨trivial, ?_⟩)) ?_)
  exact ⟨by omega, by omega, by omega, s1, s2, s3⟩
  exact (by first | omega | (simp only []; omega) | (simp; omega))
  refine KSub.own Pick.hd (fun q _ => ?_) KSub.nil
  subst hu'
  first
    | rfl
    | (simp only [updR]; by_cases h9 : q = i <;> simp [h9])
  try simp only [decide_eq_true_eq, decide_eq_false_iff_not, Bool.not_eq_true', Bool.not_eq_false', Bool.and_eq_true, Bool.or_eq_true, Bool.and_eq_false_iff, Bool.or_eq_false_iff, Int.not_lt, Int.not_le] at hc4
  rw [if_pos (Decidable.not_not.1 (by simpa using hc4))] at hft
  obtain ⟨i', hi'⟩ : ∃ y : Nat, y = i := ⟨_, rfl⟩
  obtain ⟨u', hu'⟩ : ∃ y : Nat → Int, y = u := ⟨_, rfl⟩
  have s1 : i' = (cmpL (L.take (k + (j + 1)))).length := by rw [show k + (j + 1) = k + j + 1 by omega, hft, ← hi, hi']
  have s2 : ∀ q, q < i' → u' q = (cmpL (L.take (k + (j + 1)))).getD q 0 := fun q hq => by rw [show k + (j + 1) = k + j + 1 by omega, hft, hu']; exact hu1 q (by omega)
  have s3 : ∀ q, k + (j + 1) ≤ q + 1 → q < L.length → u' q = L.getD q 0 := fun q h7 h8 => by rw [hu']; exact hu2 q (by omega) h8
  refine TW.skip ?_
  refine TQ.blkN ?_
  refine TQ.thenN (hY16 _ _ ?_)
  refine TW.region ?_
  refine TL.p Pu.mv ?_
  refine TL.p Pu.ad ?_
  refine TL.p Pu.as ?_
  refine TL.nil ?_
  refine TQ.thenN (hZ1 (j + 1) i' u' _ _ ?_ ?_ (by refine ⟨rfl, ⟨congrArg (fun z => some (Value.int .i64 z)) (by omega), ?_⟩⟩; repeat (first | exact trivial | refine ⟨rfl, ?_⟩ | refine ⟨trivial, ?_⟩)) ?_)
  exact ⟨by omega, by omega, by omega, s1, s2, s3⟩
  exact (by first | omega | (simp only []; omega) | (simp; omega))
  refine KSub.own Pick.hd (fun q _ => ?_) KSub.nil
  subst hu'
  first
    | rfl
    | (simp only [updR]; by_cases h9 : q = i <;> simp [h9])
  try simp only [decide_eq_true_eq, decide_eq_false_iff_not, Bool.not_eq_true', Bool.not_eq_false', Bool.and_eq_true, Bool.or_eq_true, Bool.and_eq_false_iff, Bool.or_eq_false_iff, Int.not_lt, Int.not_le] at hc3
  have hfin : k + j = L.length := by omega
  rw [hfin, List.take_length] at hi hu1
  refine TW.exit ?_
  refine TQ.thenX ?_
  refine TQ.thenX ?_
  refine TQ.blkX ?_
  refine TQ.thenN (hY12 _ _ ?_)
  refine TW.seq fun Y19 hY19 => ?_
  refine TW.region ?_
  refine TL.p Pu.mv ?_
  refine TL.p Pu.mv ?_
  refine TL.p (Pu.sf ty_et31) ?_
  refine TL.clr (q := i) (z := .int .i64 0) ty_et31 Tryz.zeroValue3 rfl rfl ?_
  refine TL.nil ?_
  refine TQ.thenN (hY19 _ _ ?_)
  refine TW.seq fun Y20 hY20 => ?_
  refine TW.region ?_
  refine TL.p Pu.mv ?_
  refine TL.p Pu.mv ?_
  refine TL.take (m := i) Pick.hd (by omega) ?_
  refine TL.p (Pu.sh ty_et31) ?_
  refine TL.p Pu.as ?_
  refine TL.nil ?_
  refine TQ.thenN (hY20 _ _ ?_)
  refine TW.ret ?_
  refine TQ.blkR ?_
  refine TQ.thenR ?_
  refine TQ.thenR ?_
  refine TQ.blkR ?_
  refine TQ.thenR ?_
  refine TQ.ret Tryz.results167 rfl ((.tmp rfl .nil)) ?_
  exact fun w hw => ⟨(), by rw [← hi]; rfl, by
    rw [← hi]
    exact hw.sub (KSub.own Pick.hd (fun q hq => by rw [if_pos hq, hu1 q hq]; rfl) KSub.nil)⟩
  try simp only [decide_eq_true_eq, decide_eq_false_iff_not, Bool.not_eq_true', Bool.not_eq_false', Bool.and_eq_true, Bool.or_eq_true, Bool.and_eq_false_iff, Bool.or_eq_false_iff, Int.not_lt, Int.not_le] at hc2
  have hdup : L.getD k 0 ≠ L.getD (k - 1) 0 := by omega
  refine TW.skip ?_
  refine TQ.blkN ?_
  refine TQ.thenN (hY9 _ _ ?_)
  refine TW.region ?_
  refine TL.p Pu.mv ?_
  refine TL.p Pu.ad ?_
  refine TL.p Pu.as ?_
  refine TL.nil ?_
  refine TQ.thenN (hZ0 (k + 1) _ _ ?_ ?_ fs9 ?_)
  exact ⟨by omega, by omega, fun j h1 h2 => (Nat.lt_succ_iff_lt_or_eq.1 h2).elim (hno j h1) (fun e => e ▸ hdup)⟩
  exact (by first | omega | (simp only []; omega) | (simp; omega))
  exact ks9
  try simp only [decide_eq_true_eq, decide_eq_false_iff_not, Bool.not_eq_true', Bool.not_eq_false', Bool.and_eq_true, Bool.or_eq_true, Bool.and_eq_false_iff, Bool.or_eq_false_iff, Int.not_lt, Int.not_le] at hc1
  have hc9 : cmpL L = L := by
    have := cmp_all (L := L) L.length (Nat.le_refl _) (fun j h1 h2 => hno j h1 (by omega))
    rwa [List.take_length] at this
  refine TW.exit ?_
  refine TQ.thenX ?_
  refine TQ.thenX ?_
  refine TQ.blkX ?_
  refine TQ.thenN (hY5 _ _ ?_)
  refine TW.seq fun Y21 hY21 => ?_
  refine TW.region ?_
  refine TL.p Pu.mv ?_
  refine TL.p Pu.as ?_
  refine TL.nil ?_
  refine TQ.thenN (hY21 _ _ ?_)
  refine TW.ret ?_
  refine TQ.ret Tryz.results167 rfl ((.tmp rfl .nil)) ?_
  exact fun w hw => ⟨(), by rw [hc9]; rfl, by rw [hc9]; exact hw.sub ks9⟩
end Go.Proofs.YtmonkjnfjgidbaaGreatDoor
namespace Go.Proofs
open Go.Shelf
def Tryz.laysSlM5_f169_ren : Go.Shelf.Ren := ⟨fun | 5 => 169 | 8 => 178 | 7 => 177 | 19 => 187 | 20 => 188 | 10 => 179 | 11 => 180 | 12 => 181 | 13 => 182 | 14 => 183 | 15 => 184 | 16 => 176 | 17 => 185 | 18 => 186 | 30 => 189 | 31 => 190 | 32 => 191 | 33 => 192 | 34 => 193 | 35 => 150 | 40 => 194 | n => n, fun | 23 => 31 | 25 => 3 | 3 => 3 | 32 => 245 | 22 => 31 | 0 => 0 | 44 => 64 | 46 => 255 | 4 => 4 | 36 => 248 | 35 => 247 | 41 => 117 | 5 => 5 | 9 => 9 | 53 => 256 | 57 => 260 | 63 => 262 | 64 => 187 | n => n, fun | n => n⟩
theorem Tryz.laysSlM5_f169 : Go.Proofs.SlLaysM.n5 Tryz.prog Tryz.laysSlM5_f169_ren := {
  mixed := by kernel_rfl
  f5 := ⟨Tryz.f169.name, by decide, Tryz.func169.trans (congrArg some (by kernel_rfl))⟩
  f7 := ⟨Tryz.f177.name, by decide, Tryz.func177.trans (congrArg some (by kernel_rfl))⟩
  f8 := Tryz.func178.trans (congrArg some (by kernel_rfl))
  f10 := ⟨Tryz.f179.name, by decide, Tryz.func179.trans (congrArg some (by kernel_rfl))⟩
  f11 := ⟨Tryz.f180.name, by decide, Tryz.func180.trans (congrArg some (by kernel_rfl))⟩
  f12 := ⟨Tryz.f181.name, by decide, Tryz.func181.trans (congrArg some (by kernel_rfl))⟩
  f13 := ⟨Tryz.f182.name, by decide, Tryz.func182.trans (congrArg some (by kernel_rfl))⟩
  f14 := ⟨Tryz.f183.name, by decide, Tryz.func183.trans (congrArg some (by kernel_rfl))⟩
  f15 := ⟨Tryz.f184.name, by decide, Tryz.func184.trans (congrArg some (by kernel_rfl))⟩
  f16 := ⟨Tryz.f176.name, by decide, Tryz.func176.trans (congrArg some (by kernel_rfl))⟩
  f17 := ⟨Tryz.f185.name, by decide, Tryz.func185.trans (congrArg some (by kernel_rfl))⟩
  f18 := ⟨Tryz.f186.name, by decide, Tryz.func186.trans (congrArg some (by kernel_rfl))⟩
  f19 := Tryz.func187.trans (congrArg some (by kernel_rfl))
  f20 := Tryz.func188.trans (congrArg some (by kernel_rfl))
  f30 := ⟨Tryz.f189.name, by decide, Tryz.func189.trans (congrArg some (by kernel_rfl))⟩
  f31 := Tryz.func190.trans (congrArg some (by kernel_rfl))
  f32 := Tryz.func191.trans (congrArg some (by kernel_rfl))
  f33 := ⟨Tryz.f192.name, by decide, Tryz.func192.trans (congrArg some (by kernel_rfl))⟩
  f34 := ⟨Tryz.f193.name, by decide, Tryz.func193.trans (congrArg some (by kernel_rfl))⟩
  f35 := ⟨Tryz.f150.name, by decide, Tryz.func150.trans (congrArg some (by kernel_rfl))⟩
  f40 := ⟨Tryz.f194.name, by decide, Tryz.func194.trans (congrArg some (by kernel_rfl))⟩
  t0 := Tryz.underlying0
  a0 := Tryz.isAgg0
  z0 := Tryz.sizeOf0
  v0 := Tryz.zeroValue0
  t3 := Tryz.underlying3
  a3 := Tryz.isAgg3
  z3 := Tryz.sizeOf3
  v3 := Tryz.zeroValue3
  t4 := Tryz.underlying4
  a4 := Tryz.isAgg4
  z4 := Tryz.sizeOf4
  v4 := Tryz.zeroValue4
  t5 := Tryz.underlying5
  a5 := Tryz.isAgg5
  z5 := Tryz.sizeOf5
  v5 := Tryz.zeroValue5
  t9 := Tryz.underlying9
  a9 := Tryz.isAgg9
  z9 := Tryz.sizeOf9
  v9 := Tryz.zeroValue9
  t22 := Tryz.underlying31
  a22 := Tryz.isAgg31
  z22 := Tryz.sizeOf31
  v22 := Tryz.zeroValue31
  t23 := Tryz.underlying31
  a23 := Tryz.isAgg31
  z23 := Tryz.sizeOf31
  v23 := Tryz.zeroValue31
  t25 := Tryz.underlying3
  a25 := Tryz.isAgg3
  z25 := Tryz.sizeOf3
  v25 := Tryz.zeroValue3
  t32 := Tryz.underlying245
  a32 := Tryz.isAgg245
  z32 := Tryz.sizeOf245
  v32 := Tryz.zeroValue245
  t35 := Tryz.underlying247
  a35 := Tryz.isAgg247
  z35 := Tryz.sizeOf247
  v35 := Tryz.zeroValue247
  t36 := Tryz.underlying248
  a36 := Tryz.isAgg248
  z36 := Tryz.sizeOf248
  v36 := Tryz.zeroValue248
  t41 := Tryz.underlying117
  a41 := Tryz.isAgg117
  z41 := Tryz.sizeOf117
  v41 := Tryz.zeroValue117
  t44 := Tryz.underlying64
  a44 := Tryz.isAgg64
  z44 := Tryz.sizeOf64
  v44 := Tryz.zeroValue64
  t46 := Tryz.underlying255
  a46 := Tryz.isAgg255
  z46 := Tryz.sizeOf255
  v46 := Tryz.zeroValue255
  t53 := Tryz.underlying256
  a53 := Tryz.isAgg256
  z53 := Tryz.sizeOf256
  v53 := Tryz.zeroValue256
  t57 := Tryz.underlying260
  a57 := Tryz.isAgg260
  z57 := Tryz.sizeOf260
  v57 := Tryz.zeroValue260
  t63 := Tryz.underlying262
  a63 := Tryz.isAgg262
  z63 := Tryz.sizeOf262
  v63 := Tryz.zeroValue262
  t64 := Tryz.underlying187
  a64 := Tryz.isAgg187
  z64 := Tryz.sizeOf187
  v64 := Tryz.zeroValue187 }
open Go.Sort Go.RowKit in
theorem Tryz.slices_Sort_int (blk off cap : Nat) (zs : List Int) (w : World) (hH : Holds (Value.int .i64) w blk off zs.toArray) (hblk : blk < w.heap.size) (hsz : zs.length < 4611686018427387904) :
    Calls Tryz.prog 169 #[.slice (some ⟨blk, off, none⟩) zs.length cap] w fun e w' =>
      e = .returned (.tuple #[]) ∧ ∃ n os, w' = grow (putRow (Value.int .i64) (Sort.ahead w n) blk off (zs.mergeSort fun x y => decide (x ≤ y)).toArray) os := AnyM.slices_Sort_int Tryz.laysSlM5_f169 blk off cap zs w hH hblk hsz
open Go.RowKit Go.Sort in
theorem Tryz.slices_Sort_int_none (p : Option Addr) (cap : Nat) (w : World) :
    Calls Tryz.prog 169 #[.slice p 0 cap] w fun e w' => e = .returned (.tuple #[]) ∧ w' = w := AnyM.slices_Sort_int_none Tryz.laysSlM5_f169 p cap w
end Go.Proofs
namespace Go.Proofs.YtmonkjnfjgidbaaGreatDoor
set_option linter.all false
set_option linter.unusedVariables false
set_option linter.unusedSimpArgs false
open Go.RowKit
theorem sortT_any {w : World} {A : Option Addr} {n cp : Nat} {L : List Int} (hn : n = L.length) (h1 : n ≤ 1000000) (h : OwnR w A n cp 3 1 (iL L)) :
    CallsK Tryz.prog 169 #[.slice A n cp] [.own A n cp 3 1 (iL L)] w Unit (fun _ => .tuple #[]) (fun _ => [.own A n cp 3 1 (iL (srt L))]) := by
  subst hn
  rcases h.own.2 with ⟨e, h0⟩ | ⟨g, cap, cur, e, hg, hh, hnc, hcm, hcs, ht⟩
  · have hL : L = [] := List.length_eq_zero_iff.1 h0
    subst hL
    refine (Tryz.slices_Sort_int_none A cp w).mono ?_
    rintro e' w' ⟨rfl, rfl⟩
    refine ⟨(), rfl, ?_⟩
    rw [srt_nil]
    exact Sat.own1 h
  · simp only [Value.slice.injEq] at e
    obtain ⟨rfl, _, rfl⟩ := e
    have hlt := lt_of_get hh
    have hH : Sort.Holds (Value.int .i64) w g 0 L.toArray := fun j hj => by
      have hj' : j < L.length := by simpa using hj
      have hrd := h.own.form1 (by omega)
      obtain ⟨g', c', e, _, _, _, hcell, hfr⟩ := hrd
      cases e
      refine ⟨?_, hfr _⟩
      have := hcell j 0 hj' (by omega)
      rw [Nat.mul_one, Nat.add_zero] at this
      rw [Nat.zero_add, this]
      simp [rowF, iL, List.getD_eq_getElem?_getD, hj']
    refine (Tryz.slices_Sort_int g 0 cp L w hH hlt (by omega)).mono ?_
    rintro e' w' ⟨rfl, n, os, rfl⟩
    rw [ms_srt]
    exact ⟨(), rfl, own_putRow os n (srt_len L) h⟩
theorem growI_any (k : Nat) (w : World) (hk : k ≤ 1000000000) (r : Nat → List Value) :
    CallsK Tryz.prog 153 #[.slice none 0 0, .int .i64 k] [] w (Option Addr × Nat) (fun x => .slice x.1 0 x.2) (fun x => [.own x.1 0 x.2 3 1 r]) := by
  refine K_enter (S := []) (K := []) Tryz.func153 rfl Tryz.ntmps153 rfl (Sat.start _) ?_
  refine TW.seq fun Y1 hY1 => ?_
  refine TW.region ?_
  refine TL.p Pu.as ?_
  refine TL.nil ?_
  refine TQ.thenN (hY1 _ _ ?_)
  refine TW.seq fun Y2 hY2 => ?_
  refine TW.seq fun Y3 hY3 => ?_
  refine TW.region ?_
  refine TL.p Pu.mv ?_
  refine TL.p Pu.lt ?_
  refine TL.nil ?_
  refine TQ.thenN (hY3 _ _ ?_)
  refine TW.condF rfl ((by first | (simp; done) | (simp; omega))) ?_
  refine TW.skip ?_
  refine TQ.thenN (hY2 _ _ ?_)
  refine TW.seq fun Y4 hY4 => ?_
  refine TW.seq fun Y5 hY5 => ?_
  refine TW.region ?_
  refine TL.p Pu.mv ?_
  refine TL.p Pu.mv ?_
  refine TL.p (Pu.cp Tryz.underlying31) ?_
  refine TL.p Pu.mv ?_
  refine TL.p (Pu.ln Tryz.underlying31) ?_
  refine TL.p Pu.sb ?_
  refine TL.p Pu.sb ?_
  refine TL.p Pu.as ?_
  refine TL.nil ?_
  refine TQ.thenN (hY5 _ _ ?_)
  refine TW.seq fun Y6 hY6 => ?_
  refine TW.region ?_
  refine TL.p Pu.mv ?_
  refine TL.p Pu.gt ?_
  refine TL.nil ?_
  refine TQ.thenN (hY6 _ _ ?_)
  refine TW.cond rfl (fun hc1 => ?_) (fun hc1 => ?_)
  try simp only [decide_eq_true_eq, decide_eq_false_iff_not, Bool.not_eq_true', Bool.not_eq_false', Bool.and_eq_true, Bool.or_eq_true, Bool.and_eq_false_iff, Bool.or_eq_false_iff, Int.not_lt, Int.not_le] at hc1
  refine TW.region ?_
  refine TL.p Pu.mv ?_
  refine TL.p Pu.mv ?_
  refine TL.p (Pu.cp Tryz.underlying31) ?_
  refine TL.p (Pu.sh ty_et31) ?_
  refine TL.p Pu.mv ?_
  refine TL.az (r := r) ty_et31 Tryz.underlying3 ?_
  intro g1 c1 hc1 hm1
  refine TL.p Pu.mv ?_
  refine TL.p (Pu.ln Tryz.underlying31) ?_
  refine TL.p (Pu.sh ty_et31) ?_
  refine TL.p Pu.as ?_
  refine TL.nil ?_
  refine TQ.thenN (hY4 _ _ ?_)
  refine TW.seq fun Y7 hY7 => ?_
  refine TW.region ?_
  refine TL.p Pu.mv ?_
  refine TL.p Pu.as ?_
  refine TL.nil ?_
  refine TQ.thenN (hY7 _ _ ?_)
  refine TW.ret ?_
  refine TQ.ret Tryz.results153 rfl ((.tmp rfl .nil)) ?_
  exact fun w hw => ⟨(some ⟨g1, 0, none⟩, c1), rfl, hw⟩
  try simp only [decide_eq_true_eq, decide_eq_false_iff_not, Bool.not_eq_true', Bool.not_eq_false', Bool.and_eq_true, Bool.or_eq_true, Bool.and_eq_false_iff, Bool.or_eq_false_iff, Int.not_lt, Int.not_le] at hc1
  refine TW.skip ?_
  refine TQ.thenN (hY4 _ _ ?_)
  refine TW.seq fun Y8 hY8 => ?_
  refine TW.region ?_
  refine TL.p Pu.mv ?_
  refine TL.p Pu.as ?_
  refine TL.nil ?_
  refine TQ.thenN (hY8 _ _ ?_)
  refine TW.ret ?_
  refine TQ.ret Tryz.results153 rfl ((.tmp rfl .nil)) ?_
  exact fun w hw => ⟨(none, 0), rfl, hw.sub (KSub.nilOwn KSub.nil)⟩
def totT (l : Nat → Nat) : Nat → Nat
  | 0 => 0
  | q + 1 => totT l q + l q
def catT (l : Nat → Nat) (s : Nat → Nat → List Value) : Nat → Nat → List Value
  | 0 => fun _ => []
  | q + 1 => catR (totT l q) (catT l s q) (s q)
theorem totT_mono {l : Nat → Nat} {p q : Nat} (h : p ≤ q) : totT l p ≤ totT l q := by
  induction q with
  | zero => have : p = 0 := by omega
            subst this; exact Nat.le_refl _
  | succ q ih =>
    by_cases hp : p = q + 1
    · subst hp; exact Nat.le_refl _
    · have := ih (by omega); simp only [totT]; omega
theorem concatI_any {A : Option Addr} {m cp : Nat} {a : Nat → Option Addr} {l c : Nat → Nat} {v : Nat → Nat → Int} {w : World} (hm : m ≤ 1000000000) (ht : totT l m ≤ 1000000000)
    (hR : RdR w 1 A m (fun i => [.slice (a i) (l i) (c i)])) (hI : ∀ i, i < m → RdR w 1 (a i) (l i) (fun k => [.int .i64 (v i k)])) :
    CallsK Tryz.prog 110 #[.slice A m cp] [] w (Option Addr × Nat) (fun x => .slice x.1 (totT l m) x.2) (fun x => [.own x.1 (totT l m) x.2 3 1 (catT l (fun i k => [.int .i64 (v i k)]) m)]) := by
  refine K_enter (S := []) (K := []) Tryz.func110 rfl Tryz.ntmps110 rfl (Sat.start _) ?_
  refine TW.seq fun Y1 hY1 => ?_
  refine TW.region ?_
  refine TL.p Pu.as ?_
  refine TL.nil ?_
  refine TQ.thenN (hY1 _ _ ?_)
  refine TW.seq fun Y2 hY2 => ?_
  refine TW.region ?_
  refine TL.p Pu.as ?_
  refine TL.nil ?_
  refine TQ.thenN (hY2 _ _ ?_)
  refine TW.seq fun Y3 hY3 => ?_
  refine TW.seq fun Y4 hY4 => ?_
  refine TW.region ?_
  refine TL.p Pu.mv ?_
  refine TL.p (Pu.ln Tryz.underlying113) ?_
  refine TL.p Pu.mv ?_
  refine TL.nil ?_
  refine TQ.thenN (hY4 _ _ ?_)
  refine TW.block ?_
  refine TW.loop2 (fun (q : Nat) (z : Int) => [(11, .int .i64 (q : Int)), (10, .int .i64 (m : Int)), (9, .slice A m cp), (0, .slice A m cp), (3, .int .i64 z)]) (fun q z => []) (fun q z => q ≤ m ∧ z = (totT l q : Int)) (fun q z => m - q) 0 _ fs9 ?_ ?_ ?_
  exact ks9
  exact ⟨by omega, rfl⟩
  rintro q z ⟨hq, hz⟩ Z0 hZ0
  refine TW.seq fun Y5 hY5 => ?_
  refine TW.region ?_
  refine TL.p Pu.lt ?_
  refine TL.nil ?_
  refine TQ.thenN (hY5 _ _ ?_)
  refine TW.seq fun Y6 hY6 => ?_
  refine TW.cond rfl (fun hc0 => ?_) (fun hc0 => ?_)
  try simp only [decide_eq_true_eq, decide_eq_false_iff_not, Bool.not_eq_true', Bool.not_eq_false', Bool.and_eq_true, Bool.or_eq_true, Bool.and_eq_false_iff, Bool.or_eq_false_iff, Int.not_lt, Int.not_le] at hc0
  have hqm : q < m := by omega
  have h1 := totT_mono (l := l) (show q + 1 ≤ m by omega)
  simp only [totT] at h1
  refine TW.skip ?_
  refine TQ.thenN (hY6 _ _ ?_)
  refine TW.seq fun Y7 hY7 => ?_
  refine TW.block ?_
  refine TW.seq fun Y8 hY8 => ?_
  refine TW.region ?_
  refine TL.p (Pu.el ty_et113) ?_
  refine TL.p (Pu.ld ty_sc31) ?_
  refine TL.p Pu.as ?_
  refine TL.nil ?_
  refine TQ.thenN (hY8 _ _ ?_)
  refine TW.seq fun Y9 hY9 => ?_
  refine TW.region ?_
  refine TL.p Pu.mv ?_
  refine TL.p Pu.mv ?_
  refine TL.p (Pu.ln Tryz.underlying31) ?_
  refine TL.p Pu.ad ?_
  refine TL.p Pu.as ?_
  refine TL.nil ?_
  refine TQ.thenN (hY9 _ _ ?_)
  refine TW.seq fun Y10 hY10 => ?_
  refine TW.region ?_
  refine TL.p Pu.mv ?_
  refine TL.p Pu.lt ?_
  refine TL.nil ?_
  refine TQ.thenN (hY10 _ _ ?_)
  refine TW.condF rfl ((by first | (simp; done) | (simp; omega))) ?_
  refine TW.skip ?_
  refine TQ.blkN ?_
  refine TQ.thenN (hY7 _ _ ?_)
  refine TW.region ?_
  refine TL.p Pu.ad ?_
  refine TL.p Pu.mv ?_
  refine TL.nil ?_
  refine TQ.thenN (hZ0 (q + 1) _ _ _ ?_ ?_ fs9 ?_)
  exact ⟨by omega, by simp only [totT]; omega⟩
  exact (by first | omega | (simp only []; omega) | (simp; omega))
  exact ks9
  try simp only [decide_eq_true_eq, decide_eq_false_iff_not, Bool.not_eq_true', Bool.not_eq_false', Bool.and_eq_true, Bool.or_eq_true, Bool.and_eq_false_iff, Bool.or_eq_false_iff, Int.not_lt, Int.not_le] at hc0
  refine TW.exit ?_
  refine TQ.thenX ?_
  refine TQ.thenX ?_
  refine TQ.blkX ?_
  refine TQ.thenN (hY3 _ _ ?_)
  refine TW.seq fun Y11 hY11 => ?_
  refine TW.region ?_
  refine TL.p Pu.mv ?_
  refine TL.call (M := []) rfl (enters Tryz.func153 rfl rfl) (List.Perm.refl _) rfl (fun w hw => by
      obtain rfl : q = m := by omega
      subst hz
      exact growI_any _ w ht (fun _ => [])) ?_
  rintro ⟨A0, c0⟩
  refine TL.p Pu.as ?_
  refine TL.nil ?_
  refine TQ.thenN (hY11 _ _ ?_)
  refine TW.seq fun Y12 hY12 => ?_
  refine TW.seq fun Y13 hY13 => ?_
  refine TW.region ?_
  refine TL.p Pu.mv ?_
  refine TL.p (Pu.ln Tryz.underlying113) ?_
  refine TL.p Pu.mv ?_
  refine TL.nil ?_
  refine TQ.thenN (hY13 _ _ ?_)
  refine TW.block ?_
  refine TW.loop3 (fun (q : Nat) (A1 : Option Addr) (c1 : Nat) => [(27, .int .i64 (q : Int)), (26, .int .i64 (m : Int)), (25, .slice A m cp), (6, .slice A1 (totT l q) c1)]) (fun q A1 c1 => [.own A1 (totT l q) c1 3 1 (catT l (fun i k => [.int .i64 (v i k)]) q)]) (fun q A1 c1 => q ≤ m) (fun q A1 c1 => m - q) 0 _ _ fs9 ?_ ?_ ?_
  exact ks9
  exact Nat.zero_le _
  rintro q A1 c1 hq Z1 hZ1
  refine TW.seq fun Y14 hY14 => ?_
  refine TW.region ?_
  refine TL.p Pu.lt ?_
  refine TL.nil ?_
  refine TQ.thenN (hY14 _ _ ?_)
  refine TW.seq fun Y15 hY15 => ?_
  refine TW.cond rfl (fun hc2 => ?_) (fun hc2 => ?_)
  try simp only [decide_eq_true_eq, decide_eq_false_iff_not, Bool.not_eq_true', Bool.not_eq_false', Bool.and_eq_true, Bool.or_eq_true, Bool.and_eq_false_iff, Bool.or_eq_false_iff, Int.not_lt, Int.not_le] at hc2
  have hqm : q < m := by omega
  have h1 := totT_mono (l := l) (show q + 1 ≤ m by omega)
  simp only [totT] at h1
  have hIq := hI q hqm
  refine TW.skip ?_
  refine TQ.thenN (hY15 _ _ ?_)
  refine TW.seq fun Y16 hY16 => ?_
  refine TW.block ?_
  refine TW.seq fun Y17 hY17 => ?_
  refine TW.region ?_
  refine TL.p (Pu.el ty_et113) ?_
  refine TL.p (Pu.ld ty_sc31) ?_
  refine TL.p Pu.as ?_
  refine TL.nil ?_
  refine TQ.thenN (hY17 _ _ ?_)
  refine TW.region ?_
  refine TL.p Pu.mv ?_
  refine TL.p Pu.mv ?_
  first | refine TL.a0 ty_et31 ?_ | refine TL.ap ty_et31 ?_
  intro A1 c1
  refine TL.p Pu.as ?_
  refine TL.nil ?_
  refine TQ.blkN ?_
  refine TQ.thenN (hY16 _ _ ?_)
  refine TW.region ?_
  refine TL.p Pu.ad ?_
  refine TL.p Pu.mv ?_
  refine TL.nil ?_
  refine TQ.thenN (hZ1 (q + 1) _ _ _ _ ?_ ?_ fs9 ?_)
  exact (by omega)
  exact (by first | omega | (simp only []; omega) | (simp; omega))
  exact ks9
  try simp only [decide_eq_true_eq, decide_eq_false_iff_not, Bool.not_eq_true', Bool.not_eq_false', Bool.and_eq_true, Bool.or_eq_true, Bool.and_eq_false_iff, Bool.or_eq_false_iff, Int.not_lt, Int.not_le] at hc2
  obtain rfl : q = m := by omega
  refine TW.exit ?_
  refine TQ.thenX ?_
  refine TQ.thenX ?_
  refine TQ.blkX ?_
  refine TQ.thenN (hY12 _ _ ?_)
  refine TW.seq fun Y18 hY18 => ?_
  refine TW.region ?_
  refine TL.p Pu.mv ?_
  refine TL.p Pu.as ?_
  refine TL.nil ?_
  refine TQ.thenN (hY18 _ _ ?_)
  refine TW.ret ?_
  refine TQ.ret Tryz.results110 rfl ((.tmp rfl .nil)) ?_
  exact fun w hw => ⟨(A1, c1), rfl, hw⟩
section
variable {c : Cx} {Q : Exit → Act → World → Prop} {F : Fr} {K K' : List Fact} {ops : Array Oper} {rest : List Oper} {d : Option Tmp} {ty : TypeId} {pos : String} {af : Array Edge} {g : Option (Nat × Bool)}
theorem TL.gcm {f : FuncId} {xs : List Operand} {ts : Array TypeId} {us : List Value} {M : List Fact} {X : Type} {val : X → Value} {L : X → List Fact} (hx : evs F xs = some us) (hen : Enters c.P f) (hM : K.Perm (M ++ K'))
    (hc : ∀ w, Sat c.S c.w0 K w → CallsK c.P f us.toArray M w X val L) (h : ∀ x, TL c ops Q rest (fput F d (val x)) (L x ++ K')) (hg : gdB F ops g = some true := by rfl) (hd : dok d c.n = true := by rfl) :
    TL c ops Q (⟨d, .call { callee := .value (.func f), args := xs.toArray, argTypes := ts }, ty, pos, af, g⟩ :: rest) F K := fun a w hF hK => by
  unfold wpList
  rw [if_pos (hF.wanted hg)]
  refine .inl ?_
  have hr : (execOp a.eval ⟨d, .call { callee := .value (.func f), args := xs.toArray, argTypes := ts }, ty, pos, af, g⟩).run c.P w = .ok (.enter f us.toArray) w := by
    have := hF.evsl hx
    have h9 := hen us.toArray w
    simp [execOp, resolve, invoke, Deferred.ofValue, Act.eval, this, h9]
  unfold Oper.wp
  rw [hr]
  refine Calls.mono (hc w hK) ?_
  rintro e w' ⟨x, rfl, hs⟩
  exact h x _ _ (hF.fput hd _) ((hK.perm hM).step hs)
end
set_option maxRecDepth 100000 in
theorem cloneI_any {A : Option Addr} {n cp : Nat} {v : Nat → Int} {w : World} (hn : n ≤ 1000000000) (hR : RdR w 1 A n (fun k => [.int .i64 (v k)])) :
    CallsK Tryz.prog 88 #[.slice A n cp] [] w (Option Addr × Nat) (fun x => .slice x.1 n x.2) (fun x => [.own x.1 n x.2 3 1 (iL (toI v n))]) := by
  cases A with
  | none =>
    have h0 : n = 0 := by
      rcases Nat.eq_zero_or_pos n with h | h
      exact h
      obtain ⟨b, o, e, _⟩ := hR.rd h
      cases e
    subst h0
    refine K_enter (S := []) (K := []) Tryz.func88 rfl Tryz.ntmps88 rfl (Sat.start _) ?_
    refine TW.seq fun Y1 hY1 => ?_
    refine TW.region ?_
    refine TL.p Pu.as ?_
    refine TL.nil ?_
    refine TQ.thenN (hY1 _ _ ?_)
    refine TW.seq fun Y2 hY2 => ?_
    refine TW.seq fun Y3 hY3 => ?_
    refine TW.region ?_
    refine TL.p Pu.mv ?_
    refine TL.p Pu.bn ?_
    refine TL.nil ?_
    refine TQ.thenN (hY3 _ _ ?_)
    refine TW.condT rfl (rfl) ?_
    refine TW.seq fun Y4 hY4 => ?_
    refine TW.region ?_
    refine TL.p Pu.as ?_
    refine TL.nil ?_
    refine TQ.thenN (hY4 _ _ ?_)
    refine TW.ret ?_
    refine TQ.thenR ?_
    refine TQ.ret Tryz.results88 rfl ((.tmp rfl .nil)) ?_
    exact fun w hw => ⟨(none, 0), rfl, hw.sub (KSub.nilOwn KSub.nil)⟩
  | some p =>
    refine K_enter (S := []) (K := []) Tryz.func88 rfl Tryz.ntmps88 rfl (Sat.start _) ?_
    refine TW.seq fun Y1 hY1 => ?_
    refine TW.region ?_
    refine TL.p Pu.as ?_
    refine TL.nil ?_
    refine TQ.thenN (hY1 _ _ ?_)
    refine TW.seq fun Y2 hY2 => ?_
    refine TW.seq fun Y3 hY3 => ?_
    refine TW.region ?_
    refine TL.p Pu.mv ?_
    refine TL.p Pu.bn ?_
    refine TL.nil ?_
    refine TQ.thenN (hY3 _ _ ?_)
    refine TW.condF rfl (rfl) ?_
    refine TW.skip ?_
    refine TQ.thenN (hY2 _ _ ?_)
    refine TW.seq fun Y4 hY4 => ?_
    refine TW.region ?_
    refine TL.m Mk.bl ?_
    intro b1
    refine TL.p Pu.mv ?_
    refine TL.subK (KSub.ofBlk (n := 0) (sz := 1) (r := fun _ => []) Pick.hd rfl (fun _ h => by omega) rfl rfl KSub.nil) ?_
    first | refine TL.a0 ty_et31 ?_ | refine TL.ap ty_et31 ?_
    intro A2 c2
    refine TL.p Pu.as ?_
    refine TL.nil ?_
    refine TQ.thenN (hY4 _ _ ?_)
    refine TW.ret ?_
    refine TQ.ret Tryz.results88 rfl ((.tmp rfl .nil)) ?_
    exact fun w hw => ⟨(A2, c2), rfl, hw.sub (KSub.own Pick.hd (fun i hi => by simp only [iL, toI_get hi]) KSub.nil)⟩
theorem lessI_any (a b : Int) (w : World) : Calls Tryz.prog 176 #[.int .i64 a, .int .i64 b] w (Ret w (.bool (decide (a < b)))) := by
  refine K_enter (S := []) (K := []) Tryz.func176 rfl Tryz.ntmps176 rfl (Sat.start _) ?_
  refine TW.seq fun Y1 hY1 => ?_
  refine TW.region ?_
  refine TL.p Pu.as ?_
  refine TL.nil ?_
  refine TQ.thenN (hY1 _ _ ?_)
  refine TW.seq fun Y2 hY2 => ?_
  refine TW.join [(4, .bool (decide (a < b)))] ?_ (fun hJ1 => ?_)
  refine TQ.thenN (hY2 _ _ ?_)
  refine TW.ret ?_
  refine TQ.ret Tryz.results176 rfl ((.tmp rfl .nil)) ?_
  exact fun w hw => Ret.of hw
  refine TW.region ?_
  refine TL.p Pu.mv ?_
  refine TL.cr rfl (enters Tryz.func150 rfl rfl) (fun w hw => by
      exact isNaN_any _ _) ?_
  refine TL.p Pu.mv ?_
  refine TL.gs ?_
  refine TL.gs ?_
  refine TL.gs ?_
  refine TL.p Pu.kf ?_
  refine TL.p Pu.mv ?_
  refine TL.gd Pu.mv ?_
  refine TL.gd Pu.mv ?_
  refine TL.gd Pu.lt ?_
  refine TL.p Pu.kf ?_
  refine TL.p Pu.as ?_
  refine TL.nil ?_
  exact TQ.sub (by repeat (first | exact trivial | refine ⟨rfl, ?_⟩ | refine ⟨trivial, ?_⟩ | refine ⟨(by show some (Value.bool _) = some (Value.bool _); first | (simp []; done) | (refine congrArg (fun z => some (Value.bool z)) (Bool.eq_iff_iff.2 ?_); simp []; omega)), ?_⟩)) ks9 hJ1
set_option maxRecDepth 100000 in
theorem isSorted_any {A : Option Addr} {n cp : Nat} {v : Nat → Int} {w : World} (hn : n ≤ 1000000) (hR : RdR w 1 A n (fun k => [.int .i64 (v k)])) :
    Calls Tryz.prog 166 #[.slice A n cp] w (Ret w (.bool (sortB v n))) := by
  refine K_enter (S := []) (K := []) Tryz.func166 rfl Tryz.ntmps166 rfl (Sat.start _) ?_
  refine TW.seq fun Y1 hY1 => ?_
  refine TW.region ?_
  refine TL.p Pu.as ?_
  refine TL.nil ?_
  refine TQ.thenN (hY1 _ _ ?_)
  refine TW.seq fun Y2 hY2 => ?_
  refine TW.seq fun Y3 hY3 => ?_
  refine TW.region ?_
  refine TL.p Pu.mv ?_
  refine TL.p (Pu.ln Tryz.underlying31) ?_
  refine TL.p Pu.sb ?_
  refine TL.p Pu.as ?_
  refine TL.nil ?_
  refine TQ.thenN (hY3 _ _ ?_)
  refine TW.block ?_
  refine TW.loop1 (fun (k : Nat) => [(3, .int .i64 ((k : Int) - 1)), (0, .slice A n cp)]) (fun k => []) (fun k => k ≤ n ∧ ∀ j, k ≤ j → j < n → ¬ v j < v (j - 1)) (fun k => k) n fs9 ?_ ?_ ?_
  exact ks9
  exact ⟨Nat.le_refl _, fun j h1 h2 => by omega⟩
  rintro k ⟨hk, hall⟩ Z0 hZ0
  refine TW.seq fun Y4 hY4 => ?_
  refine TW.seq fun Y5 hY5 => ?_
  refine TW.region ?_
  refine TL.p Pu.mv ?_
  refine TL.p Pu.gt ?_
  refine TL.nil ?_
  refine TQ.thenN (hY5 _ _ ?_)
  refine TW.cond rfl (fun hc0 => ?_) (fun hc0 => ?_)
  try simp only [decide_eq_true_eq, decide_eq_false_iff_not, Bool.not_eq_true', Bool.not_eq_false', Bool.and_eq_true, Bool.or_eq_true, Bool.and_eq_false_iff, Bool.or_eq_false_iff, Int.not_lt, Int.not_le] at hc0
  have hk2 : 2 ≤ k := by omega
  refine TW.skip ?_
  refine TQ.thenN (hY4 _ _ ?_)
  refine TW.seq fun Y6 hY6 => ?_
  refine TW.block ?_
  refine TW.seq fun Y7 hY7 => ?_
  refine TW.dw 10 ?_
  refine RK.tk Pu.mv ?_
  refine RK.tk Pu.mv ?_
  refine RK.tk (Pu.el (q := k - 1) ty_et31 (hk := by omega)) ?_
  refine RK.tk (Pu.ld ty_sc3) ?_
  refine RK.tk Pu.mv ?_
  refine RK.tk Pu.mv ?_
  refine RK.tk Pu.sb ?_
  refine RK.tk (Pu.el (q := k - 1 - 1) ty_et31 (hk := by omega)) ?_
  refine RK.tk (Pu.ld ty_sc3) ?_
  refine RK.keep ?_
  refine RK.ch [false] ?_ trivial
  refine WK.cr rfl (enters Tryz.func176 rfl rfl) (fun w hw => by
      exact lessI_any _ _ _) ?_
  refine WK.n ?_
  refine TL.nil ?_
  refine TQ.thenN (hY7 _ _ ?_)
  refine TW.cond rfl (fun hc1 => ?_) (fun hc1 => ?_)
  try simp only [decide_eq_true_eq, decide_eq_false_iff_not, Bool.not_eq_true', Bool.not_eq_false', Bool.and_eq_true, Bool.or_eq_true, Bool.and_eq_false_iff, Bool.or_eq_false_iff, Int.not_lt, Int.not_le] at hc1
  have hg : v (k - 1) < v (k - 1 - 1) := by omega
  refine TW.seq fun Y8 hY8 => ?_
  refine TW.region ?_
  refine TL.p Pu.as ?_
  refine TL.nil ?_
  refine TQ.thenN (hY8 _ _ ?_)
  refine TW.ret ?_
  refine TQ.blkR ?_
  refine TQ.thenR ?_
  refine TQ.thenR ?_
  refine TQ.blkR ?_
  refine TQ.thenR ?_
  refine TQ.ret Tryz.results166 rfl ((.tmp rfl .nil)) ?_
  have hs : sortB v n = false := by
    unfold sortB
    rw [Bool.eq_false_iff]
    intro hh
    have := allB_iff.1 hh (k - 1) (by omega)
    rw [decide_eq_true hg, decide_eq_false (by omega)] at this
    cases this
  exact fun w hw => ⟨ret_bool (by rw [hs]), Chg.ext hw.chg⟩
  try simp only [decide_eq_true_eq, decide_eq_false_iff_not, Bool.not_eq_true', Bool.not_eq_false', Bool.and_eq_true, Bool.or_eq_true, Bool.and_eq_false_iff, Bool.or_eq_false_iff, Int.not_lt, Int.not_le] at hc1
  have hg : ¬ v (k - 1) < v (k - 1 - 1) := by omega
  refine TW.skip ?_
  refine TQ.blkN ?_
  refine TQ.thenN (hY6 _ _ ?_)
  refine TW.region ?_
  refine TL.p Pu.mv ?_
  refine TL.p Pu.sb ?_
  refine TL.p Pu.as ?_
  refine TL.nil ?_
  refine TQ.thenN (hZ0 (k - 1) _ _ ?_ ?_ (by refine ⟨congrArg (fun z => some (Value.int .i64 z)) (by omega), ?_⟩; (repeat (first | exact trivial | refine ⟨rfl, ?_⟩ | refine ⟨trivial, ?_⟩))) ?_)
  refine ⟨by omega, fun j h1 h2 => ?_⟩
  by_cases e : j = k - 1
  subst e; exact hg
  exact hall j (by omega) h2
  exact (by first | omega | (simp only []; omega) | (simp; omega))
  exact ks9
  try simp only [decide_eq_true_eq, decide_eq_false_iff_not, Bool.not_eq_true', Bool.not_eq_false', Bool.and_eq_true, Bool.or_eq_true, Bool.and_eq_false_iff, Bool.or_eq_false_iff, Int.not_lt, Int.not_le] at hc0
  have hk2 : k ≤ 1 := by omega
  refine TW.exit ?_
  refine TQ.thenX ?_
  refine TQ.thenX ?_
  refine TQ.blkX ?_
  refine TQ.thenN (hY2 _ _ ?_)
  refine TW.seq fun Y9 hY9 => ?_
  refine TW.region ?_
  refine TL.p Pu.as ?_
  refine TL.nil ?_
  refine TQ.thenN (hY9 _ _ ?_)
  refine TW.ret ?_
  refine TQ.ret Tryz.results166 rfl ((.tmp rfl .nil)) ?_
  have hs : sortB v n = true := allB_iff.2 fun j hj => by
    by_cases e : j = 0
    subst e; rfl
    rw [decide_eq_false (hall j (by omega) hj)]; simp
  exact fun w hw => ⟨ret_bool (by rw [hs]), Chg.ext hw.chg⟩
theorem indexT_any {w : World} {A : Option Addr} {n cp : Nat} {v : Nat → Int} (x : Int) (h1 : n ≤ 1000000) (hR : RdR w 1 A n (fun k => [.int .i64 (v k)])) :
    CallsK Tryz.prog 171 #[.slice A n cp, .int .i64 x] [] w { k : Int // decide (0 ≤ k) = hasB v n x } (fun k => .int .i64 k.1) (fun _ => []) := by
  refine K_enter (S := []) (K := []) Tryz.func171 rfl Tryz.ntmps171 rfl (Sat.start _) ?_
  refine TW.seq fun Y1 hY1 => ?_
  refine TW.region ?_
  refine TL.p Pu.as ?_
  refine TL.nil ?_
  refine TQ.thenN (hY1 _ _ ?_)
  refine TW.seq fun Y2 hY2 => ?_
  refine TW.seq fun Y3 hY3 => ?_
  refine TW.region ?_
  refine TL.p Pu.mv ?_
  refine TL.p (Pu.ln Tryz.underlying31) ?_
  refine TL.p Pu.mv ?_
  refine TL.nil ?_
  refine TQ.thenN (hY3 _ _ ?_)
  refine TW.block ?_
  refine TW.loop1 (fun (k : Nat) => [(8, .int .i64 (k : Int)), (7, .int .i64 (n : Int)), (0, .slice A n cp), (1, .int .i64 x)]) (fun k => []) (fun k => k ≤ n ∧ ∀ j, j < k → v j ≠ x) (fun k => n - k) 0 fs9 ?_ ?_ ?_
  exact ks9
  exact ⟨Nat.zero_le _, fun j hj => by omega⟩
  rintro k ⟨hk, hall⟩ Z0 hZ0
  refine TW.seq fun Y4 hY4 => ?_
  refine TW.region ?_
  refine TL.p Pu.lt ?_
  refine TL.nil ?_
  refine TQ.thenN (hY4 _ _ ?_)
  refine TW.seq fun Y5 hY5 => ?_
  refine TW.cond rfl (fun hc0 => ?_) (fun hc0 => ?_)
  try simp only [decide_eq_true_eq, decide_eq_false_iff_not, Bool.not_eq_true', Bool.not_eq_false', Bool.and_eq_true, Bool.or_eq_true, Bool.and_eq_false_iff, Bool.or_eq_false_iff, Int.not_lt, Int.not_le] at hc0
  have hkn : k < n := by omega
  refine TW.skip ?_
  refine TQ.thenN (hY5 _ _ ?_)
  refine TW.seq fun Y6 hY6 => ?_
  refine TW.block ?_
  refine TW.seq fun Y7 hY7 => ?_
  refine TW.region ?_
  refine TL.p Pu.mv ?_
  refine TL.p Pu.as ?_
  refine TL.nil ?_
  refine TQ.thenN (hY7 _ _ ?_)
  refine TW.seq fun Y8 hY8 => ?_
  refine TW.region ?_
  refine TL.p Pu.mv ?_
  refine TL.p Pu.mv ?_
  refine TL.p Pu.mv ?_
  refine TL.p (Pu.el ty_et31) ?_
  refine TL.p (Pu.ld ty_sc3) ?_
  refine TL.p Pu.eq ?_
  refine TL.nil ?_
  refine TQ.thenN (hY8 _ _ ?_)
  refine TW.cond rfl (fun hc1 => ?_) (fun hc1 => ?_)
  try simp only [decide_eq_true_eq, decide_eq_false_iff_not, Bool.not_eq_true', Bool.not_eq_false', Bool.and_eq_true, Bool.or_eq_true, Bool.and_eq_false_iff, Bool.or_eq_false_iff, Int.not_lt, Int.not_le] at hc1
  have hx : v k = x := by omega
  refine TW.seq fun Y9 hY9 => ?_
  refine TW.region ?_
  refine TL.p Pu.mv ?_
  refine TL.p Pu.as ?_
  refine TL.nil ?_
  refine TQ.thenN (hY9 _ _ ?_)
  refine TW.ret ?_
  refine TQ.blkR ?_
  refine TQ.thenR ?_
  refine TQ.thenR ?_
  refine TQ.blkR ?_
  refine TQ.thenR ?_
  refine TQ.ret Tryz.results171 rfl ((.tmp rfl .nil)) ?_
  exact fun w hw => ⟨⟨_, by rw [has_yes hkn hx]; simp⟩, rfl, hw.sub KSub.nil⟩
  try simp only [decide_eq_true_eq, decide_eq_false_iff_not, Bool.not_eq_true', Bool.not_eq_false', Bool.and_eq_true, Bool.or_eq_true, Bool.and_eq_false_iff, Bool.or_eq_false_iff, Int.not_lt, Int.not_le] at hc1
  have hx : v k ≠ x := by omega
  refine TW.skip ?_
  refine TQ.blkN ?_
  refine TQ.thenN (hY6 _ _ ?_)
  refine TW.region ?_
  refine TL.p Pu.ad ?_
  refine TL.p Pu.mv ?_
  refine TL.nil ?_
  refine TQ.thenN (hZ0 (k + 1) _ _ ?_ ?_ fs9 ?_)
  exact ⟨by omega, fun j hj => (Nat.lt_succ_iff_lt_or_eq.1 hj).elim (hall j) (fun e => e ▸ hx)⟩
  exact (by first | omega | (simp only []; omega) | (simp; omega))
  exact ks9
  try simp only [decide_eq_true_eq, decide_eq_false_iff_not, Bool.not_eq_true', Bool.not_eq_false', Bool.and_eq_true, Bool.or_eq_true, Bool.and_eq_false_iff, Bool.or_eq_false_iff, Int.not_lt, Int.not_le] at hc0
  have hkn : k = n := by omega
  refine TW.exit ?_
  refine TQ.thenX ?_
  refine TQ.thenX ?_
  refine TQ.blkX ?_
  refine TQ.thenN (hY2 _ _ ?_)
  refine TW.seq fun Y10 hY10 => ?_
  refine TW.region ?_
  refine TL.p Pu.as ?_
  refine TL.nil ?_
  refine TQ.thenN (hY10 _ _ ?_)
  refine TW.ret ?_
  refine TQ.ret Tryz.results171 rfl ((.tmp rfl .nil)) ?_
  exact fun w hw => ⟨⟨_, by rw [has_no (hkn ▸ hall)]; rfl⟩, rfl, hw.sub KSub.nil⟩
theorem contains_any {w : World} {A : Option Addr} {n cp : Nat} {v : Nat → Int} (x : Int) (h1 : n ≤ 1000000) (hR : RdR w 1 A n (fun k => [.int .i64 (v k)])) :
    Calls Tryz.prog 145 #[.slice A n cp, .int .i64 x] w (Ret w (.bool (hasB v n x))) := by
  refine K_enter (S := []) (K := []) Tryz.func145 rfl Tryz.ntmps145 rfl (Sat.start _) ?_
  refine TW.seq fun Y1 hY1 => ?_
  refine TW.region ?_
  refine TL.p Pu.as ?_
  refine TL.nil ?_
  refine TQ.thenN (hY1 _ _ ?_)
  refine TW.seq fun Y2 hY2 => ?_
  refine TW.region ?_
  refine TL.p Pu.mv ?_
  refine TL.p Pu.mv ?_
  refine TL.call (M := []) rfl (enters Tryz.func171 rfl rfl) (List.Perm.refl _) rfl (fun w hw => by
      exact indexT_any x h1 (hR.sat hw Apart.nil)) ?_
  rintro ⟨k, hk⟩
  refine TL.p Pu.ge ?_
  refine TL.p Pu.as ?_
  refine TL.nil ?_
  refine TQ.thenN (hY2 _ _ ?_)
  refine TW.ret ?_
  refine TQ.ret Tryz.results145 rfl ((.tmp rfl .nil)) ?_
  exact fun w hw => ⟨ret_bool hk.symm, Chg.ext hw.chg⟩
def mxF (v : Nat → Int) : Nat → Int
  | 0 => v 0
  | k + 1 => max (mxF v k) (v (k + 1))
theorem slMax_any {A : Option Addr} {n cp : Nat} {v : Nat → Int} {w : World} (hn : 0 < n) (hm : n ≤ 1000000) (hR : RdR w 1 A n (fun k => [.int .i64 (v k)])) :
    Calls Tryz.prog 146 #[.slice A n cp] w (Ret w (.int .i64 (mxF v (n - 1)))) := by
  refine K_enter (S := []) (K := []) Tryz.func146 rfl Tryz.ntmps146 rfl (Sat.start _) ?_
  refine TW.seq fun Y1 hY1 => ?_
  refine TW.region ?_
  refine TL.p Pu.as ?_
  refine TL.nil ?_
  refine TQ.thenN (hY1 _ _ ?_)
  refine TW.seq fun Y2 hY2 => ?_
  refine TW.seq fun Y3 hY3 => ?_
  refine TW.region ?_
  refine TL.p Pu.mv ?_
  refine TL.p (Pu.ln Tryz.underlying31) ?_
  refine TL.p Pu.lt ?_
  refine TL.nil ?_
  refine TQ.thenN (hY3 _ _ ?_)
  refine TW.condF rfl ((decide_eq_false (by omega))) ?_
  refine TW.skip ?_
  refine TQ.thenN (hY2 _ _ ?_)
  refine TW.seq fun Y4 hY4 => ?_
  refine TW.region ?_
  refine TL.p Pu.mv ?_
  refine TL.p (Pu.el ty_et31) ?_
  refine TL.p (Pu.ld ty_sc3) ?_
  refine TL.p Pu.as ?_
  refine TL.nil ?_
  refine TQ.thenN (hY4 _ _ ?_)
  refine TW.seq fun Y5 hY5 => ?_
  refine TW.seq fun Y6 hY6 => ?_
  refine TW.region ?_
  refine TL.p Pu.as ?_
  refine TL.nil ?_
  refine TQ.thenN (hY6 _ _ ?_)
  refine TW.block ?_
  refine TW.loop1 (fun (k : Nat) => [(0, .slice A n cp), (3, .int .i64 (mxF v k)), (4, .int .i64 ((k : Int) + 1))]) (fun k => []) (fun k => k < n) (fun k => n - k) 0 fs9 ?_ ?_ ?_
  exact ks9
  exact hn
  rintro k hk Z0 hZ0
  refine TW.seq fun Y7 hY7 => ?_
  refine TW.seq fun Y8 hY8 => ?_
  refine TW.region ?_
  refine TL.p Pu.mv ?_
  refine TL.p Pu.mv ?_
  refine TL.p (Pu.ln Tryz.underlying31) ?_
  refine TL.p Pu.lt ?_
  refine TL.nil ?_
  refine TQ.thenN (hY8 _ _ ?_)
  refine TW.cond rfl (fun hc1 => ?_) (fun hc1 => ?_)
  try simp only [decide_eq_true_eq, decide_eq_false_iff_not, Bool.not_eq_true', Bool.not_eq_false', Bool.and_eq_true, Bool.or_eq_true, Bool.and_eq_false_iff, Bool.or_eq_false_iff, Int.not_lt, Int.not_le] at hc1
  have hkn : k + 1 < n := by omega
  refine TW.skip ?_
  refine TQ.thenN (hY7 _ _ ?_)
  refine TW.seq fun Y9 hY9 => ?_
  refine TW.block ?_
  refine TW.region ?_
  refine TL.p Pu.mv ?_
  refine TL.p Pu.mv ?_
  refine TL.p Pu.mv ?_
  refine TL.p (Pu.el ty_et31) ?_
  refine TL.p (Pu.ld ty_sc3) ?_
  refine TL.p Pu.mx ?_
  refine TL.p Pu.as ?_
  refine TL.nil ?_
  refine TQ.blkN ?_
  refine TQ.thenN (hY9 _ _ ?_)
  refine TW.region ?_
  refine TL.p Pu.mv ?_
  refine TL.p Pu.ad ?_
  refine TL.p Pu.as ?_
  refine TL.nil ?_
  refine TQ.thenN (hZ0 (k + 1) _ _ ?_ ?_ fs9 ?_)
  exact hkn
  exact (by first | omega | (simp only []; omega) | (simp; omega))
  exact ks9
  try simp only [decide_eq_true_eq, decide_eq_false_iff_not, Bool.not_eq_true', Bool.not_eq_false', Bool.and_eq_true, Bool.or_eq_true, Bool.and_eq_false_iff, Bool.or_eq_false_iff, Int.not_lt, Int.not_le] at hc1
  have hkn : k + 1 = n := by omega
  refine TW.exit ?_
  refine TQ.thenX ?_
  refine TQ.thenX ?_
  refine TQ.blkX ?_
  refine TQ.thenN (hY5 _ _ ?_)
  refine TW.seq fun Y10 hY10 => ?_
  refine TW.region ?_
  refine TL.p Pu.mv ?_
  refine TL.p Pu.as ?_
  refine TL.nil ?_
  refine TQ.thenN (hY10 _ _ ?_)
  refine TW.ret ?_
  refine TQ.ret Tryz.results146 rfl ((.tmp rfl .nil)) ?_
  exact fun w hw => ⟨ret_int (by subst hkn; rfl), Chg.ext hw.chg⟩
theorem everyInt1_any {g : FuncId} {fs cs : List Value} {b : Nat} {u : Int} {p : Bool} {w : World} (hen : Enters Tryz.prog g) (hb : OldB w b [.func (.func g) fs.toArray cs.toArray])
    (hg : ∀ w', Below w.heap.size w w' → Calls Tryz.prog g (fs ++ [Value.int .i64 u] ++ cs).toArray w' (Ret w' (.bool p))) :
    Calls Tryz.prog 175 #[Value.int .i64 u, .pointer (some ⟨b, 0, none⟩)] w (Ret w (.bool (!p))) := by
  refine K_enter (S := []) (K := []) Tryz.func175 rfl Tryz.ntmps175 rfl (Sat.start _) ?_
  refine TW.seq fun Y1 hY1 => ?_
  refine TW.region ?_
  refine TL.p Pu.as ?_
  refine TL.nil ?_
  refine TQ.thenN (hY1 _ _ ?_)
  refine TW.seq fun Y2 hY2 => ?_
  refine TW.region ?_
  refine TL.p (by first | exact (Pu.ld ty_sc152) | exact (Pu.ldo ty_sc152)) ?_
  refine TL.p Pu.mv ?_
  refine TL.cv rfl rfl hen (fun w hw => by
      exact hg _ (Chg.ext hw.chg)) ?_
  refine TL.p Pu.no ?_
  refine TL.p Pu.as ?_
  refine TL.nil ?_
  refine TQ.thenN (hY2 _ _ ?_)
  refine TW.ret ?_
  refine TQ.ret Tryz.results175 rfl ((.tmp rfl .nil)) ?_
  exact fun w hw => Ret.of hw
theorem everyInt_any {g : FuncId} {fs cs : List Value} {A : Option Addr} {n cp : Nat} {v : Nat → Int} {p : Nat → Bool} {w : World} (hen : Enters Tryz.prog g) (hn : n ≤ 9223372036854775807)
    (hR : RdR w 1 A n (fun k => [.int .i64 (v k)])) (hg : ∀ k, k < n → ∀ w', Below w.heap.size w w' → Calls Tryz.prog g (fs ++ [Value.int .i64 (v k)] ++ cs).toArray w' (Ret w' (.bool (p k)))) :
    Calls Tryz.prog 165 #[.slice A n cp, .func (.func g) fs.toArray cs.toArray] w (Ret w (.bool (allB n p))) := by
  refine K_enter (S := []) (K := []) Tryz.func165 rfl Tryz.ntmps165 rfl (Sat.start _) ?_
  refine TW.seq fun Y1 hY1 => ?_
  refine TW.region ?_
  refine TL.m Mk.bx ?_
  intro b1
  refine TL.p Pu.as ?_
  refine TL.nil ?_
  refine TQ.thenN (hY1 _ _ ?_)
  refine TW.seq fun Y2 hY2 => ?_
  refine TW.region ?_
  refine TL.p Pu.mv ?_
  refine TL.p Pu.fn ?_
  refine TL.cr rfl (enters Tryz.func128 rfl rfl) (fun w hw => by
      have h1 := OldB.of_blk (hw.holds (.blk b1 152 [.func (.func g) fs.toArray cs.toArray]) (by simp))
      exact hasInt_any (fs := []) (v := v) (p := fun k => !p k) (enters Tryz.func175 rfl rfl) hn (hR.sat hw Apart.nil) fun k hk w' hb => everyInt1_any hen (h1.ext hb) fun w'' hb' => hg k hk w'' (((Chg.ext hw.chg).trans (hb.mono (Chg.ext hw.chg).size)).trans (hb'.mono (Nat.le_trans (Chg.ext hw.chg).size hb.size)))) ?_
  refine TL.p Pu.no ?_
  refine TL.p Pu.as ?_
  refine TL.nil ?_
  refine TQ.thenN (hY2 _ _ ?_)
  refine TW.ret ?_
  refine TQ.ret Tryz.results165 rfl ((.tmp rfl .nil)) ?_
  exact fun w hw => ⟨ret_bool (by rw [not_anyB]; simp), Chg.ext hw.chg⟩
theorem indexInts_any {g : FuncId} {fs cs : List Value} {A : Option Addr} {n cp : Nat} {v : Nat → Option Addr × Nat × Nat} {p : Nat → Bool} {M : Nat → List Fact} {w : World} (hen : Enters Tryz.prog g) (hn : n ≤ 9223372036854775807)
    (hR : RdR w 1 A n (fun k => [.slice (v k).1 (v k).2.1 (v k).2.2])) (hA : 0 < n → Apart (feet (M 0)) A) (hM : Sat (feet (M 0)) w (M 0) w) (hfe : ∀ k, feet (M k) = feet (M 0))
    (hg : ∀ k, k < n → (∀ j, j < k → p j = false) → ∀ w', Sat (feet (M 0)) w (M k) w' → CallsK Tryz.prog g (fs ++ [Value.slice (v k).1 (v k).2.1 (v k).2.2] ++ cs).toArray (M k) w' Unit (fun _ => .bool (p k)) (fun _ => M (k + 1))) :
    CallsK Tryz.prog 174 #[.slice A n cp, .func (.func g) fs.toArray cs.toArray] (M 0) w (Fst p n) (fun x => .int .i64 (if x.1 < n then (x.1 : Int) else -1)) (fun x => M (aft n x.1)) := by
  refine K_enter (S := feet (M 0)) (K := M 0) Tryz.func174 rfl Tryz.ntmps174 rfl hM ?_
  refine TW.seq fun Y1 hY1 => ?_
  refine TW.region ?_
  refine TL.p Pu.as ?_
  refine TL.nil ?_
  refine TQ.thenN (hY1 _ _ ?_)
  refine TW.seq fun Y2 hY2 => ?_
  refine TW.seq fun Y3 hY3 => ?_
  refine TW.region ?_
  refine TL.p Pu.mv ?_
  refine TL.p (Pu.ln Tryz.underlying113) ?_
  refine TL.p Pu.mv ?_
  refine TL.nil ?_
  refine TQ.thenN (hY3 _ _ ?_)
  refine TW.block ?_
  refine TW.loop1 (fun (k : Nat) => [(8, .int .i64 (k : Int)), (7, .int .i64 (n : Int)), (0, .slice A n cp), (1, .func (.func g) fs.toArray cs.toArray)]) (fun k => M k) (fun k => k ≤ n ∧ ∀ j, j < k → p j = false) (fun k => n - k) 0 fs9 ?_ ?_ ?_
  exact KSub.refl _
  exact ⟨by omega, fun j hj => by omega⟩
  rintro k ⟨hk, hall⟩ Z0 hZ0
  refine TW.seq fun Y4 hY4 => ?_
  refine TW.region ?_
  refine TL.p Pu.lt ?_
  refine TL.nil ?_
  refine TQ.thenN (hY4 _ _ ?_)
  refine TW.seq fun Y5 hY5 => ?_
  refine TW.cond rfl (fun hc0 => ?_) (fun hc0 => ?_)
  try simp only [decide_eq_true_eq, decide_eq_false_iff_not, Bool.not_eq_true', Bool.not_eq_false', Bool.and_eq_true, Bool.or_eq_true, Bool.and_eq_false_iff, Bool.or_eq_false_iff, Int.not_lt, Int.not_le] at hc0
  have hkn : k < n := by omega
  have hA := hA (by omega)
  refine TW.skip ?_
  refine TQ.thenN (hY5 _ _ ?_)
  refine TW.seq fun Y6 hY6 => ?_
  refine TW.block ?_
  refine TW.seq fun Y7 hY7 => ?_
  refine TW.region ?_
  refine TL.p Pu.mv ?_
  refine TL.p Pu.as ?_
  refine TL.nil ?_
  refine TQ.thenN (hY7 _ _ ?_)
  refine TW.seq fun Y8 hY8 => ?_
  refine TW.region ?_
  refine TL.p Pu.mv ?_
  refine TL.p Pu.mv ?_
  refine TL.p Pu.mv ?_
  refine TL.p (Pu.el ty_et113) ?_
  refine TL.p (Pu.ld ty_sc31) ?_
  refine TL.cvk rfl rfl hen (by rw [List.append_nil]) (fun w hw => by
      exact hg k (by omega) hall w hw) ?_
  intro _
  refine TL.nil ?_
  refine TQ.thenN (hY8 _ _ ?_)
  refine TW.cond rfl (fun hc1 => ?_) (fun hc1 => ?_)
  try simp only [decide_eq_true_eq, decide_eq_false_iff_not, Bool.not_eq_true', Bool.not_eq_false', Bool.and_eq_true, Bool.or_eq_true, Bool.and_eq_false_iff, Bool.or_eq_false_iff, Int.not_lt, Int.not_le] at hc1
  refine TW.seq fun Y9 hY9 => ?_
  refine TW.region ?_
  refine TL.p Pu.mv ?_
  refine TL.p Pu.as ?_
  refine TL.nil ?_
  refine TQ.thenN (hY9 _ _ ?_)
  refine TW.ret ?_
  refine TQ.blkR ?_
  refine TQ.thenR ?_
  refine TQ.thenR ?_
  refine TQ.blkR ?_
  refine TQ.thenR ?_
  refine TQ.ret Tryz.results174 rfl ((.tmp rfl .nil)) ?_
  exact fun w hw => ⟨⟨k, by omega, hall, fun _ => hc1⟩, by simp [hkn]; rfl, by simpa [aft, hkn] using hw⟩
  try simp only [decide_eq_true_eq, decide_eq_false_iff_not, Bool.not_eq_true', Bool.not_eq_false', Bool.and_eq_true, Bool.or_eq_true, Bool.and_eq_false_iff, Bool.or_eq_false_iff, Int.not_lt, Int.not_le] at hc1
  refine TW.skip ?_
  refine TQ.blkN ?_
  refine TQ.thenN (hY6 _ _ ?_)
  refine TW.region ?_
  refine TL.p Pu.ad ?_
  refine TL.p Pu.mv ?_
  refine TL.nil ?_
  refine TQ.thenN (hZ0 (k + 1) _ _ ?_ ?_ fs9 ?_)
  refine ⟨by omega, fun j hj => ?_⟩
  by_cases h : j = k
  subst h; exact hc1
  exact hall j (by omega)
  exact (by first | omega | (simp only []; omega) | (simp; omega))
  rw [List.append_nil]; exact KSub.refl _
  try simp only [decide_eq_true_eq, decide_eq_false_iff_not, Bool.not_eq_true', Bool.not_eq_false', Bool.and_eq_true, Bool.or_eq_true, Bool.and_eq_false_iff, Bool.or_eq_false_iff, Int.not_lt, Int.not_le] at hc0
  have hkn : k = n := by omega
  refine TW.exit ?_
  refine TQ.thenX ?_
  refine TQ.thenX ?_
  refine TQ.blkX ?_
  refine TQ.thenN (hY2 _ _ ?_)
  refine TW.seq fun Y10 hY10 => ?_
  refine TW.region ?_
  refine TL.p Pu.as ?_
  refine TL.nil ?_
  refine TQ.thenN (hY10 _ _ ?_)
  refine TW.ret ?_
  refine TQ.ret Tryz.results174 rfl ((.tmp rfl .nil)) ?_
  exact fun w hw => ⟨⟨k, by omega, hall, fun h => by omega⟩, by simp [hkn]; rfl, by simpa [aft, hkn] using hw⟩
theorem hasInts_st {g : FuncId} {fs cs : List Value} {A : Option Addr} {n cp : Nat} {v : Nat → Option Addr × Nat × Nat} {p : Nat → Bool} {M : Nat → List Fact} {w : World} (hen : Enters Tryz.prog g) (hn : n ≤ 9223372036854775807)
    (hR : RdR w 1 A n (fun k => [.slice (v k).1 (v k).2.1 (v k).2.2])) (hA : 0 < n → Apart (feet (M 0)) A) (hM : Sat (feet (M 0)) w (M 0) w) (hfe : ∀ k, feet (M k) = feet (M 0))
    (hg : ∀ k, k < n → (∀ j, j < k → p j = false) → ∀ w', Sat (feet (M 0)) w (M k) w' → CallsK Tryz.prog g (fs ++ [Value.slice (v k).1 (v k).2.1 (v k).2.2] ++ cs).toArray (M k) w' Unit (fun _ => .bool (p k)) (fun _ => M (k + 1))) :
    CallsK Tryz.prog 163 #[.slice A n cp, .func (.func g) fs.toArray cs.toArray] (M 0) w (Fst p n) (fun x => .bool (decide (x.1 < n))) (fun x => M (aft n x.1)) := by
  refine K_enter (S := feet (M 0)) (K := M 0) Tryz.func163 rfl Tryz.ntmps163 rfl hM ?_
  refine TW.seq fun Y1 hY1 => ?_
  refine TW.region ?_
  refine TL.p Pu.as ?_
  refine TL.nil ?_
  refine TQ.thenN (hY1 _ _ ?_)
  refine TW.seq fun Y2 hY2 => ?_
  refine TW.region ?_
  refine TL.p Pu.mv ?_
  refine TL.p Pu.mv ?_
  refine TL.call rfl (enters Tryz.func174 rfl rfl) (by rw [List.append_nil]) rfl (fun w hw => by
      exact indexInts_any hen hn (hR.sat0 hw hA) hA hw.self hfe (fun k hk hp w' hw' => hg k hk hp w' (hw'.from hw.chg fun _ hb => .inl hb))) ?_
  intro x
  refine TL.p Pu.ge ?_
  refine TL.p Pu.as ?_
  refine TL.nil ?_
  refine TQ.thenN (hY2 _ _ ?_)
  refine TW.ret ?_
  refine TQ.ret Tryz.results163 rfl ((.tmp rfl .nil)) ?_
  exact fun w hw => ⟨x, by by_cases h : x.1 < n <;> simp [retV, h], by simpa using hw⟩
theorem hasInts_any {g : FuncId} {fs cs : List Value} {A : Option Addr} {n cp : Nat} {v : Nat → Option Addr × Nat × Nat} {p : Nat → Bool} {w : World} (hen : Enters Tryz.prog g) (hn : n ≤ 9223372036854775807)
    (hR : RdR w 1 A n (fun k => [.slice (v k).1 (v k).2.1 (v k).2.2])) (hg : ∀ k, k < n → ∀ w', Below w.heap.size w w' → Calls Tryz.prog g (fs ++ [Value.slice (v k).1 (v k).2.1 (v k).2.2] ++ cs).toArray w' (Ret w' (.bool (p k)))) :
    Calls Tryz.prog 163 #[.slice A n cp, .func (.func g) fs.toArray cs.toArray] w (Ret w (.bool (anyB n p))) :=
  CallsK.retOf (hasInts_st (M := fun _ => []) hen hn hR (fun _ => Apart.nil) (Sat.start w) (fun _ => rfl) fun k hk _ w' hw' => CallsK.ret (hg k hk w' (Chg.ext hw'.chg))) fun x => by rw [x.any]; rfl
theorem everyInts1_any {g : FuncId} {fs cs : List Value} {b : Nat} {u : Option Addr × Nat × Nat} {p : Bool} {w : World} (hen : Enters Tryz.prog g) (hb : OldB w b [.func (.func g) fs.toArray cs.toArray])
    (hg : ∀ w', Below w.heap.size w w' → Calls Tryz.prog g (fs ++ [Value.slice u.1 u.2.1 u.2.2] ++ cs).toArray w' (Ret w' (.bool p))) :
    Calls Tryz.prog 164 #[Value.slice u.1 u.2.1 u.2.2, .pointer (some ⟨b, 0, none⟩)] w (Ret w (.bool (!p))) := by
  refine K_enter (S := []) (K := []) Tryz.func164 rfl Tryz.ntmps164 rfl (Sat.start _) ?_
  refine TW.seq fun Y1 hY1 => ?_
  refine TW.region ?_
  refine TL.p Pu.as ?_
  refine TL.nil ?_
  refine TQ.thenN (hY1 _ _ ?_)
  refine TW.seq fun Y2 hY2 => ?_
  refine TW.region ?_
  refine TL.p (by first | exact (Pu.ld ty_sc93) | exact (Pu.ldo ty_sc93)) ?_
  refine TL.p Pu.mv ?_
  refine TL.cv rfl rfl hen (fun w hw => by
      exact hg _ (Chg.ext hw.chg)) ?_
  refine TL.p Pu.no ?_
  refine TL.p Pu.as ?_
  refine TL.nil ?_
  refine TQ.thenN (hY2 _ _ ?_)
  refine TW.ret ?_
  refine TQ.ret Tryz.results164 rfl ((.tmp rfl .nil)) ?_
  exact fun w hw => Ret.of hw
theorem everyInts_any {g : FuncId} {fs cs : List Value} {A : Option Addr} {n cp : Nat} {v : Nat → Option Addr × Nat × Nat} {p : Nat → Bool} {w : World} (hen : Enters Tryz.prog g) (hn : n ≤ 9223372036854775807)
    (hR : RdR w 1 A n (fun k => [.slice (v k).1 (v k).2.1 (v k).2.2])) (hg : ∀ k, k < n → ∀ w', Below w.heap.size w w' → Calls Tryz.prog g (fs ++ [Value.slice (v k).1 (v k).2.1 (v k).2.2] ++ cs).toArray w' (Ret w' (.bool (p k)))) :
    Calls Tryz.prog 134 #[.slice A n cp, .func (.func g) fs.toArray cs.toArray] w (Ret w (.bool (allB n p))) := by
  refine K_enter (S := []) (K := []) Tryz.func134 rfl Tryz.ntmps134 rfl (Sat.start _) ?_
  refine TW.seq fun Y1 hY1 => ?_
  refine TW.region ?_
  refine TL.m Mk.bx ?_
  intro b1
  refine TL.p Pu.as ?_
  refine TL.nil ?_
  refine TQ.thenN (hY1 _ _ ?_)
  refine TW.seq fun Y2 hY2 => ?_
  refine TW.region ?_
  refine TL.p Pu.mv ?_
  refine TL.p Pu.fn ?_
  refine TL.cr rfl (enters Tryz.func163 rfl rfl) (fun w hw => by
      have h1 := OldB.of_blk (hw.holds (.blk b1 93 [.func (.func g) fs.toArray cs.toArray]) (by simp))
      exact hasInts_any (fs := []) (v := v) (p := fun k => !p k) (enters Tryz.func164 rfl rfl) hn (hR.sat hw Apart.nil) fun k hk w' hb => everyInts1_any hen (h1.ext hb) fun w'' hb' => hg k hk w'' (((Chg.ext hw.chg).trans (hb.mono (Chg.ext hw.chg).size)).trans (hb'.mono (Nat.le_trans (Chg.ext hw.chg).size hb.size)))) ?_
  refine TL.p Pu.no ?_
  refine TL.p Pu.as ?_
  refine TL.nil ?_
  refine TQ.thenN (hY2 _ _ ?_)
  refine TW.ret ?_
  refine TQ.ret Tryz.results134 rfl ((.tmp rfl .nil)) ?_
  exact fun w hw => ⟨ret_bool (by rw [not_anyB]; simp), Chg.ext hw.chg⟩
set_option maxRecDepth 100000 in
theorem tribes_any {A : Option Addr} {n cp : Nat} {v : Nat → Int} {w : World} (hn : n ≤ 1000) (hR : RdR w 1 A n (fun k => [.int .i64 (v k)])) :
    Calls Tryz.prog 135 #[.slice A n cp] w (Ret w (.bool (triOk v n))) := by
  refine K_enter (S := []) (K := []) Tryz.func135 rfl Tryz.ntmps135 rfl (Sat.start _) ?_
  refine TW.seq fun Y1 hY1 => ?_
  refine TW.region ?_
  refine TL.p Pu.as ?_
  refine TL.nil ?_
  refine TQ.thenN (hY1 _ _ ?_)
  refine TW.seq fun Y2 hY2 => ?_
  refine TW.join [(2, .bool ((allB n fun i => inB5 0 7 (v i)) && sortB v n && decide ((cmpL (toI v n)).length = n)))] ?_ (fun hJ1 => ?_)
  refine TQ.thenN (hY2 _ _ ?_)
  refine TW.ret ?_
  refine TQ.ret Tryz.results135 rfl ((.tmp rfl .nil)) ?_
  exact fun w hw => ⟨ret_bool tri_eq.symm, Chg.ext hw.chg⟩
  refine TW.region ?_
  refine TL.p Pu.mv ?_
  refine TL.cr rfl (enters Tryz.func165 rfl rfl) (fun w hw => by
      exact everyInt_any (fs := []) (cs := []) (v := v) (p := fun k => inB5 0 7 (v k)) (enters Tryz.func78 rfl rfl) (by omega) (hR.sat hw Apart.nil) fun k hk w' hb => tribe_any (v k) w') ?_
  refine TL.p Pu.mv ?_
  refine TL.guard (t := 5) rfl (fun hg1 => ?_) (fun hg1 => ?_)
  refine TL.gd Pu.mv ?_
  refine TL.cr rfl (enters Tryz.func166 rfl rfl) (fun w hw => by
      exact isSorted_any (by omega) (hR.sat hw Apart.nil)) ?_
  refine TL.p Pu.kt ?_
  refine TL.p Pu.mv ?_
  refine TL.guard (t := 9) rfl (fun hg2 => ?_) (fun hg2 => ?_)
  refine TL.gd Pu.mv ?_
  refine TL.gck rfl (enters Tryz.func88 rfl rfl) (fun w hw => by
      exact cloneI_any (v := v) (by omega) (hR.sat hw Apart.nil)) ?_
  rintro ⟨A9, c9⟩
  refine TL.gcm rfl (enters Tryz.func167 rfl rfl) (M := [.own A9 n c9 3 1 (iL (toI v n))]) (List.Perm.refl _) (fun w hw => compact_any (L := toI v n) toI_len.symm (by omega) (hw.holds (.own A9 n c9 3 1 (iL (toI v n))) (by simp))) ?_
  rintro ⟨⟩
  refine TL.gd (Pu.ln Tryz.underlying31) ?_
  refine TL.gd Pu.mv ?_
  refine TL.gd (Pu.ln Tryz.underlying31) ?_
  refine TL.gd Pu.eq ?_
  refine TL.p Pu.kt ?_
  refine TL.p Pu.as ?_
  refine TL.nil ?_
  exact TQ.sub (by repeat (first | exact trivial | refine ⟨rfl, ?_⟩ | refine ⟨trivial, ?_⟩ | refine ⟨(by show some (Value.bool _) = some (Value.bool _); first | (simp [hg1, hg2]; done) | (refine congrArg (fun z => some (Value.bool z)) (Bool.eq_iff_iff.2 ?_); simp [hg1, hg2]; omega)), ?_⟩)) ks9 hJ1
  refine TL.gs ?_
  refine TL.gs ?_
  refine TL.gs ?_
  refine TL.gs ?_
  refine TL.gs ?_
  refine TL.gs ?_
  refine TL.gs ?_
  refine TL.p Pu.kf ?_
  refine TL.p Pu.as ?_
  refine TL.nil ?_
  exact TQ.sub (by repeat (first | exact trivial | refine ⟨rfl, ?_⟩ | refine ⟨trivial, ?_⟩ | refine ⟨(by show some (Value.bool _) = some (Value.bool _); first | (simp [hg1, hg2]; done) | (refine congrArg (fun z => some (Value.bool z)) (Bool.eq_iff_iff.2 ?_); simp [hg1, hg2]; omega)), ?_⟩)) ks9 hJ1
  refine TL.gs ?_
  refine TL.gs ?_
  refine TL.p Pu.kf ?_
  refine TL.p Pu.mv ?_
  refine TL.gs ?_
  refine TL.gs ?_
  refine TL.gs ?_
  refine TL.gs ?_
  refine TL.gs ?_
  refine TL.gs ?_
  refine TL.gs ?_
  refine TL.p Pu.kf ?_
  refine TL.p Pu.as ?_
  refine TL.nil ?_
  exact TQ.sub (by repeat (first | exact trivial | refine ⟨rfl, ?_⟩ | refine ⟨trivial, ?_⟩ | refine ⟨(by show some (Value.bool _) = some (Value.bool _); first | (simp [hg1]; done) | (refine congrArg (fun z => some (Value.bool z)) (Bool.eq_iff_iff.2 ?_); simp [hg1]; omega)), ?_⟩)) ks9 hJ1
def sl3 (O : Option Addr) (no co : Nat) (U : Option Addr) (nu cu : Nat) (V : Option Addr) (nv cv : Nat) : Nat → Option Addr × Nat × Nat
  | 0 => (O, no, co)
  | 1 => (U, nu, cu)
  | _ => (V, nv, cv)
def tri3 (T : Trp) : Nat → Bool
  | 0 => triOk T.o T.no
  | 1 => triOk T.u T.nu
  | _ => triOk T.v T.nv
set_option maxRecDepth 100000 in
theorem cValid_any {T : Trp} {O U V : Option Addr} {co cu cv : Nat} {w : World} (h : TrpIn w T O U V) :
    Calls Tryz.prog 92 #[.agg (troopL T.hd T.wo O T.no co U T.nu cu V T.nv cv).toArray] w (Ret w (.bool (trpOk T))) := by
  have hno := h.hno
  have hnu := h.hnu
  have hnv := h.hnv
  unfold troopL
  refine K_enter (S := []) (K := []) Tryz.func92 rfl Tryz.ntmps92 rfl (Sat.start _) ?_
  refine TW.seq fun Y1 hY1 => ?_
  refine TW.region ?_
  refine TL.m Mk.bx ?_
  intro b1
  refine TL.p Pu.as ?_
  refine TL.nil ?_
  refine TQ.thenN (hY1 _ _ ?_)
  refine TW.seq fun Y2 hY2 => ?_
  refine TW.join [(2, .bool (inB5 1 1000 T.hd && inB5 0 1000000000000 T.wo && allB 3 (tri3 T)))] ?_ (fun hJ1 => ?_)
  refine TQ.thenN (hY2 _ _ ?_)
  refine TW.ret ?_
  refine TQ.ret Tryz.results92 rfl ((.tmp rfl .nil)) ?_
  exact fun w hw => ⟨ret_bool (by unfold trpOk; simp only [allB, List.range_succ, List.range_zero, List.nil_append, List.all_cons, List.all_append, List.all_nil, Bool.and_true, tri3, Bool.and_assoc]), Chg.ext hw.chg⟩
  refine TW.region ?_
  refine TL.p (by first | exact Pu.fb ty_fa33_0 | exact Pu.fe ty_fa33_0) ?_
  refine TL.p (Pu.ld ty_sc3) ?_
  refine TL.cr rfl (enters Tryz.func67 rfl rfl) (fun w hw => by
      exact in_any _ _ _ _) ?_
  refine TL.p Pu.mv ?_
  refine TL.guard (t := 6) rfl (fun hg1 => ?_) (fun hg1 => ?_)
  refine TL.gd (by first | exact Pu.fb ty_fa33_1 | exact Pu.fe ty_fa33_1) ?_
  refine TL.gd (Pu.ld ty_sc3) ?_
  refine TL.cr rfl (enters Tryz.func67 rfl rfl) (fun w hw => by
      exact in_any _ _ _ _) ?_
  refine TL.p Pu.kt ?_
  refine TL.p Pu.mv ?_
  refine TL.guard (t := 11) rfl (fun hg2 => ?_) (fun hg2 => ?_)
  refine TL.gd (by first | exact Pu.fb ty_fa33_2 | exact Pu.fe ty_fa33_2) ?_
  refine TL.gd (Pu.ld ty_sc31) ?_
  refine TL.gd (by first | exact Pu.fb ty_fa33_3 | exact Pu.fe ty_fa33_3) ?_
  refine TL.gd (Pu.ld ty_sc31) ?_
  refine TL.gd (by first | exact Pu.fb ty_fa33_4 | exact Pu.fe ty_fa33_4) ?_
  refine TL.gd (Pu.ld ty_sc31) ?_
  refine TL.gm Mk.bl ?_
  intro b2
  refine TL.cr rfl (enters Tryz.func134 rfl rfl) (fun w hw => by
      exact everyInts_any (fs := []) (cs := []) (n := 3) (v := sl3 O T.no co U T.nu cu V T.nv cv) (p := tri3 T) (enters Tryz.func135 rfl rfl) (by omega) (RdR.blk (cs := [.slice O T.no co, .slice U T.nu cu, .slice V T.nv cv]) (hw.holds _ (List.mem_cons_self ..)) rfl (fun _ _ => rfl)) fun k hk w' hb => by
        have hk3 : k = 0 ∨ k = 1 ∨ k = 2 := by omega
        have hx := h.ext ((Chg.ext hw.chg).trans (hb.mono (Chg.ext hw.chg).size))
        rcases hk3 with rfl | rfl | rfl
        exact tribes_any h.hno hx.hO
        exact tribes_any h.hnu hx.hU
        exact tribes_any h.hnv hx.hV) ?_
  refine TL.p Pu.kt ?_
  refine TL.p Pu.as ?_
  refine TL.nil ?_
  exact TQ.sub (by repeat (first | exact trivial | refine ⟨rfl, ?_⟩ | refine ⟨trivial, ?_⟩ | refine ⟨(by show some (Value.bool _) = some (Value.bool _); first | (simp [hg1, hg2]; done) | (refine congrArg (fun z => some (Value.bool z)) (Bool.eq_iff_iff.2 ?_); simp [hg1, hg2]; omega)), ?_⟩)) ks9 hJ1
  refine TL.gs ?_
  refine TL.gs ?_
  refine TL.gs ?_
  refine TL.gs ?_
  refine TL.gs ?_
  refine TL.gs ?_
  refine TL.gs ?_
  refine TL.gs ?_
  refine TL.p Pu.kf ?_
  refine TL.p Pu.as ?_
  refine TL.nil ?_
  exact TQ.sub (by repeat (first | exact trivial | refine ⟨rfl, ?_⟩ | refine ⟨trivial, ?_⟩ | refine ⟨(by show some (Value.bool _) = some (Value.bool _); first | (simp [hg1, hg2]; done) | (refine congrArg (fun z => some (Value.bool z)) (Bool.eq_iff_iff.2 ?_); simp [hg1, hg2]; omega)), ?_⟩)) ks9 hJ1
  refine TL.gs ?_
  refine TL.gs ?_
  refine TL.gs ?_
  refine TL.p Pu.kf ?_
  refine TL.p Pu.mv ?_
  refine TL.gs ?_
  refine TL.gs ?_
  refine TL.gs ?_
  refine TL.gs ?_
  refine TL.gs ?_
  refine TL.gs ?_
  refine TL.gs ?_
  refine TL.gs ?_
  refine TL.p Pu.kf ?_
  refine TL.p Pu.as ?_
  refine TL.nil ?_
  exact TQ.sub (by repeat (first | exact trivial | refine ⟨rfl, ?_⟩ | refine ⟨trivial, ?_⟩ | refine ⟨(by show some (Value.bool _) = some (Value.bool _); first | (simp [hg1]; done) | (refine congrArg (fun z => some (Value.bool z)) (Bool.eq_iff_iff.2 ?_); simp [hg1]; omega)), ?_⟩)) ks9 hJ1
end Go.Proofs.YtmonkjnfjgidbaaGreatDoor
namespace Go.Proofs.YtmonkjnfjgidbaaGreatDoor
set_option linter.all false
set_option linter.unusedVariables false
set_option linter.unusedSimpArgs false
open Go.RowKit
abbrev lgA (x : Leg) (a : Option Addr) (d : Nat) : Leg := ⟨x.u, a, x.n, d⟩
end Go.Proofs.YtmonkjnfjgidbaaGreatDoor
namespace Go.Proofs.YtmonkjnfjgidbaaGreatDoor
set_option linter.all false
set_option linter.unusedVariables false
set_option linter.unusedSimpArgs false
open Go.RowKit
theorem WK.perm {c : Cx} {Q : Exit → Act → World → Prop} {F : Fr} {K K2 : List Fact} {ops : Array Oper} {nf : Nat} {fl : List Fl} {bs : List Bool} {pend : List (Nat × Oper)} (hp : K.Perm K2) (h : WK c ops Q nf fl bs pend F K2) : WK c ops Q nf fl bs pend F K :=
  fun W N a w h2 h0 hF hK hN hb => h W N a w h2 h0 hF (hK.perm hp) (fun b hb' => hN b ((hp.flatMap_right Fact.foot).mem_iff.2 hb')) hb
section
variable {W A C D B : Option Addr} {nw nl nc nd nb : Nat} {f : Nat → Nat → Int} {x : Nat → Leg} {g : Nat → Nat → Nat → Int} {c : Nat → (Nat → Int) × Bool} {d b : Nat → Nat → Int} {w w0 : World} {S : List Nat} {K : List Fact}
theorem great_small {no nu nv : Nat} (h : great7 nw nl x nc nd nb no nu nv = false) : nw ≤ 20 ∧ nl ≤ 40 ∧ (∀ k, k < nl → (x k).n ≤ 20) ∧ nc ≤ 40 ∧ nd ≤ 30 ∧ nb ≤ 30 ∧ no ≤ 12 ∧ nu ≤ 12 ∧ nv ≤ 12 := by
  unfold great7 great3 at h
  simp only [Bool.or_eq_false_iff, decide_eq_false_iff_not, Int.not_lt] at h
  obtain ⟨⟨⟨⟨⟨⟨⟨⟨h1, h2⟩, h3⟩, h4⟩, h5⟩, h6⟩, h7⟩, h8⟩, h9⟩ := h
  refine ⟨by omega, by omega, fun k hk => ?_, by omega, by omega, by omega, by omega, by omega, by omega⟩
  unfold anyB at h3
  rw [List.any_eq_false] at h3
  have := h3 k (List.mem_range.2 hk)
  simp only [decide_eq_true_eq] at this
  omega
theorem OwnR.cap {A : Option Addr} {n cp : Nat} {E : TypeId} {sz : Nat} {r : Nat → List Value} (h : OwnR w A n cp E sz r) : n ≤ cp := by
  obtain ⟨A', c', e, h1, _⟩ := h.own.form
  cases e
  exact h1
variable {cw cl cc cd cb : Nat} {a : Nat → Option Addr} {e : Nat → Nat}
theorem tollHolder_tw (leg day : Int) (h : LandIn w W nw A nl f (fun k => lgA (x k) (a k) (e k)) g) (k : CustIn w C nc D nd B nb c d b) :
    Calls Tryz.prog 36 #[.agg (landL W nw cw A nl cl).toArray, .agg (custL C nc cc D nd cd B nb cb).toArray, .int .i64 leg, .int .i64 day] w (Ret w (.tuple #[.int .i64 (holdA (checkC nw nl f x g nc nd nb c d b) nl leg day (hb leg day c nc)), .int .i64 (holdE (checkC nw nl f x g nc nd nb c d b) nl leg day)])) := tollHolder_any (x := fun k => lgA (x k) (a k) (e k)) leg day h k
theorem tollDisputes_tw (h : LandIn w W nw A nl f (fun k => lgA (x k) (a k) (e k)) g) (k : CustIn w C nc D nd B nb c d b) (hcc : nc ≤ cc) :
    CallsK Tryz.prog 37 #[.agg (landL W nw cw A nl cl).toArray, .agg (custL C nc cc D nd cd B nb cb).toArray] [] w (Option Addr × Nat) (fun a => .tuple #[.slice a.1 (disL (checkC nw nl f x g nc nd nb c d b) nc c).length a.2, .int .i64 (checkC nw nl f x g nc nd nb c d b)]) (fun a => [.own a.1 (disL (checkC nw nl f x g nc nd nb c d b) nc c).length a.2 80 2 (rowsP (disL (checkC nw nl f x g nc nd nb c d b) nc c))]) := tollDisputes_any (x := fun k => lgA (x k) (a k) (e k)) h k hcc
end
end Go.Proofs.YtmonkjnfjgidbaaGreatDoor
namespace Go.Proofs.YtmonkjnfjgidbaaGreatDoor
set_option linter.all false
set_option linter.unusedVariables false
set_option linter.unusedSimpArgs false
open Go.RowKit
theorem clip_any {A : Option Addr} {n cp : Nat} (h : n ≤ cp) (w : World) : Calls Tryz.prog 133 #[.slice A n cp] w (Ret w (.slice A n n)) := by
  refine K_enter (S := []) (K := []) Tryz.func133 rfl Tryz.ntmps133 rfl (Sat.start _) ?_
  refine TW.seq fun Y1 hY1 => ?_
  refine TW.region ?_
  refine TL.p Pu.as ?_
  refine TL.nil ?_
  refine TQ.thenN (hY1 _ _ ?_)
  refine TW.seq fun Y2 hY2 => ?_
  refine TW.region ?_
  refine TL.p Pu.mv ?_
  refine TL.p Pu.mv ?_
  refine TL.p (Pu.ln Tryz.underlying31) ?_
  refine TL.p Pu.mv ?_
  refine TL.p (Pu.ln Tryz.underlying31) ?_
  refine TL.p (Pu.s3 ty_et31) ?_
  refine TL.p Pu.as ?_
  refine TL.nil ?_
  refine TQ.thenN (hY2 _ _ ?_)
  refine TW.ret ?_
  refine TQ.ret Tryz.results133 rfl ((.tmp rfl .nil)) ?_
  exact fun w hw => Ret.of hw
theorem clone_way {A : Option Addr} {cp : Nat} {way : List Int} {w : World} (hn : way.length ≤ 1000000000) (hR : RdR w 1 A way.length (iL way)) :
    CallsK Tryz.prog 88 #[.slice A way.length cp] [] w (Option Addr × Nat) (fun x => .slice x.1 way.length x.2) (fun x => [.own x.1 way.length x.2 3 1 (iL way)]) := by
  have h := cloneI_any (cp := cp) (v := fun k => way.getD k 0) hn hR
  rw [toI_getD] at h
  exact h
theorem more_any {A : Option Addr} {cp : Nat} {way : List Int} {x : Int} {w : World} (hn : way.length ≤ 100000000) (hR : RdR w 1 A way.length (iL way)) :
    CallsK Tryz.prog 91 #[.slice A way.length cp, .int .i64 x] [] w (Option Addr × Nat) (fun y => .slice y.1 (way ++ [x]).length y.2) (fun y => [.own y.1 (way ++ [x]).length y.2 3 1 (iL (way ++ [x]))]) := by
  have hl : (way ++ [x]).length = way.length + 1 := by rw [List.length_append]; rfl
  refine K_enter (S := []) (K := []) Tryz.func91 rfl Tryz.ntmps91 rfl (Sat.start _) ?_
  refine TW.seq fun Y1 hY1 => ?_
  refine TW.region ?_
  refine TL.p Pu.as ?_
  refine TL.nil ?_
  refine TQ.thenN (hY1 _ _ ?_)
  refine TW.seq fun Y2 hY2 => ?_
  refine TW.region ?_
  refine TL.p Pu.mv ?_
  refine TL.call (M := []) rfl (enters Tryz.func88 rfl rfl) (List.Perm.refl _) rfl (fun w hw => by
      exact clone_way (by omega) (hR.sat hw Apart.nil)) ?_
  rintro ⟨A1, c1⟩
  refine TL.cr rfl (enters Tryz.func133 rfl rfl) (fun w hw => by
      have hle := OwnR.cap (hw.holds (.own A1 way.length c1 3 1 (iL way)) (Pick.mem pk9))
      exact clip_any hle _) ?_
  refine TL.p Pu.mv ?_
  refine TL.m Mk.bl ?_
  intro b1
  refine TL.apF ty_et31 ?_
  intro A8 c8
  refine TL.p Pu.as ?_
  refine TL.nil ?_
  refine TQ.thenN (hY2 _ _ ?_)
  refine TW.ret ?_
  refine TQ.ret Tryz.results91 rfl ((.tmp rfl .nil)) ?_
  exact fun w hw => ⟨(A8, c8), by rw [hl]; rfl, by rw [hl]; exact hw.sub (KSub.own pk9 (iL_app rfl rfl rfl) KSub.nil)⟩
end Go.Proofs.YtmonkjnfjgidbaaGreatDoor
