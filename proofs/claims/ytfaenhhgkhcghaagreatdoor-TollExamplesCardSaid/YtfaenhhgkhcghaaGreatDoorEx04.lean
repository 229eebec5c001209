/-
  Part 4 of the proof of tollExamples_holds: declarations of several texts, in build order. No condition on a program.
-/
import Derived.Test.YtfaenhhgkhcghaaGreatDoorEx03
namespace Go.Proofs.YtfaenhhgkhcghaaGreatDoor
set_option linter.all false
set_option linter.unusedVariables false
set_option linter.unusedSimpArgs false
open Go.RowKit
def cmpL : List Int → List Int
  | [] => []
  | a :: l => match cmpL l with
    | [] => [a]
    | b :: m => if a = b then b :: m else a :: b :: m
theorem cmpL_mem {t : Int} : ∀ L : List Int, t ∈ cmpL L ↔ t ∈ L
 | [] => by simp [cmpL]
 | a :: l => by
  have ih := cmpL_mem (t := t) l
  simp only [cmpL]
  split
  · next h =>
    rw [h] at ih
    simp only [List.not_mem_nil, false_iff] at ih
    simp [ih]
  · next b m h =>
    rw [h] at ih
    split
    · next e =>
      subst e
      rw [ih]
      simp only [List.mem_cons] at ih ⊢
      exact ⟨fun h => .inr h, fun h => h.elim (fun e => ih.1 (.inl e)) id⟩
    · rw [List.mem_cons, ih, List.mem_cons]
theorem cmpL_cons (a b : Int) (m : List Int) : cmpL (a :: b :: m) = if a = b then cmpL (b :: m) else a :: cmpL (b :: m) := by
 have hd : ∃ r, cmpL (b :: m) = b :: r := by
  simp only [cmpL]
  split
  · exact ⟨_, rfl⟩
  · next c q _ =>
    split
    · next e => subst e; exact ⟨_, rfl⟩
    · exact ⟨_, rfl⟩
 obtain ⟨r, hr⟩ := hd
 rw [cmpL, hr]
theorem cmpL_le : ∀ L : List Int, (cmpL L).length ≤ L.length
 | [] => by simp [cmpL]
 | [a] => by simp [cmpL]
 | a :: b :: m => by
  have ih := cmpL_le (b :: m)
  rw [cmpL_cons]
  split
  · simp only [List.length_cons] at ih ⊢; omega
  · simp only [List.length_cons] at ih ⊢; omega
theorem cmpL_len : ∀ L : List Int, (cmpL L).length = L.length ↔ ∀ k, k + 1 < L.length → L.getD k 0 ≠ L.getD (k + 1) 0
 | [] => by simp [cmpL]
 | [a] => by simp [cmpL]
 | a :: b :: m => by
  have ih := cmpL_len (b :: m)
  have hl := cmpL_le (b :: m)
  rw [cmpL_cons]
  by_cases e : a = b
  · rw [if_pos e]
    constructor
    · intro h
      simp only [List.length_cons] at h hl
      omega
    · intro h
      exact absurd (by simpa using e) (h 0 (by simp))
  · rw [if_neg e, show (a :: cmpL (b :: m)).length = (cmpL (b :: m)).length + 1 from rfl, show (a :: b :: m).length = (b :: m).length + 1 from rfl]
    constructor
    · intro h k hk
      cases k with
      | zero => simpa using e
      | succ k =>
       have := ih.1 (by omega) k (by simp only [List.length_cons] at hk ⊢; omega)
       simpa using this
    · intro h
      have : (cmpL (b :: m)).length = (b :: m).length := ih.2 fun k hk => by
       have := h (k + 1) (by simp only [List.length_cons] at hk ⊢; omega)
       simpa using this
      omega
theorem cmpL_snoc {x y : Int} : ∀ P : List Int, P.getLast? = some y → cmpL (P ++ [x]) = if x = y then cmpL P else cmpL P ++ [x]
 | [], h => by cases h
 | [a], h => by
  have e : a = y := by simpa using h
  subst e
  show cmpL [a, x] = _
  rw [cmpL_cons]
  by_cases hx : x = a
  · rw [if_pos hx, if_pos hx.symm, hx]
  · rw [if_neg hx, if_neg (fun e => hx e.symm)]
    rfl
 | a :: b :: m, h => by
  have ih := cmpL_snoc (x := x) (y := y) (b :: m) (by simpa using h)
  show cmpL (a :: b :: (m ++ [x])) = _
  rw [cmpL_cons, cmpL_cons]
  have e : b :: (m ++ [x]) = (b :: m) ++ [x] := rfl
  rw [e, ih]
  by_cases hx : x = y
  · rw [if_pos hx, if_pos hx]
  · rw [if_neg hx, if_neg hx]
    split <;> rfl
theorem take_last {L : List Int} {k : Nat} (h : k < L.length) : (L.take (k + 1)).getLast? = some (L.getD k 0) := by
 rw [take_succ h, List.getLast?_append]
 simp
theorem cmp_take {L : List Int} {m : Nat} (h0 : 1 ≤ m) (h : m < L.length) : cmpL (L.take (m + 1)) = if L.getD m 0 = L.getD (m - 1) 0 then cmpL (L.take m) else cmpL (L.take m) ++ [L.getD m 0] := by
 rw [take_succ h]
 refine cmpL_snoc _ ?_
 have := take_last (L := L) (k := m - 1) (by omega)
 rwa [show m - 1 + 1 = m by omega] at this
theorem cmp_all {L : List Int} : ∀ m, m ≤ L.length → (∀ j, 1 ≤ j → j < m → L.getD j 0 ≠ L.getD (j - 1) 0) → cmpL (L.take m) = L.take m
 | 0, _, _ => by simp [cmpL]
 | 1, h, _ => by
  cases L with
  | nil => rfl
  | cons a l => rfl
 | m + 2, h, hn => by
  rw [cmp_take (by omega) (by omega), if_neg (hn (m + 1) (by omega) (by omega)), cmp_all (m + 1) (by omega) fun j h1 h2 => hn j h1 (by omega), ← take_succ (by omega)]
section
variable {c : Cx} {F : Fr} {K K' : List Fact} {d : Option Tmp} {ty : TypeId} {pos : String} {af : Array Edge} {g : Option (Nat × Bool)}
theorem Pu.elT {T E : TypeId} {sz bytes : Nat} {x y : Operand} {A : Option Addr} {n cp k q m cm : Nat} {r : Nat → List Value} {kk : IntKind} {i : Int} (hT : ElemT c.P T E sz bytes) (hkn : k + q < n) (hx : ev F x = some (.slice (slA A cp sz k) m cm) := by rfl) (hy : ev F y = some (.int kk i) := by rfl) (hk : i.toNat = q := by first | exact Int.toNat_natCast _ | rfl) (h0 : 0 ≤ i := by omega) (h1 : i < m := by omega)
    (hp : Pick K (.own A n cp E sz r) K' := by repeat (first | exact Pick.hd | apply Pick.tl)) : Pu c F K ⟨d, .indexAddr T x y, ty, pos, af, g⟩ (.pointer (elA A (k + q) sz 0)) := fun a w hF hK => by
  have ho : OwnR w A n cp E sz r := hK.holds _ hp.mem
  obtain ⟨b, cp', e0, hnc, _⟩ := ho.own.form1 (by omega)
  cases e0
  have e : elA (slA (some ⟨b, 0, none⟩) cp sz k) q sz 0 = elA (some ⟨b, 0, none⟩) (k + q) sz 0 := by
    unfold slA
    rw [if_neg (by omega)]
    simp only [elA, Option.map_some, add_plain]
    congr 2
    rw [Nat.add_mul]; omega
  rw [← e]
  have hc : Cells c K (elA (slA (some ⟨b, 0, none⟩) cp sz k) q sz 0) [] := by
    rw [e]
    exact Cells.own hp hkn SubL.nil
  exact Pu.elem hT hx hy hk h0 h1 hc a w hF hK
end
set_option maxRecDepth 100000 in
set_option maxHeartbeats 1000000 in
theorem compact_any {w : World} {A : Option Addr} {n cp : Nat} {L : List Int} (hn : n = L.length) (h1 : n ≤ 1000000) (h : OwnR w A n cp 3 1 (iL L)) :
    CallsK Tryz.prog 139 #[.slice A n cp] [.own A n cp 3 1 (iL L)] w Unit (fun _ => .slice A (cmpL L).length cp) (fun _ => [.own A (cmpL L).length cp 3 1 (iL (cmpL L))]) := by
  subst hn
  have hcp : L.length ≤ cp := by
    obtain ⟨A', c', e, h2, _⟩ := h.own.form
    cases e
    exact h2
  refine K_enter (S := feet [.own A L.length cp 3 1 (iL L)]) (K := [.own A L.length cp 3 1 (iL L)]) Tryz.func139 rfl Tryz.ntmps139 rfl (Sat.own1 h) ?_
  refine TW.seq fun Y1 hY1 => TW.region ?_
  refine TL.p Pu.as ?_
  refine TL.nil (TQ.thenN (hY1 _ _ ?_))
  refine TW.seq fun Y2 hY2 => ?_
  refine TW.seq fun Y3 hY3 => TW.region ?_
  refine TL.p Pu.mv ?_
  refine TL.p (Pu.ln Tryz.underlying31) ?_
  refine TL.p Pu.lt ?_
  refine TL.nil (TQ.thenN (hY3 _ _ ?_))
  refine TW.cond rfl (fun hc0 => ?_) (fun hc0 => ?_)
  try simp only [zcb9] at hc0
  have hc9 : cmpL L = L := by
    match L, hc0 with
    | [], _ => rfl
    | [a], _ => rfl
    | a :: b :: m, h9 => simp only [List.length_cons] at h9; omega
  refine TW.seq fun Y4 hY4 => TW.region ?_
  refine TL.p Pu.mv ?_
  refine TL.p Pu.as ?_
  refine TL.nil (TQ.thenN (hY4 _ _ ?_))
  refine TW.ret ?_
  refine TQ.thenR ?_
  refine TQ.ret Tryz.results139 rfl ((.tmp rfl .nil)) ?_
  exact fun w hw => ⟨(), by rw [hc9]; rfl, by rw [hc9]; exact hw.sub ks9⟩
  try simp only [zcb9] at hc0
  have h2 : 2 ≤ L.length := by omega
  refine TW.skip ?_
  refine TQ.thenN (hY2 _ _ ?_)
  refine TW.seq fun Y5 hY5 => ?_
  refine TW.seq fun Y6 hY6 => TW.region ?_
  refine TL.p Pu.as ?_
  refine TL.nil (TQ.thenN (hY6 _ _ ?_))
  refine TW.block ?_
  refine TW.loop1 (fun (k : Nat) => [(3, .int .i64 (k : Int)), (0, .slice A L.length cp)]) (fun k => [.own A L.length cp 3 1 (iL L)]) (fun k => 1 ≤ k ∧ k ≤ L.length ∧ ∀ j, 1 ≤ j → j < k → L.getD j 0 ≠ L.getD (j - 1) 0) (fun k => L.length - k) 1 fs9 ?_ ?_ ?_
  exact ks9
  exact ⟨Nat.le_refl _, by omega, fun j h1 h2 => by omega⟩
  rintro k ⟨hk1, hk, hno⟩ Z0 hZ0
  refine TW.seq fun Y7 hY7 => ?_
  refine TW.seq fun Y8 hY8 => TW.region ?_
  refine TL.p Pu.mv ?_
  refine TL.p Pu.mv ?_
  refine TL.p (Pu.ln Tryz.underlying31) ?_
  refine TL.p Pu.lt ?_
  refine TL.nil (TQ.thenN (hY8 _ _ ?_))
  refine TW.cond rfl (fun hc1 => ?_) (fun hc1 => ?_)
  try simp only [zcb9] at hc1
  have hkn : k < L.length := by omega
  refine TW.skip ?_
  refine TQ.thenN (hY7 _ _ ?_)
  refine TW.seq fun Y9 hY9 => ?_
  refine TW.block ?_
  refine TW.seq fun Y10 hY10 => ?_
  refine TW.dw 10 ?_
  refine RK.tk Pu.mv ?_
  refine RK.tk Pu.mv ?_
  refine RK.tk (Pu.el ty_et31) ?_
  refine RK.tk (Pu.ld ty_sc3) ?_
  refine RK.tk Pu.mv ?_
  refine RK.tk Pu.mv ?_
  refine RK.tk Pu.sb ?_
  refine RK.tk (Pu.el (q := k - 1) ty_et31 (hk := by omega)) ?_
  refine RK.tk (Pu.ld ty_sc3) ?_
  refine RK.tk Pu.eq ?_
  refine RK.ch [] ?_ trivial
  refine WK.n ?_
  refine TL.nil (TQ.thenN (hY10 _ _ ?_))
  refine TW.cond rfl (fun hc2 => ?_) (fun hc2 => ?_)
  try simp only [zcb9] at hc2
  have hdup : L.getD k 0 = L.getD (k - 1) 0 := by omega
  have hpre : cmpL (L.take (k + 1)) = L.take k := by rw [cmp_take hk1 hkn, if_pos hdup, cmp_all k hk hno]
  refine TW.seq fun Y11 hY11 => TW.region ?_
  refine TL.p Pu.mv ?_
  refine TL.p Pu.mv ?_
  refine TL.p (Pu.sf ty_et31) ?_
  refine TL.p Pu.as ?_
  refine TL.nil (TQ.thenN (hY11 _ _ ?_))
  refine TW.seq fun Y12 hY12 => ?_
  refine TW.seq fun Y13 hY13 => TW.region ?_
  refine TL.p Pu.as ?_
  refine TL.nil (TQ.thenN (hY13 _ _ ?_))
  refine TW.block ?_
  refine TW.loop3 (fun (j : Nat) (i : Nat) (u : Nat → Int) => [(5, .int .i64 (j : Int)), (3, .int .i64 (i : Int)), (4, .slice (slA A cp 1 k) (L.length - k) (cp - k)), (0, .slice A L.length cp)]) (fun j i u => [.own A L.length cp 3 1 (fun q => [.int .i64 (u q)])]) (fun j i u => 1 ≤ j ∧ k + j ≤ L.length ∧ i < k + j ∧ i = (cmpL (L.take (k + j))).length ∧ (∀ q, q < i → u q = (cmpL (L.take (k + j))).getD q 0) ∧ ∀ q, k + j ≤ q + 1 → q < L.length → u q = L.getD q 0) (fun j i u => L.length - j) 1 k (fun q => L.getD q 0) fs9 ?_ ?_ ?_
  exact ks9
  exact ⟨Nat.le_refl _, hkn, by omega, by rw [hpre, List.length_take]; omega, fun q hq => by rw [hpre]; simp [List.getD_eq_getElem?_getD, hq], fun q _ _ => rfl⟩
  rintro j i u ⟨hj1, hj, hij, hi, hu1, hu2⟩ Z1 hZ1
  refine TW.seq fun Y14 hY14 => ?_
  refine TW.seq fun Y15 hY15 => TW.region ?_
  refine TL.p Pu.mv ?_
  refine TL.p Pu.mv ?_
  refine TL.p (Pu.ln Tryz.underlying31) ?_
  refine TL.p Pu.lt ?_
  refine TL.nil (TQ.thenN (hY15 _ _ ?_))
  refine TW.cond rfl (fun hc3 => ?_) (fun hc3 => ?_)
  try simp only [zcb9] at hc3
  have hjn : k + j < L.length := by omega
  have hft := cmp_take (L := L) (m := k + j) (by omega) hjn
  have ha := hu2 (k + j) (by omega) hjn
  have hb := hu2 (k + (j - 1)) (by omega) (by omega)
  rw [← ha, show k + j - 1 = k + (j - 1) by omega, ← hb] at hft
  replace ha := hidT ha
  replace hb := hidT hb
  refine TW.skip ?_
  refine TQ.thenN (hY14 _ _ ?_)
  refine TW.seq fun Y16 hY16 => ?_
  refine TW.block ?_
  refine TW.seq fun Y17 hY17 => ?_
  refine TW.dw 10 ?_
  refine RK.tk Pu.mv ?_
  refine RK.tk Pu.mv ?_
  refine RK.tk (Pu.elT (n := L.length) (k := k) (q := j) ty_et31 hjn) ?_
  refine RK.tk (Pu.ld ty_sc3) ?_
  refine RK.tk Pu.mv ?_
  refine RK.tk Pu.mv ?_
  refine RK.tk Pu.sb ?_
  refine RK.tk (Pu.elT (n := L.length) (k := k) (q := j - 1) ty_et31 (by omega) (hk := by omega)) ?_
  refine RK.tk (Pu.ld ty_sc3) ?_
  refine RK.tk Pu.ne ?_
  refine RK.ch [] ?_ trivial
  refine WK.n ?_
  refine TL.nil (TQ.thenN (hY17 _ _ ?_))
  refine TW.cond rfl (fun hc4 => ?_) (fun hc4 => ?_)
  try simp only [zcb9] at hc4
  rw [if_neg hc4] at hft
  obtain ⟨i', hi'⟩ : ∃ y : Nat, y = i + 1 := ⟨_, rfl⟩
  obtain ⟨u', hu'⟩ : ∃ y : Nat → Int, y = fun q => if q = i then u (k + j) else u q := ⟨_, rfl⟩
  have s1 : i' = (cmpL (L.take (k + (j + 1)))).length := by rw [show k + (j + 1) = k + j + 1 by omega, hft, List.length_append, ← hi, hi']; rfl
  have s2 : ∀ q, q < i' → u' q = (cmpL (L.take (k + (j + 1)))).getD q 0 := fun q hq => by
    rw [show k + (j + 1) = k + j + 1 by omega, hft, getD_app, ← hi, hu']
    by_cases h9 : q = i
    subst h9; simp
    simp only [if_neg h9]; rw [if_pos (by omega)]; exact hu1 q (by omega)
  have s3 : ∀ q, k + (j + 1) ≤ q + 1 → q < L.length → u' q = L.getD q 0 := fun q h7 h8 => by
    rw [hu']; simp only []; rw [if_neg (by omega)]; exact hu2 q (by omega) h8
  refine TW.seq fun Y18 hY18 => TW.region ?_
  refine TL.p Pu.mv ?_
  refine TL.p Pu.mv ?_
  refine TL.p Pu.mv ?_
  refine TL.p Pu.mv ?_
  refine TL.p (Pu.elT (n := L.length) (k := k) (q := j) ty_et31 hjn) ?_
  refine TL.p (Pu.ld ty_sc3) ?_
  refine TL.p (Pu.el ty_et31) ?_
  first | refine TL.st ty_sz3 ?_ | refine TL.se ty_sz3 ?_
  refine TL.nil (TQ.thenN (hY18 _ _ ?_))
  refine TW.region ?_
  refine TL.p Pu.mv ?_
  refine TL.p Pu.ad ?_
  refine TL.p Pu.as ?_
  refine TL.nil ?_
  refine TQ.blkN ?_
  refine TQ.thenN (hY16 _ _ ?_)
  refine TW.region ?_
  refine TL.p Pu.mv ?_
  refine TL.p Pu.ad ?_
  refine TL.p Pu.as ?_
  refine TL.nil ?_
  refine TQ.thenN (hZ1 (j + 1) i' u' _ _ ?_ ?_ (by refine ⟨rfl, ⟨congrArg (fun z => some (Value.int .i64 z)) (by omega), ?_⟩⟩; repeat (first | exact trivial | refine ⟨rfl, ?_⟩ | refine ⟨trivial, ?_⟩)) ?_)
  exact ⟨by omega, by omega, by omega, s1, s2, s3⟩
  exact zom9
  refine KSub.own Pick.hd (fun q _ => ?_) KSub.nil
  subst hu'
  first
    | rfl
    | (simp only [updR]; by_cases h9 : q = i <;> simp [h9])
  try simp only [zcb9] at hc4
  rw [if_pos (Decidable.not_not.1 (by simpa using hc4))] at hft
  obtain ⟨i', hi'⟩ : ∃ y : Nat, y = i := ⟨_, rfl⟩
  obtain ⟨u', hu'⟩ : ∃ y : Nat → Int, y = u := ⟨_, rfl⟩
  have s1 : i' = (cmpL (L.take (k + (j + 1)))).length := by rw [show k + (j + 1) = k + j + 1 by omega, hft, ← hi, hi']
  have s2 : ∀ q, q < i' → u' q = (cmpL (L.take (k + (j + 1)))).getD q 0 := fun q hq => by rw [show k + (j + 1) = k + j + 1 by omega, hft, hu']; exact hu1 q (by omega)
  have s3 : ∀ q, k + (j + 1) ≤ q + 1 → q < L.length → u' q = L.getD q 0 := fun q h7 h8 => by rw [hu']; exact hu2 q (by omega) h8
  refine TW.skip ?_
  refine TQ.blkN ?_
  refine TQ.thenN (hY16 _ _ ?_)
  refine TW.region ?_
  refine TL.p Pu.mv ?_
  refine TL.p Pu.ad ?_
  refine TL.p Pu.as ?_
  refine TL.nil ?_
  refine TQ.thenN (hZ1 (j + 1) i' u' _ _ ?_ ?_ (by refine ⟨rfl, ⟨congrArg (fun z => some (Value.int .i64 z)) (by omega), ?_⟩⟩; repeat (first | exact trivial | refine ⟨rfl, ?_⟩ | refine ⟨trivial, ?_⟩)) ?_)
  exact ⟨by omega, by omega, by omega, s1, s2, s3⟩
  exact zom9
  refine KSub.own Pick.hd (fun q _ => ?_) KSub.nil
  subst hu'
  first
    | rfl
    | (simp only [updR]; by_cases h9 : q = i <;> simp [h9])
  try simp only [zcb9] at hc3
  have hfin : k + j = L.length := by omega
  rw [hfin, List.take_length] at hi hu1
  refine TW.exit ?_
  refine TQ.thenX ?_
  refine TQ.thenX ?_
  refine TQ.blkX ?_
  refine TQ.thenN (hY12 _ _ ?_)
  refine TW.seq fun Y19 hY19 => TW.region ?_
  refine TL.p Pu.mv ?_
  refine TL.p Pu.mv ?_
  refine TL.p (Pu.sf ty_et31) ?_
  refine TL.clr (q := i) (z := .int .i64 0) ty_et31 Tryz.zeroValue3 rfl rfl ?_
  refine TL.nil (TQ.thenN (hY19 _ _ ?_))
  refine TW.seq fun Y20 hY20 => TW.region ?_
  refine TL.p Pu.mv ?_
  refine TL.p Pu.mv ?_
  refine TL.take (m := i) Pick.hd (by omega) ?_
  refine TL.p (Pu.sh ty_et31) ?_
  refine TL.p Pu.as ?_
  refine TL.nil (TQ.thenN (hY20 _ _ ?_))
  refine TW.ret ?_
  refine TQ.blkR ?_
  refine TQ.thenR ?_
  refine TQ.thenR ?_
  refine TQ.blkR ?_
  refine TQ.thenR ?_
  refine TQ.ret Tryz.results139 rfl ((.tmp rfl .nil)) ?_
  exact fun w hw => ⟨(), by rw [← hi]; rfl, by
    rw [← hi]
    exact hw.sub (KSub.own Pick.hd (fun q hq => by rw [if_pos hq, hu1 q hq]; rfl) KSub.nil)⟩
  try simp only [zcb9] at hc2
  have hdup : L.getD k 0 ≠ L.getD (k - 1) 0 := by omega
  refine TW.skip ?_
  refine TQ.blkN ?_
  refine TQ.thenN (hY9 _ _ ?_)
  refine TW.region ?_
  refine TL.p Pu.mv ?_
  refine TL.p Pu.ad ?_
  refine TL.p Pu.as ?_
  refine TL.nil ?_
  refine TQ.thenN (hZ0 (k + 1) _ _ ?_ ?_ fs9 ?_)
  exact ⟨by omega, by omega, fun j h1 h2 => (Nat.lt_succ_iff_lt_or_eq.1 h2).elim (hno j h1) (fun e => e ▸ hdup)⟩
  exact zom9
  exact ks9
  try simp only [zcb9] at hc1
  have hc9 : cmpL L = L := by
    have := cmp_all (L := L) L.length (Nat.le_refl _) (fun j h1 h2 => hno j h1 (by omega))
    rwa [List.take_length] at this
  refine TW.exit ?_
  refine TQ.thenX ?_
  refine TQ.thenX ?_
  refine TQ.blkX ?_
  refine TQ.thenN (hY5 _ _ ?_)
  refine TW.seq fun Y21 hY21 => TW.region ?_
  refine TL.p Pu.mv ?_
  refine TL.p Pu.as ?_
  refine TL.nil (TQ.thenN (hY21 _ _ ?_))
  refine TW.ret ?_
  refine TQ.ret Tryz.results139 rfl ((.tmp rfl .nil)) ?_
  exact fun w hw => ⟨(), by rw [hc9]; rfl, by rw [hc9]; exact hw.sub ks9⟩
end Go.Proofs.YtfaenhhgkhcghaaGreatDoor
namespace Go.Proofs.YtfaenhhgkhcghaaGreatDoor
set_option linter.all false
set_option linter.unusedVariables false
set_option linter.unusedSimpArgs false
set_option linter.all false
set_option linter.unusedVariables false
set_option linter.unusedSimpArgs false
def prsL (f g : Nat → Int) : Nat → List Int
 | 0 => []
 | k + 1 => prsL f g k ++ [f k, g k]
theorem prs_len {f g : Nat → Int} : ∀ k, (prsL f g k).length = 2 * k
 | 0 => rfl
 | k + 1 => by simp only [prsL, List.length_append, List.length_cons, List.length_nil, prs_len k]; omega
def rulL (lo : Int) (nc nd nb : Nat) (c : Nat → (Nat → Int) × Bool) (d b : Nat → Nat → Int) : List Int :=
 ((([lo] : List Int) ++ prsL (fun k => (c k).1 2) (fun k => (c k).1 3 + 1) nc) ++ prsL (fun k => d k 2) (fun k => d k 3 + 1) nd) ++ prsL (fun k => b k 1) (fun k => b k 2 + 1) nb
theorem rul_len {lo : Int} {nc nd nb : Nat} {c : Nat → (Nat → Int) × Bool} {d b : Nat → Nat → Int} : (rulL lo nc nd nb c d b).length = 1 + 2 * nc + 2 * nd + 2 * nb := by
 simp only [rulL, List.length_append, prs_len, List.length_cons, List.length_nil]
theorem rul_lo {lo : Int} {nc nd nb : Nat} {c : Nat → (Nat → Int) × Bool} {d b : Nat → Nat → Int} : lo ∈ rulL lo nc nd nb c d b := by simp [rulL]
def tuK (lo hi : Int) (v : Nat → Int) : Nat → List Int
 | 0 => []
 | k + 1 => if (inB5 lo hi (v k) && !(tuK lo hi v k).contains (v k)) = true then tuK lo hi v k ++ [v k] else tuK lo hi v k
theorem tu_mem {lo hi t : Int} {v : Nat → Int} : ∀ k, t ∈ tuK lo hi v k ↔ inB5 lo hi t = true ∧ ∃ j, j < k ∧ v j = t
  | 0 => by simp [tuK]
  | k + 1 => by
    have ih := tu_mem (lo := lo) (hi := hi) (t := t) (v := v) k
    have hx : (∃ j, j < k + 1 ∧ v j = t) ↔ (∃ j, j < k ∧ v j = t) ∨ v k = t :=
      ⟨fun ⟨j, hj, e⟩ => by
        by_cases h : j < k
        · exact .inl ⟨j, h, e⟩
        · obtain rfl : j = k := by omega
          exact .inr e, fun h => h.elim (fun ⟨j, hj, e⟩ => ⟨j, by omega, e⟩) (fun e => ⟨k, by omega, e⟩)⟩
    simp only [tuK]
    rw [hx]
    split
    · next h =>
      simp only [Bool.and_eq_true] at h
      rw [List.mem_append, List.mem_singleton, ih]
      constructor
      · rintro (⟨h1, h2⟩ | rfl)
        · exact ⟨h1, .inl h2⟩
        · exact ⟨h.1, .inr rfl⟩
      · rintro ⟨h1, h2 | rfl⟩
        · exact .inl ⟨h1, h2⟩
        · exact .inr rfl
    · next h =>
      rw [ih]
      constructor
      · rintro ⟨h1, h2⟩
        exact ⟨h1, .inl h2⟩
      · rintro ⟨h1, h2 | rfl⟩
        · exact ⟨h1, h2⟩
        · rw [h1] at h
          simp only [Bool.true_and, Bool.not_eq_true', Bool.not_eq_false] at h
          exact ih.1 (by simpa using h)
def cdL (lo hi : Int) (L : List Int) : List Int := (cmpL (srt L)).filter (inB5 lo hi)
theorem cd_mem {lo hi t : Int} {L : List Int} : t ∈ cdL lo hi L ↔ inB5 lo hi t = true ∧ t ∈ L := by
 unfold cdL
 rw [List.mem_filter, cmpL_mem, (srt_perm L).mem_iff, and_comm]
theorem tu_cd {lo hi t : Int} {L : List Int} : t ∈ tuK lo hi (fun k => L.getD k 0) L.length ↔ t ∈ cdL lo hi L := by
 rw [tu_mem, cd_mem]
 refine and_congr_right fun _ => ⟨fun ⟨j, hj, e⟩ => ?_, fun h => ?_⟩
 · rw [← e]; simp [List.getD_eq_getElem?_getD, hj]
 · obtain ⟨j, hj, e⟩ := List.mem_iff_getElem.1 h
   exact ⟨j, hj, by simp [List.getD_eq_getElem?_getD, hj, e]⟩
def wrK (f : Int → Int) : List Int → Int → Int
 | [], a => a
 | t :: L, a => wrK f L (if 0 < f t ∧ (a = 0 ∨ f t < a) then f t else a)
def wcK (f : Int → Int) : List Int → Int → Int
 | [], a => a
 | t :: L, a => wcK f L (if f t = 0 then a else min a (f t))
theorem wr_spec {f : Int → Int} (hf : ∀ t, 0 ≤ f t) : ∀ (L : List Int) (a : Int), 0 ≤ a →
    (wrK f L a = 0 ∧ a = 0 ∧ ∀ t ∈ L, f t = 0) ∨ (0 < wrK f L a ∧ (wrK f L a = a ∨ ∃ t ∈ L, f t = wrK f L a) ∧ (a = 0 ∨ wrK f L a ≤ a) ∧ ∀ t ∈ L, 0 < f t → wrK f L a ≤ f t)
  | [], a, ha => by
    simp only [wrK]
    by_cases h : a = 0
    · exact .inl ⟨h, h, by simp⟩
    · exact .inr ⟨by omega, .inl trivial, .inr (by omega), by simp⟩
  | x :: L, a, ha => by
    have hx := hf x
    simp only [wrK]
    by_cases h : 0 < f x ∧ (a = 0 ∨ f x < a)
    · rw [if_pos h]
      rcases wr_spec hf L (f x) (by omega) with ⟨h1, h2, h3⟩ | ⟨h1, h2, h3, h4⟩
      · omega
      · refine .inr ⟨h1, ?_, by omega, ?_⟩
        · rcases h2 with h2 | ⟨t, ht, e⟩
          · exact .inr ⟨x, List.mem_cons_self .., h2.symm⟩
          · exact .inr ⟨t, List.mem_cons_of_mem _ ht, e⟩
        · intro t ht hp
          rcases List.mem_cons.1 ht with rfl | ht
          · omega
          · exact h4 t ht hp
    · rw [if_neg h]
      rcases wr_spec hf L a ha with ⟨h1, h2, h3⟩ | ⟨h1, h2, h3, h4⟩
      · refine .inl ⟨h1, h2, fun t ht => ?_⟩
        rcases List.mem_cons.1 ht with rfl | ht
        · omega
        · exact h3 t ht
      · refine .inr ⟨h1, ?_, h3, ?_⟩
        · rcases h2 with h2 | ⟨t, ht, e⟩
          · exact .inl h2
          · exact .inr ⟨t, List.mem_cons_of_mem _ ht, e⟩
        · intro t ht hp
          rcases List.mem_cons.1 ht with rfl | ht
          · omega
          · exact h4 t ht hp
theorem wc_spec {f : Int → Int} (hf : ∀ t, 0 ≤ f t ∧ f t ≤ 3) : ∀ (L : List Int) (a : Int), (a = 255 ∨ 0 < a ∧ a ≤ 3) →
    (wcK f L a = 255 ∧ a = 255 ∧ ∀ t ∈ L, f t = 0) ∨ (0 < wcK f L a ∧ wcK f L a ≤ 3 ∧ (wcK f L a = a ∨ ∃ t ∈ L, f t = wcK f L a) ∧ wcK f L a ≤ a ∧ ∀ t ∈ L, 0 < f t → wcK f L a ≤ f t)
  | [], a, ha => by
    simp only [wcK]
    rcases ha with h | h
    · exact .inl ⟨h, h, by simp⟩
    · exact .inr ⟨by omega, by omega, .inl trivial, by omega, by simp⟩
  | x :: L, a, ha => by
    have hx := hf x
    simp only [wcK]
    by_cases h : f x = 0
    · rw [if_pos h]
      rcases wc_spec hf L a ha with ⟨h1, h2, h3⟩ | ⟨h1, h0, h2, h3, h4⟩
      · refine .inl ⟨h1, h2, fun t ht => ?_⟩
        rcases List.mem_cons.1 ht with rfl | ht
        · omega
        · exact h3 t ht
      · refine .inr ⟨h1, h0, ?_, h3, ?_⟩
        · rcases h2 with h2 | ⟨t, ht, e⟩
          · exact .inl h2
          · exact .inr ⟨t, List.mem_cons_of_mem _ ht, e⟩
        · intro t ht hp
          rcases List.mem_cons.1 ht with rfl | ht
          · omega
          · exact h4 t ht hp
    · rw [if_neg h]
      rcases wc_spec hf L (min a (f x)) (by omega) with ⟨h1, h2, h3⟩ | ⟨h1, h0, h2, h3, h4⟩
      · omega
      · refine .inr ⟨h1, h0, ?_, by omega, ?_⟩
        · rcases h2 with h2 | ⟨t, ht, e⟩
          · by_cases ha2 : a ≤ f x
            · exact .inl (by omega)
            · exact .inr ⟨x, List.mem_cons_self .., by omega⟩
          · exact .inr ⟨t, List.mem_cons_of_mem _ ht, e⟩
        · intro t ht hp
          rcases List.mem_cons.1 ht with rfl | ht
          · omega
          · exact h4 t ht hp
theorem why_same {f : Int → Int} {L M : List Int} (hf : ∀ t, 0 ≤ f t ∧ f t ≤ 3) (h : ∀ t, t ∈ L ↔ t ∈ M) :
    (if wcK f L 255 = 255 then 0 else wcK f L 255) = wrK f M 0 := by
  rcases wc_spec hf L 255 (.inl rfl) with ⟨h1, _, h3⟩ | ⟨h1, h0, h2, _, h4⟩ <;>
  rcases wr_spec (fun t => (hf t).1) M 0 (by omega) with ⟨k1, _, k3⟩ | ⟨k1, k2, _, k4⟩
  · rw [if_pos h1, k1]
  · obtain ⟨t, ht, e⟩ := k2.resolve_left (by omega)
    have := h3 t ((h t).2 ht)
    omega
  · obtain ⟨t, ht, e⟩ := h2.resolve_left (by omega)
    have := k3 t ((h t).1 ht)
    omega
  · obtain ⟨t, ht, e⟩ := h2.resolve_left (by omega)
    obtain ⟨s, hs, e2⟩ := k2.resolve_left (by omega)
    have a := k4 t ((h t).1 ht) (by omega)
    have b := h4 s ((h s).2 hs) (by omega)
    rw [if_neg (by omega)]
    omega
def Lst1 (L : List Int) (r : Int) : Prop := r ∈ L ∧ ∀ t ∈ L, r ≤ t
def Mst1 (L : List Int) (r : Int) : Prop := r ∈ L ∧ ∀ t ∈ L, t ≤ r
theorem Lst1.eq {L M : List Int} {r s : Int} (h : ∀ t, t ∈ L ↔ t ∈ M) (a : Lst1 L r) (b : Lst1 M s) : r = s := by
 have h1 := a.2 s ((h s).2 b.1)
 have h2 := b.2 r ((h r).1 a.1)
 omega
theorem Mst1.eq {L M : List Int} {r s : Int} (h : ∀ t, t ∈ L ↔ t ∈ M) (a : Mst1 L r) (b : Mst1 M s) : r = s := by
 have h1 := a.2 s ((h s).2 b.1)
 have h2 := b.2 r ((h r).1 a.1)
 omega
def gtL (who : Int → Bool) (f : Int → Int) (D : List Int) : List Int := (D.filter who).map f
def gotL (who : Int → Bool) (f : Int → Int) (D : List Int) : List Int := if (gtL who f D).length < D.length then gtL who f D ++ [0] else gtL who f D
def onW (who : Int → Bool) (f : Int → Int) (t : Int) : Int := if who t = true then f t else 0
theorem gt_lt {who : Int → Bool} {f : Int → Int} {D : List Int} : (gtL who f D).length < D.length ↔ ∃ t ∈ D, who t = false := by
 unfold gtL
 rw [List.length_map]
 constructor
 · intro h
   refine Classical.byContradiction fun hn => ?_
   have : D.filter who = D := List.filter_eq_self.2 fun t ht => by
    cases e : who t
    · exact absurd ⟨t, ht, e⟩ hn
    · rfl
   rw [this] at h
   omega
 · rintro ⟨t, ht, e⟩
   have h1 := List.length_filter_le who D
   refine Nat.lt_of_le_of_ne h1 fun h2 => ?_
   have := (List.length_filter_eq_length_iff.1 h2) t ht
   rw [e] at this
   cases this
theorem got_mem {who : Int → Bool} {f : Int → Int} {D : List Int} {x : Int} : x ∈ gotL who f D ↔ x ∈ D.map (onW who f) := by
 have h0 : ∀ x, x ∈ gtL who f D ↔ ∃ t ∈ D, who t = true ∧ f t = x := by
   intro x
   simp only [gtL, List.mem_map, List.mem_filter]
   exact ⟨fun ⟨t, ⟨a, b⟩, e⟩ => ⟨t, a, b, e⟩, fun ⟨t, a, b, e⟩ => ⟨t, ⟨a, b⟩, e⟩⟩
 rw [List.mem_map]
 unfold gotL
 split
 · next h =>
   obtain ⟨s, hs, es⟩ := gt_lt.1 h
   rw [List.mem_append, List.mem_singleton, h0]
   constructor
   · rintro (⟨t, ht, hw, e⟩ | rfl)
     · exact ⟨t, ht, by simp [onW, hw, e]⟩
     · exact ⟨s, hs, by simp [onW, es]⟩
   · rintro ⟨t, ht, e⟩
     cases hw : who t
     · exact .inr (by simpa [onW, hw] using e.symm)
     · exact .inl ⟨t, ht, hw, by simpa [onW, hw] using e⟩
 · next h =>
   rw [h0]
   constructor
   · rintro ⟨t, ht, hw, e⟩
     exact ⟨t, ht, by simp [onW, hw, e]⟩
   · rintro ⟨t, ht, e⟩
     cases hw : who t
     · exact absurd (gt_lt.2 ⟨t, ht, hw⟩) h
     · exact ⟨t, ht, hw, by simpa [onW, hw] using e⟩
end Go.Proofs.YtfaenhhgkhcghaaGreatDoor
namespace Go.Proofs.YtfaenhhgkhcghaaGreatDoor
set_option linter.all false
set_option linter.unusedVariables false
set_option linter.unusedSimpArgs false
set_option linter.all false
set_option linter.unusedVariables false
set_option linter.unusedSimpArgs false
def triOk (v : Nat → Int) (n : Nat) : Bool := allB n fun i => inB5 0 7 (v i) && (decide (i = 0) || decide (v (i - 1) < v i))
def sortB (v : Nat → Int) (n : Nat) : Bool := allB n fun i => decide (i = 0) || !decide (v i < v (i - 1))
theorem tri_eq {v : Nat → Int} {n : Nat} : ((allB n fun i => inB5 0 7 (v i)) && sortB v n && decide ((cmpL (toI v n)).length = n)) = triOk v n := by
  have hc : (cmpL (toI v n)).length = n ↔ ∀ k, k + 1 < n → v k ≠ v (k + 1) := by
    have := cmpL_len (toI v n)
    rw [toI_len] at this
    rw [this]
    exact ⟨fun h k hk => by have := h k hk; rwa [toI_get (by omega), toI_get (by omega)] at this, fun h k hk => by rw [toI_get (by omega), toI_get (by omega)]; exact h k hk⟩
  rw [Bool.eq_iff_iff]
  simp only [Bool.and_eq_true, decide_eq_true_eq, hc, sortB, triOk, allB_iff, Bool.or_eq_true, Bool.not_eq_true', decide_eq_false_iff_not]
  constructor
  · rintro ⟨⟨h1, h2⟩, h3⟩ i hi
    refine ⟨h1 i hi, ?_⟩
    cases i with
    | zero => exact .inl rfl
    | succ i =>
      have a := (h2 (i + 1) hi).resolve_left (by omega)
      have b := h3 i hi
      simp only [Nat.add_sub_cancel] at a ⊢
      omega
  · intro h
    refine ⟨⟨fun i hi => (h i hi).1, fun i hi => ?_⟩, fun k hk => ?_⟩
    · rcases (h i hi).2 with a | a
      · exact .inl a
      · exact .inr (by omega)
    · have := (h (k + 1) hk).2.resolve_left (by omega)
      simp only [Nat.add_sub_cancel] at this
      omega
def exB (n : Nat) (p : Nat → Bool) : Bool := !(allB n fun k => !p k)
theorem exB_iff {n : Nat} {p : Nat → Bool} : exB n p = true ↔ ∃ k, k < n ∧ p k = true := by
 unfold exB
 rw [Bool.not_eq_true', Bool.eq_false_iff, Ne, allB_iff]
 constructor
 · intro h
   refine Classical.byContradiction fun hn => h fun i hi => ?_
   cases e : p i
   · rfl
   · exact absurd ⟨i, hi, e⟩ hn
 · rintro ⟨k, hk, e⟩ h
   have := h k hk
   rw [e] at this
   cases this
def feuC (na : Nat) (a : Nat → Int) (tribe day : Int) (d : Nat → Int) : Bool :=
 (decide (d 0 = tribe) || decide (d 1 = tribe)) && inB5 (d 2) (d 3) day && exB na fun i => decide (a i = d 0 + d 1 - tribe)
def feuR (who tribe day : Int) (d : Nat → Int) : Bool :=
 inB5 (d 2) (d 3) day && (decide (d 0 = who) && decide (d 1 = tribe) || decide (d 0 = tribe) && decide (d 1 = who))
theorem feu_eq {na nd : Nat} {a : Nat → Int} {tribe day : Int} {d : Nat → Nat → Int} :
   (exB nd fun k => feuC na a tribe day (d k)) = exB na fun i => exB nd fun k => feuR (a i) tribe day (d k) := by
 rw [Bool.eq_iff_iff]
 simp only [exB_iff, feuC, feuR, Bool.and_eq_true, Bool.or_eq_true, decide_eq_true_eq]
 constructor
 · rintro ⟨k, hk, ⟨h1, h2⟩, i, hi, h3⟩
   exact ⟨i, hi, k, hk, h2, by omega⟩
 · rintro ⟨i, hi, k, hk, h2, h3⟩
   exact ⟨k, hk, ⟨by omega, h2⟩, i, hi, by omega⟩
def whyV (closed hated lost : Bool) : Int := if closed = true then 1 else if hated = true then 2 else if lost = true then 3 else 0
theorem whyV_bd {a b c : Bool} : 0 ≤ whyV a b c ∧ whyV a b c ≤ 3 := by
 unfold whyV
 split
 · omega
 · split
   · omega
   · split <;> omega
def lesV (is_ : Bool) (r why : Int) : Int := if is_ = true then min why r else why
theorem les_eq {a b c : Bool} {w : Int} : lesV c 3 (lesV b 2 (lesV a 1 w)) = if whyV a b c = 0 then w else min w (whyV a b c) := by
 cases a <;> cases b <;> cases c <;> simp [lesV, whyV] <;> omega
end Go.Proofs.YtfaenhhgkhcghaaGreatDoor
namespace Go.Proofs.YtfaenhhgkhcghaaGreatDoor
set_option linter.all false
set_option linter.unusedVariables false
set_option linter.unusedSimpArgs false
open Go.RowKit
theorem indexInt_any {g : FuncId} {fs cs : List Value} {A : Option Addr} {n cp : Nat} {v : Nat → Int} {p : Nat → Bool} {M : Nat → List Fact} {w : World} (hen : Enters Tryz.prog g) (hn : n ≤ 9223372036854775807)
  (hR : RdR w 1 A n (fun k => [.int .i64 (v k)])) (hA : 0 < n → Apart (feet (M 0)) A) (hM : Sat (feet (M 0)) w (M 0) w) (hfe : ∀ k, feet (M k) = feet (M 0))
  (hg : ∀ k, k < n → (∀ j, j < k → p j = false) → ∀ w', Sat (feet (M 0)) w (M k) w' → CallsK Tryz.prog g (fs ++ [Value.int .i64 (v k)] ++ cs).toArray (M k) w' Unit (fun _ => .bool (p k)) (fun _ => M (k + 1))) :
  CallsK Tryz.prog 146 #[.slice A n cp, .func (.func g) fs.toArray cs.toArray] (M 0) w (Fst p n) (fun x => .int .i64 (if x.1 < n then (x.1 : Int) else -1)) (fun x => M (aft n x.1)) := by
 refine K_enter (S := feet (M 0)) (K := M 0) Tryz.func146 rfl Tryz.ntmps146 rfl hM ?_
 refine TW.seq fun Y1 hY1 => TW.region ?_
 refine TL.p Pu.as ?_
 refine TL.nil (TQ.thenN (hY1 _ _ ?_))
 refine TW.seq fun Y2 hY2 => ?_
 refine TW.seq fun Y3 hY3 => TW.region ?_
 refine TL.p Pu.mv ?_
 refine TL.p (Pu.ln Tryz.underlying31) ?_
 refine TL.p Pu.mv ?_
 refine TL.nil (TQ.thenN (hY3 _ _ ?_))
 refine TW.block ?_
 refine TW.loop1 (fun (k : Nat) => [(8, .int .i64 (k : Int)), (7, .int .i64 (n : Int)), (0, .slice A n cp), (1, .func (.func g) fs.toArray cs.toArray)]) (fun k => M k) (fun k => k ≤ n ∧ ∀ j, j < k → p j = false) (fun k => n - k) 0 fs9 ?_ ?_ ?_
 exact KSub.refl _
 exact ⟨by omega, fun j hj => by omega⟩
 rintro k ⟨hk, hall⟩ Z0 hZ0
 refine TW.seq fun Y4 hY4 => TW.region ?_
 refine TL.p Pu.lt ?_
 refine TL.nil (TQ.thenN (hY4 _ _ ?_))
 refine TW.seq fun Y5 hY5 => ?_
 refine TW.cond rfl (fun hc0 => ?_) (fun hc0 => ?_)
 try simp only [zcb9] at hc0
 have hkn : k < n := by omega
 have hA := hA (by omega)
 refine TW.skip ?_
 refine TQ.thenN (hY5 _ _ ?_)
 refine TW.seq fun Y6 hY6 => ?_
 refine TW.block ?_
 refine TW.seq fun Y7 hY7 => TW.region ?_
 refine TL.p Pu.mv ?_
 refine TL.p Pu.as ?_
 refine TL.nil (TQ.thenN (hY7 _ _ ?_))
 refine TW.seq fun Y8 hY8 => TW.region ?_
 refine TL.p Pu.mv ?_
 refine TL.p Pu.mv ?_
 refine TL.p Pu.mv ?_
 refine TL.p (Pu.el ty_et31) ?_
 refine TL.p (Pu.ld ty_sc3) ?_
 refine TL.cvk rfl rfl hen (by rw [List.append_nil]) (fun w hw => by
   exact hg k (by omega) hall w hw) ?_
 intro _
 refine TL.nil (TQ.thenN (hY8 _ _ ?_))
 refine TW.cond rfl (fun hc1 => ?_) (fun hc1 => ?_)
 try simp only [zcb9] at hc1
 refine TW.seq fun Y9 hY9 => TW.region ?_
 refine TL.p Pu.mv ?_
 refine TL.p Pu.as ?_
 refine TL.nil (TQ.thenN (hY9 _ _ ?_))
 refine TW.ret ?_
 refine TQ.blkR ?_
 refine TQ.thenR ?_
 refine TQ.thenR ?_
 refine TQ.blkR ?_
 refine TQ.thenR ?_
 refine TQ.ret Tryz.results146 rfl ((.tmp rfl .nil)) ?_
 exact fun w hw => ⟨⟨k, by omega, hall, fun _ => hc1⟩, by simp [hkn]; rfl, by simpa [aft, hkn] using hw⟩
 try simp only [zcb9] at hc1
 refine TW.skip ?_
 refine TQ.blkN ?_
 refine TQ.thenN (hY6 _ _ ?_)
 refine TW.region ?_
 refine TL.p Pu.ad ?_
 refine TL.p Pu.mv ?_
 refine TL.nil ?_
 refine TQ.thenN (hZ0 (k + 1) _ _ ?_ ?_ fs9 ?_)
 refine ⟨by omega, fun j hj => ?_⟩
 by_cases h : j = k
 subst h; exact hc1
 exact hall j (by omega)
 exact zom9
 rw [List.append_nil]; exact KSub.refl _
 try simp only [zcb9] at hc0
 have hkn : k = n := by omega
 refine TW.exit ?_
 refine TQ.thenX ?_
 refine TQ.thenX ?_
 refine TQ.blkX ?_
 refine TQ.thenN (hY2 _ _ ?_)
 refine TW.seq fun Y10 hY10 => TW.region ?_
 refine TL.p Pu.as ?_
 refine TL.nil (TQ.thenN (hY10 _ _ ?_))
 refine TW.ret ?_
 refine TQ.ret Tryz.results146 rfl ((.tmp rfl .nil)) ?_
 exact fun w hw => ⟨⟨k, by omega, hall, fun h => by omega⟩, by simp [hkn]; rfl, by simpa [aft, hkn] using hw⟩
theorem hasInt_st {g : FuncId} {fs cs : List Value} {A : Option Addr} {n cp : Nat} {v : Nat → Int} {p : Nat → Bool} {M : Nat → List Fact} {w : World} (hen : Enters Tryz.prog g) (hn : n ≤ 9223372036854775807)
  (hR : RdR w 1 A n (fun k => [.int .i64 (v k)])) (hA : 0 < n → Apart (feet (M 0)) A) (hM : Sat (feet (M 0)) w (M 0) w) (hfe : ∀ k, feet (M k) = feet (M 0))
  (hg : ∀ k, k < n → (∀ j, j < k → p j = false) → ∀ w', Sat (feet (M 0)) w (M k) w' → CallsK Tryz.prog g (fs ++ [Value.int .i64 (v k)] ++ cs).toArray (M k) w' Unit (fun _ => .bool (p k)) (fun _ => M (k + 1))) :
  CallsK Tryz.prog 114 #[.slice A n cp, .func (.func g) fs.toArray cs.toArray] (M 0) w (Fst p n) (fun x => .bool (decide (x.1 < n))) (fun x => M (aft n x.1)) := by
 refine K_enter (S := feet (M 0)) (K := M 0) Tryz.func114 rfl Tryz.ntmps114 rfl hM ?_
 refine TW.seq fun Y1 hY1 => TW.region ?_
 refine TL.p Pu.as ?_
 refine TL.nil (TQ.thenN (hY1 _ _ ?_))
 refine TW.seq fun Y2 hY2 => TW.region ?_
 refine TL.p Pu.mv ?_
 refine TL.p Pu.mv ?_
 refine TL.call rfl (enters Tryz.func146 rfl rfl) (by rw [List.append_nil]) rfl (fun w hw => by
   exact indexInt_any hen hn (hR.sat0 hw hA) hA hw.self hfe (fun k hk hp w' hw' => hg k hk hp w' (hw'.from hw.chg fun _ hb => .inl hb))) ?_
 intro x
 refine TL.p Pu.ge ?_
 refine TL.p Pu.as ?_
 refine TL.nil (TQ.thenN (hY2 _ _ ?_))
 refine TW.ret ?_
 refine TQ.ret Tryz.results114 rfl ((.tmp rfl .nil)) ?_
 exact fun w hw => ⟨x, by by_cases h : x.1 < n <;> simp [retV, h], by simpa using hw⟩
theorem hasInt_any {g : FuncId} {fs cs : List Value} {A : Option Addr} {n cp : Nat} {v : Nat → Int} {p : Nat → Bool} {w : World} (hen : Enters Tryz.prog g) (hn : n ≤ 9223372036854775807)
  (hR : RdR w 1 A n (fun k => [.int .i64 (v k)])) (hg : ∀ k, k < n → ∀ w', Below w.heap.size w w' → Calls Tryz.prog g (fs ++ [Value.int .i64 (v k)] ++ cs).toArray w' (Ret w' (.bool (p k)))) :
  Calls Tryz.prog 114 #[.slice A n cp, .func (.func g) fs.toArray cs.toArray] w (Ret w (.bool (anyB n p))) :=
 CallsK.retOf (hasInt_st (M := fun _ => []) hen hn hR (fun _ => Apart.nil) (Sat.start w) (fun _ => rfl) fun k hk _ w' hw' => CallsK.ret (hg k hk w' (Chg.ext hw'.chg))) fun x => by rw [x.any]; rfl
theorem indexSpan_any {g : FuncId} {fs cs : List Value} {A : Option Addr} {n cp : Nat} {v : Nat → Nat → Int} {p : Nat → Bool} {M : Nat → List Fact} {w : World} (hen : Enters Tryz.prog g) (hn : n ≤ 9223372036854775807)
  (hR : RdR w 2 A n (fun k => spL (v k 0) (v k 1))) (hA : 0 < n → Apart (feet (M 0)) A) (hM : Sat (feet (M 0)) w (M 0) w) (hfe : ∀ k, feet (M k) = feet (M 0))
  (hg : ∀ k, k < n → (∀ j, j < k → p j = false) → ∀ w', Sat (feet (M 0)) w (M k) w' → CallsK Tryz.prog g (fs ++ [Value.agg (spL (v k 0) (v k 1)).toArray] ++ cs).toArray (M k) w' Unit (fun _ => .bool (p k)) (fun _ => M (k + 1))) :
  CallsK Tryz.prog 153 #[.slice A n cp, .func (.func g) fs.toArray cs.toArray] (M 0) w (Fst p n) (fun x => .int .i64 (if x.1 < n then (x.1 : Int) else -1)) (fun x => M (aft n x.1)) := by
 refine K_enter (S := feet (M 0)) (K := M 0) Tryz.func153 rfl Tryz.ntmps153 rfl hM ?_
 refine TW.seq fun Y1 hY1 => TW.region ?_
 refine TL.p Pu.as ?_
 refine TL.nil (TQ.thenN (hY1 _ _ ?_))
 refine TW.seq fun Y2 hY2 => ?_
 refine TW.seq fun Y3 hY3 => TW.region ?_
 refine TL.p Pu.mv ?_
 refine TL.p (Pu.ln Tryz.underlying208) ?_
 refine TL.p Pu.mv ?_
 refine TL.nil (TQ.thenN (hY3 _ _ ?_))
 refine TW.block ?_
 refine TW.loop1 (fun (k : Nat) => [(8, .int .i64 (k : Int)), (7, .int .i64 (n : Int)), (0, .slice A n cp), (1, .func (.func g) fs.toArray cs.toArray)]) (fun k => M k) (fun k => k ≤ n ∧ ∀ j, j < k → p j = false) (fun k => n - k) 0 fs9 ?_ ?_ ?_
 exact KSub.refl _
 exact ⟨by omega, fun j hj => by omega⟩
 rintro k ⟨hk, hall⟩ Z0 hZ0
 refine TW.seq fun Y4 hY4 => TW.region ?_
 refine TL.p Pu.lt ?_
 refine TL.nil (TQ.thenN (hY4 _ _ ?_))
 refine TW.seq fun Y5 hY5 => ?_
 refine TW.cond rfl (fun hc0 => ?_) (fun hc0 => ?_)
 try simp only [zcb9] at hc0
 have hkn : k < n := by omega
 have hA := hA (by omega)
 refine TW.skip ?_
 refine TQ.thenN (hY5 _ _ ?_)
 refine TW.seq fun Y6 hY6 => ?_
 refine TW.block ?_
 refine TW.seq fun Y7 hY7 => TW.region ?_
 refine TL.p Pu.mv ?_
 refine TL.p Pu.as ?_
 refine TL.nil (TQ.thenN (hY7 _ _ ?_))
 refine TW.seq fun Y8 hY8 => TW.region ?_
 refine TL.p Pu.mv ?_
 refine TL.p Pu.mv ?_
 refine TL.p Pu.mv ?_
 refine TL.p (Pu.el ty_et208) ?_
 refine TL.p (Pu.lds ty_ag36) ?_
 refine TL.cvk rfl rfl hen (by rw [List.append_nil]) (fun w hw => by
   exact hg k (by omega) hall w hw) ?_
 intro _
 refine TL.nil (TQ.thenN (hY8 _ _ ?_))
 refine TW.cond rfl (fun hc1 => ?_) (fun hc1 => ?_)
 try simp only [zcb9] at hc1
 refine TW.seq fun Y9 hY9 => TW.region ?_
 refine TL.p Pu.mv ?_
 refine TL.p Pu.as ?_
 refine TL.nil (TQ.thenN (hY9 _ _ ?_))
 refine TW.ret ?_
 refine TQ.blkR ?_
 refine TQ.thenR ?_
 refine TQ.thenR ?_
 refine TQ.blkR ?_
 refine TQ.thenR ?_
 refine TQ.ret Tryz.results153 rfl ((.tmp rfl .nil)) ?_
 exact fun w hw => ⟨⟨k, by omega, hall, fun _ => hc1⟩, by simp [hkn]; rfl, by simpa [aft, hkn] using hw⟩
 try simp only [zcb9] at hc1
 refine TW.skip ?_
 refine TQ.blkN ?_
 refine TQ.thenN (hY6 _ _ ?_)
 refine TW.region ?_
 refine TL.p Pu.ad ?_
 refine TL.p Pu.mv ?_
 refine TL.nil ?_
 refine TQ.thenN (hZ0 (k + 1) _ _ ?_ ?_ fs9 ?_)
 refine ⟨by omega, fun j hj => ?_⟩
 by_cases h : j = k
 subst h; exact hc1
 exact hall j (by omega)
 exact zom9
 rw [List.append_nil]; exact KSub.refl _
 try simp only [zcb9] at hc0
 have hkn : k = n := by omega
 refine TW.exit ?_
 refine TQ.thenX ?_
 refine TQ.thenX ?_
 refine TQ.blkX ?_
 refine TQ.thenN (hY2 _ _ ?_)
 refine TW.seq fun Y10 hY10 => TW.region ?_
 refine TL.p Pu.as ?_
 refine TL.nil (TQ.thenN (hY10 _ _ ?_))
 refine TW.ret ?_
 refine TQ.ret Tryz.results153 rfl ((.tmp rfl .nil)) ?_
 exact fun w hw => ⟨⟨k, by omega, hall, fun h => by omega⟩, by simp [hkn]; rfl, by simpa [aft, hkn] using hw⟩
theorem hasSpan_st {g : FuncId} {fs cs : List Value} {A : Option Addr} {n cp : Nat} {v : Nat → Nat → Int} {p : Nat → Bool} {M : Nat → List Fact} {w : World} (hen : Enters Tryz.prog g) (hn : n ≤ 9223372036854775807)
  (hR : RdR w 2 A n (fun k => spL (v k 0) (v k 1))) (hA : 0 < n → Apart (feet (M 0)) A) (hM : Sat (feet (M 0)) w (M 0) w) (hfe : ∀ k, feet (M k) = feet (M 0))
  (hg : ∀ k, k < n → (∀ j, j < k → p j = false) → ∀ w', Sat (feet (M 0)) w (M k) w' → CallsK Tryz.prog g (fs ++ [Value.agg (spL (v k 0) (v k 1)).toArray] ++ cs).toArray (M k) w' Unit (fun _ => .bool (p k)) (fun _ => M (k + 1))) :
  CallsK Tryz.prog 144 #[.slice A n cp, .func (.func g) fs.toArray cs.toArray] (M 0) w (Fst p n) (fun x => .bool (decide (x.1 < n))) (fun x => M (aft n x.1)) := by
 refine K_enter (S := feet (M 0)) (K := M 0) Tryz.func144 rfl Tryz.ntmps144 rfl hM ?_
 refine TW.seq fun Y1 hY1 => TW.region ?_
 refine TL.p Pu.as ?_
 refine TL.nil (TQ.thenN (hY1 _ _ ?_))
 refine TW.seq fun Y2 hY2 => TW.region ?_
 refine TL.p Pu.mv ?_
 refine TL.p Pu.mv ?_
 refine TL.call rfl (enters Tryz.func153 rfl rfl) (by rw [List.append_nil]) rfl (fun w hw => by
   exact indexSpan_any hen hn (hR.sat0 hw hA) hA hw.self hfe (fun k hk hp w' hw' => hg k hk hp w' (hw'.from hw.chg fun _ hb => .inl hb))) ?_
 intro x
 refine TL.p Pu.ge ?_
 refine TL.p Pu.as ?_
 refine TL.nil (TQ.thenN (hY2 _ _ ?_))
 refine TW.ret ?_
 refine TQ.ret Tryz.results144 rfl ((.tmp rfl .nil)) ?_
 exact fun w hw => ⟨x, by by_cases h : x.1 < n <;> simp [retV, h], by simpa using hw⟩
theorem hasSpan_any {g : FuncId} {fs cs : List Value} {A : Option Addr} {n cp : Nat} {v : Nat → Nat → Int} {p : Nat → Bool} {w : World} (hen : Enters Tryz.prog g) (hn : n ≤ 9223372036854775807)
  (hR : RdR w 2 A n (fun k => spL (v k 0) (v k 1))) (hg : ∀ k, k < n → ∀ w', Below w.heap.size w w' → Calls Tryz.prog g (fs ++ [Value.agg (spL (v k 0) (v k 1)).toArray] ++ cs).toArray w' (Ret w' (.bool (p k)))) :
  Calls Tryz.prog 144 #[.slice A n cp, .func (.func g) fs.toArray cs.toArray] w (Ret w (.bool (anyB n p))) :=
 CallsK.retOf (hasSpan_st (M := fun _ => []) hen hn hR (fun _ => Apart.nil) (Sat.start w) (fun _ => rfl) fun k hk _ w' hw' => CallsK.ret (hg k hk w' (Chg.ext hw'.chg))) fun x => by rw [x.any]; rfl
end Go.Proofs.YtfaenhhgkhcghaaGreatDoor
namespace Go.Proofs.YtfaenhhgkhcghaaGreatDoor
set_option linter.all false
set_option linter.unusedVariables false
set_option linter.unusedSimpArgs false
open Go.RowKit
theorem from1_any (x lo hi : Int) (b1 b2 : Nat) (w : World) (h1 : OldB w b1 [.int .i64 lo]) (h2 : OldB w b2 [.int .i64 hi]) :
  Calls Tryz.prog 115 #[.int .i64 x, .pointer (some ⟨b1, 0, none⟩), .pointer (some ⟨b2, 0, none⟩)] w (Ret w (.bool (!inB5 lo hi x))) := by
 refine K_enter (S := []) (K := []) Tryz.func115 rfl Tryz.ntmps115 rfl (Sat.start _) ?_
 refine TW.seq fun Y1 hY1 => TW.region ?_
 refine TL.p Pu.as ?_
 refine TL.nil (TQ.thenN (hY1 _ _ ?_))
 refine TW.seq fun Y2 hY2 => ?_
 refine TW.join [(4, .bool (decide (x < lo) || decide (hi < x)))] ?_ (fun hJ1 => ?_)
 refine TQ.thenN (hY2 _ _ ?_)
 refine TW.ret ?_
 refine TQ.ret Tryz.results115 rfl ((.tmp rfl .nil)) ?_
 exact fun w hw => ⟨ret_bool (by unfold inB5; rw [Bool.eq_iff_iff]; simp only [Bool.not_eq_true', Bool.and_eq_false_iff, Bool.or_eq_true, decide_eq_true_eq, decide_eq_false_iff_not]; omega), Chg.ext hw.chg⟩
 refine TW.region ?_
 refine TL.p Pu.mv ?_
 refine TL.p (by first | exact (Pu.ld ty_sc3) | exact (Pu.ldo ty_sc3)) ?_
 refine TL.p Pu.lt ?_
 refine TL.p Pu.mv ?_
 refine TL.guard (t := 8) rfl (fun hg1 => ?_) (fun hg1 => ?_)
 refine TL.gs ?_
 refine TL.gs ?_
 refine TL.gs ?_
 refine TL.p Pu.kt ?_
 refine TL.p Pu.as ?_
 refine TL.nil ?_
 exact TQ.sub (by repeat (first | exact trivial | refine ⟨rfl, ?_⟩ | refine ⟨trivial, ?_⟩ | refine ⟨(by show some (Value.bool _) = some (Value.bool _); first | (simp [hg1]; done) | (refine congrArg (fun z => some (Value.bool z)) (Bool.eq_iff_iff.2 ?_); simp [hg1]; omega)), ?_⟩)) ks9 hJ1
 refine TL.gd Pu.mv ?_
 refine TL.gd (by first | exact (Pu.ld ty_sc3) | exact (Pu.ldo ty_sc3)) ?_
 refine TL.gd Pu.gt ?_
 refine TL.p Pu.kf ?_
 refine TL.p Pu.as ?_
 refine TL.nil ?_
 exact TQ.sub (by repeat (first | exact trivial | refine ⟨rfl, ?_⟩ | refine ⟨trivial, ?_⟩ | refine ⟨(by show some (Value.bool _) = some (Value.bool _); first | (simp [hg1]; done) | (refine congrArg (fun z => some (Value.bool z)) (Bool.eq_iff_iff.2 ?_); simp [hg1]; omega)), ?_⟩)) ks9 hJ1
theorem from_any (lo hi : Int) {A : Option Addr} {n cp : Nat} {v : Nat → Int} {w : World} (hn : n ≤ 9223372036854775807) (hR : RdR w 1 A n (fun k => [.int .i64 (v k)])) :
  Calls Tryz.prog 69 #[.int .i64 lo, .int .i64 hi, .slice A n cp] w (Ret w (.bool (allB n fun k => inB5 lo hi (v k)))) := by
 refine K_enter (S := []) (K := []) Tryz.func69 rfl Tryz.ntmps69 rfl (Sat.start _) ?_
 refine TW.seq fun Y1 hY1 => TW.region ?_
 refine TL.m Mk.bx ?_
 intro b1
 refine TL.m Mk.bx ?_
 intro b2
 refine TL.p Pu.as ?_
 refine TL.nil (TQ.thenN (hY1 _ _ ?_))
 refine TW.seq fun Y2 hY2 => TW.region ?_
 refine TL.p Pu.mv ?_
 refine TL.p Pu.fn ?_
 refine TL.cr rfl (enters Tryz.func114 rfl rfl) (fun w hw => by
   have h1 := OldB.of_blk (hw.holds (.blk b1 3 [.int .i64 lo]) (by simp))
   have h2 := OldB.of_blk (hw.holds (.blk b2 3 [.int .i64 hi]) (by simp))
   exact hasInt_any (fs := []) (p := fun k => !inB5 lo hi (v k)) (enters Tryz.func115 rfl rfl) hn (hR.sat hw Apart.nil) fun k hk w' hb => from1_any _ _ _ b1 b2 w' (h1.ext hb) (h2.ext hb)) ?_
 refine TL.p Pu.no ?_
 refine TL.p Pu.as ?_
 refine TL.nil (TQ.thenN (hY2 _ _ ?_))
 refine TW.ret ?_
 refine TQ.ret Tryz.results69 rfl ((.tmp rfl .nil)) ?_
 exact fun w hw => ⟨ret_bool (by rw [not_anyB]; simp), Chg.ext hw.chg⟩
theorem fromOne_any (lo hi x : Int) {b E : Nat} {w : World} (h : Blk w b E #[.int .i64 x]) :
  Calls Tryz.prog 69 #[.int .i64 lo, .int .i64 hi, .slice (some ⟨b, 0, none⟩) 1 1] w (Ret w (.bool (inB5 lo hi x))) := by
 have := from_any lo hi (n := 1) (cp := 1) (v := fun _ => x) (by decide) (RdR.blk (cs := [.int .i64 x]) h rfl (fun _ _ => rfl))
 simpa [allB] using this
theorem fromTwo_any (lo hi x y : Int) {b E : Nat} {w : World} (h : Blk w b E #[.int .i64 x, .int .i64 y]) :
  Calls Tryz.prog 69 #[.int .i64 lo, .int .i64 hi, .slice (some ⟨b, 0, none⟩) 2 2] w (Ret w (.bool (inB5 lo hi x && inB5 lo hi y))) := by
 have := from_any lo hi (n := 2) (cp := 2) (v := fun k => if k = 0 then x else y) (by decide) (RdR.blk (cs := [.int .i64 x, .int .i64 y]) h rfl (fun _ _ => rfl))
 simpa [allB, List.range_succ] using this
theorem ordered1_any (x y lo hi : Int) (b1 b2 : Nat) (w : World) (h1 : OldB w b1 [.int .i64 lo]) (h2 : OldB w b2 [.int .i64 hi]) :
  Calls Tryz.prog 145 #[.agg (spL x y).toArray, .pointer (some ⟨b1, 0, none⟩), .pointer (some ⟨b2, 0, none⟩)] w (Ret w (.bool (!ordB5 lo hi x y))) := by
 refine K_enter (S := []) (K := []) Tryz.func145 rfl Tryz.ntmps145 rfl (Sat.start _) ?_
 refine TW.seq fun Y1 hY1 => TW.region ?_
 refine TL.m Mk.bx ?_
 intro b1
 refine TL.p Pu.as ?_
 refine TL.nil (TQ.thenN (hY1 _ _ ?_))
 refine TW.seq fun Y2 hY2 => ?_
 refine TW.join [(4, .bool (decide (y < x) || !(inB5 lo hi x && inB5 lo hi y)))] ?_ (fun hJ1 => ?_)
 refine TQ.thenN (hY2 _ _ ?_)
 refine TW.ret ?_
 refine TQ.ret Tryz.results145 rfl ((.tmp rfl .nil)) ?_
 exact fun w hw => ⟨ret_bool (by unfold ordB5 inB5; rw [Bool.eq_iff_iff]; simp only [Bool.not_eq_true', Bool.and_eq_false_iff, Bool.or_eq_true, decide_eq_true_eq, decide_eq_false_iff_not]; omega), Chg.ext hw.chg⟩
 refine TW.region ?_
 refine TL.p (by first | exact Pu.fb ty_fa36_0 | exact Pu.fe ty_fa36_0) ?_
 refine TL.p (by first | exact (Pu.ld ty_sc3) | exact (Pu.ldo ty_sc3)) ?_
 refine TL.p (by first | exact Pu.fb ty_fa36_1 | exact Pu.fe ty_fa36_1) ?_
 refine TL.p (by first | exact (Pu.ld ty_sc3) | exact (Pu.ldo ty_sc3)) ?_
 refine TL.p Pu.gt ?_
 refine TL.p Pu.mv ?_
 refine TL.guard (t := 10) rfl (fun hg1 => ?_) (fun hg1 => ?_)
 refine TL.gs ?_
 refine TL.gs ?_
 refine TL.gs ?_
 refine TL.gs ?_
 refine TL.gs ?_
 refine TL.gs ?_
 refine TL.gs ?_
 refine TL.gs ?_
 refine TL.gs ?_
 refine TL.p Pu.kt ?_
 refine TL.p Pu.as ?_
 refine TL.nil ?_
 exact TQ.sub (by repeat (first | exact trivial | refine ⟨rfl, ?_⟩ | refine ⟨trivial, ?_⟩ | refine ⟨(by show some (Value.bool _) = some (Value.bool _); first | (simp [hg1]; done) | (refine congrArg (fun z => some (Value.bool z)) (Bool.eq_iff_iff.2 ?_); simp [hg1]; omega)), ?_⟩)) ks9 hJ1
 refine TL.gd (by first | exact (Pu.ld ty_sc3) | exact (Pu.ldo ty_sc3)) ?_
 refine TL.gd (by first | exact (Pu.ld ty_sc3) | exact (Pu.ldo ty_sc3)) ?_
 refine TL.gd (by first | exact Pu.fb ty_fa36_0 | exact Pu.fe ty_fa36_0) ?_
 refine TL.gd (by first | exact (Pu.ld ty_sc3) | exact (Pu.ldo ty_sc3)) ?_
 refine TL.gd (by first | exact Pu.fb ty_fa36_1 | exact Pu.fe ty_fa36_1) ?_
 refine TL.gd (by first | exact (Pu.ld ty_sc3) | exact (Pu.ldo ty_sc3)) ?_
 refine TL.gm Mk.bl ?_
 intro b2
 refine TL.cr rfl (enters Tryz.func69 rfl rfl) (fun w hw => by
   exact fromTwo_any _ _ _ _ (hw.holds _ (List.mem_cons_self ..))) ?_
 refine TL.gd Pu.no ?_
 refine TL.p Pu.kf ?_
 refine TL.p Pu.as ?_
 refine TL.nil ?_
 exact TQ.sub (by repeat (first | exact trivial | refine ⟨rfl, ?_⟩ | refine ⟨trivial, ?_⟩ | refine ⟨(by show some (Value.bool _) = some (Value.bool _); first | (simp [hg1]; done) | (refine congrArg (fun z => some (Value.bool z)) (Bool.eq_iff_iff.2 ?_); simp [hg1]; omega)), ?_⟩)) ks9 hJ1
theorem ordered_any (lo hi : Int) {A : Option Addr} {n cp : Nat} {v : Nat → Nat → Int} {w : World} (hn : n ≤ 9223372036854775807) (hR : RdR w 2 A n (fun k => spL (v k 0) (v k 1))) :
  Calls Tryz.prog 113 #[.int .i64 lo, .int .i64 hi, .slice A n cp] w (Ret w (.bool (allB n fun k => ordB5 lo hi (v k 0) (v k 1)))) := by
 refine K_enter (S := []) (K := []) Tryz.func113 rfl Tryz.ntmps113 rfl (Sat.start _) ?_
 refine TW.seq fun Y1 hY1 => TW.region ?_
 refine TL.m Mk.bx ?_
 intro b1
 refine TL.m Mk.bx ?_
 intro b2
 refine TL.p Pu.as ?_
 refine TL.nil (TQ.thenN (hY1 _ _ ?_))
 refine TW.seq fun Y2 hY2 => TW.region ?_
 refine TL.p Pu.mv ?_
 refine TL.p Pu.fn ?_
 refine TL.cr rfl (enters Tryz.func144 rfl rfl) (fun w hw => by
   have h1 := OldB.of_blk (hw.holds (.blk b1 3 [.int .i64 lo]) (by simp))
   have h2 := OldB.of_blk (hw.holds (.blk b2 3 [.int .i64 hi]) (by simp))
   exact hasSpan_any (fs := []) (v := v) (p := fun k => !ordB5 lo hi (v k 0) (v k 1)) (enters Tryz.func145 rfl rfl) hn (hR.sat hw Apart.nil) fun k hk w' hb => ordered1_any _ _ _ _ b1 b2 w' (h1.ext hb) (h2.ext hb)) ?_
 refine TL.p Pu.no ?_
 refine TL.p Pu.as ?_
 refine TL.nil (TQ.thenN (hY2 _ _ ?_))
 refine TW.ret ?_
 refine TQ.ret Tryz.results113 rfl ((.tmp rfl .nil)) ?_
 exact fun w hw => ⟨ret_bool (by rw [not_anyB]; simp), Chg.ext hw.chg⟩
theorem orderedOne_any (lo hi x y : Int) {b E : Nat} {w : World} (h : Blk w b E #[.int .i64 x, .int .i64 y]) :
  Calls Tryz.prog 113 #[.int .i64 lo, .int .i64 hi, .slice (some ⟨b, 0, none⟩) 1 1] w (Ret w (.bool (ordB5 lo hi x y))) := by
 have := ordered_any lo hi (n := 1) (cp := 1) (v := fun _ j => if j = 0 then x else y) (by decide) (RdR.blk (cs := [.int .i64 x, .int .i64 y]) h rfl (fun _ _ => rfl))
 simpa [allB] using this
theorem orderedTwo_any (lo hi x y z u : Int) {b E : Nat} {w : World} (h : Blk w b E #[.int .i64 x, .int .i64 y, .int .i64 z, .int .i64 u]) :
  Calls Tryz.prog 113 #[.int .i64 lo, .int .i64 hi, .slice (some ⟨b, 0, none⟩) 2 2] w (Ret w (.bool (ordB5 lo hi x y && ordB5 lo hi z u))) := by
 have := ordered_any lo hi (n := 2) (cp := 2) (v := fun i j => if i = 0 then (if j = 0 then x else y) else (if j = 0 then z else u)) (by decide) (RdR.blk (cs := [.int .i64 x, .int .i64 y, .int .i64 z, .int .i64 u]) h rfl (fun _ _ => rfl))
 simpa [allB, List.range_succ] using this
def wellL (f : Nat → Int) : List Value := [.int .i64 (f 0), .int .i64 (f 1), .int .i64 (f 2), .int .i64 (f 3), .int .i64 (f 4), .int .i64 (f 5), .int .i64 (f 6), .int .i64 (f 7), .int .i64 (f 8)]
def wellOk (f : Nat → Int) : Bool := inB5 (-10000000) 10000000 (f 0) && inB5 (-10000000) 10000000 (f 1) && inB5 0 200 (f 2) && ordB5 0 10000000 (f 3) (f 4) && inB5 0 1000000000 (f 5) && ordB5 0 (f 5) (f 6) (f 7) && inB5 0 9999 (f 8)
set_option maxRecDepth 100000 in
theorem dug_any (f : Nat → Int) (w : World) : Calls Tryz.prog 88 #[.agg (wellL f).toArray] w (Ret w (.bool (wellOk f))) := by
 refine K_enter (S := []) (K := []) Tryz.func88 rfl Tryz.ntmps88 rfl (Sat.start _) ?_
 refine TW.seq fun Y1 hY1 => TW.region ?_
 refine TL.m Mk.bx ?_
 intro b1
 refine TL.p Pu.as ?_
 refine TL.nil (TQ.thenN (hY1 _ _ ?_))
 refine TW.seq fun Y2 hY2 => ?_
 refine TW.join [(2, .bool (wellOk f))] ?_ (fun hJ1 => ?_)
 refine TQ.thenN (hY2 _ _ ?_)
 refine TW.ret ?_
 refine TQ.ret Tryz.results88 rfl ((.tmp rfl .nil)) ?_
 exact fun w hw => Ret.of hw
 refine TW.region ?_
 refine TL.p (by first | exact Pu.fb ty_fa170_0 | exact Pu.fe ty_fa170_0) ?_
 refine TL.p (Pu.ld ty_sc3) ?_
 refine TL.p (by first | exact Pu.fb ty_fa170_1 | exact Pu.fe ty_fa170_1) ?_
 refine TL.p (Pu.ld ty_sc3) ?_
 refine TL.m Mk.bl ?_
 intro b2
 refine TL.cr rfl (enters Tryz.func69 rfl rfl) (fun w hw => by
  exact fromTwo_any _ _ _ _ (hw.holds _ (List.mem_cons_self ..))) ?_
 refine TL.p Pu.mv ?_
 refine TL.guard (t := 9) rfl (fun hg1 => ?_) (fun hg1 => ?_)
 refine TL.gd (by first | exact Pu.fb ty_fa170_2 | exact Pu.fe ty_fa170_2) ?_
 refine TL.gd (Pu.ld ty_sc3) ?_
 refine TL.gm Mk.bl ?_
 intro b3
 refine TL.cr rfl (enters Tryz.func69 rfl rfl) (fun w hw => by
  exact fromOne_any _ _ _ (hw.holds _ (List.mem_cons_self ..))) ?_
 refine TL.p Pu.kt ?_
 refine TL.p Pu.mv ?_
 refine TL.guard (t := 15) rfl (fun hg2 => ?_) (fun hg2 => ?_)
 refine TL.gd (by first | exact Pu.fb ty_fa170_3 | exact Pu.fe ty_fa170_3) ?_
 refine TL.gd (Pu.lds ty_ag36) ?_
 refine TL.gm Mk.bl ?_
 intro b4
 refine TL.cr rfl (enters Tryz.func113 rfl rfl) (fun w hw => by
  exact orderedOne_any _ _ _ _ (hw.holds _ (List.mem_cons_self ..))) ?_
 refine TL.p Pu.kt ?_
 refine TL.p Pu.mv ?_
 refine TL.guard (t := 21) rfl (fun hg3 => ?_) (fun hg3 => ?_)
 refine TL.gd (by first | exact Pu.fb ty_fa170_4 | exact Pu.fe ty_fa170_4) ?_
 refine TL.gd (Pu.ld ty_sc3) ?_
 refine TL.gm Mk.bl ?_
 intro b5
 refine TL.cr rfl (enters Tryz.func69 rfl rfl) (fun w hw => by
  exact fromOne_any _ _ _ (hw.holds _ (List.mem_cons_self ..))) ?_
 refine TL.p Pu.kt ?_
 refine TL.p Pu.mv ?_
 refine TL.guard (t := 27) rfl (fun hg4 => ?_) (fun hg4 => ?_)
 refine TL.gd (by first | exact Pu.fb ty_fa170_4 | exact Pu.fe ty_fa170_4) ?_
 refine TL.gd (Pu.ld ty_sc3) ?_
 refine TL.gd (by first | exact Pu.fb ty_fa170_5 | exact Pu.fe ty_fa170_5) ?_
 refine TL.gd (Pu.lds ty_ag36) ?_
 refine TL.gm Mk.bl ?_
 intro b6
 refine TL.cr rfl (enters Tryz.func113 rfl rfl) (fun w hw => by
  exact orderedOne_any _ _ _ _ (hw.holds _ (List.mem_cons_self ..))) ?_
 refine TL.p Pu.kt ?_
 refine TL.p Pu.mv ?_
 refine TL.guard (t := 35) rfl (fun hg5 => ?_) (fun hg5 => ?_)
 refine TL.gd (by first | exact Pu.fb ty_fa170_6 | exact Pu.fe ty_fa170_6) ?_
 refine TL.gd (Pu.ld ty_sc3) ?_
 refine TL.gm Mk.bl ?_
 intro b7
 refine TL.cr rfl (enters Tryz.func69 rfl rfl) (fun w hw => by
  exact fromOne_any _ _ _ (hw.holds _ (List.mem_cons_self ..))) ?_
 refine TL.p Pu.kt ?_
 refine TL.p Pu.as ?_
 refine TL.nil ?_
 exact TQ.sub (by repeat (first | exact trivial | refine ⟨rfl, ?_⟩ | refine ⟨trivial, ?_⟩ | refine ⟨(by show some (Value.bool _) = some (Value.bool _); first | (simp [hg1, hg2, hg3, hg4, hg5, wellOk]; done) | (refine congrArg (fun z => some (Value.bool z)) (Bool.eq_iff_iff.2 ?_); simp [hg1, hg2, hg3, hg4, hg5, wellOk]; omega)), ?_⟩)) ks9 hJ1
 refine TL.gs ?_
 refine TL.gs ?_
 refine TL.gs ?_
 refine TL.gs ?_
 refine TL.p Pu.kf ?_
 refine TL.p Pu.as ?_
 refine TL.nil ?_
 exact TQ.sub (by repeat (first | exact trivial | refine ⟨rfl, ?_⟩ | refine ⟨trivial, ?_⟩ | refine ⟨(by show some (Value.bool _) = some (Value.bool _); first | (simp [hg1, hg2, hg3, hg4, hg5, wellOk]; done) | (refine congrArg (fun z => some (Value.bool z)) (Bool.eq_iff_iff.2 ?_); simp [hg1, hg2, hg3, hg4, hg5, wellOk]; omega)), ?_⟩)) ks9 hJ1
 refine TL.gs ?_
 refine TL.gs ?_
 refine TL.gs ?_
 refine TL.gs ?_
 refine TL.gs ?_
 refine TL.gs ?_
 refine TL.p Pu.kf ?_
 refine TL.p Pu.mv ?_
 refine TL.gs ?_
 refine TL.gs ?_
 refine TL.gs ?_
 refine TL.gs ?_
 refine TL.p Pu.kf ?_
 refine TL.p Pu.as ?_
 refine TL.nil ?_
 exact TQ.sub (by repeat (first | exact trivial | refine ⟨rfl, ?_⟩ | refine ⟨trivial, ?_⟩ | refine ⟨(by show some (Value.bool _) = some (Value.bool _); first | (simp [hg1, hg2, hg3, hg4, wellOk]; done) | (refine congrArg (fun z => some (Value.bool z)) (Bool.eq_iff_iff.2 ?_); simp [hg1, hg2, hg3, hg4, wellOk]; omega)), ?_⟩)) ks9 hJ1
 refine TL.gs ?_
 refine TL.gs ?_
 refine TL.gs ?_
 refine TL.gs ?_
 refine TL.p Pu.kf ?_
 refine TL.p Pu.mv ?_
 refine TL.gs ?_
 refine TL.gs ?_
 refine TL.gs ?_
 refine TL.gs ?_
 refine TL.gs ?_
 refine TL.gs ?_
 refine TL.p Pu.kf ?_
 refine TL.p Pu.mv ?_
 refine TL.gs ?_
 refine TL.gs ?_
 refine TL.gs ?_
 refine TL.gs ?_
 refine TL.p Pu.kf ?_
 refine TL.p Pu.as ?_
 refine TL.nil ?_
 exact TQ.sub (by repeat (first | exact trivial | refine ⟨rfl, ?_⟩ | refine ⟨trivial, ?_⟩ | refine ⟨(by show some (Value.bool _) = some (Value.bool _); first | (simp [hg1, hg2, hg3, wellOk]; done) | (refine congrArg (fun z => some (Value.bool z)) (Bool.eq_iff_iff.2 ?_); simp [hg1, hg2, hg3, wellOk]; omega)), ?_⟩)) ks9 hJ1
 refine TL.gs ?_
 refine TL.gs ?_
 refine TL.gs ?_
 refine TL.gs ?_
 refine TL.p Pu.kf ?_
 refine TL.p Pu.mv ?_
 refine TL.gs ?_
 refine TL.gs ?_
 refine TL.gs ?_
 refine TL.gs ?_
 refine TL.p Pu.kf ?_
 refine TL.p Pu.mv ?_
 refine TL.gs ?_
 refine TL.gs ?_
 refine TL.gs ?_
 refine TL.gs ?_
 refine TL.gs ?_
 refine TL.gs ?_
 refine TL.p Pu.kf ?_
 refine TL.p Pu.mv ?_
 refine TL.gs ?_
 refine TL.gs ?_
 refine TL.gs ?_
 refine TL.gs ?_
 refine TL.p Pu.kf ?_
 refine TL.p Pu.as ?_
 refine TL.nil ?_
 exact TQ.sub (by repeat (first | exact trivial | refine ⟨rfl, ?_⟩ | refine ⟨trivial, ?_⟩ | refine ⟨(by show some (Value.bool _) = some (Value.bool _); first | (simp [hg1, hg2, wellOk]; done) | (refine congrArg (fun z => some (Value.bool z)) (Bool.eq_iff_iff.2 ?_); simp [hg1, hg2, wellOk]; omega)), ?_⟩)) ks9 hJ1
 refine TL.gs ?_
 refine TL.gs ?_
 refine TL.gs ?_
 refine TL.gs ?_
 refine TL.p Pu.kf ?_
 refine TL.p Pu.mv ?_
 refine TL.gs ?_
 refine TL.gs ?_
 refine TL.gs ?_
 refine TL.gs ?_
 refine TL.p Pu.kf ?_
 refine TL.p Pu.mv ?_
 refine TL.gs ?_
 refine TL.gs ?_
 refine TL.gs ?_
 refine TL.gs ?_
 refine TL.p Pu.kf ?_
 refine TL.p Pu.mv ?_
 refine TL.gs ?_
 refine TL.gs ?_
 refine TL.gs ?_
 refine TL.gs ?_
 refine TL.gs ?_
 refine TL.gs ?_
 refine TL.p Pu.kf ?_
 refine TL.p Pu.mv ?_
 refine TL.gs ?_
 refine TL.gs ?_
 refine TL.gs ?_
 refine TL.gs ?_
 refine TL.p Pu.kf ?_
 refine TL.p Pu.as ?_
 refine TL.nil ?_
 exact TQ.sub (by repeat (first | exact trivial | refine ⟨rfl, ?_⟩ | refine ⟨trivial, ?_⟩ | refine ⟨(by show some (Value.bool _) = some (Value.bool _); first | (simp [hg1, wellOk]; done) | (refine congrArg (fun z => some (Value.bool z)) (Bool.eq_iff_iff.2 ?_); simp [hg1, wellOk]; omega)), ?_⟩)) ks9 hJ1
theorem checkWell_any (f : Nat → Int) (w : World) : Calls Tryz.prog 87 #[.agg (wellL f).toArray] w (Ret w (.bool (!wellOk f))) := by
 refine K_enter (S := []) (K := []) Tryz.func87 rfl Tryz.ntmps87 rfl (Sat.start _) ?_
 refine TW.seq fun Y1 hY1 => TW.region ?_
 refine TL.m Mk.bx ?_
 intro b1
 refine TL.p Pu.as ?_
 refine TL.nil (TQ.thenN (hY1 _ _ ?_))
 refine TW.seq fun Y2 hY2 => TW.region ?_
 refine TL.p (Pu.lds ty_ag170) ?_
 refine TL.cr rfl (enters Tryz.func88 rfl rfl) (fun w hw => by
  exact dug_any f _) ?_
 refine TL.p Pu.no ?_
 refine TL.p Pu.as ?_
 refine TL.nil (TQ.thenN (hY2 _ _ ?_))
 refine TW.ret ?_
 refine TQ.ret Tryz.results87 rfl ((.tmp rfl .nil)) ?_
 exact fun w hw => Ret.of hw
theorem indexWell_any {g : FuncId} {fs cs : List Value} {A : Option Addr} {n cp : Nat} {v : Nat → Nat → Int} {p : Nat → Bool} {M : Nat → List Fact} {w : World} (hen : Enters Tryz.prog g) (hn : n ≤ 9223372036854775807)
  (hR : RdR w 9 A n (fun k => wellL (v k))) (hA : 0 < n → Apart (feet (M 0)) A) (hM : Sat (feet (M 0)) w (M 0) w) (hfe : ∀ k, feet (M k) = feet (M 0))
  (hg : ∀ k, k < n → (∀ j, j < k → p j = false) → ∀ w', Sat (feet (M 0)) w (M k) w' → CallsK Tryz.prog g (fs ++ [Value.agg (wellL (v k)).toArray] ++ cs).toArray (M k) w' Unit (fun _ => .bool (p k)) (fun _ => M (k + 1))) :
  CallsK Tryz.prog 130 #[.slice A n cp, .func (.func g) fs.toArray cs.toArray] (M 0) w (Fst p n) (fun x => .int .i64 (if x.1 < n then (x.1 : Int) else -1)) (fun x => M (aft n x.1)) := by
 refine K_enter (S := feet (M 0)) (K := M 0) Tryz.func130 rfl Tryz.ntmps130 rfl hM ?_
 refine TW.seq fun Y1 hY1 => TW.region ?_
 refine TL.p Pu.as ?_
 refine TL.nil (TQ.thenN (hY1 _ _ ?_))
 refine TW.seq fun Y2 hY2 => ?_
 refine TW.seq fun Y3 hY3 => TW.region ?_
 refine TL.p Pu.mv ?_
 refine TL.p (Pu.ln Tryz.underlying22) ?_
 refine TL.p Pu.mv ?_
 refine TL.nil (TQ.thenN (hY3 _ _ ?_))
 refine TW.block ?_
 refine TW.loop1 (fun (k : Nat) => [(8, .int .i64 (k : Int)), (7, .int .i64 (n : Int)), (0, .slice A n cp), (1, .func (.func g) fs.toArray cs.toArray)]) (fun k => M k) (fun k => k ≤ n ∧ ∀ j, j < k → p j = false) (fun k => n - k) 0 fs9 ?_ ?_ ?_
 exact KSub.refl _
 exact ⟨by omega, fun j hj => by omega⟩
 rintro k ⟨hk, hall⟩ Z0 hZ0
 refine TW.seq fun Y4 hY4 => TW.region ?_
 refine TL.p Pu.lt ?_
 refine TL.nil (TQ.thenN (hY4 _ _ ?_))
 refine TW.seq fun Y5 hY5 => ?_
 refine TW.cond rfl (fun hc0 => ?_) (fun hc0 => ?_)
 try simp only [zcb9] at hc0
 have hkn : k < n := by omega
 have hA := hA (by omega)
 refine TW.skip ?_
 refine TQ.thenN (hY5 _ _ ?_)
 refine TW.seq fun Y6 hY6 => ?_
 refine TW.block ?_
 refine TW.seq fun Y7 hY7 => TW.region ?_
 refine TL.p Pu.mv ?_
 refine TL.p Pu.as ?_
 refine TL.nil (TQ.thenN (hY7 _ _ ?_))
 refine TW.seq fun Y8 hY8 => TW.region ?_
 refine TL.p Pu.mv ?_
 refine TL.p Pu.mv ?_
 refine TL.p Pu.mv ?_
 refine TL.p (Pu.el ty_et22) ?_
 refine TL.p (Pu.lds ty_ag170) ?_
 refine TL.cvk rfl rfl hen (by rw [List.append_nil]) (fun w hw => by
   exact hg k (by omega) hall w hw) ?_
 intro _
 refine TL.nil (TQ.thenN (hY8 _ _ ?_))
 refine TW.cond rfl (fun hc1 => ?_) (fun hc1 => ?_)
 try simp only [zcb9] at hc1
 refine TW.seq fun Y9 hY9 => TW.region ?_
 refine TL.p Pu.mv ?_
 refine TL.p Pu.as ?_
 refine TL.nil (TQ.thenN (hY9 _ _ ?_))
 refine TW.ret ?_
 refine TQ.blkR ?_
 refine TQ.thenR ?_
 refine TQ.thenR ?_
 refine TQ.blkR ?_
 refine TQ.thenR ?_
 refine TQ.ret Tryz.results130 rfl ((.tmp rfl .nil)) ?_
 exact fun w hw => ⟨⟨k, by omega, hall, fun _ => hc1⟩, by simp [hkn]; rfl, by simpa [aft, hkn] using hw⟩
 try simp only [zcb9] at hc1
 refine TW.skip ?_
 refine TQ.blkN ?_
 refine TQ.thenN (hY6 _ _ ?_)
 refine TW.region ?_
 refine TL.p Pu.ad ?_
 refine TL.p Pu.mv ?_
 refine TL.nil ?_
 refine TQ.thenN (hZ0 (k + 1) _ _ ?_ ?_ fs9 ?_)
 refine ⟨by omega, fun j hj => ?_⟩
 by_cases h : j = k
 subst h; exact hc1
 exact hall j (by omega)
 exact zom9
 rw [List.append_nil]; exact KSub.refl _
 try simp only [zcb9] at hc0
 have hkn : k = n := by omega
 refine TW.exit ?_
 refine TQ.thenX ?_
 refine TQ.thenX ?_
 refine TQ.blkX ?_
 refine TQ.thenN (hY2 _ _ ?_)
 refine TW.seq fun Y10 hY10 => TW.region ?_
 refine TL.p Pu.as ?_
 refine TL.nil (TQ.thenN (hY10 _ _ ?_))
 refine TW.ret ?_
 refine TQ.ret Tryz.results130 rfl ((.tmp rfl .nil)) ?_
 exact fun w hw => ⟨⟨k, by omega, hall, fun h => by omega⟩, by simp [hkn]; rfl, by simpa [aft, hkn] using hw⟩
theorem hasWell_st {g : FuncId} {fs cs : List Value} {A : Option Addr} {n cp : Nat} {v : Nat → Nat → Int} {p : Nat → Bool} {M : Nat → List Fact} {w : World} (hen : Enters Tryz.prog g) (hn : n ≤ 9223372036854775807)
  (hR : RdR w 9 A n (fun k => wellL (v k))) (hA : 0 < n → Apart (feet (M 0)) A) (hM : Sat (feet (M 0)) w (M 0) w) (hfe : ∀ k, feet (M k) = feet (M 0))
  (hg : ∀ k, k < n → (∀ j, j < k → p j = false) → ∀ w', Sat (feet (M 0)) w (M k) w' → CallsK Tryz.prog g (fs ++ [Value.agg (wellL (v k)).toArray] ++ cs).toArray (M k) w' Unit (fun _ => .bool (p k)) (fun _ => M (k + 1))) :
  CallsK Tryz.prog 86 #[.slice A n cp, .func (.func g) fs.toArray cs.toArray] (M 0) w (Fst p n) (fun x => .bool (decide (x.1 < n))) (fun x => M (aft n x.1)) := by
 refine K_enter (S := feet (M 0)) (K := M 0) Tryz.func86 rfl Tryz.ntmps86 rfl hM ?_
 refine TW.seq fun Y1 hY1 => TW.region ?_
 refine TL.p Pu.as ?_
 refine TL.nil (TQ.thenN (hY1 _ _ ?_))
 refine TW.seq fun Y2 hY2 => TW.region ?_
 refine TL.p Pu.mv ?_
 refine TL.p Pu.mv ?_
 refine TL.call rfl (enters Tryz.func130 rfl rfl) (by rw [List.append_nil]) rfl (fun w hw => by
   exact indexWell_any hen hn (hR.sat0 hw hA) hA hw.self hfe (fun k hk hp w' hw' => hg k hk hp w' (hw'.from hw.chg fun _ hb => .inl hb))) ?_
 intro x
 refine TL.p Pu.ge ?_
 refine TL.p Pu.as ?_
 refine TL.nil (TQ.thenN (hY2 _ _ ?_))
 refine TW.ret ?_
 refine TQ.ret Tryz.results86 rfl ((.tmp rfl .nil)) ?_
 exact fun w hw => ⟨x, by by_cases h : x.1 < n <;> simp [retV, h], by simpa using hw⟩
theorem hasWell_any {g : FuncId} {fs cs : List Value} {A : Option Addr} {n cp : Nat} {v : Nat → Nat → Int} {p : Nat → Bool} {w : World} (hen : Enters Tryz.prog g) (hn : n ≤ 9223372036854775807)
  (hR : RdR w 9 A n (fun k => wellL (v k))) (hg : ∀ k, k < n → ∀ w', Below w.heap.size w w' → Calls Tryz.prog g (fs ++ [Value.agg (wellL (v k)).toArray] ++ cs).toArray w' (Ret w' (.bool (p k)))) :
  Calls Tryz.prog 86 #[.slice A n cp, .func (.func g) fs.toArray cs.toArray] w (Ret w (.bool (anyB n p))) :=
 CallsK.retOf (hasWell_st (M := fun _ => []) hen hn hR (fun _ => Apart.nil) (Sat.start w) (fun _ => rfl) fun k hk _ w' hw' => CallsK.ret (hg k hk w' (Chg.ext hw'.chg))) fun x => by rw [x.any]; rfl
end Go.Proofs.YtfaenhhgkhcghaaGreatDoor
namespace Go.Proofs.YtfaenhhgkhcghaaGreatDoor
set_option linter.all false
set_option linter.unusedVariables false
set_option linter.unusedSimpArgs false
open Go.RowKit
def gateL (g : Nat → Int) : List Value := [.int .i64 (g 0), .int .i64 (g 1), .int .i64 (g 2), .int .i64 (g 3)]
structure Leg where
 u : Nat → Int
 A : Option Addr
 n : Nat
 c : Nat
def legL (x : Leg) : List Value := [.int .i64 (x.u 0), .int .i64 (x.u 1), .int .i64 (x.u 2), .int .i64 (x.u 3), .slice x.A x.n x.c]
def nxtG (g : Nat → Nat → Int) : Nat → Int
 | 0 => 0
 | k + 1 => g k 3 + 1
def gateOk (lo : Int) (g : Nat → Int) : Bool := ordB5 0 100000 (g 0) (g 1) && ordB5 0 100000 (g 2) (g 3) && inB5 lo (g 3) (g 0)
def gatesOk (n : Nat) (g : Nat → Nat → Int) : Bool := allB n fun k => gateOk (nxtG g k) (g k)
def legHead (nw : Nat) (u : Nat → Int) (n : Nat) : Bool := inB5 0 ((nw : Int) - 1) (u 0) && inB5 0 ((nw : Int) - 1) (u 1) && !decide (u 0 = u 1) && ordB5 1 1000000 (u 2) (u 3) && !decide (6 < (n : Int))
def legOk (nw : Nat) (u : Nat → Int) (n : Nat) (g : Nat → Nat → Int) : Bool := legHead nw u n && gatesOk n g
theorem gateOk_bd {lo : Int} {g : Nat → Int} (h : gateOk lo g = true) : 0 ≤ g 3 ∧ g 3 ≤ 100000 := by
 unfold gateOk ordB5 at h
 simp only [Bool.and_eq_true, decide_eq_true_eq] at h
 omega
theorem nxtG_bd {g : Nat → Nat → Int} {k : Nat} (h : ∀ j, j < k → gateOk (nxtG g j) (g j) = true) : 0 ≤ nxtG g k ∧ nxtG g k ≤ 100001 := by
 cases k with
 | zero => simp [nxtG]
 | succ k => have := gateOk_bd (h k (by omega)); simp only [nxtG]; omega
theorem gates_no {n k : Nat} {g : Nat → Nat → Int} (hk : k < n) (h : gateOk (nxtG g k) (g k) = false) : gatesOk n g = false := by
 unfold gatesOk
 rw [Bool.eq_false_iff]
 intro h2
 rw [allB_iff.1 h2 k hk] at h
 cases h
set_option maxRecDepth 100000 in
set_option maxHeartbeats 800000 in
theorem trodden_any (x : Leg) (nw : Nat) (g : Nat → Nat → Int) (w : World) (hw1 : nw ≤ 1000000) (hn : x.n ≤ 1000000) (hR : RdR w 4 x.A x.n (fun k => gateL (g k))) :
  Calls Tryz.prog 91 #[.agg (legL x).toArray, .int .i64 (nw : Int)] w (Ret w (.bool (legOk nw x.u x.n g))) := by
 obtain ⟨u, A, n, cp⟩ := x
 simp only at hn hR
 unfold legL
 simp only
 refine K_enter (S := []) (K := []) Tryz.func91 rfl Tryz.ntmps91 rfl (Sat.start _) ?_
 refine TW.seq fun Y1 hY1 => TW.region ?_
 refine TL.m Mk.bx ?_
 intro b1
 refine TL.p Pu.as ?_
 refine TL.nil (TQ.thenN (hY1 _ _ ?_))
 refine TW.seq fun Y2 hY2 => ?_
 refine TW.seq fun Y3 hY3 => ?_
 refine TW.join [(36, .bool (!legHead nw u n))] ?_ (fun hJ1 => ?_)
 refine TQ.thenN (hY3 _ _ ?_)
 refine TW.cond rfl (fun hc0 => ?_) (fun hc0 => ?_)
 try simp only [zcb9] at hc0
 have hh : legHead nw u n = false := by simpa using hc0
 refine TW.seq fun Y4 hY4 => TW.region ?_
 refine TL.p Pu.as ?_
 refine TL.nil (TQ.thenN (hY4 _ _ ?_))
 refine TW.ret ?_
 refine TQ.thenR ?_
 refine TQ.ret Tryz.results91 rfl ((.tmp rfl .nil)) ?_
 exact fun w hw => ⟨ret_bool (by unfold legOk; rw [hh]; rfl), Chg.ext hw.chg⟩
 try simp only [zcb9] at hc0
 have hh : legHead nw u n = true := by simpa using hc0
 refine TW.skip ?_
 refine TQ.thenN (hY2 _ _ ?_)
 refine TW.seq fun Y5 hY5 => TW.region ?_
 refine TL.p Pu.as ?_
 refine TL.nil (TQ.thenN (hY5 _ _ ?_))
 refine TW.seq fun Y6 hY6 => ?_
 refine TW.seq fun Y7 hY7 => TW.region ?_
 refine TL.p (by first | exact Pu.fb ty_fa107_3 | exact Pu.fe ty_fa107_3) ?_
 refine TL.p (Pu.ld ty_sc105) ?_
 refine TL.p (Pu.ln Tryz.underlying105) ?_
 refine TL.p Pu.mv ?_
 refine TL.nil (TQ.thenN (hY7 _ _ ?_))
 refine TW.block ?_
 refine TW.loop1 (fun (k : Nat) => [(40, .int .i64 (k : Int)), (39, .int .i64 (n : Int)), (38, .slice A n cp), (5, .int .i64 (nxtG g k))]) (fun k => []) (fun k => k ≤ n ∧ ∀ j, j < k → gateOk (nxtG g j) (g j) = true) (fun k => n - k) 0 fs9 ?_ ?_ ?_
 exact ks9
 exact ⟨Nat.zero_le _, fun j hj => by omega⟩
 rintro k ⟨hk, hall⟩ Z0 hZ0
 refine TW.seq fun Y8 hY8 => TW.region ?_
 refine TL.p Pu.lt ?_
 refine TL.nil (TQ.thenN (hY8 _ _ ?_))
 refine TW.seq fun Y9 hY9 => ?_
 refine TW.cond rfl (fun hc1 => ?_) (fun hc1 => ?_)
 try simp only [zcb9] at hc1
 have hkn : k < n := by omega
 have hbd := nxtG_bd hall
 refine TW.skip ?_
 refine TQ.thenN (hY9 _ _ ?_)
 refine TW.seq fun Y10 hY10 => ?_
 refine TW.block ?_
 refine TW.seq fun Y11 hY11 => TW.region ?_
 refine TL.p (Pu.el ty_et105) ?_
 refine TL.p (Pu.lds ty_ag104) ?_
 refine TL.m (Mk.al ty_zr104) ?_
 intro b2
 first | refine TL.st ty_sz104 ?_ | refine TL.se ty_sz104 ?_
 refine TL.nil (TQ.thenN (hY11 _ _ ?_))
 refine TW.seq fun Y12 hY12 => ?_
 refine TW.seq fun Y13 hY13 => ?_
 refine TW.join [(62, .bool (!gateOk (nxtG g k) (g k)))] ?_ (fun hJ2 => ?_)
 refine TQ.thenN (hY13 _ _ ?_)
 refine TW.cond rfl (fun hc2 => ?_) (fun hc2 => ?_)
 try simp only [zcb9] at hc2
 have hg : gateOk (nxtG g k) (g k) = false := by simpa using hc2
 refine TW.seq fun Y14 hY14 => TW.region ?_
 refine TL.p Pu.as ?_
 refine TL.nil (TQ.thenN (hY14 _ _ ?_))
 refine TW.ret ?_
 refine TQ.thenR ?_
 refine TQ.blkR ?_
 refine TQ.thenR ?_
 refine TQ.thenR ?_
 refine TQ.blkR ?_
 refine TQ.thenR ?_
 refine TQ.ret Tryz.results91 rfl ((.tmp rfl .nil)) ?_
 exact fun w hw => ⟨ret_bool (by unfold legOk; rw [hh, gates_no hkn hg]; rfl), Chg.ext hw.chg⟩
 try simp only [zcb9] at hc2
 have hg : gateOk (nxtG g k) (g k) = true := by simpa using hc2
 have hgb := gateOk_bd hg
 refine TW.skip ?_
 refine TQ.thenN (hY12 _ _ ?_)
 refine TW.region ?_
 refine TL.p (by first | exact Pu.fb ty_fa104_1 | exact Pu.fe ty_fa104_1) ?_
 refine TL.p (by first | exact Pu.fb ty_fa36_1 | exact Pu.fe ty_fa36_1) ?_
 refine TL.p (Pu.ld ty_sc3) ?_
 refine TL.p Pu.ad ?_
 refine TL.p Pu.as ?_
 refine TL.nil ?_
 refine TQ.blkN ?_
 refine TQ.thenN (hY10 _ _ ?_)
 refine TW.region ?_
 refine TL.p Pu.ad ?_
 refine TL.p Pu.mv ?_
 refine TL.nil ?_
 refine TQ.thenN (hZ0 (k + 1) _ _ ?_ ?_ fs9 ?_)
 refine ⟨by omega, fun j hj => ?_⟩
 by_cases h : j = k
 subst h; exact hg
 exact hall j (by omega)
 exact zom9
 exact ks9
 refine TW.region ?_
 refine TL.p (by first | exact Pu.fb ty_fa104_0 | exact Pu.fe ty_fa104_0) ?_
 refine TL.p (Pu.lds ty_ag36) ?_
 refine TL.p (by first | exact Pu.fb ty_fa104_1 | exact Pu.fe ty_fa104_1) ?_
 refine TL.p (Pu.lds ty_ag36) ?_
 refine TL.m Mk.bl ?_
 intro b3
 refine TL.cr rfl (enters Tryz.func113 rfl rfl) (fun w hw => by
   exact orderedTwo_any _ _ _ _ _ _ (hw.holds _ (List.mem_cons_self ..))) ?_
 refine TL.p Pu.no ?_
 refine TL.p Pu.mv ?_
 refine TL.guard (t := 51) rfl (fun hg1 => ?_) (fun hg1 => ?_)
 refine TL.gs ?_
 refine TL.gs ?_
 refine TL.gs ?_
 refine TL.gs ?_
 refine TL.gs ?_
 refine TL.gs ?_
 refine TL.gs ?_
 refine TL.gs ?_
 refine TL.gs ?_
 refine TL.gs ?_
 refine TL.p Pu.kt ?_
 refine TL.nil ?_
 exact TQ.sub (by repeat (first | exact trivial | refine ⟨rfl, ?_⟩ | refine ⟨trivial, ?_⟩ | refine ⟨(by show some (Value.bool _) = some (Value.bool _); first | (simp [hg1, gateOk]; done) | (refine congrArg (fun z => some (Value.bool z)) (Bool.eq_iff_iff.2 ?_); simp [hg1, gateOk]; omega)), ?_⟩)) ks9 hJ2
 refine TL.gd Pu.mv ?_
 refine TL.gd (by first | exact Pu.fb ty_fa104_1 | exact Pu.fe ty_fa104_1) ?_
 refine TL.gd (by first | exact Pu.fb ty_fa36_1 | exact Pu.fe ty_fa36_1) ?_
 refine TL.gd (Pu.ld ty_sc3) ?_
 refine TL.gd (by first | exact Pu.fb ty_fa104_0 | exact Pu.fe ty_fa104_0) ?_
 refine TL.gd (by first | exact Pu.fb ty_fa36_0 | exact Pu.fe ty_fa36_0) ?_
 refine TL.gd (Pu.ld ty_sc3) ?_
 refine TL.gm Mk.bl ?_
 intro b4
 refine TL.cr rfl (enters Tryz.func69 rfl rfl) (fun w hw => by
   exact fromOne_any _ _ _ (hw.holds _ (List.mem_cons_self ..))) ?_
 refine TL.gd Pu.no ?_
 refine TL.p Pu.kf ?_
 refine TL.nil ?_
 exact TQ.sub (by repeat (first | exact trivial | refine ⟨rfl, ?_⟩ | refine ⟨trivial, ?_⟩ | refine ⟨(by show some (Value.bool _) = some (Value.bool _); first | (simp [hg1, gateOk]; done) | (refine congrArg (fun z => some (Value.bool z)) (Bool.eq_iff_iff.2 ?_); simp [hg1, gateOk]; omega)), ?_⟩)) ks9 hJ2
 try simp only [zcb9] at hc1
 have hkn : k = n := by omega
 refine TW.exit ?_
 refine TQ.thenX ?_
 refine TQ.thenX ?_
 refine TQ.blkX ?_
 refine TQ.thenN (hY6 _ _ ?_)
 refine TW.seq fun Y15 hY15 => TW.region ?_
 refine TL.p Pu.as ?_
 refine TL.nil (TQ.thenN (hY15 _ _ ?_))
 refine TW.ret ?_
 refine TQ.ret Tryz.results91 rfl ((.tmp rfl .nil)) ?_
 exact fun w hw => ⟨ret_bool (by unfold legOk gatesOk; rw [hh, allB_iff.2 fun j hj => hall j (by omega)]; rfl), Chg.ext hw.chg⟩
 refine TW.region ?_
 refine TL.p Pu.mv ?_
 refine TL.p Pu.sb ?_
 refine TL.p (by first | exact Pu.fb ty_fa107_0 | exact Pu.fe ty_fa107_0) ?_
 refine TL.p (Pu.ld ty_sc3) ?_
 refine TL.p (by first | exact Pu.fb ty_fa107_1 | exact Pu.fe ty_fa107_1) ?_
 refine TL.p (Pu.ld ty_sc3) ?_
 refine TL.m Mk.bl ?_
 intro b5
 refine TL.cr rfl (enters Tryz.func69 rfl rfl) (fun w hw => by
   exact fromTwo_any _ _ _ _ (hw.holds _ (List.mem_cons_self ..))) ?_
 refine TL.p Pu.no ?_
 refine TL.p Pu.mv ?_
 refine TL.guard (t := 17) rfl (fun hg2 => ?_) (fun hg2 => ?_)
 refine TL.gs ?_
 refine TL.gs ?_
 refine TL.gs ?_
 refine TL.gs ?_
 refine TL.gs ?_
 refine TL.p Pu.kt ?_
 refine TL.p Pu.mv ?_
 refine TL.gs ?_
 refine TL.gs ?_
 refine TL.gs ?_
 refine TL.gs ?_
 refine TL.gs ?_
 refine TL.p Pu.kt ?_
 refine TL.p Pu.mv ?_
 refine TL.gs ?_
 refine TL.gs ?_
 refine TL.gs ?_
 refine TL.gs ?_
 refine TL.p Pu.kt ?_
 refine TL.nil ?_
 exact TQ.sub (by repeat (first | exact trivial | refine ⟨rfl, ?_⟩ | refine ⟨trivial, ?_⟩ | refine ⟨(by show some (Value.bool _) = some (Value.bool _); first | (simp [hg2, legHead]; done) | (refine congrArg (fun z => some (Value.bool z)) (Bool.eq_iff_iff.2 ?_); simp [hg2, legHead]; omega)), ?_⟩)) ks9 hJ1
 refine TL.gd (by first | exact Pu.fb ty_fa107_0 | exact Pu.fe ty_fa107_0) ?_
 refine TL.gd (Pu.ld ty_sc3) ?_
 refine TL.gd (by first | exact Pu.fb ty_fa107_1 | exact Pu.fe ty_fa107_1) ?_
 refine TL.gd (Pu.ld ty_sc3) ?_
 refine TL.gd Pu.eq ?_
 refine TL.p Pu.kf ?_
 refine TL.p Pu.mv ?_
 refine TL.guard (t := 24) rfl (fun hg3 => ?_) (fun hg3 => ?_)
 refine TL.gs ?_
 refine TL.gs ?_
 refine TL.gs ?_
 refine TL.gs ?_
 refine TL.gs ?_
 refine TL.p Pu.kt ?_
 refine TL.p Pu.mv ?_
 refine TL.gs ?_
 refine TL.gs ?_
 refine TL.gs ?_
 refine TL.gs ?_
 refine TL.p Pu.kt ?_
 refine TL.nil ?_
 exact TQ.sub (by repeat (first | exact trivial | refine ⟨rfl, ?_⟩ | refine ⟨trivial, ?_⟩ | refine ⟨(by show some (Value.bool _) = some (Value.bool _); first | (simp [hg2, hg3, legHead]; done) | (refine congrArg (fun z => some (Value.bool z)) (Bool.eq_iff_iff.2 ?_); simp [hg2, hg3, legHead]; omega)), ?_⟩)) ks9 hJ1
 refine TL.gd (by first | exact Pu.fb ty_fa107_2 | exact Pu.fe ty_fa107_2) ?_
 refine TL.gd (Pu.lds ty_ag36) ?_
 refine TL.gm Mk.bl ?_
 intro b6
 refine TL.cr rfl (enters Tryz.func113 rfl rfl) (fun w hw => by
   exact orderedOne_any _ _ _ _ (hw.holds _ (List.mem_cons_self ..))) ?_
 refine TL.gd Pu.no ?_
 refine TL.p Pu.kf ?_
 refine TL.p Pu.mv ?_
 refine TL.guard (t := 31) rfl (fun hg4 => ?_) (fun hg4 => ?_)
 refine TL.gs ?_
 refine TL.gs ?_
 refine TL.gs ?_
 refine TL.gs ?_
 refine TL.p Pu.kt ?_
 refine TL.nil ?_
 exact TQ.sub (by repeat (first | exact trivial | refine ⟨rfl, ?_⟩ | refine ⟨trivial, ?_⟩ | refine ⟨(by show some (Value.bool _) = some (Value.bool _); first | (simp [hg2, hg3, hg4, legHead]; done) | (refine congrArg (fun z => some (Value.bool z)) (Bool.eq_iff_iff.2 ?_); simp [hg2, hg3, hg4, legHead]; omega)), ?_⟩)) ks9 hJ1
 refine TL.gd (by first | exact Pu.fb ty_fa107_3 | exact Pu.fe ty_fa107_3) ?_
 refine TL.gd (Pu.ld ty_sc105) ?_
 refine TL.gd (Pu.ln Tryz.underlying105) ?_
 refine TL.gd Pu.gt ?_
 refine TL.p Pu.kf ?_
 refine TL.nil ?_
 exact TQ.sub (by repeat (first | exact trivial | refine ⟨rfl, ?_⟩ | refine ⟨trivial, ?_⟩ | refine ⟨(by show some (Value.bool _) = some (Value.bool _); first | (simp [hg2, hg3, hg4, legHead]; done) | (refine congrArg (fun z => some (Value.bool z)) (Bool.eq_iff_iff.2 ?_); simp [hg2, hg3, hg4, legHead]; omega)), ?_⟩)) ks9 hJ1
end Go.Proofs.YtfaenhhgkhcghaaGreatDoor
namespace Go.Proofs.YtfaenhhgkhcghaaGreatDoor
set_option linter.all false
set_option linter.unusedVariables false
set_option linter.unusedSimpArgs false
set_option linter.all false
set_option linter.unusedVariables false
set_option linter.unusedSimpArgs false
def thruB (g : Nat → Int) (op sh : Nat) (at_ n : Int) : Bool := decide (max at_ (g op) + n - 1 ≤ g sh)
def lvF (g : Nat → Nat → Int) (op sh : Nat) (at_ n : Int) : Nat → Int
 | 0 => 100001
 | k + 1 => if thruB (g k) op sh at_ n = true then min (lvF g op sh at_ n k) (max at_ (g k op)) else lvF g op sh at_ n k
theorem lv_le {g : Nat → Nat → Int} {op sh : Nat} {a n : Int} : ∀ k, lvF g op sh a n k ≤ 100001
 | 0 => by simp [lvF]
 | k + 1 => by
  have := lv_le (g := g) (op := op) (sh := sh) (a := a) (n := n) k
  simp only [lvF]
  split <;> omega
theorem lv_ge {g : Nat → Nat → Int} {op sh : Nat} {a n : Int} (ha : a ≤ 100001) : ∀ k, a ≤ lvF g op sh a n k
 | 0 => by simpa [lvF] using ha
 | k + 1 => by
  have := lv_ge (g := g) (op := op) (sh := sh) (n := n) ha k
  simp only [lvF]
  split <;> omega
theorem gate_in {n k : Nat} {g : Nat → Nat → Int} (h : gatesOk n g = true) (hk : k < n) :
  0 ≤ g k 0 ∧ g k 0 ≤ g k 1 ∧ g k 1 ≤ 100000 ∧ 0 ≤ g k 2 ∧ g k 2 ≤ g k 3 ∧ g k 3 ≤ 100000 ∧ g k 0 ≤ g k 3 ∧ nxtG g k ≤ g k 0 := by
 have := allB_iff.1 h k hk
 unfold gateOk ordB5 inB5 at this
 simp only [Bool.and_eq_true, decide_eq_true_eq] at this
 omega
theorem lv_mono {N : Nat} {g : Nat → Nat → Int} {a b n m : Int} (hg : gatesOk N g = true) (hab : a ≤ b) (hnm : n ≤ m) :
  ∀ k, k ≤ N → lvF g 0 3 a n k ≤ lvF g 1 2 b m k
 | 0, _ => by simp [lvF]
 | k + 1, hk => by
  have ih := lv_mono hg hab hnm k (by omega)
  have h1 := gate_in hg (show k < N by omega)
  simp only [lvF]
  by_cases hs : thruB (g k) 1 2 b m = true
  · have hb : thruB (g k) 0 3 a n = true := by
     simp only [thruB, decide_eq_true_eq] at hs ⊢
     omega
    rw [if_pos hs, if_pos hb]
    omega
  · rw [if_neg hs]
    split <;> omega
def arV (lv n : Int) : Int := min 100001 (lv + n)
def dyB (u : Nat → Int) (p1 : Int) : Int := (u 2 + p1 - 1) / p1
def dyS (u : Nat → Int) (p0 : Int) : Int := (u 3 + p0 - 1) / p0
theorem dy_bd {u : Nat → Int} {p0 p1 : Int} (h0 : 1 ≤ p0) (h1 : p0 ≤ p1) (hu : 1 ≤ u 2) (hv : u 2 ≤ u 3) (hw : u 3 ≤ 1000000) :
    1 ≤ dyB u p1 ∧ dyB u p1 ≤ dyS u p0 ∧ dyS u p0 ≤ 1000000 := by
  unfold dyB dyS
  refine ⟨?_, ?_, ?_⟩
  · rw [Int.le_ediv_iff_mul_le (by omega)]; omega
  · have e1 : u 2 + p1 - 1 = (u 2 - 1) + p1 := by omega
    have e0 : u 3 + p0 - 1 = (u 3 - 1) + p0 := by omega
    rw [e1, e0, Int.add_ediv_of_dvd_right ⟨1, by omega⟩, Int.add_ediv_of_dvd_right ⟨1, by omega⟩, Int.ediv_self (by omega), Int.ediv_self (by omega)]
    have k1 : (u 2 - 1) / p1 ≤ (u 2 - 1) / p0 := by
      rw [Int.le_ediv_iff_mul_le (by omega)]
      have q1 : 0 ≤ (u 2 - 1) / p1 := Int.ediv_nonneg (by omega) (by omega)
      have q2 : (u 2 - 1) / p1 * p1 ≤ u 2 - 1 := Int.ediv_mul_le _ (by omega)
      have q3 : (u 2 - 1) / p1 * p0 ≤ (u 2 - 1) / p1 * p1 := Int.mul_le_mul_of_nonneg_left h1 q1
      omega
    have k2 : (u 2 - 1) / p0 ≤ (u 3 - 1) / p0 := Int.ediv_le_ediv (by omega) (by omega)
    omega
  · have : (u 3 + p0 - 1) / p0 ≤ 1000000 := by
      have : u 3 + p0 - 1 < (1000000 + 1) * p0 := by
        have : 1000000 * 1 ≤ 1000000 * p0 := Int.mul_le_mul_of_nonneg_left h0 (by omega)
        omega
      have := (Int.ediv_lt_iff_lt_mul (by omega : (0:Int) < p0)).2 this
      omega
    exact this
end Go.Proofs.YtfaenhhgkhcghaaGreatDoor
namespace Go.Proofs.YtfaenhhgkhcghaaGreatDoor
set_option linter.all false
set_option linter.unusedVariables false
set_option linter.unusedSimpArgs false
set_option linter.all false
set_option linter.unusedVariables false
set_option linter.unusedSimpArgs false
def othV (u : Nat → Int) (well : Int) : Int := if u 0 = well then u 1 else if u 1 = well then u 0 else -1
def endV (nl : Nat) (u : Nat → Nat → Int) (leg well : Int) : Int := if 0 ≤ leg ∧ leg < nl then othV (u leg.toNat) well else -1
theorem endV_ok {nl : Nat} {u : Nat → Nat → Int} {leg well : Int} (h : 0 ≤ endV nl u leg well) : 0 ≤ leg ∧ leg < nl := by
 unfold endV at h
 split at h
 · assumption
 · omega
def wlV (nl : Nat) (u : Nat → Nat → Int) (ls : Nat → Int) (start : Int) : Nat → Int
 | 0 => start
 | k + 1 => endV nl u (ls k) (wlV nl u ls start k)
def lvB (u : Nat → Nat → Int) (gn : Nat → Nat) (g : Nat → Nat → Nat → Int) (p1 : Int) (i : Nat) (t : Int) : Int := lvF (g i) 0 3 t (dyB (u i) p1) (gn i)
def lvS (u : Nat → Nat → Int) (gn : Nat → Nat) (g : Nat → Nat → Nat → Int) (p0 : Int) (i : Nat) (t : Int) : Int := lvF (g i) 1 2 t (dyS (u i) p0) (gn i)
def arB (u : Nat → Nat → Int) (gn : Nat → Nat) (g : Nat → Nat → Nat → Int) (p1 : Int) (i : Nat) (t : Int) : Int := arV (lvB u gn g p1 i t) (dyB (u i) p1)
def arS (u : Nat → Nat → Int) (gn : Nat → Nat) (g : Nat → Nat → Nat → Int) (p0 : Int) (i : Nat) (t : Int) : Int := arV (lvS u gn g p0 i t) (dyS (u i) p0)
def atB (u : Nat → Nat → Int) (gn : Nat → Nat) (g : Nat → Nat → Nat → Int) (p1 : Int) (ls : Nat → Int) (day : Int) : Nat → Int
 | 0 => day
 | k + 1 => arB u gn g p1 (ls k).toNat (atB u gn g p1 ls day k)
def atS (u : Nat → Nat → Int) (gn : Nat → Nat) (g : Nat → Nat → Nat → Int) (p0 : Int) (ls : Nat → Int) (day : Int) : Nat → Int
 | 0 => day
 | k + 1 => arS u gn g p0 (ls k).toNat (atS u gn g p0 ls day k)
structure LegIn (u : Nat → Int) (n : Nat) (g : Nat → Nat → Int) : Prop where
 l0 : 1 ≤ u 2
 l1 : u 2 ≤ u 3
 l2 : u 3 ≤ 1000000
 hg : gatesOk n g = true
theorem legIn_of {nw n : Nat} {u : Nat → Int} {g : Nat → Nat → Int} (h : legOk nw u n g = true) : LegIn u n g := by
 unfold legOk legHead ordB5 inB5 at h
 simp only [Bool.and_eq_true, decide_eq_true_eq] at h
 exact ⟨by omega, by omega, by omega, h.2⟩
theorem lvB_bd {u : Nat → Nat → Int} {gn : Nat → Nat} {g : Nat → Nat → Nat → Int} {p1 : Int} {i : Nat} {t : Int} (ht : t ≤ 100001) :
 t ≤ lvB u gn g p1 i t ∧ lvB u gn g p1 i t ≤ 100001 := ⟨lv_ge ht _, lv_le _⟩
theorem lvS_bd {u : Nat → Nat → Int} {gn : Nat → Nat} {g : Nat → Nat → Nat → Int} {p0 : Int} {i : Nat} {t : Int} (ht : t ≤ 100001) :
 t ≤ lvS u gn g p0 i t ∧ lvS u gn g p0 i t ≤ 100001 := ⟨lv_ge ht _, lv_le _⟩
theorem leaves_le {u : Nat → Nat → Int} {gn : Nat → Nat} {g : Nat → Nat → Nat → Int} {p0 p1 : Int} {i : Nat} {s t : Int} (h0 : 1 ≤ p0) (h1 : p0 ≤ p1)
  (hi : LegIn (u i) (gn i) (g i)) (hst : s ≤ t) : lvB u gn g p1 i s ≤ lvS u gn g p0 i t :=
 lv_mono hi.hg hst (dy_bd h0 h1 hi.l0 hi.l1 hi.l2).2.1 _ (Nat.le_refl _)
theorem arrives_le {u : Nat → Nat → Int} {gn : Nat → Nat} {g : Nat → Nat → Nat → Int} {p0 p1 : Int} {i : Nat} {s t : Int} (h0 : 1 ≤ p0) (h1 : p0 ≤ p1)
  (hi : LegIn (u i) (gn i) (g i)) (hst : s ≤ t) : arB u gn g p1 i s ≤ arS u gn g p0 i t := by
 have a := leaves_le h0 h1 hi hst
 have b := dy_bd h0 h1 hi.l0 hi.l1 hi.l2
 unfold arB arS arV
 omega
theorem arS_bd {u : Nat → Nat → Int} {gn : Nat → Nat} {g : Nat → Nat → Nat → Int} {p0 p1 : Int} {i : Nat} {t : Int} (h0 : 1 ≤ p0) (h1 : p0 ≤ p1)
  (hi : LegIn (u i) (gn i) (g i)) (ht : t ≤ 100001) : t ≤ arS u gn g p0 i t ∧ arS u gn g p0 i t ≤ 100001 ∧ (arS u gn g p0 i t ≤ 100000 → lvS u gn g p0 i t < arS u gn g p0 i t) := by
 have a := lvS_bd (u := u) (gn := gn) (g := g) (p0 := p0) (i := i) ht
 have b := dy_bd h0 h1 hi.l0 hi.l1 hi.l2
 unfold arS arV
 omega
theorem arB_bd {u : Nat → Nat → Int} {gn : Nat → Nat} {g : Nat → Nat → Nat → Int} {p0 p1 : Int} {i : Nat} {t : Int} (h0 : 1 ≤ p0) (h1 : p0 ≤ p1)
  (hi : LegIn (u i) (gn i) (g i)) (ht : t ≤ 100001) : t ≤ arB u gn g p1 i t ∧ arB u gn g p1 i t ≤ 100001 := by
 have a := lvB_bd (u := u) (gn := gn) (g := g) (p1 := p1) (i := i) ht
 have b := dy_bd h0 h1 hi.l0 hi.l1 hi.l2
 unfold arB arV
 omega
theorem at_in {u : Nat → Nat → Int} {gn : Nat → Nat} {g : Nat → Nat → Nat → Int} {p0 p1 day : Int} {ls : Nat → Int} (h0 : 1 ≤ p0) (h1 : p0 ≤ p1) (hd : 0 ≤ day ∧ day ≤ 100000) :
  ∀ k, (∀ j, j < k → LegIn (u (ls j).toNat) (gn (ls j).toNat) (g (ls j).toNat)) →
   0 ≤ atB u gn g p1 ls day k ∧ atB u gn g p1 ls day k ≤ atS u gn g p0 ls day k ∧ atS u gn g p0 ls day k ≤ 100001
 | 0, _ => by simp only [atB, atS]; omega
 | k + 1, h => by
  have ih := at_in h0 h1 hd k fun j hj => h j (by omega)
  have hi := h k (by omega)
  simp only [atB, atS]
  have a := arrives_le h0 h1 hi ih.2.1
  have b := arS_bd h0 h1 hi (t := atS u gn g p0 ls day k) (by omega)
  have c := arB_bd h0 h1 hi (t := atB u gn g p1 ls day k) (by omega)
  omega
end Go.Proofs.YtfaenhhgkhcghaaGreatDoor
namespace Go.Proofs.YtfaenhhgkhcghaaGreatDoor
set_option linter.all false
set_option linter.unusedVariables false
set_option linter.unusedSimpArgs false
open Go.RowKit
def landL (W : Option Addr) (nw cw : Nat) (A : Option Addr) (nl cl : Nat) : List Value := [.slice W nw cw, .slice A nl cl]
structure LandIn (w : World) (W : Option Addr) (nw : Nat) (A : Option Addr) (nl : Nat) (f : Nat → Nat → Int) (x : Nat → Leg) (g : Nat → Nat → Nat → Int) : Prop where
 hnw : nw ≤ 1000
 hnl : nl ≤ 1000
 hW : RdR w 9 W nw (fun k => wellL (f k))
 hA : RdR w 5 A nl (fun k => legL (x k))
 hn : ∀ k, k < nl → (x k).n ≤ 1000
 hG : ∀ k, k < nl → RdR w 4 (x k).A (x k).n (fun j => gateL (g k j))
def landOk (nw nl : Nat) (f : Nat → Nat → Int) (x : Nat → Leg) (g : Nat → Nat → Nat → Int) : Bool :=
 inB5 1 12 (nw : Int) && !decide (24 < (nl : Int)) && (allB nw fun k => wellOk (f k)) && (allB nl fun k => legOk nw (x k).u (x k).n (g k))
theorem LandIn.ext {w w' : World} {W A : Option Addr} {nw nl : Nat} {f : Nat → Nat → Int} {x : Nat → Leg} {g : Nat → Nat → Nat → Int} (h : LandIn w W nw A nl f x g) (hb : Below w.heap.size w w') : LandIn w' W nw A nl f x g :=
 ⟨h.hnw, h.hnl, h.hW.chg (Chg.of_ext hb) Apart.nil, h.hA.chg (Chg.of_ext hb) Apart.nil, h.hn, fun k hk => (h.hG k hk).chg (Chg.of_ext hb) Apart.nil⟩
theorem indexLeg_any {g : FuncId} {fs cs : List Value} {A : Option Addr} {n cp : Nat} {v : Nat → Leg} {p : Nat → Bool} {M : Nat → List Fact} {w : World} (hen : Enters Tryz.prog g) (hn : n ≤ 9223372036854775807)
  (hR : RdR w 5 A n (fun k => legL (v k))) (hA : 0 < n → Apart (feet (M 0)) A) (hM : Sat (feet (M 0)) w (M 0) w) (hfe : ∀ k, feet (M k) = feet (M 0))
  (hg : ∀ k, k < n → (∀ j, j < k → p j = false) → ∀ w', Sat (feet (M 0)) w (M k) w' → CallsK Tryz.prog g (fs ++ [Value.agg (legL (v k)).toArray] ++ cs).toArray (M k) w' Unit (fun _ => .bool (p k)) (fun _ => M (k + 1))) :
  CallsK Tryz.prog 131 #[.slice A n cp, .func (.func g) fs.toArray cs.toArray] (M 0) w (Fst p n) (fun x => .int .i64 (if x.1 < n then (x.1 : Int) else -1)) (fun x => M (aft n x.1)) := by
 refine K_enter (S := feet (M 0)) (K := M 0) Tryz.func131 rfl Tryz.ntmps131 rfl hM ?_
 refine TW.seq fun Y1 hY1 => TW.region ?_
 refine TL.p Pu.as ?_
 refine TL.nil (TQ.thenN (hY1 _ _ ?_))
 refine TW.seq fun Y2 hY2 => ?_
 refine TW.seq fun Y3 hY3 => TW.region ?_
 refine TL.p Pu.mv ?_
 refine TL.p (Pu.ln Tryz.underlying23) ?_
 refine TL.p Pu.mv ?_
 refine TL.nil (TQ.thenN (hY3 _ _ ?_))
 refine TW.block ?_
 refine TW.loop1 (fun (k : Nat) => [(8, .int .i64 (k : Int)), (7, .int .i64 (n : Int)), (0, .slice A n cp), (1, .func (.func g) fs.toArray cs.toArray)]) (fun k => M k) (fun k => k ≤ n ∧ ∀ j, j < k → p j = false) (fun k => n - k) 0 fs9 ?_ ?_ ?_
 exact KSub.refl _
 exact ⟨by omega, fun j hj => by omega⟩
 rintro k ⟨hk, hall⟩ Z0 hZ0
 refine TW.seq fun Y4 hY4 => TW.region ?_
 refine TL.p Pu.lt ?_
 refine TL.nil (TQ.thenN (hY4 _ _ ?_))
 refine TW.seq fun Y5 hY5 => ?_
 refine TW.cond rfl (fun hc0 => ?_) (fun hc0 => ?_)
 try simp only [zcb9] at hc0
 have hkn : k < n := by omega
 have hA := hA (by omega)
 refine TW.skip ?_
 refine TQ.thenN (hY5 _ _ ?_)
 refine TW.seq fun Y6 hY6 => ?_
 refine TW.block ?_
 refine TW.seq fun Y7 hY7 => TW.region ?_
 refine TL.p Pu.mv ?_
 refine TL.p Pu.as ?_
 refine TL.nil (TQ.thenN (hY7 _ _ ?_))
 refine TW.seq fun Y8 hY8 => TW.region ?_
 refine TL.p Pu.mv ?_
 refine TL.p Pu.mv ?_
 refine TL.p Pu.mv ?_
 refine TL.p (Pu.el ty_et23) ?_
 refine TL.p (Pu.lds ty_ag107) ?_
 refine TL.cvk rfl rfl hen (by rw [List.append_nil]) (fun w hw => by
   exact hg k (by omega) hall w hw) ?_
 intro _
 refine TL.nil (TQ.thenN (hY8 _ _ ?_))
 refine TW.cond rfl (fun hc1 => ?_) (fun hc1 => ?_)
 try simp only [zcb9] at hc1
 refine TW.seq fun Y9 hY9 => TW.region ?_
 refine TL.p Pu.mv ?_
 refine TL.p Pu.as ?_
 refine TL.nil (TQ.thenN (hY9 _ _ ?_))
 refine TW.ret ?_
 refine TQ.blkR ?_
 refine TQ.thenR ?_
 refine TQ.thenR ?_
 refine TQ.blkR ?_
 refine TQ.thenR ?_
 refine TQ.ret Tryz.results131 rfl ((.tmp rfl .nil)) ?_
 exact fun w hw => ⟨⟨k, by omega, hall, fun _ => hc1⟩, by simp [hkn]; rfl, by simpa [aft, hkn] using hw⟩
 try simp only [zcb9] at hc1
 refine TW.skip ?_
 refine TQ.blkN ?_
 refine TQ.thenN (hY6 _ _ ?_)
 refine TW.region ?_
 refine TL.p Pu.ad ?_
 refine TL.p Pu.mv ?_
 refine TL.nil ?_
 refine TQ.thenN (hZ0 (k + 1) _ _ ?_ ?_ fs9 ?_)
 refine ⟨by omega, fun j hj => ?_⟩
 by_cases h : j = k
 subst h; exact hc1
 exact hall j (by omega)
 exact zom9
 rw [List.append_nil]; exact KSub.refl _
 try simp only [zcb9] at hc0
 have hkn : k = n := by omega
 refine TW.exit ?_
 refine TQ.thenX ?_
 refine TQ.thenX ?_
 refine TQ.blkX ?_
 refine TQ.thenN (hY2 _ _ ?_)
 refine TW.seq fun Y10 hY10 => TW.region ?_
 refine TL.p Pu.as ?_
 refine TL.nil (TQ.thenN (hY10 _ _ ?_))
 refine TW.ret ?_
 refine TQ.ret Tryz.results131 rfl ((.tmp rfl .nil)) ?_
 exact fun w hw => ⟨⟨k, by omega, hall, fun h => by omega⟩, by simp [hkn]; rfl, by simpa [aft, hkn] using hw⟩
theorem hasLeg_st {g : FuncId} {fs cs : List Value} {A : Option Addr} {n cp : Nat} {v : Nat → Leg} {p : Nat → Bool} {M : Nat → List Fact} {w : World} (hen : Enters Tryz.prog g) (hn : n ≤ 9223372036854775807)
  (hR : RdR w 5 A n (fun k => legL (v k))) (hA : 0 < n → Apart (feet (M 0)) A) (hM : Sat (feet (M 0)) w (M 0) w) (hfe : ∀ k, feet (M k) = feet (M 0))
  (hg : ∀ k, k < n → (∀ j, j < k → p j = false) → ∀ w', Sat (feet (M 0)) w (M k) w' → CallsK Tryz.prog g (fs ++ [Value.agg (legL (v k)).toArray] ++ cs).toArray (M k) w' Unit (fun _ => .bool (p k)) (fun _ => M (k + 1))) :
  CallsK Tryz.prog 89 #[.slice A n cp, .func (.func g) fs.toArray cs.toArray] (M 0) w (Fst p n) (fun x => .bool (decide (x.1 < n))) (fun x => M (aft n x.1)) := by
 refine K_enter (S := feet (M 0)) (K := M 0) Tryz.func89 rfl Tryz.ntmps89 rfl hM ?_
 refine TW.seq fun Y1 hY1 => TW.region ?_
 refine TL.p Pu.as ?_
 refine TL.nil (TQ.thenN (hY1 _ _ ?_))
 refine TW.seq fun Y2 hY2 => TW.region ?_
 refine TL.p Pu.mv ?_
 refine TL.p Pu.mv ?_
 refine TL.call rfl (enters Tryz.func131 rfl rfl) (by rw [List.append_nil]) rfl (fun w hw => by
   exact indexLeg_any hen hn (hR.sat0 hw hA) hA hw.self hfe (fun k hk hp w' hw' => hg k hk hp w' (hw'.from hw.chg fun _ hb => .inl hb))) ?_
 intro x
 refine TL.p Pu.ge ?_
 refine TL.p Pu.as ?_
 refine TL.nil (TQ.thenN (hY2 _ _ ?_))
 refine TW.ret ?_
 refine TQ.ret Tryz.results89 rfl ((.tmp rfl .nil)) ?_
 exact fun w hw => ⟨x, by by_cases h : x.1 < n <;> simp [retV, h], by simpa using hw⟩
theorem hasLeg_any {g : FuncId} {fs cs : List Value} {A : Option Addr} {n cp : Nat} {v : Nat → Leg} {p : Nat → Bool} {w : World} (hen : Enters Tryz.prog g) (hn : n ≤ 9223372036854775807)
  (hR : RdR w 5 A n (fun k => legL (v k))) (hg : ∀ k, k < n → ∀ w', Below w.heap.size w w' → Calls Tryz.prog g (fs ++ [Value.agg (legL (v k)).toArray] ++ cs).toArray w' (Ret w' (.bool (p k)))) :
  Calls Tryz.prog 89 #[.slice A n cp, .func (.func g) fs.toArray cs.toArray] w (Ret w (.bool (anyB n p))) :=
 CallsK.retOf (hasLeg_st (M := fun _ => []) hen hn hR (fun _ => Apart.nil) (Sat.start w) (fun _ => rfl) fun k hk _ w' hw' => CallsK.ret (hg k hk w' (Chg.ext hw'.chg))) fun x => by rw [x.any]; rfl
theorem checkLeg_any (x : Leg) {W A : Option Addr} {nw cw nl cl b : Nat} (g : Nat → Nat → Int) (w : World) (hw1 : nw ≤ 1000) (hn : x.n ≤ 1000) (hR : RdR w 4 x.A x.n (fun k => gateL (g k))) (h1 : OldB w b (landL W nw cw A nl cl)) :
  Calls Tryz.prog 90 #[.agg (legL x).toArray, .pointer (some ⟨b, 0, none⟩)] w (Ret w (.bool (!legOk nw x.u x.n g))) := by
 unfold landL at h1
 unfold legL
 refine K_enter (S := []) (K := []) Tryz.func90 rfl Tryz.ntmps90 rfl (Sat.start _) ?_
 refine TW.seq fun Y1 hY1 => TW.region ?_
 refine TL.m Mk.bx ?_
 intro b1
 refine TL.p Pu.as ?_
 refine TL.nil (TQ.thenN (hY1 _ _ ?_))
 refine TW.seq fun Y2 hY2 => TW.region ?_
 refine TL.p (by first | exact (Pu.lds ty_ag107) | exact (Pu.ldso ty_ag107)) ?_
 refine TL.p (by first | exact Pu.fb ty_fa25_0 | exact Pu.fe ty_fa25_0) ?_
 refine TL.p (by first | exact (Pu.ld ty_sc22) | exact (Pu.ldo ty_sc22)) ?_
 refine TL.p (Pu.ln Tryz.underlying22) ?_
 refine TL.cr rfl (enters Tryz.func91 rfl rfl) (fun w hw => by
   exact trodden_any x nw g _ (by omega) (by omega) (hR.sat hw Apart.nil)) ?_
 refine TL.p Pu.no ?_
 refine TL.p Pu.as ?_
 refine TL.nil (TQ.thenN (hY2 _ _ ?_))
 refine TW.ret ?_
 refine TQ.ret Tryz.results90 rfl ((.tmp rfl .nil)) ?_
 exact fun w hw => Ret.of hw
theorem landOk_any (nw nl : Nat) (f : Nat → Nat → Int) (x : Nat → Leg) (g : Nat → Nat → Nat → Int) : landOk nw nl f x g = (inB5 1 12 (nw : Int) && !decide (24 < (nl : Int)) && (!anyB nw fun k => !wellOk (f k)) && (!anyB nl fun k => !legOk nw (x k).u (x k).n (g k))) := by
 unfold landOk; simp only [not_anyB, Bool.not_not]
set_option maxRecDepth 100000 in
theorem wayCheck_any {W A : Option Addr} {nw cw nl cl : Nat} {f : Nat → Nat → Int} {x : Nat → Leg} {g : Nat → Nat → Nat → Int} {w : World} (h : LandIn w W nw A nl f x g) :
  Calls Tryz.prog 44 #[.agg (landL W nw cw A nl cl).toArray] w (Ret w (.int .i64 (if landOk nw nl f x g then 0 else 30))) := by
 have hnw := h.hnw
 have hnl := h.hnl
 unfold landL
 refine K_enter (S := []) (K := []) Tryz.func44 rfl Tryz.ntmps44 rfl (Sat.start _) ?_
 refine TW.seq fun Y1 hY1 => TW.region ?_
 refine TL.m Mk.bx ?_
 intro b1
 refine TL.p Pu.as ?_
 refine TL.nil (TQ.thenN (hY1 _ _ ?_))
 refine TW.seq fun Y2 hY2 => TW.region ?_
 refine TL.p (by first | exact Pu.fb ty_fa25_0 | exact Pu.fe ty_fa25_0) ?_
 refine TL.p (Pu.ld ty_sc22) ?_
 refine TL.cr rfl (enters Tryz.func86 rfl rfl) (fun w hw => by
   exact hasWell_any (fs := []) (cs := []) (v := f) (p := fun k => !wellOk (f k)) (enters Tryz.func87 rfl rfl) (by omega) (h.hW.sat hw Apart.nil) fun k hk w' hb => checkWell_any (f k) w') ?_
 refine TL.p Pu.no ?_
 refine TL.p Pu.as ?_
 refine TL.nil (TQ.thenN (hY2 _ _ ?_))
 refine TW.seq fun Y3 hY3 => TW.region ?_
 refine TL.p (by first | exact Pu.fb ty_fa25_1 | exact Pu.fe ty_fa25_1) ?_
 refine TL.p (Pu.ld ty_sc23) ?_
 refine TL.p Pu.fn ?_
 refine TL.cr rfl (enters Tryz.func89 rfl rfl) (fun w hw => by
   have h1 := OldB.of_blk (hw.holds (.blk b1 25 (landL W nw cw A nl cl)) (by simp [landL]))
   exact hasLeg_any (fs := []) (v := x) (p := fun k => !legOk nw (x k).u (x k).n (g k)) (enters Tryz.func90 rfl rfl) (by omega) (h.hA.sat hw Apart.nil) fun k hk w' hb => checkLeg_any (x k) (g k) w' hnw (h.hn k hk) (((h.hG k hk).sat hw Apart.nil).chg (Chg.of_ext hb) Apart.nil) (h1.ext hb)) ?_
 refine TL.p Pu.no ?_
 refine TL.p Pu.as ?_
 refine TL.nil (TQ.thenN (hY3 _ _ ?_))
 refine TW.seq fun Y4 hY4 => ?_
 refine TW.seq fun Y5 hY5 => ?_
 refine TW.join [(33, .bool (!(inB5 1 12 (nw : Int) && !decide (24 < (nl : Int)) && (!anyB nw fun k => !wellOk (f k)) && (!anyB nl fun k => !legOk nw (x k).u (x k).n (g k)))))] ?_ (fun hJ1 => ?_)
 refine TQ.thenN (hY5 _ _ ?_)
 refine TW.cond rfl (fun hc0 => ?_) (fun hc0 => ?_)
 try simp only [zcb9] at hc0
 have hh : landOk nw nl f x g = false := by
  rw [landOk_any]
  simp only [Bool.and_eq_false_iff, Bool.not_eq_false', decide_eq_true_eq]; exact hc0
 refine TW.seq fun Y6 hY6 => TW.region ?_
 refine TL.p Pu.as ?_
 refine TL.nil (TQ.thenN (hY6 _ _ ?_))
 refine TW.ret ?_
 refine TQ.thenR ?_
 refine TQ.ret Tryz.results44 rfl ((.tmp rfl .nil)) ?_
 exact fun w hw => ⟨ret_int (by rw [hh]; rfl), Chg.ext hw.chg⟩
 try simp only [zcb9] at hc0
 have hh : landOk nw nl f x g = true := by
  rw [landOk_any]
  simp only [Bool.and_eq_true, Bool.not_eq_true', decide_eq_false_iff_not, Int.not_lt]; exact hc0
 refine TW.skip ?_
 refine TQ.thenN (hY4 _ _ ?_)
 refine TW.seq fun Y7 hY7 => TW.region ?_
 refine TL.p Pu.as ?_
 refine TL.nil (TQ.thenN (hY7 _ _ ?_))
 refine TW.ret ?_
 refine TQ.ret Tryz.results44 rfl ((.tmp rfl .nil)) ?_
 exact fun w hw => ⟨ret_int (by rw [hh]; rfl), Chg.ext hw.chg⟩
 refine TW.region ?_
 refine TL.p (by first | exact Pu.fb ty_fa25_0 | exact Pu.fe ty_fa25_0) ?_
 refine TL.p (Pu.ld ty_sc22) ?_
 refine TL.p (Pu.ln Tryz.underlying22) ?_
 refine TL.m Mk.bl ?_
 intro b2
 refine TL.cr rfl (enters Tryz.func69 rfl rfl) (fun w hw => by
   exact fromOne_any _ _ _ (hw.holds _ (List.mem_cons_self ..))) ?_
 refine TL.p Pu.no ?_
 refine TL.p Pu.mv ?_
 refine TL.guard (t := 20) rfl (fun hg1 => ?_) (fun hg1 => ?_)
 refine TL.gs ?_
 refine TL.gs ?_
 refine TL.gs ?_
 refine TL.gs ?_
 refine TL.p Pu.kt ?_
 refine TL.p Pu.mv ?_
 refine TL.gs ?_
 refine TL.gs ?_
 refine TL.p Pu.kt ?_
 refine TL.p Pu.mv ?_
 refine TL.gs ?_
 refine TL.gs ?_
 refine TL.p Pu.kt ?_
 refine TL.nil ?_
 exact TQ.sub (by repeat (first | exact trivial | refine ⟨rfl, ?_⟩ | refine ⟨trivial, ?_⟩ | refine ⟨(by show some (Value.bool _) = some (Value.bool _); first | (simp [hg1]; done) | (refine congrArg (fun z => some (Value.bool z)) (Bool.eq_iff_iff.2 ?_); simp [hg1]; omega)), ?_⟩)) ks9 hJ1
 refine TL.gd (by first | exact Pu.fb ty_fa25_1 | exact Pu.fe ty_fa25_1) ?_
 refine TL.gd (Pu.ld ty_sc23) ?_
 refine TL.gd (Pu.ln Tryz.underlying23) ?_
 refine TL.gd Pu.gt ?_
 refine TL.p Pu.kf ?_
 refine TL.p Pu.mv ?_
 refine TL.guard (t := 26) rfl (fun hg2 => ?_) (fun hg2 => ?_)
 refine TL.gs ?_
 refine TL.gs ?_
 refine TL.p Pu.kt ?_
 refine TL.p Pu.mv ?_
 refine TL.gs ?_
 refine TL.gs ?_
 refine TL.p Pu.kt ?_
 refine TL.nil ?_
 exact TQ.sub (by repeat (first | exact trivial | refine ⟨rfl, ?_⟩ | refine ⟨trivial, ?_⟩ | refine ⟨(by show some (Value.bool _) = some (Value.bool _); first | (simp [hg1, hg2]; done) | (refine congrArg (fun z => some (Value.bool z)) (Bool.eq_iff_iff.2 ?_); simp [hg1, hg2]; omega)), ?_⟩)) ks9 hJ1
 refine TL.gd Pu.mv ?_
 refine TL.gd Pu.no ?_
 refine TL.p Pu.kf ?_
 refine TL.p Pu.mv ?_
 refine TL.guard (t := 30) rfl (fun hg3 => ?_) (fun hg3 => ?_)
 refine TL.gs ?_
 refine TL.gs ?_
 refine TL.p Pu.kt ?_
 refine TL.nil ?_
 exact TQ.sub (by repeat (first | exact trivial | refine ⟨rfl, ?_⟩ | refine ⟨trivial, ?_⟩ | refine ⟨(by show some (Value.bool _) = some (Value.bool _); first | (simp [hg1, hg2, hg3]; done) | (refine congrArg (fun z => some (Value.bool z)) (Bool.eq_iff_iff.2 ?_); simp [hg1, hg2, hg3]; omega)), ?_⟩)) ks9 hJ1
 refine TL.gd Pu.mv ?_
 refine TL.gd Pu.no ?_
 refine TL.p Pu.kf ?_
 refine TL.nil ?_
 exact TQ.sub (by repeat (first | exact trivial | refine ⟨rfl, ?_⟩ | refine ⟨trivial, ?_⟩ | refine ⟨(by show some (Value.bool _) = some (Value.bool _); first | (simp [hg1, hg2, hg3]; done) | (refine congrArg (fun z => some (Value.bool z)) (Bool.eq_iff_iff.2 ?_); simp [hg1, hg2, hg3]; omega)), ?_⟩)) ks9 hJ1
end Go.Proofs.YtfaenhhgkhcghaaGreatDoor
