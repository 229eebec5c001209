/-
  The statement TollFreeCardSaid: for every input the law TollFree returns true, and its arguments read afterwards as before; toll.bars reads as the program's text lays it, by the tie that is given. No other condition.
-/
import Derived.Test.YtmonkjnfjgidbaaGreatDoorFr12
import Derived.Test.YtmonkjnfjgidbaaGreatDoorFr02
import Derived.ProofKit
import Derived.Deep.Slices
import Derived.Carry
import Derived.Test.YtmonkjnfjgidbaaGreatDoorFr10
import Derived.Test.YtmonkjnfjgidbaaGreatDoorRows
import Derived.OpenShut
import Derived.LaidMore
import Derived.Stop.Joined
import Derived.Test.YtmonkjnfjgidbaaGreatDoorTie
import Derived.Test.YtmonkjnfjgidbaaGreatDoorCards
import Derived.SevenTiedAt
namespace Go.Proofs.YtmonkjnfjgidbaaGreatDoor
set_option linter.all false
set_option linter.unusedVariables false
set_option linter.unusedSimpArgs false
open Go.RowKit
def gstT (T : Trp) : Trp := ⟨0, 0, 0, T.nv, 0, fun _ => 0, T.v, fun _ => 0⟩
def gus (T : Trp) (q : Int) : Trp := { T with nv := (gudK (gstT T) [q] 8).length, v := fun k => (gudK (gstT T) [q] 8).getD k 0 }
theorem tri_at {v : Nat → Int} {n k : Nat} (h : triOk v n = true) (hk : k < n) : 0 ≤ v k ∧ v k ≤ 7 := by
  have h := allB_iff.1 h k hk
  unfold inB5 at h
  simp only [Bool.and_eq_true, decide_eq_true_eq] at h
  omega
theorem trp_split {T : Trp} (h : trpOk T = true) : triOk T.o T.no = true ∧ triOk T.u T.nu = true ∧ triOk T.v T.nv = true := by
  unfold trpOk at h
  simp only [Bool.and_eq_true] at h
  exact ⟨h.1.1.2, h.1.2, h.2⟩
section
variable {Z : Cus} {T : Trp} {q : Int}
theorem gus_has (h : trpOk T = true) (hq : 0 ≤ q ∧ q ≤ 7) (x : Int) : hasB (gus T q).v (gus T q).nv x = true ↔ hasB T.v T.nv x = true ∨ x = q := by
  have h9 := trp_split h
  show hasB (fun k => (gudK (gstT T) [q] 8).getD k 0) (gudK (gstT T) [q] 8).length x = true ↔ _
  rw [hasL_iff, gudK_mem, List.mem_singleton]
  show 0 ≤ x ∧ x < 8 ∧ (hasB T.v T.nv x = true ∨ x = q) ↔ _
  constructor
  · exact fun h => h.2.2
  · intro h1
    have hb : 0 ≤ x ∧ x ≤ 7 := by
      rcases h1 with h1 | h1
      · obtain ⟨k, hk, e⟩ := has_iff.1 h1
        rw [← e]; exact tri_at h9.2.2 hk
      · omega
    exact ⟨hb.1, by omega, h1⟩
theorem gus_ok (h : trpOk T = true) : trpOk (gus T q) = true := by
  have h9 := (tri_gud (T := gstT T) (l := [q]) 8 (Nat.le_refl _)).2
  unfold trpOk at h ⊢
  simp only [Bool.and_eq_true] at h ⊢
  exact ⟨h.1, h9⟩
theorem gus_tol {Y : Wy} (g : Gon Y Z T) : tolC Y Z (gus T q) = 0 := by
  rw [tol_wk (rdy_ok g.chk (gus_ok g.trp))]
  exact g.wk
theorem gus_on (h : trpOk T = true) (hq : 0 ≤ q ∧ q ≤ 7) (leg p t : Int) : onT Z (gus T q) leg p t = if p = q then 0 else onT Z T leg p t := by
  unfold onT
  by_cases hw : whoZ Z leg t = p
  · rw [if_pos hw, if_pos hw]
    unfold payZ
    unfold whoZ at hw
    by_cases hh : 0 ≤ holZ Z leg t
    · rw [if_pos hh] at hw
      rw [if_pos hh, if_pos hh, hw]
      show (if hasB (gus T q).v (gus T q).nv p = true then 0 else (hclZ Z leg t).1 4 * T.hd + ((hclZ Z leg t).1 5 * T.wo + 999) / 1000) = _
      by_cases e : p = q
      · rw [if_pos ((gus_has h hq p).2 (.inr e)), if_pos e]
      · rw [if_neg e]
        by_cases e2 : hasB T.v T.nv p = true
        · rw [if_pos ((gus_has h hq p).2 (.inl e2)), if_pos e2]
        · rw [if_neg (fun h9 => ((gus_has h hq p).1 h9).elim e2 e), if_neg e2]
    · rw [if_neg hh, if_neg hh]
      split <;> rfl
  · rw [if_neg hw, if_neg hw]
    split <;> rfl
theorem gus_pay (hok : CusOk Z) (h : trpOk T = true) (hq : 0 ≤ q ∧ q ≤ 7) (leg t : Int) : payZ Z (gus T q) leg t ≤ payZ Z T leg t := by
  have h9 := gus_on (Z := Z) h hq leg (whoZ Z leg t) t
  have hb := payZ_bd (leg := leg) (t := t) hok h
  unfold onT at h9
  rw [if_pos rfl, if_pos rfl] at h9
  rw [h9]
  split <;> omega
end
theorem mn0_le {v u : Nat → Int} (h : ∀ k, v k ≤ u k) : ∀ k, mn0 v k ≤ mn0 u k
  | 0 => Int.le_refl _
  | 1 => by rw [mn_first, mn_first]; have := h 0; omega
  | k + 2 => by
    rw [mn_next (v := v) (k := k + 1) (by omega), mn_next (v := u) (k := k + 1) (by omega)]
    have := mn0_le h (k + 1)
    have := h (k + 1)
    omega
theorem mx0_le {v u : Nat → Int} (h : ∀ k, v k ≤ u k) : ∀ k, mx0 v k ≤ mx0 u k
  | 0 => Int.le_refl _
  | k + 1 => by
    simp only [mx0]
    have := mx0_le h k
    have := h k
    omega
theorem mn0_zero {v : Nat → Int} (h : ∀ k, v k = 0) : ∀ k, mn0 v k = 0
  | 0 => rfl
  | 1 => by rw [mn_first, h]; rfl
  | k + 2 => by rw [mn_next (by omega), mn0_zero h (k + 1), h]; rfl
theorem mx0_zero {v : Nat → Int} (h : ∀ k, v k = 0) : ∀ k, mx0 v k = 0
  | 0 => rfl
  | k + 1 => by simp only [mx0]; rw [mx0_zero h k, h]; rfl
def noQ (q : Int) (L : List TlX) : List TlX := L.filter fun x => !decide (x.2.1 = q)
section
variable {Z : Cus} {T : Trp} {q : Int} {st : Nat → Nat → Int}
theorem gus_trb (h : trpOk T = true) (hq : 0 ≤ q ∧ q ≤ 7) (s : Nat → Int) (p : Nat) : trbLo Z (gus T q) s p = (if (p : Int) = q then 0 else trbLo Z T s p) ∧ trbHi Z (gus T q) s p = (if (p : Int) = q then 0 else trbHi Z T s p) := by
  unfold trbLo trbHi dLo dHi
  have h9 := fun t => gus_on (Z := Z) h hq (s 0) p t
  simp only [h9]
  by_cases e : (p : Int) = q
  · simp only [if_pos e]
    exact ⟨mn0_zero (fun _ => rfl) _, mx0_zero (fun _ => rfl) _⟩
  · simp only [if_neg e]
    exact ⟨trivial, trivial⟩
theorem gus_tolI (h : trpOk T = true) (hq : 0 ≤ q ∧ q ≤ 7) (s : Nat → Int) (i : Int) : ∀ p, tolI i (trbLo Z (gus T q) s) (trbHi Z (gus T q) s) p = noQ q (tolI i (trbLo Z T s) (trbHi Z T s) p)
  | 0 => rfl
  | p + 1 => by
    have ih := gus_tolI h hq s i p
    obtain ⟨e1, e2⟩ := gus_trb (Z := Z) h hq s p
    simp only [tolI]
    rw [e1, e2, ih]
    by_cases e : (p : Int) = q
    · rw [if_pos e, if_pos e, if_neg (by omega)]
      split
      · unfold noQ
        rw [List.filter_append]
        simp [e]
      · rfl
    · rw [if_neg e, if_neg e]
      split
      · unfold noQ
        rw [List.filter_append]
        simp [e]
      · rfl
theorem gus_tolA (h : trpOk T = true) (hq : 0 ≤ q ∧ q ≤ 7) : ∀ n, tolA Z (gus T q) st n = noQ q (tolA Z T st n)
  | 0 => rfl
  | n + 1 => by
    simp only [tolA]
    rw [gus_tolA h hq n, gus_tolI h hq]
    unfold noQ
    rw [List.filter_append]
theorem gus_all (hok : CusOk Z) (h : trpOk T = true) (hq : 0 ≤ q ∧ q ≤ 7) : ∀ n, allLo Z (gus T q) st n ≤ allLo Z T st n ∧ allHi Z (gus T q) st n ≤ allHi Z T st n
  | 0 => ⟨Int.le_refl _, Int.le_refl _⟩
  | n + 1 => by
    have ih := gus_all hok h hq n
    have h1 : sumLo Z (gus T q) (st n) ≤ sumLo Z T (st n) := mn0_le (fun _ => gus_pay hok h hq _ _) _
    have h2 : sumHi Z (gus T q) (st n) ≤ sumHi Z T (st n) := mx0_le (fun _ => gus_pay hok h hq _ _) _
    simp only [allLo, allHi]
    omega
theorem gus_due {Y : Wy} (g : Gon Y Z T) (hq : 0 ≤ q ∧ q ≤ 7) : dueL Y Z (gus T q) = noQ q (dueL Y Z T) ∧ dueLo Y Z (gus T q) ≤ dueLo Y Z T ∧ dueHi Y Z (gus T q) ≤ dueHi Y Z T := by
  have hok := chk_ok g.chk
  unfold dueL dueLo dueHi
  rw [if_pos (gus_tol g), if_pos g.tol, if_pos (gus_tol g), if_pos g.tol, if_pos (gus_tol g), if_pos g.tol]
  exact ⟨gus_tolA g.trp hq _, gus_all hok g.trp hq _⟩
theorem noQ_mem {L : List TlX} {x : TlX} (h : x ∈ noQ q L) : x ∈ L := (List.mem_filter.1 h).1
theorem noQ_len {L : List TlX} : (noQ q L).length ≤ L.length := List.length_filter_le _ _
theorem noQ_at {L : List TlX} {k : Nat} (h : k < (noQ q L).length) : ∃ j, j < L.length ∧ L.getD j (0, 0, 0, 0) = (noQ q L).getD k (0, 0, 0, 0) := by
  have h1 : (noQ q L).getD k (0, 0, 0, 0) ∈ noQ q L := by
    rw [List.getD_eq_getElem?_getD, List.getElem?_eq_getElem h]
    exact List.getElem_mem h
  obtain ⟨j, hj, e⟩ := List.getElem_of_mem (noQ_mem h1)
  refine ⟨j, hj, ?_⟩
  rw [List.getD_eq_getElem?_getD, List.getElem?_eq_getElem hj]
  exact e
end
def peoE (T : Trp) : Fes := ⟨T.no, T.o, fun _ => 0⟩
def few (T : Trp) (s : Nat) : Trp := { T with no := (selT (peoE T) s T.no).length, o := fun k => (selT (peoE T) s T.no).getD k 0 }
section
variable {Z : Cus} {T : Trp} {s : Nat}
theorem peo_ok (h : trpOk T = true) : fesOk (peoE T) = true := by
  have h9 := (trp_split h).1
  refine allB_iff.2 fun k hk => ?_
  have h1 := allB_iff.1 h9 k hk
  unfold feeK
  show (inB5 0 7 (T.o k) && inB5 0 1000000000000 0 && (decide (k = 0) || decide (T.o (k - 1) < T.o k))) = true
  rw [Bool.and_eq_true] at h1
  rw [h1.1, h1.2]
  rfl
theorem tri_sel {E : Fes} (h : fesOk E = true) : ∀ i, i ≤ E.nf → triOk (fun k => (selT E s i).getD k 0) (selT E s i).length = true
  | 0, _ => rfl
  | i + 1, hi => by
    have h2 := tri_sel h i (by omega)
    simp only [selT]
    split
    · have hb := fes_at h (show i < E.nf by omega)
      have hlt : ∀ x, x ∈ selT E s i → x < E.t i := fun x hx => by
        obtain ⟨j, hj, e⟩ := selT_mem i hx
        rw [← e]
        exact fes_lt h i hj (by omega)
      unfold triOk at h2 ⊢
      refine allB_iff.2 fun k hk => ?_
      rw [List.length_append, List.length_singleton] at hk
      by_cases e : k < (selT E s i).length
      · have := allB_iff.1 h2 k e
        simp only [List.getD_eq_getElem?_getD] at this ⊢
        rw [List.getElem?_append_left e]
        by_cases e0 : k = 0
        · subst e0
          simpa using this
        · rw [List.getElem?_append_left (by omega)]
          exact this
      · obtain rfl : k = (selT E s i).length := by omega
        simp only [List.getD_eq_getElem?_getD]
        rw [List.getElem?_append_right (by omega), Nat.sub_self]
        show (inB5 0 7 (E.t i) && (decide ((selT E s i).length = 0) || decide (((selT E s i ++ [E.t i])[(selT E s i).length - 1]?).getD 0 < E.t i))) = true
        have hb : inB5 0 7 (E.t i) = true := by unfold inB5; simp only [Bool.and_eq_true, decide_eq_true_eq]; omega
        rw [hb, Bool.true_and]
        by_cases e0 : (selT E s i).length = 0
        · rw [decide_eq_true e0]; rfl
        · rw [List.getElem?_append_left (by omega)]
          have := hlt _ (mem_getD (L := selT E s i) (k := (selT E s i).length - 1) (by omega))
          rw [List.getD_eq_getElem?_getD] at this
          rw [decide_eq_true this, Bool.or_true]
    · exact h2
theorem few_ok (h : trpOk T = true) : trpOk (few T s) = true := by
  have h9 := tri_sel (s := s) (peo_ok h) T.no (Nat.le_refl _)
  unfold trpOk at h ⊢
  simp only [Bool.and_eq_true] at h ⊢
  exact ⟨⟨⟨h.1.1.1, h9⟩, h.1.2⟩, h.2⟩
theorem few_tol {Y : Wy} (g : Gon Y Z T) : tolC Y Z (few T s) = 0 := by
  rw [tol_wk (rdy_ok g.chk (few_ok g.trp))]
  exact g.wk
theorem few_hat {leg day : Int} (h : hatZ Z (few T s) leg day = true) : hatZ Z T leg day = true := by
  unfold hatZ at h ⊢
  rw [Bool.and_eq_true] at h ⊢
  refine ⟨h.1, ?_⟩
  obtain ⟨i, hi, e⟩ := exB_iff.1 h.2
  have hi : i < (selT (peoE T) s T.no).length + T.nu := hi
  have e : feuZ Z (if i < (selT (peoE T) s T.no).length then (selT (peoE T) s T.no).getD i 0 else T.u (i - (selT (peoE T) s T.no).length)) ((hclZ Z leg day).1 1) day = true := e
  by_cases hl : i < (selT (peoE T) s T.no).length
  · rw [if_pos hl] at e
    obtain ⟨j, hj, e2⟩ := selT_mem T.no (mem_getD hl)
    have e2 : T.o j = (selT (peoE T) s T.no).getD i 0 := e2
    refine exB_iff.2 ⟨j, by omega, ?_⟩
    unfold peoA
    rw [if_pos hj, e2]
    exact e
  · rw [if_neg hl] at e
    refine exB_iff.2 ⟨T.no + (i - (selT (peoE T) s T.no).length), by omega, ?_⟩
    unfold peoA
    rw [if_neg (by omega), show T.no + (i - (selT (peoE T) s T.no).length) - T.no = i - (selT (peoE T) s T.no).length by omega]
    exact e
theorem few_why {leg day : Int} (h : whyZ Z T leg day = 0) : whyZ Z (few T s) leg day = 0 := by
  have h3 : losZ Z (few T s) leg day = losZ Z T leg day := rfl
  unfold whyZ whyV at h ⊢
  rw [h3]
  cases h1 : closZ Z leg day
  · rw [h1] at h
    cases h2 : hatZ Z T leg day
    · rw [h2] at h
      cases h4 : hatZ Z (few T s) leg day
      · exact h
      · rw [few_hat h4] at h2; cases h2
    · rw [h2] at h; simp at h
  · rw [h1] at h; simp at h
theorem why_all {Z : Cus} {T T' : Trp} {x : Nat → Int} (hz : ∀ leg day, whyZ Z T leg day = 0 → whyZ Z T' leg day = 0) (h : ¬ 0 < whyD Z T x) : ¬ 0 < whyD Z T' x := fun h9 => by
  obtain ⟨⟨t, ht, e⟩, _⟩ := why_some h9
  unfold whyD at h
  rcases wr_spec (f := fun t => whyZ Z T (x 0) t) (fun t => (whyZ_bd).1) (tuD Z (x 2) (x 5 - 1)) 0 (by omega) with ⟨_, _, q⟩ | ⟨q, _⟩
  · have := hz _ _ (q t ht)
    omega
  · exact h q
theorem few_bar {n : Nat} {st : Nat → Nat → Int} : (barD Z (few T s) n st).1 ≠ 0 → (barD Z T n st).1 ≠ 0 ∧ (barD Z T n st).2 ≤ (barD Z (few T s) n st).2 := fun h => by
  rcases bar_cases (Z := Z) (T := few T s) (n := n) (st := st) with ⟨k, hk, h1, _, e⟩ | ⟨_, e⟩
  · have hk2 : 0 < whyD Z T (st k) := by
      by_cases h9 : 0 < whyD Z T (st k)
      · exact h9
      · exact absurd h1 (why_all (fun _ _ => few_why) h9)
    rcases bar_cases (Z := Z) (T := T) (n := n) (st := st) with ⟨j, hj, h3, h4, e2⟩ | ⟨h3, _⟩
    · rw [e, e2]
      have : ¬ k < j := fun h9 => h4 k h9 hk2
      exact ⟨by simp only; omega, by simp only; omega⟩
    · exact absurd hk2 (h3 k hk)
  · rw [e] at h; exact absurd rfl h
end
def cus0 : Cus := ⟨0, 0, 0, fun _ => (fun _ => 0, false), fun _ _ => 0, fun _ _ => 0⟩
section
variable {Z : Cus} {T : Trp} {Y : Wy}
theorem cus0_chk (h : chkY Y Z = 0) : chkY Y cus0 = 0 := by
  unfold chkY checkC at h ⊢
  cases e : landOk Y.nw Y.nl Y.f Y.x Y.g with
  | true => rw [if_pos rfl]; rfl
  | false => rw [e, if_neg (by simp)] at h; cases h
theorem cus0_tol (g : Gon Y Z T) : tolC Y cus0 T = 0 := by
  rw [tol_wk (rdy_ok (cus0_chk g.chk) g.trp)]
  exact g.wk
theorem cus0_why {leg day : Int} : whyZ cus0 T leg day = 0 := rfl
theorem cus0_bar (g : Gon Y Z T) : barA Y cus0 T = (0, 0) := by
  rw [barA_ok (cus0_tol g)]
  refine brF_no _ fun j _ h => ?_
  obtain ⟨⟨t, _, e⟩, _⟩ := why_some h
  rw [cus0_why] at e
  omega
theorem cus0_pay {leg day : Int} : payZ cus0 T leg day = 0 := rfl
theorem cus0_on {leg q day : Int} : onT cus0 T leg q day = 0 := by unfold onT; rw [cus0_pay]; split <;> rfl
theorem cus0_due (g : Gon Y Z T) : dueL Y cus0 T = [] ∧ dueLo Y cus0 T = 0 ∧ dueHi Y cus0 T = 0 := by
  have a : ∀ n, allLo cus0 T (stY Y) n = 0 ∧ allHi cus0 T (stY Y) n = 0 := fun n => by
    induction n with
    | zero => exact ⟨rfl, rfl⟩
    | succ n ih =>
      simp only [allLo, allHi]
      rw [ih.1, ih.2]
      exact ⟨by rw [Int.zero_add]; exact mn0_zero (fun _ => cus0_pay) _, by rw [Int.zero_add]; exact mx0_zero (fun _ => cus0_pay) _⟩
  have b : ∀ (i : Int) (s : Nat → Int) (p : Nat), tolI i (trbLo cus0 T s) (trbHi cus0 T s) p = [] := fun i s p => by
    induction p with
    | zero => rfl
    | succ p ih =>
      simp only [tolI]
      have e : trbHi cus0 T s p = 0 := mx0_zero (fun _ => cus0_on) _
      rw [e, if_neg (by omega), ih]
  have d : ∀ n, tolA cus0 T (stY Y) n = [] := fun n => by
    induction n with
    | zero => rfl
    | succ n ih => simp only [tolA]; rw [ih, b]; rfl
  unfold dueL dueLo dueHi
  rw [if_pos (cus0_tol g), if_pos (cus0_tol g), if_pos (cus0_tol g)]
  exact ⟨d _, a _⟩
end
end Go.Proofs.YtmonkjnfjgidbaaGreatDoor
namespace Go.Proofs.YtmonkjnfjgidbaaGreatDoor
set_option linter.all false
set_option linter.unusedVariables false
set_option linter.unusedSimpArgs false
open Go.RowKit
section
variable {c : Cx} {F : Fr} {K : List Fact} {d : Option Tmp} {ty xt yt : TypeId} {pos : String} {af : Array Edge} {g : Option (Nat × Bool)} {x y : Operand}
theorem Pu.srU {b i : Nat} (hx : ev F x = some (.int .u8 (b : Int)) := by rfl) (hy : ev F y = some (.int .i64 (i : Int)) := by rfl) (hj : i ≤ 8 := by omega) : Pu c F K ⟨d, .binOp .shr xt x y yt, ty, pos, af, g⟩ (.int .u8 ((b / 2 ^ i : Nat) : Int)) := Pu.bin hx hy fun w => by
  have h9 : Min.min i 8 = i := Nat.min_eq_left hj
  go_simp
theorem bits_and8 {m : Nat} (hm : m ≤ 255) : bits .and .u8 (m : Int) 1 = ((m % 2 : Nat) : Int) := by
  have h1 : (BitVec.ofInt 8 (m : Int) &&& BitVec.ofInt 8 1).toNat = m % 2 := by
    rw [BitVec.toNat_and, BitVec.toNat_ofInt, BitVec.toNat_ofInt]
    have e1 : ((m : Int) % (2 ^ 8 : Nat)).toNat = m := by omega
    have e2 : ((1 : Int) % (2 ^ 8 : Nat)).toNat = 1 := by decide
    rw [e1, e2, Nat.and_one_is_mod]
  have h2 : bits .and .u8 (m : Int) 1 = IntKind.u8.wrap ((BitVec.ofInt 8 (m : Int) &&& BitVec.ofInt 8 1).toNat : Int) := rfl
  rw [h2, h1]
  have h3 : m % 2 = 0 ∨ m % 2 = 1 := by omega
  rcases h3 with e | e <;> rw [e] <;> rfl
theorem Pu.anU {m : Nat} (hx : ev F x = some (.int .u8 (m : Int)) := by rfl) (hy : ev F y = some (.int .u8 1) := by rfl) (hm : m ≤ 255 := by omega) : Pu c F K ⟨d, .binOp .and xt x y yt, ty, pos, af, g⟩ (.int .u8 ((m % 2 : Nat) : Int)) := Pu.bin hx hy fun w => by
  have h := bits_and8 hm
  go_simp
end
section
variable {Y : Wy} {Z : Cus} {T : Trp} {E : Fes} {W A L C D B O U V G : Option Addr} {cw cl cn cc cd cb co cu cv cg : Nat} {w : World}
end
end Go.Proofs.YtmonkjnfjgidbaaGreatDoor
namespace Go.Proofs.YtmonkjnfjgidbaaGreatDoor
set_option linter.all false
set_option linter.unusedVariables false
set_option linter.unusedSimpArgs false
open Go.RowKit
section
variable {leg day : Int} {c : Nat → (Nat → Int) × Bool}
end
section
variable {c : Nat → (Nat → Int) × Bool} {n : Nat}
end
theorem exB_s {n : Nat} {p : Nat → Bool} : exB (n + 1) p = (exB n p || p n) := by rw [← ex_any, ← ex_any, anyB_succ]
theorem Pu.bv {c : Cx} {F : Fr} {K : List Fact} {o : Oper} {b b' : Bool} (h : Pu c F K o (.bool b)) (e : b = b') : Pu c F K o (.bool b') := e ▸ h
end Go.Proofs.YtmonkjnfjgidbaaGreatDoor
namespace Go.Proofs.YtmonkjnfjgidbaaGreatDoor
set_option linter.all false
set_option linter.unusedVariables false
set_option linter.unusedSimpArgs false
open Go.RowKit
set_option maxRecDepth 100000 in
theorem eqToll (x y : Operand) (a b c d a' b' c' d' : Int) (w : World) : (do eqGuard .eql 78 x y (.agg #[.int .i64 a, .int .i64 b, .int .i64 c, .int .i64 d]) (.agg #[.int .i64 a', .int .i64 b', .int .i64 c', .int .i64 d']); binOp .eql 78 (.agg #[.int .i64 a, .int .i64 b, .int .i64 c, .int .i64 d]) (.agg #[.int .i64 a', .int .i64 b', .int .i64 c', .int .i64 d']) : Sem Value).run Tryz.prog w = .ok (.bool (decide (a = a' ∧ b = b' ∧ c = c' ∧ d = d'))) w := by
  by_cases h1 : a = a'
  · subst h1
    by_cases h2 : b = b'
    · subst h2
      by_cases h3 : c = c'
      · subst h3
        by_cases h4 : d = d'
        · subst h4; go_simp
        · go_simp
      · go_simp
    · go_simp
  · go_simp
theorem tl_ext {x y : TlX} : (x.1 = y.1 ∧ x.2.1 = y.2.1 ∧ x.2.2.1 = y.2.2.1 ∧ x.2.2.2 = y.2.2.2) ↔ x = y := by
  obtain ⟨a, b, c, d⟩ := x
  obtain ⟨a', b', c', d'⟩ := y
  simp only [Prod.mk.injEq]
theorem dueV_eq {Y : Wy} {Z : Cus} {T : Trp} : dueV Y Z T = fun y => .tuple #[.slice y.1 (dueL Y Z T).length y.2, .agg #[.int .i64 (dueLo Y Z T), .int .i64 (dueHi Y Z T)], .int .i64 (tolC Y Z T)] := rfl
theorem dueK_eq {Y : Wy} {Z : Cus} {T : Trp} : dueK Y Z T = fun y => [.own y.1 (dueL Y Z T).length y.2 78 4 (fun k => tolL ((dueL Y Z T).getD k (0, 0, 0, 0)))] := rfl
theorem eqTl (x y : Operand) (v u : TlX) (w : World) : (do eqGuard .eql 78 x y (.agg (tolL v).toArray) (.agg (tolL u).toArray); binOp .eql 78 (.agg (tolL v).toArray) (.agg (tolL u).toArray) : Sem Value).run Tryz.prog w = .ok (.bool (decide (v = u))) w := by
  have h := eqToll x y v.1 v.2.1 v.2.2.1 v.2.2.2 u.1 u.2.1 u.2.2.1 u.2.2.2 w
  rw [decide_eq_decide.2 tl_ext] at h
  exact h
section
variable {Y : Wy} {Z : Cus} {T : Trp} {W A L C D B O U V : Option Addr} {cw cl cn cc cd cb co cu cv : Nat} {w : World}
set_option maxRecDepth 100000 in
set_option maxHeartbeats 8000000 in
theorem lawFree_any (n s : Nat) (hn9 : n ≤ 255) (hs : s ≤ 255) (a : ArgIn w Y Z T W A L C D B O U V) (hG : OldB w 0 barsL) :
    Calls Tryz.prog 10 #[.agg (landL W Y.nw cw A Y.nl cl).toArray, .agg (custL C Z.nc cc D Z.nd cd B Z.nb cb).toArray, .agg (troopL T.hd T.wo O T.no co U T.nu cu V T.nv cv).toArray, .int .i64 Y.start, .int .i64 Y.day, .agg #[.int .i64 Y.p0, .int .i64 Y.p1], .slice L Y.n cn, .int .u8 (n : Int), .int .u8 (s : Int)] w (Ret w (.bool true)) := by
  have fG := fun (w' : World) (a' : ArgIn w' Y Z T W A L C D B O U V) => going_any (cw := cw) (cl := cl) (cn := cn) (cc := cc) (cd := cd) (cb := cb) (co := co) (cu := cu) (cv := cv) a'
  have aE : ∀ {w'}, Below w.heap.size w w' → ArgIn w' Y Z T W A L C D B O U V := fun hb => ⟨a.hRW.chg (Chg.of_ext hb) Apart.nil, a.hRA.chg (Chg.of_ext hb) Apart.nil, fun k hk => (a.hRG k hk).chg (Chg.of_ext hb) Apart.nil, a.hRC.chg (Chg.of_ext hb) Apart.nil, a.hRD.chg (Chg.of_ext hb) Apart.nil, a.hRB.chg (Chg.of_ext hb) Apart.nil, a.hRO.chg (Chg.of_ext hb) Apart.nil, a.hRU.chg (Chg.of_ext hb) Apart.nil, a.hRV.chg (Chg.of_ext hb) Apart.nil, a.hRL.chg (Chg.of_ext hb) Apart.nil⟩
  have fU := fun (w' : World) (M : Option Addr) (cm : Nat) (x : Int) (t' : TrpIn w' (gstT T) none V none) (h5 : RdR w' 1 M 1 (iL [x])) => guided_any (T := gstT T) (co := 0) (cu := cv) (cv := 0) (ca := cm) [x] (show 1 ≤ 1000 by decide) t' h5
  have fB := fun (w' : World) (Z' : Cus) (T' : Trp) (C' D' B' O' : Option Addr) (xc xd xb xo : Nat) (hn : Y.n ≤ 1000) (h1 : LandIn w' W Y.nw A Y.nl Y.f Y.x Y.g) (h2 : RdR w' 1 L Y.n (fun k => [.int .i64 (Y.ls k)])) (h3 : CustIn w' C' Z'.nc D' Z'.nd B' Z'.nb Z'.c Z'.d Z'.b) (h4 : TrpIn w' T' O' U V) (h5 : OldB w' 0 barsL) => tollBarred_any (cw := cw) (cl := cl) (cn := cn) (cc := xc) (cd := xd) (cb := xb) (co := xo) (cu := cu) (cv := cv) h1 hn h2 h3 h4 h5
  have fD := fun (w' : World) (Z' : Cus) (T' : Trp) (C' D' B' V' : Option Addr) (xc xd xb xv : Nat) (hn : Y.n ≤ 1000) (h1 : LandIn w' W Y.nw A Y.nl Y.f Y.x Y.g) (h2 : RdR w' 1 L Y.n (fun k => [.int .i64 (Y.ls k)])) (h3 : CustIn w' C' Z'.nc D' Z'.nd B' Z'.nb Z'.c Z'.d Z'.b) (h4 : TrpIn w' T' O U V') => tollDue_any (cw := cw) (cl := cl) (cn := cn) (cc := xc) (cd := xd) (cb := xb) (co := co) (cu := cu) (cv := xv) h1 hn h2 h3 h4
  unfold landL custL troopL at fG fB fD
  unfold troopL at fU
  unfold landL custL troopL
  have hRL := a.hRL
  have hRO := a.hRO
  refine K_enter (S := []) (K := []) Tryz.func10 rfl Tryz.ntmps10 rfl (Sat.start _) ?_
  refine TW.seq fun Y1 hY1 => ?_
  refine TW.region ?_
  refine TL.m Mk.bx ?_
  intro b1
  refine TL.m Mk.bx ?_
  intro b2
  refine TL.m Mk.bx ?_
  intro b3
  refine TL.m Mk.bx ?_
  intro b4
  refine TL.p Pu.as ?_
  refine TL.nil ?_
  refine TQ.thenN (hY1 _ _ ?_)
  refine TW.seq fun Y2 hY2 => ?_
  refine TW.region ?_
  refine TL.cr rfl (enters Tryz.func27 rfl rfl) (fun w hw => by
      exact alive_any (hG.ext (Chg.ext hw.chg))) ?_
  refine TL.p Pu.as ?_
  refine TL.nil ?_
  refine TQ.thenN (hY2 _ _ ?_)
  refine TW.seq fun Y3 hY3 => ?_
  refine TW.region ?_
  refine TL.p (Pu.lds ty_ag25) ?_
  refine TL.p (Pu.lds ty_ag30) ?_
  refine TL.p (Pu.lds ty_ag33) ?_
  refine TL.p Pu.mv ?_
  refine TL.p Pu.mv ?_
  refine TL.p (Pu.lds ty_ag35) ?_
  refine TL.p Pu.mv ?_
  refine TL.call (M := []) rfl (enters Tryz.func28 rfl rfl) (List.Perm.refl _) rfl (fun w hw => by
      exact fG _ (aE (Chg.ext hw.chg))) ?_
  rintro ⟨As, cs⟩
  simp only [gonV, gonK, List.cons_append, List.nil_append]
  refine TL.p Pu.mv ?_
  refine TL.p Pu.ex ?_
  refine TL.p Pu.ex ?_
  refine TL.p Pu.as ?_
  refine TL.p Pu.as ?_
  refine TL.nil ?_
  refine TQ.thenN (hY3 _ _ ?_)
  refine TW.seq fun Y4 hY4 => ?_
  refine TW.seq fun Y5 hY5 => ?_
  refine TW.join [(66, .bool (!gonB Y Z T))] ?_ (fun hJ1 => ?_)
  refine TQ.thenN (hY5 _ _ ?_)
  refine TW.cond rfl (fun hc0 => ?_) (fun hc0 => ?_)
  try simp only [decide_eq_true_eq, decide_eq_false_iff_not, Bool.not_eq_true', Bool.not_eq_false', Bool.and_eq_true, Bool.or_eq_true, Bool.and_eq_false_iff, Bool.or_eq_false_iff, Int.not_lt, Int.not_le] at hc0
  refine TW.seq fun Y6 hY6 => ?_
  refine TW.region ?_
  refine TL.p Pu.mv ?_
  refine TL.p Pu.as ?_
  refine TL.nil ?_
  refine TQ.thenN (hY6 _ _ ?_)
  refine TW.ret ?_
  refine TQ.thenR ?_
  refine TQ.ret Tryz.results10 rfl ((.tmp rfl .nil)) ?_
  exact fun w hw => Ret.of hw
  try simp only [decide_eq_true_eq, decide_eq_false_iff_not, Bool.not_eq_true', Bool.not_eq_false', Bool.and_eq_true, Bool.or_eq_true, Bool.and_eq_false_iff, Bool.or_eq_false_iff, Int.not_lt, Int.not_le] at hc0
  have hgo : gonB Y Z T = true := by simpa using hc0
  have g := gon_of hgo
  have hgn : gonN Y Z T = Y.n := if_pos hgo
  rw [hgn]
  have hn1 : Y.n ≤ 1000 := by have := g.n30; omega
  have htr := g.trp
  have hok := chk_ok g.chk
  have hto := hidT g.tol
  have hq : 0 ≤ (n : Int) % 8 ∧ (n : Int) % 8 ≤ 7 := by omega
  have htg := hidT (gus_tol (q := (n : Int) % 8) g)
  have htf := hidT (few_tol (s := s) g)
  have ht0 := hidT (cus0_tol g)
  have hb0 := hidT (cus0_bar g)
  have hd0 := cus0_due g
  have hd01 := hidT hd0.1
  have hd02 := hidT hd0.2.1
  have hd03 := hidT hd0.2.2
  clear hd0
  obtain ⟨hgd, hlo, hhi⟩ := gus_due (q := (n : Int) % 8) g hq
  have hfb := few_bar (Z := Z) (T := T) (s := s) (n := Y.n) (st := stY Y)
  rw [← barA_ok g.tol, ← barA_ok (few_tol (s := s) g)] at hfb
  have hl3 := trp_lens htr
  obtain ⟨r, hr⟩ : ∃ r, r = barA Y Z T := ⟨_, rfl⟩
  obtain ⟨x, hx⟩ : ∃ x, x = barA Y Z (few T s) := ⟨_, rfl⟩
  rw [← hr, ← hx] at hfb
  replace hr := hidT hr
  replace hx := hidT hx
  obtain ⟨D0, hD0⟩ : ∃ D0, D0 = dueL Y Z T := ⟨_, rfl⟩
  obtain ⟨D1, hD1⟩ : ∃ D1, D1 = dueL Y Z (gus T ((n : Int) % 8)) := ⟨_, rfl⟩
  rw [← hD0, ← hD1] at hgd
  obtain ⟨lo0, hlo0⟩ : ∃ x, x = dueLo Y Z T := ⟨_, rfl⟩
  obtain ⟨hi0, hhi0⟩ : ∃ x, x = dueHi Y Z T := ⟨_, rfl⟩
  obtain ⟨lo1, hlo1⟩ : ∃ x, x = dueLo Y Z (gus T ((n : Int) % 8)) := ⟨_, rfl⟩
  obtain ⟨hi1, hhi1⟩ : ∃ x, x = dueHi Y Z (gus T ((n : Int) % 8)) := ⟨_, rfl⟩
  rw [← hlo0, ← hlo1] at hlo
  rw [← hhi0, ← hhi1] at hhi
  replace hD0 := hidT hD0
  replace hD1 := hidT hD1
  replace hlo0 := hidT hlo0
  replace hlo1 := hidT hlo1
  replace hhi0 := hidT hhi0
  replace hhi1 := hidT hhi1
  have hlen : D1.length ≤ D0.length := by rw [hgd]; exact noQ_len
  have hsub : ∀ k, k < D1.length → ∃ j, j < D0.length ∧ D0.getD j (0, 0, 0, 0) = D1.getD k (0, 0, 0, 0) := fun k hk => by
    rw [hgd] at hk ⊢
    exact noQ_at hk
  have hDl : D0.length ≤ 1000000 := by
    rw [hD0.out]
    unfold dueL
    rw [if_pos hto.out]
    have := tolA_len (Z := Z) (T := T) (st := stY Y) Y.n
    omega
  replace hgd := hidT hgd
  refine TW.skip ?_
  refine TQ.thenN (hY4 _ _ ?_)
  refine TW.seq fun Y7 hY7 => ?_
  refine TW.region ?_
  refine TL.p (Pu.lds ty_ag25) ?_
  refine TL.p (Pu.lds ty_ag30) ?_
  refine TL.p (Pu.lds ty_ag33) ?_
  refine TL.p Pu.mv ?_
  refine TL.p Pu.mv ?_
  refine TL.p (Pu.lds ty_ag35) ?_
  refine TL.p Pu.mv ?_
  refine TL.cr rfl (enters Tryz.func18 rfl rfl) (fun w hw => by
      have h9 := fB _ Z T C D B O cc cd cb co hn1 ((a.land g.gr).ext (Chg.ext hw.chg)) (hRL.sat hw Apart.nil) ((a.cust g.gr).ext (Chg.ext hw.chg)) ((a.trp g.gr).ext (Chg.ext hw.chg)) (hG.ext (Chg.ext hw.chg))
      rw [hto.out, ← hr.out] at h9
      exact h9) ?_
  refine TL.p Pu.mv ?_
  refine TL.p Pu.ex ?_
  refine TL.p Pu.ex ?_
  refine TL.p Pu.ex ?_
  refine TL.p Pu.as ?_
  refine TL.p Pu.as ?_
  refine TL.p Pu.as ?_
  refine TL.nil ?_
  refine TQ.thenN (hY7 _ _ ?_)
  refine TW.seq fun Y8 hY8 => ?_
  refine TW.region ?_
  refine TL.p (Pu.lds ty_ag25) ?_
  refine TL.p (Pu.lds ty_ag30) ?_
  refine TL.p (Pu.lds ty_ag33) ?_
  refine TL.p Pu.mv ?_
  refine TL.p Pu.mv ?_
  refine TL.p (Pu.lds ty_ag35) ?_
  refine TL.p Pu.mv ?_
  refine TL.call (M := []) rfl (enters Tryz.func20 rfl rfl) (List.Perm.refl _) rfl (fun w hw => by
      have h9 := fD _ Z T C D B V cc cd cb cv hn1 ((a.land g.gr).ext (Chg.ext hw.chg)) (hRL.sat hw Apart.nil) ((a.cust g.gr).ext (Chg.ext hw.chg)) ((a.trp g.gr).ext (Chg.ext hw.chg))
      rw [dueV_eq, dueK_eq] at h9
      rw [hto.out, ← hD0.out, ← hlo0.out, ← hhi0.out] at h9
      exact h9) ?_
  rintro ⟨P0, p0⟩
  simp only [List.cons_append, List.nil_append]
  refine TL.p Pu.mv ?_
  refine TL.p Pu.ex ?_
  refine TL.p Pu.ex ?_
  refine TL.p Pu.ex ?_
  refine TL.m (Mk.al ty_zr35) ?_
  intro b5
  refine TL.p Pu.as ?_
  first | refine TL.st ty_sz35 ?_ | refine TL.se ty_sz35 ?_
  refine TL.p Pu.as ?_
  refine TL.nil ?_
  refine TQ.thenN (hY8 _ _ ?_)
  refine TW.seq fun Y9 hY9 => ?_
  refine TW.region ?_
  refine TL.p (Pu.lds ty_ag33) ?_
  refine TL.m (Mk.al ty_zr33) ?_
  intro b6
  first | refine TL.st ty_sz33 ?_ | refine TL.se ty_sz33 ?_
  refine TL.nil ?_
  refine TQ.thenN (hY9 _ _ ?_)
  refine TW.seq fun Y10 hY10 => ?_
  refine TW.region ?_
  refine TL.p (by first | exact Pu.fb ty_fa33_4 | exact Pu.fe ty_fa33_4) ?_
  refine TL.p (Pu.ld ty_sc31) ?_
  refine TL.p Pu.bd ?_
  refine TL.p Pu.mv ?_
  refine TL.p (Pu.cv (v := .int .i64 (n : Int)) rfl (fun w => by go_simp; rw [IntWalk.i64_in (n : Int) (by omega)])) ?_
  refine TL.p Pu.rm ?_
  refine TL.m Mk.bl ?_
  intro b7
  refine TL.call (M := []) rfl (enters Tryz.func40 rfl rfl) (List.Perm.refl _) rfl (fun w hw => by
      have t2 := (a.trp g.gr).ext (Chg.ext hw.chg)
      exact fU _ _ _ ((n : Int) % 8) ⟨Nat.zero_le _, t2.hnv, Nat.zero_le _, ⟨Rd.nil, fun i hi => absurd hi (Nat.not_lt_zero i)⟩, t2.hV, ⟨Rd.nil, fun i hi => absurd hi (Nat.not_lt_zero i)⟩⟩ (RdR.blk (cs := [.int .i64 ((n : Int) % 8)]) (n := 1) (sz := 1) (hw.holds _ (List.mem_cons_self ..)) rfl (fun _ _ => rfl))) ?_
  rintro ⟨Ag, ag⟩
  refine TL.p Pu.fd ?_
  refine TL.p (by first | exact Pu.fb ty_fa33_4 | exact Pu.fe ty_fa33_4) ?_
  first | refine TL.st ty_sz31 ?_ | refine TL.se ty_sz31 ?_
  refine TL.nil ?_
  refine TQ.thenN (hY10 _ _ ?_)
  refine TW.seq fun Y11 hY11 => ?_
  refine TW.region ?_
  refine TL.p (Pu.lds ty_ag25) ?_
  refine TL.p (Pu.lds ty_ag30) ?_
  refine TL.p (Pu.lds ty_ag33) ?_
  refine TL.p Pu.mv ?_
  refine TL.p Pu.mv ?_
  refine TL.p (Pu.lds ty_ag35) ?_
  refine TL.p Pu.mv ?_
  refine TL.call (M := []) rfl (enters Tryz.func20 rfl rfl) (List.Perm.refl _) rfl (fun w hw => by
      have t2 := (a.trp g.gr).ext (Chg.ext hw.chg)
      have h9 := fD _ Z (gus T ((n : Int) % 8)) C D B Ag cc cd cb ag hn1 ((a.land g.gr).ext (Chg.ext hw.chg)) (hRL.sat hw Apart.nil) ((a.cust g.gr).ext (Chg.ext hw.chg)) ⟨t2.hno, t2.hnu, Nat.le_trans (gudK_len 8) (by omega), t2.hO, t2.hU, OwnR.rdr (hw.holds (.own Ag (gudK (gstT T) [(n : Int) % 8] 8).length ag 3 1 (iL (gudK (gstT T) [(n : Int) % 8] 8))) (Pick.mem pk9))⟩
      rw [dueV_eq, dueK_eq] at h9
      rw [htg.out, ← hD1.out, ← hlo1.out, ← hhi1.out] at h9
      exact h9) ?_
  rintro ⟨P1, p1⟩
  simp only [List.cons_append, List.nil_append]
  refine TL.p Pu.mv ?_
  refine TL.p Pu.ex ?_
  refine TL.p Pu.ex ?_
  refine TL.p Pu.ex ?_
  refine TL.m (Mk.al ty_zr35) ?_
  intro b8
  refine TL.p Pu.as ?_
  first | refine TL.st ty_sz35 ?_ | refine TL.se ty_sz35 ?_
  refine TL.p Pu.as ?_
  refine TL.nil ?_
  refine TQ.thenN (hY11 _ _ ?_)
  refine TW.seq fun Y12 hY12 => ?_
  refine TW.seq fun Y13 hY13 => ?_
  refine TW.join [(145, .bool false)] ?_ (fun hJ2 => ?_)
  refine TQ.thenN (hY13 _ _ ?_)
  refine TW.condF rfl (rfl) ?_
  refine TW.skip ?_
  refine TQ.thenN (hY12 _ _ ?_)
  refine TW.seq fun Y14 hY14 => ?_
  refine TW.seq fun Y15 hY15 => ?_
  refine TW.region ?_
  refine TL.p Pu.mv ?_
  refine TL.p (Pu.ln Tryz.underlying45) ?_
  refine TL.p Pu.mv ?_
  refine TL.nil ?_
  refine TQ.thenN (hY15 _ _ ?_)
  refine TW.block ?_
  refine TW.loop1 (fun (k : Nat) => [(148, .int .i64 (k : Int)), (147, .int .i64 (D1.length : Int)), (146, .slice P1 D1.length p1), (25, .slice P0 D0.length p0), (19, .bool true), (20, .slice As Y.n cs), (22, .int .u8 r.1), (23, .int .i64 r.2), (3, .int .i64 Y.start), (4, .int .i64 Y.day), (6, .slice L Y.n cn), (8, .int .u8 (s : Int)), (9, .pointer (some ⟨b1, 0, none⟩)), (10, .pointer (some ⟨b2, 0, none⟩)), (11, .pointer (some ⟨b3, 0, none⟩)), (14, .pointer (some ⟨b4, 0, none⟩))]) (fun k => [.own P1 D1.length p1 78 4 (fun k => tolL (D1.getD k (0, 0, 0, 0))), .own P0 D0.length p0 78 4 (fun k => tolL (D0.getD k (0, 0, 0, 0))), .blk b1 25 [.slice W Y.nw cw, .slice A Y.nl cl], .blk b2 30 [.slice C Z.nc cc, .slice D Z.nd cd, .slice B Z.nb cb], .blk b3 33 [.int .i64 T.hd, .int .i64 T.wo, .slice O T.no co, .slice U T.nu cu, .slice V T.nv cv], .blk b4 35 [.int .i64 Y.p0, .int .i64 Y.p1]]) (fun k => k ≤ D1.length) (fun k => D1.length - k) 0 fs9 ?_ ?_ ?_
  exact ks9
  exact Nat.zero_le _
  rintro k hk Z0 hZ0
  refine TW.seq fun Y16 hY16 => ?_
  refine TW.region ?_
  refine TL.p Pu.lt ?_
  refine TL.nil ?_
  refine TQ.thenN (hY16 _ _ ?_)
  refine TW.seq fun Y17 hY17 => ?_
  refine TW.cond rfl (fun hc2 => ?_) (fun hc2 => ?_)
  try simp only [decide_eq_true_eq, decide_eq_false_iff_not, Bool.not_eq_true', Bool.not_eq_false', Bool.and_eq_true, Bool.or_eq_true, Bool.and_eq_false_iff, Bool.or_eq_false_iff, Int.not_lt, Int.not_le] at hc2
  have hkn : k < D1.length := by omega
  obtain ⟨jf, hjf, hje⟩ := hsub k hkn
  obtain ⟨pf, hpf⟩ : ∃ pf : Nat → Bool, pf = fun i => decide (D1.getD k (0, 0, 0, 0) = D0.getD i (0, 0, 0, 0)) := ⟨_, rfl⟩
  replace hpf := hidT hpf
  refine TW.skip ?_
  refine TQ.thenN (hY17 _ _ ?_)
  refine TW.seq fun Y18 hY18 => ?_
  refine TW.block ?_
  refine TW.seq fun Y19 hY19 => ?_
  refine TW.region ?_
  refine TL.p (Pu.el ty_et45) ?_
  refine TL.p (Pu.lds ty_ag78) ?_
  refine TL.m (Mk.al ty_zr78) ?_
  intro b9
  first | refine TL.st ty_sz78 ?_ | refine TL.se ty_sz78 ?_
  refine TL.nil ?_
  refine TQ.thenN (hY19 _ _ ?_)
  refine TW.seq fun Y20 hY20 => ?_
  refine TW.region ?_
  refine TL.p Pu.as ?_
  refine TL.nil ?_
  refine TQ.thenN (hY20 _ _ ?_)
  refine TW.seq fun Y21 hY21 => ?_
  refine TW.seq fun Y22 hY22 => ?_
  refine TW.region ?_
  refine TL.p Pu.mv ?_
  refine TL.p (Pu.ln Tryz.underlying45) ?_
  refine TL.p Pu.mv ?_
  refine TL.nil ?_
  refine TQ.thenN (hY22 _ _ ?_)
  refine TW.block ?_
  refine TW.loop1 (fun (j : Nat) => [(154, .int .i64 (j : Int)), (153, .int .i64 (D0.length : Int)), (152, .slice P0 D0.length p0), (34, .bool (exB j pf)), (33, .pointer (some ⟨b9, 0, none⟩)), (148, .int .i64 (k : Int)), (147, .int .i64 (D1.length : Int)), (146, .slice P1 D1.length p1), (25, .slice P0 D0.length p0), (19, .bool true), (20, .slice As Y.n cs), (22, .int .u8 r.1), (23, .int .i64 r.2), (3, .int .i64 Y.start), (4, .int .i64 Y.day), (6, .slice L Y.n cn), (8, .int .u8 (s : Int)), (9, .pointer (some ⟨b1, 0, none⟩)), (10, .pointer (some ⟨b2, 0, none⟩)), (11, .pointer (some ⟨b3, 0, none⟩)), (14, .pointer (some ⟨b4, 0, none⟩))]) (fun j => [.blk b9 78 (tolL (D1.getD k (0, 0, 0, 0))), .own P1 D1.length p1 78 4 (fun k => tolL (D1.getD k (0, 0, 0, 0))), .own P0 D0.length p0 78 4 (fun k => tolL (D0.getD k (0, 0, 0, 0))), .blk b1 25 [.slice W Y.nw cw, .slice A Y.nl cl], .blk b2 30 [.slice C Z.nc cc, .slice D Z.nd cd, .slice B Z.nb cb], .blk b3 33 [.int .i64 T.hd, .int .i64 T.wo, .slice O T.no co, .slice U T.nu cu, .slice V T.nv cv], .blk b4 35 [.int .i64 Y.p0, .int .i64 Y.p1]]) (fun j => j ≤ D0.length) (fun j => D0.length - j) 0 fs9 ?_ ?_ ?_
  exact ks9
  exact Nat.zero_le _
  rintro j hj Z1 hZ1
  refine TW.seq fun Y23 hY23 => ?_
  refine TW.region ?_
  refine TL.p Pu.lt ?_
  refine TL.nil ?_
  refine TQ.thenN (hY23 _ _ ?_)
  refine TW.seq fun Y24 hY24 => ?_
  refine TW.cond rfl (fun hc3 => ?_) (fun hc3 => ?_)
  try simp only [decide_eq_true_eq, decide_eq_false_iff_not, Bool.not_eq_true', Bool.not_eq_false', Bool.and_eq_true, Bool.or_eq_true, Bool.and_eq_false_iff, Bool.or_eq_false_iff, Int.not_lt, Int.not_le] at hc3
  have hjn : j < D0.length := by omega
  refine TW.skip ?_
  refine TQ.thenN (hY24 _ _ ?_)
  refine TW.seq fun Y25 hY25 => ?_
  refine TW.block ?_
  refine TW.seq fun Y26 hY26 => ?_
  refine TW.region ?_
  refine TL.p (Pu.el ty_et45) ?_
  refine TL.p (Pu.lds ty_ag78) ?_
  refine TL.m (Mk.al ty_zr78) ?_
  intro b10
  first | refine TL.st ty_sz78 ?_ | refine TL.se ty_sz78 ?_
  refine TL.nil ?_
  refine TQ.thenN (hY26 _ _ ?_)
  refine TW.join [(34, .bool (exB (j + 1) pf))] ?_ (fun hJ3 => ?_)
  refine TQ.blkN ?_
  refine TQ.thenN (hY25 _ _ ?_)
  refine TW.region ?_
  refine TL.p Pu.ad ?_
  refine TL.p Pu.mv ?_
  refine TL.nil ?_
  refine TQ.thenN (hZ1 (j + 1) _ _ ?_ ?_ fs9 ?_)
  exact (by omega)
  exact (by first | omega | (simp only []; omega) | (simp; omega))
  exact ks9
  refine TW.region ?_
  refine TL.p Pu.mv ?_
  refine TL.p Pu.mv ?_
  refine TL.guard (t := 159) rfl (fun hg1 => ?_) (fun hg1 => ?_)
  try simp only [decide_eq_true_eq, decide_eq_false_iff_not, Bool.not_eq_true', Bool.not_eq_false', Int.natCast_pos] at hg1
  refine TL.gs ?_
  refine TL.gs ?_
  refine TL.gs ?_
  refine TL.p Pu.kt ?_
  refine TL.p Pu.as ?_
  refine TL.nil ?_
  exact TQ.sub (by repeat (first | exact trivial | refine ⟨rfl, ?_⟩ | refine ⟨trivial, ?_⟩ | refine ⟨(by show some (Value.bool _) = some (Value.bool _); first | (simp [hg1, exB_s, -List.getD_eq_getElem?_getD]; done) | (refine congrArg (fun z => some (Value.bool z)) (Bool.eq_iff_iff.2 ?_); simp [hg1, exB_s, -List.getD_eq_getElem?_getD]; omega)), ?_⟩)) ks9 hJ3
  try simp only [decide_eq_true_eq, decide_eq_false_iff_not, Bool.not_eq_true', Bool.not_eq_false', Int.natCast_pos] at hg1
  refine TL.gd (Pu.lds ty_ag78) ?_
  refine TL.gd (Pu.lds ty_ag78) ?_
  refine TL.gd (Pu.bv (Pu.bn rfl rfl (fun w => eqTl _ _ (D1.getD k (0, 0, 0, 0)) (D0.getD j (0, 0, 0, 0)) w)) (show _ = pf j by rw [hpf.out])) ?_
  refine TL.p Pu.kf ?_
  refine TL.p Pu.as ?_
  refine TL.nil ?_
  exact TQ.sub (by repeat (first | exact trivial | refine ⟨rfl, ?_⟩ | refine ⟨trivial, ?_⟩ | refine ⟨(by show some (Value.bool _) = some (Value.bool _); first | (simp [hg1, exB_s, -List.getD_eq_getElem?_getD]; done) | (refine congrArg (fun z => some (Value.bool z)) (Bool.eq_iff_iff.2 ?_); simp [hg1, exB_s, -List.getD_eq_getElem?_getD]; omega)), ?_⟩)) ks9 hJ3
  try simp only [decide_eq_true_eq, decide_eq_false_iff_not, Bool.not_eq_true', Bool.not_eq_false', Bool.and_eq_true, Bool.or_eq_true, Bool.and_eq_false_iff, Bool.or_eq_false_iff, Int.not_lt, Int.not_le] at hc3
  obtain rfl : j = D0.length := by omega
  have hfnd : exB D0.length pf = true := exB_iff.2 ⟨jf, hjf, by rw [hpf.out]; exact decide_eq_true hje.symm⟩
  refine TW.exit ?_
  refine TQ.thenX ?_
  refine TQ.thenX ?_
  refine TQ.blkX ?_
  refine TQ.thenN (hY21 _ _ ?_)
  refine TW.seq fun Y27 hY27 => ?_
  refine TW.region ?_
  refine TL.p Pu.mv ?_
  refine TL.p Pu.no ?_
  refine TL.nil ?_
  refine TQ.thenN (hY27 _ _ ?_)
  refine TW.condF rfl ((by rw [hfnd]; rfl)) ?_
  refine TW.skip ?_
  refine TQ.blkN ?_
  refine TQ.thenN (hY18 _ _ ?_)
  refine TW.region ?_
  refine TL.p Pu.ad ?_
  refine TL.p Pu.mv ?_
  refine TL.nil ?_
  refine TQ.thenN (hZ0 (k + 1) _ _ ?_ ?_ fs9 ?_)
  exact (by omega)
  exact (by first | omega | (simp only []; omega) | (simp; omega))
  exact ks9
  try simp only [decide_eq_true_eq, decide_eq_false_iff_not, Bool.not_eq_true', Bool.not_eq_false', Bool.and_eq_true, Bool.or_eq_true, Bool.and_eq_false_iff, Bool.or_eq_false_iff, Int.not_lt, Int.not_le] at hc2
  obtain rfl : k = D1.length := by omega
  refine TW.exit ?_
  refine TQ.thenX ?_
  refine TQ.thenX ?_
  refine TQ.blkX ?_
  refine TQ.thenN (hY14 _ _ ?_)
  refine TW.seq fun Y28 hY28 => ?_
  refine TW.region ?_
  refine TL.p (Pu.lds ty_ag33) ?_
  refine TL.m (Mk.al ty_zr33) ?_
  intro b11
  first | refine TL.st ty_sz33 ?_ | refine TL.se ty_sz33 ?_
  refine TL.nil ?_
  refine TQ.thenN (hY28 _ _ ?_)
  refine TW.seq fun Y29 hY29 => ?_
  refine TW.region ?_
  refine TL.p (by first | exact Pu.fb ty_fa33_2 | exact Pu.fe ty_fa33_2) ?_
  first | refine TL.st ty_sz31 ?_ | refine TL.se ty_sz31 ?_
  refine TL.nil ?_
  refine TQ.thenN (hY29 _ _ ?_)
  refine TW.seq fun Y30 hY30 => ?_
  refine TW.seq fun Y31 hY31 => ?_
  refine TW.region ?_
  refine TL.p (by first | exact Pu.fb ty_fa33_2 | exact Pu.fe ty_fa33_2) ?_
  refine TL.p (Pu.ld ty_sc31) ?_
  refine TL.p (Pu.ln Tryz.underlying31) ?_
  refine TL.p Pu.mv ?_
  refine TL.nil ?_
  refine TQ.thenN (hY31 _ _ ?_)
  refine TW.block ?_
  refine TW.loop5 (fun (k : Nat) (E : Option Addr) (ce : Nat) (M : List Int) (m : Nat) => [(173, .int .i64 (k : Int)), (172, .int .i64 (T.no : Int)), (171, .slice O T.no co), (37, .pointer (some ⟨b11, 0, none⟩)), (19, .bool true), (20, .slice As Y.n cs), (22, .int .u8 r.1), (23, .int .i64 r.2), (3, .int .i64 Y.start), (4, .int .i64 Y.day), (6, .slice L Y.n cn), (8, .int .u8 (s : Int)), (9, .pointer (some ⟨b1, 0, none⟩)), (10, .pointer (some ⟨b2, 0, none⟩)), (11, .pointer (some ⟨b3, 0, none⟩)), (14, .pointer (some ⟨b4, 0, none⟩))]) (fun k E ce M m => [.own E m ce 3 1 (iL M), .blk b11 33 [.int .i64 T.hd, .int .i64 T.wo, .slice E m ce, .slice U T.nu cu, .slice V T.nv cv], .blk b1 25 [.slice W Y.nw cw, .slice A Y.nl cl], .blk b2 30 [.slice C Z.nc cc, .slice D Z.nd cd, .slice B Z.nb cb], .blk b3 33 [.int .i64 T.hd, .int .i64 T.wo, .slice O T.no co, .slice U T.nu cu, .slice V T.nv cv], .blk b4 35 [.int .i64 Y.p0, .int .i64 Y.p1]]) (fun k E ce M m => k ≤ T.no ∧ M = selT (peoE T) s k ∧ m = M.length) (fun k E ce M m => T.no - k) 0 none 0 [] 0 fs9 ?_ ?_ ?_
  exact KSub.nilOwn ks9
  exact ⟨Nat.zero_le _, rfl, rfl⟩
  rintro k E ce M m ⟨hk, hM, hm⟩ Z2 hZ2
  have hM9 := hidT hM
  have hm9 : m ≤ 8 := by rw [hm, hM]; exact Nat.le_trans (selT_len k) (by omega)
  clear hM
  refine TW.seq fun Y32 hY32 => ?_
  refine TW.region ?_
  refine TL.p Pu.lt ?_
  refine TL.nil ?_
  refine TQ.thenN (hY32 _ _ ?_)
  refine TW.seq fun Y33 hY33 => ?_
  refine TW.cond rfl (fun hc5 => ?_) (fun hc5 => ?_)
  try simp only [decide_eq_true_eq, decide_eq_false_iff_not, Bool.not_eq_true', Bool.not_eq_false', Bool.and_eq_true, Bool.or_eq_true, Bool.and_eq_false_iff, Bool.or_eq_false_iff, Int.not_lt, Int.not_le] at hc5
  have hkn : k < T.no := by omega
  have hqd := Nat.div_le_self s (2 ^ k)
  refine TW.skip ?_
  refine TQ.thenN (hY33 _ _ ?_)
  refine TW.seq fun Y34 hY34 => ?_
  refine TW.block ?_
  refine TW.seq fun Y35 hY35 => ?_
  refine TW.region ?_
  refine TL.p Pu.mv ?_
  refine TL.p (Pu.el ty_et31) ?_
  refine TL.p (Pu.ld ty_sc3) ?_
  refine TL.p Pu.as ?_
  refine TL.p Pu.as ?_
  refine TL.nil ?_
  refine TQ.thenN (hY35 _ _ ?_)
  refine TW.seq fun Y36 hY36 => ?_
  refine TW.region ?_
  refine TL.p Pu.mv ?_
  refine TL.p Pu.mv ?_
  refine TL.p (Pu.srU (b := s) (i := k)) ?_
  refine TL.p (Pu.anU (m := s / 2 ^ k)) ?_
  refine TL.p Pu.eq ?_
  refine TL.nil ?_
  refine TQ.thenN (hY36 _ _ ?_)
  refine TW.cond rfl (fun hc6 => ?_) (fun hc6 => ?_)
  try simp only [decide_eq_true_eq, decide_eq_false_iff_not, Bool.not_eq_true', Bool.not_eq_false', Bool.and_eq_true, Bool.or_eq_true, Bool.and_eq_false_iff, Bool.or_eq_false_iff, Int.not_lt, Int.not_le] at hc6
  have hbit : s / 2 ^ k % 2 = 1 := by generalize s / 2 ^ k % 2 = z at hc6; omega
  have hst : selT (peoE T) s (k + 1) = M ++ [T.o k] := by rw [hM9.out]; simp only [selT]; rw [if_pos hbit]; rfl
  have hlen9 : m + 1 = (selT (peoE T) s (k + 1)).length := by rw [hst, List.length_append, ← hm]; rfl
  refine TW.region ?_
  refine TL.p (by first | exact Pu.fb ty_fa33_2 | exact Pu.fe ty_fa33_2) ?_
  refine TL.p (Pu.ld ty_sc31) ?_
  refine TL.p Pu.mv ?_
  refine TL.m Mk.bl ?_
  intro b12
  first | refine TL.a0 ty_et31 ?_ | refine TL.ap ty_et31 ?_
  intro A13 c13
  refine TL.p (by first | exact Pu.fb ty_fa33_2 | exact Pu.fe ty_fa33_2) ?_
  first | refine TL.st ty_sz31 ?_ | refine TL.se ty_sz31 ?_
  refine TL.nil ?_
  refine TQ.blkN ?_
  refine TQ.thenN (hY34 _ _ ?_)
  refine TW.region ?_
  refine TL.p Pu.ad ?_
  refine TL.p Pu.mv ?_
  refine TL.nil ?_
  refine TQ.thenN (hZ2 (k + 1) (by first | exact A13 | exact E) (by first | exact c13 | exact ce) (selT (peoE T) s (k + 1)) (by first | exact (fun (_ : Option Addr) => m + 1) A13 | exact m) _ _ ?_ ?_ fs9 ?_)
  exact ⟨by omega, rfl, hlen9⟩
  exact (by first | omega | (simp only []; omega) | (simp; omega))
  first
    | exact KSub.own pk9 (iL_app hm hst rfl) ks9
    | exact KSub.own pk9 (fun i _ => by rw [hst]) ks9
  try simp only [decide_eq_true_eq, decide_eq_false_iff_not, Bool.not_eq_true', Bool.not_eq_false', Bool.and_eq_true, Bool.or_eq_true, Bool.and_eq_false_iff, Bool.or_eq_false_iff, Int.not_lt, Int.not_le] at hc6
  have hbit : ¬ s / 2 ^ k % 2 = 1 := by generalize s / 2 ^ k % 2 = z at hc6 ⊢; omega
  have hst : selT (peoE T) s (k + 1) = M := by rw [hM9.out]; simp only [selT]; rw [if_neg hbit]
  have hlen9 : m = (selT (peoE T) s (k + 1)).length := by rw [hst, ← hm]
  refine TW.skip ?_
  refine TQ.blkN ?_
  refine TQ.thenN (hY34 _ _ ?_)
  refine TW.region ?_
  refine TL.p Pu.ad ?_
  refine TL.p Pu.mv ?_
  refine TL.nil ?_
  refine TQ.thenN (hZ2 (k + 1) (by first | exact A13 | exact E) (by first | exact c13 | exact ce) (selT (peoE T) s (k + 1)) (by first | exact (fun (_ : Option Addr) => m + 1) A13 | exact m) _ _ ?_ ?_ fs9 ?_)
  exact ⟨by omega, rfl, hlen9⟩
  exact (by first | omega | (simp only []; omega) | (simp; omega))
  first
    | exact KSub.own pk9 (iL_app hm hst rfl) ks9
    | exact KSub.own pk9 (fun i _ => by rw [hst]) ks9
  try simp only [decide_eq_true_eq, decide_eq_false_iff_not, Bool.not_eq_true', Bool.not_eq_false', Bool.and_eq_true, Bool.or_eq_true, Bool.and_eq_false_iff, Bool.or_eq_false_iff, Int.not_lt, Int.not_le] at hc5
  obtain rfl : k = T.no := by omega
  subst hm
  refine TW.exit ?_
  refine TQ.thenX ?_
  refine TQ.thenX ?_
  refine TQ.blkX ?_
  refine TQ.thenN (hY30 _ _ ?_)
  refine TW.seq fun Y37 hY37 => ?_
  refine TW.region ?_
  refine TL.p (Pu.lds ty_ag25) ?_
  refine TL.p (Pu.lds ty_ag30) ?_
  refine TL.p (Pu.lds ty_ag33) ?_
  refine TL.p Pu.mv ?_
  refine TL.p Pu.mv ?_
  refine TL.p (Pu.lds ty_ag35) ?_
  refine TL.p Pu.mv ?_
  refine TL.cr rfl (enters Tryz.func18 rfl rfl) (fun w hw => by
      have t2 := (a.trp g.gr).ext (Chg.ext hw.chg)
      have q9 := OwnR.rdr (hw.holds (.own E M.length ce 3 1 (iL M)) (Pick.mem pk9))
      have e9 : (few T s).no = M.length := by rw [hM9.out]; rfl
      have q8 : RdR _ 1 E (few T s).no (fun k => [.int .i64 ((few T s).o k)]) := (by rw [hM9.out] at q9; exact q9)
      have h9 := fB _ Z (few T s) C D B E cc cd cb ce hn1 ((a.land g.gr).ext (Chg.ext hw.chg)) (hRL.sat hw Apart.nil) ((a.cust g.gr).ext (Chg.ext hw.chg)) ⟨by rw [e9]; omega, t2.hnu, t2.hnv, q8, t2.hU, t2.hV⟩ (hG.ext (Chg.ext hw.chg))
      rw [htf.out, ← hx.out, e9] at h9
      exact h9) ?_
  refine TL.p Pu.mv ?_
  refine TL.p Pu.ex ?_
  refine TL.p Pu.ex ?_
  refine TL.p Pu.ex ?_
  refine TL.p Pu.as ?_
  refine TL.p Pu.as ?_
  refine TL.p Pu.as ?_
  refine TL.nil ?_
  refine TQ.thenN (hY37 _ _ ?_)
  refine TW.seq fun Y38 hY38 => ?_
  refine TW.seq fun Y39 hY39 => ?_
  refine TW.join [(216, .bool false)] ?_ (fun hJ4 => ?_)
  refine TQ.thenN (hY39 _ _ ?_)
  refine TW.condF rfl (rfl) ?_
  refine TW.skip ?_
  refine TQ.thenN (hY38 _ _ ?_)
  refine TW.seq fun Y40 hY40 => ?_
  refine TW.region ?_
  refine TL.p (Pu.lds ty_ag25) ?_
  refine TL.p Pu.bd ?_
  refine TL.p (Pu.lds ty_ag33) ?_
  refine TL.p Pu.mv ?_
  refine TL.p Pu.mv ?_
  refine TL.p (Pu.lds ty_ag35) ?_
  refine TL.p Pu.mv ?_
  refine TL.cr rfl (enters Tryz.func18 rfl rfl) (fun w hw => by
      have h9 := fB _ cus0 T none none none O 0 0 0 co hn1 ((a.land g.gr).ext (Chg.ext hw.chg)) (hRL.sat hw Apart.nil) ⟨Nat.zero_le _, Nat.zero_le _, Nat.zero_le _, ⟨Rd.nil, fun i hi => absurd hi (Nat.not_lt_zero i)⟩, ⟨Rd.nil, fun i hi => absurd hi (Nat.not_lt_zero i)⟩, ⟨Rd.nil, fun i hi => absurd hi (Nat.not_lt_zero i)⟩⟩ ((a.trp g.gr).ext (Chg.ext hw.chg)) (hG.ext (Chg.ext hw.chg))
      rw [ht0.out, hb0.out] at h9
      exact h9) ?_
  refine TL.p Pu.mv ?_
  refine TL.p Pu.ex ?_
  refine TL.p Pu.ex ?_
  refine TL.p Pu.ex ?_
  refine TL.p Pu.as ?_
  refine TL.p Pu.as ?_
  refine TL.p Pu.as ?_
  refine TL.nil ?_
  refine TQ.thenN (hY40 _ _ ?_)
  refine TW.seq fun Y41 hY41 => ?_
  refine TW.region ?_
  refine TL.p (Pu.lds ty_ag25) ?_
  refine TL.p Pu.bd ?_
  refine TL.p (Pu.lds ty_ag33) ?_
  refine TL.p Pu.mv ?_
  refine TL.p Pu.mv ?_
  refine TL.p (Pu.lds ty_ag35) ?_
  refine TL.p Pu.mv ?_
  refine TL.call (M := []) rfl (enters Tryz.func20 rfl rfl) (List.Perm.refl _) rfl (fun w hw => by
      have h9 := fD _ cus0 T none none none V 0 0 0 cv hn1 ((a.land g.gr).ext (Chg.ext hw.chg)) (hRL.sat hw Apart.nil) ⟨Nat.zero_le _, Nat.zero_le _, Nat.zero_le _, ⟨Rd.nil, fun i hi => absurd hi (Nat.not_lt_zero i)⟩, ⟨Rd.nil, fun i hi => absurd hi (Nat.not_lt_zero i)⟩, ⟨Rd.nil, fun i hi => absurd hi (Nat.not_lt_zero i)⟩⟩ ((a.trp g.gr).ext (Chg.ext hw.chg))
      rw [dueV_eq, dueK_eq] at h9
      rw [ht0.out, hd01.out, hd02.out, hd03.out] at h9
      exact h9) ?_
  rintro ⟨P2, p2⟩
  simp only [List.cons_append, List.nil_append]
  refine TL.p Pu.mv ?_
  refine TL.p Pu.ex ?_
  refine TL.p Pu.ex ?_
  refine TL.p Pu.ex ?_
  refine TL.m (Mk.al ty_zr35) ?_
  intro b14
  refine TL.p Pu.as ?_
  first | refine TL.st ty_sz35 ?_ | refine TL.se ty_sz35 ?_
  refine TL.p Pu.as ?_
  refine TL.nil ?_
  refine TQ.thenN (hY41 _ _ ?_)
  refine TW.seq fun Y42 hY42 => ?_
  refine TW.join [(18, .bool true)] ?_ (fun hJ5 => ?_)
  refine TQ.thenN (hY42 _ _ ?_)
  refine TW.ret ?_
  refine TQ.ret Tryz.results10 rfl ((.tmp rfl .nil)) ?_
  exact fun w hw => Ret.of hw
  refine TW.region ?_
  refine TL.p Pu.mv ?_
  refine TL.p Pu.mv ?_
  refine TL.guard (t := 242) rfl (fun hg2 => ?_) (fun hg2 => ?_)
  try simp only [decide_eq_true_eq, decide_eq_false_iff_not, Bool.not_eq_true', Bool.not_eq_false', Int.natCast_pos] at hg2
  refine TL.gd Pu.mv ?_
  refine TL.gd (Pu.ln Tryz.underlying58) ?_
  refine TL.gd Pu.mv ?_
  refine TL.gd (Pu.ln Tryz.underlying31) ?_
  refine TL.gd Pu.eq ?_
  refine TL.lit (t := 247) (b' := true) rfl ((by simp)) ?_
  refine TL.p Pu.kt ?_
  refine TL.p Pu.mv ?_
  refine TL.gd Pu.mv ?_
  refine TL.gd Pu.eq ?_
  refine TL.lit (t := 251) (b' := true) rfl (rfl) ?_
  refine TL.p Pu.kt ?_
  refine TL.p Pu.mv ?_
  refine TL.gd Pu.mv ?_
  refine TL.gd Pu.eq ?_
  refine TL.lit (t := 255) (b' := true) rfl (rfl) ?_
  refine TL.p Pu.kt ?_
  refine TL.p Pu.mv ?_
  refine TL.gd Pu.mv ?_
  refine TL.gd Pu.eq ?_
  refine TL.lit (t := 259) (b' := true) rfl (rfl) ?_
  refine TL.p Pu.kt ?_
  refine TL.p Pu.mv ?_
  refine TL.gd Pu.mv ?_
  refine TL.gd Pu.eq ?_
  refine TL.lit (t := 263) (b' := true) rfl (rfl) ?_
  refine TL.p Pu.kt ?_
  refine TL.p Pu.mv ?_
  refine TL.gd Pu.mv ?_
  refine TL.gd (Pu.ln Tryz.underlying45) ?_
  refine TL.gd Pu.eq ?_
  refine TL.lit (t := 268) (b' := true) rfl (rfl) ?_
  refine TL.p Pu.kt ?_
  refine TL.p Pu.mv ?_
  refine TL.gd (Pu.lds ty_ag35) ?_
  refine TL.gd Pu.bd ?_
  refine TL.gd (Pu.q2 ty_q2_35) ?_
  refine TL.p Pu.kt ?_
  refine TL.p Pu.as ?_
  refine TL.nil ?_
  exact TQ.sub (by repeat (first | exact trivial | refine ⟨rfl, ?_⟩ | refine ⟨trivial, ?_⟩ | refine ⟨(by show some (Value.bool _) = some (Value.bool _); first | (simp [hg2]; done) | (refine congrArg (fun z => some (Value.bool z)) (Bool.eq_iff_iff.2 ?_); simp [hg2]; omega)), ?_⟩)) ks9 hJ5
  try simp only [decide_eq_true_eq, decide_eq_false_iff_not, Bool.not_eq_true', Bool.not_eq_false', Int.natCast_pos] at hg2
  refine TL.gs ?_
  refine TL.gs ?_
  refine TL.gs ?_
  refine TL.gs ?_
  refine TL.gs ?_
  refine TL.p Pu.kf ?_
  refine TL.p Pu.mv ?_
  refine TL.gs ?_
  refine TL.gs ?_
  refine TL.p Pu.kf ?_
  refine TL.p Pu.mv ?_
  refine TL.gs ?_
  refine TL.gs ?_
  refine TL.p Pu.kf ?_
  refine TL.p Pu.mv ?_
  refine TL.gs ?_
  refine TL.gs ?_
  refine TL.p Pu.kf ?_
  refine TL.p Pu.mv ?_
  refine TL.gs ?_
  refine TL.gs ?_
  refine TL.p Pu.kf ?_
  refine TL.p Pu.mv ?_
  refine TL.gs ?_
  refine TL.gs ?_
  refine TL.gs ?_
  refine TL.p Pu.kf ?_
  refine TL.p Pu.mv ?_
  refine TL.gs ?_
  refine TL.gs ?_
  refine TL.gs ?_
  refine TL.p Pu.kf ?_
  refine TL.p Pu.as ?_
  refine TL.nil ?_
  exact TQ.sub (by repeat (first | exact trivial | refine ⟨rfl, ?_⟩ | refine ⟨trivial, ?_⟩ | refine ⟨(by show some (Value.bool _) = some (Value.bool _); first | (simp [hg2]; done) | (refine congrArg (fun z => some (Value.bool z)) (Bool.eq_iff_iff.2 ?_); simp [hg2]; omega)), ?_⟩)) ks9 hJ5
  refine TW.region ?_
  refine TL.p Pu.mv ?_
  refine TL.p Pu.ne ?_
  refine TL.lit (t := 203) (b' := false) rfl (rfl) ?_
  refine TL.p Pu.mv ?_
  refine TL.gd Pu.mv ?_
  refine TL.gd Pu.ne ?_
  refine TL.gd Pu.mv ?_
  refine TL.guard (t := 207) rfl (fun hg3 => ?_) (fun hg3 => ?_)
  try simp only [decide_eq_true_eq, decide_eq_false_iff_not, Bool.not_eq_true', Bool.not_eq_false', Int.natCast_pos] at hg3
  refine TL.gd Pu.mv ?_
  refine TL.gd Pu.eq ?_
  refine TL.gd Pu.mv ?_
  refine TL.guard (t := 210) rfl (fun hg4 => ?_) (fun hg4 => ?_)
  try simp only [decide_eq_true_eq, decide_eq_false_iff_not, Bool.not_eq_true', Bool.not_eq_false', Int.natCast_pos] at hg4
  refine TL.gs ?_
  refine TL.gs ?_
  refine TL.gs ?_
  refine TL.gd Pu.kt ?_
  refine TL.gd Pu.kt ?_
  refine TL.p Pu.kf ?_
  refine TL.nil ?_
  exact TQ.sub (by repeat (first | exact trivial | refine ⟨rfl, ?_⟩ | refine ⟨trivial, ?_⟩ | refine ⟨(by show some (Value.bool _) = some (Value.bool _); first | (simp [hg3, hg4, hfb]; done) | (refine congrArg (fun z => some (Value.bool z)) (Bool.eq_iff_iff.2 ?_); simp [hg3, hg4, hfb]; omega)), ?_⟩)) ks9 hJ4
  try simp only [decide_eq_true_eq, decide_eq_false_iff_not, Bool.not_eq_true', Bool.not_eq_false', Int.natCast_pos] at hg4
  refine TL.gd Pu.mv ?_
  refine TL.gd Pu.mv ?_
  refine TL.gd Pu.lt ?_
  refine TL.gd Pu.kf ?_
  refine TL.gd Pu.kt ?_
  refine TL.p Pu.kf ?_
  refine TL.nil ?_
  exact TQ.sub (by repeat (first | exact trivial | refine ⟨rfl, ?_⟩ | refine ⟨trivial, ?_⟩ | refine ⟨(by show some (Value.bool _) = some (Value.bool _); first | (simp [hg3, hg4, hfb]; done) | (refine congrArg (fun z => some (Value.bool z)) (Bool.eq_iff_iff.2 ?_); simp [hg3, hg4, hfb]; omega)), ?_⟩)) ks9 hJ4
  try simp only [decide_eq_true_eq, decide_eq_false_iff_not, Bool.not_eq_true', Bool.not_eq_false', Int.natCast_pos] at hg3
  refine TL.gs ?_
  refine TL.gs ?_
  refine TL.gs ?_
  refine TL.gs ?_
  refine TL.gs ?_
  refine TL.gs ?_
  refine TL.gs ?_
  refine TL.gd Pu.kf ?_
  refine TL.p Pu.kf ?_
  refine TL.nil ?_
  exact TQ.sub (by repeat (first | exact trivial | refine ⟨rfl, ?_⟩ | refine ⟨trivial, ?_⟩ | refine ⟨(by show some (Value.bool _) = some (Value.bool _); first | (simp [hg3, hfb]; done) | (refine congrArg (fun z => some (Value.bool z)) (Bool.eq_iff_iff.2 ?_); simp [hg3, hfb]; omega)), ?_⟩)) ks9 hJ4
  refine TW.region ?_
  refine TL.p Pu.mv ?_
  refine TL.p Pu.ne ?_
  refine TL.lit (t := 116) (b' := false) rfl (rfl) ?_
  refine TL.p Pu.mv ?_
  refine TL.gd Pu.mv ?_
  refine TL.gd Pu.ne ?_
  refine TL.lit (t := 119) (b' := false) rfl (rfl) ?_
  refine TL.p Pu.kf ?_
  refine TL.p Pu.mv ?_
  refine TL.gd Pu.mv ?_
  refine TL.gd Pu.ne ?_
  refine TL.lit (t := 123) (b' := false) rfl (rfl) ?_
  refine TL.p Pu.kf ?_
  refine TL.p Pu.mv ?_
  refine TL.gd (by first | exact Pu.fb ty_fa35_0 | exact Pu.fe ty_fa35_0) ?_
  refine TL.gd (Pu.ld ty_sc3) ?_
  refine TL.gd (by first | exact Pu.fb ty_fa35_0 | exact Pu.fe ty_fa35_0) ?_
  refine TL.gd (Pu.ld ty_sc3) ?_
  refine TL.gd Pu.gt ?_
  refine TL.lit (t := 130) (b' := false) rfl ((decide_eq_false (by omega))) ?_
  refine TL.p Pu.kf ?_
  refine TL.p Pu.mv ?_
  refine TL.gd (by first | exact Pu.fb ty_fa35_1 | exact Pu.fe ty_fa35_1) ?_
  refine TL.gd (Pu.ld ty_sc3) ?_
  refine TL.gd (by first | exact Pu.fb ty_fa35_1 | exact Pu.fe ty_fa35_1) ?_
  refine TL.gd (Pu.ld ty_sc3) ?_
  refine TL.gd Pu.gt ?_
  refine TL.lit (t := 137) (b' := false) rfl ((decide_eq_false (by omega))) ?_
  refine TL.p Pu.kf ?_
  refine TL.p Pu.mv ?_
  refine TL.gd Pu.mv ?_
  refine TL.gd (Pu.ln Tryz.underlying45) ?_
  refine TL.gd Pu.mv ?_
  refine TL.gd (Pu.ln Tryz.underlying45) ?_
  refine TL.gd Pu.gt ?_
  refine TL.lit (t := 144) (b' := false) rfl ((decide_eq_false (by omega))) ?_
  refine TL.p Pu.kf ?_
  refine TL.nil ?_
  exact TQ.sub (by repeat (first | exact trivial | refine ⟨rfl, ?_⟩ | refine ⟨trivial, ?_⟩ | refine ⟨(by show some (Value.bool _) = some (Value.bool _); first | (simp []; done) | (refine congrArg (fun z => some (Value.bool z)) (Bool.eq_iff_iff.2 ?_); simp []; omega)), ?_⟩)) ks9 hJ2
  refine TW.region ?_
  refine TL.p Pu.mv ?_
  refine TL.p Pu.no ?_
  refine TL.p Pu.mv ?_
  refine TL.guard (t := 63) rfl (fun hg5 => ?_) (fun hg5 => ?_)
  try simp only [decide_eq_true_eq, decide_eq_false_iff_not, Bool.not_eq_true', Bool.not_eq_false', Int.natCast_pos] at hg5
  refine TL.gs ?_
  refine TL.gs ?_
  refine TL.p Pu.kt ?_
  refine TL.nil ?_
  exact TQ.sub (by repeat (first | exact trivial | refine ⟨rfl, ?_⟩ | refine ⟨trivial, ?_⟩ | refine ⟨(by show some (Value.bool _) = some (Value.bool _); first | (simp [hg5]; done) | (refine congrArg (fun z => some (Value.bool z)) (Bool.eq_iff_iff.2 ?_); simp [hg5]; omega)), ?_⟩)) ks9 hJ1
  try simp only [decide_eq_true_eq, decide_eq_false_iff_not, Bool.not_eq_true', Bool.not_eq_false', Int.natCast_pos] at hg5
  refine TL.gd Pu.mv ?_
  refine TL.gd Pu.no ?_
  refine TL.p Pu.kf ?_
  refine TL.nil ?_
  exact TQ.sub (by repeat (first | exact trivial | refine ⟨rfl, ?_⟩ | refine ⟨trivial, ?_⟩ | refine ⟨(by show some (Value.bool _) = some (Value.bool _); first | (simp [hg5]; done) | (refine congrArg (fun z => some (Value.bool z)) (Bool.eq_iff_iff.2 ?_); simp [hg5]; omega)), ?_⟩)) ks9 hJ1
end
end Go.Proofs.YtmonkjnfjgidbaaGreatDoor
namespace Go.Proofs.YtmonkjnfjgidbaaGreatDoor
set_option linter.all false
set_option linter.unusedVariables false
set_option linter.unusedSimpArgs false
open Go.ChangeShapes Go.WideShapes Go.RowKit Go.Deep
section
variable {H : Type} {enc : TypeId × Value → H} {P : Program} {w : World} {base : Nat} {spare : Nat → Bool} {held : Bool}
def kindsL (P : Program) (g : TypeId → Option (List IntKind)) : List Field → Nat → Option (List IntKind)
  | [], _ => some []
  | f :: fs, off => match g f.type with
    | some a => if f.offset = off ∧ a.length = P.cellsOf f.type then match kindsL P g fs (off + a.length) with
      | some b => some (a ++ b)
      | none => none
      else none
    | none => none
def kindsF (P : Program) : Nat → TypeId → Option (List IntKind)
  | 0, _ => none
  | d + 1, t => match P.underlying t with
    | some (.int k) => some [k]
    | some (.struct fs) => match kindsL P (kindsF P d) fs.toList 0 with
      | some a => if a.length = P.cellsOf t then some a else none
      | none => none
    | _ => none
def ints (ks : List IntKind) (ns : List Int) : List Value := List.zipWith Value.int ks ns
theorem ints_append {a b : List IntKind} {x y : List Int} (h : x.length = a.length) : ints (a ++ b) (x ++ y) = ints a x ++ ints b y := by
  unfold ints; rw [List.zipWith_append h.symm]
theorem ints_length {a : List IntKind} {x : List Int} (h : x.length = a.length) : (ints a x).length = a.length := by simp [ints, h]
theorem kindsL_spec {g : TypeId → Option (List IntKind)} (hg : ∀ t ks, g t = some ks → ∀ fuel cs x, DataW.trod enc P w base spare held fuel t cs = some x → ∃ ns : List Int, cs = ints ks ns ∧ ns.length = ks.length) :
    ∀ (fs : List Field) (off : Nat) (ks : List IntKind) (cs : List Value), kindsL P g fs off = some ks → cs.length = off + ks.length →
      (∀ f ∈ fs, ∃ n x, DataW.trod enc P w base spare held n f.type ((cs.drop f.offset).take (P.cellsOf f.type)) = some x) → ∃ ns : List Int, cs.drop off = ints ks ns ∧ ns.length = ks.length
  | [], off, ks, cs, h, hl, _ => by cases h; exact ⟨[], by simp at hl; simp [ints, hl], rfl⟩
  | f :: fs, off, ks, cs, h, hl, hf => by
    simp only [kindsL] at h
    cases h1 : g f.type with
    | none => rw [h1] at h; cases h
    | some a =>
      rw [h1] at h
      simp only at h
      split at h
      · rename_i h2
        obtain ⟨h2, h3⟩ := h2
        cases h4 : kindsL P g fs (off + a.length) with
        | none => rw [h4] at h; cases h
        | some b =>
          rw [h4] at h
          cases h
          obtain ⟨n, x, hx⟩ := hf f (by simp)
          rw [h2, ← h3] at hx
          obtain ⟨ns, e1, e2⟩ := hg _ _ h1 _ _ _ hx
          obtain ⟨ms, e3, e4⟩ := kindsL_spec hg fs (off + a.length) b cs h4 (by rw [hl]; simp; omega) (fun f' hf' => hf f' (by simp [hf']))
          refine ⟨ns ++ ms, ?_, by simp [e2, e4]⟩
          rw [ints_append e2, ← e1, ← e3, ← List.drop_drop, List.take_append_drop]
      · cases h
theorem kindsF_spec : ∀ (d : Nat) (t : TypeId) (ks : List IntKind), kindsF P d t = some ks → ∀ fuel cs x, DataW.trod enc P w base spare held fuel t cs = some x → ∃ ns : List Int, cs = ints ks ns ∧ ns.length = ks.length
  | 0, _, _, h, _, _, _, _ => by cases h
  | d + 1, t, ks, h, fuel, cs, x, hx => by
    simp only [kindsF] at h
    cases hu : P.underlying t with
    | none => rw [hu] at h; cases h
    | some desc =>
      rw [hu] at h
      match desc, hu, h with
      | .int k, hu, h =>
        injection h with h
        subst h
        obtain ⟨n, rfl, _, _⟩ := DataW.trod_int hu hx
        exact ⟨[n], rfl, rfl⟩
      | .struct fs, hu, h =>
        simp only at h
        cases h1 : kindsL P (kindsF P d) fs.toList 0 with
        | none => rw [h1] at h; cases h
        | some a =>
          rw [h1] at h
          simp only at h
          split at h
          · rename_i h2
            cases h
            obtain ⟨xs, n, _, _, hlen, hxl, hf⟩ := DataW.trod_struct hu hx
            obtain ⟨ns, e1, e2⟩ := kindsL_spec (kindsF_spec d) fs.toList 0 _ cs h1 (by omega) (fun f hf' => by
              obtain ⟨i, hi, rfl⟩ := List.getElem_of_mem hf'
              have hi' : i < fs.size := by simpa using hi
              have := hf i fs[i] (by simp [hi'])
              rw [List.getElem?_eq_getElem (by omega)] at this
              exact ⟨n, _, this⟩)
            exact ⟨ns, by simpa using e1, e2⟩
          · cases h
theorem open_flat_slice {t e : TypeId} {fuel : Nat} {cs : List Value} {x : DataW H × List MemPlace} (d : Nat) {ks : List IntKind} (ht : P.underlying t = some (.slice e)) (hk : kindsF P d e = some ks) (hC : P.cellsOf e = ks.length) (h0 : Nat.blt 0 ks.length = true) (h : DataW.trod enc P w base spare held fuel t cs = some x) :
    ∃ (A : Option Addr) (len cap : Nat) (g : Nat → List Int), cs = [.slice A len cap] ∧ (∀ i, i < len → (g i).length = ks.length) ∧ RdR w ks.length A len (fun i => ints ks (g i)) ∧ (A = none → len = 0 ∧ cap = 0) ∧ len ≤ cap ∧ cap ≤ maxLen := by
  have h0 : 0 < ks.length := Nat.le_of_ble_eq_true h0
  rcases open_slice ht h with ⟨rfl, rfl⟩ | ⟨a, len, cap, m, n, D, Pl, rfl, hb, hl, hm, hmm, _, hi⟩
  · exact ⟨none, 0, 0, fun _ => [], rfl, fun i hi => by omega, ⟨Rd.nil, fun i hi => by omega⟩, fun _ => ⟨rfl, rfl⟩, Nat.le_refl _, Nat.zero_le _⟩
  · have hlm : len ≤ m := by rw [hmm]; split <;> omega
    have key : ∀ i, i < len → ∃ ns : List Int, ns.length = ks.length ∧ ∀ j, j < ks.length → w.cell? (a.add (i * ks.length + j)) = (ints ks ns)[j]? := fun i hil => by
      obtain ⟨cs', hc, hx⟩ := hi i (by omega)
      obtain ⟨_, hcl, hat⟩ := World.cells?_some hc
      obtain ⟨ns, rfl, e2⟩ := kindsF_spec d e ks hk _ _ _ hx
      refine ⟨ns, e2, fun j hj => ?_⟩
      have := hat j (by rw [hC]; exact hj)
      rw [hC] at this
      rw [← this, ← add_add]
    refine ⟨some a, len, cap, fun i => if hi : i < len then (key i hi).choose else [], rfl, fun i hi => ?_, ⟨fun hn => ?_, fun i hi => ?_⟩, fun h => (by cases h), hl, hm⟩
    · simp only [hi, dite_true]; exact (key i hi).choose_spec.1
    · have h1 := (key 0 hn).choose_spec.2 0 h0
      have hsome : (ints ks (key 0 hn).choose)[0]? = some ((ints ks (key 0 hn).choose)[0]'(by rw [ints_length (key 0 hn).choose_spec.1]; exact h0)) := List.getElem?_eq_getElem _
      rw [hsome] at h1
      have hadd : a.add (0 * ks.length + 0) = a := by simp [Addr.add]
      rw [hadd] at h1
      have hsp : a.spot = none := by
        unfold World.cell? at h1
        split at h1
        · cases hs : a.spot with
          | none => rfl
          | some s => simp [hs] at h1
        · cases h1
      have hlt : a.block < w.heap.size := World.block_lt_of_cell? w a h1
      obtain ⟨b, o, s⟩ := a
      simp only at hsp
      subst hsp
      refine ⟨b, o, rfl, hlt, fun i j hi hj => ?_⟩
      have h2 := (key i hi).choose_spec.2 j hj
      rw [add_plain] at h2
      rw [show o + i * ks.length + j = o + (i * ks.length + j) by omega, h2]
      simp only [rowF, hi, dite_true]
      have hl2 : j < (ints ks (key i hi).choose).length := by rw [ints_length (key i hi).choose_spec.1]; exact hj
      rw [List.getElem?_eq_getElem hl2]
      simp [List.getD_eq_getElem?_getD, List.getElem?_eq_getElem hl2]
    · simp only [hi, dite_true]
      exact ints_length (key i hi).choose_spec.1
theorem open_rows {r : Reach} {b0 : Nat} {t e : TypeId} {v : Value} {dd : DataW H} {p : List MemPlace} (d : Nat) (ks : List IntKind) (ht : P.underlying t = some (.slice e)) (hk : kindsF P d e = some ks) (hC : P.cellsOf e = ks.length) (h0 : Nat.blt 0 ks.length = true) (hv : Value.okWide P w r b0 t v) (h : DataW.Trod enc P w base spare held t v dd p) :
    ∃ (A : Option Addr) (len cap : Nat) (g : Nat → List Int), v = .slice A len cap ∧ (∀ i, i < len → (g i).length = ks.length) ∧ RdR w ks.length A len (fun i => ints ks (g i)) ∧ (A = none → len = 0 ∧ cap = 0) ∧ len ≤ cap ∧ cap ≤ maxLen := by
  obtain ⟨a, n, c, rfl⟩ := okWide_slice ht hv
  obtain ⟨fuel, h⟩ := h
  obtain ⟨A, len, cap, g, e, h1⟩ := open_flat_slice d ht hk hC h0 h
  simp only [Value.cells, List.cons.injEq, Value.slice.injEq, and_true] at e
  obtain ⟨rfl, rfl, rfl⟩ := e
  exact ⟨_, _, _, g, rfl, h1⟩
def gi (ns : List Int) (j : Nat) : Int := ns.getD j 0
def rowK : List IntKind → (Nat → Int) → List Value
  | [], _ => []
  | k :: ks, f => .int k (f 0) :: rowK ks fun j => f (j + 1)
theorem ints_rowK : ∀ (ks : List IntKind) (ns : List Int), ns.length = ks.length → ints ks ns = rowK ks (gi ns)
  | [], [], _ => rfl
  | k :: ks, n :: ns, h => by
    show Value.int k n :: ints ks ns = _
    rw [ints_rowK ks ns (by simpa using h)]
    rfl
theorem RdR.rowK {sz n : Nat} {A : Option Addr} {ks : List IntKind} {g : Nat → List Int} (h : RdR w sz A n (fun i => ints ks (g i))) (hl : ∀ i, i < n → (g i).length = ks.length) : RdR w sz A n (fun i => rowK ks (gi (g i))) :=
  ⟨h.rd.congr fun i j hi hj => by simp only [rowF, ints_rowK ks (g i) (hl i hi)], fun i hi => by rw [← ints_rowK ks (g i) (hl i hi)]; exact h.len i hi⟩
theorem trodAll_stays (hl : laidOutB P = true) {W W' : World} (hb : Below W.heap.size W W') {sp' : Nat → Bool} : ∀ {ts : List TypeId} {vs : List Value} {ds : List (DataW H)} {ps : List MemPlace}, ts.all (fun t => P.readableRec t && decide (t < P.types.size)) = true →
    DataW.TrodAll enc P W 0 (fun _ => true) true ts vs ds ps → (∀ p ∈ ps, p.block < W.heap.size) → (∀ p ∈ ps, sp' p.block = true) → DataW.TrodAll enc P W' 0 sp' true ts vs ds ps
  | [], [], [], ps, _, h, _, _ => h
  | t :: ts, v :: vs, d :: ds, ps, ht, h, hlt, hs => by
    simp only [List.all_cons, Bool.and_eq_true, decide_eq_true_eq] at ht
    obtain ⟨p, q, h1, h2, rfl⟩ := h
    exact ⟨p, q, WideElems.Trod_stays hl ht.1.1 ht.1.2 h1 (fun x hx => hb.same (hlt x (by simp [hx]))) (fun x hx => hs x (by simp [hx])), trodAll_stays hl hb ht.2 h2 (fun x hx => hlt x (by simp [hx])) (fun x hx => hs x (by simp [hx])), rfl⟩
theorem law_post {f : Func} {s : ChangeSpec} {apart fresh handsOn again : Bool} {W W' : World} {args : Array Value} {ds : List (DataW H)} {p : List MemPlace} {tb : TypeId} (hl : laidOutB P = true) (hvars : s.vars = [])
    (hW : DataW.Whole enc P f.params.toList s.vars apart W args.toList ds [] p) (hA : DataW.TrodAll enc P W 0 (fun _ => true) true f.params.toList args.toList ds p)
    (ht : f.params.toList.all (fun t => P.readableRec t && decide (t < P.types.size)) = true) (hrt : f.resultTypes = #[tb]) (htb : P.underlying tb = some .bool) (hfn : s.fn H ds = { results := [.lit (.bool true)], args := ds }) (hb : Below W.heap.size W W') :
    s.post enc P f apart fresh handsOn again W args (.bool true) W' := by
  have hlt : ∀ q ∈ p, q.block < W.heap.size := fun q hq => hW.lt q hq
  have hold : ∀ q ∈ p, (fun b => decide (b < W.heap.size)) q.block = true := fun q hq => by simpa using hW.lt q hq
  have hres : ∀ (b : Nat) (sp : Nat → Bool) (hd : Bool), DataW.TrodAll enc P W' b sp hd f.resultTypes.toList ((Value.bool true).resultList f.resultTypes.size) (s.fn H (ds ++ [])).results [] := fun b sp hd => by
    rw [List.append_nil, hfn, hrt]
    exact ⟨[], [], shut_bool htb true, rfl, rfl⟩
  have hargs : ∀ sp : Nat → Bool, (∀ q ∈ p, sp q.block = true) → DataW.TrodAll enc P W' 0 sp true f.params.toList args.toList (s.fn H (ds ++ [])).args p := fun sp hs => by
    rw [List.append_nil, hfn]
    exact trodAll_stays hl hb ht hA (fun q hq => hW.lt q hq) hs
  have hv : ∀ sp : Nat → Bool, DataW.TrodVars enc P W' sp s.vars (s.fn H (ds ++ [])).vars [] := fun sp => by
    rw [List.append_nil, hfn, hvars]; exact rfl
  have hok : ∀ (j : Nat) (t : TypeId) (r : Value), f.resultTypes[j]? = some t → ((Value.bool true).resultList f.resultTypes.size)[j]? = some r → Value.okWide P W' .any 0 t r := ok_one (by rw [hrt]) rfl (okWide_bool_mk htb true)
  refine ⟨ds, [], p, [], p, [], hW, hres _ _ _, hargs _ hold, hv _, World.keptBut_mono (fun q hq => ⟨hq, by simpa using hq⟩) (hb.frame (· ∈ p)), fun _ => ?_⟩
  obtain ⟨_, _, _, _, _, hz, hn⟩ := hW
  refine ⟨hok, _, _, ([] ++ p) ++ [], ⟨[] ++ p, [], trodAll_append (hargs _ (fun _ _ => rfl)) (hres _ _ _), hv _, rfl, ?_, ?_⟩, ?_⟩
  · intro b off hp
    have hin : MemPlace.cell b off ∈ p := by simpa using hp
    rw [hb.frozen (hlt _ hin)]
    exact hz b off hin
  · intro ha
    have := hn ha
    simpa using this
  · intro q hq _
    simpa using hq
end
end Go.Proofs.YtmonkjnfjgidbaaGreatDoor
namespace Go.Proofs.YtmonkjnfjgidbaaGreatDoor
set_option linter.all false
set_option linter.unusedVariables false
set_option linter.unusedSimpArgs false
open Go.ChangeShapes Go.WideShapes Go.RowKit Go.Deep
section
variable {H : Type} {enc : TypeId × Value → H} {P : Program} {w : World} {base : Nat} {spare : Nat → Bool} {held : Bool}
theorem open_slice_any {t e : TypeId} {fuel : Nat} {cs : List Value} {x : DataW H × List MemPlace} {sz : Nat} (ht : P.underlying t = some (.slice e)) (hC : P.cellsOf e = sz) (h0 : Nat.blt 0 sz = true) (h : DataW.trod enc P w base spare held fuel t cs = some x) :
    ∃ (A : Option Addr) (len cap : Nat) (G : Nat → List Value), cs = [.slice A len cap] ∧ RdR w sz A len G ∧ (∀ i, i < len → ∃ n y, DataW.trod enc P w base spare held n e (G i) = some y) ∧ (A = none → len = 0 ∧ cap = 0) ∧ len ≤ cap ∧ cap ≤ maxLen := by
  have h0 : 0 < sz := Nat.le_of_ble_eq_true h0
  rcases open_slice ht h with ⟨rfl, rfl⟩ | ⟨a, len, cap, m, n, D, Pl, rfl, hb, hl, hm, hmm, _, hi⟩
  · exact ⟨none, 0, 0, fun _ => [], rfl, ⟨Rd.nil, fun i hi => by omega⟩, fun i hi => by omega, fun _ => ⟨rfl, rfl⟩, Nat.le_refl _, Nat.zero_le _⟩
  · have hlm : len ≤ m := by rw [hmm]; split <;> omega
    have key : ∀ i, i < len → ∃ cs' : List Value, cs'.length = sz ∧ (∀ j, j < sz → w.cell? (a.add (i * sz + j)) = cs'[j]?) ∧ ∃ n y, DataW.trod enc P w base spare held n e cs' = some y := fun i hil => by
      obtain ⟨cs', hc, hx⟩ := hi i (by omega)
      obtain ⟨_, hcl, hat⟩ := World.cells?_some hc
      refine ⟨cs', by rw [hcl, hC], fun j hj => ?_, n, _, hx⟩
      have := hat j (by rw [hC]; exact hj)
      rw [hC] at this
      rw [← this, ← add_add]
    refine ⟨some a, len, cap, fun i => if hi : i < len then (key i hi).choose else [], rfl, ⟨fun hn => ?_, fun i hi => ?_⟩, fun i hi => ?_, fun h => (by cases h), hl, hm⟩
    · have h1 := (key 0 hn).choose_spec.2.1 0 h0
      have hsome : ((key 0 hn).choose)[0]? = some ((key 0 hn).choose[0]'(by rw [(key 0 hn).choose_spec.1]; exact h0)) := List.getElem?_eq_getElem _
      rw [hsome] at h1
      have hadd : a.add (0 * sz + 0) = a := by simp [Addr.add]
      rw [hadd] at h1
      have hsp : a.spot = none := by
        unfold World.cell? at h1
        split at h1
        · cases hs : a.spot with
          | none => rfl
          | some s => simp [hs] at h1
        · cases h1
      have hlt : a.block < w.heap.size := World.block_lt_of_cell? w a h1
      obtain ⟨b, o, s⟩ := a
      simp only at hsp
      subst hsp
      refine ⟨b, o, rfl, hlt, fun i j hi hj => ?_⟩
      have h2 := (key i hi).choose_spec.2.1 j hj
      rw [add_plain] at h2
      rw [show o + i * sz + j = o + (i * sz + j) by omega, h2]
      simp only [rowF, hi, dite_true]
      have hl2 : j < (key i hi).choose.length := by rw [(key i hi).choose_spec.1]; exact hj
      rw [List.getD_eq_getElem?_getD, List.getElem?_eq_getElem hl2]
      rfl
    · simp only [hi, dite_true]
      exact (key i hi).choose_spec.1
    · simp only [hi, dite_true]
      exact (key i hi).choose_spec.2.2
theorem trod_fields {t : TypeId} {fs : Array Field} {fuel : Nat} {cs : List Value} {x : DataW H × List MemPlace} (ht : P.underlying t = some (.struct fs)) (h : DataW.trod enc P w base spare held fuel t cs = some x) :
    cs.length = P.cellsOf t ∧ ∀ (i : Nat) (f : Field), fs[i]? = some f → ∃ n y, DataW.trod enc P w base spare held n f.type ((cs.drop f.offset).take (P.cellsOf f.type)) = some y := by
  obtain ⟨xs, n, _, _, hlen, hxl, hf⟩ := DataW.trod_struct ht h
  refine ⟨hlen, fun i f hi => ?_⟩
  have h1 := hf i f hi
  have hi' : i < fs.size := (Array.getElem?_eq_some_iff.1 hi).1
  rw [List.getElem?_eq_getElem (by omega)] at h1
  exact ⟨n, _, h1⟩
theorem open_ints_in {t e : TypeId} {k : IntKind} {fuel : Nat} {cs : List Value} {x : DataW H × List MemPlace} (ht : P.underlying t = some (.slice e)) (he : P.underlying e = some (.int k)) (hC : P.cellsOf e = 1) (h : DataW.trod enc P w base spare held fuel t cs = some x) :
    ∃ (A : Option Addr) (len cap : Nat) (v : Nat → Int), cs = [.slice A len cap] ∧ RdR w 1 A len (fun q => [.int k (v q)]) ∧ (A = none → len = 0 ∧ cap = 0) ∧ len ≤ cap ∧ cap ≤ maxLen := by
  obtain ⟨A, len, cap, g, rfl, hg, hR, h1, h2, h3⟩ := open_flat_slice (ks := [k]) 1 ht (by simp only [kindsF, he]) hC rfl h
  refine ⟨A, len, cap, fun q => gi (g q) 0, rfl, ⟨hR.rd.congr fun i j hi hj => ?_, fun i hi => rfl⟩, h1, h2, h3⟩
  show (ints [k] (g i)).getD j undef = _
  rw [ints_rowK [k] (g i) (hg i hi)]
  rfl
end
end Go.Proofs.YtmonkjnfjgidbaaGreatDoor
namespace Go.Proofs.YtmonkjnfjgidbaaGreatDoor
set_option linter.all false
set_option linter.unusedVariables false
set_option linter.unusedSimpArgs false
open Go.ChangeShapes Go.WideShapes Go.ChangeAt Go.RowKit Go.Deep
theorem Tryz.own : ownKnob Tryz.prog.godebug = none := by kernel_rfl
theorem Tryz.laidOut : laidOutB Tryz.prog = true := by kernel_rfl
section
variable {H : Type} {enc : TypeId × Value → H} {w : World} {base : Nat} {spare : Nat → Bool} {held : Bool}
set_option maxRecDepth 100000 in
theorem leg_of_trod {fuel : Nat} {G : List Value} {y : DataW H × List MemPlace} (hl : G.length = 5) (hy : DataW.trod enc Tryz.prog w base spare held fuel 122 G = some y) :
    ∃ (x : Leg) (g : Nat → Nat → Int), G = legL x ∧ RdR w 4 x.A x.n (fun j => gateL (g j)) := by
  obtain ⟨_, hf⟩ := trod_fields Tryz.underlying122 hy
  obtain ⟨n0, y0, h0⟩ := hf 0 _ rfl
  obtain ⟨n1, y1, h1⟩ := hf 1 _ rfl
  obtain ⟨n2, y2, h2⟩ := hf 2 _ rfl
  obtain ⟨n3, y3, h3⟩ := hf 3 _ rfl
  obtain ⟨k0, e0, _, _⟩ := DataW.trod_int Tryz.underlying3 h0
  obtain ⟨k1, e1, _, _⟩ := DataW.trod_int Tryz.underlying3 h1
  obtain ⟨s2, e2, l2⟩ := kindsF_spec 2 35 [.i64, .i64] (by kernel_rfl) _ _ _ h2
  obtain ⟨A, n, c, gg, e3, hg, hR, _⟩ := open_flat_slice (ks := [.i64, .i64, .i64, .i64]) 3 Tryz.underlying120 (by kernel_rfl) (by kernel_rfl) rfl h3
  have hc1 : Tryz.prog.cellsOf 3 = 1 := by kernel_rfl
  have hc2 : Tryz.prog.cellsOf 35 = 2 := by kernel_rfl
  have hc3 : Tryz.prog.cellsOf 120 = 1 := by kernel_rfl
  match s2, l2 with
  | [a0, a1], _ =>
    match G, hl with
    | [x0, x1, x2, x3, x4], _ =>
      have e0 : [x0] = [.int .i64 k0] := by simpa [hc1] using e0
      have e1 : [x1] = [.int .i64 k1] := by simpa [hc1] using e1
      have e2 : [x2, x3] = [.int .i64 a0, .int .i64 a1] := by simpa [hc2, ints] using e2
      have e3 : [x4] = [.slice A n c] := by simpa [hc3] using e3
      cases e0; cases e1; cases e2; cases e3
      exact ⟨⟨gi [k0, k1, a0, a1], A, n, c⟩, fun j => gi (gg j), rfl, hR.rowK hg⟩
set_option maxRecDepth 100000 in
theorem claim_of_trod {fuel : Nat} {G : List Value} {y : DataW H × List MemPlace} (hl : G.length = 7) (hy : DataW.trod enc Tryz.prog w base spare held fuel 71 G = some y) :
    ∃ x : (Nat → Int) × Bool, G = claimL x := by
  obtain ⟨_, hf⟩ := trod_fields Tryz.underlying71 hy
  obtain ⟨n0, y0, h0⟩ := hf 0 _ rfl
  obtain ⟨n1, y1, h1⟩ := hf 1 _ rfl
  obtain ⟨n2, y2, h2⟩ := hf 2 _ rfl
  obtain ⟨n3, y3, h3⟩ := hf 3 _ rfl
  obtain ⟨n4, y4, h4⟩ := hf 4 _ rfl
  obtain ⟨n5, y5, h5⟩ := hf 5 _ rfl
  obtain ⟨n6, y6, h6⟩ := hf 6 _ rfl
  obtain ⟨k0, e0, _, _⟩ := DataW.trod_int Tryz.underlying3 h0
  obtain ⟨k1, e1, _, _⟩ := DataW.trod_int Tryz.underlying3 h1
  obtain ⟨k2, e2, _, _⟩ := DataW.trod_int Tryz.underlying3 h2
  obtain ⟨k3, e3, _, _⟩ := DataW.trod_int Tryz.underlying3 h3
  obtain ⟨k4, e4, _, _⟩ := DataW.trod_int Tryz.underlying3 h4
  obtain ⟨k5, e5, _, _⟩ := DataW.trod_int Tryz.underlying3 h5
  obtain ⟨m, e6, _⟩ := DataW.trod_bool Tryz.underlying4 h6
  have hc1 : Tryz.prog.cellsOf 3 = 1 := by kernel_rfl
  have hc2 : Tryz.prog.cellsOf 4 = 1 := by kernel_rfl
  match G, hl with
  | [x0, x1, x2, x3, x4, x5, x6], _ =>
    have e0 : [x0] = [.int .i64 k0] := by simpa [hc1] using e0
    have e1 : [x1] = [.int .i64 k1] := by simpa [hc1] using e1
    have e2 : [x2] = [.int .i64 k2] := by simpa [hc1] using e2
    have e3 : [x3] = [.int .i64 k3] := by simpa [hc1] using e3
    have e4 : [x4] = [.int .i64 k4] := by simpa [hc1] using e4
    have e5 : [x5] = [.int .i64 k5] := by simpa [hc1] using e5
    have e6 : [x6] = [.bool m] := by simpa [hc2] using e6
    cases e0; cases e1; cases e2; cases e3; cases e4; cases e5; cases e6
    exact ⟨(gi [k0, k1, k2, k3, k4, k5], m), rfl⟩
theorem rows_choose {α : Type} {n sz : Nat} {A : Option Addr} {G : Nat → List Value} {F : α → List Value} {q : Nat → α → Prop} (d : α) (hR : RdR w sz A n G) (h : ∀ i, i < n → ∃ x, G i = F x ∧ q i x) : ∃ r : Nat → α, RdR w sz A n (fun i => F (r i)) ∧ ∀ i, i < n → q i (r i) := by
  have hch : ∀ i, ∃ x, i < n → G i = F x ∧ q i x := fun i => by
    by_cases hi : i < n
    · obtain ⟨x, hx⟩ := h i hi
      exact ⟨x, fun _ => hx⟩
    · exact ⟨d, fun h => absurd h hi⟩
  obtain ⟨r, hr⟩ := Classical.axiomOfChoice hch
  exact ⟨r, ⟨hR.rd.congr fun i j hi hj => by simp only [rowF, (hr i hi).1], fun i hi => by rw [← (hr i hi).1]; exact hR.len i hi⟩, fun i hi => (hr i hi).2⟩
set_option maxRecDepth 100000 in
theorem open_land {r : Reach} {b0 : Nat} {v : Value} {dd : DataW H} {p : List MemPlace} (hv : Value.okWide Tryz.prog w r b0 25 v) (h : DataW.Trod enc Tryz.prog w base spare held 25 v dd p) :
    ∃ (W A : Option Addr) (nw cw nl cl : Nat) (f : Nat → Nat → Int) (x : Nat → Leg) (g : Nat → Nat → Nat → Int), v = .agg (landL W nw cw A nl cl).toArray ∧ RdR w 9 W nw (fun k => wellL (f k)) ∧ RdR w 5 A nl (fun k => legL (x k)) ∧ ∀ k, k < nl → RdR w 4 (x k).A (x k).n (fun j => gateL (g k j)) := by
  obtain ⟨cs, rfl, hlen⟩ := okWide_struct Tryz.underlying25 hv
  obtain ⟨fuel, hf⟩ := h
  obtain ⟨hl, hfs⟩ := trod_fields Tryz.underlying25 hf
  obtain ⟨n0, y0, h0⟩ := hfs 0 _ rfl
  obtain ⟨n1, y1, h1⟩ := hfs 1 _ rfl
  obtain ⟨W, nw, cw, gg, e0, hg, hR0, _⟩ := open_flat_slice (ks := List.replicate 9 .i64) 3 Tryz.underlying22 (by kernel_rfl) (by kernel_rfl) rfl h0
  obtain ⟨A, nl, cl, G, e1, hR1, hel, _⟩ := open_slice_any (sz := 5) Tryz.underlying23 (by kernel_rfl) rfl h1
  obtain ⟨x, hx, hq⟩ := rows_choose (F := fun q : Leg × (Nat → Nat → Int) => legL q.1) (q := fun _ q => RdR w 4 q.1.A q.1.n (fun j => gateL (q.2 j))) (⟨fun _ => 0, none, 0, 0⟩, fun _ _ => 0) hR1 fun i hi => by
    obtain ⟨n, y, hy⟩ := hel i hi
    obtain ⟨x, g, e, hr⟩ := leg_of_trod (hR1.len i hi) hy
    exact ⟨(x, g), e, hr⟩
  have hc2 : Tryz.prog.cellsOf 25 = 2 := by kernel_rfl
  have hcw : Tryz.prog.cellsOf 22 = 1 := by kernel_rfl
  have hcl : Tryz.prog.cellsOf 23 = 1 := by kernel_rfl
  rw [hc2] at hl
  obtain ⟨L⟩ := cs
  match L, hl with
  | [x0, x1], _ =>
    have e0 : [x0] = [.slice W nw cw] := by simpa [hcw, Value.cells] using e0
    have e1 : [x1] = [.slice A nl cl] := by simpa [hcl, Value.cells] using e1
    cases e0; cases e1
    exact ⟨W, A, nw, cw, nl, cl, fun k => gi (gg k), fun k => (x k).1, fun k => (x k).2, rfl, hR0.rowK hg, hx, hq⟩
set_option maxRecDepth 100000 in
theorem open_custom {r : Reach} {b0 : Nat} {v : Value} {dd : DataW H} {p : List MemPlace} (hv : Value.okWide Tryz.prog w r b0 30 v) (h : DataW.Trod enc Tryz.prog w base spare held 30 v dd p) :
    ∃ (C D B : Option Addr) (nc cc nd cd nb cb : Nat) (c : Nat → (Nat → Int) × Bool) (d b : Nat → Nat → Int), v = .agg (custL C nc cc D nd cd B nb cb).toArray ∧ RdR w 7 C nc (fun k => claimL (c k)) ∧ RdR w 4 D nd (fun k => feudL (d k)) ∧ RdR w 3 B nb (fun k => borderL (b k)) := by
  obtain ⟨cs, rfl, hlen⟩ := okWide_struct Tryz.underlying30 hv
  obtain ⟨fuel, hf⟩ := h
  obtain ⟨hl, hfs⟩ := trod_fields Tryz.underlying30 hf
  obtain ⟨n0, y0, h0⟩ := hfs 0 _ rfl
  obtain ⟨n1, y1, h1⟩ := hfs 1 _ rfl
  obtain ⟨n2, y2, h2⟩ := hfs 2 _ rfl
  obtain ⟨C, nc, cc, G, e0, hR0, hel, _⟩ := open_slice_any (sz := 7) Tryz.underlying26 (by kernel_rfl) rfl h0
  obtain ⟨D, nd, cd, gd, e1, hgd, hR1, _⟩ := open_flat_slice (ks := List.replicate 4 .i64) 3 Tryz.underlying27 (by kernel_rfl) (by kernel_rfl) rfl h1
  obtain ⟨B, nb, cb, gb, e2, hgb, hR2, _⟩ := open_flat_slice (ks := List.replicate 3 .i64) 3 Tryz.underlying28 (by kernel_rfl) (by kernel_rfl) rfl h2
  obtain ⟨c, hc, _⟩ := rows_choose (F := claimL) (q := fun _ _ => True) (fun _ => 0, false) hR0 fun i hi => by
    obtain ⟨n, y, hy⟩ := hel i hi
    obtain ⟨x, e⟩ := claim_of_trod (hR0.len i hi) hy
    exact ⟨x, e, trivial⟩
  have hc3 : Tryz.prog.cellsOf 30 = 3 := by kernel_rfl
  have hk1 : Tryz.prog.cellsOf 26 = 1 := by kernel_rfl
  have hk2 : Tryz.prog.cellsOf 27 = 1 := by kernel_rfl
  have hk3 : Tryz.prog.cellsOf 28 = 1 := by kernel_rfl
  rw [hc3] at hl
  obtain ⟨L⟩ := cs
  match L, hl with
  | [x0, x1, x2], _ =>
    have e0 : [x0] = [.slice C nc cc] := by simpa [hk1, Value.cells] using e0
    have e1 : [x1] = [.slice D nd cd] := by simpa [hk2, Value.cells] using e1
    have e2 : [x2] = [.slice B nb cb] := by simpa [hk3, Value.cells] using e2
    cases e0; cases e1; cases e2
    exact ⟨C, D, B, nc, cc, nd, cd, nb, cb, c, fun k => gi (gd k), fun k => gi (gb k), rfl, hc, hR1.rowK hgd, hR2.rowK hgb⟩
set_option maxRecDepth 100000 in
theorem open_troop {r : Reach} {b0 : Nat} {v : Value} {dd : DataW H} {p : List MemPlace} (hv : Value.okWide Tryz.prog w r b0 33 v) (h : DataW.Trod enc Tryz.prog w base spare held 33 v dd p) :
    ∃ (T : Trp) (O U V : Option Addr) (co cu cv : Nat), v = .agg (troopL T.hd T.wo O T.no co U T.nu cu V T.nv cv).toArray ∧ RdR w 1 O T.no (fun k => [.int .i64 (T.o k)]) ∧ RdR w 1 U T.nu (fun k => [.int .i64 (T.u k)]) ∧ RdR w 1 V T.nv (fun k => [.int .i64 (T.v k)]) := by
  obtain ⟨cs, rfl, hlen⟩ := okWide_struct Tryz.underlying33 hv
  obtain ⟨fuel, hf⟩ := h
  obtain ⟨hl, hfs⟩ := trod_fields Tryz.underlying33 hf
  obtain ⟨n0, y0, h0⟩ := hfs 0 _ rfl
  obtain ⟨n1, y1, h1⟩ := hfs 1 _ rfl
  obtain ⟨n2, y2, h2⟩ := hfs 2 _ rfl
  obtain ⟨n3, y3, h3⟩ := hfs 3 _ rfl
  obtain ⟨n4, y4, h4⟩ := hfs 4 _ rfl
  obtain ⟨k0, e0, _, _⟩ := DataW.trod_int Tryz.underlying3 h0
  obtain ⟨k1, e1, _, _⟩ := DataW.trod_int Tryz.underlying3 h1
  obtain ⟨O, no, co, o, e2, hO, _⟩ := open_ints_in Tryz.underlying31 Tryz.underlying3 (by kernel_rfl) h2
  obtain ⟨U, nu, cu, u, e3, hU, _⟩ := open_ints_in Tryz.underlying31 Tryz.underlying3 (by kernel_rfl) h3
  obtain ⟨V, nv, cv, x, e4, hV, _⟩ := open_ints_in Tryz.underlying31 Tryz.underlying3 (by kernel_rfl) h4
  have hc5 : Tryz.prog.cellsOf 33 = 5 := by kernel_rfl
  have hc1 : Tryz.prog.cellsOf 3 = 1 := by kernel_rfl
  have hc2 : Tryz.prog.cellsOf 31 = 1 := by kernel_rfl
  rw [hc5] at hl
  obtain ⟨L⟩ := cs
  match L, hl with
  | [x0, x1, x2, x3, x4], _ =>
    have e0 : [x0] = [.int .i64 k0] := by simpa [hc1, Value.cells] using e0
    have e1 : [x1] = [.int .i64 k1] := by simpa [hc1, Value.cells] using e1
    have e2 : [x2] = [.slice O no co] := by simpa [hc2, Value.cells] using e2
    have e3 : [x3] = [.slice U nu cu] := by simpa [hc2, Value.cells] using e3
    have e4 : [x4] = [.slice V nv cv] := by simpa [hc2, Value.cells] using e4
    cases e0; cases e1; cases e2; cases e3; cases e4
    exact ⟨⟨k0, k1, no, nu, nv, o, u, x⟩, O, U, V, co, cu, cv, rfl, hO, hU, hV⟩
set_option maxRecDepth 100000 in
theorem open_span {r : Reach} {b0 : Nat} {v : Value} {dd : DataW H} {p : List MemPlace} (hv : Value.okWide Tryz.prog w r b0 35 v) (h : DataW.Trod enc Tryz.prog w base spare held 35 v dd p) :
    ∃ a b : Int, v = .agg #[.int .i64 a, .int .i64 b] := by
  obtain ⟨cs, rfl, hlen⟩ := okWide_struct Tryz.underlying35 hv
  obtain ⟨fuel, hf⟩ := h
  obtain ⟨s2, e2, l2⟩ := kindsF_spec 2 35 [.i64, .i64] (by kernel_rfl) _ _ _ hf
  match s2, l2 with
  | [a0, a1], _ =>
    refine ⟨a0, a1, ?_⟩
    have e3 : cs.toList = [.int .i64 a0, .int .i64 a1] := by simpa [ints, Value.cells] using e2
    obtain ⟨L⟩ := cs
    have e4 : L = [.int .i64 a0, .int .i64 a1] := e3
    rw [e4]
set_option maxRecDepth 100000 in
theorem open_numbers {r : Reach} {b0 : Nat} {v : Value} {dd : DataW H} {p : List MemPlace} (hv : Value.okWide Tryz.prog w r b0 31 v) (h : DataW.Trod enc Tryz.prog w base spare held 31 v dd p) :
    ∃ (A : Option Addr) (n cp : Nat) (u : Nat → Int), v = .slice A n cp ∧ RdR w 1 A n (fun k => [.int .i64 (u k)]) := by
  obtain ⟨A, n, cp, g, rfl, hg, hR, _, _, _⟩ := open_rows 1 [.i64] Tryz.underlying31 (by kernel_rfl) (by kernel_rfl) rfl hv h
  exact ⟨A, n, cp, fun i => gi (g i) 0, rfl, hR.rowK hg⟩
end
theorem gBars : Tryz.prog.globalNamed "azalai/toll.bars" = some 0 := by kernel_rfl
theorem tBars : (Tryz.prog.globals[0]?).map (·.type) = some 215 := by kernel_rfl
theorem nil_of_trod {w : World} {base : Nat} {sp : Nat → Bool} {fuel : Nat} {t : TypeId} {ps rs : Array TypeId} {va : Bool} {v : Value} {q : List MemPlace} (ht : Tryz.prog.underlying t = some (.func ps rs va)) (h : DataW.trod (funcToken Tryz.prog) Tryz.prog w base sp true fuel t [v] = some (.nil, q)) : v = Value.nilFunc := by
  cases fuel with
  | zero => simp [DataW.trod] at h
  | succ n => cases v <;> simp [DataW.trod, ht] at h <;> rfl
set_option maxRecDepth 100000 in
theorem bars0_of_laid {W : World} (h : laidMetH Tryz.prog [("azalai/toll.bars", Rows.laid_azalai_toll_bars)] W) : OldB W 0 barsL := by
  obtain ⟨g0, t0, cs, fuel, p, hg, ht, hv, hd⟩ := h.funcs (List.mem_singleton.2 rfl)
  obtain rfl := Option.some.inj (gBars.symm.trans hg)
  obtain rfl := Option.some.inj (tBars.symm.trans ht)
  have hd' : DataW.trod (funcToken Tryz.prog) Tryz.prog W 0 (fun _ => true) true fuel 215 cs.toList = some (.agg [.nil, .held [40, 42, 97, 122, 97, 108, 97, 105, 47, 116, 111, 108, 108, 46, 116, 114, 101, 107, 41, 46, 99, 108, 111, 115, 101, 100], .held [40, 42, 97, 122, 97, 108, 97, 105, 47, 116, 111, 108, 108, 46, 116, 114, 101, 107, 41, 46, 104, 97, 116, 101, 100], .held [40, 42, 97, 122, 97, 108, 97, 105, 47, 116, 111, 108, 108, 46, 116, 114, 101, 107, 41, 46, 108, 111, 115, 116]], p) := hd
  have hfl : ∃ c0 c1 c2 c3, cs = #[c0, c1, c2, c3] := by
    obtain ⟨xs, m, _, _, hl, _, _⟩ := DataW.trod_array Tryz.underlying215 hd'
    have hc : Tryz.prog.cellsOf 215 = 4 := by kernel_rfl
    rw [hc] at hl
    obtain ⟨L⟩ := cs
    match L, hl with
    | [c0, c1, c2, c3], _ => exact ⟨c0, c1, c2, c3, rfl⟩
  obtain ⟨c0, c1, c2, c3, rfl⟩ := hfl
  obtain ⟨y0, y1, y2, y3, n, hx, h0, h1, h2, h3⟩ := trod_array4 Tryz.underlying215 (by kernel_rfl) hd'
  simp only [Prod.mk.injEq, DataW.agg.injEq, List.cons.injEq, and_true] at hx
  obtain ⟨⟨e0, e1, e2, e3⟩, _⟩ := hx
  obtain ⟨d0, q0⟩ := y0
  obtain ⟨d1, q1⟩ := y1
  obtain ⟨d2, q2⟩ := y2
  obtain ⟨d3, q3⟩ := y3
  simp only at e0 e1 e2 e3
  subst e0 e1 e2 e3
  obtain rfl := nil_of_trod Tryz.underlying214 h0
  obtain rfl := func_of_trod (f0 := 215) Tryz.underlying214 (by kernel_rfl) h1
  obtain rfl := func_of_trod (f0 := 216) Tryz.underlying214 (by kernel_rfl) h2
  obtain rfl := func_of_trod (f0 := 217) Tryz.underlying214 (by kernel_rfl) h3
  have hc := World.var?_cell hg hv
  exact ⟨World.block_lt_of_cell? W ⟨0, 0, none⟩ (hc 0), fun j v hj => by rw [hc j]; simpa [barsL, barV, barF] using hj⟩
end Go.Proofs.YtmonkjnfjgidbaaGreatDoor
namespace Go.Proofs.YtmonkjnfjgidbaaGreatDoor
set_option linter.all false
set_option linter.unusedVariables false
set_option linter.unusedSimpArgs false
open Go.ChangeShapes Go.WideShapes Go.ChangeAt Go.RowKit Go.Deep
section
variable {H : Type} {enc : TypeId × Value → H} {P : Program} {w : World} {base : Nat} {spare : Nat → Bool} {held : Bool}
theorem trodAll_nine {t0 t1 t2 t3 t4 t5 t6 t7 t8 : TypeId} {args : Array Value} {ds : List (DataW H)} {ps : List MemPlace} (h : DataW.TrodAll enc P w base spare held [t0, t1, t2, t3, t4, t5, t6, t7, t8] args.toList ds ps) :
    ∃ v0 v1 v2 v3 v4 v5 v6 v7 v8 d0 d1 d2 d3 d4 d5 d6 d7 d8 p0 p1 p2 p3 p4 p5 p6 p7 p8, args = #[v0, v1, v2, v3, v4, v5, v6, v7, v8] ∧ ds = [d0, d1, d2, d3, d4, d5, d6, d7, d8] ∧ ps = p0 ++ (p1 ++ (p2 ++ (p3 ++ (p4 ++ (p5 ++ (p6 ++ (p7 ++ p8))))))) ∧ DataW.Trod enc P w base spare held t0 v0 d0 p0 ∧ DataW.Trod enc P w base spare held t1 v1 d1 p1 ∧ DataW.Trod enc P w base spare held t2 v2 d2 p2 ∧ DataW.Trod enc P w base spare held t3 v3 d3 p3 ∧ DataW.Trod enc P w base spare held t4 v4 d4 p4 ∧ DataW.Trod enc P w base spare held t5 v5 d5 p5 ∧ DataW.Trod enc P w base spare held t6 v6 d6 p6 ∧ DataW.Trod enc P w base spare held t7 v7 d7 p7 ∧ DataW.Trod enc P w base spare held t8 v8 d8 p8 := by
  obtain ⟨v0, vs0, d0, ds0, p0, q0, hargs, rfl, rfl, h0, hr0⟩ := trodAll_cons h
  obtain ⟨v1, vs1, d1, ds1, p1, q1, rfl, rfl, rfl, h1, hr1⟩ := trodAll_cons hr0
  obtain ⟨v2, vs2, d2, ds2, p2, q2, rfl, rfl, rfl, h2, hr2⟩ := trodAll_cons hr1
  obtain ⟨v3, vs3, d3, ds3, p3, q3, rfl, rfl, rfl, h3, hr3⟩ := trodAll_cons hr2
  obtain ⟨v4, vs4, d4, ds4, p4, q4, rfl, rfl, rfl, h4, hr4⟩ := trodAll_cons hr3
  obtain ⟨v5, vs5, d5, ds5, p5, q5, rfl, rfl, rfl, h5, hr5⟩ := trodAll_cons hr4
  obtain ⟨v6, vs6, d6, ds6, p6, q6, rfl, rfl, rfl, h6, hr6⟩ := trodAll_cons hr5
  obtain ⟨v7, vs7, d7, ds7, p7, q7, rfl, rfl, rfl, h7, hr7⟩ := trodAll_cons hr6
  obtain ⟨v8, vs8, d8, ds8, p8, q8, rfl, rfl, rfl, h8, hr8⟩ := trodAll_cons hr7
  obtain ⟨rfl, rfl, rfl⟩ := trodAll_nil hr8
  exact ⟨v0, v1, v2, v3, v4, v5, v6, v7, v8, d0, d1, d2, d3, d4, d5, d6, d7, d8, p0, p1, p2, p3, p4, p5, p6, p7, p8, by cases args; simp_all, rfl, by simp, h0, h1, h2, h3, h4, h5, h6, h7, h8⟩
theorem wf_in {k : IntKind} {n : Int} (h : (Lit.int k n).wf = true) : k.min ≤ n ∧ n ≤ k.max := by simpa [Lit.wf] using h
theorem u8_in {n : Int} (h : (Lit.int .u8 n).wf = true) : 0 ≤ n ∧ n ≤ 255 := wf_in h
theorem trod_int {P : Program} {n : Nat} {t : TypeId} {k : IntKind} {cs : List Value} {y : DataW H × List MemPlace} (ht : P.underlying t = some (.int k)) (h : DataW.trod enc P w base spare held n t cs = some y) : ∃ x : Int, cs = [.int k x] ∧ k.min ≤ x ∧ x ≤ k.max := by
  cases n with
  | zero => cases h
  | succ n =>
    unfold DataW.trod at h
    rw [ht] at h
    split at h <;> first | (rename_i e _; cases e; done) | skip
    all_goals first | (rename_i k1 k2 x e; cases e; split at h; (rename_i hx; obtain ⟨rfl, hw⟩ := hx; simp only [Lit.wf, Bool.and_eq_true, decide_eq_true_eq] at hw; exact ⟨x, rfl, hw.1, hw.2⟩); cases h) | (cases h; done) | (rename_i e; cases e; done) | (rename_i e _ _; cases e; done) | (rename_i e _ _ _; cases e; done)
end
end Go.Proofs.YtmonkjnfjgidbaaGreatDoor
namespace Go.Proofs.YtmonkjnfjgidbaaGreatDoor
set_option linter.all false
set_option linter.unusedVariables false
set_option linter.unusedSimpArgs false
open Go.ChangeShapes Go.WideShapes Go.ChangeAt Go.RowKit Go.Deep
set_option maxRecDepth 100000 in
theorem tollFree_door (os : Os) (args : Array Value) : laidMetH Tryz.prog Rows.tollFreeRow.laid ((World.doorLaid Tryz.prog 14 os).forCall (fun _ _ => 0) ⟨#[], args, []⟩).memory :=
  laidMetH_of_parts3 (fuel := 8) (laidMet_of_run' 8 (by kernel_rfl) (by kernel_rfl)) (by kernel_rfl) (by kernel_rfl)
set_option maxRecDepth 100000 in
theorem tollFree_lifted (os : Os) (started : os.Started) (H : Type) (enc : TypeId × Value → H) :
    ReturnsInHanded {} Tryz.checked os 10 .any (fun w args => (Rows.tollFreeSpec.pre enc Tryz.prog Tryz.f10 [] false w args ∧ laidMetH Tryz.prog Rows.tollFreeRow.laid w) ∧ sizedMet enc Tryz.prog Tryz.f10 (OpenSpec.ofChange Rows.tollFreeSpec) false w args) (Rows.tollFreeSpec.post enc Tryz.prog Tryz.f10 false true false false) := by
  refine returnsInHanded_of_change_and (C := Tryz.checked) (X := fun w _ => laidMetH Tryz.prog Rows.tollFreeRow.laid w) (fun _ _ _ hh h => h.of_heap hh) Tryz.own started (by kernel_rfl) Tryz.func10
    (ChangeSpec.witness_shaped (enc := enc) (C := Tryz.checked) (os := os) (X := fun w _ => laidMetH Tryz.prog Rows.tollFreeRow.laid w) false (World.doorLaid Tryz.prog 14 os) #[.agg #[.slice none 0 0, .slice none 0 0], .agg #[.slice none 0 0, .slice none 0 0, .slice none 0 0], .agg #[.int .i64 0, .int .i64 0, .slice none 0 0, .slice none 0 0, .slice none 0 0], .int .i64 0, .int .i64 0, .agg #[.int .i64 0, .int .i64 0], .slice none 0 0, .int .u8 0, .int .u8 0] 8 rfl (World.shaped_of_RefB (by kernel_rfl) (by kernel_rfl)) (by kernel_rfl) (by kernel_rfl) (by kernel_rfl) (tollFree_door os _)) ?_
  intro W base args ds gs before hval0 hW _ _ hLd _
  have hval : ∀ (j : Nat) t v, Tryz.f10.params[j]? = some t → args[j]? = some v → Value.okWide Tryz.prog W .any base t v := hval0
  have hW' := hW
  obtain ⟨p, q, hA0, hV, rfl, hfz, hnd⟩ := hW
  have hA : DataW.TrodAll enc Tryz.prog W 0 (fun _ => true) true Tryz.f10.params.toList args.toList ds p := hA0
  have hA1 := hA
  rw [Tryz.params10] at hA hval
  obtain ⟨v0, v1, v2, v3, v4, v5, v6, v7, v8, d0, d1, d2, d3, d4, d5, d6, d7, d8, p0, p1, p2, p3, p4, p5, p6, p7, p8, rfl, rfl, rfl, h0, h1, h2, h3, h4, h5, h6, h7, h8⟩ := trodAll_nine hA
  obtain ⟨rfl, rfl⟩ := trodVars_none hV
  have hG : OldB W 0 barsL := bars0_of_laid hLd
  obtain ⟨Wl, A, nw, cw, nl, cl, f, x, g, rfl, hRW, hRA, hRG⟩ := open_land (hval 0 25 v0 rfl rfl) h0
  obtain ⟨C, D, B, nc, cc, nd, cd, nb, cb, c, d, b, rfl, hRC, hRD, hRB⟩ := open_custom (hval 1 30 v1 rfl rfl) h1
  obtain ⟨T, O, U, V, co, cu, cv, rfl, hRO, hRU, hRV⟩ := open_troop (hval 2 33 v2 rfl rfl) h2
  obtain ⟨start, rfl, _⟩ := open_int Tryz.underlying3 (hval 3 3 v3 rfl rfl) h3
  obtain ⟨day, rfl, _⟩ := open_int Tryz.underlying3 (hval 4 3 v4 rfl rfl) h4
  obtain ⟨q0, q1, rfl⟩ := open_span (hval 5 35 v5 rfl rfl) h5
  obtain ⟨L, n, cn, ls, rfl, hRL⟩ := open_numbers (hval 6 31 v6 rfl rfl) h6
  obtain ⟨g, rfl, _, _, hs0⟩ := open_int Tryz.underlying5 (hval 7 5 v7 rfl rfl) h7
  have hs3 := u8_in hs0
  obtain ⟨n9, rfl⟩ : ∃ n9 : Nat, g = (n9 : Int) := ⟨g.toNat, by omega⟩
  obtain ⟨s, rfl, _, _, hs1⟩ := open_int Tryz.underlying5 (hval 8 5 v8 rfl rfl) h8
  have hs2 := u8_in hs1
  obtain ⟨s9, rfl⟩ : ∃ s9 : Nat, s = (s9 : Int) := ⟨s.toNat, by omega⟩
  clear hA0 hval0
  simp only [List.append_nil] at hW'
  refine (lawFree_any (Y := ⟨nw, nl, f, x, g, q0, q1, start, day, n, ls⟩) (Z := ⟨nc, nd, nb, c, d, b⟩) (T := T) n9 s9 (by omega) (by omega) ⟨hRW, hRA, hRG, hRC, hRD, hRB, hRO, hRU, hRV, hRL⟩ hG).mono ?_
  rintro e W' ⟨rfl, hb⟩
  exact ⟨_, rfl, law_post Tryz.laidOut rfl hW' hA1 (by kernel_rfl) (by kernel_rfl) Tryz.underlying4 rfl hb⟩
theorem tollFree_row : Rows.TollFreeSaid :=
  OpenClaim.holds_of_wide 10 Tryz.f10 rfl rfl rfl rfl rfl rfl rfl ⟨rfl, rfl, rfl, rfl, rfl⟩ rfl rfl rfl rfl rfl (by kernel_rfl) Tryz.func10 (by kernel_rfl)
    (of_decide_eq_true (by kernel_rfl)) (by unfold Func.isWrapper; first | (rw [if_pos (by decide +kernel)]; kernel_rfl) | (rw [if_neg (by decide +kernel)]; exact ⟨rfl, rfl⟩))
    (fun os started H enc _ => tollFree_lifted os started H enc)
theorem tollFree_holds : Rows.TollFreeCardSaid :=
  Claim7.holds_tied_plain_at .later [] [.funcs] true _ false
    tollFree_row (fun _ h => by cases h) (by kernel_rfl) (fun _ h => by cases h) tollFree_row_tie rfl ⟨rfl, rfl⟩ (by kernel_rfl) rfl
    (fun f fn hf hfn => by
      obtain rfl : f = 10 := Option.some.inj ((show Tryz.prog.funcNamed "azalai/azalailaw07.TollFree" = some 10 by kernel_rfl).symm.trans hf) |>.symm
      obtain rfl : fn = Tryz.f10 := (Option.some.inj (Tryz.func10.symm.trans hfn)).symm
      exact ⟨by kernel_rfl, fun j t ht => by
        have hall : (Tryz.f10.params.toList.all fun u => !Tryz.prog.wantsStandIn u) = true := by kernel_rfl
        have hm : t ∈ Tryz.f10.params.toList := by simpa using Array.mem_of_getElem? ht
        exact (show Tryz.prog.wantsStandIn t = false by simpa using List.all_eq_true.1 hall t hm)⟩)
    (by kernel_rfl)
end Go.Proofs.YtmonkjnfjgidbaaGreatDoor
