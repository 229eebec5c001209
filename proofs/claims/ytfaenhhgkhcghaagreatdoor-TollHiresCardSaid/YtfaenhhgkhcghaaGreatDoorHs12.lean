/-
  Part 12 of the proof of tollHires_holds: declarations of several texts, in build order. No condition on a program.
-/
import Derived.Test.YtfaenhhgkhcghaaGreatDoorHs11
import Derived.Test.YtfaenhhgkhcghaaGreatDoorHs08
import Derived.Test.YtfaenhhgkhcghaaGreatDoorHs03
namespace Go.Proofs.YtfaenhhgkhcghaaGreatDoor
set_option linter.all false
set_option linter.unusedVariables false
set_option linter.unusedSimpArgs false
open Go.RowKit
def payB (Z : Cus) (T : Trp) (leg t : Int) : Bool := decide (0 ≤ holZ Z leg t) && !hasB T.v T.nv ((hclO Z leg t).1 1)
def isW (Z : Cus) (T : Trp) (leg : Int) (s : Nat) (t : Int) : Bool := payB Z T leg t && decide ((hclO Z leg t).1 1 = s)
theorem payB_no {Z : Cus} {T : Trp} {leg t : Int} (h : payB Z T leg t = false) : payZ Z T leg t = 0 := by
 unfold payB at h
 unfold payZ
 split
 · next hh =>
   rw [decide_eq_true hh, Bool.true_and, Bool.not_eq_false'] at h
   unfold hclO at h
   rw [if_pos hh] at h
   exact if_pos h
 · rfl
theorem onT_onW {Z : Cus} {T : Trp} {leg : Int} {s : Nat} (t : Int) : onT Z T leg s t = onW (isW Z T leg s) (payZ Z T leg) t := by
 unfold onT onW isW
 cases hb : payB Z T leg t with
 | false =>
  rw [payB_no hb]
  simp
 | true =>
  have hh : 0 ≤ holZ Z leg t := by
    unfold payB at hb
    rw [Bool.and_eq_true, decide_eq_true_eq] at hb
    exact hb.1
  have e : whoZ Z leg t = (hclO Z leg t).1 1 := by unfold whoZ hclO; rw [if_pos hh, if_pos hh]
  rw [e, Bool.true_and]
  by_cases e2 : (hclO Z leg t).1 1 = (s : Int)
  · rw [if_pos e2, if_pos (decide_eq_true e2)]
  · rw [if_neg e2, if_neg (by simpa using e2)]
def gq (Z : Cus) (T : Trp) (leg : Int) (D : List Int) (q s : Nat) : List Int := gtL (isW Z T leg s) (payZ Z T leg) (D.take q)
theorem gq_yes {Z : Cus} {T : Trp} {leg : Int} {D : List Int} {q s : Nat} (hq : q < D.length) (h : isW Z T leg s (D.getD q 0) = true) : gq Z T leg D (q + 1) s = gq Z T leg D q s ++ [payZ Z T leg (D.getD q 0)] := by
 unfold gq gtL
 rw [filter_takeT hq, if_pos h, List.map_append]
 rfl
theorem gq_no {Z : Cus} {T : Trp} {leg : Int} {D : List Int} {q s : Nat} (hq : q < D.length) (h : isW Z T leg s (D.getD q 0) = false) : gq Z T leg D (q + 1) s = gq Z T leg D q s := by
 unfold gq gtL
 rw [filter_takeT hq, if_neg (by rw [h]; simp)]
theorem gq_len {Z : Cus} {T : Trp} {leg : Int} {D : List Int} {q s : Nat} : (gq Z T leg D q s).length ≤ D.length := by
 unfold gq gtL
 rw [List.length_map]
 exact Nat.le_trans (List.length_filter_le _ _) (by rw [List.length_take]; omega)
def sumQ (Z : Cus) (T : Trp) (leg : Int) (D : List Int) (q : Nat) : List Int := (D.take q).map (payZ Z T leg)
theorem sumQ_s {Z : Cus} {T : Trp} {leg : Int} {D : List Int} {q : Nat} (hq : q < D.length) : sumQ Z T leg D (q + 1) = sumQ Z T leg D q ++ [payZ Z T leg (D.getD q 0)] := by
 unfold sumQ
 rw [take_succ hq, List.map_append]
 rfl
theorem sumQ_len {Z : Cus} {T : Trp} {leg : Int} {D : List Int} {q : Nat} (hq : q ≤ D.length) : (sumQ Z T leg D q).length = q := by
 unfold sumQ
 rw [List.length_map, List.length_take]
 omega
theorem mnF_spec {v : Nat → Int} : ∀ k, (∃ j, j ≤ k ∧ v j = mnF v k) ∧ ∀ j, j ≤ k → mnF v k ≤ v j
 | 0 => ⟨⟨0, Nat.le_refl _, rfl⟩, fun j hj => by have e : j = 0 := Nat.le_zero.1 hj; rw [e]; exact Int.le_refl _⟩
 | k + 1 => by
  obtain ⟨⟨j, hj, e⟩, h⟩ := mnF_spec (v := v) k
  simp only [mnF]
  refine ⟨?_, fun i hi => ?_⟩
  · by_cases h2 : mnF v k ≤ v (k + 1)
    · exact ⟨j, by omega, by omega⟩
    · exact ⟨k + 1, Nat.le_refl _, by omega⟩
  · by_cases e2 : i = k + 1
    · subst e2; omega
    · have := h i (by omega); omega
theorem mxF_spec {v : Nat → Int} : ∀ k, (∃ j, j ≤ k ∧ v j = mxF v k) ∧ ∀ j, j ≤ k → v j ≤ mxF v k
 | 0 => ⟨⟨0, Nat.le_refl _, rfl⟩, fun j hj => by have e : j = 0 := Nat.le_zero.1 hj; rw [e]; exact Int.le_refl _⟩
 | k + 1 => by
  obtain ⟨⟨j, hj, e⟩, h⟩ := mxF_spec (v := v) k
  simp only [mxF]
  refine ⟨?_, fun i hi => ?_⟩
  · by_cases h2 : v (k + 1) ≤ mxF v k
    · exact ⟨j, by omega, by omega⟩
    · exact ⟨k + 1, Nat.le_refl _, by omega⟩
  · by_cases e2 : i = k + 1
    · subst e2; omega
    · have := h i (by omega); omega
theorem mx0_mxF {v : Nat → Int} (hv : ∀ j, 0 ≤ v j) : ∀ k, mx0 v (k + 1) = mxF v k
 | 0 => by have := hv 0; simp only [mx0, mxF]; omega
 | k + 1 => by
  have := mx0_mxF hv k
  simp only [mx0, mxF] at this ⊢
  rw [this]
theorem lstF_spec {a : Int} {v : Nat → Int} : ∀ k, (lstF a v k = a ∨ ∃ j, j < k ∧ v j = lstF a v k) ∧ lstF a v k ≤ a ∧ ∀ j, j < k → lstF a v k ≤ v j
 | 0 => ⟨.inl rfl, Int.le_refl _, fun j hj => by omega⟩
 | k + 1 => by
  obtain ⟨h1, h2, h3⟩ := lstF_spec (a := a) (v := v) k
  simp only [lstF]
  refine ⟨?_, by omega, fun i hi => ?_⟩
  · by_cases h4 : lstF a v k ≤ v k
    · rcases h1 with h1 | ⟨j, hj, e⟩
      · exact .inl (by omega)
      · exact .inr ⟨j, by omega, by omega⟩
    · exact .inr ⟨k, by omega, by omega⟩
  · by_cases e2 : i = k
    · subst e2; omega
    · have := h3 i (by omega); omega
theorem mem_at {L : List Int} {x : Int} (h : x ∈ L) : ∃ j, j < L.length ∧ L.getD j 0 = x := by
 obtain ⟨j, hj, e⟩ := List.mem_iff_getElem.1 h
 exact ⟨j, hj, by simp [List.getD_eq_getElem?_getD, hj, e]⟩
theorem mn_lst {L : List Int} (h : 0 < L.length) : Lst1 L (mnF (fun k => L.getD k 0) (L.length - 1)) := by
 obtain ⟨⟨j, hj, e⟩, h2⟩ := mnF_spec (v := fun k => L.getD k 0) (L.length - 1)
 refine ⟨by rw [← e]; exact mem_getD (by omega), fun t ht => ?_⟩
 obtain ⟨i, hi, e2⟩ := mem_at ht
 rw [← e2]
 exact h2 i (by omega)
theorem mx_mst {L : List Int} (h : 0 < L.length) : Mst1 L (mxF (fun k => L.getD k 0) (L.length - 1)) := by
 obtain ⟨⟨j, hj, e⟩, h2⟩ := mxF_spec (v := fun k => L.getD k 0) (L.length - 1)
 refine ⟨by rw [← e]; exact mem_getD (by omega), fun t ht => ?_⟩
 obtain ⟨i, hi, e2⟩ := mem_at ht
 rw [← e2]
 exact h2 i (by omega)
theorem ls_lst {L : List Int} {a : Int} (h : a ∈ L) : Lst1 L (lstF a (fun k => L.getD k 0) L.length) := by
 obtain ⟨h1, h2, h3⟩ := lstF_spec (a := a) (v := fun k => L.getD k 0) L.length
 refine ⟨?_, fun t ht => ?_⟩
 · rcases h1 with h1 | ⟨j, hj, e⟩
   · rw [h1]; exact h
   · rw [← e]; exact mem_getD hj
 · obtain ⟨i, hi, e2⟩ := mem_at ht
   rw [← e2]
   exact h3 i hi
theorem map_at {D : List Int} {f : Int → Int} {j : Nat} (h : j < D.length) : f (D.getD j 0) = (D.map f).getD j 0 := by
 simp [List.getD_eq_getElem?_getD, h]
theorem mnF_congr {v u : Nat → Int} : ∀ k, (∀ j, j ≤ k → v j = u j) → mnF v k = mnF u k
 | 0, h => h 0 (Nat.le_refl _)
 | k + 1, h => by simp only [mnF]; rw [mnF_congr k fun j hj => h j (by omega), h (k + 1) (Nat.le_refl _)]
theorem mxF_congr {v u : Nat → Int} : ∀ k, (∀ j, j ≤ k → v j = u j) → mxF v k = mxF u k
 | 0, h => h 0 (Nat.le_refl _)
 | k + 1, h => by simp only [mxF]; rw [mxF_congr k fun j hj => h j (by omega), h (k + 1) (Nat.le_refl _)]
theorem dLo_lst {D : List Int} {f : Int → Int} (h : 0 < D.length) : Lst1 (D.map f) (dLo f D) := by
 have e : dLo f D = mnF (fun k => (D.map f).getD k 0) ((D.map f).length - 1) := by
  unfold dLo
  obtain ⟨n, hn⟩ : ∃ n, D.length = n + 1 := ⟨D.length - 1, by omega⟩
  rw [List.length_map, hn]
  exact mnF_congr n fun j hj => map_at (by omega)
 rw [e]
 exact mn_lst (by rw [List.length_map]; exact h)
theorem dHi_mst {D : List Int} {f : Int → Int} (hf : ∀ t, 0 ≤ f t) (h : 0 < D.length) : Mst1 (D.map f) (dHi f D) := by
 have e : dHi f D = mxF (fun k => (D.map f).getD k 0) ((D.map f).length - 1) := by
  unfold dHi
  obtain ⟨n, hn⟩ : ∃ n, D.length = n + 1 := ⟨D.length - 1, by omega⟩
  rw [List.length_map, hn, mx0_mxF (fun j => hf _)]
  exact mxF_congr n fun j hj => map_at (by omega)
 rw [e]
 exact mx_mst (by rw [List.length_map]; exact h)
theorem map_mem {D M : List Int} {f g : Int → Int} (h : ∀ t, t ∈ D ↔ t ∈ M) (e : ∀ t, f t = g t) (x : Int) : x ∈ D.map f ↔ x ∈ M.map g := by
 simp only [List.mem_map, h, e]
section
variable {Z : Cus} {T : Trp} {s : Nat → Int}
theorem cd_lo (h : s 2 ≤ s 3) : 0 < (cdZ Z (s 2) (s 3)).length := by
 have : s 2 ∈ cdZ Z (s 2) (s 3) := cdZ_mem.1 ((tu_cd).2 (cd_mem.2 ⟨inB_iff.2 ⟨Int.le_refl _, h⟩, rul_lo⟩))
 exact List.length_pos_of_mem this
theorem tu_lo (h : s 2 ≤ s 3) : 0 < (tuD Z (s 2) (s 3)).length := by
 have : s 2 ∈ tuD Z (s 2) (s 3) := (tu_cd).2 (cd_mem.2 ⟨inB_iff.2 ⟨Int.le_refl _, h⟩, rul_lo⟩)
 exact List.length_pos_of_mem this
theorem sum_lo (h : s 2 ≤ s 3) : mnF (fun k => ((cdZ Z (s 2) (s 3)).map (payZ Z T (s 0))).getD k 0) (((cdZ Z (s 2) (s 3)).map (payZ Z T (s 0))).length - 1) = sumLo Z T s :=
 Lst1.eq (map_mem (fun t => cdZ_mem.symm) fun _ => rfl) (mn_lst (by rw [List.length_map]; exact cd_lo h)) (dLo_lst (tu_lo h))
theorem sum_hi (hok : CusOk Z) (ht : trpOk T = true) (h : s 2 ≤ s 3) : mxF (fun k => ((cdZ Z (s 2) (s 3)).map (payZ Z T (s 0))).getD k 0) (((cdZ Z (s 2) (s 3)).map (payZ Z T (s 0))).length - 1) = sumHi Z T s :=
 Mst1.eq (map_mem (fun t => cdZ_mem.symm) fun _ => rfl) (mx_mst (by rw [List.length_map]; exact cd_lo h)) (dHi_mst (fun t => (payZ_bd hok ht).1) (tu_lo h))
def gotZ (Z : Cus) (T : Trp) (s : Nat → Int) (q : Nat) : List Int := gotL (isW Z T (s 0) q) (payZ Z T (s 0)) (cdZ Z (s 2) (s 3))
theorem gotZ_mem {q : Nat} (x : Int) : x ∈ gotZ Z T s q ↔ x ∈ (tuD Z (s 2) (s 3)).map (onT Z T (s 0) q) := by
 unfold gotZ
 rw [got_mem]
 exact map_mem (fun t => cdZ_mem.symm) (fun t => (onT_onW t).symm) x
theorem gotZ_pos {q : Nat} (h : s 2 ≤ s 3) : 0 < (gotZ Z T s q).length := by
 have h1 := tu_lo (Z := Z) h
 obtain ⟨t, ht⟩ := List.exists_mem_of_length_pos h1
 have : onT Z T (s 0) q t ∈ gotZ Z T s q := (gotZ_mem _).2 (List.mem_map_of_mem ht)
 exact List.length_pos_of_mem this
theorem trb_hi {q : Nat} (hok : CusOk Z) (ht : trpOk T = true) (h : s 2 ≤ s 3) : mxF (fun k => (gotZ Z T s q).getD k 0) ((gotZ Z T s q).length - 1) = trbHi Z T s q :=
 Mst1.eq gotZ_mem (mx_mst (gotZ_pos h)) (dHi_mst (fun t => (onT_bd hok ht).1) (tu_lo h))
theorem trb_lo {q : Nat} (hok : CusOk Z) (ht : trpOk T = true) (h : s 2 ≤ s 3) : lstF (trbHi Z T s q) (fun k => (gotZ Z T s q).getD k 0) (gotZ Z T s q).length = trbLo Z T s q := by
 have hm : trbHi Z T s q ∈ gotZ Z T s q := by
  rw [← trb_hi hok ht h]
  exact (mx_mst (gotZ_pos h)).1
 exact Lst1.eq gotZ_mem (ls_lst hm) (dLo_lst (tu_lo h))
theorem gotZ_yes {q : Nat} (h : (gq Z T (s 0) (cdZ Z (s 2) (s 3)) (cdZ Z (s 2) (s 3)).length q).length < (cdZ Z (s 2) (s 3)).length) : gq Z T (s 0) (cdZ Z (s 2) (s 3)) (cdZ Z (s 2) (s 3)).length q ++ [0] = gotZ Z T s q := by
 unfold gq at h ⊢
 rw [List.take_length] at h ⊢
 exact (if_pos h).symm
theorem gotZ_no {q : Nat} (h : ¬ (gq Z T (s 0) (cdZ Z (s 2) (s 3)) (cdZ Z (s 2) (s 3)).length q).length < (cdZ Z (s 2) (s 3)).length) : gq Z T (s 0) (cdZ Z (s 2) (s 3)) (cdZ Z (s 2) (s 3)).length q = gotZ Z T s q := by
 unfold gq at h ⊢
 rw [List.take_length] at h ⊢
 exact (if_neg h).symm
end
theorem max_got {A : Option Addr} {n cp : Nat} {L : List Int} {t : Int} {w : World} (hn : n = L.length) (h0 : 0 < L.length) (hm : n ≤ 1000000) (e : mxF (fun k => L.getD k 0) (L.length - 1) = t) (hR : RdR w 1 A n (iL L)) :
  Calls Tryz.prog 123 #[.slice A n cp] w (Ret w (.int .i64 t)) := by
 subst e hn
 exact slMax_any h0 hm hR
theorem min_got {A : Option Addr} {n cp : Nat} {L : List Int} {t : Int} {w : World} (hn : n = L.length) (h0 : 0 < L.length) (hm : n ≤ 1000000) (e : mnF (fun k => L.getD k 0) (L.length - 1) = t) (hR : RdR w 1 A n (iL L)) :
  Calls Tryz.prog 125 #[.slice A n cp] w (Ret w (.int .i64 t)) := by
 subst e hn
 exact slMin_any h0 hm hR
theorem lst_got {A : Option Addr} {n cp : Nat} {L : List Int} {a t : Int} {w : World} (hn : n = L.length) (hm : n ≤ 1000000) (e : lstF a (fun k => L.getD k 0) L.length = t) (hR : RdR w 1 A n (iL L)) :
  Calls Tryz.prog 124 #[.int .i64 a, .slice A n cp] w (Ret w (.int .i64 t)) := by
 subst e hn
 exact leastI_any a hm hR
theorem hclO_pay {Z : Cus} (hok : CusOk Z) {leg day : Int} : 0 ≤ (hclO Z leg day).1 4 ∧ (hclO Z leg day).1 4 ≤ 1000000 ∧ 0 ≤ (hclO Z leg day).1 5 ∧ (hclO Z leg day).1 5 ≤ 1000 := by
 unfold hclO
 split
 · have hol := hol_bd (Z := Z) (leg := leg) (day := day)
   have := hok.c (holZ Z leg day).toNat (by omega)
   unfold hclZ
   omega
 · exact ⟨Int.le_refl _, by decide, Int.le_refl _, by decide⟩
theorem pay_eq {Z : Cus} {T : Trp} {leg t : Int} (h : payB Z T leg t = true) : (hclO Z leg t).1 4 * T.hd + ((hclO Z leg t).1 5 * T.wo + 1000 - 1) / 1000 = payZ Z T leg t := by
 unfold payB at h
 rw [Bool.and_eq_true, decide_eq_true_eq, Bool.not_eq_true'] at h
 obtain ⟨h1, h2⟩ := h
 unfold hclO at h2 ⊢
 rw [if_pos h1] at h2 ⊢
 unfold payZ
 rw [if_pos h1, if_neg (by rw [h2]; simp)]
 congr 2
 omega
def dueP (Z : Cus) (T : Trp) (leg : Int) (D : List Int) (q : Nat) (mp : List (Int × Value)) (a : Nat → Option Addr) (c : Nat → Nat) : Prop :=
 ∀ s : Nat, s < 8 → (mlook (s : Int) mp).getD (.slice none 0 0) = .slice (a s) (gq Z T leg D q s).length (c s)
theorem dueP_0 {Z : Cus} {T : Trp} {leg : Int} {D : List Int} : dueP Z T leg D 0 [] (fun _ => none) (fun _ => 0) := fun s _ => rfl
theorem dueP_no {Z : Cus} {T : Trp} {leg : Int} {D : List Int} {q : Nat} {mp : List (Int × Value)} {a : Nat → Option Addr} {c : Nat → Nat} (hq : q < D.length) (h : payB Z T leg (D.getD q 0) = false) (hP : dueP Z T leg D q mp a c) : dueP Z T leg D (q + 1) mp a c := fun s hs => by
 rw [hP s hs, gq_no hq (by unfold isW; rw [h]; rfl)]
theorem isW_ne {Z : Cus} {T : Trp} {leg t : Int} {s : Nat} (h : (hclO Z leg t).1 1 ≠ s) : isW Z T leg s t = false := by
 unfold isW
 rw [decide_eq_false h, Bool.and_false]
theorem dueP_yes {Z : Cus} {T : Trp} {leg : Int} {D : List Int} {q s0 : Nat} {mp : List (Int × Value)} {a : Nat → Option Addr} {c : Nat → Nat} {A9 : Option Addr} {c9 : Nat} (hq : q < D.length) (h : payB Z T leg (D.getD q 0) = true) (hs : (hclO Z leg (D.getD q 0)).1 1 = s0) (hP : dueP Z T leg D q mp a c) :
    dueP Z T leg D (q + 1) (mput ((hclO Z leg (D.getD q 0)).1 1) (.slice A9 ((gq Z T leg D q s0).length + 1) c9) mp) (updA a s0 A9) (updA c s0 c9) := fun s h8 => by
  rw [look_put, hs]
  by_cases e : s = s0
  · subst e
    rw [if_pos rfl, gq_yes hq (by unfold isW; rw [h, decide_eq_true hs]; rfl), List.length_append]
    simp [updA]
  · rw [if_neg (by omega), hP s h8, gq_no hq (isW_ne (by rw [hs]; omega))]
    simp [updA, e]
end Go.Proofs.YtfaenhhgkhcghaaGreatDoor
namespace Go.Proofs.YtfaenhhgkhcghaaGreatDoor
set_option linter.all false
set_option linter.unusedVariables false
set_option linter.unusedSimpArgs false
structure Fes where
 nf : Nat
 t : Nat → Int
 r : Nat → Int
def feeK (E : Fes) (i : Nat) : Bool := inB5 0 7 (E.t i) && inB5 0 1000000000000 (E.r i) && (decide (i = 0) || decide (E.t (i - 1) < E.t i))
def fesOk (E : Fes) : Bool := allB E.nf (feeK E)
theorem fes_at {E : Fes} (h : fesOk E = true) {i : Nat} (hi : i < E.nf) : 0 ≤ E.t i ∧ E.t i ≤ 7 ∧ 0 ≤ E.r i ∧ E.r i ≤ 1000000000000 := by
 have := allB_iff.1 h i hi
 unfold feeK inB5 at this
 simp only [Bool.and_eq_true, decide_eq_true_eq] at this
 omega
theorem fes_up {E : Fes} (h : fesOk E = true) : ∀ i : Nat, i < E.nf → (i : Int) ≤ E.t i
 | 0, hi => (fes_at h hi).1
 | i + 1, hi => by
  have h1 := fes_up h i (by omega)
  have := allB_iff.1 h (i + 1) hi
  unfold feeK at this
  simp only [Bool.and_eq_true, Bool.or_eq_true, decide_eq_true_eq, Nat.add_sub_cancel] at this
  have h2 := this.2.resolve_left (by omega)
  omega
theorem fes_len {E : Fes} (h : fesOk E = true) : E.nf ≤ 8 := by
  by_cases h0 : E.nf = 0
  · omega
  · have h1 := fes_up h (E.nf - 1) (by omega)
    have h2 := (fes_at h (show E.nf - 1 < E.nf by omega)).2.1
    omega
def selT (E : Fes) (q : Nat) : Nat → List Int
 | 0 => []
 | k + 1 => if q / 2 ^ k % 2 = 1 then selT E q k ++ [E.t k] else selT E q k
def selR (E : Fes) (q : Nat) : Nat → Int
 | 0 => 0
 | k + 1 => if q / 2 ^ k % 2 = 1 then selR E q k + E.r k else selR E q k
theorem selT_len {E : Fes} {q : Nat} : ∀ k, (selT E q k).length ≤ k
 | 0 => Nat.le_refl _
 | k + 1 => by
  have := selT_len (E := E) (q := q) k
  simp only [selT]
  split
  · simp only [List.length_append, List.length_cons, List.length_nil]; omega
  · omega
theorem selT_mem {E : Fes} {q : Nat} {x : Int} : ∀ k, x ∈ selT E q k → ∃ i, i < k ∧ E.t i = x
 | 0, h => by simp [selT] at h
 | k + 1, h => by
  simp only [selT] at h
  split at h
  · rcases List.mem_append.1 h with h | h
    · obtain ⟨i, hi, e⟩ := selT_mem k h
      exact ⟨i, by omega, e⟩
    · exact ⟨k, by omega, (List.mem_singleton.1 h).symm⟩
  · obtain ⟨i, hi, e⟩ := selT_mem k h
    exact ⟨i, by omega, e⟩
theorem selT_bd {E : Fes} (h : fesOk E = true) {q k : Nat} (hk : k ≤ E.nf) {x : Int} (hx : x ∈ selT E q k) : 0 ≤ x ∧ x ≤ 7 := by
 obtain ⟨i, hi, e⟩ := selT_mem k hx
 have := fes_at h (show i < E.nf by omega)
 omega
theorem selR_bd {E : Fes} (h : fesOk E = true) {q : Nat} : ∀ k : Nat, k ≤ E.nf → 0 ≤ selR E q k ∧ selR E q k ≤ 1000000000000 * k
 | 0, _ => by simp [selR]
 | k + 1, hk => by
  have := selR_bd h (q := q) k (by omega)
  have := fes_at h (show k < E.nf by omega)
  simp only [selR]
  split <;> omega
def ltL : List Int → List Int → Bool
 | a :: l, b :: m => if a = b then ltL l m else decide (a < b)
 | _, _ => false
def cmpI : List Int → List Int → Int
 | [], [] => 0
 | [], _ :: _ => -1
 | _ :: _, [] => 1
 | x :: xs, y :: ys => if cmpV x y = 0 then cmpI xs ys else cmpV x y
theorem cmp_lt : ∀ {l m : List Int}, l.length = m.length → (0 ≤ cmpI l m ↔ ltL l m = false)
  | [], [], _ => by simp [cmpI, ltL]
  | [], _ :: _, h => by simp at h
  | _ :: _, [], h => by simp at h
  | a :: l, b :: m, h => by
    simp only [cmpI, ltL]
    by_cases e : a = b
    · subst e
      rw [if_pos rfl, if_pos (show cmpV a a = 0 by unfold cmpV; simp)]
      exact cmp_lt (by simpa using h)
    · rw [if_neg e, decide_eq_false_iff_not]
      by_cases e1 : a < b
      · have : cmpV a b = -1 := if_pos e1
        rw [this, if_neg (by decide)]
        omega
      · have : cmpV a b = 1 := by unfold cmpV; rw [if_neg e1, if_pos (by omega)]
        rw [this, if_neg (by decide)]
        omega
def betC (n : Int) (l : List Int) (cost : Int) (best : List Int) : Bool := decide (n < cost) || (decide (n = cost) && (decide (l.length < best.length) || (decide (l.length = best.length) && ltL l best)))
def hirK (free : List Int → Bool) (E : Fes) : Nat → List Int × Int × Bool
 | 0 => ([], 0, false)
 | q + 1 => if ((!(hirK free E q).2.2 || betC (selR E q E.nf) (selT E q E.nf) (hirK free E q).2.1 (hirK free E q).1) && free (selT E q E.nf)) = true then (selT E q E.nf, selR E q E.nf, true) else hirK free E q
theorem hir_yes {free : List Int → Bool} {E : Fes} {q : Nat} (h : (!(hirK free E q).2.2 || betC (selR E q E.nf) (selT E q E.nf) (hirK free E q).2.1 (hirK free E q).1) = true) (hf : free (selT E q E.nf) = true) : hirK free E (q + 1) = (selT E q E.nf, selR E q E.nf, true) := by
 simp only [hirK]
 rw [h, hf]
 rfl
theorem hir_no1 {free : List Int → Bool} {E : Fes} {q : Nat} (hf : free (selT E q E.nf) = false) : hirK free E (q + 1) = hirK free E q := by
 simp only [hirK]
 rw [hf, Bool.and_false]
 rfl
theorem hir_no2 {free : List Int → Bool} {E : Fes} {q : Nat} (h : (!(hirK free E q).2.2 || betC (selR E q E.nf) (selT E q E.nf) (hirK free E q).2.1 (hirK free E q).1) = false) : hirK free E (q + 1) = hirK free E q := by
 simp only [hirK]
 rw [h, Bool.false_and]
 rfl
theorem pow_nf {E : Fes} (h : fesOk E = true) : 2 ^ E.nf ≤ 256 := Nat.le_trans (Nat.pow_le_pow_right (by omega) (fes_len h)) (by decide)
theorem hirK_len {free : List Int → Bool} {E : Fes} : ∀ q, (hirK free E q).1.length ≤ E.nf
 | 0 => by simp [hirK]
 | q + 1 => by
  simp only [hirK]
  split
  · exact selT_len _
  · exact hirK_len q
theorem hirK_bd {free : List Int → Bool} {E : Fes} (h : fesOk E = true) : ∀ q, 0 ≤ (hirK free E q).2.1 ∧ (hirK free E q).2.1 ≤ 8000000000000
 | 0 => by simp [hirK]
 | q + 1 => by
  simp only [hirK]
  split
  · have := selR_bd h (q := q) E.nf (Nat.le_refl _)
    have := fes_len h
    simp only
    omega
  · exact hirK_bd h q
def tgu (T : Trp) (l : List Int) : Trp := { T with nu := T.nu + l.length, u := fun k => if k < T.nu then T.u k else l.getD (k - T.nu) 0 }
def gudK (T : Trp) (l : List Int) : Nat → List Int
 | 0 => []
 | i + 1 => if (hasB T.u T.nu (i : Int) || hasB (fun k => l.getD k 0) l.length (i : Int)) = true then gudK T l i ++ [(i : Int)] else gudK T l i
def gud (T : Trp) (l : List Int) : Trp := { T with nu := (gudK T l 8).length, u := fun k => (gudK T l 8).getD k 0 }
theorem gudK_len {T : Trp} {l : List Int} : ∀ i, (gudK T l i).length ≤ i
 | 0 => Nat.le_refl _
 | i + 1 => by
  have := gudK_len (T := T) (l := l) i
  simp only [gudK]
  split
  · simp only [List.length_append, List.length_cons, List.length_nil]; omega
  · omega
theorem has_iff {v : Nat → Int} {n : Nat} {a : Int} : hasB v n a = true ↔ ∃ k, k < n ∧ v k = a := by
 unfold hasB
 rw [exB_iff]
 simp only [decide_eq_true_eq]
theorem hasL_iff {l : List Int} {a : Int} : hasB (fun k => l.getD k 0) l.length a = true ↔ a ∈ l := by
 rw [has_iff]
 constructor
 · rintro ⟨k, hk, e⟩
   rw [← e]
   exact mem_getD hk
 · intro h
   exact mem_at h
theorem gudK_mem {T : Trp} {l : List Int} {x : Int} : ∀ i : Nat, x ∈ gudK T l i ↔ 0 ≤ x ∧ x < i ∧ (hasB T.u T.nu x = true ∨ x ∈ l)
 | 0 => by simp only [gudK, List.not_mem_nil, false_iff]; omega
 | i + 1 => by
  have ih := gudK_mem (T := T) (l := l) (x := x) i
  simp only [gudK]
  by_cases h : (hasB T.u T.nu (i : Int) || hasB (fun k => l.getD k 0) l.length (i : Int)) = true
  · rw [if_pos h, List.mem_append, List.mem_singleton, ih]
    rw [Bool.or_eq_true, hasL_iff] at h
    constructor
    · rintro (⟨h1, h2, h3⟩ | rfl)
      · exact ⟨h1, by omega, h3⟩
      · exact ⟨by omega, by omega, h⟩
    · rintro ⟨h1, h2, h3⟩
      by_cases e : x = i
      · exact .inr e
      · exact .inl ⟨h1, by omega, h3⟩
  · rw [if_neg h, ih]
    rw [Bool.or_eq_true, hasL_iff] at h
    constructor
    · rintro ⟨h1, h2, h3⟩
      exact ⟨h1, by omega, h3⟩
    · rintro ⟨h1, h2, h3⟩
      by_cases e : x = i
      · rw [e] at h3; exact absurd h3 h
      · exact ⟨h1, by omega, h3⟩
theorem tgu_has {T : Trp} {l : List Int} {x : Int} : hasB (tgu T l).u (tgu T l).nu x = true ↔ hasB T.u T.nu x = true ∨ x ∈ l := by
 rw [has_iff, has_iff]
 show (∃ k, k < T.nu + l.length ∧ (if k < T.nu then T.u k else l.getD (k - T.nu) 0) = x) ↔ _
 constructor
 · rintro ⟨k, hk, e⟩
   by_cases h : k < T.nu
   · rw [if_pos h] at e; exact .inl ⟨k, h, e⟩
   · rw [if_neg h] at e
     rw [← e]
     exact .inr (mem_getD (by omega))
 · rintro (⟨k, hk, e⟩ | h)
   · exact ⟨k, by omega, by rw [if_pos hk]; exact e⟩
   · obtain ⟨j, hj, e⟩ := mem_at h
     exact ⟨T.nu + j, by omega, by rw [if_neg (by omega), show T.nu + j - T.nu = j by omega]; exact e⟩
theorem gud_has {T : Trp} {l : List Int} (hu : ∀ k, k < T.nu → 0 ≤ T.u k ∧ T.u k ≤ 7) (hl : ∀ x, x ∈ l → 0 ≤ x ∧ x ≤ 7) (x : Int) : hasB (gud T l).u (gud T l).nu x = hasB (tgu T l).u (tgu T l).nu x := by
 rw [Bool.eq_iff_iff, tgu_has]
 show hasB (fun k => (gudK T l 8).getD k 0) (gudK T l 8).length x = true ↔ _
 rw [hasL_iff, gudK_mem]
 constructor
 · exact fun h => h.2.2
 · intro h
   have hb : 0 ≤ x ∧ x ≤ 7 := by
    rcases h with h | h
    · obtain ⟨k, hk, e⟩ := has_iff.1 h
      rw [← e]; exact hu k hk
    · exact hl x h
   exact ⟨hb.1, by omega, h⟩
theorem hat_by {Z : Cus} {T1 T2 : Trp} (h0 : T1.no = T2.no) (h1 : T1.o = T2.o) (hx : ∀ x, hasB T1.u T1.nu x = hasB T2.u T2.nu x) (leg day : Int) : hatZ Z T1 leg day = hatZ Z T2 leg day := by
 have key : ∀ {T1 T2 : Trp}, T1.no = T2.no → T1.o = T2.o → (∀ x, hasB T1.u T1.nu x = hasB T2.u T2.nu x) → ∀ p : Int → Bool, (exB (T1.no + T1.nu) fun i => p (peoA T1 i)) = true → (exB (T2.no + T2.nu) fun i => p (peoA T2 i)) = true := by
  intro T1 T2 h0 h1 hx p h
  obtain ⟨i, hi, e⟩ := exB_iff.1 h
  unfold peoA at e
  by_cases hlt : i < T1.no
  · rw [if_pos hlt] at e
    exact exB_iff.2 ⟨i, by omega, by unfold peoA; rw [if_pos (by omega), ← h1]; exact e⟩
  · rw [if_neg hlt] at e
    have h2 : hasB T1.u T1.nu (T1.u (i - T1.no)) = true := has_iff.2 ⟨i - T1.no, by omega, rfl⟩
    rw [hx] at h2
    obtain ⟨k, hk, e2⟩ := has_iff.1 h2
    exact exB_iff.2 ⟨T2.no + k, by omega, by unfold peoA; rw [if_neg (by omega), show T2.no + k - T2.no = k by omega, e2]; exact e⟩
 unfold hatZ
 congr 1
 rw [Bool.eq_iff_iff]
 exact ⟨key h0 h1 hx fun a => feuZ Z a ((hclZ Z leg day).1 1) day, key h0.symm h1.symm (fun x => (hx x).symm) fun a => feuZ Z a ((hclZ Z leg day).1 1) day⟩
theorem bar_by {Z : Cus} {T1 T2 : Trp} (h0 : T1.no = T2.no) (h1 : T1.o = T2.o) (hx : ∀ x, hasB T1.u T1.nu x = hasB T2.u T2.nu x) (n : Nat) (st : Nat → Nat → Int) : barD Z T1 n st = barD Z T2 n st := by
 have hw : ∀ leg day, whyZ Z T1 leg day = whyZ Z T2 leg day := fun leg day => by
  unfold whyZ
  rw [hat_by h0 h1 hx]
  unfold losZ
  rw [hx]
 unfold barD whyD
 simp only [hw]
def freeB (Z : Cus) (T : Trp) (n : Nat) (st : Nat → Nat → Int) (l : List Int) : Bool := decide ((barD Z (tgu T l) n st).1 = 0)
def hirV (Z : Cus) (T : Trp) (n : Nat) (st : Nat → Nat → Int) (E : Fes) : List Int × Int × Bool := hirK (freeB Z T n st) E (2 ^ E.nf)
theorem gud_bar {Z : Cus} {T : Trp} {n : Nat} {st : Nat → Nat → Int} {l : List Int} (ht : trpOk T = true) (hl : ∀ x, x ∈ l → 0 ≤ x ∧ x ≤ 7) : barD Z (gud T l) n st = barD Z (tgu T l) n st :=
 bar_by (T1 := gud T l) (T2 := tgu T l) rfl rfl (gud_has (fun k hk => by
  unfold trpOk at ht
  simp only [Bool.and_eq_true] at ht
  have h := allB_iff.1 ht.1.2 k hk
  unfold inB5 at h
  simp only [Bool.and_eq_true, decide_eq_true_eq] at h
  omega) hl) n st
end Go.Proofs.YtfaenhhgkhcghaaGreatDoor
namespace Go.Proofs.YtfaenhhgkhcghaaGreatDoor
set_option linter.all false
set_option linter.unusedVariables false
set_option linter.unusedSimpArgs false
open Go.RowKit
theorem ret_b {a b : Bool} (h : a = b) : Ending.returned (.bool a) = .returned (.bool b) := by rw [h]
set_option maxRecDepth 100000 in
theorem earlier_any {A B : Option Addr} {n c1 c2 : Nat} {L M : List Int} {w : World} (hL : n = L.length) (hM : n = M.length) (hn : n ≤ 1000000) (hA : RdR w 1 A n (iL L)) (hB : RdR w 1 B n (iL M)) :
  Calls Tryz.prog 67 #[.slice A n c1, .slice B n c2] w (Ret w (.bool (ltL L M))) := by
 unfold iL at hA hB
 refine K_enter (S := []) (K := []) Tryz.func67 rfl Tryz.ntmps67 rfl (Sat.start _) ?_
 refine TW.seq fun Y1 hY1 => TW.region ?_
 refine TL.p Pu.as ?_
 refine TL.nil (TQ.thenN (hY1 _ _ ?_))
 refine TW.seq fun Y2 hY2 => ?_
 refine TW.seq fun Y3 hY3 => TW.region ?_
 refine TL.p Pu.as ?_
 refine TL.nil (TQ.thenN (hY3 _ _ ?_))
 refine TW.block ?_
 refine TW.loop1 (fun (k : Nat) => [(5, .int .i64 (k : Int)), (0, .slice A n c1), (1, .slice B n c2)]) (fun k => []) (fun k => k ≤ n ∧ ltL L M = ltL (L.drop k) (M.drop k)) (fun k => n - k) 0 fs9 ?_ ?_ ?_
 exact ks9
 exact ⟨Nat.zero_le _, rfl⟩
 rintro k ⟨hk, he⟩ Z0 hZ0
 replace he := hidT he
 refine TW.seq fun Y4 hY4 => ?_
 refine TW.seq fun Y5 hY5 => TW.region ?_
 refine TL.p Pu.mv ?_
 refine TL.p Pu.mv ?_
 refine TL.p (Pu.ln Tryz.underlying31) ?_
 refine TL.p Pu.lt ?_
 refine TL.nil (TQ.thenN (hY5 _ _ ?_))
 refine TW.cond rfl (fun hc0 => ?_) (fun hc0 => ?_)
 try simp only [zcb9] at hc0
 have hkn : k < n := by omega
 have dL := hidT (drop_get (L := L) (k := k) (by omega))
 have dM := hidT (drop_get (L := M) (k := k) (by omega))
 refine TW.skip ?_
 refine TQ.thenN (hY4 _ _ ?_)
 refine TW.seq fun Y6 hY6 => ?_
 refine TW.block ?_
 refine TW.seq fun Y7 hY7 => ?_
 refine TW.dw 9 ?_
 refine RK.tk Pu.mv ?_
 refine RK.tk Pu.mv ?_
 refine RK.tk (Pu.el ty_et31) ?_
 refine RK.tk (Pu.ld ty_sc3) ?_
 refine RK.tk Pu.mv ?_
 refine RK.tk Pu.mv ?_
 refine RK.tk (Pu.el ty_et31) ?_
 refine RK.tk (Pu.ld ty_sc3) ?_
 refine RK.tk Pu.ne ?_
 refine RK.ch [] ?_ trivial
 refine WK.n ?_
 refine TL.nil (TQ.thenN (hY7 _ _ ?_))
 refine TW.cond rfl (fun hc1 => ?_) (fun hc1 => ?_)
 try simp only [zcb9] at hc1
 have hv : L.getD k 0 ≠ M.getD k 0 := by first | exact hc1 | simpa using hc1
 refine TW.seq fun Y8 hY8 => ?_
 refine TW.dw 10 ?_
 refine RK.tk Pu.mv ?_
 refine RK.tk Pu.mv ?_
 refine RK.tk (Pu.el ty_et31) ?_
 refine RK.tk (Pu.ld ty_sc3) ?_
 refine RK.tk Pu.mv ?_
 refine RK.tk Pu.mv ?_
 refine RK.tk (Pu.el ty_et31) ?_
 refine RK.tk (Pu.ld ty_sc3) ?_
 refine RK.tk Pu.lt ?_
 refine RK.tk Pu.as ?_
 refine RK.ch [] ?_ trivial
 refine WK.n ?_
 refine TL.nil (TQ.thenN (hY8 _ _ ?_))
 refine TW.ret ?_
 refine TQ.blkR ?_
 refine TQ.thenR ?_
 refine TQ.thenR ?_
 refine TQ.blkR ?_
 refine TQ.thenR ?_
 refine TQ.ret Tryz.results67 rfl ((.tmp rfl .nil)) ?_
 exact fun w hw => ⟨ret_b (by rw [he.out, dL.out, dM.out]; simp only [ltL]; rw [if_neg hv]), Chg.ext hw.chg⟩
 try simp only [zcb9] at hc1
 have hv : L.getD k 0 = M.getD k 0 := by first | exact hc1 | simpa using hc1
 refine TW.skip ?_
 refine TQ.blkN ?_
 refine TQ.thenN (hY6 _ _ ?_)
 refine TW.region ?_
 refine TL.p Pu.mv ?_
 refine TL.p Pu.ad ?_
 refine TL.p Pu.as ?_
 refine TL.nil ?_
 refine TQ.thenN (hZ0 (k + 1) _ _ ?_ ?_ fs9 ?_)
 exact ⟨by omega, by rw [he.out, dL.out, dM.out]; simp only [ltL]; rw [if_pos hv]⟩
 exact zom9
 exact ks9
 try simp only [zcb9] at hc0
 have hkn : k = n := by omega
 refine TW.exit ?_
 refine TQ.thenX ?_
 refine TQ.thenX ?_
 refine TQ.blkX ?_
 refine TQ.thenN (hY2 _ _ ?_)
 refine TW.seq fun Y9 hY9 => TW.region ?_
 refine TL.p Pu.as ?_
 refine TL.nil (TQ.thenN (hY9 _ _ ?_))
 refine TW.ret ?_
 refine TQ.ret Tryz.results67 rfl ((.tmp rfl .nil)) ?_
 exact fun w hw => ⟨ret_b (by rw [he.out, List.drop_eq_nil_of_le (by omega : L.length ≤ k)]; rfl), Chg.ext hw.chg⟩
def feeL (E : Fes) (k : Nat) : List Value := [.int .i64 (E.t k), .int .i64 (E.r k)]
set_option maxRecDepth 100000 in
theorem rFees_any {A : Option Addr} {ca : Nat} {E : Fes} {w : World} (hn : E.nf ≤ 1000000) (hR : RdR w 2 A E.nf (feeL E)) :
  Calls Tryz.prog 31 #[.slice A E.nf ca] w (Ret w (.bool (fesOk E))) := by
 unfold feeL at hR
 refine K_enter (S := []) (K := []) Tryz.func31 rfl Tryz.ntmps31 rfl (Sat.start _) ?_
 refine TW.seq fun Y1 hY1 => TW.region ?_
 refine TL.p Pu.as ?_
 refine TL.nil (TQ.thenN (hY1 _ _ ?_))
 refine TW.seq fun Y2 hY2 => ?_
 refine TW.seq fun Y3 hY3 => TW.region ?_
 refine TL.p Pu.as ?_
 refine TL.nil (TQ.thenN (hY3 _ _ ?_))
 refine TW.block ?_
 refine TW.loop1 (fun (k : Nat) => [(3, .int .i64 (k : Int)), (0, .slice A E.nf ca)]) (fun k => []) (fun k => k ≤ E.nf ∧ ∀ j, j < k → feeK E j = true) (fun k => E.nf - k) 0 fs9 ?_ ?_ ?_
 exact ks9
 exact ⟨Nat.zero_le _, fun j hj => by omega⟩
 rintro k ⟨hk, hall⟩ Z0 hZ0
 refine TW.seq fun Y4 hY4 => ?_
 refine TW.seq fun Y5 hY5 => TW.region ?_
 refine TL.p Pu.mv ?_
 refine TL.p Pu.mv ?_
 refine TL.p (Pu.ln Tryz.underlying34) ?_
 refine TL.p Pu.lt ?_
 refine TL.nil (TQ.thenN (hY5 _ _ ?_))
 refine TW.cond rfl (fun hc0 => ?_) (fun hc0 => ?_)
 try simp only [zcb9] at hc0
 have hkn : k < E.nf := by omega
 have e1 : (0 < (k : Int)) = ¬ (k = 0) := by simp; omega
 refine TW.skip ?_
 refine TQ.thenN (hY4 _ _ ?_)
 refine TW.seq fun Y6 hY6 => ?_
 refine TW.block ?_
 refine TW.seq fun Y7 hY7 => ?_
 refine TW.join [(43, .bool (!feeK E k))] ?_ (fun hJ1 => ?_)
 refine TQ.thenN (hY7 _ _ ?_)
 refine TW.cond rfl (fun hc1 => ?_) (fun hc1 => ?_)
 try simp only [zcb9] at hc1
 have hg : feeK E k = false := by simpa using hc1
 refine TW.seq fun Y8 hY8 => TW.region ?_
 refine TL.p Pu.as ?_
 refine TL.nil (TQ.thenN (hY8 _ _ ?_))
 refine TW.ret ?_
 refine TQ.blkR ?_
 refine TQ.thenR ?_
 refine TQ.thenR ?_
 refine TQ.blkR ?_
 refine TQ.thenR ?_
 refine TQ.ret Tryz.results31 rfl ((.tmp rfl .nil)) ?_
 exact fun w hw => ⟨ret_b (by
  cases h : fesOk E with
  | false => rfl
  | true => have := allB_iff.1 h k hkn; rw [hg] at this; cases this), Chg.ext hw.chg⟩
 try simp only [zcb9] at hc1
 have hg : feeK E k = true := by simpa using hc1
 refine TW.skip ?_
 refine TQ.blkN ?_
 refine TQ.thenN (hY6 _ _ ?_)
 refine TW.region ?_
 refine TL.p Pu.mv ?_
 refine TL.p Pu.ad ?_
 refine TL.p Pu.as ?_
 refine TL.nil ?_
 refine TQ.thenN (hZ0 (k + 1) _ _ ?_ ?_ fs9 ?_)
 exact ⟨by omega, fun j hj => (Nat.lt_succ_iff_lt_or_eq.1 hj).elim (hall j) (fun e => e ▸ hg)⟩
 exact zom9
 exact ks9
 refine TW.dw 34 ?_
 refine RK.tk Pu.mv ?_
 refine RK.tk Pu.mv ?_
 refine RK.tk (Pu.el ty_et34) ?_
 refine RK.tk (by first | exact Pu.fb ty_fa50_0 | exact Pu.fe ty_fa50_0) ?_
 refine RK.tk (Pu.ld ty_sc3) ?_
 refine RK.keep ?_
 refine RK.keep ?_
 refine RK.keep ?_
 refine RK.keep ?_
 refine RK.keep ?_
 refine RK.keep ?_
 refine RK.keep ?_
 refine RK.keep ?_
 refine RK.keep ?_
 refine RK.keep ?_
 refine RK.keep ?_
 refine RK.keep ?_
 refine RK.keep ?_
 refine RK.keep ?_
 refine RK.keep ?_
 refine RK.keep ?_
 refine RK.keep ?_
 refine RK.keep ?_
 refine RK.keep ?_
 refine RK.keep ?_
 refine RK.keep ?_
 refine RK.keep ?_
 refine RK.keep ?_
 refine RK.keep ?_
 refine RK.keep ?_
 refine RK.keep ?_
 refine RK.keep ?_
 refine RK.keep ?_
 refine RK.keep ?_
 refine RK.ch [false, true, true, true, true, true, true, true, false, true, true, true, true, true, true, true, true, true, true, true, true, true, true, true, true, true, true, true, true] ?_ trivial
 refine WK.cr rfl (enters Tryz.func61 rfl rfl) (fun w hw => by
   exact within7_any _ _ _ _) ?_
 refine WK.p Pu.no ?_
 refine WK.p Pu.mv ?_
 refine WK.guard (t := 17) rfl (fun hg1 => ?_) (fun hg1 => ?_)
 try simp only [zgb9] at hg1
 refine WK.ps ?_
 refine WK.ps ?_
 refine WK.ps ?_
 refine WK.ps ?_
 refine WK.ps ?_
 refine WK.gs ?_
 refine WK.ps ?_
 refine WK.p Pu.kt ?_
 refine WK.p Pu.mv ?_
 refine WK.ps ?_
 refine WK.ps ?_
 refine WK.ps ?_
 refine WK.ps ?_
 refine WK.ps ?_
 refine WK.ps ?_
 refine WK.ps ?_
 refine WK.ps ?_
 refine WK.ps ?_
 refine WK.ps ?_
 refine WK.ps ?_
 refine WK.ps ?_
 refine WK.ps ?_
 refine WK.ps ?_
 refine WK.ps ?_
 refine WK.ps ?_
 refine WK.p Pu.kt ?_
 refine WK.n ?_
 refine TL.nil ?_
 exact TQ.sub (by repeat (first | exact trivial | refine ⟨rfl, ?_⟩ | refine ⟨trivial, ?_⟩ | refine ⟨(by show some (Value.bool _) = some (Value.bool _); first | (simp [hg1, feeK]; done) | (refine congrArg (fun z => some (Value.bool z)) (Bool.eq_iff_iff.2 ?_); simp [hg1, feeK]; omega)), ?_⟩)) ks9 hJ1
 try simp only [zgb9] at hg1
 refine WK.p Pu.mv ?_
 refine WK.p Pu.mv ?_
 refine WK.p (Pu.el ty_et34) ?_
 refine WK.p (by first | exact Pu.fb ty_fa50_1 | exact Pu.fe ty_fa50_1) ?_
 refine WK.p (Pu.ld ty_sc3) ?_
 refine WK.cr rfl (enters Tryz.func61 rfl rfl) (fun w hw => by
   exact within7_any _ _ _ _) ?_
 refine WK.p Pu.no ?_
 refine WK.p Pu.kf ?_
 refine WK.p Pu.mv ?_
 refine WK.guard (t := 26) rfl (fun hg2 => ?_) (fun hg2 => ?_)
 try simp only [zgb9] at hg2
 refine WK.ps ?_
 refine WK.ps ?_
 refine WK.ps ?_
 refine WK.ps ?_
 refine WK.ps ?_
 refine WK.ps ?_
 refine WK.ps ?_
 refine WK.ps ?_
 refine WK.ps ?_
 refine WK.ps ?_
 refine WK.ps ?_
 refine WK.ps ?_
 refine WK.ps ?_
 refine WK.ps ?_
 refine WK.ps ?_
 refine WK.ps ?_
 refine WK.p Pu.kt ?_
 refine WK.n ?_
 refine TL.nil ?_
 exact TQ.sub (by repeat (first | exact trivial | refine ⟨rfl, ?_⟩ | refine ⟨trivial, ?_⟩ | refine ⟨(by show some (Value.bool _) = some (Value.bool _); first | (simp [hg1, hg2, feeK]; done) | (refine congrArg (fun z => some (Value.bool z)) (Bool.eq_iff_iff.2 ?_); simp [hg1, hg2, feeK]; omega)), ?_⟩)) ks9 hJ1
 try simp only [zgb9] at hg2
 refine WK.p Pu.mv ?_
 refine WK.p Pu.gt ?_
 refine WK.p Pu.mv ?_
 refine WK.guard (t := 29) rfl (fun hg3 => ?_) (fun hg3 => ?_)
 try simp only [zgb9] at hg3
 refine WK.p Pu.mv ?_
 refine WK.p Pu.mv ?_
 refine WK.p (Pu.el ty_et34) ?_
 refine WK.p (by first | exact Pu.fb ty_fa50_0 | exact Pu.fe ty_fa50_0) ?_
 refine WK.p (Pu.ld ty_sc3) ?_
 refine WK.p Pu.mv ?_
 refine WK.p Pu.mv ?_
 refine WK.p Pu.sb ?_
 refine WK.p (Pu.el (q := k - 1) ty_et34 (hk := by omega)) ?_
 refine WK.p (by first | exact Pu.fb ty_fa50_0 | exact Pu.fe ty_fa50_0) ?_
 refine WK.p (Pu.ld ty_sc3) ?_
 refine WK.p Pu.le ?_
 refine WK.p Pu.kt ?_
 refine WK.p Pu.kf ?_
 refine WK.n ?_
 refine TL.nil ?_
 exact TQ.sub (by repeat (first | exact trivial | refine ⟨rfl, ?_⟩ | refine ⟨trivial, ?_⟩ | refine ⟨(by show some (Value.bool _) = some (Value.bool _); first | (simp [hg1, hg2, hg3, feeK]; done) | (refine congrArg (fun z => some (Value.bool z)) (Bool.eq_iff_iff.2 ?_); simp [hg1, hg2, hg3, feeK]; omega)), ?_⟩)) ks9 hJ1
 try simp only [zgb9] at hg3
 refine WK.ps ?_
 refine WK.ps ?_
 refine WK.ps ?_
 refine WK.ps ?_
 refine WK.ps ?_
 refine WK.ps ?_
 refine WK.ps ?_
 refine WK.ps ?_
 refine WK.ps ?_
 refine WK.ps ?_
 refine WK.ps ?_
 refine WK.ps ?_
 refine WK.p Pu.kf ?_
 refine WK.p Pu.kf ?_
 refine WK.n ?_
 refine TL.nil ?_
 exact TQ.sub (by repeat (first | exact trivial | refine ⟨rfl, ?_⟩ | refine ⟨trivial, ?_⟩ | refine ⟨(by show some (Value.bool _) = some (Value.bool _); first | (simp [hg1, hg2, hg3, feeK]; done) | (refine congrArg (fun z => some (Value.bool z)) (Bool.eq_iff_iff.2 ?_); simp [hg1, hg2, hg3, feeK]; omega)), ?_⟩)) ks9 hJ1
 try simp only [zcb9] at hc0
 have hkn : k = E.nf := by omega
 refine TW.exit ?_
 refine TQ.thenX ?_
 refine TQ.thenX ?_
 refine TQ.blkX ?_
 refine TQ.thenN (hY2 _ _ ?_)
 refine TW.seq fun Y9 hY9 => TW.region ?_
 refine TL.p Pu.as ?_
 refine TL.nil (TQ.thenN (hY9 _ _ ?_))
 refine TW.ret ?_
 refine TQ.ret Tryz.results31 rfl ((.tmp rfl .nil)) ?_
 exact fun w hw => ⟨ret_b (by unfold fesOk; exact (allB_iff.2 fun j hj => hall j (by omega)).symm), Chg.ext hw.chg⟩
section
variable {Z : Cus} {T : Trp} {C D B O U V S : Option Addr} {cc cd cb co cu cv n cs : Nat} {st : Nat → Nat → Int} {w : World}
set_option maxRecDepth 100000 in
theorem guided_any {A : Option Addr} {ca : Nat} (l : List Int) (hl : l.length ≤ 1000) (t : TrpIn w T O U V) (hA : RdR w 1 A l.length (iL l)) :
  CallsK Tryz.prog 66 #[.agg (troopL T.hd T.wo O T.no co U T.nu cu V T.nv cv).toArray, .slice A l.length ca] [] w (Option Addr × Nat) (fun y => .agg (troopL T.hd T.wo O T.no co y.1 (gudK T l 8).length y.2 V T.nv cv).toArray) (fun y => [.own y.1 (gudK T l 8).length y.2 3 1 (iL (gudK T l 8))]) := by
 have hRU := t.hU
 have hnu := t.hnu
 unfold troopL
 refine K_enter (S := []) (K := []) Tryz.func66 rfl Tryz.ntmps66 rfl (Sat.start _) ?_
 refine TW.seq fun Y1 hY1 => TW.region ?_
 refine TL.m Mk.bx ?_
 intro b1
 refine TL.m (Mk.al ty_zr33) ?_
 intro b2
 refine TL.nil (TQ.thenN (hY1 _ _ ?_))
 refine TW.seq fun Y2 hY2 => TW.region ?_
 refine TL.p Pu.as ?_
 refine TL.nil (TQ.thenN (hY2 _ _ ?_))
 refine TW.seq fun Y3 hY3 => ?_
 refine TW.seq fun Y4 hY4 => TW.region ?_
 refine TL.p Pu.as ?_
 refine TL.nil (TQ.thenN (hY4 _ _ ?_))
 refine TW.block ?_
 refine TW.loop5 (fun (i : Nat) (E : Option Addr) (ce : Nat) (M : List Int) (m : Nat) => [(6, .int .i64 (i : Int)), (5, .slice E m ce), (1, .slice A l.length ca), (2, .pointer (some ⟨b1, 0, none⟩)), (4, .pointer (some ⟨b2, 0, none⟩))]) (fun i E ce M m => [.own E m ce 3 1 (iL M), .blk b1 33 [.int .i64 T.hd, .int .i64 T.wo, .slice O T.no co, .slice U T.nu cu, .slice V T.nv cv], .blk b2 33 [.int .i64 0, .int .i64 0, .slice none 0 0, .slice none 0 0, .slice none 0 0]]) (fun i E ce M m => i ≤ 8 ∧ M = gudK T l i ∧ m = M.length) (fun i E ce M m => 8 - i) 0 none 0 [] 0 fs9 ?_ ?_ ?_
 exact KSub.nilOwn ks9
 exact ⟨Nat.zero_le _, rfl, rfl⟩
 rintro i E ce M m ⟨hi, hM, hm⟩ Z0 hZ0
 have hM9 := hidT hM
 have hm9 : m ≤ 8 := by rw [hm, hM]; exact Nat.le_trans (gudK_len i) hi
 clear hM
 refine TW.seq fun Y5 hY5 => ?_
 refine TW.seq fun Y6 hY6 => TW.region ?_
 refine TL.p Pu.mv ?_
 refine TL.p Pu.lt ?_
 refine TL.nil (TQ.thenN (hY6 _ _ ?_))
 refine TW.cond rfl (fun hc0 => ?_) (fun hc0 => ?_)
 try simp only [zcb9] at hc0
 have hi8 : i < 8 := by omega
 refine TW.skip ?_
 refine TQ.thenN (hY5 _ _ ?_)
 refine TW.seq fun Y7 hY7 => ?_
 refine TW.block ?_
 refine TW.seq fun Y8 hY8 => ?_
 refine TW.join [(19, .bool (hasB T.u T.nu (i : Int) || hasB (fun k => l.getD k 0) l.length (i : Int)))] ?_ (fun hJ1 => ?_)
 refine TQ.thenN (hY8 _ _ ?_)
 refine TW.cond rfl (fun hc1 => ?_) (fun hc1 => ?_)
 try simp only [zcb9] at hc1
 have hstep : gudK T l (i + 1) = M ++ [(i : Int)] := by rw [hM9.out]; simp only [gudK]; rw [if_pos (by simpa [-List.getD_eq_getElem?_getD] using hc1)]
 have hlen9 : m + 1 = (gudK T l (i + 1)).length := by rw [hstep, List.length_append, ← hm]; rfl
 refine TW.region ?_
 refine TL.p Pu.mv ?_
 refine TL.p Pu.mv ?_
 refine TL.m Mk.bl ?_
 intro b3
 first | refine TL.a0 ty_et31 ?_ | refine TL.ap ty_et31 ?_
 intro A4 c4
 refine TL.p Pu.as ?_
 refine TL.nil ?_
 refine TQ.blkN ?_
 refine TQ.thenN (hY7 _ _ ?_)
 refine TW.region ?_
 refine TL.p Pu.mv ?_
 refine TL.p Pu.ad ?_
 refine TL.p Pu.as ?_
 refine TL.nil ?_
 refine TQ.thenN (hZ0 (i + 1) _ _ (gudK T l (i + 1)) _ _ _ ?_ ?_ fs9 ?_)
 exact ⟨by omega, rfl, hlen9⟩
 exact zom9
 first
  | exact KSub.own Pick.hd (iL_app hm hstep rfl) ks9
  | exact KSub.own pk9 (fun i _ => by rw [hstep]) ks9
 try simp only [zcb9] at hc1
 have hstep : gudK T l (i + 1) = M := by rw [hM9.out]; simp only [gudK]; rw [if_neg (by simpa [-List.getD_eq_getElem?_getD] using hc1)]
 have hlen9 : m = (gudK T l (i + 1)).length := by rw [hstep, ← hm]
 refine TW.skip ?_
 refine TQ.blkN ?_
 refine TQ.thenN (hY7 _ _ ?_)
 refine TW.region ?_
 refine TL.p Pu.mv ?_
 refine TL.p Pu.ad ?_
 refine TL.p Pu.as ?_
 refine TL.nil ?_
 refine TQ.thenN (hZ0 (i + 1) _ _ (gudK T l (i + 1)) _ _ _ ?_ ?_ fs9 ?_)
 exact ⟨by omega, rfl, hlen9⟩
 exact zom9
 first
  | exact KSub.own Pick.hd (iL_app hm hstep rfl) ks9
  | exact KSub.own pk9 (fun i _ => by rw [hstep]) ks9
 refine TW.region ?_
 refine TL.p (by first | exact Pu.fb ty_fa33_3 | exact Pu.fe ty_fa33_3) ?_
 refine TL.p (Pu.ld ty_sc31) ?_
 refine TL.p Pu.mv ?_
 refine TL.cr rfl (enters Tryz.func112 rfl rfl) (fun w hw => by
   first | exact rHas_any (v := T.u) (by omega) (hRU.sat hw Apart.nil) | exact rHas_any (v := fun k => l.getD k 0) (by omega) (hA.sat hw Apart.nil)) ?_
 refine TL.p Pu.mv ?_
 refine TL.guard (t := 15) rfl (fun hg1 => ?_) (fun hg1 => ?_)
 refine TL.gs ?_
 refine TL.gs ?_
 refine TL.gs ?_
 refine TL.p Pu.kt ?_
 refine TL.nil ?_
 exact TQ.sub (by repeat (first | exact trivial | refine ⟨rfl, ?_⟩ | refine ⟨trivial, ?_⟩ | refine ⟨(by show some (Value.bool _) = some (Value.bool _); first | (simp [hg1, -List.getD_eq_getElem?_getD]; done) | (refine congrArg (fun z => some (Value.bool z)) (Bool.eq_iff_iff.2 ?_); simp [hg1, -List.getD_eq_getElem?_getD]; omega)), ?_⟩)) ks9 hJ1
 refine TL.gd Pu.mv ?_
 refine TL.gd Pu.mv ?_
 refine TL.cr rfl (enters Tryz.func112 rfl rfl) (fun w hw => by
   first | exact rHas_any (v := T.u) (by omega) (hRU.sat hw Apart.nil) | exact rHas_any (v := fun k => l.getD k 0) (by omega) (hA.sat hw Apart.nil)) ?_
 refine TL.p Pu.kf ?_
 refine TL.nil ?_
 exact TQ.sub (by repeat (first | exact trivial | refine ⟨rfl, ?_⟩ | refine ⟨trivial, ?_⟩ | refine ⟨(by show some (Value.bool _) = some (Value.bool _); first | (simp [hg1, -List.getD_eq_getElem?_getD]; done) | (refine congrArg (fun z => some (Value.bool z)) (Bool.eq_iff_iff.2 ?_); simp [hg1, -List.getD_eq_getElem?_getD]; omega)), ?_⟩)) ks9 hJ1
 try simp only [zcb9] at hc0
 obtain rfl : i = 8 := by omega
 refine TW.exit ?_
 refine TQ.thenX ?_
 refine TQ.thenX ?_
 refine TQ.blkX ?_
 refine TQ.thenN (hY3 _ _ ?_)
 refine TW.seq fun Y9 hY9 => TW.region ?_
 refine TL.p Pu.mv ?_
 refine TL.p (by first | exact Pu.fb ty_fa33_3 | exact Pu.fe ty_fa33_3) ?_
 first | refine TL.st ty_sz31 ?_ | refine TL.se ty_sz31 ?_
 refine TL.nil (TQ.thenN (hY9 _ _ ?_))
 refine TW.seq fun Y10 hY10 => TW.region ?_
 refine TL.p (Pu.lds ty_ag33) ?_
 first | refine TL.st ty_sz33 ?_ | refine TL.se ty_sz33 ?_
 refine TL.nil (TQ.thenN (hY10 _ _ ?_))
 refine TW.ret ?_
 refine TQ.ret Tryz.results66 rfl ((RV.cs ty_ag33 .nil)) ?_
 have hM := hM9.out
 subst hM
 subst hm
 exact fun w hw => ⟨(E, ce), rfl, hw.sub (KSub.cons pk9 KSub.nil)⟩
def hirR (s : List Int × Int × Bool) (y : Option Addr × Nat) : Value := .tuple #[.slice y.1 s.1.length y.2, .int .i64 s.2.1, .bool s.2.2]
set_option maxRecDepth 100000 in
set_option maxHeartbeats 4000000 in
theorem rhire_any {A : Option Addr} {ca : Nat} {E : Fes} (hok : CusOk Z) (htr : trpOk T = true) (hE : fesOk E = true) (h : CustIn w C Z.nc D Z.nd B Z.nb Z.c Z.d Z.b) (t : TrpIn w T O U V) (s : StpIn w n st S) (hA : RdR w 2 A E.nf (feeL E)) :
  CallsK Tryz.prog 33 #[.agg (custL C Z.nc cc D Z.nd cd B Z.nb cb).toArray, .agg (troopL T.hd T.wo O T.no co U T.nu cu V T.nv cv).toArray, .slice A E.nf ca, .slice S n cs] [] w (Option Addr × Nat) (hirR (hirV Z T n st E)) (fun y => [.own y.1 (hirV Z T n st E).1.length y.2 3 1 (iL (hirV Z T n st E).1)]) := by
 have hRS := s.hR
 have hnf := fes_len hE
 have hp2 := pow_nf hE
 unfold feeL at hA
 have fG := fun (w' : World) (t' : TrpIn w' T O U V) (l : List Int) (Al : Option Addr) (cl : Nat) (hl : l.length ≤ 1000) (hA' : RdR w' 1 Al l.length (iL l)) => guided_any (co := co) (cu := cu) (cv := cv) (ca := cl) l hl t' hA'
 have fB := fun (w' : World) (h3 : CustIn w' C Z.nc D Z.nd B Z.nb Z.c Z.d Z.b) (s' : StpIn w' n st S) (l : List Int) (Ag : Option Addr) (cg : Nat) (h4 : TrpIn w' (gud T l) O Ag V) => rbarred_any (T := gud T l) (U := Ag) (cu := cg) (cc := cc) (cd := cd) (cb := cb) (co := co) (cv := cv) (cs := cs) hok h3 h4 s'
 unfold troopL at fG
 unfold custL troopL at fB ⊢
 refine K_enter (S := []) (K := []) Tryz.func33 rfl Tryz.ntmps33 rfl (Sat.start _) ?_
 refine TW.seq fun Y1 hY1 => TW.region ?_
 refine TL.m Mk.bx ?_
 intro b1
 refine TL.m Mk.bx ?_
 intro b2
 refine TL.p Pu.as ?_
 refine TL.p Pu.as ?_
 refine TL.p Pu.as ?_
 refine TL.nil (TQ.thenN (hY1 _ _ ?_))
 refine TW.seq fun Y2 hY2 => TW.region ?_
 refine TL.p Pu.as ?_
 refine TL.nil (TQ.thenN (hY2 _ _ ?_))
 refine TW.seq fun Y3 hY3 => TW.region ?_
 refine TL.p Pu.as ?_
 refine TL.p Pu.as ?_
 refine TL.nil (TQ.thenN (hY3 _ _ ?_))
 refine TW.seq fun Y4 hY4 => ?_
 refine TW.seq fun Y5 hY5 => TW.region ?_
 refine TL.p Pu.as ?_
 refine TL.nil (TQ.thenN (hY5 _ _ ?_))
 refine TW.block ?_
 refine TW.loop4 (fun (q : Nat) (Ab : Option Addr) (cb9 : Nat) (X : List Int × Int × Bool) => [(14, .int .i64 (q : Int)), (11, .slice Ab X.1.length cb9), (12, .int .i64 X.2.1), (13, .bool X.2.2), (2, .slice A E.nf ca), (3, .slice S n cs), (4, .pointer (some ⟨b1, 0, none⟩)), (5, .pointer (some ⟨b2, 0, none⟩))]) (fun q Ab cb9 X => [.own Ab X.1.length cb9 3 1 (iL X.1), .blk b1 30 [.slice C Z.nc cc, .slice D Z.nd cd, .slice B Z.nb cb], .blk b2 33 [.int .i64 T.hd, .int .i64 T.wo, .slice O T.no co, .slice U T.nu cu, .slice V T.nv cv]]) (fun q Ab cb9 X => q ≤ 2 ^ E.nf ∧ X = hirK (freeB Z T n st) E q) (fun q Ab cb9 X => 2 ^ E.nf - q) 0 none 0 ([], 0, false) fs9 ?_ ?_ ?_
 exact KSub.nilOwn ks9
 exact ⟨Nat.zero_le _, rfl⟩
 rintro q Ab cb9 X ⟨hq, hX⟩ Z0 hZ0
 have hX9 := hidT hX
 have hXl : X.1.length ≤ 8 := by rw [hX]; exact Nat.le_trans (hirK_len q) hnf
 have hXb : 0 ≤ X.2.1 ∧ X.2.1 ≤ 8000000000000 := by rw [hX]; exact hirK_bd hE q
 clear hX
 refine TW.seq fun Y6 hY6 => ?_
 refine TW.seq fun Y7 hY7 => TW.region ?_
 refine TL.p Pu.mv ?_
 refine TL.p Pu.mv ?_
 refine TL.p (Pu.ln Tryz.underlying34) ?_
 refine TL.p (Pu.sl1 (j := E.nf)) ?_
 refine TL.p Pu.lt ?_
 refine TL.nil (TQ.thenN (hY7 _ _ ?_))
 refine TW.cond rfl (fun hc0 => ?_) (fun hc0 => ?_)
 try simp only [zcb9] at hc0
 have hq2 : q < 2 ^ E.nf := Int.ofNat_lt.1 hc0
 clear hc0
 refine TW.skip ?_
 refine TQ.thenN (hY6 _ _ ?_)
 refine TW.seq fun Y8 hY8 => ?_
 refine TW.block ?_
 refine TW.seq fun Y9 hY9 => TW.region ?_
 refine TL.p Pu.as ?_
 refine TL.nil (TQ.thenN (hY9 _ _ ?_))
 refine TW.seq fun Y10 hY10 => TW.region ?_
 refine TL.p Pu.as ?_
 refine TL.nil (TQ.thenN (hY10 _ _ ?_))
 refine TW.seq fun Y11 hY11 => ?_
 refine TW.seq fun Y12 hY12 => TW.region ?_
 refine TL.p Pu.as ?_
 refine TL.nil (TQ.thenN (hY12 _ _ ?_))
 refine TW.block ?_
 refine TW.loop5 (fun (k : Nat) (Al : Option Addr) (cl : Nat) (M : List Int) (m : Nat) => [(17, .int .i64 (k : Int)), (15, .slice Al m cl), (16, .int .i64 (selR E q k)), (14, .int .i64 (q : Int)), (11, .slice Ab X.1.length cb9), (12, .int .i64 X.2.1), (13, .bool X.2.2), (2, .slice A E.nf ca), (3, .slice S n cs), (4, .pointer (some ⟨b1, 0, none⟩)), (5, .pointer (some ⟨b2, 0, none⟩))]) (fun k Al cl M m => [.own Al m cl 3 1 (iL M), .own Ab X.1.length cb9 3 1 (iL X.1), .blk b1 30 [.slice C Z.nc cc, .slice D Z.nd cd, .slice B Z.nb cb], .blk b2 33 [.int .i64 T.hd, .int .i64 T.wo, .slice O T.no co, .slice U T.nu cu, .slice V T.nv cv]]) (fun k Al cl M m => k ≤ E.nf ∧ M = selT E q k ∧ m = M.length) (fun k Al cl M m => E.nf - k) 0 none 0 [] 0 fs9 ?_ ?_ ?_
 exact KSub.nilOwn ks9
 exact ⟨Nat.zero_le _, rfl, rfl⟩
 rintro k Al cl M m ⟨hk, hM, hm⟩ Z1 hZ1
 have hM9 := hidT hM
 have hm9 : m ≤ 8 := by rw [hm, hM]; exact Nat.le_trans (selT_len k) (by omega)
 have hrb := selR_bd hE (q := q) k hk
 clear hM
 refine TW.seq fun Y13 hY13 => ?_
 refine TW.seq fun Y14 hY14 => TW.region ?_
 refine TL.p Pu.mv ?_
 refine TL.p Pu.mv ?_
 refine TL.p (Pu.ln Tryz.underlying34) ?_
 refine TL.p Pu.lt ?_
 refine TL.nil (TQ.thenN (hY14 _ _ ?_))
 refine TW.cond rfl (fun hc1 => ?_) (fun hc1 => ?_)
 try simp only [zcb9] at hc1
 have hkn : k < E.nf := by omega
 have hfe := fes_at hE hkn
 have hqd := Nat.div_le_self q (2 ^ k)
 refine TW.skip ?_
 refine TQ.thenN (hY13 _ _ ?_)
 refine TW.seq fun Y15 hY15 => ?_
 refine TW.block ?_
 refine TW.seq fun Y16 hY16 => TW.region ?_
 refine TL.p Pu.mv ?_
 refine TL.p Pu.mv ?_
 refine TL.p (Pu.srN (b := q) (i := k)) ?_
 refine TL.p (Pu.an1 (m := q / 2 ^ k)) ?_
 refine TL.p Pu.eq ?_
 refine TL.nil (TQ.thenN (hY16 _ _ ?_))
 refine TW.cond rfl (fun hc2 => ?_) (fun hc2 => ?_)
 try simp only [zcb9] at hc2
 have hbit : q / 2 ^ k % 2 = 1 := by generalize q / 2 ^ k % 2 = z at hc2; omega
 have hst : selT E q (k + 1) = M ++ [E.t k] := by rw [hM9.out]; simp only [selT]; rw [if_pos hbit]
 have hsr := hidT (show selR E q (k + 1) = selR E q k + E.r k by simp only [selR]; rw [if_pos hbit])
 have hlen9 : m + 1 = (selT E q (k + 1)).length := by rw [hst, List.length_append, ← hm]; rfl
 refine TW.seq fun Y17 hY17 => TW.region ?_
 refine TL.p Pu.mv ?_
 refine TL.p Pu.mv ?_
 refine TL.p Pu.mv ?_
 refine TL.p (Pu.el ty_et34) ?_
 refine TL.p (by first | exact Pu.fb ty_fa50_0 | exact Pu.fe ty_fa50_0) ?_
 refine TL.p (Pu.ld ty_sc3) ?_
 refine TL.m Mk.bl ?_
 intro b3
 first | refine TL.a0 ty_et31 ?_ | refine TL.ap ty_et31 ?_
 intro A4 c4
 refine TL.p Pu.as ?_
 refine TL.nil (TQ.thenN (hY17 _ _ ?_))
 refine TW.region ?_
 refine TL.p Pu.mv ?_
 refine TL.p Pu.mv ?_
 refine TL.p Pu.mv ?_
 refine TL.p (Pu.el ty_et34) ?_
 refine TL.p (by first | exact Pu.fb ty_fa50_1 | exact Pu.fe ty_fa50_1) ?_
 refine TL.p (Pu.ld ty_sc3) ?_
 refine TL.p Pu.ad ?_
 refine TL.p Pu.as ?_
 refine TL.nil ?_
 refine TQ.blkN ?_
 refine TQ.thenN (hY15 _ _ ?_)
 refine TW.region ?_
 refine TL.p Pu.mv ?_
 refine TL.p Pu.ad ?_
 refine TL.p Pu.as ?_
 refine TL.nil ?_
 refine TQ.thenN (hZ1 (k + 1) _ _ (selT E q (k + 1)) _ _ _ ?_ ?_ (by refine ⟨rfl, rfl, (congrArg (fun z => some (Value.int .i64 z)) hsr.out.symm), ?_⟩; (repeat (first | exact trivial | refine ⟨rfl, ?_⟩ | refine ⟨trivial, ?_⟩))) ?_)
 exact ⟨by omega, rfl, hlen9⟩
 exact zom9
 first
  | exact KSub.own Pick.hd (iL_app hm hst rfl) ks9
  | exact KSub.own pk9 (fun i _ => by rw [hst]) ks9
 try simp only [zcb9] at hc2
 have hbit : ¬ q / 2 ^ k % 2 = 1 := by generalize q / 2 ^ k % 2 = z at hc2 ⊢; omega
 have hst : selT E q (k + 1) = M := by rw [hM9.out]; simp only [selT]; rw [if_neg hbit]
 have hsr := hidT (show selR E q (k + 1) = selR E q k by simp only [selR]; rw [if_neg hbit])
 have hlen9 : m = (selT E q (k + 1)).length := by rw [hst, ← hm]
 refine TW.skip ?_
 refine TQ.blkN ?_
 refine TQ.thenN (hY15 _ _ ?_)
 refine TW.region ?_
 refine TL.p Pu.mv ?_
 refine TL.p Pu.ad ?_
 refine TL.p Pu.as ?_
 refine TL.nil ?_
 refine TQ.thenN (hZ1 (k + 1) _ _ (selT E q (k + 1)) _ _ _ ?_ ?_ (by refine ⟨rfl, rfl, (congrArg (fun z => some (Value.int .i64 z)) hsr.out.symm), ?_⟩; (repeat (first | exact trivial | refine ⟨rfl, ?_⟩ | refine ⟨trivial, ?_⟩))) ?_)
 exact ⟨by omega, rfl, hlen9⟩
 exact zom9
 first
  | exact KSub.own Pick.hd (iL_app hm hst rfl) ks9
  | exact KSub.own pk9 (fun i _ => by rw [hst]) ks9
 try simp only [zcb9] at hc1
 obtain rfl : k = E.nf := by omega
 subst hm
 refine TW.exit ?_
 refine TQ.thenX ?_
 refine TQ.thenX ?_
 refine TQ.blkX ?_
 refine TQ.thenN (hY11 _ _ ?_)
 refine TW.seq fun Y18 hY18 => ?_
 refine TW.seq fun Y19 hY19 => ?_
 refine TW.dw 11 ?_
 refine RK.tk (Pu.lds ty_ag30) ?_
 refine RK.tk (Pu.lds ty_ag33) ?_
 refine RK.tk Pu.mv ?_
 refine RK.keep ?_
 refine RK.tk Pu.mv ?_
 refine RK.keep ?_
 refine RK.keep ?_
 refine RK.keep ?_
 refine RK.keep ?_
 refine RK.keep ?_
 refine RK.keep ?_
 refine RK.ch [false, false, true, true, true, true, true] ?_ trivial
 refine WK.call rfl (enters Tryz.func66 rfl rfl) rfl (fun w hw => by
   exact fG _ (t.ext (Chg.ext hw.chg)) M Al cl (by omega) (OwnR.rdr (hw.holds (.own Al M.length cl 3 1 (iL M)) (by simp)))) ?_
 rintro ⟨Ag, cg⟩
 refine WK.cr rfl (enters Tryz.func65 rfl rfl) (fun w hw => by
   have t2 := t.ext (Chg.ext hw.chg)
   have q9 := OwnR.rdr (hw.holds (.own Ag (gudK T M 8).length cg 3 1 (iL (gudK T M 8))) (by simp))
   exact fB _ (h.ext (Chg.ext hw.chg)) (s.ext (Chg.ext hw.chg)) M Ag cg ⟨t2.hno, Nat.le_trans (gudK_len 8) (by omega), t2.hnv, t2.hO, q9, t2.hV⟩) ?_
 refine WK.p Pu.mv ?_
 refine WK.p Pu.ex ?_
 refine WK.p Pu.ex ?_
 refine WK.p Pu.as ?_
 refine WK.p Pu.as ?_
 refine WK.n ?_
 refine TL.nil (TQ.thenN (hY19 _ _ ?_))
 refine TW.seq fun Y20 hY20 => TW.region ?_
 refine TL.p Pu.mv ?_
 refine TL.p Pu.ne ?_
 refine TL.nil (TQ.thenN (hY20 _ _ ?_))
 refine TW.cond rfl (fun hc3 => ?_) (fun hc3 => ?_)
 try simp only [zcb9] at hc3
 have hfr : freeB Z T n st (selT E q E.nf) = false := by
  unfold freeB
  rw [← gud_bar htr (fun x hx => selT_bd hE (Nat.le_refl _) hx), ← hM9.out]
  exact decide_eq_false hc3
 refine TW.exit ?_
 refine TQ.thenX ?_
 refine TQ.blkX ?_
 refine TQ.thenN (hY8 _ _ ?_)
 refine TW.region ?_
 refine TL.p Pu.mv ?_
 refine TL.p Pu.ad ?_
 refine TL.p Pu.as ?_
 refine TL.nil ?_
 refine TQ.thenN (hZ0 (q + 1) _ _ (by first | exact (fun _ => (M, selR E q E.nf, true)) hYes | exact X) _ _ ?_ ?_ fs9 ?_)
 first | exact ⟨by omega, by rw [hir_yes hYes hfr]; exact congrArg (fun z => (z, selR E q E.nf, true)) hM9.out⟩ | exact ⟨by omega, hX9.out.trans (hir_no2 hNo).symm⟩ | exact ⟨by omega, hX9.out.trans (hir_no1 hfr).symm⟩
 exact zom9
 exact ks9
 try simp only [zcb9] at hc3
 have hfr : freeB Z T n st (selT E q E.nf) = true := by
  unfold freeB
  rw [← gud_bar htr (fun x hx => selT_bd hE (Nat.le_refl _) hx), ← hM9.out]
  exact decide_eq_true hc3
 refine TW.skip ?_
 refine TQ.thenN (hY18 _ _ ?_)
 refine TW.seq fun Y21 hY21 => ?_
 refine TW.join [(94, .bool (!X.2.2 || betC (selR E q E.nf) M X.2.1 X.1))] ?_ (fun hJ1 => ?_)
 refine TQ.thenN (hY21 _ _ ?_)
 refine TW.cond rfl (fun hc4 => ?_) (fun hc4 => ?_)
 try simp only [zcb9] at hc4
 have hYes : (!(hirK (freeB Z T n st) E q).2.2 || betC (selR E q E.nf) (selT E q E.nf) (hirK (freeB Z T n st) E q).2.1 (hirK (freeB Z T n st) E q).1) = true := by rw [← hX9.out, ← hM9.out]; simpa using hc4
 refine TW.region ?_
 refine TL.p Pu.mv ?_
 refine TL.p Pu.mv ?_
 refine TL.p Pu.as ?_
 refine TL.p Pu.as ?_
 refine TL.p Pu.as ?_
 refine TL.nil ?_
 refine TQ.blkN ?_
 refine TQ.thenN (hY8 _ _ ?_)
 refine TW.region ?_
 refine TL.p Pu.mv ?_
 refine TL.p Pu.ad ?_
 refine TL.p Pu.as ?_
 refine TL.nil ?_
 refine TQ.thenN (hZ0 (q + 1) _ _ (by first | exact (fun _ => (M, selR E q E.nf, true)) hYes | exact X) _ _ ?_ ?_ fs9 ?_)
 first | exact ⟨by omega, by rw [hir_yes hYes hfr]; exact congrArg (fun z => (z, selR E q E.nf, true)) hM9.out⟩ | exact ⟨by omega, hX9.out.trans (hir_no2 hNo).symm⟩ | exact ⟨by omega, hX9.out.trans (hir_no1 hfr).symm⟩
 exact zom9
 exact ks9
 try simp only [zcb9] at hc4
 have hNo : (!(hirK (freeB Z T n st) E q).2.2 || betC (selR E q E.nf) (selT E q E.nf) (hirK (freeB Z T n st) E q).2.1 (hirK (freeB Z T n st) E q).1) = false := by rw [← hX9.out, ← hM9.out]; simpa using hc4
 refine TW.skip ?_
 refine TQ.blkN ?_
 refine TQ.thenN (hY8 _ _ ?_)
 refine TW.region ?_
 refine TL.p Pu.mv ?_
 refine TL.p Pu.ad ?_
 refine TL.p Pu.as ?_
 refine TL.nil ?_
 refine TQ.thenN (hZ0 (q + 1) _ _ (by first | exact (fun _ => (M, selR E q E.nf, true)) hYes | exact X) _ _ ?_ ?_ fs9 ?_)
 first | exact ⟨by omega, by rw [hir_yes hYes hfr]; exact congrArg (fun z => (z, selR E q E.nf, true)) hM9.out⟩ | exact ⟨by omega, hX9.out.trans (hir_no2 hNo).symm⟩ | exact ⟨by omega, hX9.out.trans (hir_no1 hfr).symm⟩
 exact zom9
 exact ks9
 refine TW.region ?_
 refine TL.p Pu.mv ?_
 refine TL.p Pu.no ?_
 refine TL.p Pu.mv ?_
 refine TL.guard (t := 66) rfl (fun hg1 => ?_) (fun hg1 => ?_)
 try simp only [zgn9] at hg1
 refine TL.gs ?_
 refine TL.gs ?_
 refine TL.gs ?_
 refine TL.p Pu.kt ?_
 refine TL.p Pu.mv ?_
 refine TL.gs ?_
 refine TL.gs ?_
 refine TL.gs ?_
 refine TL.gs ?_
 refine TL.gs ?_
 refine TL.gs ?_
 refine TL.gs ?_
 refine TL.gs ?_
 refine TL.gs ?_
 refine TL.gs ?_
 refine TL.gs ?_
 refine TL.gs ?_
 refine TL.gs ?_
 refine TL.gs ?_
 refine TL.gs ?_
 refine TL.gs ?_
 refine TL.gs ?_
 refine TL.gs ?_
 refine TL.gs ?_
 refine TL.gs ?_
 refine TL.gs ?_
 refine TL.gs ?_
 refine TL.p Pu.kt ?_
 refine TL.nil ?_
 exact TQ.sub (by repeat (first | exact trivial | refine ⟨rfl, ?_⟩ | refine ⟨trivial, ?_⟩ | refine ⟨(by show some (Value.bool _) = some (Value.bool _); first | (simp [hg1, betC]; done) | (refine congrArg (fun z => some (Value.bool z)) (Bool.eq_iff_iff.2 ?_); simp [hg1, betC]; omega)), ?_⟩)) ks9 hJ1
 try simp only [zgn9] at hg1
 refine TL.gd Pu.mv ?_
 refine TL.gd Pu.mv ?_
 refine TL.gd Pu.lt ?_
 refine TL.p Pu.kf ?_
 refine TL.p Pu.mv ?_
 refine TL.guard (t := 71) rfl (fun hg2 => ?_) (fun hg2 => ?_)
 try simp only [zgn9] at hg2
 refine TL.gs ?_
 refine TL.gs ?_
 refine TL.gs ?_
 refine TL.gs ?_
 refine TL.gs ?_
 refine TL.gs ?_
 refine TL.gs ?_
 refine TL.gs ?_
 refine TL.gs ?_
 refine TL.gs ?_
 refine TL.gs ?_
 refine TL.gs ?_
 refine TL.gs ?_
 refine TL.gs ?_
 refine TL.gs ?_
 refine TL.gs ?_
 refine TL.gs ?_
 refine TL.gs ?_
 refine TL.gs ?_
 refine TL.gs ?_
 refine TL.gs ?_
 refine TL.gs ?_
 refine TL.p Pu.kt ?_
 refine TL.nil ?_
 exact TQ.sub (by repeat (first | exact trivial | refine ⟨rfl, ?_⟩ | refine ⟨trivial, ?_⟩ | refine ⟨(by show some (Value.bool _) = some (Value.bool _); first | (simp [hg1, hg2, betC]; done) | (refine congrArg (fun z => some (Value.bool z)) (Bool.eq_iff_iff.2 ?_); simp [hg1, hg2, betC]; omega)), ?_⟩)) ks9 hJ1
 try simp only [zgn9] at hg2
 refine TL.gd Pu.mv ?_
 refine TL.gd Pu.mv ?_
 refine TL.gd Pu.eq ?_
 refine TL.gd Pu.mv ?_
 refine TL.guard (t := 75) rfl (fun hg3 => ?_) (fun hg3 => ?_)
 try simp only [zgn9] at hg3
 refine TL.gd Pu.mv ?_
 refine TL.gd (Pu.ln Tryz.underlying31) ?_
 refine TL.gd Pu.mv ?_
 refine TL.gd (Pu.ln Tryz.underlying31) ?_
 refine TL.gd Pu.lt ?_
 refine TL.gd Pu.mv ?_
 refine TL.guard (t := 81) rfl (fun hg4 => ?_) (fun hg4 => ?_)
 try simp only [zgn9] at hg4
 refine TL.gs ?_
 refine TL.gs ?_
 refine TL.gs ?_
 refine TL.gs ?_
 refine TL.gs ?_
 refine TL.gs ?_
 refine TL.gs ?_
 refine TL.gs ?_
 refine TL.gs ?_
 refine TL.gs ?_
 refine TL.gd Pu.kt ?_
 refine TL.gd Pu.kt ?_
 refine TL.p Pu.kf ?_
 refine TL.nil ?_
 exact TQ.sub (by repeat (first | exact trivial | refine ⟨rfl, ?_⟩ | refine ⟨trivial, ?_⟩ | refine ⟨(by show some (Value.bool _) = some (Value.bool _); first | (simp [hg1, hg2, hg3, hg4, betC]; done) | (refine congrArg (fun z => some (Value.bool z)) (Bool.eq_iff_iff.2 ?_); simp [hg1, hg2, hg3, hg4, betC]; omega)), ?_⟩)) ks9 hJ1
 try simp only [zgn9] at hg4
 refine TL.gd Pu.mv ?_
 refine TL.gd (Pu.ln Tryz.underlying31) ?_
 refine TL.gd Pu.mv ?_
 refine TL.gd (Pu.ln Tryz.underlying31) ?_
 refine TL.gd Pu.eq ?_
 refine TL.gd Pu.mv ?_
 refine TL.guard (t := 87) rfl (fun hg5 => ?_) (fun hg5 => ?_)
 try simp only [zgn9] at hg5
 refine TL.gd Pu.mv ?_
 refine TL.gd Pu.mv ?_
 refine TL.cr rfl (enters Tryz.func67 rfl rfl) (fun w hw => by
   have hle : M.length = X.1.length := by omega
   rw [hle]
   exact earlier_any hle.symm rfl (by omega) (by rw [← hle]; exact OwnR.rdr (hw.holds (.own Al M.length cl 3 1 (iL M)) (by simp))) (OwnR.rdr (hw.holds (.own Ab X.1.length cb9 3 1 (iL X.1)) (by simp)))) ?_
 refine TL.gd Pu.kt ?_
 refine TL.gd Pu.kf ?_
 refine TL.gd Pu.kt ?_
 refine TL.p Pu.kf ?_
 refine TL.nil ?_
 exact TQ.sub (by repeat (first | exact trivial | refine ⟨rfl, ?_⟩ | refine ⟨trivial, ?_⟩ | refine ⟨(by show some (Value.bool _) = some (Value.bool _); first | (simp [hg1, hg2, hg3, hg4, hg5, betC]; done) | (refine congrArg (fun z => some (Value.bool z)) (Bool.eq_iff_iff.2 ?_); simp [hg1, hg2, hg3, hg4, hg5, betC]; omega)), ?_⟩)) ks9 hJ1
 try simp only [zgn9] at hg5
 refine TL.gs ?_
 refine TL.gs ?_
 refine TL.gs ?_
 refine TL.gd Pu.kf ?_
 refine TL.gd Pu.kf ?_
 refine TL.gd Pu.kt ?_
 refine TL.p Pu.kf ?_
 refine TL.nil ?_
 exact TQ.sub (by repeat (first | exact trivial | refine ⟨rfl, ?_⟩ | refine ⟨trivial, ?_⟩ | refine ⟨(by show some (Value.bool _) = some (Value.bool _); first | (simp [hg1, hg2, hg3, hg4, hg5, betC]; done) | (refine congrArg (fun z => some (Value.bool z)) (Bool.eq_iff_iff.2 ?_); simp [hg1, hg2, hg3, hg4, hg5, betC]; omega)), ?_⟩)) ks9 hJ1
 try simp only [zgn9] at hg3
 refine TL.gs ?_
 refine TL.gs ?_
 refine TL.gs ?_
 refine TL.gs ?_
 refine TL.gs ?_
 refine TL.gs ?_
 refine TL.gs ?_
 refine TL.gs ?_
 refine TL.gs ?_
 refine TL.gs ?_
 refine TL.gs ?_
 refine TL.gs ?_
 refine TL.gs ?_
 refine TL.gs ?_
 refine TL.gs ?_
 refine TL.gs ?_
 refine TL.gs ?_
 refine TL.gd Pu.kf ?_
 refine TL.p Pu.kf ?_
 refine TL.nil ?_
 exact TQ.sub (by repeat (first | exact trivial | refine ⟨rfl, ?_⟩ | refine ⟨trivial, ?_⟩ | refine ⟨(by show some (Value.bool _) = some (Value.bool _); first | (simp [hg1, hg2, hg3, betC]; done) | (refine congrArg (fun z => some (Value.bool z)) (Bool.eq_iff_iff.2 ?_); simp [hg1, hg2, hg3, betC]; omega)), ?_⟩)) ks9 hJ1
 try simp only [zcb9] at hc0
 have hq2 : q = 2 ^ E.nf := by have := Int.ofNat_le.1 hc0; omega
 clear hc0
 refine TW.exit ?_
 refine TQ.thenX ?_
 refine TQ.thenX ?_
 refine TQ.blkX ?_
 refine TQ.thenN (hY4 _ _ ?_)
 refine TW.seq fun Y22 hY22 => TW.region ?_
 refine TL.p Pu.mv ?_
 refine TL.p Pu.mv ?_
 refine TL.p Pu.mv ?_
 refine TL.p Pu.as ?_
 refine TL.p Pu.as ?_
 refine TL.p Pu.as ?_
 refine TL.nil (TQ.thenN (hY22 _ _ ?_))
 refine TW.ret ?_
 refine TQ.ret Tryz.results33 rfl ((.tmp rfl (.tmp rfl (.tmp rfl .nil)))) ?_
 have hX := hX9.out
 rw [hq2] at hX
 exact fun w hw => ⟨(Ab, cb9), by unfold hirR hirV; rw [← hX]; rfl, by unfold hirV; rw [← hX]; exact hw.sub (KSub.cons pk9 KSub.nil)⟩
end
end Go.Proofs.YtfaenhhgkhcghaaGreatDoor
namespace Go.Proofs.YtfaenhhgkhcghaaGreatDoor
set_option linter.all false
set_option linter.unusedVariables false
set_option linter.unusedSimpArgs false
open Go.RowKit
section
variable {Z : Cus} {T : Trp} {C D B O U V S : Option Addr} {cc cd cb co cu cv n cs bt : Nat} {st : Nat → Nat → Int} {w : World}
set_option maxRecDepth 100000 in
set_option maxHeartbeats 8000000 in
theorem cDue_any (i : Nat) (hi : i < n) (hok : CusOk Z) (htr : trpOk T = true) (h : CustIn w C Z.nc D Z.nd B Z.nb Z.c Z.d Z.b) (t : TrpIn w T O U V) (sI : StpIn w n st S) (ht : OldB w bt (trkL T O co U cu V cv Z C cc D cd B cb S n cs)) :
  CallsK Tryz.prog 75 #[.pointer (some ⟨bt, 0, none⟩), .int .i64 (i : Int)] [] w (Option Addr × Nat) (fun y => .tuple #[.slice y.1 (tolI (i : Int) (trbLo Z T (st i)) (trbHi Z T (st i)) 8).length y.2, .agg #[.int .i64 (sumLo Z T (st i)), .int .i64 (sumHi Z T (st i))]]) (fun y => [.own y.1 (tolI (i : Int) (trbLo Z T (st i)) (trbHi Z T (st i)) 8).length y.2 98 4 (rowsT (tolI (i : Int) (trbLo Z T (st i)) (trbHi Z T (st i)) 8))]) := by
 have ht9 := ht
 have hRS := sI.hR
 have hn := sI.hn
 have hbd := sI.bd i hi
 have hRV := t.hV
 have hnv := t.hnv
 have hlen := cdA_len (lo := st i 2) hok.nc hok.nd hok.nb
 have hcl : (cdZ Z (st i 2) (st i 3)).length ≤ 6001 := Nat.le_trans (List.length_filter_le _ _) hlen
 have htr9 := htr
 unfold trpOk inB5 at htr9
 simp only [Bool.and_eq_true, decide_eq_true_eq] at htr9
 obtain ⟨⟨⟨⟨⟨h10, h11⟩, h12, h13⟩, _⟩, _⟩, _⟩ := htr9
 have fC := fun (w' : World) => cChanges_any (w := w') (C := C) (cc := cc) (D := D) (cd := cd) (B := B) (cb := cb) (Z := Z) (st i 2) (st i 3)
 unfold custL at fC
 unfold trkL at ht
 refine K_enterM (S := []) (K := []) Tryz.func75 rfl Tryz.ntmps75 rfl (Sat.start _) ?_
 refine TW.seqD fun Y1 hY1 => ?_
 refine TW.region ?_
 refine TL.m Mk.bx ?_
 intro b1
 refine TL.p Pu.as ?_
 refine TL.m (Mk.al ty_zr36) ?_
 intro b2
 refine TL.nil ?_
 refine TQ.thenN (hY1 _ _ _ ?_)
 refine TW.seqD fun Y2 hY2 => ?_
 refine TW.region ?_
 refine TL.p (Pu.ld ty_sc76) ?_
 refine TL.p (by first | exact Pu.nn | exact Pu.nc) ?_
 refine TL.p (by first | exact Pu.fb ty_fa129_2 | exact Pu.fe ty_fa129_2) ?_
 refine TL.p (Pu.ldo ty_sc83) ?_
 refine TL.p Pu.mv ?_
 refine TL.p (Pu.el ty_et83) ?_
 refine TL.p (Pu.lds ty_ag160) ?_
 refine TL.m (Mk.al ty_zr160) ?_
 intro b3
 first | refine TL.st ty_sz160 ?_ | refine TL.se ty_sz160 ?_
 refine TL.nil ?_
 refine TQ.thenN (hY2 _ _ _ ?_)
 refine TW.seqD fun Y3 hY3 => ?_
 refine TW.region ?_
 refine TL.mm (kk := .i64) ?_
 intro b4
 refine TL.m (Mk.al ty_zr187) ?_
 intro b5
 first | refine TL.st ty_sz187 ?_ | refine TL.se ty_sz187 ?_
 refine TL.nil ?_
 refine TQ.thenN (hY3 _ _ _ ?_)
 refine TW.seqD fun Y4 hY4 => ?_
 refine TW.region ?_
 refine TL.m (Mk.al ty_zr31) ?_
 intro b6
 refine TL.nil ?_
 refine TQ.thenN (hY4 _ _ _ ?_)
 refine TW.seqD fun Y5 hY5 => ?_
 refine TW.region ?_
 refine TL.m (Mk.al ty_zr3) ?_
 intro b7
 first | refine TL.st ty_sz3 ?_ | refine TL.se ty_sz3 ?_
 refine TL.nil ?_
 refine TQ.thenN (hY5 _ _ _ ?_)
 refine TW.seqD fun Y6 hY6 => ?_
 refine TW.seqD fun Y7 hY7 => ?_
 refine TW.np ?_
 refine TW.dw 11 ?_
 refine RK.tk (Pu.ld ty_sc76) ?_
 refine RK.tk (by first | exact Pu.nn | exact Pu.nc) ?_
 refine RK.tk (by first | exact Pu.fb ty_fa129_1 | exact Pu.fe ty_fa129_1) ?_
 refine RK.tk (Pu.ldso ty_ag30) ?_
 refine RK.tk (by first | exact Pu.fb ty_fa160_2 | exact Pu.fe ty_fa160_2) ?_
 refine RK.tk (by first | exact Pu.fb ty_fa36_0 | exact Pu.fe ty_fa36_0) ?_
 refine RK.tk (Pu.ld ty_sc3) ?_
 refine RK.tk (by first | exact Pu.fb ty_fa160_2 | exact Pu.fe ty_fa160_2) ?_
 refine RK.tk (by first | exact Pu.fb ty_fa36_1 | exact Pu.fe ty_fa36_1) ?_
 refine RK.tk (Pu.ld ty_sc3) ?_
 refine RK.keep ?_
 refine RK.ch [false] ?_ trivial
 refine WK.call rfl (enters Tryz.func120 rfl rfl) rfl (fun w hw => by
   exact fC _) ?_
 rintro x
 refine WK.n ?_
 refine TL.nil ?_
 refine TQ.npN ?_
 refine TQ.thenN (hY7 _ _ _ ?_)
 refine TW.block ?_
 refine TW.tied0 (E := 3) (sz := 1) (fun s => iL (gq Z T (st i 0) (cdZ Z (st i 2) (st i 3)) 0 s)) ?_
 refine TW.rangeR (fun (q : Nat) (r : ((Option Addr × Nat) × List (Int × Value)) × (Nat → Option Addr) × (Nat → Nat)) => if propB (dueP Z T (st i 0) (cdZ Z (st i 2) (st i 3)) q r.1.2 r.2.1 r.2.2) = true then .blk b7 3 [.int .i64 (q : Int)] :: .blk b6 31 [.slice r.1.1.1 q r.1.1.2] :: .own r.1.1.1 q r.1.1.2 3 1 (iL (sumQ Z T (st i 0) (cdZ Z (st i 2) (st i 3)) q)) :: .obj b4 (mapO .i64 r.1.2) :: tied (ownsE 3 1 r.2.1 (fun s => (gq Z T (st i 0) (cdZ Z (st i 2) (st i 3)) q s).length) r.2.2 (fun s => iL (gq Z T (st i 0) (cdZ Z (st i 2) (st i 3)) q s)) 8) :: .blk b5 187 [.map (some b4)] :: .blk b1 76 [.pointer (some ⟨bt, 0, none⟩)] :: .blk b3 160 [.int .i64 (st i 0), .int .i64 (st i 1), .int .i64 (st i 2), .int .i64 (st i 3), .int .i64 (st i 4), .int .i64 (st i 5)] :: .blk b2 36 [.int .i64 0, .int .i64 0] :: [] else [badT]) (fun x : Empty => x.elim) (fun x => x.elim) ((((none, 0), []), (fun _ => none), (fun _ => 0))) (fun a b => changes1_iter (C := C) (D := D) (B := B) (cc := cc) (cd := cd) (cb := cb) (Z := Z) (x := x) (lo := st i 2) (hi := st i 3) hok h Apart.nil Apart.nil Apart.nil) ?_ ?_ ?_ ?_ (eg := enters Tryz.func147 rfl rfl)
 rw [if_pos (propB_iff.2 dueP_0)]
 unfold chgM
 exact KSub.cons pk9 (KSub.cons pk9 (KSub.cons pk9 (KSub.cons pk9 (KSub.cons pk9 (KSub.nilOwn (KSub.cons pk9 (KSub.cons pk9 ks9)))))))
 rintro lR DR oR oR1 oR2 q g ⟨⟨⟨Sm, cS⟩, mp⟩, pa, pc⟩ hq ZR0 hZR0
 by_cases hP : propB (dueP Z T (st i 0) (cdZ Z (st i 2) (st i 3)) q mp pa pc) = true
 case neg => exact fun a w hF hK => (no_badT hK (by rw [if_neg hP]; simp)).elim
 simp only [if_pos hP, chgY, List.cons_append, List.nil_append]
 have hP9 := hidT (propB_iff.1 hP)
 clear hP
 have hyb := hclO_bd hok (leg := st i 0) (day := ((cdZ Z (st i 2) (st i 3)).getD q 0))
 have hyp := hclO_pay hok (leg := st i 0) (day := ((cdZ Z (st i 2) (st i 3)).getD q 0))
 obtain ⟨y, hy⟩ : ∃ y, y = hclO Z (st i 0) ((cdZ Z (st i 2) (st i 3)).getD q 0) := ⟨_, rfl⟩
 have fH := fun (w' : World) (h' : CustIn w' C Z.nc D Z.nd B Z.nb Z.c Z.d Z.b) (ht' : OldB w' bt (trkL T O co U cu V cv Z C cc D cd B cb S n cs)) => cHost_any (st i 0) ((cdZ Z (st i 2) (st i 3)).getD q 0) hok h' ht'
 have hpb : payB Z T (st i 0) ((cdZ Z (st i 2) (st i 3)).getD q 0) = (decide (0 ≤ holZ Z (st i 0) ((cdZ Z (st i 2) (st i 3)).getD q 0)) && !hasB T.v T.nv (y.1 1)) := by rw [hy]; rfl
 have hpe : payB Z T (st i 0) ((cdZ Z (st i 2) (st i 3)).getD q 0) = true → y.1 4 * T.hd + (y.1 5 * T.wo + 1000 - 1) / 1000 = payZ Z T (st i 0) ((cdZ Z (st i 2) (st i 3)).getD q 0) := fun h9 => by rw [hy]; exact pay_eq h9
 have hdy : ∀ (s0 : Nat) (A9 : Option Addr) (c9 : Nat), payB Z T (st i 0) ((cdZ Z (st i 2) (st i 3)).getD q 0) = true → y.1 1 = s0 → dueP Z T (st i 0) (cdZ Z (st i 2) (st i 3)) (q + 1) (mput (y.1 1) (.slice A9 ((gq Z T (st i 0) (cdZ Z (st i 2) (st i 3)) q s0).length + 1) c9) mp) (updA pa s0 A9) (updA pc s0 c9) := fun s0 A9 c9 h7 h8 => by rw [hy] at h8 ⊢; exact dueP_yes hq h7 h8 hP9.out
 have hgs : ∀ s0 : Nat, payB Z T (st i 0) ((cdZ Z (st i 2) (st i 3)).getD q 0) = true → y.1 1 = s0 → gq Z T (st i 0) (cdZ Z (st i 2) (st i 3)) (q + 1) s0 = gq Z T (st i 0) (cdZ Z (st i 2) (st i 3)) q s0 ++ [payZ Z T (st i 0) ((cdZ Z (st i 2) (st i 3)).getD q 0)] := fun s0 h7 h8 => gq_yes hq (by unfold isW; rw [h7, ← hy, decide_eq_true h8]; rfl)
 have hgn : ∀ s : Nat, y.1 1 ≠ s → gq Z T (st i 0) (cdZ Z (st i 2) (st i 3)) (q + 1) s = gq Z T (st i 0) (cdZ Z (st i 2) (st i 3)) q s := fun s h8 => gq_no hq (isW_ne (by rw [← hy]; exact h8))
 rw [← hy] at fH hyb hyp
 clear hy
 replace hpb := hidT hpb
 have q1 : 0 ≤ y.1 4 * T.hd ∧ y.1 4 * T.hd ≤ 1000000 * 1000 := ⟨Int.mul_nonneg (by omega) (by omega), Int.mul_le_mul (by omega) h11 (by omega) (by omega)⟩
 have q2 : 0 ≤ y.1 5 * T.wo ∧ y.1 5 * T.wo ≤ 1000 * 1000000000000 := ⟨Int.mul_nonneg (by omega) (by omega), Int.mul_le_mul (by omega) h13 (by omega) (by omega)⟩
 have hql : (sumQ Z T (st i 0) (cdZ Z (st i 2) (st i 3)) q).length = q := sumQ_len (by omega)
 refine TWi.region ?_
 refine TL.p Pu.as ?_
 refine TL.nil ?_
 refine TQ.thenN (hZR0 _ _ _ Pick.hd ?_)
 refine TWi.block ?_
 refine TWi.seq fun Y8 hY8 => ?_
 refine TWi.region ?_
 refine TL.p (Pu.ld ty_sc3) ?_
 refine TL.p Pu.ad ?_
 first | refine TL.st ty_sz3 ?_ | refine TL.se ty_sz3 ?_
 refine TL.nil (TQ.thenN (hY8 _ _ ?_))
 refine TWi.seq fun Y9 hY9 => ?_
 refine TWi.region ?_
 refine TL.p Pu.as ?_
 refine TL.nil (TQ.thenN (hY9 _ _ ?_))
 refine TWi.seq fun Y10 hY10 => ?_
 refine TWi.seq fun Y11 hY11 => ?_
 refine TWi.region ?_
 refine TL.p (Pu.ld ty_sc76) ?_
 refine TL.p (by first | exact Pu.fb ty_fa160_0 | exact Pu.fe ty_fa160_0) ?_
 refine TL.p (Pu.ld ty_sc3) ?_
 refine TL.p Pu.mv ?_
 refine TL.cr rfl (enters Tryz.func121 rfl rfl) (fun w hw => by
   exact fH _ (h.ext (Chg.ext hw.chg)) (ht9.ext (Chg.ext hw.chg))) ?_
 refine TL.p Pu.mv ?_
 refine TL.p Pu.ex ?_
 refine TL.p Pu.ex ?_
 refine TL.m (Mk.al ty_zr70) ?_
 intro b8
 first | refine TL.st ty_sz70 ?_ | refine TL.se ty_sz70 ?_
 refine TL.p Pu.as ?_
 refine TL.nil (TQ.thenN (hY11 _ _ ?_))
 refine TWi.seq fun Y12 hY12 => ?_
 refine TWi.join [(59, .bool (decide (0 ≤ holZ Z (st i 0) ((cdZ Z (st i 2) (st i 3)).getD q 0)) && !hasB T.v T.nv (y.1 1)))] ?_ (fun hJ1 => ?_)
 refine TQ.thenN (hY12 _ _ ?_)
 refine TWi.cond rfl (fun hc0 => ?_) (fun hc0 => ?_)
 try simp only [zcb9] at hc0
 have hpt : payB Z T (st i 0) ((cdZ Z (st i 2) (st i 3)).getD q 0) = true := by rw [hpb.out, Bool.and_eq_true, decide_eq_true_eq, Bool.not_eq_true']; exact hc0
 have hpv := hidT (hpe hpt)
 have hdv := hdy (y.1 1).toNat
 have hsv := hidT (hgs (y.1 1).toNat hpt (by omega))
 have hs8 : (y.1 1).toNat < 8 := by omega
 have hlk : (mlook (y.1 1) mp).getD (.slice none 0 0) = .slice (pa (y.1 1).toNat) (gq Z T (st i 0) (cdZ Z (st i 2) (st i 3)) q (y.1 1).toNat).length (pc (y.1 1).toNat) := by
  have h9 := hP9.out (y.1 1).toNat hs8
  rwa [Int.toNat_of_nonneg hyb.1] at h9
 have hgl : (gq Z T (st i 0) (cdZ Z (st i 2) (st i 3)) q (y.1 1).toNat).length ≤ 6001 := Nat.le_trans gq_len hcl
 replace hlk := hidT hlk
 refine TWi.seq fun Y13 hY13 => ?_
 refine TWi.dw 21 ?_
 refine RK.tk (by first | exact Pu.fb ty_fa70_4 | exact Pu.fe ty_fa70_4) ?_
 refine RK.tk (Pu.ld ty_sc3) ?_
 refine RK.tk (Pu.ld ty_sc76) ?_
 refine RK.tk (by first | exact Pu.nn | exact Pu.nc) ?_
 refine RK.tk (by first | exact Pu.fb ty_fa129_0 | exact Pu.fe ty_fa129_0) ?_
 refine RK.tk (by first | exact Pu.fb ty_fa33_0 | exact Pu.fe ty_fa33_0) ?_
 refine RK.tk (Pu.ldo ty_sc3) ?_
 refine RK.tk Pu.ml ?_
 refine RK.tk (by first | exact Pu.fb ty_fa70_5 | exact Pu.fe ty_fa70_5) ?_
 refine RK.tk (Pu.ld ty_sc3) ?_
 refine RK.tk (Pu.ld ty_sc76) ?_
 refine RK.tk (by first | exact Pu.nn | exact Pu.nc) ?_
 refine RK.tk (by first | exact Pu.fb ty_fa129_0 | exact Pu.fe ty_fa129_0) ?_
 refine RK.tk (by first | exact Pu.fb ty_fa33_1 | exact Pu.fe ty_fa33_1) ?_
 refine RK.tk (Pu.ldo ty_sc3) ?_
 refine RK.tk Pu.ml ?_
 refine RK.tk Pu.ad ?_
 refine RK.tk Pu.sb ?_
 refine RK.tk Pu.qu ?_
 refine RK.tk Pu.ad ?_
 refine RK.tk Pu.as ?_
 refine RK.ch [] ?_ trivial
 refine WK.n ?_
 refine TL.nil (TQ.thenN (hY13 _ _ ?_))
 refine TWi.expk [.blk b5 187 [.map (some b4)], .blk b8 70 (claimL y)] (fun (⟨x8, A9, c9⟩ : Nat × Option Addr × Nat) => ([(11, .int .i64 (y.1 4 * T.hd + (y.1 5 * T.wo + 1000 - 1) / 1000)), (8, .pointer (some ⟨b6, 0, none⟩))] : Fr)) (fun (⟨x8, A9, c9⟩ : Nat × Option Addr × Nat) => [.obj b4 (mapO .i64 (mput (y.1 1) (.slice A9 ((gq Z T (st i 0) (cdZ Z (st i 2) (st i 3)) q (y.1 1).toNat).length + 1) c9) mp)), tied (ownsE 3 1 (updA pa (y.1 1).toNat A9) (fun s => (gq Z T (st i 0) (cdZ Z (st i 2) (st i 3)) (q + 1) s).length) (updA pc (y.1 1).toNat c9) (fun s => iL (gq Z T (st i 0) (cdZ Z (st i 2) (st i 3)) (q + 1) s)) 8), .blk b7 3 [.int .i64 ((q : Int) + 1)], .blk b6 31 [.slice Sm q cS], .own Sm q cS 3 1 (iL (sumQ Z T (st i 0) (cdZ Z (st i 2) (st i 3)) q)), .blk b5 187 [.map (some b4)], .blk b1 76 [.pointer (some ⟨bt, 0, none⟩)], .blk b3 160 [.int .i64 (st i 0), .int .i64 (st i 1), .int .i64 (st i 2), .int .i64 (st i 3), .int .i64 (st i 4), .int .i64 (st i 5)], .blk b2 36 [.int .i64 0, .int .i64 0], .obj lR oR1, .obj DR oR2, .own g.1 (cdA Z (st i 2)).length g.2 3 1 (iL (cdA Z (st i 2))), .blk x.2.1 3 [.int .i64 (st i 2)], .blk x.2.2 3 [.int .i64 (st i 3)]]) ?_ (fun hE => ?_)
 rintro ⟨x8, A9, c9⟩
 refine TQ.thenN (hY10 _ _ ?_)
 refine TWi.region ?_
 refine TL.p (Pu.ld ty_sc31) ?_
 refine TL.p Pu.mv ?_
 refine TL.m Mk.bl ?_
 intro b9
 first | refine TL.a0 ty_et31 ?_ | refine TL.ap ty_et31 ?_
 intro A10 c10
 first | refine TL.st ty_sz31 ?_ | refine TL.se ty_sz31 ?_
 refine TL.nil ?_
 refine TQ.blkN ?_
 refine TQ.rbN (by first | exact (((A10, c10), mput (y.1 1) (.slice A9 ((gq Z T (st i 0) (cdZ Z (st i 2) (st i 3)) q (y.1 1).toNat).length + 1) c9) mp), updA pa (y.1 1).toNat A9, updA pc (y.1 1).toNat c9) | exact (((A12, c12), mp), pa, pc)) ?_
 first
  | (have hcond := propB_iff.2 (hdv A9 c9 hpt (by omega)); simp only [if_pos hcond, chgY, List.cons_append, List.nil_append]; clear hcond; exact KSub.cons pk9 (KSub.cons pk9 (KSub.cons pk9 (KSub.cons pk9 (KSub.cons pk9 (KSub.valI pk9 (by omega) (KSub.cons pk9 (KSub.own pk9 (iL_app hql.symm (sumQ_s hq) (congrArg (fun z => [Value.int .i64 z]) hpv.out)) (KSub.cons pk9 (KSub.cons pk9 ks9))))))))))
  | (have hcond := propB_iff.2 (dueP_no hq hpt hP9.out); simp only [if_pos hcond, chgY, List.cons_append, List.nil_append]; clear hcond; simp only [show ∀ s, gq Z T (st i 0) (cdZ Z (st i 2) (st i 3)) (q + 1) s = gq Z T (st i 0) (cdZ Z (st i 2) (st i 3)) q s from fun s => gq_no hq (by unfold isW; rw [hpt]; rfl)]; exact KSub.cons pk9 (KSub.cons pk9 (KSub.cons pk9 (KSub.cons pk9 (KSub.cons pk9 (KSub.valI pk9 (by omega) (KSub.cons pk9 (KSub.own pk9 (iL_app hql.symm (sumQ_s hq) (congrArg (fun z => [Value.int .i64 z]) hpz.out.symm)) (KSub.cons pk9 (KSub.cons pk9 ks9))))))))))
 refine RG.tk 0 rfl (Pu.ld ty_sc187) ?_
 refine RG.tk 1 rfl (by first | exact Pu.fb ty_fa70_1 | exact Pu.fe ty_fa70_1) ?_
 refine RG.tk 2 rfl (Pu.ld ty_sc3) ?_
 refine RG.tk 3 rfl (Pu.ld ty_sc187) ?_
 refine RG.tk 4 rfl (by first | exact Pu.fb ty_fa70_1 | exact Pu.fe ty_fa70_1) ?_
 refine RG.tk 5 rfl (Pu.ld ty_sc3) ?_
 refine RG.tk 7 rfl Pu.mv ?_
 refine RG.a2 6 8 rfl rfl (fun X6 hX6 => ?_) (fun X8 hX8 => ?_)
 refine TL.p (Pu.l1V (.slice (pa (y.1 1).toNat) (gq Z T (st i 0) (cdZ Z (st i 2) (st i 3)) q (y.1 1).toNat).length (pc (y.1 1).toNat)) ty_mp187 ty_zv31 hlk.out) ?_
 refine TL.nil ?_
 refine TQ.nxt (hX6 _ _ hl9 ?_)
 refine RG.a1 8 rfl (fun X8 hX8 => ?_)
 refine TL.m Mk.bl ?_
 intro x8
 refine TL.nil ?_
 refine TQ.nxt (hX8 _ _ hl9 ?_)
 refine RG.a1 9 rfl (fun X9 hX9 => ?_)
 refine TL.ownTake (y.1 1).toNat hs8 pk9 ?_
 first | refine TL.a0 ty_et31 ?_ | refine TL.ap ty_et31 ?_
 intro A9 c9
 refine TL.nil ?_
 refine TQ.nxt (hX9 _ _ hl9 ?_)
 refine RG.a1 10 rfl (fun X10 hX10 => ?_)
 refine TL.ownPut (s := (y.1 1).toNat) (A9 := A9) (A2 := updA pa (y.1 1).toNat A9) (l2 := fun s => (gq Z T (st i 0) (cdZ Z (st i 2) (st i 3)) (q + 1) s).length) (c2 := updA pc (y.1 1).toNat c9) (r2 := fun s => iL (gq Z T (st i 0) (cdZ Z (st i 2) (st i 3)) (q + 1) s)) pk9 pk9 hs8 (by simp [updA]) (by show (gq Z T (st i 0) (cdZ Z (st i 2) (st i 3)) (q + 1) (y.1 1).toNat).length = _; rw [hsv.out, List.length_append]; rfl) (by simp [updA]) (fun k hk => iL_app rfl hsv.out (congrArg (fun z => [Value.int .i64 z]) hpv.out) k hk) (fun k hk hne => ⟨by simp [updA, hne], by show _ = (gq Z T (st i 0) (cdZ Z (st i 2) (st i 3)) (q + 1) k).length; rw [hgn k (by omega)], by simp [updA, hne], by show _ = iL (gq Z T (st i 0) (cdZ Z (st i 2) (st i 3)) (q + 1) k); rw [hgn k (by omega)]⟩) ?_
 refine TL.mu ty_mp187 ?_
 refine TL.nil ?_
 refine TQ.nxt (hX10 _ _ hl9 ?_)
 exact RG.nil (TQ.sub fs9 kt9 (hE ⟨x8, A9, c9⟩)) (by kernel_rfl)
 refine TL.m Mk.bl ?_
 intro x8
 refine TL.nil ?_
 refine TQ.nxt (hX8 _ _ hl9 ?_)
 refine RG.a1 6 rfl (fun X6 hX6 => ?_)
 refine TL.p (Pu.l1V (.slice (pa (y.1 1).toNat) (gq Z T (st i 0) (cdZ Z (st i 2) (st i 3)) q (y.1 1).toNat).length (pc (y.1 1).toNat)) ty_mp187 ty_zv31 hlk.out) ?_
 refine TL.nil ?_
 refine TQ.nxt (hX6 _ _ hl9 ?_)
 refine RG.a1 9 rfl (fun X9 hX9 => ?_)
 refine TL.ownTake (y.1 1).toNat hs8 pk9 ?_
 first | refine TL.a0 ty_et31 ?_ | refine TL.ap ty_et31 ?_
 intro A9 c9
 refine TL.nil ?_
 refine TQ.nxt (hX9 _ _ hl9 ?_)
 refine RG.a1 10 rfl (fun X10 hX10 => ?_)
 refine TL.ownPut (s := (y.1 1).toNat) (A9 := A9) (A2 := updA pa (y.1 1).toNat A9) (l2 := fun s => (gq Z T (st i 0) (cdZ Z (st i 2) (st i 3)) (q + 1) s).length) (c2 := updA pc (y.1 1).toNat c9) (r2 := fun s => iL (gq Z T (st i 0) (cdZ Z (st i 2) (st i 3)) (q + 1) s)) pk9 pk9 hs8 (by simp [updA]) (by show (gq Z T (st i 0) (cdZ Z (st i 2) (st i 3)) (q + 1) (y.1 1).toNat).length = _; rw [hsv.out, List.length_append]; rfl) (by simp [updA]) (fun k hk => iL_app rfl hsv.out (congrArg (fun z => [Value.int .i64 z]) hpv.out) k hk) (fun k hk hne => ⟨by simp [updA, hne], by show _ = (gq Z T (st i 0) (cdZ Z (st i 2) (st i 3)) (q + 1) k).length; rw [hgn k (by omega)], by simp [updA, hne], by show _ = iL (gq Z T (st i 0) (cdZ Z (st i 2) (st i 3)) (q + 1) k); rw [hgn k (by omega)]⟩) ?_
 refine TL.mu ty_mp187 ?_
 refine TL.nil ?_
 refine TQ.nxt (hX10 _ _ hl9 ?_)
 exact RG.nil (TQ.sub fs9 kt9 (hE ⟨x8, A9, c9⟩)) (by kernel_rfl)
 try simp only [zcb9] at hc0
 have hpt : payB Z T (st i 0) ((cdZ Z (st i 2) (st i 3)).getD q 0) = false := by rw [hpb.out, Bool.and_eq_false_iff, decide_eq_false_iff_not, Bool.not_eq_false']; first | exact hc0 | (simpa using hc0)
 have hpz := hidT (payB_no hpt)
 refine TWi.skip ?_
 refine TQ.thenN (hY10 _ _ ?_)
 refine TWi.region ?_
 refine TL.p (Pu.ld ty_sc31) ?_
 refine TL.p Pu.mv ?_
 refine TL.m Mk.bl ?_
 intro b11
 first | refine TL.a0 ty_et31 ?_ | refine TL.ap ty_et31 ?_
 intro A12 c12
 first | refine TL.st ty_sz31 ?_ | refine TL.se ty_sz31 ?_
 refine TL.nil ?_
 refine TQ.blkN ?_
 refine TQ.rbN (by first | exact (((A10, c10), mput (y.1 1) (.slice A9 ((gq Z T (st i 0) (cdZ Z (st i 2) (st i 3)) q (y.1 1).toNat).length + 1) c9) mp), updA pa (y.1 1).toNat A9, updA pc (y.1 1).toNat c9) | exact (((A12, c12), mp), pa, pc)) ?_
 first
  | (have hcond := propB_iff.2 (hdv A9 c9 hpt (by omega)); simp only [if_pos hcond, chgY, List.cons_append, List.nil_append]; clear hcond; exact KSub.cons pk9 (KSub.cons pk9 (KSub.cons pk9 (KSub.cons pk9 (KSub.cons pk9 (KSub.valI pk9 (by omega) (KSub.cons pk9 (KSub.own pk9 (iL_app hql.symm (sumQ_s hq) (congrArg (fun z => [Value.int .i64 z]) hpv.out)) (KSub.cons pk9 (KSub.cons pk9 ks9))))))))))
  | (have hcond := propB_iff.2 (dueP_no hq hpt hP9.out); simp only [if_pos hcond, chgY, List.cons_append, List.nil_append]; clear hcond; simp only [show ∀ s, gq Z T (st i 0) (cdZ Z (st i 2) (st i 3)) (q + 1) s = gq Z T (st i 0) (cdZ Z (st i 2) (st i 3)) q s from fun s => gq_no hq (by unfold isW; rw [hpt]; rfl)]; exact KSub.cons pk9 (KSub.cons pk9 (KSub.cons pk9 (KSub.cons pk9 (KSub.cons pk9 (KSub.valI pk9 (by omega) (KSub.cons pk9 (KSub.own pk9 (iL_app hql.symm (sumQ_s hq) (congrArg (fun z => [Value.int .i64 z]) hpz.out.symm)) (KSub.cons pk9 (KSub.cons pk9 ks9))))))))))
 refine TWi.ex0k [.blk b1 76 [.pointer (some ⟨bt, 0, none⟩)], .blk b8 70 (claimL y)] ?_
 refine RG.tk 0 rfl Pu.mv ?_
 refine RG.tk 1 rfl Pu.mv ?_
 refine RG.guard (t := 49) rfl (fun hg1 => ?_) (fun hg1 => ?_)
 refine RG.tk 2 rfl (Pu.ld ty_sc76) ?_
 refine RG.tk 7 rfl (by first | exact Pu.fb ty_fa70_1 | exact Pu.fe ty_fa70_1) ?_
 refine RG.tk 8 rfl (Pu.ld ty_sc3) ?_
 refine RG.a1 3 rfl (fun X3 hX3 => ?_)
 refine TL.gd (by first | exact Pu.nn | exact Pu.nc) ?_
 refine TL.nil ?_
 refine TQ.nxt (hX3 _ _ hl9 ?_)
 refine RG.tk 4 rfl (by first | exact Pu.fb ty_fa129_0 | exact Pu.fe ty_fa129_0) ?_
 refine RG.tk 5 rfl (by first | exact Pu.fb ty_fa33_4 | exact Pu.fe ty_fa33_4) ?_
 refine RG.tk 6 rfl (Pu.ldo ty_sc31) ?_
 refine RG.a1 9 rfl (fun X9 hX9 => ?_)
 refine TL.cr rfl (enters Tryz.func122 rfl rfl) (fun w hw => by
   exact contains_any (v := T.v) _ (by omega) (hRV.sat hw Apart.nil)) ?_
 refine TL.nil ?_
 refine TQ.nxt (hX9 _ _ hl9 ?_)
 refine RG.tk 10 rfl Pu.no ?_
 refine RG.tk 11 rfl Pu.kt ?_
 refine RG.nil ?_ (by kernel_rfl)
 exact TQ.sub (by repeat (first | exact trivial | refine ⟨rfl, ?_⟩ | refine ⟨trivial, ?_⟩ | refine ⟨(by show some (Value.bool _) = some (Value.bool _); first | (simp [hg1, -List.getD_eq_getElem?_getD]; done) | (refine congrArg (fun z => some (Value.bool z)) (Bool.eq_iff_iff.2 ?_); simp [hg1, -List.getD_eq_getElem?_getD]; omega)), ?_⟩)) ks9 hJ1
 refine RG.ts 2 rfl ?_
 refine RG.ts 3 rfl ?_
 refine RG.ts 4 rfl ?_
 refine RG.ts 5 rfl ?_
 refine RG.ts 6 rfl ?_
 refine RG.ts 7 rfl ?_
 refine RG.ts 8 rfl ?_
 refine RG.ts 9 rfl ?_
 refine RG.ts 10 rfl ?_
 refine RG.tk 11 rfl Pu.kf ?_
 refine RG.nil ?_ (by kernel_rfl)
 exact TQ.sub (by repeat (first | exact trivial | refine ⟨rfl, ?_⟩ | refine ⟨trivial, ?_⟩ | refine ⟨(by show some (Value.bool _) = some (Value.bool _); first | (simp [hg1, -List.getD_eq_getElem?_getD]; done) | (refine congrArg (fun z => some (Value.bool z)) (Bool.eq_iff_iff.2 ?_); simp [hg1, -List.getD_eq_getElem?_getD]; omega)), ?_⟩)) ks9 hJ1
 rintro DR ⟨⟨⟨Sm, cS⟩, mp⟩, pa, pc⟩
 by_cases hP : propB (dueP Z T (st i 0) (cdZ Z (st i 2) (st i 3)) (cdZ Z (st i 2) (st i 3)).length mp pa pc) = true
 case neg => exact fun a w hF hK => (no_badT hK (by rw [if_neg hP]; simp)).elim
 simp only [if_pos hP, List.nil_append]
 have hP9 := hidT (propB_iff.1 hP)
 clear hP
 refine TQ.tiedU pk9 ?_
 have hsl : (sumQ Z T (st i 0) (cdZ Z (st i 2) (st i 3)) (cdZ Z (st i 2) (st i 3)).length).length = (cdZ Z (st i 2) (st i 3)).length := sumQ_len (Nat.le_refl _)
 have hsp : 0 < (cdZ Z (st i 2) (st i 3)).length := cd_lo hbd.2.1
 have hse : sumQ Z T (st i 0) (cdZ Z (st i 2) (st i 3)) (cdZ Z (st i 2) (st i 3)).length = (cdZ Z (st i 2) (st i 3)).map (payZ Z T (st i 0)) := by unfold sumQ; rw [List.take_length]
 refine TQ.blkN ?_
 refine TQ.thenN (hY6 _ _ _ ?_)
 refine TW.seqD fun Y14 hY14 => ?_
 refine TW.region ?_
 refine TL.p Pu.as ?_
 refine TL.nil ?_
 refine TQ.thenN (hY14 _ _ _ ?_)
 refine TW.seqD fun Y15 hY15 => ?_
 refine TW.seqD fun Y16 hY16 => ?_
 refine TW.region ?_
 refine TL.p Pu.mv ?_
 refine TL.nil ?_
 refine TQ.thenN (hY16 _ _ _ ?_)
 refine TW.block ?_
 refine TW.loop5 (fun (who : Nat) (E : Option Addr) (ce : Nat) (M : List TlX) (m : Nat) => [(94, .int .i64 (who : Int)), (14, .slice E m ce), (9, .pointer (some ⟨b7, 0, none⟩)), (8, .pointer (some ⟨b6, 0, none⟩)), (7, .pointer (some ⟨b5, 0, none⟩)), (5, .pointer (some ⟨b2, 0, none⟩)), (1, .int .i64 (i : Int))]) (fun who E ce M m => [.own E m ce 98 4 (rowsT M), tied (ownsU 3 1 pa (fun s => (gq Z T (st i 0) (cdZ Z (st i 2) (st i 3)) (cdZ Z (st i 2) (st i 3)).length s).length) pc (fun s => iL (gq Z T (st i 0) (cdZ Z (st i 2) (st i 3)) (cdZ Z (st i 2) (st i 3)).length s)) who (8 - who)), .obj b4 (mapO .i64 mp), .blk b5 187 [.map (some b4)], .blk b6 31 [.slice Sm (cdZ Z (st i 2) (st i 3)).length cS], .own Sm (cdZ Z (st i 2) (st i 3)).length cS 3 1 (iL (sumQ Z T (st i 0) (cdZ Z (st i 2) (st i 3)) (cdZ Z (st i 2) (st i 3)).length)), .blk b7 3 [.int .i64 ((cdZ Z (st i 2) (st i 3)).length : Int)], .blk b2 36 [.int .i64 0, .int .i64 0], .obj DR (.deferred (some []))]) (fun who E ce M m => who ≤ 8 ∧ M = tolI (i : Int) (trbLo Z T (st i)) (trbHi Z T (st i)) who ∧ m = M.length) (fun who E ce M m => 8 - who) 0 none 0 [] 0 fs9 ?_ ?_ ?_
 exact KSub.nilOwn ks9
 exact ⟨Nat.zero_le _, rfl, rfl⟩
 rintro who E ce M m ⟨hwho, hM, hm⟩ Z0 hZ0
 have hM9 := hidT hM
 have hmb : m ≤ 100 := by rw [hm, hM]; exact Nat.le_trans (tolI_len who) (by omega)
 clear hM
 refine TW.seqD fun Y17 hY17 => ?_
 refine TW.region ?_
 refine TL.p Pu.lt ?_
 refine TL.nil ?_
 refine TQ.thenN (hY17 _ _ _ ?_)
 refine TW.seqD fun Y18 hY18 => ?_
 refine TW.cond rfl (fun hc1 => ?_) (fun hc1 => ?_)
 try simp only [zcb9] at hc1
 have hw8 : who < 8 := by omega
 rw [show 8 - who = (7 - who) + 1 by omega]
 have hgl : (gq Z T (st i 0) (cdZ Z (st i 2) (st i 3)) (cdZ Z (st i 2) (st i 3)).length who).length ≤ 6001 := Nat.le_trans gq_len hcl
 refine TW.skip ?_
 refine TQ.thenN (hY18 _ _ _ ?_)
 refine TW.seqD fun Y19 hY19 => ?_
 refine TW.block ?_
 refine TW.seqD fun Y20 hY20 => ?_
 refine TW.region ?_
 refine TL.p Pu.mv ?_
 refine TL.p Pu.as ?_
 refine TL.nil ?_
 refine TQ.thenN (hY20 _ _ _ ?_)
 refine TW.seqD fun Y21 hY21 => ?_
 refine TW.region ?_
 refine TL.ownNext pk9 ?_
 refine TL.p (Pu.ld ty_sc187) ?_
 refine TL.p Pu.mv ?_
 refine TL.p (Pu.l1V (.slice (pa who) (gq Z T (st i 0) (cdZ Z (st i 2) (st i 3)) (cdZ Z (st i 2) (st i 3)).length who).length (pc who)) ty_mp187 ty_zv31 (hP9.out who hw8)) ?_
 refine TL.p Pu.as ?_
 refine TL.nil ?_
 refine TQ.thenN (hY21 _ _ _ ?_)
 refine TW.seqD fun Y22 hY22 => ?_
 refine TW.seqD fun Y23 hY23 => ?_
 refine TW.region ?_
 refine TL.p Pu.mv ?_
 refine TL.p (Pu.ln Tryz.underlying31) ?_
 refine TL.p (Pu.ld ty_sc3) ?_
 refine TL.p Pu.lt ?_
 refine TL.nil ?_
 refine TQ.thenN (hY23 _ _ _ ?_)
 refine TW.cond rfl (fun hc2 => ?_) (fun hc2 => ?_)
 try simp only [zcb9] at hc2
 have hgot := hidT (gotZ_yes (Z := Z) (T := T) (s := st i) (q := who) (by omega))
 have hgn := gotZ_pos (Z := Z) (T := T) (s := st i) (q := who) hbd.2.1
 have hgm := hidT (show (gq Z T (st i 0) (cdZ Z (st i 2) (st i 3)) (cdZ Z (st i 2) (st i 3)).length who).length + 1 = (gotZ Z T (st i) who).length by rw [← hgot.out, List.length_append]; rfl)
 refine TW.region ?_
 refine TL.p Pu.mv ?_
 refine TL.m Mk.bl ?_
 intro b13
 first | refine TL.a0 ty_et31 ?_ | refine TL.ap ty_et31 ?_
 intro A14 c14
 refine TL.subK (KSub.own Pick.hd (iL_app (L' := gotZ Z T (st i) who) rfl hgot.out.symm rfl) (KSub.refl _)) ?_
 refine TL.p Pu.as ?_
 refine TL.nil ?_
 refine TQ.thenN (hY22 _ _ _ ?_)
 refine TW.seqD fun Y24 hY24 => ?_
 refine TW.region ?_
 refine TL.p Pu.mv ?_
 refine TL.cr rfl (enters Tryz.func123 rfl rfl) (fun w hw => by
   first
    | exact max_got hgm.out hgn (by omega) (trb_hi hok htr hbd.2.1) (OwnR.rdr (hw.holds (.own A14 ((gq Z T (st i 0) (cdZ Z (st i 2) (st i 3)) (cdZ Z (st i 2) (st i 3)).length who).length + 1) c14 3 1 (iL (gotZ Z T (st i) who))) (by simp)))
    | exact max_got hgm.out hgn (by omega) (trb_hi hok htr hbd.2.1) (by rw [← hgot.out]; exact (OwnR.rdr (hw.holds (.own (pa who) (gq Z T (st i 0) (cdZ Z (st i 2) (st i 3)) (cdZ Z (st i 2) (st i 3)).length who).length (pc who) 3 1 (iL (gq Z T (st i 0) (cdZ Z (st i 2) (st i 3)) (cdZ Z (st i 2) (st i 3)).length who))) (by simp))))
    | exact max_got (t := sumHi Z T (st i)) hsl.symm (by omega) (by omega) (by rw [hse]; exact sum_hi hok htr hbd.2.1) (OwnR.rdr (hw.holds (.own Sm (cdZ Z (st i 2) (st i 3)).length cS 3 1 (iL (sumQ Z T (st i 0) (cdZ Z (st i 2) (st i 3)) (cdZ Z (st i 2) (st i 3)).length))) (by simp)))) ?_
 refine TL.p Pu.as ?_
 refine TL.nil ?_
 refine TQ.thenN (hY24 _ _ _ ?_)
 refine TW.seqD fun Y25 hY25 => ?_
 refine TW.region ?_
 refine TL.p Pu.mv ?_
 refine TL.p Pu.gt ?_
 refine TL.nil ?_
 refine TQ.thenN (hY25 _ _ _ ?_)
 refine TW.cond rfl (fun hc3 => ?_) (fun hc3 => ?_)
 try simp only [zcb9] at hc3
 have hstep : tolI (i : Int) (trbLo Z T (st i)) (trbHi Z T (st i)) (who + 1) = M ++ [((i : Int), (who : Int), trbLo Z T (st i) who, trbHi Z T (st i) who)] := by
  rw [hM9.out]; simp only [tolI]; rw [if_pos hc3]
 have hlen9 : m + 1 = (tolI (i : Int) (trbLo Z T (st i)) (trbHi Z T (st i)) (who + 1)).length := by rw [hstep, List.length_append, ← hm]; rfl
 refine TW.region ?_
 refine TL.p Pu.mv ?_
 refine TL.p Pu.mv ?_
 refine TL.p Pu.mv ?_
 refine TL.p Pu.mv ?_
 refine TL.p Pu.mv ?_
 refine TL.cr rfl (enters Tryz.func124 rfl rfl) (fun w hw => by
   first
    | exact lst_got hgm.out (by omega) (trb_lo hok htr hbd.2.1) (OwnR.rdr (hw.holds (.own A14 ((gq Z T (st i 0) (cdZ Z (st i 2) (st i 3)) (cdZ Z (st i 2) (st i 3)).length who).length + 1) c14 3 1 (iL (gotZ Z T (st i) who))) (by simp)))
    | exact lst_got hgm.out (by omega) (trb_lo hok htr hbd.2.1) (by rw [← hgot.out]; exact (OwnR.rdr (hw.holds (.own (pa who) (gq Z T (st i 0) (cdZ Z (st i 2) (st i 3)) (cdZ Z (st i 2) (st i 3)).length who).length (pc who) 3 1 (iL (gq Z T (st i 0) (cdZ Z (st i 2) (st i 3)) (cdZ Z (st i 2) (st i 3)).length who))) (by simp))))) ?_
 refine TL.p Pu.mv ?_
 refine TL.p Pu.bd ?_
 refine TL.p Pu.bd ?_
 refine TL.m Mk.bl ?_
 intro b15
 first | refine TL.a0 ty_et65 ?_ | refine TL.ap ty_et65 ?_
 intro A16 c16
 refine TL.p Pu.as ?_
 refine TL.nil ?_
 refine TQ.blkN ?_
 refine TQ.thenN (hY19 _ _ _ ?_)
 refine TW.region ?_
 refine TL.p Pu.ad ?_
 refine TL.p Pu.mv ?_
 refine TL.nil ?_
 refine TQ.thenN (hZ0 (who + 1) _ _ (tolI (i : Int) (trbLo Z T (st i)) (trbHi Z T (st i)) (who + 1)) _ _ _ ?_ ?_ fs9 ?_)
 exact ⟨by omega, rfl, hlen9⟩
 exact zom9
 rw [show 8 - (who + 1) = 7 - who by omega]
 first
  | exact KSub.own Pick.hd (rowsT_app hm hstep rfl) ks9
  | exact KSub.own pk9 (fun i _ => by rw [hstep]) ks9
 try simp only [zcb9] at hc3
 have hstep : tolI (i : Int) (trbLo Z T (st i)) (trbHi Z T (st i)) (who + 1) = M := by
  rw [hM9.out]; simp only [tolI]; rw [if_neg (by omega)]
 have hlen9 : m = (tolI (i : Int) (trbLo Z T (st i)) (trbHi Z T (st i)) (who + 1)).length := by rw [hstep, ← hm]
 refine TW.skip ?_
 refine TQ.blkN ?_
 refine TQ.thenN (hY19 _ _ _ ?_)
 refine TW.region ?_
 refine TL.p Pu.ad ?_
 refine TL.p Pu.mv ?_
 refine TL.nil ?_
 refine TQ.thenN (hZ0 (who + 1) _ _ (tolI (i : Int) (trbLo Z T (st i)) (trbHi Z T (st i)) (who + 1)) _ _ _ ?_ ?_ fs9 ?_)
 exact ⟨by omega, rfl, hlen9⟩
 exact zom9
 rw [show 8 - (who + 1) = 7 - who by omega]
 first
  | exact KSub.own Pick.hd (rowsT_app hm hstep rfl) ks9
  | exact KSub.own pk9 (fun i _ => by rw [hstep]) ks9
 try simp only [zcb9] at hc2
 have hgot := hidT (gotZ_no (Z := Z) (T := T) (s := st i) (q := who) (by omega))
 have hgn := gotZ_pos (Z := Z) (T := T) (s := st i) (q := who) hbd.2.1
 have hgm := hidT (show (gq Z T (st i 0) (cdZ Z (st i 2) (st i 3)) (cdZ Z (st i 2) (st i 3)).length who).length = (gotZ Z T (st i) who).length by rw [hgot.out])
 refine TW.skip ?_
 refine TQ.thenN (hY22 _ _ _ ?_)
 refine TW.seqD fun Y26 hY26 => ?_
 refine TW.region ?_
 refine TL.p Pu.mv ?_
 refine TL.cr rfl (enters Tryz.func123 rfl rfl) (fun w hw => by
   first
    | exact max_got hgm.out hgn (by omega) (trb_hi hok htr hbd.2.1) (OwnR.rdr (hw.holds (.own A14 ((gq Z T (st i 0) (cdZ Z (st i 2) (st i 3)) (cdZ Z (st i 2) (st i 3)).length who).length + 1) c14 3 1 (iL (gotZ Z T (st i) who))) (by simp)))
    | exact max_got hgm.out hgn (by omega) (trb_hi hok htr hbd.2.1) (by rw [← hgot.out]; exact (OwnR.rdr (hw.holds (.own (pa who) (gq Z T (st i 0) (cdZ Z (st i 2) (st i 3)) (cdZ Z (st i 2) (st i 3)).length who).length (pc who) 3 1 (iL (gq Z T (st i 0) (cdZ Z (st i 2) (st i 3)) (cdZ Z (st i 2) (st i 3)).length who))) (by simp))))
    | exact max_got (t := sumHi Z T (st i)) hsl.symm (by omega) (by omega) (by rw [hse]; exact sum_hi hok htr hbd.2.1) (OwnR.rdr (hw.holds (.own Sm (cdZ Z (st i 2) (st i 3)).length cS 3 1 (iL (sumQ Z T (st i 0) (cdZ Z (st i 2) (st i 3)) (cdZ Z (st i 2) (st i 3)).length))) (by simp)))) ?_
 refine TL.p Pu.as ?_
 refine TL.nil ?_
 refine TQ.thenN (hY26 _ _ _ ?_)
 refine TW.seqD fun Y27 hY27 => ?_
 refine TW.region ?_
 refine TL.p Pu.mv ?_
 refine TL.p Pu.gt ?_
 refine TL.nil ?_
 refine TQ.thenN (hY27 _ _ _ ?_)
 refine TW.cond rfl (fun hc3 => ?_) (fun hc3 => ?_)
 try simp only [zcb9] at hc3
 have hstep : tolI (i : Int) (trbLo Z T (st i)) (trbHi Z T (st i)) (who + 1) = M ++ [((i : Int), (who : Int), trbLo Z T (st i) who, trbHi Z T (st i) who)] := by
  rw [hM9.out]; simp only [tolI]; rw [if_pos hc3]
 have hlen9 : m + 1 = (tolI (i : Int) (trbLo Z T (st i)) (trbHi Z T (st i)) (who + 1)).length := by rw [hstep, List.length_append, ← hm]; rfl
 refine TW.region ?_
 refine TL.p Pu.mv ?_
 refine TL.p Pu.mv ?_
 refine TL.p Pu.mv ?_
 refine TL.p Pu.mv ?_
 refine TL.p Pu.mv ?_
 refine TL.cr rfl (enters Tryz.func124 rfl rfl) (fun w hw => by
   first
    | exact lst_got hgm.out (by omega) (trb_lo hok htr hbd.2.1) (OwnR.rdr (hw.holds (.own A14 ((gq Z T (st i 0) (cdZ Z (st i 2) (st i 3)) (cdZ Z (st i 2) (st i 3)).length who).length + 1) c14 3 1 (iL (gotZ Z T (st i) who))) (by simp)))
    | exact lst_got hgm.out (by omega) (trb_lo hok htr hbd.2.1) (by rw [← hgot.out]; exact (OwnR.rdr (hw.holds (.own (pa who) (gq Z T (st i 0) (cdZ Z (st i 2) (st i 3)) (cdZ Z (st i 2) (st i 3)).length who).length (pc who) 3 1 (iL (gq Z T (st i 0) (cdZ Z (st i 2) (st i 3)) (cdZ Z (st i 2) (st i 3)).length who))) (by simp))))) ?_
 refine TL.p Pu.mv ?_
 refine TL.p Pu.bd ?_
 refine TL.p Pu.bd ?_
 refine TL.m Mk.bl ?_
 intro b17
 first | refine TL.a0 ty_et65 ?_ | refine TL.ap ty_et65 ?_
 intro A18 c18
 refine TL.p Pu.as ?_
 refine TL.nil ?_
 refine TQ.blkN ?_
 refine TQ.thenN (hY19 _ _ _ ?_)
 refine TW.region ?_
 refine TL.p Pu.ad ?_
 refine TL.p Pu.mv ?_
 refine TL.nil ?_
 refine TQ.thenN (hZ0 (who + 1) _ _ (tolI (i : Int) (trbLo Z T (st i)) (trbHi Z T (st i)) (who + 1)) _ _ _ ?_ ?_ fs9 ?_)
 exact ⟨by omega, rfl, hlen9⟩
 exact zom9
 rw [show 8 - (who + 1) = 7 - who by omega]
 first
  | exact KSub.own Pick.hd (rowsT_app hm hstep rfl) ks9
  | exact KSub.own pk9 (fun i _ => by rw [hstep]) ks9
 try simp only [zcb9] at hc3
 have hstep : tolI (i : Int) (trbLo Z T (st i)) (trbHi Z T (st i)) (who + 1) = M := by
  rw [hM9.out]; simp only [tolI]; rw [if_neg (by omega)]
 have hlen9 : m = (tolI (i : Int) (trbLo Z T (st i)) (trbHi Z T (st i)) (who + 1)).length := by rw [hstep, ← hm]
 refine TW.skip ?_
 refine TQ.blkN ?_
 refine TQ.thenN (hY19 _ _ _ ?_)
 refine TW.region ?_
 refine TL.p Pu.ad ?_
 refine TL.p Pu.mv ?_
 refine TL.nil ?_
 refine TQ.thenN (hZ0 (who + 1) _ _ (tolI (i : Int) (trbLo Z T (st i)) (trbHi Z T (st i)) (who + 1)) _ _ _ ?_ ?_ fs9 ?_)
 exact ⟨by omega, rfl, hlen9⟩
 exact zom9
 rw [show 8 - (who + 1) = 7 - who by omega]
 first
  | exact KSub.own Pick.hd (rowsT_app hm hstep rfl) ks9
  | exact KSub.own pk9 (fun i _ => by rw [hstep]) ks9
 try simp only [zcb9] at hc1
 obtain rfl : who = 8 := by omega
 refine TW.exit ?_
 refine TQ.thenX ?_
 refine TQ.thenX ?_
 refine TQ.blkX ?_
 refine TQ.thenN (hY15 _ _ _ ?_)
 refine TW.seqD fun Y28 hY28 => ?_
 refine TW.np ?_
 refine TW.dw 7 ?_
 refine RK.tk Pu.mv ?_
 refine RK.tk (Pu.ld ty_sc31) ?_
 refine RK.keep ?_
 refine RK.tk (Pu.ld ty_sc31) ?_
 refine RK.keep ?_
 refine RK.keep ?_
 refine RK.keep ?_
 refine RK.ch [false, false, true, true] ?_ trivial
 refine WK.cr rfl (enters Tryz.func125 rfl rfl) (fun w hw => by
   exact min_got (t := sumLo Z T (st i)) hsl.symm (by omega) (by omega) (by rw [hse]; exact sum_lo hbd.2.1) (OwnR.rdr (hw.holds (.own Sm (cdZ Z (st i 2) (st i 3)).length cS 3 1 (iL (sumQ Z T (st i 0) (cdZ Z (st i 2) (st i 3)) (cdZ Z (st i 2) (st i 3)).length))) (by simp)))) ?_
 refine WK.cr rfl (enters Tryz.func123 rfl rfl) (fun w hw => by
   first
    | exact max_got hgm.out hgn (by omega) (trb_hi hok htr hbd.2.1) (OwnR.rdr (hw.holds (.own A14 ((gq Z T (st i 0) (cdZ Z (st i 2) (st i 3)) (cdZ Z (st i 2) (st i 3)).length who).length + 1) c14 3 1 (iL (gotZ Z T (st i) who))) (by simp)))
    | exact max_got hgm.out hgn (by omega) (trb_hi hok htr hbd.2.1) (by rw [← hgot.out]; exact (OwnR.rdr (hw.holds (.own (pa who) (gq Z T (st i 0) (cdZ Z (st i 2) (st i 3)) (cdZ Z (st i 2) (st i 3)).length who).length (pc who) 3 1 (iL (gq Z T (st i 0) (cdZ Z (st i 2) (st i 3)) (cdZ Z (st i 2) (st i 3)).length who))) (by simp))))
    | exact max_got (t := sumHi Z T (st i)) hsl.symm (by omega) (by omega) (by rw [hse]; exact sum_hi hok htr hbd.2.1) (OwnR.rdr (hw.holds (.own Sm (cdZ Z (st i 2) (st i 3)).length cS 3 1 (iL (sumQ Z T (st i 0) (cdZ Z (st i 2) (st i 3)) (cdZ Z (st i 2) (st i 3)).length))) (by simp)))) ?_
 refine WK.p Pu.bd ?_
 refine WK.p Pu.as ?_
 refine WK.n ?_
 first | refine TL.st ty_sz36 ?_ | refine TL.se ty_sz36 ?_
 refine TL.nil ?_
 refine TQ.npN ?_
 refine TQ.thenN (hY28 _ _ _ ?_)
 refine TW.ret ?_
 refine TQ.retM Tryz.results75 pk9 ((.tmp rfl (RV.cs ty_ag36 .nil))) ?_
 have hM := hM9.out
 subst hM
 subst hm
 exact fun w hw => ⟨(E, ce), rfl, hw.sub (KSub.cons pk9 KSub.nil)⟩
 intro _ x; exact x.elim
end
end Go.Proofs.YtfaenhhgkhcghaaGreatDoor
