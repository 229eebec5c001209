/-
  Part 13 of the proof of tollWays_holds: declarations of several texts, in build order. No condition on a program.
-/
import Derived.Test.YtmonkjnfjgidbaaGreatDoorWp12
import Derived.Test.YtmonkjnfjgidbaaGreatDoorWp09
import Derived.Test.YtmonkjnfjgidbaaGreatDoorWp07
namespace Go.Proofs.YtmonkjnfjgidbaaGreatDoor
set_option linter.all false
set_option linter.unusedVariables false
set_option linter.unusedSimpArgs false
open Go.RowKit
def payB (Z : Cus) (T : Trp) (leg t : Int) : Bool := decide (0 ≤ holZ Z leg t) && !hasB T.v T.nv ((hclO Z leg t).1 1)
def isW (Z : Cus) (T : Trp) (leg : Int) (s : Nat) (t : Int) : Bool := payB Z T leg t && decide ((hclO Z leg t).1 1 = s)
theorem payB_no {Z : Cus} {T : Trp} {leg t : Int} (h : payB Z T leg t = false) : payZ Z T leg t = 0 := by
  unfold payB at h
  unfold payZ
  split
  · next hh =>
    rw [decide_eq_true hh, Bool.true_and, Bool.not_eq_false'] at h
    unfold hclO at h
    rw [if_pos hh] at h
    exact if_pos h
  · rfl
theorem onT_onW {Z : Cus} {T : Trp} {leg : Int} {s : Nat} (t : Int) : onT Z T leg s t = onW (isW Z T leg s) (payZ Z T leg) t := by
  unfold onT onW isW
  cases hb : payB Z T leg t with
  | false =>
    rw [payB_no hb]
    simp
  | true =>
    have hh : 0 ≤ holZ Z leg t := by
      unfold payB at hb
      rw [Bool.and_eq_true, decide_eq_true_eq] at hb
      exact hb.1
    have e : whoZ Z leg t = (hclO Z leg t).1 1 := by unfold whoZ hclO; rw [if_pos hh, if_pos hh]
    rw [e, Bool.true_and]
    by_cases e2 : (hclO Z leg t).1 1 = (s : Int)
    · rw [if_pos e2, if_pos (decide_eq_true e2)]
    · rw [if_neg e2, if_neg (by simpa using e2)]
def gq (Z : Cus) (T : Trp) (leg : Int) (D : List Int) (q s : Nat) : List Int := gtL (isW Z T leg s) (payZ Z T leg) (D.take q)
theorem gq_yes {Z : Cus} {T : Trp} {leg : Int} {D : List Int} {q s : Nat} (hq : q < D.length) (h : isW Z T leg s (D.getD q 0) = true) : gq Z T leg D (q + 1) s = gq Z T leg D q s ++ [payZ Z T leg (D.getD q 0)] := by
  unfold gq gtL
  rw [filter_takeT hq, if_pos h, List.map_append]
  rfl
theorem gq_no {Z : Cus} {T : Trp} {leg : Int} {D : List Int} {q s : Nat} (hq : q < D.length) (h : isW Z T leg s (D.getD q 0) = false) : gq Z T leg D (q + 1) s = gq Z T leg D q s := by
  unfold gq gtL
  rw [filter_takeT hq, if_neg (by rw [h]; simp)]
theorem gq_len {Z : Cus} {T : Trp} {leg : Int} {D : List Int} {q s : Nat} : (gq Z T leg D q s).length ≤ D.length := by
  unfold gq gtL
  rw [List.length_map]
  exact Nat.le_trans (List.length_filter_le _ _) (by rw [List.length_take]; omega)
def sumQ (Z : Cus) (T : Trp) (leg : Int) (D : List Int) (q : Nat) : List Int := (D.take q).map (payZ Z T leg)
theorem sumQ_s {Z : Cus} {T : Trp} {leg : Int} {D : List Int} {q : Nat} (hq : q < D.length) : sumQ Z T leg D (q + 1) = sumQ Z T leg D q ++ [payZ Z T leg (D.getD q 0)] := by
  unfold sumQ
  rw [take_succ hq, List.map_append]
  rfl
theorem sumQ_len {Z : Cus} {T : Trp} {leg : Int} {D : List Int} {q : Nat} (hq : q ≤ D.length) : (sumQ Z T leg D q).length = q := by
  unfold sumQ
  rw [List.length_map, List.length_take]
  omega
theorem mnF_spec {v : Nat → Int} : ∀ k, (∃ j, j ≤ k ∧ v j = mnF v k) ∧ ∀ j, j ≤ k → mnF v k ≤ v j
  | 0 => ⟨⟨0, Nat.le_refl _, rfl⟩, fun j hj => by have e : j = 0 := Nat.le_zero.1 hj; rw [e]; exact Int.le_refl _⟩
  | k + 1 => by
    obtain ⟨⟨j, hj, e⟩, h⟩ := mnF_spec (v := v) k
    simp only [mnF]
    refine ⟨?_, fun i hi => ?_⟩
    · by_cases h2 : mnF v k ≤ v (k + 1)
      · exact ⟨j, by omega, by omega⟩
      · exact ⟨k + 1, Nat.le_refl _, by omega⟩
    · by_cases e2 : i = k + 1
      · subst e2; omega
      · have := h i (by omega); omega
theorem mxF_spec {v : Nat → Int} : ∀ k, (∃ j, j ≤ k ∧ v j = mxF v k) ∧ ∀ j, j ≤ k → v j ≤ mxF v k
  | 0 => ⟨⟨0, Nat.le_refl _, rfl⟩, fun j hj => by have e : j = 0 := Nat.le_zero.1 hj; rw [e]; exact Int.le_refl _⟩
  | k + 1 => by
    obtain ⟨⟨j, hj, e⟩, h⟩ := mxF_spec (v := v) k
    simp only [mxF]
    refine ⟨?_, fun i hi => ?_⟩
    · by_cases h2 : v (k + 1) ≤ mxF v k
      · exact ⟨j, by omega, by omega⟩
      · exact ⟨k + 1, Nat.le_refl _, by omega⟩
    · by_cases e2 : i = k + 1
      · subst e2; omega
      · have := h i (by omega); omega
theorem mx0_mxF {v : Nat → Int} (hv : ∀ j, 0 ≤ v j) : ∀ k, mx0 v (k + 1) = mxF v k
  | 0 => by have := hv 0; simp only [mx0, mxF]; omega
  | k + 1 => by
    have := mx0_mxF hv k
    simp only [mx0, mxF] at this ⊢
    rw [this]
theorem lstF_spec {a : Int} {v : Nat → Int} : ∀ k, (lstF a v k = a ∨ ∃ j, j < k ∧ v j = lstF a v k) ∧ lstF a v k ≤ a ∧ ∀ j, j < k → lstF a v k ≤ v j
  | 0 => ⟨.inl rfl, Int.le_refl _, fun j hj => by omega⟩
  | k + 1 => by
    obtain ⟨h1, h2, h3⟩ := lstF_spec (a := a) (v := v) k
    simp only [lstF]
    refine ⟨?_, by omega, fun i hi => ?_⟩
    · by_cases h4 : lstF a v k ≤ v k
      · rcases h1 with h1 | ⟨j, hj, e⟩
        · exact .inl (by omega)
        · exact .inr ⟨j, by omega, by omega⟩
      · exact .inr ⟨k, by omega, by omega⟩
    · by_cases e2 : i = k
      · subst e2; omega
      · have := h3 i (by omega); omega
theorem mem_at {L : List Int} {x : Int} (h : x ∈ L) : ∃ j, j < L.length ∧ L.getD j 0 = x := by
  obtain ⟨j, hj, e⟩ := List.mem_iff_getElem.1 h
  exact ⟨j, hj, by simp [List.getD_eq_getElem?_getD, hj, e]⟩
theorem mn_lst {L : List Int} (h : 0 < L.length) : Lst1 L (mnF (fun k => L.getD k 0) (L.length - 1)) := by
  obtain ⟨⟨j, hj, e⟩, h2⟩ := mnF_spec (v := fun k => L.getD k 0) (L.length - 1)
  refine ⟨by rw [← e]; exact mem_getD (by omega), fun t ht => ?_⟩
  obtain ⟨i, hi, e2⟩ := mem_at ht
  rw [← e2]
  exact h2 i (by omega)
theorem mx_mst {L : List Int} (h : 0 < L.length) : Mst1 L (mxF (fun k => L.getD k 0) (L.length - 1)) := by
  obtain ⟨⟨j, hj, e⟩, h2⟩ := mxF_spec (v := fun k => L.getD k 0) (L.length - 1)
  refine ⟨by rw [← e]; exact mem_getD (by omega), fun t ht => ?_⟩
  obtain ⟨i, hi, e2⟩ := mem_at ht
  rw [← e2]
  exact h2 i (by omega)
theorem ls_lst {L : List Int} {a : Int} (h : a ∈ L) : Lst1 L (lstF a (fun k => L.getD k 0) L.length) := by
  obtain ⟨h1, h2, h3⟩ := lstF_spec (a := a) (v := fun k => L.getD k 0) L.length
  refine ⟨?_, fun t ht => ?_⟩
  · rcases h1 with h1 | ⟨j, hj, e⟩
    · rw [h1]; exact h
    · rw [← e]; exact mem_getD hj
  · obtain ⟨i, hi, e2⟩ := mem_at ht
    rw [← e2]
    exact h3 i hi
theorem map_at {D : List Int} {f : Int → Int} {j : Nat} (h : j < D.length) : f (D.getD j 0) = (D.map f).getD j 0 := by
  simp [List.getD_eq_getElem?_getD, h]
theorem mnF_congr {v u : Nat → Int} : ∀ k, (∀ j, j ≤ k → v j = u j) → mnF v k = mnF u k
  | 0, h => h 0 (Nat.le_refl _)
  | k + 1, h => by simp only [mnF]; rw [mnF_congr k fun j hj => h j (by omega), h (k + 1) (Nat.le_refl _)]
theorem mxF_congr {v u : Nat → Int} : ∀ k, (∀ j, j ≤ k → v j = u j) → mxF v k = mxF u k
  | 0, h => h 0 (Nat.le_refl _)
  | k + 1, h => by simp only [mxF]; rw [mxF_congr k fun j hj => h j (by omega), h (k + 1) (Nat.le_refl _)]
theorem dLo_lst {D : List Int} {f : Int → Int} (h : 0 < D.length) : Lst1 (D.map f) (dLo f D) := by
  have e : dLo f D = mnF (fun k => (D.map f).getD k 0) ((D.map f).length - 1) := by
    unfold dLo
    obtain ⟨n, hn⟩ : ∃ n, D.length = n + 1 := ⟨D.length - 1, by omega⟩
    rw [List.length_map, hn]
    exact mnF_congr n fun j hj => map_at (by omega)
  rw [e]
  exact mn_lst (by rw [List.length_map]; exact h)
theorem dHi_mst {D : List Int} {f : Int → Int} (hf : ∀ t, 0 ≤ f t) (h : 0 < D.length) : Mst1 (D.map f) (dHi f D) := by
  have e : dHi f D = mxF (fun k => (D.map f).getD k 0) ((D.map f).length - 1) := by
    unfold dHi
    obtain ⟨n, hn⟩ : ∃ n, D.length = n + 1 := ⟨D.length - 1, by omega⟩
    rw [List.length_map, hn, mx0_mxF (fun j => hf _)]
    exact mxF_congr n fun j hj => map_at (by omega)
  rw [e]
  exact mx_mst (by rw [List.length_map]; exact h)
theorem map_mem {D M : List Int} {f g : Int → Int} (h : ∀ t, t ∈ D ↔ t ∈ M) (e : ∀ t, f t = g t) (x : Int) : x ∈ D.map f ↔ x ∈ M.map g := by
  simp only [List.mem_map, h, e]
section
variable {Z : Cus} {T : Trp} {s : Nat → Int}
theorem cd_lo (h : s 2 ≤ s 3) : 0 < (cdZ Z (s 2) (s 3)).length := by
  have : s 2 ∈ cdZ Z (s 2) (s 3) := cdZ_mem.1 ((tu_cd).2 (cd_mem.2 ⟨inB_iff.2 ⟨Int.le_refl _, h⟩, rul_lo⟩))
  exact List.length_pos_of_mem this
theorem tu_lo (h : s 2 ≤ s 3) : 0 < (tuD Z (s 2) (s 3)).length := by
  have : s 2 ∈ tuD Z (s 2) (s 3) := (tu_cd).2 (cd_mem.2 ⟨inB_iff.2 ⟨Int.le_refl _, h⟩, rul_lo⟩)
  exact List.length_pos_of_mem this
theorem sum_lo (h : s 2 ≤ s 3) : mnF (fun k => ((cdZ Z (s 2) (s 3)).map (payZ Z T (s 0))).getD k 0) (((cdZ Z (s 2) (s 3)).map (payZ Z T (s 0))).length - 1) = sumLo Z T s :=
  Lst1.eq (map_mem (fun t => cdZ_mem.symm) fun _ => rfl) (mn_lst (by rw [List.length_map]; exact cd_lo h)) (dLo_lst (tu_lo h))
theorem sum_hi (hok : CusOk Z) (ht : trpOk T = true) (h : s 2 ≤ s 3) : mxF (fun k => ((cdZ Z (s 2) (s 3)).map (payZ Z T (s 0))).getD k 0) (((cdZ Z (s 2) (s 3)).map (payZ Z T (s 0))).length - 1) = sumHi Z T s :=
  Mst1.eq (map_mem (fun t => cdZ_mem.symm) fun _ => rfl) (mx_mst (by rw [List.length_map]; exact cd_lo h)) (dHi_mst (fun t => (payZ_bd hok ht).1) (tu_lo h))
def gotZ (Z : Cus) (T : Trp) (s : Nat → Int) (q : Nat) : List Int := gotL (isW Z T (s 0) q) (payZ Z T (s 0)) (cdZ Z (s 2) (s 3))
theorem gotZ_mem {q : Nat} (x : Int) : x ∈ gotZ Z T s q ↔ x ∈ (tuD Z (s 2) (s 3)).map (onT Z T (s 0) q) := by
  unfold gotZ
  rw [got_mem]
  exact map_mem (fun t => cdZ_mem.symm) (fun t => (onT_onW t).symm) x
theorem gotZ_pos {q : Nat} (h : s 2 ≤ s 3) : 0 < (gotZ Z T s q).length := by
  have h1 := tu_lo (Z := Z) h
  obtain ⟨t, ht⟩ := List.exists_mem_of_length_pos h1
  have : onT Z T (s 0) q t ∈ gotZ Z T s q := (gotZ_mem _).2 (List.mem_map_of_mem ht)
  exact List.length_pos_of_mem this
theorem trb_hi {q : Nat} (hok : CusOk Z) (ht : trpOk T = true) (h : s 2 ≤ s 3) : mxF (fun k => (gotZ Z T s q).getD k 0) ((gotZ Z T s q).length - 1) = trbHi Z T s q :=
  Mst1.eq gotZ_mem (mx_mst (gotZ_pos h)) (dHi_mst (fun t => (onT_bd hok ht).1) (tu_lo h))
theorem trb_lo {q : Nat} (hok : CusOk Z) (ht : trpOk T = true) (h : s 2 ≤ s 3) : lstF (trbHi Z T s q) (fun k => (gotZ Z T s q).getD k 0) (gotZ Z T s q).length = trbLo Z T s q := by
  have hm : trbHi Z T s q ∈ gotZ Z T s q := by
    rw [← trb_hi hok ht h]
    exact (mx_mst (gotZ_pos h)).1
  exact Lst1.eq gotZ_mem (ls_lst hm) (dLo_lst (tu_lo h))
theorem gotZ_yes {q : Nat} (h : (gq Z T (s 0) (cdZ Z (s 2) (s 3)) (cdZ Z (s 2) (s 3)).length q).length < (cdZ Z (s 2) (s 3)).length) : gq Z T (s 0) (cdZ Z (s 2) (s 3)) (cdZ Z (s 2) (s 3)).length q ++ [0] = gotZ Z T s q := by
  unfold gq at h ⊢
  rw [List.take_length] at h ⊢
  exact (if_pos h).symm
theorem gotZ_no {q : Nat} (h : ¬ (gq Z T (s 0) (cdZ Z (s 2) (s 3)) (cdZ Z (s 2) (s 3)).length q).length < (cdZ Z (s 2) (s 3)).length) : gq Z T (s 0) (cdZ Z (s 2) (s 3)) (cdZ Z (s 2) (s 3)).length q = gotZ Z T s q := by
  unfold gq at h ⊢
  rw [List.take_length] at h ⊢
  exact (if_neg h).symm
end
theorem max_got {A : Option Addr} {n cp : Nat} {L : List Int} {t : Int} {w : World} (hn : n = L.length) (h0 : 0 < L.length) (hm : n ≤ 1000000) (e : mxF (fun k => L.getD k 0) (L.length - 1) = t) (hR : RdR w 1 A n (iL L)) :
    Calls Tryz.prog 146 #[.slice A n cp] w (Ret w (.int .i64 t)) := by
  subst e hn
  exact slMax_any h0 hm hR
theorem min_got {A : Option Addr} {n cp : Nat} {L : List Int} {t : Int} {w : World} (hn : n = L.length) (h0 : 0 < L.length) (hm : n ≤ 1000000) (e : mnF (fun k => L.getD k 0) (L.length - 1) = t) (hR : RdR w 1 A n (iL L)) :
    Calls Tryz.prog 148 #[.slice A n cp] w (Ret w (.int .i64 t)) := by
  subst e hn
  exact slMin_any h0 hm hR
theorem lst_got {A : Option Addr} {n cp : Nat} {L : List Int} {a t : Int} {w : World} (hn : n = L.length) (hm : n ≤ 1000000) (e : lstF a (fun k => L.getD k 0) L.length = t) (hR : RdR w 1 A n (iL L)) :
    Calls Tryz.prog 147 #[.int .i64 a, .slice A n cp] w (Ret w (.int .i64 t)) := by
  subst e hn
  exact leastI_any a hm hR
theorem hclO_pay {Z : Cus} (hok : CusOk Z) {leg day : Int} : 0 ≤ (hclO Z leg day).1 4 ∧ (hclO Z leg day).1 4 ≤ 1000000 ∧ 0 ≤ (hclO Z leg day).1 5 ∧ (hclO Z leg day).1 5 ≤ 1000 := by
  unfold hclO
  split
  · have hol := hol_bd (Z := Z) (leg := leg) (day := day)
    have := hok.c (holZ Z leg day).toNat (by omega)
    unfold hclZ
    omega
  · exact ⟨Int.le_refl _, by decide, Int.le_refl _, by decide⟩
theorem pay_eq {Z : Cus} {T : Trp} {leg t : Int} (h : payB Z T leg t = true) : (hclO Z leg t).1 4 * T.hd + ((hclO Z leg t).1 5 * T.wo + 1000 - 1) / 1000 = payZ Z T leg t := by
  unfold payB at h
  rw [Bool.and_eq_true, decide_eq_true_eq, Bool.not_eq_true'] at h
  obtain ⟨h1, h2⟩ := h
  unfold hclO at h2 ⊢
  rw [if_pos h1] at h2 ⊢
  unfold payZ
  rw [if_pos h1, if_neg (by rw [h2]; simp)]
  congr 2
  omega
def dueP (Z : Cus) (T : Trp) (leg : Int) (D : List Int) (q : Nat) (mp : List (Int × Value)) (a : Nat → Option Addr) (c : Nat → Nat) : Prop :=
  ∀ s : Nat, s < 8 → (mlook (s : Int) mp).getD (.slice none 0 0) = .slice (a s) (gq Z T leg D q s).length (c s)
theorem dueP_0 {Z : Cus} {T : Trp} {leg : Int} {D : List Int} : dueP Z T leg D 0 [] (fun _ => none) (fun _ => 0) := fun s _ => rfl
theorem dueP_no {Z : Cus} {T : Trp} {leg : Int} {D : List Int} {q : Nat} {mp : List (Int × Value)} {a : Nat → Option Addr} {c : Nat → Nat} (hq : q < D.length) (h : payB Z T leg (D.getD q 0) = false) (hP : dueP Z T leg D q mp a c) : dueP Z T leg D (q + 1) mp a c := fun s hs => by
  rw [hP s hs, gq_no hq (by unfold isW; rw [h]; rfl)]
theorem isW_ne {Z : Cus} {T : Trp} {leg t : Int} {s : Nat} (h : (hclO Z leg t).1 1 ≠ s) : isW Z T leg s t = false := by
  unfold isW
  rw [decide_eq_false h, Bool.and_false]
theorem dueP_yes {Z : Cus} {T : Trp} {leg : Int} {D : List Int} {q s0 : Nat} {mp : List (Int × Value)} {a : Nat → Option Addr} {c : Nat → Nat} {A9 : Option Addr} {c9 : Nat} (hq : q < D.length) (h : payB Z T leg (D.getD q 0) = true) (hs : (hclO Z leg (D.getD q 0)).1 1 = s0) (hP : dueP Z T leg D q mp a c) :
    dueP Z T leg D (q + 1) (mput ((hclO Z leg (D.getD q 0)).1 1) (.slice A9 ((gq Z T leg D q s0).length + 1) c9) mp) (updA a s0 A9) (updA c s0 c9) := fun s h8 => by
  rw [look_put, hs]
  by_cases e : s = s0
  · subst e
    rw [if_pos rfl, gq_yes hq (by unfold isW; rw [h, decide_eq_true hs]; rfl), List.length_append]
    simp [updA]
  · rw [if_neg (by omega), hP s h8, gq_no hq (isW_ne (by rw [hs]; omega))]
    simp [updA, e]
end Go.Proofs.YtmonkjnfjgidbaaGreatDoor
namespace Go.Proofs.YtmonkjnfjgidbaaGreatDoor
set_option linter.all false
set_option linter.unusedVariables false
set_option linter.unusedSimpArgs false
open Go.RowKit
section
variable {Z : Cus} {T : Trp} {C D B O U V S : Option Addr} {cc cd cb co cu cv n cs bt : Nat} {st : Nat → Nat → Int} {w : World}
set_option maxRecDepth 100000 in
set_option maxHeartbeats 8000000 in
theorem cDue_any (i : Nat) (hi : i < n) (hok : CusOk Z) (htr : trpOk T = true) (h : CustIn w C Z.nc D Z.nd B Z.nb Z.c Z.d Z.b) (t : TrpIn w T O U V) (sI : StpIn w n st S) (ht : OldB w bt (trkL T O co U cu V cv Z C cc D cd B cb S n cs)) :
    CallsK Tryz.prog 97 #[.pointer (some ⟨bt, 0, none⟩), .int .i64 (i : Int)] [] w (Option Addr × Nat) (fun y => .tuple #[.slice y.1 (tolI (i : Int) (trbLo Z T (st i)) (trbHi Z T (st i)) 8).length y.2, .agg #[.int .i64 (sumLo Z T (st i)), .int .i64 (sumHi Z T (st i))]]) (fun y => [.own y.1 (tolI (i : Int) (trbLo Z T (st i)) (trbHi Z T (st i)) 8).length y.2 78 4 (rowsT (tolI (i : Int) (trbLo Z T (st i)) (trbHi Z T (st i)) 8))]) := by
  have ht9 := ht
  have hRS := sI.hR
  have hn := sI.hn
  have hbd := sI.bd i hi
  have hRV := t.hV
  have hnv := t.hnv
  have hlen := cdA_len (lo := st i 2) hok.nc hok.nd hok.nb
  have hcl : (cdZ Z (st i 2) (st i 3)).length ≤ 6001 := Nat.le_trans (List.length_filter_le _ _) hlen
  have htr9 := htr
  unfold trpOk inB5 at htr9
  simp only [Bool.and_eq_true, decide_eq_true_eq] at htr9
  obtain ⟨⟨⟨⟨⟨h10, h11⟩, h12, h13⟩, _⟩, _⟩, _⟩ := htr9
  have fC := fun (w' : World) => cChanges_any (w := w') (C := C) (cc := cc) (D := D) (cd := cd) (B := B) (cb := cb) (Z := Z) (st i 2) (st i 3)
  unfold custL at fC
  unfold trkL at ht
  refine K_enterM (S := []) (K := []) Tryz.func97 rfl Tryz.ntmps97 rfl (Sat.start _) ?_
  refine TW.seqD fun Y1 hY1 => ?_
  refine TW.region ?_
  refine TL.m Mk.bx ?_
  intro b1
  refine TL.p Pu.as ?_
  refine TL.m (Mk.al ty_zr35) ?_
  intro b2
  refine TL.nil ?_
  refine TQ.thenN (hY1 _ _ _ ?_)
  refine TW.seqD fun Y2 hY2 => ?_
  refine TW.region ?_
  refine TL.p (Pu.ld ty_sc124) ?_
  refine TL.p (by first | exact Pu.nn | exact Pu.nc) ?_
  refine TL.p (by first | exact Pu.fb ty_fa180_2 | exact Pu.fe ty_fa180_2) ?_
  refine TL.p (Pu.ldo ty_sc58) ?_
  refine TL.p Pu.mv ?_
  refine TL.p (Pu.el ty_et58) ?_
  refine TL.p (Pu.lds ty_ag62) ?_
  refine TL.m (Mk.al ty_zr62) ?_
  intro b3
  first | refine TL.st ty_sz62 ?_ | refine TL.se ty_sz62 ?_
  refine TL.nil ?_
  refine TQ.thenN (hY2 _ _ _ ?_)
  refine TW.seqD fun Y3 hY3 => ?_
  refine TW.region ?_
  refine TL.mm (kk := .i64) ?_
  intro b4
  refine TL.m (Mk.al ty_zr221) ?_
  intro b5
  first | refine TL.st ty_sz221 ?_ | refine TL.se ty_sz221 ?_
  refine TL.nil ?_
  refine TQ.thenN (hY3 _ _ _ ?_)
  refine TW.seqD fun Y4 hY4 => ?_
  refine TW.region ?_
  refine TL.m (Mk.al ty_zr31) ?_
  intro b6
  refine TL.nil ?_
  refine TQ.thenN (hY4 _ _ _ ?_)
  refine TW.seqD fun Y5 hY5 => ?_
  refine TW.region ?_
  refine TL.m (Mk.al ty_zr3) ?_
  intro b7
  first | refine TL.st ty_sz3 ?_ | refine TL.se ty_sz3 ?_
  refine TL.nil ?_
  refine TQ.thenN (hY5 _ _ _ ?_)
  refine TW.seqD fun Y6 hY6 => ?_
  refine TW.seqD fun Y7 hY7 => ?_
  refine TW.np ?_
  refine TW.dw 11 ?_
  refine RK.tk (Pu.ld ty_sc124) ?_
  refine RK.tk (by first | exact Pu.nn | exact Pu.nc) ?_
  refine RK.tk (by first | exact Pu.fb ty_fa180_1 | exact Pu.fe ty_fa180_1) ?_
  refine RK.tk (Pu.ldso ty_ag30) ?_
  refine RK.tk (by first | exact Pu.fb ty_fa62_2 | exact Pu.fe ty_fa62_2) ?_
  refine RK.tk (by first | exact Pu.fb ty_fa35_0 | exact Pu.fe ty_fa35_0) ?_
  refine RK.tk (Pu.ld ty_sc3) ?_
  refine RK.tk (by first | exact Pu.fb ty_fa62_2 | exact Pu.fe ty_fa62_2) ?_
  refine RK.tk (by first | exact Pu.fb ty_fa35_1 | exact Pu.fe ty_fa35_1) ?_
  refine RK.tk (Pu.ld ty_sc3) ?_
  refine RK.keep ?_
  refine RK.ch [false] ?_ trivial
  refine WK.call rfl (enters Tryz.func136 rfl rfl) rfl (fun w hw => by
      exact fC _) ?_
  rintro x
  refine WK.n ?_
  refine TL.nil ?_
  refine TQ.npN ?_
  refine TQ.thenN (hY7 _ _ _ ?_)
  refine TW.block ?_
  refine TW.tied0 (E := 3) (sz := 1) (fun s => iL (gq Z T (st i 0) (cdZ Z (st i 2) (st i 3)) 0 s)) ?_
  refine TW.rangeR (fun (q : Nat) (r : ((Option Addr × Nat) × List (Int × Value)) × (Nat → Option Addr) × (Nat → Nat)) => if propB (dueP Z T (st i 0) (cdZ Z (st i 2) (st i 3)) q r.1.2 r.2.1 r.2.2) = true then .blk b7 3 [.int .i64 (q : Int)] :: .blk b6 31 [.slice r.1.1.1 q r.1.1.2] :: .own r.1.1.1 q r.1.1.2 3 1 (iL (sumQ Z T (st i 0) (cdZ Z (st i 2) (st i 3)) q)) :: .obj b4 (mapO .i64 r.1.2) :: tied (ownsE 3 1 r.2.1 (fun s => (gq Z T (st i 0) (cdZ Z (st i 2) (st i 3)) q s).length) r.2.2 (fun s => iL (gq Z T (st i 0) (cdZ Z (st i 2) (st i 3)) q s)) 8) :: .blk b5 221 [.map (some b4)] :: .blk b1 124 [.pointer (some ⟨bt, 0, none⟩)] :: .blk b3 62 [.int .i64 (st i 0), .int .i64 (st i 1), .int .i64 (st i 2), .int .i64 (st i 3), .int .i64 (st i 4), .int .i64 (st i 5)] :: .blk b2 35 [.int .i64 0, .int .i64 0] :: [] else [badT]) (fun x : Empty => x.elim) (fun x => x.elim) ((((none, 0), []), (fun _ => none), (fun _ => 0))) (fun a b => changes1_iter (C := C) (D := D) (B := B) (cc := cc) (cd := cd) (cb := cb) (Z := Z) (x := x) (lo := st i 2) (hi := st i 3) hok h Apart.nil Apart.nil Apart.nil) ?_ ?_ ?_ ?_ (eg := enters Tryz.func168 rfl rfl)
  rw [if_pos (propB_iff.2 dueP_0)]
  unfold chgM
  exact KSub.cons pk9 (KSub.cons pk9 (KSub.cons pk9 (KSub.cons pk9 (KSub.cons pk9 (KSub.nilOwn (KSub.cons pk9 (KSub.cons pk9 ks9)))))))
  rintro lR DR oR oR1 oR2 q g ⟨⟨⟨Sm, cS⟩, mp⟩, pa, pc⟩ hq ZR0 hZR0
  by_cases hP : propB (dueP Z T (st i 0) (cdZ Z (st i 2) (st i 3)) q mp pa pc) = true
  case neg => exact fun a w hF hK => (no_badT hK (by rw [if_neg hP]; simp)).elim
  simp only [if_pos hP, chgY, List.cons_append, List.nil_append]
  have hP9 := hidT (propB_iff.1 hP)
  clear hP
  have hyb := hclO_bd hok (leg := st i 0) (day := ((cdZ Z (st i 2) (st i 3)).getD q 0))
  have hyp := hclO_pay hok (leg := st i 0) (day := ((cdZ Z (st i 2) (st i 3)).getD q 0))
  obtain ⟨y, hy⟩ : ∃ y, y = hclO Z (st i 0) ((cdZ Z (st i 2) (st i 3)).getD q 0) := ⟨_, rfl⟩
  have fH := fun (w' : World) (h' : CustIn w' C Z.nc D Z.nd B Z.nb Z.c Z.d Z.b) (ht' : OldB w' bt (trkL T O co U cu V cv Z C cc D cd B cb S n cs)) => cHost_any (st i 0) ((cdZ Z (st i 2) (st i 3)).getD q 0) hok h' ht'
  have hpb : payB Z T (st i 0) ((cdZ Z (st i 2) (st i 3)).getD q 0) = (decide (0 ≤ holZ Z (st i 0) ((cdZ Z (st i 2) (st i 3)).getD q 0)) && !hasB T.v T.nv (y.1 1)) := by rw [hy]; rfl
  have hpe : payB Z T (st i 0) ((cdZ Z (st i 2) (st i 3)).getD q 0) = true → y.1 4 * T.hd + (y.1 5 * T.wo + 1000 - 1) / 1000 = payZ Z T (st i 0) ((cdZ Z (st i 2) (st i 3)).getD q 0) := fun h9 => by rw [hy]; exact pay_eq h9
  have hdy : ∀ (s0 : Nat) (A9 : Option Addr) (c9 : Nat), payB Z T (st i 0) ((cdZ Z (st i 2) (st i 3)).getD q 0) = true → y.1 1 = s0 → dueP Z T (st i 0) (cdZ Z (st i 2) (st i 3)) (q + 1) (mput (y.1 1) (.slice A9 ((gq Z T (st i 0) (cdZ Z (st i 2) (st i 3)) q s0).length + 1) c9) mp) (updA pa s0 A9) (updA pc s0 c9) := fun s0 A9 c9 h7 h8 => by rw [hy] at h8 ⊢; exact dueP_yes hq h7 h8 hP9.out
  have hgs : ∀ s0 : Nat, payB Z T (st i 0) ((cdZ Z (st i 2) (st i 3)).getD q 0) = true → y.1 1 = s0 → gq Z T (st i 0) (cdZ Z (st i 2) (st i 3)) (q + 1) s0 = gq Z T (st i 0) (cdZ Z (st i 2) (st i 3)) q s0 ++ [payZ Z T (st i 0) ((cdZ Z (st i 2) (st i 3)).getD q 0)] := fun s0 h7 h8 => gq_yes hq (by unfold isW; rw [h7, ← hy, decide_eq_true h8]; rfl)
  have hgn : ∀ s : Nat, y.1 1 ≠ s → gq Z T (st i 0) (cdZ Z (st i 2) (st i 3)) (q + 1) s = gq Z T (st i 0) (cdZ Z (st i 2) (st i 3)) q s := fun s h8 => gq_no hq (isW_ne (by rw [← hy]; exact h8))
  rw [← hy] at fH hyb hyp
  clear hy
  replace hpb := hidT hpb
  have q1 : 0 ≤ y.1 4 * T.hd ∧ y.1 4 * T.hd ≤ 1000000 * 1000 := ⟨Int.mul_nonneg (by omega) (by omega), Int.mul_le_mul (by omega) h11 (by omega) (by omega)⟩
  have q2 : 0 ≤ y.1 5 * T.wo ∧ y.1 5 * T.wo ≤ 1000 * 1000000000000 := ⟨Int.mul_nonneg (by omega) (by omega), Int.mul_le_mul (by omega) h13 (by omega) (by omega)⟩
  have hql : (sumQ Z T (st i 0) (cdZ Z (st i 2) (st i 3)) q).length = q := sumQ_len (by omega)
  refine TWi.region ?_
  refine TL.p Pu.as ?_
  refine TL.nil ?_
  refine TQ.thenN (hZR0 _ _ _ Pick.hd ?_)
  refine TWi.block ?_
  refine TWi.seq fun Y8 hY8 => ?_
  refine TWi.region ?_
  refine TL.p (Pu.ld ty_sc3) ?_
  refine TL.p Pu.ad ?_
  first | refine TL.st ty_sz3 ?_ | refine TL.se ty_sz3 ?_
  refine TL.nil ?_
  refine TQ.thenN (hY8 _ _ ?_)
  refine TWi.seq fun Y9 hY9 => ?_
  refine TWi.region ?_
  refine TL.p Pu.as ?_
  refine TL.nil ?_
  refine TQ.thenN (hY9 _ _ ?_)
  refine TWi.seq fun Y10 hY10 => ?_
  refine TWi.seq fun Y11 hY11 => ?_
  refine TWi.region ?_
  refine TL.p (Pu.ld ty_sc124) ?_
  refine TL.p (by first | exact Pu.fb ty_fa62_0 | exact Pu.fe ty_fa62_0) ?_
  refine TL.p (Pu.ld ty_sc3) ?_
  refine TL.p Pu.mv ?_
  refine TL.cr rfl (enters Tryz.func144 rfl rfl) (fun w hw => by
      exact fH _ (h.ext (Chg.ext hw.chg)) (ht9.ext (Chg.ext hw.chg))) ?_
  refine TL.p Pu.mv ?_
  refine TL.p Pu.ex ?_
  refine TL.p Pu.ex ?_
  refine TL.m (Mk.al ty_zr71) ?_
  intro b8
  first | refine TL.st ty_sz71 ?_ | refine TL.se ty_sz71 ?_
  refine TL.p Pu.as ?_
  refine TL.nil ?_
  refine TQ.thenN (hY11 _ _ ?_)
  refine TWi.seq fun Y12 hY12 => ?_
  refine TWi.join [(59, .bool (decide (0 ≤ holZ Z (st i 0) ((cdZ Z (st i 2) (st i 3)).getD q 0)) && !hasB T.v T.nv (y.1 1)))] ?_ (fun hJ1 => ?_)
  refine TQ.thenN (hY12 _ _ ?_)
  refine TWi.cond rfl (fun hc0 => ?_) (fun hc0 => ?_)
  try simp only [decide_eq_true_eq, decide_eq_false_iff_not, Bool.not_eq_true', Bool.not_eq_false', Bool.and_eq_true, Bool.or_eq_true, Bool.and_eq_false_iff, Bool.or_eq_false_iff, Int.not_lt, Int.not_le] at hc0
  have hpt : payB Z T (st i 0) ((cdZ Z (st i 2) (st i 3)).getD q 0) = true := by rw [hpb.out, Bool.and_eq_true, decide_eq_true_eq, Bool.not_eq_true']; exact hc0
  have hpv := hidT (hpe hpt)
  have hdv := hdy (y.1 1).toNat
  have hsv := hidT (hgs (y.1 1).toNat hpt (by omega))
  have hs8 : (y.1 1).toNat < 8 := by omega
  have hlk : (mlook (y.1 1) mp).getD (.slice none 0 0) = .slice (pa (y.1 1).toNat) (gq Z T (st i 0) (cdZ Z (st i 2) (st i 3)) q (y.1 1).toNat).length (pc (y.1 1).toNat) := by
    have h9 := hP9.out (y.1 1).toNat hs8
    rwa [Int.toNat_of_nonneg hyb.1] at h9
  have hgl : (gq Z T (st i 0) (cdZ Z (st i 2) (st i 3)) q (y.1 1).toNat).length ≤ 6001 := Nat.le_trans gq_len hcl
  replace hlk := hidT hlk
  refine TWi.seq fun Y13 hY13 => ?_
  refine TWi.dw 21 ?_
  refine RK.tk (by first | exact Pu.fb ty_fa71_4 | exact Pu.fe ty_fa71_4) ?_
  refine RK.tk (Pu.ld ty_sc3) ?_
  refine RK.tk (Pu.ld ty_sc124) ?_
  refine RK.tk (by first | exact Pu.nn | exact Pu.nc) ?_
  refine RK.tk (by first | exact Pu.fb ty_fa180_0 | exact Pu.fe ty_fa180_0) ?_
  refine RK.tk (by first | exact Pu.fb ty_fa33_0 | exact Pu.fe ty_fa33_0) ?_
  refine RK.tk (Pu.ldo ty_sc3) ?_
  refine RK.tk Pu.ml ?_
  refine RK.tk (by first | exact Pu.fb ty_fa71_5 | exact Pu.fe ty_fa71_5) ?_
  refine RK.tk (Pu.ld ty_sc3) ?_
  refine RK.tk (Pu.ld ty_sc124) ?_
  refine RK.tk (by first | exact Pu.nn | exact Pu.nc) ?_
  refine RK.tk (by first | exact Pu.fb ty_fa180_0 | exact Pu.fe ty_fa180_0) ?_
  refine RK.tk (by first | exact Pu.fb ty_fa33_1 | exact Pu.fe ty_fa33_1) ?_
  refine RK.tk (Pu.ldo ty_sc3) ?_
  refine RK.tk Pu.ml ?_
  refine RK.tk Pu.ad ?_
  refine RK.tk Pu.sb ?_
  refine RK.tk Pu.qu ?_
  refine RK.tk Pu.ad ?_
  refine RK.tk Pu.as ?_
  refine RK.ch [] ?_ trivial
  refine WK.n ?_
  refine TL.nil ?_
  refine TQ.thenN (hY13 _ _ ?_)
  refine TWi.expk [.blk b5 221 [.map (some b4)], .blk b8 71 (claimL y)] (fun (⟨x8, A9, c9⟩ : Nat × Option Addr × Nat) => ([(11, .int .i64 (y.1 4 * T.hd + (y.1 5 * T.wo + 1000 - 1) / 1000)), (8, .pointer (some ⟨b6, 0, none⟩))] : Fr)) (fun (⟨x8, A9, c9⟩ : Nat × Option Addr × Nat) => [.obj b4 (mapO .i64 (mput (y.1 1) (.slice A9 ((gq Z T (st i 0) (cdZ Z (st i 2) (st i 3)) q (y.1 1).toNat).length + 1) c9) mp)), tied (ownsE 3 1 (updA pa (y.1 1).toNat A9) (fun s => (gq Z T (st i 0) (cdZ Z (st i 2) (st i 3)) (q + 1) s).length) (updA pc (y.1 1).toNat c9) (fun s => iL (gq Z T (st i 0) (cdZ Z (st i 2) (st i 3)) (q + 1) s)) 8), .blk b7 3 [.int .i64 ((q : Int) + 1)], .blk b6 31 [.slice Sm q cS], .own Sm q cS 3 1 (iL (sumQ Z T (st i 0) (cdZ Z (st i 2) (st i 3)) q)), .blk b5 221 [.map (some b4)], .blk b1 124 [.pointer (some ⟨bt, 0, none⟩)], .blk b3 62 [.int .i64 (st i 0), .int .i64 (st i 1), .int .i64 (st i 2), .int .i64 (st i 3), .int .i64 (st i 4), .int .i64 (st i 5)], .blk b2 35 [.int .i64 0, .int .i64 0], .obj lR oR1, .obj DR oR2, .own g.1 (cdA Z (st i 2)).length g.2 3 1 (iL (cdA Z (st i 2))), .blk x.2.1 3 [.int .i64 (st i 2)], .blk x.2.2 3 [.int .i64 (st i 3)]]) ?_ (fun hE => ?_)
  rintro ⟨x8, A9, c9⟩
  refine TQ.thenN (hY10 _ _ ?_)
  refine TWi.region ?_
  refine TL.p (Pu.ld ty_sc31) ?_
  refine TL.p Pu.mv ?_
  refine TL.m Mk.bl ?_
  intro b9
  first | refine TL.a0 ty_et31 ?_ | refine TL.ap ty_et31 ?_
  intro A10 c10
  first | refine TL.st ty_sz31 ?_ | refine TL.se ty_sz31 ?_
  refine TL.nil ?_
  refine TQ.blkN ?_
  refine TQ.rbN (by first | exact (((A10, c10), mput (y.1 1) (.slice A9 ((gq Z T (st i 0) (cdZ Z (st i 2) (st i 3)) q (y.1 1).toNat).length + 1) c9) mp), updA pa (y.1 1).toNat A9, updA pc (y.1 1).toNat c9) | exact (((A12, c12), mp), pa, pc)) ?_
  first
    | (have hcond := propB_iff.2 (hdv A9 c9 hpt (by omega)); simp only [if_pos hcond, chgY, List.cons_append, List.nil_append]; clear hcond; exact KSub.cons pk9 (KSub.cons pk9 (KSub.cons pk9 (KSub.cons pk9 (KSub.cons pk9 (KSub.valI pk9 (by omega) (KSub.cons pk9 (KSub.own pk9 (iL_app hql.symm (sumQ_s hq) (congrArg (fun z => [Value.int .i64 z]) hpv.out)) (KSub.cons pk9 (KSub.cons pk9 ks9))))))))))
    | (have hcond := propB_iff.2 (dueP_no hq hpt hP9.out); simp only [if_pos hcond, chgY, List.cons_append, List.nil_append]; clear hcond; simp only [show ∀ s, gq Z T (st i 0) (cdZ Z (st i 2) (st i 3)) (q + 1) s = gq Z T (st i 0) (cdZ Z (st i 2) (st i 3)) q s from fun s => gq_no hq (by unfold isW; rw [hpt]; rfl)]; exact KSub.cons pk9 (KSub.cons pk9 (KSub.cons pk9 (KSub.cons pk9 (KSub.cons pk9 (KSub.valI pk9 (by omega) (KSub.cons pk9 (KSub.own pk9 (iL_app hql.symm (sumQ_s hq) (congrArg (fun z => [Value.int .i64 z]) hpz.out.symm)) (KSub.cons pk9 (KSub.cons pk9 ks9))))))))))
  refine RG.tk 0 rfl (Pu.ld ty_sc221) ?_
  refine RG.tk 1 rfl (by first | exact Pu.fb ty_fa71_1 | exact Pu.fe ty_fa71_1) ?_
  refine RG.tk 2 rfl (Pu.ld ty_sc3) ?_
  refine RG.tk 3 rfl (Pu.ld ty_sc221) ?_
  refine RG.tk 4 rfl (by first | exact Pu.fb ty_fa71_1 | exact Pu.fe ty_fa71_1) ?_
  refine RG.tk 5 rfl (Pu.ld ty_sc3) ?_
  refine RG.tk 7 rfl Pu.mv ?_
  refine RG.a2 6 8 rfl rfl (fun X6 hX6 => ?_) (fun X8 hX8 => ?_)
  refine TL.p (Pu.l1V (.slice (pa (y.1 1).toNat) (gq Z T (st i 0) (cdZ Z (st i 2) (st i 3)) q (y.1 1).toNat).length (pc (y.1 1).toNat)) ty_mp221 ty_zv31 hlk.out) ?_
  refine TL.nil ?_
  refine TQ.nxt (hX6 _ _ hl9 ?_)
  refine RG.a1 8 rfl (fun X8 hX8 => ?_)
  refine TL.m Mk.bl ?_
  intro x8
  refine TL.nil ?_
  refine TQ.nxt (hX8 _ _ hl9 ?_)
  refine RG.a1 9 rfl (fun X9 hX9 => ?_)
  refine TL.ownTake (y.1 1).toNat hs8 pk9 ?_
  first | refine TL.a0 ty_et31 ?_ | refine TL.ap ty_et31 ?_
  intro A9 c9
  refine TL.nil ?_
  refine TQ.nxt (hX9 _ _ hl9 ?_)
  refine RG.a1 10 rfl (fun X10 hX10 => ?_)
  refine TL.ownPut (s := (y.1 1).toNat) (A9 := A9) (A2 := updA pa (y.1 1).toNat A9) (l2 := fun s => (gq Z T (st i 0) (cdZ Z (st i 2) (st i 3)) (q + 1) s).length) (c2 := updA pc (y.1 1).toNat c9) (r2 := fun s => iL (gq Z T (st i 0) (cdZ Z (st i 2) (st i 3)) (q + 1) s)) pk9 pk9 hs8 (by simp [updA]) (by show (gq Z T (st i 0) (cdZ Z (st i 2) (st i 3)) (q + 1) (y.1 1).toNat).length = _; rw [hsv.out, List.length_append]; rfl) (by simp [updA]) (fun k hk => iL_app rfl hsv.out (congrArg (fun z => [Value.int .i64 z]) hpv.out) k hk) (fun k hk hne => ⟨by simp [updA, hne], by show _ = (gq Z T (st i 0) (cdZ Z (st i 2) (st i 3)) (q + 1) k).length; rw [hgn k (by omega)], by simp [updA, hne], by show _ = iL (gq Z T (st i 0) (cdZ Z (st i 2) (st i 3)) (q + 1) k); rw [hgn k (by omega)]⟩) ?_
  refine TL.mu ty_mp221 ?_
  refine TL.nil ?_
  refine TQ.nxt (hX10 _ _ hl9 ?_)
  exact RG.nil (TQ.sub fs9 kt9 (hE ⟨x8, A9, c9⟩)) (by kernel_rfl)
  refine TL.m Mk.bl ?_
  intro x8
  refine TL.nil ?_
  refine TQ.nxt (hX8 _ _ hl9 ?_)
  refine RG.a1 6 rfl (fun X6 hX6 => ?_)
  refine TL.p (Pu.l1V (.slice (pa (y.1 1).toNat) (gq Z T (st i 0) (cdZ Z (st i 2) (st i 3)) q (y.1 1).toNat).length (pc (y.1 1).toNat)) ty_mp221 ty_zv31 hlk.out) ?_
  refine TL.nil ?_
  refine TQ.nxt (hX6 _ _ hl9 ?_)
  refine RG.a1 9 rfl (fun X9 hX9 => ?_)
  refine TL.ownTake (y.1 1).toNat hs8 pk9 ?_
  first | refine TL.a0 ty_et31 ?_ | refine TL.ap ty_et31 ?_
  intro A9 c9
  refine TL.nil ?_
  refine TQ.nxt (hX9 _ _ hl9 ?_)
  refine RG.a1 10 rfl (fun X10 hX10 => ?_)
  refine TL.ownPut (s := (y.1 1).toNat) (A9 := A9) (A2 := updA pa (y.1 1).toNat A9) (l2 := fun s => (gq Z T (st i 0) (cdZ Z (st i 2) (st i 3)) (q + 1) s).length) (c2 := updA pc (y.1 1).toNat c9) (r2 := fun s => iL (gq Z T (st i 0) (cdZ Z (st i 2) (st i 3)) (q + 1) s)) pk9 pk9 hs8 (by simp [updA]) (by show (gq Z T (st i 0) (cdZ Z (st i 2) (st i 3)) (q + 1) (y.1 1).toNat).length = _; rw [hsv.out, List.length_append]; rfl) (by simp [updA]) (fun k hk => iL_app rfl hsv.out (congrArg (fun z => [Value.int .i64 z]) hpv.out) k hk) (fun k hk hne => ⟨by simp [updA, hne], by show _ = (gq Z T (st i 0) (cdZ Z (st i 2) (st i 3)) (q + 1) k).length; rw [hgn k (by omega)], by simp [updA, hne], by show _ = iL (gq Z T (st i 0) (cdZ Z (st i 2) (st i 3)) (q + 1) k); rw [hgn k (by omega)]⟩) ?_
  refine TL.mu ty_mp221 ?_
  refine TL.nil ?_
  refine TQ.nxt (hX10 _ _ hl9 ?_)
  exact RG.nil (TQ.sub fs9 kt9 (hE ⟨x8, A9, c9⟩)) (by kernel_rfl)
  try simp only [decide_eq_true_eq, decide_eq_false_iff_not, Bool.not_eq_true', Bool.not_eq_false', Bool.and_eq_true, Bool.or_eq_true, Bool.and_eq_false_iff, Bool.or_eq_false_iff, Int.not_lt, Int.not_le] at hc0
  have hpt : payB Z T (st i 0) ((cdZ Z (st i 2) (st i 3)).getD q 0) = false := by rw [hpb.out, Bool.and_eq_false_iff, decide_eq_false_iff_not, Bool.not_eq_false']; first | exact hc0 | (simpa using hc0)
  have hpz := hidT (payB_no hpt)
  refine TWi.skip ?_
  refine TQ.thenN (hY10 _ _ ?_)
  refine TWi.region ?_
  refine TL.p (Pu.ld ty_sc31) ?_
  refine TL.p Pu.mv ?_
  refine TL.m Mk.bl ?_
  intro b11
  first | refine TL.a0 ty_et31 ?_ | refine TL.ap ty_et31 ?_
  intro A12 c12
  first | refine TL.st ty_sz31 ?_ | refine TL.se ty_sz31 ?_
  refine TL.nil ?_
  refine TQ.blkN ?_
  refine TQ.rbN (by first | exact (((A10, c10), mput (y.1 1) (.slice A9 ((gq Z T (st i 0) (cdZ Z (st i 2) (st i 3)) q (y.1 1).toNat).length + 1) c9) mp), updA pa (y.1 1).toNat A9, updA pc (y.1 1).toNat c9) | exact (((A12, c12), mp), pa, pc)) ?_
  first
    | (have hcond := propB_iff.2 (hdv A9 c9 hpt (by omega)); simp only [if_pos hcond, chgY, List.cons_append, List.nil_append]; clear hcond; exact KSub.cons pk9 (KSub.cons pk9 (KSub.cons pk9 (KSub.cons pk9 (KSub.cons pk9 (KSub.valI pk9 (by omega) (KSub.cons pk9 (KSub.own pk9 (iL_app hql.symm (sumQ_s hq) (congrArg (fun z => [Value.int .i64 z]) hpv.out)) (KSub.cons pk9 (KSub.cons pk9 ks9))))))))))
    | (have hcond := propB_iff.2 (dueP_no hq hpt hP9.out); simp only [if_pos hcond, chgY, List.cons_append, List.nil_append]; clear hcond; simp only [show ∀ s, gq Z T (st i 0) (cdZ Z (st i 2) (st i 3)) (q + 1) s = gq Z T (st i 0) (cdZ Z (st i 2) (st i 3)) q s from fun s => gq_no hq (by unfold isW; rw [hpt]; rfl)]; exact KSub.cons pk9 (KSub.cons pk9 (KSub.cons pk9 (KSub.cons pk9 (KSub.cons pk9 (KSub.valI pk9 (by omega) (KSub.cons pk9 (KSub.own pk9 (iL_app hql.symm (sumQ_s hq) (congrArg (fun z => [Value.int .i64 z]) hpz.out.symm)) (KSub.cons pk9 (KSub.cons pk9 ks9))))))))))
  refine TWi.ex0k [.blk b1 124 [.pointer (some ⟨bt, 0, none⟩)], .blk b8 71 (claimL y)] ?_
  refine RG.tk 0 rfl Pu.mv ?_
  refine RG.tk 1 rfl Pu.mv ?_
  refine RG.guard (t := 49) rfl (fun hg1 => ?_) (fun hg1 => ?_)
  refine RG.tk 2 rfl (Pu.ld ty_sc124) ?_
  refine RG.tk 7 rfl (by first | exact Pu.fb ty_fa71_1 | exact Pu.fe ty_fa71_1) ?_
  refine RG.tk 8 rfl (Pu.ld ty_sc3) ?_
  refine RG.a1 3 rfl (fun X3 hX3 => ?_)
  refine TL.gd (by first | exact Pu.nn | exact Pu.nc) ?_
  refine TL.nil ?_
  refine TQ.nxt (hX3 _ _ hl9 ?_)
  refine RG.tk 4 rfl (by first | exact Pu.fb ty_fa180_0 | exact Pu.fe ty_fa180_0) ?_
  refine RG.tk 5 rfl (by first | exact Pu.fb ty_fa33_4 | exact Pu.fe ty_fa33_4) ?_
  refine RG.tk 6 rfl (Pu.ldo ty_sc31) ?_
  refine RG.a1 9 rfl (fun X9 hX9 => ?_)
  refine TL.cr rfl (enters Tryz.func145 rfl rfl) (fun w hw => by
      exact contains_any (v := T.v) _ (by omega) (hRV.sat hw Apart.nil)) ?_
  refine TL.nil ?_
  refine TQ.nxt (hX9 _ _ hl9 ?_)
  refine RG.tk 10 rfl Pu.no ?_
  refine RG.tk 11 rfl Pu.kt ?_
  refine RG.nil ?_ (by kernel_rfl)
  exact TQ.sub (by repeat (first | exact trivial | refine ⟨rfl, ?_⟩ | refine ⟨trivial, ?_⟩ | refine ⟨(by show some (Value.bool _) = some (Value.bool _); first | (simp [hg1, -List.getD_eq_getElem?_getD]; done) | (refine congrArg (fun z => some (Value.bool z)) (Bool.eq_iff_iff.2 ?_); simp [hg1, -List.getD_eq_getElem?_getD]; omega)), ?_⟩)) ks9 hJ1
  refine RG.ts 2 rfl ?_
  refine RG.ts 3 rfl ?_
  refine RG.ts 4 rfl ?_
  refine RG.ts 5 rfl ?_
  refine RG.ts 6 rfl ?_
  refine RG.ts 7 rfl ?_
  refine RG.ts 8 rfl ?_
  refine RG.ts 9 rfl ?_
  refine RG.ts 10 rfl ?_
  refine RG.tk 11 rfl Pu.kf ?_
  refine RG.nil ?_ (by kernel_rfl)
  exact TQ.sub (by repeat (first | exact trivial | refine ⟨rfl, ?_⟩ | refine ⟨trivial, ?_⟩ | refine ⟨(by show some (Value.bool _) = some (Value.bool _); first | (simp [hg1, -List.getD_eq_getElem?_getD]; done) | (refine congrArg (fun z => some (Value.bool z)) (Bool.eq_iff_iff.2 ?_); simp [hg1, -List.getD_eq_getElem?_getD]; omega)), ?_⟩)) ks9 hJ1
  rintro DR ⟨⟨⟨Sm, cS⟩, mp⟩, pa, pc⟩
  by_cases hP : propB (dueP Z T (st i 0) (cdZ Z (st i 2) (st i 3)) (cdZ Z (st i 2) (st i 3)).length mp pa pc) = true
  case neg => exact fun a w hF hK => (no_badT hK (by rw [if_neg hP]; simp)).elim
  simp only [if_pos hP, List.nil_append]
  have hP9 := hidT (propB_iff.1 hP)
  clear hP
  refine TQ.tiedU pk9 ?_
  have hsl : (sumQ Z T (st i 0) (cdZ Z (st i 2) (st i 3)) (cdZ Z (st i 2) (st i 3)).length).length = (cdZ Z (st i 2) (st i 3)).length := sumQ_len (Nat.le_refl _)
  have hsp : 0 < (cdZ Z (st i 2) (st i 3)).length := cd_lo hbd.2.1
  have hse : sumQ Z T (st i 0) (cdZ Z (st i 2) (st i 3)) (cdZ Z (st i 2) (st i 3)).length = (cdZ Z (st i 2) (st i 3)).map (payZ Z T (st i 0)) := by unfold sumQ; rw [List.take_length]
  refine TQ.blkN ?_
  refine TQ.thenN (hY6 _ _ _ ?_)
  refine TW.seqD fun Y14 hY14 => ?_
  refine TW.region ?_
  refine TL.p Pu.as ?_
  refine TL.nil ?_
  refine TQ.thenN (hY14 _ _ _ ?_)
  refine TW.seqD fun Y15 hY15 => ?_
  refine TW.seqD fun Y16 hY16 => ?_
  refine TW.region ?_
  refine TL.p Pu.mv ?_
  refine TL.nil ?_
  refine TQ.thenN (hY16 _ _ _ ?_)
  refine TW.block ?_
  refine TW.loop5 (fun (who : Nat) (E : Option Addr) (ce : Nat) (M : List TlX) (m : Nat) => [(94, .int .i64 (who : Int)), (14, .slice E m ce), (9, .pointer (some ⟨b7, 0, none⟩)), (8, .pointer (some ⟨b6, 0, none⟩)), (7, .pointer (some ⟨b5, 0, none⟩)), (5, .pointer (some ⟨b2, 0, none⟩)), (1, .int .i64 (i : Int))]) (fun who E ce M m => [.own E m ce 78 4 (rowsT M), tied (ownsU 3 1 pa (fun s => (gq Z T (st i 0) (cdZ Z (st i 2) (st i 3)) (cdZ Z (st i 2) (st i 3)).length s).length) pc (fun s => iL (gq Z T (st i 0) (cdZ Z (st i 2) (st i 3)) (cdZ Z (st i 2) (st i 3)).length s)) who (8 - who)), .obj b4 (mapO .i64 mp), .blk b5 221 [.map (some b4)], .blk b6 31 [.slice Sm (cdZ Z (st i 2) (st i 3)).length cS], .own Sm (cdZ Z (st i 2) (st i 3)).length cS 3 1 (iL (sumQ Z T (st i 0) (cdZ Z (st i 2) (st i 3)) (cdZ Z (st i 2) (st i 3)).length)), .blk b7 3 [.int .i64 ((cdZ Z (st i 2) (st i 3)).length : Int)], .blk b2 35 [.int .i64 0, .int .i64 0], .obj DR (.deferred (some []))]) (fun who E ce M m => who ≤ 8 ∧ M = tolI (i : Int) (trbLo Z T (st i)) (trbHi Z T (st i)) who ∧ m = M.length) (fun who E ce M m => 8 - who) 0 none 0 [] 0 fs9 ?_ ?_ ?_
  exact KSub.nilOwn ks9
  exact ⟨Nat.zero_le _, rfl, rfl⟩
  rintro who E ce M m ⟨hwho, hM, hm⟩ Z0 hZ0
  have hM9 := hidT hM
  have hmb : m ≤ 100 := by rw [hm, hM]; exact Nat.le_trans (tolI_len who) (by omega)
  clear hM
  refine TW.seqD fun Y17 hY17 => ?_
  refine TW.region ?_
  refine TL.p Pu.lt ?_
  refine TL.nil ?_
  refine TQ.thenN (hY17 _ _ _ ?_)
  refine TW.seqD fun Y18 hY18 => ?_
  refine TW.cond rfl (fun hc1 => ?_) (fun hc1 => ?_)
  try simp only [decide_eq_true_eq, decide_eq_false_iff_not, Bool.not_eq_true', Bool.not_eq_false', Bool.and_eq_true, Bool.or_eq_true, Bool.and_eq_false_iff, Bool.or_eq_false_iff, Int.not_lt, Int.not_le] at hc1
  have hw8 : who < 8 := by omega
  rw [show 8 - who = (7 - who) + 1 by omega]
  have hgl : (gq Z T (st i 0) (cdZ Z (st i 2) (st i 3)) (cdZ Z (st i 2) (st i 3)).length who).length ≤ 6001 := Nat.le_trans gq_len hcl
  refine TW.skip ?_
  refine TQ.thenN (hY18 _ _ _ ?_)
  refine TW.seqD fun Y19 hY19 => ?_
  refine TW.block ?_
  refine TW.seqD fun Y20 hY20 => ?_
  refine TW.region ?_
  refine TL.p Pu.mv ?_
  refine TL.p Pu.as ?_
  refine TL.nil ?_
  refine TQ.thenN (hY20 _ _ _ ?_)
  refine TW.seqD fun Y21 hY21 => ?_
  refine TW.region ?_
  refine TL.ownNext pk9 ?_
  refine TL.p (Pu.ld ty_sc221) ?_
  refine TL.p Pu.mv ?_
  refine TL.p (Pu.l1V (.slice (pa who) (gq Z T (st i 0) (cdZ Z (st i 2) (st i 3)) (cdZ Z (st i 2) (st i 3)).length who).length (pc who)) ty_mp221 ty_zv31 (hP9.out who hw8)) ?_
  refine TL.p Pu.as ?_
  refine TL.nil ?_
  refine TQ.thenN (hY21 _ _ _ ?_)
  refine TW.seqD fun Y22 hY22 => ?_
  refine TW.seqD fun Y23 hY23 => ?_
  refine TW.region ?_
  refine TL.p Pu.mv ?_
  refine TL.p (Pu.ln Tryz.underlying31) ?_
  refine TL.p (Pu.ld ty_sc3) ?_
  refine TL.p Pu.lt ?_
  refine TL.nil ?_
  refine TQ.thenN (hY23 _ _ _ ?_)
  refine TW.cond rfl (fun hc2 => ?_) (fun hc2 => ?_)
  try simp only [decide_eq_true_eq, decide_eq_false_iff_not, Bool.not_eq_true', Bool.not_eq_false', Bool.and_eq_true, Bool.or_eq_true, Bool.and_eq_false_iff, Bool.or_eq_false_iff, Int.not_lt, Int.not_le] at hc2
  have hgot := hidT (gotZ_yes (Z := Z) (T := T) (s := st i) (q := who) (by omega))
  have hgn := gotZ_pos (Z := Z) (T := T) (s := st i) (q := who) hbd.2.1
  have hgm := hidT (show (gq Z T (st i 0) (cdZ Z (st i 2) (st i 3)) (cdZ Z (st i 2) (st i 3)).length who).length + 1 = (gotZ Z T (st i) who).length by rw [← hgot.out, List.length_append]; rfl)
  refine TW.region ?_
  refine TL.p Pu.mv ?_
  refine TL.m Mk.bl ?_
  intro b13
  first | refine TL.a0 ty_et31 ?_ | refine TL.ap ty_et31 ?_
  intro A14 c14
  refine TL.subK (KSub.own Pick.hd (iL_app (L' := gotZ Z T (st i) who) rfl hgot.out.symm rfl) (KSub.refl _)) ?_
  refine TL.p Pu.as ?_
  refine TL.nil ?_
  refine TQ.thenN (hY22 _ _ _ ?_)
  refine TW.seqD fun Y24 hY24 => ?_
  refine TW.region ?_
  refine TL.p Pu.mv ?_
  refine TL.cr rfl (enters Tryz.func146 rfl rfl) (fun w hw => by
      first
        | exact max_got hgm.out hgn (by omega) (trb_hi hok htr hbd.2.1) (OwnR.rdr (hw.holds (.own A14 ((gq Z T (st i 0) (cdZ Z (st i 2) (st i 3)) (cdZ Z (st i 2) (st i 3)).length who).length + 1) c14 3 1 (iL (gotZ Z T (st i) who))) (by simp)))
        | exact max_got hgm.out hgn (by omega) (trb_hi hok htr hbd.2.1) (by rw [← hgot.out]; exact (OwnR.rdr (hw.holds (.own (pa who) (gq Z T (st i 0) (cdZ Z (st i 2) (st i 3)) (cdZ Z (st i 2) (st i 3)).length who).length (pc who) 3 1 (iL (gq Z T (st i 0) (cdZ Z (st i 2) (st i 3)) (cdZ Z (st i 2) (st i 3)).length who))) (by simp))))
        | exact max_got (t := sumHi Z T (st i)) hsl.symm (by omega) (by omega) (by rw [hse]; exact sum_hi hok htr hbd.2.1) (OwnR.rdr (hw.holds (.own Sm (cdZ Z (st i 2) (st i 3)).length cS 3 1 (iL (sumQ Z T (st i 0) (cdZ Z (st i 2) (st i 3)) (cdZ Z (st i 2) (st i 3)).length))) (by simp)))) ?_
  refine TL.p Pu.as ?_
  refine TL.nil ?_
  refine TQ.thenN (hY24 _ _ _ ?_)
  refine TW.seqD fun Y25 hY25 => ?_
  refine TW.region ?_
  refine TL.p Pu.mv ?_
  refine TL.p Pu.gt ?_
  refine TL.nil ?_
  refine TQ.thenN (hY25 _ _ _ ?_)
  refine TW.cond rfl (fun hc3 => ?_) (fun hc3 => ?_)
  try simp only [decide_eq_true_eq, decide_eq_false_iff_not, Bool.not_eq_true', Bool.not_eq_false', Bool.and_eq_true, Bool.or_eq_true, Bool.and_eq_false_iff, Bool.or_eq_false_iff, Int.not_lt, Int.not_le] at hc3
  have hstep : tolI (i : Int) (trbLo Z T (st i)) (trbHi Z T (st i)) (who + 1) = M ++ [((i : Int), (who : Int), trbLo Z T (st i) who, trbHi Z T (st i) who)] := by
    rw [hM9.out]; simp only [tolI]; rw [if_pos hc3]
  have hlen9 : m + 1 = (tolI (i : Int) (trbLo Z T (st i)) (trbHi Z T (st i)) (who + 1)).length := by rw [hstep, List.length_append, ← hm]; rfl
  refine TW.region ?_
  refine TL.p Pu.mv ?_
  refine TL.p Pu.mv ?_
  refine TL.p Pu.mv ?_
  refine TL.p Pu.mv ?_
  refine TL.p Pu.mv ?_
  refine TL.cr rfl (enters Tryz.func147 rfl rfl) (fun w hw => by
      first
        | exact lst_got hgm.out (by omega) (trb_lo hok htr hbd.2.1) (OwnR.rdr (hw.holds (.own A14 ((gq Z T (st i 0) (cdZ Z (st i 2) (st i 3)) (cdZ Z (st i 2) (st i 3)).length who).length + 1) c14 3 1 (iL (gotZ Z T (st i) who))) (by simp)))
        | exact lst_got hgm.out (by omega) (trb_lo hok htr hbd.2.1) (by rw [← hgot.out]; exact (OwnR.rdr (hw.holds (.own (pa who) (gq Z T (st i 0) (cdZ Z (st i 2) (st i 3)) (cdZ Z (st i 2) (st i 3)).length who).length (pc who) 3 1 (iL (gq Z T (st i 0) (cdZ Z (st i 2) (st i 3)) (cdZ Z (st i 2) (st i 3)).length who))) (by simp))))) ?_
  refine TL.p Pu.mv ?_
  refine TL.p Pu.bd ?_
  refine TL.p Pu.bd ?_
  refine TL.m Mk.bl ?_
  intro b15
  first | refine TL.a0 ty_et45 ?_ | refine TL.ap ty_et45 ?_
  intro A16 c16
  refine TL.p Pu.as ?_
  refine TL.nil ?_
  refine TQ.blkN ?_
  refine TQ.thenN (hY19 _ _ _ ?_)
  refine TW.region ?_
  refine TL.p Pu.ad ?_
  refine TL.p Pu.mv ?_
  refine TL.nil ?_
  refine TQ.thenN (hZ0 (who + 1) _ _ (tolI (i : Int) (trbLo Z T (st i)) (trbHi Z T (st i)) (who + 1)) _ _ _ ?_ ?_ fs9 ?_)
  exact ⟨by omega, rfl, hlen9⟩
  exact (by first | omega | (simp only []; omega) | (simp; omega))
  rw [show 8 - (who + 1) = 7 - who by omega]
  first
    | exact KSub.own Pick.hd (rowsT_app hm hstep rfl) ks9
    | exact KSub.own pk9 (fun i _ => by rw [hstep]) ks9
  try simp only [decide_eq_true_eq, decide_eq_false_iff_not, Bool.not_eq_true', Bool.not_eq_false', Bool.and_eq_true, Bool.or_eq_true, Bool.and_eq_false_iff, Bool.or_eq_false_iff, Int.not_lt, Int.not_le] at hc3
  have hstep : tolI (i : Int) (trbLo Z T (st i)) (trbHi Z T (st i)) (who + 1) = M := by
    rw [hM9.out]; simp only [tolI]; rw [if_neg (by omega)]
  have hlen9 : m = (tolI (i : Int) (trbLo Z T (st i)) (trbHi Z T (st i)) (who + 1)).length := by rw [hstep, ← hm]
  refine TW.skip ?_
  refine TQ.blkN ?_
  refine TQ.thenN (hY19 _ _ _ ?_)
  refine TW.region ?_
  refine TL.p Pu.ad ?_
  refine TL.p Pu.mv ?_
  refine TL.nil ?_
  refine TQ.thenN (hZ0 (who + 1) _ _ (tolI (i : Int) (trbLo Z T (st i)) (trbHi Z T (st i)) (who + 1)) _ _ _ ?_ ?_ fs9 ?_)
  exact ⟨by omega, rfl, hlen9⟩
  exact (by first | omega | (simp only []; omega) | (simp; omega))
  rw [show 8 - (who + 1) = 7 - who by omega]
  first
    | exact KSub.own Pick.hd (rowsT_app hm hstep rfl) ks9
    | exact KSub.own pk9 (fun i _ => by rw [hstep]) ks9
  try simp only [decide_eq_true_eq, decide_eq_false_iff_not, Bool.not_eq_true', Bool.not_eq_false', Bool.and_eq_true, Bool.or_eq_true, Bool.and_eq_false_iff, Bool.or_eq_false_iff, Int.not_lt, Int.not_le] at hc2
  have hgot := hidT (gotZ_no (Z := Z) (T := T) (s := st i) (q := who) (by omega))
  have hgn := gotZ_pos (Z := Z) (T := T) (s := st i) (q := who) hbd.2.1
  have hgm := hidT (show (gq Z T (st i 0) (cdZ Z (st i 2) (st i 3)) (cdZ Z (st i 2) (st i 3)).length who).length = (gotZ Z T (st i) who).length by rw [hgot.out])
  refine TW.skip ?_
  refine TQ.thenN (hY22 _ _ _ ?_)
  refine TW.seqD fun Y26 hY26 => ?_
  refine TW.region ?_
  refine TL.p Pu.mv ?_
  refine TL.cr rfl (enters Tryz.func146 rfl rfl) (fun w hw => by
      first
        | exact max_got hgm.out hgn (by omega) (trb_hi hok htr hbd.2.1) (OwnR.rdr (hw.holds (.own A14 ((gq Z T (st i 0) (cdZ Z (st i 2) (st i 3)) (cdZ Z (st i 2) (st i 3)).length who).length + 1) c14 3 1 (iL (gotZ Z T (st i) who))) (by simp)))
        | exact max_got hgm.out hgn (by omega) (trb_hi hok htr hbd.2.1) (by rw [← hgot.out]; exact (OwnR.rdr (hw.holds (.own (pa who) (gq Z T (st i 0) (cdZ Z (st i 2) (st i 3)) (cdZ Z (st i 2) (st i 3)).length who).length (pc who) 3 1 (iL (gq Z T (st i 0) (cdZ Z (st i 2) (st i 3)) (cdZ Z (st i 2) (st i 3)).length who))) (by simp))))
        | exact max_got (t := sumHi Z T (st i)) hsl.symm (by omega) (by omega) (by rw [hse]; exact sum_hi hok htr hbd.2.1) (OwnR.rdr (hw.holds (.own Sm (cdZ Z (st i 2) (st i 3)).length cS 3 1 (iL (sumQ Z T (st i 0) (cdZ Z (st i 2) (st i 3)) (cdZ Z (st i 2) (st i 3)).length))) (by simp)))) ?_
  refine TL.p Pu.as ?_
  refine TL.nil ?_
  refine TQ.thenN (hY26 _ _ _ ?_)
  refine TW.seqD fun Y27 hY27 => ?_
  refine TW.region ?_
  refine TL.p Pu.mv ?_
  refine TL.p Pu.gt ?_
  refine TL.nil ?_
  refine TQ.thenN (hY27 _ _ _ ?_)
  refine TW.cond rfl (fun hc3 => ?_) (fun hc3 => ?_)
  try simp only [decide_eq_true_eq, decide_eq_false_iff_not, Bool.not_eq_true', Bool.not_eq_false', Bool.and_eq_true, Bool.or_eq_true, Bool.and_eq_false_iff, Bool.or_eq_false_iff, Int.not_lt, Int.not_le] at hc3
  have hstep : tolI (i : Int) (trbLo Z T (st i)) (trbHi Z T (st i)) (who + 1) = M ++ [((i : Int), (who : Int), trbLo Z T (st i) who, trbHi Z T (st i) who)] := by
    rw [hM9.out]; simp only [tolI]; rw [if_pos hc3]
  have hlen9 : m + 1 = (tolI (i : Int) (trbLo Z T (st i)) (trbHi Z T (st i)) (who + 1)).length := by rw [hstep, List.length_append, ← hm]; rfl
  refine TW.region ?_
  refine TL.p Pu.mv ?_
  refine TL.p Pu.mv ?_
  refine TL.p Pu.mv ?_
  refine TL.p Pu.mv ?_
  refine TL.p Pu.mv ?_
  refine TL.cr rfl (enters Tryz.func147 rfl rfl) (fun w hw => by
      first
        | exact lst_got hgm.out (by omega) (trb_lo hok htr hbd.2.1) (OwnR.rdr (hw.holds (.own A14 ((gq Z T (st i 0) (cdZ Z (st i 2) (st i 3)) (cdZ Z (st i 2) (st i 3)).length who).length + 1) c14 3 1 (iL (gotZ Z T (st i) who))) (by simp)))
        | exact lst_got hgm.out (by omega) (trb_lo hok htr hbd.2.1) (by rw [← hgot.out]; exact (OwnR.rdr (hw.holds (.own (pa who) (gq Z T (st i 0) (cdZ Z (st i 2) (st i 3)) (cdZ Z (st i 2) (st i 3)).length who).length (pc who) 3 1 (iL (gq Z T (st i 0) (cdZ Z (st i 2) (st i 3)) (cdZ Z (st i 2) (st i 3)).length who))) (by simp))))) ?_
  refine TL.p Pu.mv ?_
  refine TL.p Pu.bd ?_
  refine TL.p Pu.bd ?_
  refine TL.m Mk.bl ?_
  intro b17
  first | refine TL.a0 ty_et45 ?_ | refine TL.ap ty_et45 ?_
  intro A18 c18
  refine TL.p Pu.as ?_
  refine TL.nil ?_
  refine TQ.blkN ?_
  refine TQ.thenN (hY19 _ _ _ ?_)
  refine TW.region ?_
  refine TL.p Pu.ad ?_
  refine TL.p Pu.mv ?_
  refine TL.nil ?_
  refine TQ.thenN (hZ0 (who + 1) _ _ (tolI (i : Int) (trbLo Z T (st i)) (trbHi Z T (st i)) (who + 1)) _ _ _ ?_ ?_ fs9 ?_)
  exact ⟨by omega, rfl, hlen9⟩
  exact (by first | omega | (simp only []; omega) | (simp; omega))
  rw [show 8 - (who + 1) = 7 - who by omega]
  first
    | exact KSub.own Pick.hd (rowsT_app hm hstep rfl) ks9
    | exact KSub.own pk9 (fun i _ => by rw [hstep]) ks9
  try simp only [decide_eq_true_eq, decide_eq_false_iff_not, Bool.not_eq_true', Bool.not_eq_false', Bool.and_eq_true, Bool.or_eq_true, Bool.and_eq_false_iff, Bool.or_eq_false_iff, Int.not_lt, Int.not_le] at hc3
  have hstep : tolI (i : Int) (trbLo Z T (st i)) (trbHi Z T (st i)) (who + 1) = M := by
    rw [hM9.out]; simp only [tolI]; rw [if_neg (by omega)]
  have hlen9 : m = (tolI (i : Int) (trbLo Z T (st i)) (trbHi Z T (st i)) (who + 1)).length := by rw [hstep, ← hm]
  refine TW.skip ?_
  refine TQ.blkN ?_
  refine TQ.thenN (hY19 _ _ _ ?_)
  refine TW.region ?_
  refine TL.p Pu.ad ?_
  refine TL.p Pu.mv ?_
  refine TL.nil ?_
  refine TQ.thenN (hZ0 (who + 1) _ _ (tolI (i : Int) (trbLo Z T (st i)) (trbHi Z T (st i)) (who + 1)) _ _ _ ?_ ?_ fs9 ?_)
  exact ⟨by omega, rfl, hlen9⟩
  exact (by first | omega | (simp only []; omega) | (simp; omega))
  rw [show 8 - (who + 1) = 7 - who by omega]
  first
    | exact KSub.own Pick.hd (rowsT_app hm hstep rfl) ks9
    | exact KSub.own pk9 (fun i _ => by rw [hstep]) ks9
  try simp only [decide_eq_true_eq, decide_eq_false_iff_not, Bool.not_eq_true', Bool.not_eq_false', Bool.and_eq_true, Bool.or_eq_true, Bool.and_eq_false_iff, Bool.or_eq_false_iff, Int.not_lt, Int.not_le] at hc1
  obtain rfl : who = 8 := by omega
  refine TW.exit ?_
  refine TQ.thenX ?_
  refine TQ.thenX ?_
  refine TQ.blkX ?_
  refine TQ.thenN (hY15 _ _ _ ?_)
  refine TW.seqD fun Y28 hY28 => ?_
  refine TW.np ?_
  refine TW.dw 7 ?_
  refine RK.tk Pu.mv ?_
  refine RK.tk (Pu.ld ty_sc31) ?_
  refine RK.keep ?_
  refine RK.tk (Pu.ld ty_sc31) ?_
  refine RK.keep ?_
  refine RK.keep ?_
  refine RK.keep ?_
  refine RK.ch [false, false, true, true] ?_ trivial
  refine WK.cr rfl (enters Tryz.func148 rfl rfl) (fun w hw => by
      exact min_got (t := sumLo Z T (st i)) hsl.symm (by omega) (by omega) (by rw [hse]; exact sum_lo hbd.2.1) (OwnR.rdr (hw.holds (.own Sm (cdZ Z (st i 2) (st i 3)).length cS 3 1 (iL (sumQ Z T (st i 0) (cdZ Z (st i 2) (st i 3)) (cdZ Z (st i 2) (st i 3)).length))) (by simp)))) ?_
  refine WK.cr rfl (enters Tryz.func146 rfl rfl) (fun w hw => by
      first
        | exact max_got hgm.out hgn (by omega) (trb_hi hok htr hbd.2.1) (OwnR.rdr (hw.holds (.own A14 ((gq Z T (st i 0) (cdZ Z (st i 2) (st i 3)) (cdZ Z (st i 2) (st i 3)).length who).length + 1) c14 3 1 (iL (gotZ Z T (st i) who))) (by simp)))
        | exact max_got hgm.out hgn (by omega) (trb_hi hok htr hbd.2.1) (by rw [← hgot.out]; exact (OwnR.rdr (hw.holds (.own (pa who) (gq Z T (st i 0) (cdZ Z (st i 2) (st i 3)) (cdZ Z (st i 2) (st i 3)).length who).length (pc who) 3 1 (iL (gq Z T (st i 0) (cdZ Z (st i 2) (st i 3)) (cdZ Z (st i 2) (st i 3)).length who))) (by simp))))
        | exact max_got (t := sumHi Z T (st i)) hsl.symm (by omega) (by omega) (by rw [hse]; exact sum_hi hok htr hbd.2.1) (OwnR.rdr (hw.holds (.own Sm (cdZ Z (st i 2) (st i 3)).length cS 3 1 (iL (sumQ Z T (st i 0) (cdZ Z (st i 2) (st i 3)) (cdZ Z (st i 2) (st i 3)).length))) (by simp)))) ?_
  refine WK.p Pu.bd ?_
  refine WK.p Pu.as ?_
  refine WK.n ?_
  first | refine TL.st ty_sz35 ?_ | refine TL.se ty_sz35 ?_
  refine TL.nil ?_
  refine TQ.npN ?_
  refine TQ.thenN (hY28 _ _ _ ?_)
  refine TW.ret ?_
  refine TQ.retM Tryz.results97 pk9 ((.tmp rfl (RV.cs ty_ag35 .nil))) ?_
  have hM := hM9.out
  subst hM
  subst hm
  exact fun w hw => ⟨(E, ce), rfl, hw.sub (KSub.cons pk9 KSub.nil)⟩
  intro _ x; exact x.elim
end
end Go.Proofs.YtmonkjnfjgidbaaGreatDoor
namespace Go.Proofs.YtmonkjnfjgidbaaGreatDoor
set_option linter.all false
set_option linter.unusedVariables false
set_option linter.unusedSimpArgs false
open Go.RowKit
theorem rowsT_cat {M N L : List TlX} {m : Nat} (hm : m = M.length) (hL : L = M ++ N) : ∀ i, i < m + N.length → catR m (rowsT M) (rowsT N) i = rowsT L i := fun i hi => by
  subst hL hm
  simp only [catR, rowsT]
  by_cases h : i < M.length
  · rw [if_pos h, List.getD_eq_getElem?_getD, List.getD_eq_getElem?_getD, List.getElem?_append_left (by omega)]
  · rw [if_neg h, List.getD_eq_getElem?_getD, List.getD_eq_getElem?_getD, List.getElem?_append_right (by omega)]
section
variable {Z : Cus} {T : Trp} {Y : Wy} {W A L C D B O U V S : Option Addr} {cw cl cn cc cd cb co cu cv n cs bt : Nat} {st : Nat → Nat → Int} {w : World}
set_option maxRecDepth 100000 in
set_option maxHeartbeats 1000000 in
theorem cTolls_any (hok : CusOk Z) (htr : trpOk T = true) (h : CustIn w C Z.nc D Z.nd B Z.nb Z.c Z.d Z.b) (t : TrpIn w T O U V) (s : StpIn w n st S) (ht : OldB w bt (trkL T O co U cu V cv Z C cc D cd B cb S n cs)) :
    CallsK Tryz.prog 60 #[.pointer (some ⟨bt, 0, none⟩)] [] w (Option Addr × Nat) (fun y => .tuple #[.slice y.1 (tolA Z T st n).length y.2, .agg #[.int .i64 (allLo Z T st n), .int .i64 (allHi Z T st n)]]) (fun y => [.own y.1 (tolA Z T st n).length y.2 78 4 (rowsT (tolA Z T st n))]) := by
  have ht9 := ht
  have hRS := s.hR
  have hn := s.hn
  unfold trkL at ht
  refine K_enter (S := []) (K := []) Tryz.func60 rfl Tryz.ntmps60 rfl (Sat.start _) ?_
  refine TW.seq fun Y1 hY1 => ?_
  refine TW.region ?_
  refine TL.p Pu.as ?_
  refine TL.m (Mk.al ty_zr35) ?_
  intro b1
  refine TL.nil ?_
  refine TQ.thenN (hY1 _ _ ?_)
  refine TW.seq fun Y2 hY2 => ?_
  refine TW.seq fun Y3 hY3 => ?_
  refine TW.region ?_
  refine TL.p Pu.mv ?_
  refine TL.p (by first | exact Pu.nn | exact Pu.nc) ?_
  refine TL.p (by first | exact Pu.fb ty_fa180_2 | exact Pu.fe ty_fa180_2) ?_
  refine TL.p (Pu.ldo ty_sc58) ?_
  refine TL.p (Pu.ln Tryz.underlying58) ?_
  refine TL.p Pu.mv ?_
  refine TL.nil ?_
  refine TQ.thenN (hY3 _ _ ?_)
  refine TW.block ?_
  refine TW.loop5 (fun (i : Nat) (E : Option Addr) (ce : Nat) (M : List TlX) (m : Nat) => [(12, .int .i64 (i : Int)), (11, .int .i64 (n : Int)), (2, .slice E m ce), (3, .pointer (some ⟨b1, 0, none⟩)), (0, .pointer (some ⟨bt, 0, none⟩))]) (fun i E ce M m => [.own E m ce 78 4 (rowsT M), .blk b1 35 [.int .i64 (allLo Z T st i), .int .i64 (allHi Z T st i)]]) (fun i E ce M m => i ≤ n ∧ M = tolA Z T st i ∧ m = M.length) (fun i E ce M m => n - i) 0 none 0 [] 0 fs9 ?_ ?_ ?_
  exact KSub.nilOwn ks9
  exact ⟨Nat.zero_le _, rfl, rfl⟩
  rintro i E ce M m ⟨hi, hM, hm⟩ Z0 hZ0
  have hM9 := hidT hM
  have hm9 : m ≤ 8000 := by rw [hm, hM]; exact Nat.le_trans (tolA_len i) (by omega)
  clear hM
  refine TW.seq fun Y4 hY4 => ?_
  refine TW.region ?_
  refine TL.p Pu.lt ?_
  refine TL.nil ?_
  refine TQ.thenN (hY4 _ _ ?_)
  refine TW.seq fun Y5 hY5 => ?_
  refine TW.cond rfl (fun hc0 => ?_) (fun hc0 => ?_)
  try simp only [decide_eq_true_eq, decide_eq_false_iff_not, Bool.not_eq_true', Bool.not_eq_false', Bool.and_eq_true, Bool.or_eq_true, Bool.and_eq_false_iff, Bool.or_eq_false_iff, Int.not_lt, Int.not_le] at hc0
  have hin : i < n := by omega
  have hab := all_bd (st := st) hok htr i
  have hsb := sum_bd (s := st i) hok htr
  have htl := tolI_len (i := (i : Int)) (lo := trbLo Z T (st i)) (hi := trbHi Z T (st i)) 8
  refine TW.skip ?_
  refine TQ.thenN (hY5 _ _ ?_)
  refine TW.seq fun Y6 hY6 => ?_
  refine TW.block ?_
  refine TW.seq fun Y7 hY7 => ?_
  refine TW.region ?_
  refine TL.p Pu.mv ?_
  refine TL.p Pu.as ?_
  refine TL.nil ?_
  refine TQ.thenN (hY7 _ _ ?_)
  refine TW.seq fun Y8 hY8 => ?_
  refine TW.region ?_
  refine TL.p Pu.mv ?_
  refine TL.p Pu.mv ?_
  refine TL.call (M := []) rfl (enters Tryz.func97 rfl rfl) (List.Perm.refl _) rfl (fun w hw => by
      exact cDue_any i hin hok htr (h.ext (Chg.ext hw.chg)) (t.ext (Chg.ext hw.chg)) (s.ext (Chg.ext hw.chg)) (ht9.ext (Chg.ext hw.chg))) ?_
  rintro ⟨Ad, ca⟩
  refine TL.p Pu.mv ?_
  refine TL.p Pu.ex ?_
  refine TL.p Pu.ex ?_
  refine TL.m (Mk.al ty_zr35) ?_
  intro b2
  refine TL.p Pu.as ?_
  first | refine TL.st ty_sz35 ?_ | refine TL.se ty_sz35 ?_
  refine TL.nil ?_
  refine TQ.thenN (hY8 _ _ ?_)
  refine TW.seq fun Y9 hY9 => ?_
  refine TW.region ?_
  refine TL.p Pu.mv ?_
  refine TL.p Pu.mv ?_
  first | refine TL.a0 ty_et45 ?_ | refine TL.ap ty_et45 ?_
  intro A3 c3
  refine TL.p Pu.as ?_
  refine TL.nil ?_
  refine TQ.thenN (hY9 _ _ ?_)
  refine TW.region ?_
  refine TL.p (by first | exact Pu.fb ty_fa35_0 | exact Pu.fe ty_fa35_0) ?_
  refine TL.p (Pu.ld ty_sc3) ?_
  refine TL.p (by first | exact Pu.fb ty_fa35_0 | exact Pu.fe ty_fa35_0) ?_
  refine TL.p (Pu.ld ty_sc3) ?_
  refine TL.p Pu.ad ?_
  refine TL.p (by first | exact Pu.fb ty_fa35_1 | exact Pu.fe ty_fa35_1) ?_
  refine TL.p (Pu.ld ty_sc3) ?_
  refine TL.p (by first | exact Pu.fb ty_fa35_1 | exact Pu.fe ty_fa35_1) ?_
  refine TL.p (Pu.ld ty_sc3) ?_
  refine TL.p Pu.ad ?_
  refine TL.p Pu.bd ?_
  first | refine TL.st ty_sz35 ?_ | refine TL.se ty_sz35 ?_
  refine TL.nil ?_
  refine TQ.blkN ?_
  refine TQ.thenN (hY6 _ _ ?_)
  refine TW.region ?_
  refine TL.p Pu.ad ?_
  refine TL.p Pu.mv ?_
  refine TL.nil ?_
  refine TQ.thenN (hZ0 (i + 1) _ _ (tolA Z T st (i + 1)) _ _ _ ?_ ?_ fs9 ?_)
  exact ⟨by omega, rfl, by simp only [tolA, List.length_append]; rw [hm, hM9.out]⟩
  exact (by first | omega | (simp only []; omega) | (simp; omega))
  exact KSub.own pk9 (rowsT_cat hm (by simp only [tolA]; rw [hM9.out])) (KSub.blkE pk9 (by rfl) KSub.nil)
  try simp only [decide_eq_true_eq, decide_eq_false_iff_not, Bool.not_eq_true', Bool.not_eq_false', Bool.and_eq_true, Bool.or_eq_true, Bool.and_eq_false_iff, Bool.or_eq_false_iff, Int.not_lt, Int.not_le] at hc0
  obtain rfl : i = n := by omega
  refine TW.exit ?_
  refine TQ.thenX ?_
  refine TQ.thenX ?_
  refine TQ.blkX ?_
  refine TQ.thenN (hY2 _ _ ?_)
  refine TW.seq fun Y10 hY10 => ?_
  refine TW.dw 3 ?_
  refine RK.tk Pu.mv ?_
  refine RK.tk (Pu.lds ty_ag35) ?_
  refine RK.tk Pu.as ?_
  refine RK.ch [] ?_ trivial
  refine WK.n ?_
  first | refine TL.st ty_sz35 ?_ | refine TL.se ty_sz35 ?_
  refine TL.nil ?_
  refine TQ.thenN (hY10 _ _ ?_)
  refine TW.ret ?_
  refine TQ.ret Tryz.results60 rfl ((.tmp rfl (RV.cs ty_ag35 .nil))) ?_
  have hM := hM9.out
  subst hM
  subst hm
  exact fun w hw => ⟨(E, ce), rfl, hw.sub (KSub.cons pk9 KSub.nil)⟩
set_option maxRecDepth 100000 in
set_option maxHeartbeats 1000000 in
theorem tollDue_any (hL : LandIn w W Y.nw A Y.nl Y.f Y.x Y.g) (hn : Y.n ≤ 1000) (hR : RdR w 1 L Y.n (fun k => [.int .i64 (Y.ls k)])) (h : CustIn w C Z.nc D Z.nd B Z.nb Z.c Z.d Z.b) (t : TrpIn w T O U V) :
    CallsK Tryz.prog 20 #[.agg (landL W Y.nw cw A Y.nl cl).toArray, .agg (custL C Z.nc cc D Z.nd cd B Z.nb cb).toArray, .agg (troopL T.hd T.wo O T.no co U T.nu cu V T.nv cv).toArray, .int .i64 Y.start, .int .i64 Y.day, .agg #[.int .i64 Y.p0, .int .i64 Y.p1], .slice L Y.n cn] [] w (Option Addr × Nat) (dueV Y Z T) (dueK Y Z T) := by
  have fR := fun (w' : World) (h1 : LandIn w' W Y.nw A Y.nl Y.f Y.x Y.g) (h2 : CustIn w' C Z.nc D Z.nd B Z.nb Z.c Z.d Z.b) (h3 : TrpIn w' T O U V) => cReady_any (cw := cw) (cl := cl) (cc := cc) (cd := cd) (cb := cb) (co := co) (cu := cu) (cv := cv) h1 h2 h3
  have fW := fun (w' : World) (h1 : LandIn w' W Y.nw A Y.nl Y.f Y.x Y.g) (h2 : RdR w' 1 L Y.n (fun k => [.int .i64 (Y.ls k)])) => cWalked_any (Z := Z) (T := T) (C := C) (D := D) (B := B) (O := O) (U := U) (V := V) (cw := cw) (cl := cl) (cc := cc) (cd := cd) (cb := cb) (co := co) (cu := cu) (cv := cv) (cn := cn) h1 hn h2
  unfold landL custL troopL at fR fW ⊢
  refine K_enter (S := []) (K := []) Tryz.func20 rfl Tryz.ntmps20 rfl (Sat.start _) ?_
  refine TW.seq fun Y1 hY1 => ?_
  refine TW.region ?_
  refine TL.m Mk.bx ?_
  intro b1
  refine TL.m Mk.bx ?_
  intro b2
  refine TL.m Mk.bx ?_
  intro b3
  refine TL.m Mk.bx ?_
  intro b4
  refine TL.p Pu.as ?_
  refine TL.m (Mk.al ty_zr35) ?_
  intro b5
  refine TL.p Pu.as ?_
  refine TL.nil ?_
  refine TQ.thenN (hY1 _ _ ?_)
  refine TW.seq fun Y2 hY2 => ?_
  refine TW.seq fun Y3 hY3 => ?_
  refine TW.region ?_
  refine TL.p (Pu.lds ty_ag25) ?_
  refine TL.p (Pu.lds ty_ag30) ?_
  refine TL.p (Pu.lds ty_ag33) ?_
  refine TL.cr rfl (enters Tryz.func55 rfl rfl) (fun w hw => by
      exact fR _ (hL.ext (Chg.ext hw.chg)) (h.ext (Chg.ext hw.chg)) (t.ext (Chg.ext hw.chg))) ?_
  refine TL.p Pu.as ?_
  refine TL.nil ?_
  refine TQ.thenN (hY3 _ _ ?_)
  refine TW.seq fun Y4 hY4 => ?_
  refine TW.region ?_
  refine TL.p Pu.mv ?_
  refine TL.p Pu.ne ?_
  refine TL.nil ?_
  refine TQ.thenN (hY4 _ _ ?_)
  refine TW.cond rfl (fun hc0 => ?_) (fun hc0 => ?_)
  try simp only [decide_eq_true_eq, decide_eq_false_iff_not, Bool.not_eq_true', Bool.not_eq_false', Bool.and_eq_true, Bool.or_eq_true, Bool.and_eq_false_iff, Bool.or_eq_false_iff, Int.not_lt, Int.not_le] at hc0
  have hne : rdyC Y Z T ≠ 0 := hc0
  have hte : tolC Y Z T ≠ 0 := by rw [tol_rdy hne]; exact hne
  refine TW.seq fun Y5 hY5 => ?_
  refine TW.rf Drop.done ?_
  refine RF.tk (Pu.lds ty_ag35) ?_
  refine RF.tk Pu.mv ?_
  refine RF.tk Pu.as ?_
  refine RF.ks ?_
  refine RF.ks ?_
  refine RF.go ?_
  refine RG.step fun X1 hX1 => ?_
  first | refine TL.st ty_sz35 ?_ | refine TL.se ty_sz35 ?_
  refine TL.nil ?_
  refine TQ.nxt (hX1 _ _ hl9 ?_)
  refine RG.step fun X2 hX2 => ?_
  refine TL.p Pu.as ?_
  refine TL.nil ?_
  refine TQ.nxt (hX2 _ _ hl9 ?_)
  refine RG.nil ?_
  refine TQ.thenN (hY5 _ _ ?_)
  refine TW.ret ?_
  refine TQ.thenR ?_
  refine TQ.ret Tryz.results20 rfl ((.tmp rfl (RV.cs ty_ag35 (.tmp rfl .nil)))) ?_
  exact fun w hw => due_bad hw (tol_rdy hne) hne
  try simp only [decide_eq_true_eq, decide_eq_false_iff_not, Bool.not_eq_true', Bool.not_eq_false', Bool.and_eq_true, Bool.or_eq_true, Bool.and_eq_false_iff, Bool.or_eq_false_iff, Int.not_lt, Int.not_le] at hc0
  have hz : rdyC Y Z T = 0 := by simpa using hc0
  obtain ⟨hz1, hz2⟩ := rdy_split hz
  have hok := chk_ok hz1
  refine TW.skip ?_
  refine TQ.thenN (hY2 _ _ ?_)
  refine TW.seq fun Y6 hY6 => ?_
  refine TW.region ?_
  refine TL.p (Pu.lds ty_ag25) ?_
  refine TL.p (Pu.lds ty_ag30) ?_
  refine TL.p (Pu.lds ty_ag33) ?_
  refine TL.p Pu.mv ?_
  refine TL.p Pu.mv ?_
  refine TL.p (Pu.lds ty_ag35) ?_
  refine TL.p Pu.mv ?_
  refine TL.call (M := []) rfl (enters Tryz.func56 rfl rfl) (List.Perm.refl _) rfl (fun w hw => by
      exact fW _ (hL.ext (Chg.ext hw.chg)) (hR.sat hw Apart.nil)) ?_
  rintro ⟨⟨As, cs⟩, bt⟩
  refine TL.p Pu.mv ?_
  refine TL.p Pu.ex ?_
  refine TL.p Pu.ex ?_
  refine TL.p Pu.as ?_
  refine TL.p Pu.as ?_
  refine TL.nil ?_
  refine TQ.thenN (hY6 _ _ ?_)
  refine TW.seq fun Y7 hY7 => ?_
  refine TW.seq fun Y8 hY8 => ?_
  refine TW.region ?_
  refine TL.p Pu.mv ?_
  refine TL.p Pu.ne ?_
  refine TL.nil ?_
  refine TQ.thenN (hY8 _ _ ?_)
  refine TW.cond rfl (fun hc1 => ?_) (fun hc1 => ?_)
  try simp only [decide_eq_true_eq, decide_eq_false_iff_not, Bool.not_eq_true', Bool.not_eq_false', Bool.and_eq_true, Bool.or_eq_true, Bool.and_eq_false_iff, Bool.or_eq_false_iff, Int.not_lt, Int.not_le] at hc1
  have hne : wkC Y ≠ 0 := hc1
  refine TW.seq fun Y9 hY9 => ?_
  refine TW.rf Drop.done ?_
  refine RF.tk (Pu.lds ty_ag35) ?_
  refine RF.tk Pu.mv ?_
  refine RF.tk Pu.as ?_
  refine RF.ks ?_
  refine RF.ks ?_
  refine RF.go ?_
  refine RG.step fun X3 hX3 => ?_
  first | refine TL.st ty_sz35 ?_ | refine TL.se ty_sz35 ?_
  refine TL.nil ?_
  refine TQ.nxt (hX3 _ _ hl9 ?_)
  refine RG.step fun X4 hX4 => ?_
  refine TL.p Pu.as ?_
  refine TL.nil ?_
  refine TQ.nxt (hX4 _ _ hl9 ?_)
  refine RG.nil ?_
  refine TQ.thenN (hY9 _ _ ?_)
  refine TW.ret ?_
  refine TQ.thenR ?_
  refine TQ.ret Tryz.results20 rfl ((.tmp rfl (RV.cs ty_ag35 (.tmp rfl .nil)))) ?_
  exact fun w hw => due_bad hw (tol_wk hz) hne
  try simp only [decide_eq_true_eq, decide_eq_false_iff_not, Bool.not_eq_true', Bool.not_eq_false', Bool.and_eq_true, Bool.or_eq_true, Bool.and_eq_false_iff, Bool.or_eq_false_iff, Int.not_lt, Int.not_le] at hc1
  have hwz : wkC Y = 0 := by simpa using hc1
  have hte : tolC Y Z T = 0 := by rw [tol_wk hz]; exact hwz
  have hwn := wkN_n hwz
  have hwb := stY_bd hwz
  refine TW.skip ?_
  refine TQ.thenN (hY7 _ _ ?_)
  refine TW.seq fun Y10 hY10 => ?_
  refine TW.region ?_
  refine TL.p Pu.mv ?_
  refine TL.call (M := []) rfl (enters Tryz.func60 rfl rfl) (List.Perm.refl _) rfl (fun w hw => by
      have q1 := OldB.of_blk (hw.holds (.blk bt 180 (trkL T O co U cu V cv Z C cc D cd B cb As (wkN Y) cs)) (by simp))
      have q2 := OwnR.rdr (hw.holds (.own As (wkN Y) cs 62 6 (fun k => stopL (stY Y k))) (by simp))
      exact cTolls_any hok hz2 (h.ext (Chg.ext hw.chg)) (t.ext (Chg.ext hw.chg)) ⟨by rw [hwn]; exact hn, q2, fun k hk => hwb k (by rw [← hwn]; exact hk)⟩ q1) ?_
  rintro ⟨Ad, cd9⟩
  refine TL.p Pu.mv ?_
  refine TL.p Pu.ex ?_
  refine TL.p Pu.ex ?_
  refine TL.p Pu.as ?_
  first | refine TL.st ty_sz35 ?_ | refine TL.se ty_sz35 ?_
  refine TL.nil ?_
  refine TQ.thenN (hY10 _ _ ?_)
  refine TW.seq fun Y11 hY11 => ?_
  refine TW.dw 3 ?_
  refine RK.tk Pu.mv ?_
  refine RK.tk (Pu.lds ty_ag35) ?_
  refine RK.tk Pu.as ?_
  refine RK.ch [] ?_ trivial
  refine WK.n ?_
  first | refine TL.st ty_sz35 ?_ | refine TL.se ty_sz35 ?_
  refine TL.p Pu.as ?_
  refine TL.nil ?_
  refine TQ.thenN (hY11 _ _ ?_)
  refine TW.ret ?_
  refine TQ.ret Tryz.results20 rfl ((.tmp rfl (RV.cs ty_ag35 (.tmp rfl .nil)))) ?_
  have e1 : dueL Y Z T = tolA Z T (stY Y) (wkN Y) := by rw [hwn]; exact if_pos hte
  have e2 : dueLo Y Z T = allLo Z T (stY Y) (wkN Y) := by rw [hwn]; exact if_pos hte
  have e3 : dueHi Y Z T = allHi Z T (stY Y) (wkN Y) := by rw [hwn]; exact if_pos hte
  exact fun w hw => ⟨(Ad, cd9), by unfold dueV; rw [e1, e2, e3, hte]; rfl, by unfold dueK; rw [e1]; exact hw.sub (KSub.cons pk9 KSub.nil)⟩
end
end Go.Proofs.YtmonkjnfjgidbaaGreatDoor
namespace Go.Proofs.YtmonkjnfjgidbaaGreatDoor
set_option linter.all false
set_option linter.unusedVariables false
set_option linter.unusedSimpArgs false
open Go.RowKit
abbrev lgA (x : Leg) (a : Option Addr) (d : Nat) : Leg := ⟨x.u, a, x.n, d⟩
def lgT (x : Nat → Leg) (a : Nat → Option Addr) (d : Nat → Nat) (k i : Nat) : Leg := if i < k then lgA (x i) (a i) (d i) else x i
theorem lgT_self {x : Nat → Leg} {a : Nat → Option Addr} {d : Nat → Nat} {k : Nat} : lgT x a d k k = x k := if_neg (by omega)
abbrev TLx := ((Option Addr × Nat) × (Option Addr × Nat)) × (Nat → Option Addr) × (Nat → Nat)
def twL (nw nl : Nat) (f : Nat → Nat → Int) (x : Nat → Leg) (g : Nat → Nat → Nat → Int) (t : TLx) : List Fact :=
  .own t.1.1.1 nw t.1.1.2 136 9 (fun k => wellL (f k)) :: .own t.1.2.1 nl t.1.2.2 122 5 (fun k => legL (lgA (x k) (t.2.1 k) (t.2.2 k))) :: ownsE 138 4 t.2.1 (fun i => (x i).n) t.2.2 (fun i j => gateL (g i j)) nl
set_option maxRecDepth 100000 in
set_option maxHeartbeats 4000000 in
theorem twin3_any {W A : Option Addr} {nw cw nl cl : Nat} {f : Nat → Nat → Int} {x : Nat → Leg} {g : Nat → Nat → Nat → Int} {w : World} (h : LandIn w W nw A nl f x g) :
    CallsK Tryz.prog 15 #[.agg (landL W nw cw A nl cl).toArray] [] w TLx (fun t => .agg (landL t.1.1.1 nw t.1.1.2 t.1.2.1 nl t.1.2.2).toArray) (twL nw nl f x g) := by
  have hRW := h.hW
  have hRA := h.hA
  have hnw := h.hnw
  have hnl := h.hnl
  unfold landL
  refine K_enter (S := []) (K := []) Tryz.func15 rfl Tryz.ntmps15 rfl (Sat.start _) ?_
  refine TW.seq fun Y1 hY1 => ?_
  refine TW.region ?_
  refine TL.m Mk.bx ?_
  intro b1
  refine TL.m (Mk.al ty_zr25) ?_
  intro b2
  refine TL.nil ?_
  refine TQ.thenN (hY1 _ _ ?_)
  refine TW.seq fun Y2 hY2 => ?_
  refine TW.region ?_
  refine TL.m Mk.bl ?_
  intro b3
  refine TL.p (by first | exact Pu.fb ty_fa25_0 | exact Pu.fe ty_fa25_0) ?_
  refine TL.p (Pu.ld ty_sc22) ?_
  refine TL.ob (b := b3) (sz := 9) (r := fun _ => []) pk9 rfl ?_
  first | refine TL.a0 ty_et22 ?_ | refine TL.ap ty_et22 ?_
  intro A4 c4
  refine TL.p (by first | exact Pu.fb ty_fa25_0 | exact Pu.fe ty_fa25_0) ?_
  first | refine TL.st ty_sz22 ?_ | refine TL.se ty_sz22 ?_
  refine TL.nil ?_
  refine TQ.thenN (hY2 _ _ ?_)
  refine TW.seq fun Y3 hY3 => ?_
  refine TW.region ?_
  refine TL.m Mk.bl ?_
  intro b5
  refine TL.p (by first | exact Pu.fb ty_fa25_1 | exact Pu.fe ty_fa25_1) ?_
  refine TL.p (Pu.ld ty_sc23) ?_
  refine TL.ob (b := b5) (sz := 5) (r := fun _ => []) pk9 rfl ?_
  first | refine TL.a0 ty_et23 ?_ | refine TL.ap ty_et23 ?_
  intro A6 c6
  refine TL.p (by first | exact Pu.fb ty_fa25_1 | exact Pu.fe ty_fa25_1) ?_
  first | refine TL.st ty_sz23 ?_ | refine TL.se ty_sz23 ?_
  refine TL.nil ?_
  refine TQ.thenN (hY3 _ _ ?_)
  refine TW.seq fun Y4 hY4 => ?_
  refine TW.seq fun Y5 hY5 => ?_
  refine TW.region ?_
  refine TL.p Pu.as ?_
  refine TL.nil ?_
  refine TQ.thenN (hY5 _ _ ?_)
  refine TW.block ?_
  refine TW.loop3 (fun (k : Nat) (a : Nat → Option Addr) (d : Nat → Nat) => [(3, .int .i64 (k : Int)), (1, .pointer (some ⟨b1, 0, none⟩)), (2, .pointer (some ⟨b2, 0, none⟩))]) (fun k a d => .blk b1 25 [.slice A4 nw c4, .slice A6 nl c6] :: .blk b2 25 [.slice none 0 0, .slice none 0 0] :: .own A4 nw c4 136 9 (fun k => wellL (f k)) :: .own A6 nl c6 122 5 (fun i => legL (lgT x a d k i)) :: ownsE 138 4 a (fun i => (x i).n) d (fun i j => gateL (g i j)) k) (fun k a d => k ≤ nl) (fun k a d => nl - k) 0 (fun _ => none) (fun _ => 0) fs9 ?_ ?_ ?_
  exact KSub.cons pk9 (KSub.cons pk9 (KSub.cons pk9 (KSub.own pk9 (fun i _ => by simp only [lgT, Nat.not_lt_zero, if_false]) KSub.nil)))
  exact Nat.zero_le _
  rintro k a d hk Z0 hZ0
  refine TW.seq fun Y6 hY6 => ?_
  refine TW.seq fun Y7 hY7 => ?_
  refine TW.region ?_
  refine TL.p Pu.mv ?_
  refine TL.p (by first | exact Pu.fb ty_fa25_1 | exact Pu.fe ty_fa25_1) ?_
  refine TL.p (Pu.ld ty_sc23) ?_
  refine TL.p (Pu.ln Tryz.underlying23) ?_
  refine TL.p Pu.lt ?_
  refine TL.nil ?_
  refine TQ.thenN (hY7 _ _ ?_)
  refine TW.cond rfl (fun hc0 => ?_) (fun hc0 => ?_)
  try simp only [decide_eq_true_eq, decide_eq_false_iff_not, Bool.not_eq_true', Bool.not_eq_false', Bool.and_eq_true, Bool.or_eq_true, Bool.and_eq_false_iff, Bool.or_eq_false_iff, Int.not_lt, Int.not_le] at hc0
  have hkn : k < nl := by omega
  have hGk : RdR w 4 (lgT x a d k k).A (lgT x a d k k).n (fun j => gateL (g k j)) := by rw [lgT_self]; exact h.hG k hkn
  have hnk : (lgT x a d k k).n ≤ 1000 := by rw [lgT_self]; exact h.hn k hkn
  refine TW.skip ?_
  refine TQ.thenN (hY6 _ _ ?_)
  refine TW.seq fun Y8 hY8 => ?_
  refine TW.block ?_
  refine TW.expk [.blk b1 25 [.slice A4 nw c4, .slice A6 nl c6]] (fun (⟨A10, c10⟩ : Option Addr × Nat) => ([(3, .int .i64 (k : Int)), (1, .pointer (some ⟨b1, 0, none⟩)), (2, .pointer (some ⟨b2, 0, none⟩))] : Fr)) (fun (⟨A10, c10⟩ : Option Addr × Nat) => .blk b1 25 [.slice A4 nw c4, .slice A6 nl c6] :: .blk b2 25 [.slice none 0 0, .slice none 0 0] :: .own A4 nw c4 136 9 (fun k => wellL (f k)) :: .own A6 nl c6 122 5 (updR (fun i => legL (lgT x a d k i)) k [.int .i64 ((lgT x a d k k).u 0), .int .i64 ((lgT x a d k k).u 1), .int .i64 ((lgT x a d k k).u 2), .int .i64 ((lgT x a d k k).u 3), .slice A10 (lgT x a d k k).n c10]) :: .own A10 (lgT x a d k k).n c10 138 4 (fun j => gateL (g k j)) :: ownsE 138 4 a (fun i => (x i).n) d (fun i j => gateL (g i j)) k) ?_ (fun hE => ?_)
  rintro ⟨A10, c10⟩
  refine TQ.blkN ?_
  refine TQ.thenN (hY8 _ _ ?_)
  refine TW.region ?_
  refine TL.p Pu.mv ?_
  refine TL.p Pu.ad ?_
  refine TL.p Pu.as ?_
  refine TL.nil ?_
  refine TQ.thenN (hZ0 (k + 1) (updA a k A10) (updA d k c10) _ _ ?_ ?_ fs9 ?_)
  exact (by omega)
  exact (by first | omega | (simp only []; omega) | (simp; omega))
  simp only [lgT_self]
  have e : ownsE 138 4 (updA a k A10) (fun i => (x i).n) (updA d k c10) (fun i j => gateL (g i j)) k = ownsE 138 4 a (fun i => (x i).n) d (fun i j => gateL (g i j)) k := ownsE_congr fun i hi => ⟨if_neg (by omega), if_neg (by omega)⟩
  simp only [ownsE, e]
  have ea : updA a k A10 k = A10 := if_pos rfl
  have ed : updA d k c10 k = c10 := if_pos rfl
  simp only [ea, ed]
  refine KSub.cons Pick.hd (KSub.cons Pick.hd (KSub.cons Pick.hd (KSub.own Pick.hd (fun i hi => ?_) (KSub.refl _))))
  simp only [updR]
  by_cases hik : i = k
  subst hik
  rw [if_pos rfl, lgT, if_pos (by omega)]
  simp only [lgA, legL, ea, ed]
  rw [if_neg hik]
  unfold lgT updA
  by_cases h9 : i < k
  rw [if_pos h9, if_pos (by omega), if_neg hik, if_neg hik]
  rw [if_neg h9, if_neg (by omega)]
  refine RG.tk 0 rfl (by first | exact Pu.fb ty_fa25_1 | exact Pu.fe ty_fa25_1) ?_
  refine RG.tk 1 rfl (Pu.ld ty_sc23) ?_
  refine RG.tk 2 rfl Pu.mv ?_
  refine RG.tk 4 rfl (by first | exact Pu.fb ty_fa25_1 | exact Pu.fe ty_fa25_1) ?_
  refine RG.tk 5 rfl (Pu.ld ty_sc23) ?_
  refine RG.tk 6 rfl Pu.mv ?_
  refine RG.a2 3 7 rfl rfl (fun X3 hX3 => ?_) (fun X7 hX7 => ?_)
  refine TL.m Mk.bl ?_
  intro x3
  refine TL.nil ?_
  refine TQ.nxt (hX3 _ _ hl9 ?_)
  refine RG.a1 7 rfl (fun X7 hX7 => ?_)
  refine TL.p (Pu.el ty_et23) ?_
  refine TL.nil ?_
  refine TQ.nxt (hX7 _ _ hl9 ?_)
  refine RG.a1 8 rfl (fun X8 hX8 => ?_)
  refine TL.p (by first | exact Pu.fb ty_fa122_3 | exact Pu.fe ty_fa122_3) ?_
  refine TL.nil ?_
  refine TQ.nxt (hX8 _ _ hl9 ?_)
  refine RG.a1 9 rfl (fun X9 hX9 => ?_)
  refine TL.p (Pu.ld ty_sc120) ?_
  refine TL.nil ?_
  refine TQ.nxt (hX9 _ _ hl9 ?_)
  refine RG.a1 10 rfl (fun X10 hX10 => ?_)
  refine TL.ob (b := x3) (sz := 4) (r := fun _ => []) pk9 rfl ?_
  first | refine TL.a0 ty_et120 ?_ | refine TL.ap ty_et120 ?_
  intro A10 c10
  refine TL.nil ?_
  refine TQ.nxt (hX10 _ _ hl9 ?_)
  refine RG.a1 11 rfl (fun X11 hX11 => ?_)
  refine TL.p (Pu.el ty_et23) ?_
  refine TL.nil ?_
  refine TQ.nxt (hX11 _ _ hl9 ?_)
  refine RG.a1 12 rfl (fun X12 hX12 => ?_)
  refine TL.p (by first | exact Pu.fb ty_fa122_3 | exact Pu.fe ty_fa122_3) ?_
  refine TL.nil ?_
  refine TQ.nxt (hX12 _ _ hl9 ?_)
  refine RG.a1 13 rfl (fun X13 hX13 => ?_)
  first | refine TL.st ty_sz120 ?_ | refine TL.se ty_sz120 ?_
  refine TL.nil ?_
  refine TQ.nxt (hX13 _ _ hl9 ?_)
  exact RG.nil (TQ.sub fs9 kt9 (hE ⟨A10, c10⟩)) (by kernel_rfl)
  refine TL.p (Pu.el ty_et23) ?_
  refine TL.nil ?_
  refine TQ.nxt (hX7 _ _ hl9 ?_)
  refine RG.a2 3 8 rfl rfl (fun X3 hX3 => ?_) (fun X8 hX8 => ?_)
  refine TL.m Mk.bl ?_
  intro x3
  refine TL.nil ?_
  refine TQ.nxt (hX3 _ _ hl9 ?_)
  refine RG.a1 8 rfl (fun X8 hX8 => ?_)
  refine TL.p (by first | exact Pu.fb ty_fa122_3 | exact Pu.fe ty_fa122_3) ?_
  refine TL.nil ?_
  refine TQ.nxt (hX8 _ _ hl9 ?_)
  refine RG.a1 9 rfl (fun X9 hX9 => ?_)
  refine TL.p (Pu.ld ty_sc120) ?_
  refine TL.nil ?_
  refine TQ.nxt (hX9 _ _ hl9 ?_)
  refine RG.a1 10 rfl (fun X10 hX10 => ?_)
  refine TL.ob (b := x3) (sz := 4) (r := fun _ => []) pk9 rfl ?_
  first | refine TL.a0 ty_et120 ?_ | refine TL.ap ty_et120 ?_
  intro A10 c10
  refine TL.nil ?_
  refine TQ.nxt (hX10 _ _ hl9 ?_)
  refine RG.a1 11 rfl (fun X11 hX11 => ?_)
  refine TL.p (Pu.el ty_et23) ?_
  refine TL.nil ?_
  refine TQ.nxt (hX11 _ _ hl9 ?_)
  refine RG.a1 12 rfl (fun X12 hX12 => ?_)
  refine TL.p (by first | exact Pu.fb ty_fa122_3 | exact Pu.fe ty_fa122_3) ?_
  refine TL.nil ?_
  refine TQ.nxt (hX12 _ _ hl9 ?_)
  refine RG.a1 13 rfl (fun X13 hX13 => ?_)
  first | refine TL.st ty_sz120 ?_ | refine TL.se ty_sz120 ?_
  refine TL.nil ?_
  refine TQ.nxt (hX13 _ _ hl9 ?_)
  exact RG.nil (TQ.sub fs9 kt9 (hE ⟨A10, c10⟩)) (by kernel_rfl)
  refine TL.p (by first | exact Pu.fb ty_fa122_3 | exact Pu.fe ty_fa122_3) ?_
  refine TL.nil ?_
  refine TQ.nxt (hX8 _ _ hl9 ?_)
  refine RG.a2 3 9 rfl rfl (fun X3 hX3 => ?_) (fun X9 hX9 => ?_)
  refine TL.m Mk.bl ?_
  intro x3
  refine TL.nil ?_
  refine TQ.nxt (hX3 _ _ hl9 ?_)
  refine RG.a1 9 rfl (fun X9 hX9 => ?_)
  refine TL.p (Pu.ld ty_sc120) ?_
  refine TL.nil ?_
  refine TQ.nxt (hX9 _ _ hl9 ?_)
  refine RG.a1 10 rfl (fun X10 hX10 => ?_)
  refine TL.ob (b := x3) (sz := 4) (r := fun _ => []) pk9 rfl ?_
  first | refine TL.a0 ty_et120 ?_ | refine TL.ap ty_et120 ?_
  intro A10 c10
  refine TL.nil ?_
  refine TQ.nxt (hX10 _ _ hl9 ?_)
  refine RG.a1 11 rfl (fun X11 hX11 => ?_)
  refine TL.p (Pu.el ty_et23) ?_
  refine TL.nil ?_
  refine TQ.nxt (hX11 _ _ hl9 ?_)
  refine RG.a1 12 rfl (fun X12 hX12 => ?_)
  refine TL.p (by first | exact Pu.fb ty_fa122_3 | exact Pu.fe ty_fa122_3) ?_
  refine TL.nil ?_
  refine TQ.nxt (hX12 _ _ hl9 ?_)
  refine RG.a1 13 rfl (fun X13 hX13 => ?_)
  first | refine TL.st ty_sz120 ?_ | refine TL.se ty_sz120 ?_
  refine TL.nil ?_
  refine TQ.nxt (hX13 _ _ hl9 ?_)
  exact RG.nil (TQ.sub fs9 kt9 (hE ⟨A10, c10⟩)) (by kernel_rfl)
  refine TL.p (Pu.ld ty_sc120) ?_
  refine TL.nil ?_
  refine TQ.nxt (hX9 _ _ hl9 ?_)
  refine RG.a1 3 rfl (fun X3 hX3 => ?_)
  refine TL.m Mk.bl ?_
  intro x3
  refine TL.nil ?_
  refine TQ.nxt (hX3 _ _ hl9 ?_)
  refine RG.a1 10 rfl (fun X10 hX10 => ?_)
  refine TL.ob (b := x3) (sz := 4) (r := fun _ => []) pk9 rfl ?_
  first | refine TL.a0 ty_et120 ?_ | refine TL.ap ty_et120 ?_
  intro A10 c10
  refine TL.nil ?_
  refine TQ.nxt (hX10 _ _ hl9 ?_)
  refine RG.a1 11 rfl (fun X11 hX11 => ?_)
  refine TL.p (Pu.el ty_et23) ?_
  refine TL.nil ?_
  refine TQ.nxt (hX11 _ _ hl9 ?_)
  refine RG.a1 12 rfl (fun X12 hX12 => ?_)
  refine TL.p (by first | exact Pu.fb ty_fa122_3 | exact Pu.fe ty_fa122_3) ?_
  refine TL.nil ?_
  refine TQ.nxt (hX12 _ _ hl9 ?_)
  refine RG.a1 13 rfl (fun X13 hX13 => ?_)
  first | refine TL.st ty_sz120 ?_ | refine TL.se ty_sz120 ?_
  refine TL.nil ?_
  refine TQ.nxt (hX13 _ _ hl9 ?_)
  exact RG.nil (TQ.sub fs9 kt9 (hE ⟨A10, c10⟩)) (by kernel_rfl)
  try simp only [decide_eq_true_eq, decide_eq_false_iff_not, Bool.not_eq_true', Bool.not_eq_false', Bool.and_eq_true, Bool.or_eq_true, Bool.and_eq_false_iff, Bool.or_eq_false_iff, Int.not_lt, Int.not_le] at hc0
  obtain rfl : nl = k := by omega
  refine TW.exit ?_
  refine TQ.thenX ?_
  refine TQ.thenX ?_
  refine TQ.blkX ?_
  refine TQ.thenN (hY4 _ _ ?_)
  refine TW.seq fun Y9 hY9 => ?_
  refine TW.region ?_
  refine TL.p (Pu.lds ty_ag25) ?_
  first | refine TL.st ty_sz25 ?_ | refine TL.se ty_sz25 ?_
  refine TL.nil ?_
  refine TQ.thenN (hY9 _ _ ?_)
  refine TW.ret ?_
  refine TQ.ret Tryz.results15 rfl ((RV.cs ty_ag25 .nil)) ?_
  exact fun w hw => ⟨(((A4, c4), (A6, c6)), a, d), rfl, hw.sub (by
    unfold twL
    refine KSub.cons pk9 (KSub.own pk9 (fun i hi => ?_) (by first | exact KSub.refl _ | exact KSub.drop (KSub.refl _) | exact KSub.drop (KSub.drop (KSub.refl _))))
    rw [lgT, if_pos hi])⟩
end Go.Proofs.YtmonkjnfjgidbaaGreatDoor
namespace Go.Proofs.YtmonkjnfjgidbaaGreatDoor
set_option linter.all false
set_option linter.unusedVariables false
set_option linter.unusedSimpArgs false
open Go.RowKit
set_option maxRecDepth 100000 in
set_option maxHeartbeats 4000000 in
theorem sameCustom_any {C D B C' D' B' : Option Addr} {nc cc nd cd nb cb cc' cd' cb' : Nat} {c : Nat → (Nat → Int) × Bool} {d b : Nat → Nat → Int} {w : World} (k : CustIn w C nc D nd B nb c d b) (k' : CustIn w C' nc D' nd B' nb c d b) :
    Calls Tryz.prog 24 #[.agg (custL C nc cc D nd cd B nb cb).toArray, .agg (custL C' nc cc' D' nd cd' B' nb cb').toArray] w (Ret w (.bool true)) := by
  have hRC := k.hC
  have hRD := k.hD
  have hRB := k.hB
  have hRC' := k'.hC
  have hRD' := k'.hD
  have hRB' := k'.hB
  have hnc := k.hnc
  have hnd := k.hnd
  have hnb := k.hnb
  unfold custL
  refine K_enter (S := []) (K := []) Tryz.func24 rfl Tryz.ntmps24 rfl (Sat.start _) ?_
  refine TW.seq fun Y1 hY1 => ?_
  refine TW.region ?_
  refine TL.m Mk.bx ?_
  intro b1
  refine TL.m Mk.bx ?_
  intro b2
  refine TL.p Pu.as ?_
  refine TL.nil ?_
  refine TQ.thenN (hY1 _ _ ?_)
  refine TW.seq fun Y2 hY2 => ?_
  refine TW.seq fun Y3 hY3 => ?_
  refine TW.region ?_
  refine TL.p (by first | exact Pu.fb ty_fa30_0 | exact Pu.fe ty_fa30_0) ?_
  refine TL.p (Pu.ld ty_sc26) ?_
  refine TL.p (Pu.ln Tryz.underlying26) ?_
  refine TL.p (by first | exact Pu.fb ty_fa30_0 | exact Pu.fe ty_fa30_0) ?_
  refine TL.p (Pu.ld ty_sc26) ?_
  refine TL.p (Pu.ln Tryz.underlying26) ?_
  refine TL.p Pu.ne ?_
  refine TL.lit (t := 14) (b' := false) rfl ((by simp)) ?_
  refine TL.p Pu.mv ?_
  refine TL.gd (by first | exact Pu.fb ty_fa30_1 | exact Pu.fe ty_fa30_1) ?_
  refine TL.gd (Pu.ld ty_sc27) ?_
  refine TL.gd (Pu.ln Tryz.underlying27) ?_
  refine TL.gd (by first | exact Pu.fb ty_fa30_1 | exact Pu.fe ty_fa30_1) ?_
  refine TL.gd (Pu.ld ty_sc27) ?_
  refine TL.gd (Pu.ln Tryz.underlying27) ?_
  refine TL.gd Pu.ne ?_
  refine TL.lit (t := 22) (b' := false) rfl ((by simp)) ?_
  refine TL.p Pu.kf ?_
  refine TL.p Pu.mv ?_
  refine TL.gd (by first | exact Pu.fb ty_fa30_2 | exact Pu.fe ty_fa30_2) ?_
  refine TL.gd (Pu.ld ty_sc28) ?_
  refine TL.gd (Pu.ln Tryz.underlying28) ?_
  refine TL.gd (by first | exact Pu.fb ty_fa30_2 | exact Pu.fe ty_fa30_2) ?_
  refine TL.gd (Pu.ld ty_sc28) ?_
  refine TL.gd (Pu.ln Tryz.underlying28) ?_
  refine TL.gd Pu.ne ?_
  refine TL.lit (t := 31) (b' := false) rfl ((by simp)) ?_
  refine TL.p Pu.kf ?_
  refine TL.nil ?_
  refine TQ.thenN (hY3 _ _ ?_)
  refine TW.condF rfl rfl ?_
  refine TW.skip ?_
  refine TQ.thenN (hY2 _ _ ?_)
  refine TW.seq fun Y4 hY4 => ?_
  refine TW.seq fun Y5 hY5 => ?_
  refine TW.region ?_
  refine TL.p Pu.as ?_
  refine TL.nil ?_
  refine TQ.thenN (hY5 _ _ ?_)
  refine TW.block ?_
  refine TW.loop1 (fun (i : Nat) => [(5, .int .i64 (i : Int)), (2, .pointer (some ⟨b1, 0, none⟩)), (3, .pointer (some ⟨b2, 0, none⟩))]) (fun i => [.blk b1 30 [.slice C nc cc, .slice D nd cd, .slice B nb cb], .blk b2 30 [.slice C' nc cc', .slice D' nd cd', .slice B' nb cb']]) (fun i => i ≤ nc) (fun i => nc - i) 0 fs9 ?_ ?_ ?_
  exact ks9
  exact Nat.zero_le _
  rintro i hi Z0 hZ0
  refine TW.seq fun Y6 hY6 => ?_
  refine TW.seq fun Y7 hY7 => ?_
  refine TW.region ?_
  refine TL.p Pu.mv ?_
  refine TL.p (by first | exact Pu.fb ty_fa30_0 | exact Pu.fe ty_fa30_0) ?_
  refine TL.p (Pu.ld ty_sc26) ?_
  refine TL.p (Pu.ln Tryz.underlying26) ?_
  refine TL.p Pu.lt ?_
  refine TL.nil ?_
  refine TQ.thenN (hY7 _ _ ?_)
  refine TW.cond rfl (fun hc1 => ?_) (fun hc1 => ?_)
  try simp only [decide_eq_true_eq, decide_eq_false_iff_not, Bool.not_eq_true', Bool.not_eq_false', Bool.and_eq_true, Bool.or_eq_true, Bool.and_eq_false_iff, Bool.or_eq_false_iff, Int.not_lt, Int.not_le] at hc1
  have hin : i < nc := by omega
  refine TW.skip ?_
  refine TQ.thenN (hY6 _ _ ?_)
  refine TW.seq fun Y8 hY8 => ?_
  refine TW.block ?_
  refine TW.seq fun Y9 hY9 => ?_
  refine TW.dw 11 ?_
  refine RK.tk (by first | exact Pu.fb ty_fa30_0 | exact Pu.fe ty_fa30_0) ?_
  refine RK.tk (Pu.ld ty_sc26) ?_
  refine RK.tk Pu.mv ?_
  refine RK.tk (Pu.el ty_et26) ?_
  refine RK.tk (Pu.lds ty_ag71) ?_
  refine RK.tk (by first | exact Pu.fb ty_fa30_0 | exact Pu.fe ty_fa30_0) ?_
  refine RK.tk (Pu.ld ty_sc26) ?_
  refine RK.tk Pu.mv ?_
  refine RK.tk (Pu.el ty_et26) ?_
  refine RK.tk (Pu.lds ty_ag71) ?_
  refine RK.tk (Pu.bn rfl rfl (fun w => neClaim _ _ (c i) w)) ?_
  refine RK.ch [] ?_ trivial
  refine WK.n ?_
  refine TL.nil ?_
  refine TQ.thenN (hY9 _ _ ?_)
  refine TW.condF rfl (rfl) ?_
  refine TW.skip ?_
  refine TQ.blkN ?_
  refine TQ.thenN (hY8 _ _ ?_)
  refine TW.region ?_
  refine TL.p Pu.mv ?_
  refine TL.p Pu.ad ?_
  refine TL.p Pu.as ?_
  refine TL.nil ?_
  refine TQ.thenN (hZ0 (i + 1) _ _ ?_ ?_ fs9 ?_)
  exact (by omega)
  exact (by first | omega | (simp only []; omega) | (simp; omega))
  exact ks9
  try simp only [decide_eq_true_eq, decide_eq_false_iff_not, Bool.not_eq_true', Bool.not_eq_false', Bool.and_eq_true, Bool.or_eq_true, Bool.and_eq_false_iff, Bool.or_eq_false_iff, Int.not_lt, Int.not_le] at hc1
  have hin : i = nc := by omega
  refine TW.exit ?_
  refine TQ.thenX ?_
  refine TQ.thenX ?_
  refine TQ.blkX ?_
  refine TQ.thenN (hY4 _ _ ?_)
  refine TW.seq fun Y10 hY10 => ?_
  refine TW.seq fun Y11 hY11 => ?_
  refine TW.region ?_
  refine TL.p Pu.as ?_
  refine TL.nil ?_
  refine TQ.thenN (hY11 _ _ ?_)
  refine TW.block ?_
  refine TW.loop1 (fun (i : Nat) => [(6, .int .i64 (i : Int)), (2, .pointer (some ⟨b1, 0, none⟩)), (3, .pointer (some ⟨b2, 0, none⟩))]) (fun i => [.blk b1 30 [.slice C nc cc, .slice D nd cd, .slice B nb cb], .blk b2 30 [.slice C' nc cc', .slice D' nd cd', .slice B' nb cb']]) (fun i => i ≤ nd) (fun i => nd - i) 0 fs9 ?_ ?_ ?_
  exact ks9
  exact Nat.zero_le _
  rintro i hi2 Z1 hZ1
  refine TW.seq fun Y12 hY12 => ?_
  refine TW.seq fun Y13 hY13 => ?_
  refine TW.region ?_
  refine TL.p Pu.mv ?_
  refine TL.p (by first | exact Pu.fb ty_fa30_1 | exact Pu.fe ty_fa30_1) ?_
  refine TL.p (Pu.ld ty_sc27) ?_
  refine TL.p (Pu.ln Tryz.underlying27) ?_
  refine TL.p Pu.lt ?_
  refine TL.nil ?_
  refine TQ.thenN (hY13 _ _ ?_)
  refine TW.cond rfl (fun hc3 => ?_) (fun hc3 => ?_)
  try simp only [decide_eq_true_eq, decide_eq_false_iff_not, Bool.not_eq_true', Bool.not_eq_false', Bool.and_eq_true, Bool.or_eq_true, Bool.and_eq_false_iff, Bool.or_eq_false_iff, Int.not_lt, Int.not_le] at hc3
  have hin2 : i < nd := by omega
  refine TW.skip ?_
  refine TQ.thenN (hY12 _ _ ?_)
  refine TW.seq fun Y14 hY14 => ?_
  refine TW.block ?_
  refine TW.seq fun Y15 hY15 => ?_
  refine TW.dw 11 ?_
  refine RK.tk (by first | exact Pu.fb ty_fa30_1 | exact Pu.fe ty_fa30_1) ?_
  refine RK.tk (Pu.ld ty_sc27) ?_
  refine RK.tk Pu.mv ?_
  refine RK.tk (Pu.el ty_et27) ?_
  refine RK.tk (Pu.lds ty_ag73) ?_
  refine RK.tk (by first | exact Pu.fb ty_fa30_1 | exact Pu.fe ty_fa30_1) ?_
  refine RK.tk (Pu.ld ty_sc27) ?_
  refine RK.tk Pu.mv ?_
  refine RK.tk (Pu.el ty_et27) ?_
  refine RK.tk (Pu.lds ty_ag73) ?_
  refine RK.tk (Pu.bn rfl rfl (fun w => neFeud _ _ (d i) w)) ?_
  refine RK.ch [] ?_ trivial
  refine WK.n ?_
  refine TL.nil ?_
  refine TQ.thenN (hY15 _ _ ?_)
  refine TW.condF rfl (rfl) ?_
  refine TW.skip ?_
  refine TQ.blkN ?_
  refine TQ.thenN (hY14 _ _ ?_)
  refine TW.region ?_
  refine TL.p Pu.mv ?_
  refine TL.p Pu.ad ?_
  refine TL.p Pu.as ?_
  refine TL.nil ?_
  refine TQ.thenN (hZ1 (i + 1) _ _ ?_ ?_ fs9 ?_)
  exact (by omega)
  exact (by first | omega | (simp only []; omega) | (simp; omega))
  exact ks9
  try simp only [decide_eq_true_eq, decide_eq_false_iff_not, Bool.not_eq_true', Bool.not_eq_false', Bool.and_eq_true, Bool.or_eq_true, Bool.and_eq_false_iff, Bool.or_eq_false_iff, Int.not_lt, Int.not_le] at hc3
  have hin2 : i = nd := by omega
  refine TW.exit ?_
  refine TQ.thenX ?_
  refine TQ.thenX ?_
  refine TQ.blkX ?_
  refine TQ.thenN (hY10 _ _ ?_)
  refine TW.seq fun Y16 hY16 => ?_
  refine TW.seq fun Y17 hY17 => ?_
  refine TW.region ?_
  refine TL.p Pu.as ?_
  refine TL.nil ?_
  refine TQ.thenN (hY17 _ _ ?_)
  refine TW.block ?_
  refine TW.loop1 (fun (i : Nat) => [(7, .int .i64 (i : Int)), (2, .pointer (some ⟨b1, 0, none⟩)), (3, .pointer (some ⟨b2, 0, none⟩))]) (fun i => [.blk b1 30 [.slice C nc cc, .slice D nd cd, .slice B nb cb], .blk b2 30 [.slice C' nc cc', .slice D' nd cd', .slice B' nb cb']]) (fun i => i ≤ nb) (fun i => nb - i) 0 fs9 ?_ ?_ ?_
  exact ks9
  exact Nat.zero_le _
  rintro i hi3 Z2 hZ2
  refine TW.seq fun Y18 hY18 => ?_
  refine TW.seq fun Y19 hY19 => ?_
  refine TW.region ?_
  refine TL.p Pu.mv ?_
  refine TL.p (by first | exact Pu.fb ty_fa30_2 | exact Pu.fe ty_fa30_2) ?_
  refine TL.p (Pu.ld ty_sc28) ?_
  refine TL.p (Pu.ln Tryz.underlying28) ?_
  refine TL.p Pu.lt ?_
  refine TL.nil ?_
  refine TQ.thenN (hY19 _ _ ?_)
  refine TW.cond rfl (fun hc5 => ?_) (fun hc5 => ?_)
  try simp only [decide_eq_true_eq, decide_eq_false_iff_not, Bool.not_eq_true', Bool.not_eq_false', Bool.and_eq_true, Bool.or_eq_true, Bool.and_eq_false_iff, Bool.or_eq_false_iff, Int.not_lt, Int.not_le] at hc5
  have hin3 : i < nb := by omega
  refine TW.skip ?_
  refine TQ.thenN (hY18 _ _ ?_)
  refine TW.seq fun Y20 hY20 => ?_
  refine TW.block ?_
  refine TW.seq fun Y21 hY21 => ?_
  refine TW.dw 11 ?_
  refine RK.tk (by first | exact Pu.fb ty_fa30_2 | exact Pu.fe ty_fa30_2) ?_
  refine RK.tk (Pu.ld ty_sc28) ?_
  refine RK.tk Pu.mv ?_
  refine RK.tk (Pu.el ty_et28) ?_
  refine RK.tk (Pu.lds ty_ag75) ?_
  refine RK.tk (by first | exact Pu.fb ty_fa30_2 | exact Pu.fe ty_fa30_2) ?_
  refine RK.tk (Pu.ld ty_sc28) ?_
  refine RK.tk Pu.mv ?_
  refine RK.tk (Pu.el ty_et28) ?_
  refine RK.tk (Pu.lds ty_ag75) ?_
  refine RK.tk (Pu.bn rfl rfl (fun w => neBorder _ _ (b i) w)) ?_
  refine RK.ch [] ?_ trivial
  refine WK.n ?_
  refine TL.nil ?_
  refine TQ.thenN (hY21 _ _ ?_)
  refine TW.condF rfl (rfl) ?_
  refine TW.skip ?_
  refine TQ.blkN ?_
  refine TQ.thenN (hY20 _ _ ?_)
  refine TW.region ?_
  refine TL.p Pu.mv ?_
  refine TL.p Pu.ad ?_
  refine TL.p Pu.as ?_
  refine TL.nil ?_
  refine TQ.thenN (hZ2 (i + 1) _ _ ?_ ?_ fs9 ?_)
  exact (by omega)
  exact (by first | omega | (simp only []; omega) | (simp; omega))
  exact ks9
  try simp only [decide_eq_true_eq, decide_eq_false_iff_not, Bool.not_eq_true', Bool.not_eq_false', Bool.and_eq_true, Bool.or_eq_true, Bool.and_eq_false_iff, Bool.or_eq_false_iff, Int.not_lt, Int.not_le] at hc5
  have hin3 : i = nb := by omega
  refine TW.exit ?_
  refine TQ.thenX ?_
  refine TQ.thenX ?_
  refine TQ.blkX ?_
  refine TQ.thenN (hY16 _ _ ?_)
  refine TW.seq fun Y22 hY22 => ?_
  refine TW.region ?_
  refine TL.p Pu.as ?_
  refine TL.nil ?_
  refine TQ.thenN (hY22 _ _ ?_)
  refine TW.ret ?_
  refine TQ.ret Tryz.results24 rfl ((.tmp rfl .nil)) ?_
  exact fun w hw => Ret.of hw
set_option maxRecDepth 100000 in
set_option maxHeartbeats 4000000 in
theorem same3_any {W A W' A' : Option Addr} {nw cw nl cl cw' cl' : Nat} {f : Nat → Nat → Int} {x : Nat → Leg} {a : Nat → Option Addr} {e : Nat → Nat} {g : Nat → Nat → Nat → Int} {w : World} (h' : LandIn w W' nw A' nl f (fun k => lgA (x k) (a k) (e k)) g) (h : LandIn w W nw A nl f x g) :
    Calls Tryz.prog 23 #[.agg (landL W' nw cw' A' nl cl').toArray, .agg (landL W nw cw A nl cl).toArray] w (Ret w (.bool true)) := by
  have hRW := h.hW
  have hRA := h.hA
  have hRW' := h'.hW
  have hRA' := h'.hA
  have hnw := h.hnw
  have hnl := h.hnl
  unfold landL
  refine K_enter (S := []) (K := []) Tryz.func23 rfl Tryz.ntmps23 rfl (Sat.start _) ?_
  refine TW.seq fun Y1 hY1 => ?_
  refine TW.region ?_
  refine TL.m Mk.bx ?_
  intro b1
  refine TL.m Mk.bx ?_
  intro b2
  refine TL.p Pu.as ?_
  refine TL.nil ?_
  refine TQ.thenN (hY1 _ _ ?_)
  refine TW.seq fun Y2 hY2 => ?_
  refine TW.seq fun Y3 hY3 => ?_
  refine TW.region ?_
  refine TL.p (by first | exact Pu.fb ty_fa25_0 | exact Pu.fe ty_fa25_0) ?_
  refine TL.p (Pu.ld ty_sc22) ?_
  refine TL.p (Pu.ln Tryz.underlying22) ?_
  refine TL.p (by first | exact Pu.fb ty_fa25_0 | exact Pu.fe ty_fa25_0) ?_
  refine TL.p (Pu.ld ty_sc22) ?_
  refine TL.p (Pu.ln Tryz.underlying22) ?_
  refine TL.p Pu.ne ?_
  refine TL.lit (t := 16) (b' := false) rfl ((by simp)) ?_
  refine TL.p Pu.mv ?_
  refine TL.gd (by first | exact Pu.fb ty_fa25_1 | exact Pu.fe ty_fa25_1) ?_
  refine TL.gd (Pu.ld ty_sc23) ?_
  refine TL.gd (Pu.ln Tryz.underlying23) ?_
  refine TL.gd (by first | exact Pu.fb ty_fa25_1 | exact Pu.fe ty_fa25_1) ?_
  refine TL.gd (Pu.ld ty_sc23) ?_
  refine TL.gd (Pu.ln Tryz.underlying23) ?_
  refine TL.gd Pu.ne ?_
  refine TL.lit (t := 24) (b' := false) rfl ((by simp)) ?_
  refine TL.p Pu.kf ?_
  refine TL.nil ?_
  refine TQ.thenN (hY3 _ _ ?_)
  refine TW.condF rfl rfl ?_
  refine TW.skip ?_
  refine TQ.thenN (hY2 _ _ ?_)
  refine TW.seq fun Y4 hY4 => ?_
  refine TW.seq fun Y5 hY5 => ?_
  refine TW.region ?_
  refine TL.p Pu.as ?_
  refine TL.nil ?_
  refine TQ.thenN (hY5 _ _ ?_)
  refine TW.block ?_
  refine TW.loop1 (fun (i : Nat) => [(5, .int .i64 (i : Int)), (2, .pointer (some ⟨b1, 0, none⟩)), (3, .pointer (some ⟨b2, 0, none⟩))]) (fun i => [.blk b1 25 [.slice W' nw cw', .slice A' nl cl'], .blk b2 25 [.slice W nw cw, .slice A nl cl]]) (fun i => i ≤ nw) (fun i => nw - i) 0 fs9 ?_ ?_ ?_
  exact ks9
  exact Nat.zero_le _
  rintro i hi Z0 hZ0
  refine TW.seq fun Y6 hY6 => ?_
  refine TW.seq fun Y7 hY7 => ?_
  refine TW.region ?_
  refine TL.p Pu.mv ?_
  refine TL.p (by first | exact Pu.fb ty_fa25_0 | exact Pu.fe ty_fa25_0) ?_
  refine TL.p (Pu.ld ty_sc22) ?_
  refine TL.p (Pu.ln Tryz.underlying22) ?_
  refine TL.p Pu.lt ?_
  refine TL.nil ?_
  refine TQ.thenN (hY7 _ _ ?_)
  refine TW.cond rfl (fun hc1 => ?_) (fun hc1 => ?_)
  try simp only [decide_eq_true_eq, decide_eq_false_iff_not, Bool.not_eq_true', Bool.not_eq_false', Bool.and_eq_true, Bool.or_eq_true, Bool.and_eq_false_iff, Bool.or_eq_false_iff, Int.not_lt, Int.not_le] at hc1
  have hin : i < nw := by omega
  refine TW.skip ?_
  refine TQ.thenN (hY6 _ _ ?_)
  refine TW.seq fun Y8 hY8 => ?_
  refine TW.block ?_
  refine TW.seq fun Y9 hY9 => ?_
  refine TW.dw 11 ?_
  refine RK.tk (by first | exact Pu.fb ty_fa25_0 | exact Pu.fe ty_fa25_0) ?_
  refine RK.tk (Pu.ld ty_sc22) ?_
  refine RK.tk Pu.mv ?_
  refine RK.tk (Pu.el ty_et22) ?_
  refine RK.tk (Pu.lds ty_ag136) ?_
  refine RK.tk (by first | exact Pu.fb ty_fa25_0 | exact Pu.fe ty_fa25_0) ?_
  refine RK.tk (Pu.ld ty_sc22) ?_
  refine RK.tk Pu.mv ?_
  refine RK.tk (Pu.el ty_et22) ?_
  refine RK.tk (Pu.lds ty_ag136) ?_
  refine RK.tk (Pu.bn rfl rfl (fun w => neWell _ _ (f i) w)) ?_
  refine RK.ch [] ?_ trivial
  refine WK.n ?_
  refine TL.nil ?_
  refine TQ.thenN (hY9 _ _ ?_)
  refine TW.condF rfl (rfl) ?_
  refine TW.skip ?_
  refine TQ.blkN ?_
  refine TQ.thenN (hY8 _ _ ?_)
  refine TW.region ?_
  refine TL.p Pu.mv ?_
  refine TL.p Pu.ad ?_
  refine TL.p Pu.as ?_
  refine TL.nil ?_
  refine TQ.thenN (hZ0 (i + 1) _ _ ?_ ?_ fs9 ?_)
  exact (by omega)
  exact (by first | omega | (simp only []; omega) | (simp; omega))
  exact ks9
  try simp only [decide_eq_true_eq, decide_eq_false_iff_not, Bool.not_eq_true', Bool.not_eq_false', Bool.and_eq_true, Bool.or_eq_true, Bool.and_eq_false_iff, Bool.or_eq_false_iff, Int.not_lt, Int.not_le] at hc1
  have hin : i = nw := by omega
  refine TW.exit ?_
  refine TQ.thenX ?_
  refine TQ.thenX ?_
  refine TQ.blkX ?_
  refine TQ.thenN (hY4 _ _ ?_)
  refine TW.seq fun Y10 hY10 => ?_
  refine TW.seq fun Y11 hY11 => ?_
  refine TW.region ?_
  refine TL.p Pu.as ?_
  refine TL.nil ?_
  refine TQ.thenN (hY11 _ _ ?_)
  refine TW.block ?_
  refine TW.loop1 (fun (i : Nat) => [(6, .int .i64 (i : Int)), (2, .pointer (some ⟨b1, 0, none⟩)), (3, .pointer (some ⟨b2, 0, none⟩))]) (fun i => [.blk b1 25 [.slice W' nw cw', .slice A' nl cl'], .blk b2 25 [.slice W nw cw, .slice A nl cl]]) (fun i => i ≤ nl) (fun i => nl - i) 0 fs9 ?_ ?_ ?_
  exact ks9
  exact Nat.zero_le _
  rintro i hi2 Z1 hZ1
  refine TW.seq fun Y12 hY12 => ?_
  refine TW.seq fun Y13 hY13 => ?_
  refine TW.region ?_
  refine TL.p Pu.mv ?_
  refine TL.p (by first | exact Pu.fb ty_fa25_1 | exact Pu.fe ty_fa25_1) ?_
  refine TL.p (Pu.ld ty_sc23) ?_
  refine TL.p (Pu.ln Tryz.underlying23) ?_
  refine TL.p Pu.lt ?_
  refine TL.nil ?_
  refine TQ.thenN (hY13 _ _ ?_)
  refine TW.cond rfl (fun hc3 => ?_) (fun hc3 => ?_)
  try simp only [decide_eq_true_eq, decide_eq_false_iff_not, Bool.not_eq_true', Bool.not_eq_false', Bool.and_eq_true, Bool.or_eq_true, Bool.and_eq_false_iff, Bool.or_eq_false_iff, Int.not_lt, Int.not_le] at hc3
  have hin2 : i < nl := by omega
  have hG1 := h.hG i hin2
  have hG2 : RdR w 4 (a i) (x i).n (fun j => gateL (g i j)) := h'.hG i hin2
  have hgn := h.hn i hin2
  refine TW.skip ?_
  refine TQ.thenN (hY12 _ _ ?_)
  refine TW.seq fun Y14 hY14 => ?_
  refine TW.block ?_
  refine TW.seq fun Y15 hY15 => ?_
  refine TW.expl (fun (⟨x10, x11⟩ : Nat × Nat) => ([(6, .int .i64 (i : Int)), (7, .pointer (some ⟨x10, 0, none⟩)), (8, .pointer (some ⟨x11, 0, none⟩)), (2, .pointer (some ⟨b1, 0, none⟩)), (3, .pointer (some ⟨b2, 0, none⟩))] : Fr)) (fun (⟨x10, x11⟩ : Nat × Nat) => [.blk x10 122 [.int .i64 ((x i).u 0), .int .i64 ((x i).u 1), .int .i64 ((x i).u 2), .int .i64 ((x i).u 3), .slice (a i) (x i).n (e i)], .blk x11 122 [.int .i64 ((x i).u 0), .int .i64 ((x i).u 1), .int .i64 ((x i).u 2), .int .i64 ((x i).u 3), .slice (x i).A (x i).n (x i).c], .blk b1 25 [.slice W' nw cw', .slice A' nl cl'], .blk b2 25 [.slice W nw cw, .slice A nl cl]]) Drop.done ?_ (fun hE => ?_)
  rintro ⟨x10, x11⟩
  refine TQ.thenN (hY15 _ _ ?_)
  refine TW.seq fun Y16 hY16 => ?_
  refine TW.seq fun Y17 hY17 => ?_
  refine TW.region ?_
  refine TL.p (by first | exact Pu.fb ty_fa122_0 | exact Pu.fe ty_fa122_0) ?_
  refine TL.p (Pu.ld ty_sc3) ?_
  refine TL.p (by first | exact Pu.fb ty_fa122_0 | exact Pu.fe ty_fa122_0) ?_
  refine TL.p (Pu.ld ty_sc3) ?_
  refine TL.p Pu.ne ?_
  refine TL.lit (t := 65) (b' := false) rfl ((by simp)) ?_
  refine TL.p Pu.mv ?_
  refine TL.gd (by first | exact Pu.fb ty_fa122_1 | exact Pu.fe ty_fa122_1) ?_
  refine TL.gd (Pu.ld ty_sc3) ?_
  refine TL.gd (by first | exact Pu.fb ty_fa122_1 | exact Pu.fe ty_fa122_1) ?_
  refine TL.gd (Pu.ld ty_sc3) ?_
  refine TL.gd Pu.ne ?_
  refine TL.lit (t := 71) (b' := false) rfl ((by simp)) ?_
  refine TL.p Pu.kf ?_
  refine TL.p Pu.mv ?_
  refine TL.gd (by first | exact Pu.fb ty_fa122_2 | exact Pu.fe ty_fa122_2) ?_
  refine TL.gd (Pu.lds ty_ag35) ?_
  refine TL.gd (by first | exact Pu.fb ty_fa122_2 | exact Pu.fe ty_fa122_2) ?_
  refine TL.gd (Pu.lds ty_ag35) ?_
  refine TL.gd (Pu.bn rfl rfl (fun w => neSpan _ _ ((x i).u 2) ((x i).u 3) w)) ?_
  refine TL.lit (t := 78) (b' := false) rfl (rfl) ?_
  refine TL.p Pu.kf ?_
  refine TL.p Pu.mv ?_
  refine TL.gd (by first | exact Pu.fb ty_fa122_3 | exact Pu.fe ty_fa122_3) ?_
  refine TL.gd (Pu.ld ty_sc120) ?_
  refine TL.gd (Pu.ln Tryz.underlying120) ?_
  refine TL.gd (by first | exact Pu.fb ty_fa122_3 | exact Pu.fe ty_fa122_3) ?_
  refine TL.gd (Pu.ld ty_sc120) ?_
  refine TL.gd (Pu.ln Tryz.underlying120) ?_
  refine TL.gd Pu.ne ?_
  refine TL.lit (t := 87) (b' := false) rfl ((by simp)) ?_
  refine TL.p Pu.kf ?_
  refine TL.nil ?_
  refine TQ.thenN (hY17 _ _ ?_)
  refine TW.condF rfl rfl ?_
  refine TW.skip ?_
  refine TQ.thenN (hY16 _ _ ?_)
  refine TW.seq fun Y18 hY18 => ?_
  refine TW.region ?_
  refine TL.p Pu.as ?_
  refine TL.nil ?_
  refine TQ.thenN (hY18 _ _ ?_)
  refine TW.block ?_
  refine TW.loop1 (fun (j : Nat) => [(9, .int .i64 (j : Int)), (6, .int .i64 (i : Int)), (7, .pointer (some ⟨x10, 0, none⟩)), (8, .pointer (some ⟨x11, 0, none⟩)), (2, .pointer (some ⟨b1, 0, none⟩)), (3, .pointer (some ⟨b2, 0, none⟩))]) (fun j => [.blk x10 122 [.int .i64 ((x i).u 0), .int .i64 ((x i).u 1), .int .i64 ((x i).u 2), .int .i64 ((x i).u 3), .slice (a i) (x i).n (e i)], .blk x11 122 [.int .i64 ((x i).u 0), .int .i64 ((x i).u 1), .int .i64 ((x i).u 2), .int .i64 ((x i).u 3), .slice (x i).A (x i).n (x i).c], .blk b1 25 [.slice W' nw cw', .slice A' nl cl'], .blk b2 25 [.slice W nw cw, .slice A nl cl]]) (fun j => j ≤ (x i).n) (fun j => (x i).n - j) 0 fs9 ?_ ?_ ?_
  exact ks9
  exact Nat.zero_le _
  rintro j hj Z2 hZ2
  refine TW.seq fun Y19 hY19 => ?_
  refine TW.seq fun Y20 hY20 => ?_
  refine TW.region ?_
  refine TL.p Pu.mv ?_
  refine TL.p (by first | exact Pu.fb ty_fa122_3 | exact Pu.fe ty_fa122_3) ?_
  refine TL.p (Pu.ld ty_sc120) ?_
  refine TL.p (Pu.ln Tryz.underlying120) ?_
  refine TL.p Pu.lt ?_
  refine TL.nil ?_
  refine TQ.thenN (hY20 _ _ ?_)
  refine TW.cond rfl (fun hc5 => ?_) (fun hc5 => ?_)
  try simp only [decide_eq_true_eq, decide_eq_false_iff_not, Bool.not_eq_true', Bool.not_eq_false', Bool.and_eq_true, Bool.or_eq_true, Bool.and_eq_false_iff, Bool.or_eq_false_iff, Int.not_lt, Int.not_le] at hc5
  have hjn : j < (x i).n := by omega
  refine TW.skip ?_
  refine TQ.thenN (hY19 _ _ ?_)
  refine TW.seq fun Y21 hY21 => ?_
  refine TW.block ?_
  refine TW.seq fun Y22 hY22 => ?_
  refine TW.dw 11 ?_
  refine RK.tk (by first | exact Pu.fb ty_fa122_3 | exact Pu.fe ty_fa122_3) ?_
  refine RK.tk (Pu.ld ty_sc120) ?_
  refine RK.tk Pu.mv ?_
  refine RK.tk (Pu.el ty_et120) ?_
  refine RK.tk (Pu.lds ty_ag138) ?_
  refine RK.tk (by first | exact Pu.fb ty_fa122_3 | exact Pu.fe ty_fa122_3) ?_
  refine RK.tk (Pu.ld ty_sc120) ?_
  refine RK.tk Pu.mv ?_
  refine RK.tk (Pu.el ty_et120) ?_
  refine RK.tk (Pu.lds ty_ag138) ?_
  refine RK.tk (Pu.bn rfl rfl (fun w => neGate _ _ (g i j) w)) ?_
  refine RK.ch [] ?_ trivial
  refine WK.n ?_
  refine TL.nil ?_
  refine TQ.thenN (hY22 _ _ ?_)
  refine TW.condF rfl (rfl) ?_
  refine TW.skip ?_
  refine TQ.blkN ?_
  refine TQ.thenN (hY21 _ _ ?_)
  refine TW.region ?_
  refine TL.p Pu.mv ?_
  refine TL.p Pu.ad ?_
  refine TL.p Pu.as ?_
  refine TL.nil ?_
  refine TQ.thenN (hZ2 (j + 1) _ _ ?_ ?_ fs9 ?_)
  exact (by omega)
  exact (by first | omega | (simp only []; omega) | (simp; omega))
  exact ks9
  try simp only [decide_eq_true_eq, decide_eq_false_iff_not, Bool.not_eq_true', Bool.not_eq_false', Bool.and_eq_true, Bool.or_eq_true, Bool.and_eq_false_iff, Bool.or_eq_false_iff, Int.not_lt, Int.not_le] at hc5
  have hjn : j = (x i).n := by omega
  refine TW.exit ?_
  refine TQ.thenX ?_
  refine TQ.thenX ?_
  refine TQ.blkX ?_
  refine TQ.blkN ?_
  refine TQ.thenN (hY14 _ _ ?_)
  refine TW.region ?_
  refine TL.p Pu.mv ?_
  refine TL.p Pu.ad ?_
  refine TL.p Pu.as ?_
  refine TL.nil ?_
  refine TQ.thenN (hZ1 (i + 1) _ _ ?_ ?_ fs9 ?_)
  exact (by omega)
  exact (by first | omega | (simp only []; omega) | (simp; omega))
  exact ks9
  refine RG.tk 0 rfl (by first | exact Pu.fb ty_fa25_1 | exact Pu.fe ty_fa25_1) ?_
  refine RG.tk 1 rfl (Pu.ld ty_sc23) ?_
  refine RG.tk 2 rfl Pu.mv ?_
  refine RG.tk 3 rfl (Pu.el ty_et23) ?_
  refine RG.tk 4 rfl (Pu.lds ty_ag122) ?_
  refine RG.tk 5 rfl (by first | exact Pu.fb ty_fa25_1 | exact Pu.fe ty_fa25_1) ?_
  refine RG.tk 6 rfl (Pu.ld ty_sc23) ?_
  refine RG.tk 7 rfl Pu.mv ?_
  refine RG.tk 8 rfl (Pu.el ty_et23) ?_
  refine RG.tk 9 rfl (Pu.lds ty_ag122) ?_
  refine RG.a2 10 11 rfl rfl (fun X10 hX10 => ?_) (fun X11 hX11 => ?_)
  refine TL.m (Mk.al ty_zr122) ?_
  intro x10
  refine TL.nil ?_
  refine TQ.nxt (hX10 _ _ hl9 ?_)
  refine RG.a1 11 rfl (fun X11 hX11 => ?_)
  refine TL.m (Mk.al ty_zr122) ?_
  intro x11
  refine TL.nil ?_
  refine TQ.nxt (hX11 _ _ hl9 ?_)
  refine RG.a1 12 rfl (fun X12 hX12 => ?_)
  first | refine TL.st ty_sz122 ?_ | refine TL.se ty_sz122 ?_
  refine TL.nil ?_
  refine TQ.nxt (hX12 _ _ hl9 ?_)
  refine RG.a1 13 rfl (fun X13 hX13 => ?_)
  first | refine TL.st ty_sz122 ?_ | refine TL.se ty_sz122 ?_
  refine TL.nil ?_
  refine TQ.nxt (hX13 _ _ hl9 ?_)
  exact RG.nil (TQ.sub fs9 kt9 (hE ⟨x10, x11⟩)) (by kernel_rfl)
  refine TL.m (Mk.al ty_zr122) ?_
  intro x11
  refine TL.nil ?_
  refine TQ.nxt (hX11 _ _ hl9 ?_)
  refine RG.a1 10 rfl (fun X10 hX10 => ?_)
  refine TL.m (Mk.al ty_zr122) ?_
  intro x10
  refine TL.nil ?_
  refine TQ.nxt (hX10 _ _ hl9 ?_)
  refine RG.a1 12 rfl (fun X12 hX12 => ?_)
  first | refine TL.st ty_sz122 ?_ | refine TL.se ty_sz122 ?_
  refine TL.nil ?_
  refine TQ.nxt (hX12 _ _ hl9 ?_)
  refine RG.a1 13 rfl (fun X13 hX13 => ?_)
  first | refine TL.st ty_sz122 ?_ | refine TL.se ty_sz122 ?_
  refine TL.nil ?_
  refine TQ.nxt (hX13 _ _ hl9 ?_)
  exact RG.nil (TQ.sub fs9 kt9 (hE ⟨x10, x11⟩)) (by kernel_rfl)
  try simp only [decide_eq_true_eq, decide_eq_false_iff_not, Bool.not_eq_true', Bool.not_eq_false', Bool.and_eq_true, Bool.or_eq_true, Bool.and_eq_false_iff, Bool.or_eq_false_iff, Int.not_lt, Int.not_le] at hc3
  have hin2 : i = nl := by omega
  refine TW.exit ?_
  refine TQ.thenX ?_
  refine TQ.thenX ?_
  refine TQ.blkX ?_
  refine TQ.thenN (hY10 _ _ ?_)
  refine TW.seq fun Y23 hY23 => ?_
  refine TW.region ?_
  refine TL.p Pu.as ?_
  refine TL.nil ?_
  refine TQ.thenN (hY23 _ _ ?_)
  refine TW.ret ?_
  refine TQ.ret Tryz.results23 rfl ((.tmp rfl .nil)) ?_
  exact fun w hw => Ret.of hw
end Go.Proofs.YtmonkjnfjgidbaaGreatDoor
