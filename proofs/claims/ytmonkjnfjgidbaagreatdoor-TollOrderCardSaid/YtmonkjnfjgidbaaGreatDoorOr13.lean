/-
  The statement TollOrderCardSaid: for every input the law TollOrder returns true, and its arguments read afterwards as before; toll.bars reads as the program's text lays it, by the tie that is given. No other condition.
-/
import Derived.Test.YtmonkjnfjgidbaaGreatDoorOr12
import Derived.Test.YtmonkjnfjgidbaaGreatDoorOr10
import Derived.WideKeyRuns
import Derived.Test.YtmonkjnfjgidbaaGreatDoorOr02
import Derived.ProofKit
import Derived.Deep.Slices
import Derived.Carry
import Derived.Test.YtmonkjnfjgidbaaGreatDoorRows
import Derived.OpenShut
import Derived.LaidMore
import Derived.Stop.Joined
import Derived.Test.YtmonkjnfjgidbaaGreatDoorTie
import Derived.Test.YtmonkjnfjgidbaaGreatDoorCards
import Derived.SevenTiedAt
namespace Go.Proofs.YtmonkjnfjgidbaaGreatDoor
set_option linter.all false
set_option linter.unusedVariables false
set_option linter.unusedSimpArgs false
open Go.RowKit
structure Sws {X : Type} (E : X → X → Prop) (n : Nat) (c v : Nat → X) : Prop where
  l : ∀ k, k < n → ∃ j, j < n ∧ E (v j) (c k)
  r : ∀ k, k < n → ∃ j, j < n ∧ E (v k) (c j)
theorem Sws.refl {X : Type} {E : X → X → Prop} (h : ∀ x, E x x) {n : Nat} {c : Nat → X} : Sws E n c c := ⟨fun k hk => ⟨k, hk, h _⟩, fun k hk => ⟨k, hk, h _⟩⟩
theorem Sws.swap {X : Type} {E : X → X → Prop} {n i k : Nat} {c v : Nat → X} {a b : X} (h : Sws E n c v) (hi : i < n) (hk : k < n) (ha : ∀ y, E (v k) y ↔ E a y) (hb : ∀ y, E (v i) y ↔ E b y) : Sws E n c (updA (updA v i a) k b) := by
  have key : ∀ j, ∃ q, (q = if j = i then k else if j = k then i else j) := fun j => ⟨_, rfl⟩
  constructor
  · intro m hm
    obtain ⟨j, hj, e⟩ := h.l m hm
    by_cases h1 : j = i
    · subst h1
      refine ⟨k, hk, ?_⟩
      show E (if k = k then b else _) _
      rw [if_pos rfl]
      exact (hb _).1 e
    · by_cases h2 : j = k
      · subst h2
        refine ⟨i, hi, ?_⟩
        show E (if i = j then b else (if i = i then a else v i)) _
        rw [if_neg (fun h9 => h1 h9.symm), if_pos rfl]
        exact (ha _).1 e
      · refine ⟨j, hj, ?_⟩
        show E (if j = k then b else (if j = i then a else v j)) _
        rw [if_neg h2, if_neg h1]
        exact e
  · intro j hj
    show ∃ q, q < n ∧ E (if j = k then b else (if j = i then a else v j)) (c q)
    by_cases h2 : j = k
    · rw [if_pos h2]
      obtain ⟨q, hq, e⟩ := h.r i hi
      exact ⟨q, hq, (hb _).1 e⟩
    · rw [if_neg h2]
      by_cases h1 : j = i
      · rw [if_pos h1]
        obtain ⟨q, hq, e⟩ := h.r k hk
        exact ⟨q, hq, (ha _).1 e⟩
      · rw [if_neg h1]
        exact h.r j hj
def sw4 (x : Nat → Int) : Nat → Int := fun j => if j = 0 then x 1 else if j = 1 then x 0 else x j
def FeuE (x y : Nat → Int) : Prop := x = y ∨ sw4 x = y
theorem sw4_sw4 {x : Nat → Int} : sw4 (sw4 x) = x := by
  funext j
  unfold sw4
  by_cases h0 : j = 0
  · subst h0; rfl
  · by_cases h1 : j = 1
    · subst h1; rfl
    · rw [if_neg h0, if_neg h1, if_neg h0, if_neg h1]
theorem feuE_sw {x y : Nat → Int} : FeuE x y ↔ FeuE (sw4 x) y := by
  unfold FeuE
  rw [sw4_sw4]
  exact or_comm
theorem feuE_R {x y : Nat → Int} (h : FeuE x y) (a b t : Int) : feuR a b t x = feuR a b t y := by
  rcases h with rfl | rfl
  · rfl
  · unfold feuR
    show _ = (inB5 (x 2) (x 3) t && (decide (x 1 = a) && decide (x 0 = b) || decide (x 1 = b) && decide (x 0 = a)))
    congr 1
    rw [Bool.or_comm, Bool.and_comm (decide (x 0 = b)), Bool.and_comm (decide (x 0 = a))]
theorem feuE_ok {x y : Nat → Int} (h : FeuE x y) : feudOk x = feudOk y := by
  rcases h with rfl | rfl
  · rfl
  · unfold feudOk
    show _ = (inB5 0 7 (x 1) && inB5 0 7 (x 0) && !decide (x 1 = x 0) && dayOk (x 2) (x 3))
    rw [Bool.and_comm (inB5 0 7 (x 0)), decide_eq_decide.2 (show x 0 = x 1 ↔ x 1 = x 0 from eq_comm)]
theorem feuE_day {x y : Nat → Int} (h : FeuE x y) : x 2 = y 2 ∧ x 3 = y 3 := by
  rcases h with rfl | rfl
  · exact ⟨rfl, rfl⟩
  · exact ⟨rfl, rfl⟩
theorem sws_all {X : Type} {E : X → X → Prop} {n : Nat} {c v : Nat → X} {p : X → Bool} (h : Sws E n c v) (hE : ∀ x y, E x y → p x = p y) : allB n (fun k => p (v k)) = allB n (fun k => p (c k)) := by
  rw [Bool.eq_iff_iff, allB_iff, allB_iff]
  constructor
  · intro h1 k hk
    obtain ⟨j, hj, e⟩ := h.l k hk
    rw [← hE _ _ e]; exact h1 j hj
  · intro h1 k hk
    obtain ⟨j, hj, e⟩ := h.r k hk
    rw [hE _ _ e]; exact h1 j hj
theorem sws_ex {X : Type} {E : X → X → Prop} {n : Nat} {c v : Nat → X} {p : X → Bool} (h : Sws E n c v) (hE : ∀ x y, E x y → p x = p y) : exB n (fun k => p (v k)) = exB n (fun k => p (c k)) := by
  rw [Bool.eq_iff_iff, exB_iff, exB_iff]
  constructor
  · rintro ⟨k, hk, e⟩
    obtain ⟨j, hj, e2⟩ := h.r k hk
    exact ⟨j, hj, by rw [← hE _ _ e2]; exact e⟩
  · rintro ⟨k, hk, e⟩
    obtain ⟨j, hj, e2⟩ := h.l k hk
    exact ⟨j, hj, by rw [hE _ _ e2]; exact e⟩
def DisC (Z : Cus) : Prop := ∀ i j, i < Z.nc → j < i → ¬ ((Z.c i).1 0 = (Z.c j).1 0 ∧ (Z.c i).1 1 = (Z.c j).1 1 ∧ (Z.c i).1 2 = (Z.c j).1 2)
def oth (Z : Cus) (v : Nat → (Nat → Int) × Bool) (f : Nat → Nat → Int) : Cus := { Z with c := v, d := f }
theorem prs_iff {f g : Nat → Int} {x : Int} : ∀ n, x ∈ prsL f g n ↔ ∃ k, k < n ∧ (x = f k ∨ x = g k)
  | 0 => by simp [prsL]
  | n + 1 => by
    simp only [prsL, List.mem_append, List.mem_cons, List.not_mem_nil, or_false, prs_iff n]
    constructor
    · rintro (⟨k, hk, h⟩ | h)
      · exact ⟨k, by omega, h⟩
      · exact ⟨n, by omega, h⟩
    · rintro ⟨k, hk, h⟩
      by_cases e : k = n
      · subst e; exact .inr h
      · exact .inl ⟨k, by omega, h⟩
theorem mn0_is {v : Nat → Int} : ∀ k, 0 < k → ∃ j, j < k ∧ mn0 v k = v j
  | 0, h => by omega
  | 1, _ => ⟨0, by omega, by rw [mn_first]; omega⟩
  | k + 2, _ => by
    rw [mn_next (by omega)]
    obtain ⟨j, hj, e⟩ := mn0_is (v := v) (k + 1) (by omega)
    by_cases h : mn0 v (k + 1) ≤ v (k + 1)
    · exact ⟨j, by omega, by omega⟩
    · exact ⟨k + 1, by omega, by omega⟩
theorem mx0_is {v : Nat → Int} : ∀ k, 0 ≤ mx0 v k ∧ (mx0 v k = 0 ∨ ∃ j, j < k ∧ mx0 v k = v j)
  | 0 => ⟨Int.le_refl _, .inl rfl⟩
  | k + 1 => by
    obtain ⟨h0, h1⟩ := mx0_is (v := v) k
    simp only [mx0]
    refine ⟨by omega, ?_⟩
    by_cases h : v k ≤ mx0 v k
    · rcases h1 with h1 | ⟨j, hj, e⟩
      · exact .inl (by omega)
      · exact .inr ⟨j, by omega, by omega⟩
    · exact .inr ⟨k, by omega, by omega⟩
theorem dHi_le {f : Int → Int} {L M : List Int} (h : ∀ x, x ∈ L → x ∈ M) : dHi f L ≤ dHi f M := by
  unfold dHi
  obtain ⟨h0, h1⟩ := mx0_is (v := fun j => f (L.getD j 0)) L.length
  rcases h1 with h1 | ⟨j, hj, e⟩
  · rw [h1]; exact (mx0_is _).1
  · rw [e]
    obtain ⟨i, hi, e2⟩ := mem_at (h _ (mem_getD hj))
    have := mx0_at (v := fun j => f (M.getD j 0)) M.length hi
    simp only [e2] at this
    exact this
theorem dLo_le {f : Int → Int} {L M : List Int} (h : ∀ x, x ∈ L → x ∈ M) (hL : 0 < L.length) : dLo f M ≤ dLo f L := by
  unfold dLo
  obtain ⟨j, hj, e⟩ := mn0_is (v := fun j => f (L.getD j 0)) L.length hL
  rw [e]
  obtain ⟨i, hi, e2⟩ := mem_at (h _ (mem_getD hj))
  have := mn0_at (v := fun j => f (M.getD j 0)) M.length hi
  simp only [e2] at this
  exact this
theorem dHi_set {f : Int → Int} {L M : List Int} (h : ∀ x, x ∈ L ↔ x ∈ M) : dHi f L = dHi f M := Int.le_antisymm (dHi_le fun x hx => (h x).1 hx) (dHi_le fun x hx => (h x).2 hx)
theorem dLo_set {f : Int → Int} {L M : List Int} (h : ∀ x, x ∈ L ↔ x ∈ M) : dLo f L = dLo f M := by
  cases L with
  | nil =>
    cases M with
    | nil => rfl
    | cons y M => exact absurd ((h y).2 (List.mem_cons_self ..)) (by simp)
  | cons x L =>
    cases M with
    | nil => exact absurd ((h x).1 (List.mem_cons_self ..)) (by simp)
    | cons y M => exact Int.le_antisymm (dLo_le (fun x hx => (h x).2 hx) (by simp)) (dLo_le (fun x hx => (h x).1 hx) (by simp))
theorem wr_set {f : Int → Int} (hf : ∀ t, 0 ≤ f t) {L M : List Int} (h : ∀ x, x ∈ L ↔ x ∈ M) : wrK f L 0 = wrK f M 0 := by
  rcases wr_spec hf L 0 (by omega) with ⟨a1, _, a2⟩ | ⟨a1, a2, _, a3⟩
  · rcases wr_spec hf M 0 (by omega) with ⟨b1, _, _⟩ | ⟨b1, b2, _, _⟩
    · rw [a1, b1]
    · obtain ⟨t, ht, e⟩ := b2.resolve_left (by omega)
      have := a2 t ((h t).2 ht)
      omega
  · obtain ⟨t, ht, e⟩ := a2.resolve_left (by omega)
    rcases wr_spec hf M 0 (by omega) with ⟨_, _, b2⟩ | ⟨b1, b2, _, b3⟩
    · have := b2 t ((h t).1 ht)
      omega
    · obtain ⟨s, hs, e2⟩ := b2.resolve_left (by omega)
      have h1 := a3 s ((h s).2 hs) (by omega)
      have h2 := b3 t ((h t).1 ht) (by omega)
      omega
section
variable {Z : Cus} {T : Trp} {v : Nat → (Nat → Int) × Bool} {f : Nat → Nat → Int}
theorem oth_chk {Y : Wy} (hc : Sws Eq Z.nc Z.c v) (hf : Sws FeuE Z.nd Z.d f) (h : chkY Y Z = 0) : chkY Y (oth Z v f) = 0 := by
  unfold chkY checkC custC at h ⊢
  have e1 : allB Z.nc (fun k => claimOk Y.nl (v k)) = allB Z.nc (fun k => claimOk Y.nl (Z.c k)) := sws_all (p := claimOk Y.nl) hc fun x y e => by rw [e]
  have e2 : allB Z.nd (fun k => feudOk (f k)) = allB Z.nd (fun k => feudOk (Z.d k)) := sws_all (p := feudOk) hf fun x y e => feuE_ok e
  show (if landOk Y.nw Y.nl Y.f Y.x Y.g = true then (if ((allB Z.nc fun k => claimOk Y.nl (v k)) && !decide (30 < (Z.nc : Int))) = false then 70 else if ((allB Z.nd fun k => feudOk (f k)) && !decide (20 < (Z.nd : Int))) = false then 71 else if ((allB Z.nb fun k => borderOk Y.nl (Z.b k)) && !decide (20 < (Z.nb : Int))) = false then 72 else 0) else 30) = (0 : Int)
  rw [e1, e2]
  exact h
theorem oth_hol (hc : Sws Eq Z.nc Z.c v) (hd : DisC Z) (leg day : Int) : (0 ≤ holZ (oth Z v f) leg day ↔ 0 ≤ holZ Z leg day) ∧ (0 ≤ holZ Z leg day → hclZ (oth Z v f) leg day = hclZ Z leg day) := by
  unfold hclZ holZ
  show (0 ≤ hb leg day v Z.nc ↔ 0 ≤ hb leg day Z.c Z.nc) ∧ (0 ≤ hb leg day Z.c Z.nc → v (hb leg day v Z.nc).toNat = Z.c (hb leg day Z.c Z.nc).toNat)
  have hbv := hb_bd (leg := leg) (day := day) (c := v) Z.nc
  have hbc := hb_bd (leg := leg) (day := day) (c := Z.c) Z.nc
  have h1 : 0 ≤ hb leg day v Z.nc → 0 ≤ hb leg day Z.c Z.nc := fun h => by
    have h2 := hb_hits Z.nc h
    obtain ⟨j, hj, e⟩ := hc.r (hb leg day v Z.nc).toNat (by omega)
    rw [e] at h2
    exact (hb_first Z.nc j hj h2).1
  have h2 : 0 ≤ hb leg day Z.c Z.nc → 0 ≤ hb leg day v Z.nc := fun h => by
    have h2 := hb_hits Z.nc h
    obtain ⟨j, hj, e⟩ := hc.l (hb leg day Z.c Z.nc).toNat (by omega)
    rw [← e] at h2
    exact (hb_first Z.nc j hj h2).1
  refine ⟨⟨h1, h2⟩, fun h => ?_⟩
  have h3 := h2 h
  have a1 := hb_hits Z.nc h
  have a2 := hb_hits Z.nc h3
  obtain ⟨j, hj, e⟩ := hc.r (hb leg day v Z.nc).toNat (by omega)
  obtain ⟨i, hi, e2⟩ := hc.l (hb leg day Z.c Z.nc).toNat (by omega)
  have b1 := (hb_first (leg := leg) (day := day) (c := Z.c) Z.nc j hj (by rw [← e]; exact a2)).2.1
  have b2 := (hb_first (leg := leg) (day := day) (c := v) Z.nc i hi (by rw [e2]; exact a1)).2.1
  rw [e2, e] at b2
  rw [e] at a2 ⊢
  have hnc : (hb leg day Z.c Z.nc).toNat < Z.nc := by omega
  generalize (hb leg day Z.c Z.nc).toNat = m at *
  unfold hitB at a1 a2
  simp only [Bool.and_eq_true, decide_eq_true_eq] at a1 a2
  unfold ltF at b1 b2
  rcases Nat.lt_trichotomy j m with h9 | h9 | h9
  · exact absurd ⟨by omega, by omega, by omega⟩ (hd m j hnc h9)
  · rw [h9]
  · exact absurd ⟨by omega, by omega, by omega⟩ (hd j m hj h9)
theorem oth_feu (hf : Sws FeuE Z.nd Z.d f) (a b t : Int) : feuZ (oth Z v f) a b t = feuZ Z a b t := sws_ex (p := feuR a b t) hf fun x y e => feuE_R e a b t
theorem oth_why (hc : Sws Eq Z.nc Z.c v) (hf : Sws FeuE Z.nd Z.d f) (hd : DisC Z) (leg day : Int) : whyZ (oth Z v f) T leg day = whyZ Z T leg day := by
  obtain ⟨h1, h2⟩ := oth_hol (f := f) hc hd leg day
  have e1 : hatZ (oth Z v f) T leg day = hatZ Z T leg day := by
    unfold hatZ
    rw [decide_eq_decide.2 h1]
    by_cases h : 0 ≤ holZ Z leg day
    · rw [h2 h]
      simp only [oth_feu hf]
    · rw [decide_eq_false h, Bool.false_and, Bool.false_and]
  have e2 : losZ (oth Z v f) T leg day = losZ Z T leg day := by
    unfold losZ
    rw [decide_eq_decide.2 h1]
    by_cases h : 0 ≤ holZ Z leg day
    · rw [h2 h]
    · rw [decide_eq_false h, Bool.false_and, Bool.false_and]
  unfold whyZ
  rw [e1, e2]
  rfl
theorem oth_pay (hc : Sws Eq Z.nc Z.c v) (hd : DisC Z) (leg day : Int) : payZ (oth Z v f) T leg day = payZ Z T leg day ∧ whoZ (oth Z v f) leg day = whoZ Z leg day := by
  obtain ⟨h1, h2⟩ := oth_hol (f := f) hc hd leg day
  unfold payZ whoZ
  by_cases h : 0 ≤ holZ Z leg day
  · rw [if_pos h, if_pos (h1.2 h), if_pos h, if_pos (h1.2 h), h2 h]
    exact ⟨rfl, rfl⟩
  · rw [if_neg h, if_neg (fun h9 => h (h1.1 h9)), if_neg h, if_neg (fun h9 => h (h1.1 h9))]
    exact ⟨rfl, rfl⟩
theorem oth_tu (hc : Sws Eq Z.nc Z.c v) (hf : Sws FeuE Z.nd Z.d f) (lo hi x : Int) : x ∈ tuD (oth Z v f) lo hi ↔ x ∈ tuD Z lo hi := by
  have hr : ∀ y, y ∈ rulZ (oth Z v f) lo ↔ y ∈ rulZ Z lo := fun y => by
    show y ∈ ((([lo] : List Int) ++ prsL (fun k => (v k).1 2) (fun k => (v k).1 3 + 1) Z.nc) ++ prsL (fun k => f k 2) (fun k => f k 3 + 1) Z.nd) ++ prsL (fun k => Z.b k 1) (fun k => Z.b k 2 + 1) Z.nb ↔ y ∈ ((([lo] : List Int) ++ prsL (fun k => (Z.c k).1 2) (fun k => (Z.c k).1 3 + 1) Z.nc) ++ prsL (fun k => Z.d k 2) (fun k => Z.d k 3 + 1) Z.nd) ++ prsL (fun k => Z.b k 1) (fun k => Z.b k 2 + 1) Z.nb
    have e1 : y ∈ prsL (fun k => (v k).1 2) (fun k => (v k).1 3 + 1) Z.nc ↔ y ∈ prsL (fun k => (Z.c k).1 2) (fun k => (Z.c k).1 3 + 1) Z.nc := by
      rw [prs_iff, prs_iff]
      constructor
      · rintro ⟨k, hk, h⟩
        obtain ⟨j, hj, e⟩ := hc.r k hk
        exact ⟨j, hj, by rw [← e]; exact h⟩
      · rintro ⟨k, hk, h⟩
        obtain ⟨j, hj, e⟩ := hc.l k hk
        exact ⟨j, hj, by rw [e]; exact h⟩
    have e2 : y ∈ prsL (fun k => f k 2) (fun k => f k 3 + 1) Z.nd ↔ y ∈ prsL (fun k => Z.d k 2) (fun k => Z.d k 3 + 1) Z.nd := by
      rw [prs_iff, prs_iff]
      constructor
      · rintro ⟨k, hk, h⟩
        obtain ⟨j, hj, e⟩ := hf.r k hk
        obtain ⟨e1, e2⟩ := feuE_day e
        exact ⟨j, hj, by rw [← e1, ← e2]; exact h⟩
      · rintro ⟨k, hk, h⟩
        obtain ⟨j, hj, e⟩ := hf.l k hk
        obtain ⟨e1, e2⟩ := feuE_day e
        exact ⟨j, hj, by rw [e1, e2]; exact h⟩
    simp only [List.mem_append, e1, e2]
  have hm : ∀ Z : Cus, x ∈ tuD Z lo hi ↔ inB5 lo hi x = true ∧ x ∈ rulZ Z lo := fun Z => by
    unfold tuD
    rw [tu_mem]
    constructor
    · rintro ⟨h1, j, hj, e⟩
      exact ⟨h1, by rw [← e]; exact mem_getD hj⟩
    · rintro ⟨h1, h2⟩
      obtain ⟨j, hj, e⟩ := mem_at h2
      exact ⟨h1, j, hj, e⟩
  rw [hm, hm, hr]
theorem oth_bar (hc : Sws Eq Z.nc Z.c v) (hf : Sws FeuE Z.nd Z.d f) (hd : DisC Z) (n : Nat) (st : Nat → Nat → Int) : barD (oth Z v f) T n st = barD Z T n st := by
  have e : ∀ s : Nat → Int, whyD (oth Z v f) T s = whyD Z T s := fun s => by
    unfold whyD
    simp only [oth_why hc hf hd]
    exact wr_set (fun t => (whyZ_bd).1) (oth_tu hc hf _ _)
  unfold barD
  simp only [e]
theorem oth_sum (hc : Sws Eq Z.nc Z.c v) (hf : Sws FeuE Z.nd Z.d f) (hd : DisC Z) (s : Nat → Int) : sumLo (oth Z v f) T s = sumLo Z T s ∧ sumHi (oth Z v f) T s = sumHi Z T s := by
  unfold sumLo sumHi
  have e : payZ (oth Z v f) T (s 0) = payZ Z T (s 0) := funext fun t => (oth_pay hc hd _ t).1
  rw [e]
  exact ⟨dLo_set (oth_tu hc hf _ _), dHi_set (oth_tu hc hf _ _)⟩
theorem oth_trb (hc : Sws Eq Z.nc Z.c v) (hf : Sws FeuE Z.nd Z.d f) (hd : DisC Z) (s : Nat → Int) : trbLo (oth Z v f) T s = trbLo Z T s ∧ trbHi (oth Z v f) T s = trbHi Z T s := by
  have e : ∀ q : Int, onT (oth Z v f) T (s 0) q = onT Z T (s 0) q := fun q => funext fun t => by
    unfold onT
    rw [(oth_pay (T := T) (f := f) hc hd _ t).1, (oth_pay (T := T) (f := f) hc hd _ t).2]
  constructor
  · funext q
    unfold trbLo
    rw [e]
    exact dLo_set (oth_tu hc hf _ _)
  · funext q
    unfold trbHi
    rw [e]
    exact dHi_set (oth_tu hc hf _ _)
theorem oth_all (hc : Sws Eq Z.nc Z.c v) (hf : Sws FeuE Z.nd Z.d f) (hd : DisC Z) (st : Nat → Nat → Int) : ∀ n, tolA (oth Z v f) T st n = tolA Z T st n ∧ allLo (oth Z v f) T st n = allLo Z T st n ∧ allHi (oth Z v f) T st n = allHi Z T st n
  | 0 => ⟨rfl, rfl, rfl⟩
  | n + 1 => by
    obtain ⟨h1, h2, h3⟩ := oth_all hc hf hd st n
    simp only [tolA, allLo, allHi]
    rw [h1, h2, h3, (oth_sum hc hf hd _).1, (oth_sum hc hf hd _).2, (oth_trb hc hf hd _).1, (oth_trb hc hf hd _).2]
    exact ⟨rfl, rfl, rfl⟩
theorem oth_tol {Y : Wy} (g : Gon Y Z T) (hc : Sws Eq Z.nc Z.c v) (hf : Sws FeuE Z.nd Z.d f) : tolC Y (oth Z v f) T = 0 := by
  rw [tol_wk (rdy_ok (oth_chk hc hf g.chk) g.trp)]
  exact g.wk
theorem oth_ans {Y : Wy} (g : Gon Y Z T) (hc : Sws Eq Z.nc Z.c v) (hf : Sws FeuE Z.nd Z.d f) (hd : DisC Z) : barA Y (oth Z v f) T = barA Y Z T ∧ dueL Y (oth Z v f) T = dueL Y Z T ∧ dueLo Y (oth Z v f) T = dueLo Y Z T ∧ dueHi Y (oth Z v f) T = dueHi Y Z T := by
  have ht := oth_tol (v := v) (f := f) g hc hf
  obtain ⟨h1, h2, h3⟩ := oth_all (T := T) hc hf hd (stY Y) Y.n
  rw [barA_ok ht, barA_ok g.tol, oth_bar hc hf hd]
  unfold dueL dueLo dueHi
  rw [if_pos ht, if_pos g.tol, if_pos ht, if_pos g.tol, if_pos ht, if_pos g.tol]
  exact ⟨rfl, h1, h2, h3⟩
end
end Go.Proofs.YtmonkjnfjgidbaaGreatDoor
namespace Go.Proofs.YtmonkjnfjgidbaaGreatDoor
set_option linter.all false
set_option linter.unusedVariables false
set_option linter.unusedSimpArgs false
open Go.RowKit
theorem dueV_eq {Y : Wy} {Z : Cus} {T : Trp} : dueV Y Z T = fun y => .tuple #[.slice y.1 (dueL Y Z T).length y.2, .agg #[.int .i64 (dueLo Y Z T), .int .i64 (dueHi Y Z T)], .int .i64 (tolC Y Z T)] := rfl
theorem dueK_eq {Y : Wy} {Z : Cus} {T : Trp} : dueK Y Z T = fun y => [.own y.1 (dueL Y Z T).length y.2 78 4 (fun k => tolL ((dueL Y Z T).getD k (0, 0, 0, 0)))] := rfl
section
variable {Y : Wy} {Z : Cus} {T : Trp} {W A L C D B O U V : Option Addr} {cw cl cn cc cd cb co cu cv : Nat} {w : World}
end
end Go.Proofs.YtmonkjnfjgidbaaGreatDoor
namespace Go.Proofs.YtmonkjnfjgidbaaGreatDoor
set_option linter.all false
set_option linter.unusedVariables false
set_option linter.unusedSimpArgs false
open Go.RowKit
theorem Pu.iv {c : Cx} {F : Fr} {K : List Fact} {o : Oper} {a b : Int} {k : IntKind} (h : Pu c F K o (.int k a)) (e : a = b) : Pu c F K o (.int k b) := e ▸ h
section
variable {Y : Wy} {Z : Cus} {T : Trp} {W A L C D0 B O U V G : Option Addr} {cw cl cn cc cd cb co cu cv cg nb : Nat} {u : Nat → Int} {w : World}
end
end Go.Proofs.YtmonkjnfjgidbaaGreatDoor
namespace Go.Proofs.YtmonkjnfjgidbaaGreatDoor
set_option linter.all false
set_option linter.unusedVariables false
set_option linter.unusedSimpArgs false
open Go.RowKit
section
variable {Y : Wy} {Z : Cus} {T : Trp} {W A L C D0 B O U V G : Option Addr} {cw cl cn cc cd cb co cu cv cg nb : Nat} {u : Nat → Int} {w : World}
set_option maxRecDepth 100000 in
set_option maxHeartbeats 8000000 in
theorem lawOrder_any (hcc : Z.nc ≤ cc) (a : ArgIn w Y Z T W A L C D0 B O U V) (hRG : RdR w 1 G nb (fun k => [.int .u32 (u k)])) (hu : U32n nb u) (hG : OldB w 0 barsL) :
    Calls Tryz.prog 7 #[.agg (landL W Y.nw cw A Y.nl cl).toArray, .agg (custL C Z.nc cc D0 Z.nd cd B Z.nb cb).toArray, .agg (troopL T.hd T.wo O T.no co U T.nu cu V T.nv cv).toArray, .int .i64 Y.start, .int .i64 Y.day, .agg #[.int .i64 Y.p0, .int .i64 Y.p1], .slice L Y.n cn, .slice G nb cg] w (Ret w (.bool true)) := by
  have fG := fun (w' : World) (a' : ArgIn w' Y Z T W A L C D0 B O U V) => going_any (cw := cw) (cl := cl) (cn := cn) (cc := cc) (cd := cd) (cb := cb) (co := co) (cu := cu) (cv := cv) a'
  have aE : ∀ {w'}, Below w.heap.size w w' → ArgIn w' Y Z T W A L C D0 B O U V := fun hb => ⟨a.hRW.chg (Chg.of_ext hb) Apart.nil, a.hRA.chg (Chg.of_ext hb) Apart.nil, fun k hk => (a.hRG k hk).chg (Chg.of_ext hb) Apart.nil, a.hRC.chg (Chg.of_ext hb) Apart.nil, a.hRD.chg (Chg.of_ext hb) Apart.nil, a.hRB.chg (Chg.of_ext hb) Apart.nil, a.hRO.chg (Chg.of_ext hb) Apart.nil, a.hRU.chg (Chg.of_ext hb) Apart.nil, a.hRV.chg (Chg.of_ext hb) Apart.nil, a.hRL.chg (Chg.of_ext hb) Apart.nil⟩
  have fB := fun (w' : World) (Z' : Cus) (C' D' B' : Option Addr) (xc xd xb : Nat) (hn : Y.n ≤ 1000) (h1 : LandIn w' W Y.nw A Y.nl Y.f Y.x Y.g) (h2 : RdR w' 1 L Y.n (fun k => [.int .i64 (Y.ls k)])) (h3 : CustIn w' C' Z'.nc D' Z'.nd B' Z'.nb Z'.c Z'.d Z'.b) (h4 : TrpIn w' T O U V) (h5 : OldB w' 0 barsL) => tollBarred_any (cw := cw) (cl := cl) (cn := cn) (cc := xc) (cd := xd) (cb := xb) (co := co) (cu := cu) (cv := cv) h1 hn h2 h3 h4 h5
  have fD := fun (w' : World) (Z' : Cus) (C' D' B' : Option Addr) (xc xd xb : Nat) (hn : Y.n ≤ 1000) (h1 : LandIn w' W Y.nw A Y.nl Y.f Y.x Y.g) (h2 : RdR w' 1 L Y.n (fun k => [.int .i64 (Y.ls k)])) (h3 : CustIn w' C' Z'.nc D' Z'.nd B' Z'.nb Z'.c Z'.d Z'.b) (h4 : TrpIn w' T O U V) => tollDue_any (cw := cw) (cl := cl) (cn := cn) (cc := xc) (cd := xd) (cb := xb) (co := co) (cu := cu) (cv := cv) h1 hn h2 h3 h4
  have fT := fun (w' : World) (h3 : CustIn w' C Z.nc D0 Z.nd B Z.nb Z.c Z.d Z.b) => twinCustom_tw (cc := cc) (cd := cd) (cb := cb) h3
  unfold landL custL troopL at fG fB fD
  unfold custL at fT
  unfold landL custL troopL
  have hRL := a.hRL
  have hRC := a.hRC
  refine K_enter (S := []) (K := []) Tryz.func7 rfl Tryz.ntmps7 rfl (Sat.start _) ?_
  refine TW.seq fun Y1 hY1 => ?_
  refine TW.region ?_
  refine TL.m Mk.bx ?_
  intro b1
  refine TL.m Mk.bx ?_
  intro b2
  refine TL.m Mk.bx ?_
  intro b3
  refine TL.m Mk.bx ?_
  intro b4
  refine TL.p Pu.as ?_
  refine TL.nil ?_
  refine TQ.thenN (hY1 _ _ ?_)
  refine TW.seq fun Y2 hY2 => ?_
  refine TW.region ?_
  refine TL.cr rfl (enters Tryz.func27 rfl rfl) (fun w hw => by
      exact alive_any (hG.ext (Chg.ext hw.chg))) ?_
  refine TL.p Pu.as ?_
  refine TL.nil ?_
  refine TQ.thenN (hY2 _ _ ?_)
  refine TW.seq fun Y3 hY3 => ?_
  refine TW.seq fun Y4 hY4 => ?_
  refine TW.region ?_
  refine TL.p (Pu.lds ty_ag25) ?_
  refine TL.p (Pu.lds ty_ag30) ?_
  refine TL.p (Pu.lds ty_ag33) ?_
  refine TL.p Pu.mv ?_
  refine TL.p Pu.mv ?_
  refine TL.p (Pu.lds ty_ag35) ?_
  refine TL.p Pu.mv ?_
  refine TL.call (M := []) rfl (enters Tryz.func28 rfl rfl) (List.Perm.refl _) rfl (fun w hw => by
      exact fG _ (aE (Chg.ext hw.chg))) ?_
  rintro ⟨As, cs⟩
  simp only [gonV, gonK, List.cons_append, List.nil_append]
  refine TL.p Pu.mv ?_
  refine TL.p Pu.ex ?_
  refine TL.p Pu.ex ?_
  refine TL.p Pu.as ?_
  refine TL.p Pu.as ?_
  refine TL.nil ?_
  refine TQ.thenN (hY4 _ _ ?_)
  refine TW.seq fun Y5 hY5 => ?_
  refine TW.join [(59, .bool (!gonB Y Z T))] ?_ (fun hJ1 => ?_)
  refine TQ.thenN (hY5 _ _ ?_)
  refine TW.cond rfl (fun hc0 => ?_) (fun hc0 => ?_)
  try simp only [decide_eq_true_eq, decide_eq_false_iff_not, Bool.not_eq_true', Bool.not_eq_false', Bool.and_eq_true, Bool.or_eq_true, Bool.and_eq_false_iff, Bool.or_eq_false_iff, Int.not_lt, Int.not_le] at hc0
  refine TW.seq fun Y6 hY6 => ?_
  refine TW.region ?_
  refine TL.p Pu.mv ?_
  refine TL.p Pu.as ?_
  refine TL.nil ?_
  refine TQ.thenN (hY6 _ _ ?_)
  refine TW.ret ?_
  refine TQ.thenR ?_
  refine TQ.ret Tryz.results7 rfl ((.tmp rfl .nil)) ?_
  exact fun w hw => Ret.of hw
  try simp only [decide_eq_true_eq, decide_eq_false_iff_not, Bool.not_eq_true', Bool.not_eq_false', Bool.and_eq_true, Bool.or_eq_true, Bool.and_eq_false_iff, Bool.or_eq_false_iff, Int.not_lt, Int.not_le] at hc0
  have hgo : gonB Y Z T = true := by simpa using hc0
  have g := gon_of hgo
  have hgn : gonN Y Z T = Y.n := if_pos hgo
  rw [hgn]
  have hn1 : Y.n ≤ 1000 := by have := g.n30; omega
  have hok := chk_ok g.chk
  have hnc9 := hok.nc
  have hnd9 := hok.nd
  have hnb9 := hok.nb
  refine TW.skip ?_
  refine TQ.thenN (hY3 _ _ ?_)
  refine TW.seq fun Y7 hY7 => ?_
  refine TW.seq fun Y8 hY8 => ?_
  refine TW.region ?_
  refine TL.p (by first | exact Pu.fb ty_fa30_0 | exact Pu.fe ty_fa30_0) ?_
  refine TL.p (Pu.ld ty_sc26) ?_
  refine TL.p (Pu.ln Tryz.underlying26) ?_
  refine TL.p Pu.mv ?_
  refine TL.nil ?_
  refine TQ.thenN (hY8 _ _ ?_)
  refine TW.block ?_
  refine TW.loop1 (fun (i : Nat) => [(64, .int .i64 (i : Int)), (63, .int .i64 (Z.nc : Int)), (62, .slice C Z.nc cc), (17, .bool true), (7, .slice G nb cg), (3, .int .i64 Y.start), (4, .int .i64 Y.day), (6, .slice L Y.n cn), (8, .pointer (some ⟨b1, 0, none⟩)), (9, .pointer (some ⟨b2, 0, none⟩)), (10, .pointer (some ⟨b3, 0, none⟩)), (13, .pointer (some ⟨b4, 0, none⟩))]) (fun i => [.blk b1 25 [.slice W Y.nw cw, .slice A Y.nl cl], .blk b2 30 [.slice C Z.nc cc, .slice D0 Z.nd cd, .slice B Z.nb cb], .blk b3 33 [.int .i64 T.hd, .int .i64 T.wo, .slice O T.no co, .slice U T.nu cu, .slice V T.nv cv], .blk b4 35 [.int .i64 Y.p0, .int .i64 Y.p1]]) (fun i => i ≤ Z.nc ∧ ∀ i' j, i' < i → j < i' → ¬ ((Z.c i').1 0 = (Z.c j).1 0 ∧ (Z.c i').1 1 = (Z.c j).1 1 ∧ (Z.c i').1 2 = (Z.c j).1 2)) (fun i => Z.nc - i) 0 fs9 ?_ ?_ ?_
  exact ks9
  exact ⟨Nat.zero_le _, fun i' j h => by omega⟩
  rintro i ⟨hi, hdi⟩ Z0 hZ0
  refine TW.seq fun Y9 hY9 => ?_
  refine TW.region ?_
  refine TL.p Pu.lt ?_
  refine TL.nil ?_
  refine TQ.thenN (hY9 _ _ ?_)
  refine TW.seq fun Y10 hY10 => ?_
  refine TW.cond rfl (fun hc1 => ?_) (fun hc1 => ?_)
  try simp only [decide_eq_true_eq, decide_eq_false_iff_not, Bool.not_eq_true', Bool.not_eq_false', Bool.and_eq_true, Bool.or_eq_true, Bool.and_eq_false_iff, Bool.or_eq_false_iff, Int.not_lt, Int.not_le] at hc1
  have hin : i < Z.nc := by omega
  refine TW.skip ?_
  refine TQ.thenN (hY10 _ _ ?_)
  refine TW.seq fun Y11 hY11 => ?_
  refine TW.block ?_
  refine TW.seq fun Y12 hY12 => ?_
  refine TW.region ?_
  refine TL.p Pu.mv ?_
  refine TL.p (Pu.el ty_et26) ?_
  refine TL.p (Pu.lds ty_ag71) ?_
  refine TL.m (Mk.al ty_zr71) ?_
  intro b5
  refine TL.p Pu.as ?_
  first | refine TL.st ty_sz71 ?_ | refine TL.se ty_sz71 ?_
  refine TL.nil ?_
  refine TQ.thenN (hY12 _ _ ?_)
  refine TW.seq fun Y13 hY13 => ?_
  refine TW.region ?_
  refine TL.p (by first | exact Pu.fb ty_fa30_0 | exact Pu.fe ty_fa30_0) ?_
  refine TL.p (Pu.ld ty_sc26) ?_
  refine TL.p Pu.mv ?_
  refine TL.p (Pu.sh ty_et26) ?_
  refine TL.p (Pu.ln Tryz.underlying26) ?_
  refine TL.p Pu.mv ?_
  refine TL.nil ?_
  refine TQ.thenN (hY13 _ _ ?_)
  refine TW.block ?_
  refine TW.loop1 (fun (j : Nat) => [(74, .int .i64 (j : Int)), (73, .int .i64 (i : Int)), (72, .slice C i cc), (21, .pointer (some ⟨b5, 0, none⟩)), (64, .int .i64 (i : Int)), (63, .int .i64 (Z.nc : Int)), (62, .slice C Z.nc cc), (17, .bool true), (7, .slice G nb cg), (3, .int .i64 Y.start), (4, .int .i64 Y.day), (6, .slice L Y.n cn), (8, .pointer (some ⟨b1, 0, none⟩)), (9, .pointer (some ⟨b2, 0, none⟩)), (10, .pointer (some ⟨b3, 0, none⟩)), (13, .pointer (some ⟨b4, 0, none⟩))]) (fun j => [.blk b5 71 (claimL (Z.c i)), .blk b1 25 [.slice W Y.nw cw, .slice A Y.nl cl], .blk b2 30 [.slice C Z.nc cc, .slice D0 Z.nd cd, .slice B Z.nb cb], .blk b3 33 [.int .i64 T.hd, .int .i64 T.wo, .slice O T.no co, .slice U T.nu cu, .slice V T.nv cv], .blk b4 35 [.int .i64 Y.p0, .int .i64 Y.p1]]) (fun j => j ≤ i ∧ ∀ q, q < j → ¬ ((Z.c i).1 0 = (Z.c q).1 0 ∧ (Z.c i).1 1 = (Z.c q).1 1 ∧ (Z.c i).1 2 = (Z.c q).1 2)) (fun j => i - j) 0 fs9 ?_ ?_ ?_
  exact ks9
  exact ⟨Nat.zero_le _, fun q h => by omega⟩
  rintro j ⟨hj, hdj⟩ Z1 hZ1
  refine TW.seq fun Y14 hY14 => ?_
  refine TW.region ?_
  refine TL.p Pu.lt ?_
  refine TL.nil ?_
  refine TQ.thenN (hY14 _ _ ?_)
  refine TW.seq fun Y15 hY15 => ?_
  refine TW.cond rfl (fun hc2 => ?_) (fun hc2 => ?_)
  try simp only [decide_eq_true_eq, decide_eq_false_iff_not, Bool.not_eq_true', Bool.not_eq_false', Bool.and_eq_true, Bool.or_eq_true, Bool.and_eq_false_iff, Bool.or_eq_false_iff, Int.not_lt, Int.not_le] at hc2
  have hjn : j < i := by omega
  refine TW.skip ?_
  refine TQ.thenN (hY15 _ _ ?_)
  refine TW.seq fun Y16 hY16 => ?_
  refine TW.block ?_
  refine TW.seq fun Y17 hY17 => ?_
  refine TW.region ?_
  refine TL.p (Pu.el ty_et26) ?_
  refine TL.p (Pu.lds ty_ag71) ?_
  refine TL.m (Mk.al ty_zr71) ?_
  intro b6
  first | refine TL.st ty_sz71 ?_ | refine TL.se ty_sz71 ?_
  refine TL.nil ?_
  refine TQ.thenN (hY17 _ _ ?_)
  refine TW.seq fun Y18 hY18 => ?_
  refine TW.join [(96, .bool (decide ((Z.c i).1 0 = (Z.c j).1 0) && decide ((Z.c i).1 1 = (Z.c j).1 1) && decide ((Z.c i).1 2 = (Z.c j).1 2)))] ?_ (fun hJ2 => ?_)
  refine TQ.thenN (hY18 _ _ ?_)
  refine TW.cond rfl (fun hc3 => ?_) (fun hc3 => ?_)
  try simp only [decide_eq_true_eq, decide_eq_false_iff_not, Bool.not_eq_true', Bool.not_eq_false', Bool.and_eq_true, Bool.or_eq_true, Bool.and_eq_false_iff, Bool.or_eq_false_iff, Int.not_lt, Int.not_le] at hc3
  skip
  refine TW.seq fun Y19 hY19 => ?_
  refine TW.region ?_
  refine TL.p Pu.mv ?_
  refine TL.p Pu.as ?_
  refine TL.nil ?_
  refine TQ.thenN (hY19 _ _ ?_)
  refine TW.ret ?_
  refine TQ.blkR ?_
  refine TQ.thenR ?_
  refine TQ.thenR ?_
  refine TQ.blkR ?_
  refine TQ.blkR ?_
  refine TQ.thenR ?_
  refine TQ.thenR ?_
  refine TQ.blkR ?_
  refine TQ.thenR ?_
  refine TQ.ret Tryz.results7 rfl ((.tmp rfl .nil)) ?_
  exact fun w hw => Ret.of hw
  try simp only [decide_eq_true_eq, decide_eq_false_iff_not, Bool.not_eq_true', Bool.not_eq_false', Bool.and_eq_true, Bool.or_eq_true, Bool.and_eq_false_iff, Bool.or_eq_false_iff, Int.not_lt, Int.not_le] at hc3
  have hne : ¬ ((Z.c i).1 0 = (Z.c j).1 0 ∧ (Z.c i).1 1 = (Z.c j).1 1 ∧ (Z.c i).1 2 = (Z.c j).1 2) := fun h9 => by
    rcases hc3 with h8 | h8
    rcases h8 with h8 | h8
    exact h8 h9.1
    exact h8 h9.2.1
    exact h8 h9.2.2
  refine TW.skip ?_
  refine TQ.blkN ?_
  refine TQ.thenN (hY16 _ _ ?_)
  refine TW.region ?_
  refine TL.p Pu.ad ?_
  refine TL.p Pu.mv ?_
  refine TL.nil ?_
  refine TQ.thenN (hZ1 (j + 1) _ _ ?_ ?_ fs9 ?_)
  exact ⟨by omega, fun q hq => (Nat.lt_succ_iff_lt_or_eq.1 hq).elim (hdj q) (fun e => by rw [e]; exact hne)⟩
  exact (by first | omega | (simp only []; omega) | (simp; omega))
  exact ks9
  refine TW.region ?_
  refine TL.p (by first | exact Pu.fb ty_fa71_0 | exact Pu.fe ty_fa71_0) ?_
  refine TL.p (Pu.ld ty_sc3) ?_
  refine TL.p (by first | exact Pu.fb ty_fa71_0 | exact Pu.fe ty_fa71_0) ?_
  refine TL.p (Pu.ld ty_sc3) ?_
  refine TL.p Pu.eq ?_
  refine TL.p Pu.mv ?_
  refine TL.guard (t := 83) rfl (fun hg1 => ?_) (fun hg1 => ?_)
  try simp only [decide_eq_true_eq, decide_eq_false_iff_not, Bool.not_eq_true', Bool.not_eq_false', Int.natCast_pos] at hg1
  refine TL.gd (by first | exact Pu.fb ty_fa71_1 | exact Pu.fe ty_fa71_1) ?_
  refine TL.gd (Pu.ld ty_sc3) ?_
  refine TL.gd (by first | exact Pu.fb ty_fa71_1 | exact Pu.fe ty_fa71_1) ?_
  refine TL.gd (Pu.ld ty_sc3) ?_
  refine TL.gd Pu.eq ?_
  refine TL.p Pu.kt ?_
  refine TL.p Pu.mv ?_
  refine TL.guard (t := 90) rfl (fun hg2 => ?_) (fun hg2 => ?_)
  try simp only [decide_eq_true_eq, decide_eq_false_iff_not, Bool.not_eq_true', Bool.not_eq_false', Int.natCast_pos] at hg2
  refine TL.gd (by first | exact Pu.fb ty_fa71_2 | exact Pu.fe ty_fa71_2) ?_
  refine TL.gd (Pu.ld ty_sc3) ?_
  refine TL.gd (by first | exact Pu.fb ty_fa71_2 | exact Pu.fe ty_fa71_2) ?_
  refine TL.gd (Pu.ld ty_sc3) ?_
  refine TL.gd Pu.eq ?_
  refine TL.p Pu.kt ?_
  refine TL.nil ?_
  exact TQ.sub (by repeat (first | exact trivial | refine ⟨rfl, ?_⟩ | refine ⟨trivial, ?_⟩ | refine ⟨(by show some (Value.bool _) = some (Value.bool _); first | (simp [hg1, hg2]; done) | (refine congrArg (fun z => some (Value.bool z)) (Bool.eq_iff_iff.2 ?_); simp [hg1, hg2]; omega)), ?_⟩)) ks9 hJ2
  try simp only [decide_eq_true_eq, decide_eq_false_iff_not, Bool.not_eq_true', Bool.not_eq_false', Int.natCast_pos] at hg2
  refine TL.gs ?_
  refine TL.gs ?_
  refine TL.gs ?_
  refine TL.gs ?_
  refine TL.gs ?_
  refine TL.p Pu.kf ?_
  refine TL.nil ?_
  exact TQ.sub (by repeat (first | exact trivial | refine ⟨rfl, ?_⟩ | refine ⟨trivial, ?_⟩ | refine ⟨(by show some (Value.bool _) = some (Value.bool _); first | (simp [hg1, hg2]; done) | (refine congrArg (fun z => some (Value.bool z)) (Bool.eq_iff_iff.2 ?_); simp [hg1, hg2]; omega)), ?_⟩)) ks9 hJ2
  try simp only [decide_eq_true_eq, decide_eq_false_iff_not, Bool.not_eq_true', Bool.not_eq_false', Int.natCast_pos] at hg1
  refine TL.gs ?_
  refine TL.gs ?_
  refine TL.gs ?_
  refine TL.gs ?_
  refine TL.gs ?_
  refine TL.p Pu.kf ?_
  refine TL.p Pu.mv ?_
  refine TL.gs ?_
  refine TL.gs ?_
  refine TL.gs ?_
  refine TL.gs ?_
  refine TL.gs ?_
  refine TL.p Pu.kf ?_
  refine TL.nil ?_
  exact TQ.sub (by repeat (first | exact trivial | refine ⟨rfl, ?_⟩ | refine ⟨trivial, ?_⟩ | refine ⟨(by show some (Value.bool _) = some (Value.bool _); first | (simp [hg1]; done) | (refine congrArg (fun z => some (Value.bool z)) (Bool.eq_iff_iff.2 ?_); simp [hg1]; omega)), ?_⟩)) ks9 hJ2
  try simp only [decide_eq_true_eq, decide_eq_false_iff_not, Bool.not_eq_true', Bool.not_eq_false', Bool.and_eq_true, Bool.or_eq_true, Bool.and_eq_false_iff, Bool.or_eq_false_iff, Int.not_lt, Int.not_le] at hc2
  obtain rfl : i = j := by omega
  refine TW.exit ?_
  refine TQ.thenX ?_
  refine TQ.thenX ?_
  refine TQ.blkX ?_
  refine TQ.blkN ?_
  refine TQ.thenN (hY11 _ _ ?_)
  refine TW.region ?_
  refine TL.p Pu.ad ?_
  refine TL.p Pu.mv ?_
  refine TL.nil ?_
  refine TQ.thenN (hZ0 (i + 1) _ _ ?_ ?_ fs9 ?_)
  exact ⟨by omega, fun i' j hi' => (Nat.lt_succ_iff_lt_or_eq.1 hi').elim (hdi i' j) (fun e => by subst e; exact hdj j)⟩
  exact (by first | omega | (simp only []; omega) | (simp; omega))
  exact ks9
  try simp only [decide_eq_true_eq, decide_eq_false_iff_not, Bool.not_eq_true', Bool.not_eq_false', Bool.and_eq_true, Bool.or_eq_true, Bool.and_eq_false_iff, Bool.or_eq_false_iff, Int.not_lt, Int.not_le] at hc1
  obtain rfl : i = Z.nc := by omega
  have hdis : DisC Z := fun i j h1 h2 => hdi i j h1 h2
  refine TW.exit ?_
  refine TQ.thenX ?_
  refine TQ.thenX ?_
  refine TQ.blkX ?_
  refine TQ.thenN (hY7 _ _ ?_)
  refine TW.seq fun Y20 hY20 => ?_
  refine TW.region ?_
  refine TL.p (Pu.lds ty_ag30) ?_
  refine TL.call (M := []) rfl (enters Tryz.func16 rfl rfl) (List.Perm.refl _) rfl (fun w hw => by
      exact fT _ ((a.cust g.gr).ext (Chg.ext hw.chg))) ?_
  rintro ⟨⟨C1, c1⟩, ⟨D1, d1⟩, ⟨B1, e1⟩⟩
  simp only [twC, List.cons_append, List.nil_append]
  refine TL.m (Mk.al ty_zr30) ?_
  intro b7
  first | refine TL.st ty_sz30 ?_ | refine TL.se ty_sz30 ?_
  refine TL.nil ?_
  refine TQ.thenN (hY20 _ _ ?_)
  refine TW.seq fun Y21 hY21 => ?_
  refine TW.seq fun Y22 hY22 => ?_
  refine TW.region ?_
  refine TL.p (by first | exact Pu.fb ty_fa30_0 | exact Pu.fe ty_fa30_0) ?_
  refine TL.p (Pu.ld ty_sc26) ?_
  refine TL.p (Pu.ln Tryz.underlying26) ?_
  refine TL.p Pu.mv ?_
  refine TL.nil ?_
  refine TQ.thenN (hY22 _ _ ?_)
  refine TW.block ?_
  refine TW.loop2 (fun (i : Nat) (v : Nat → (Nat → Int) × Bool) => [(105, .int .i64 (i : Int)), (104, .int .i64 (Z.nc : Int)), (103, .slice C1 Z.nc c1), (24, .pointer (some ⟨b7, 0, none⟩)), (17, .bool true), (7, .slice G nb cg), (3, .int .i64 Y.start), (4, .int .i64 Y.day), (6, .slice L Y.n cn), (8, .pointer (some ⟨b1, 0, none⟩)), (9, .pointer (some ⟨b2, 0, none⟩)), (10, .pointer (some ⟨b3, 0, none⟩)), (13, .pointer (some ⟨b4, 0, none⟩))]) (fun i v => [.own C1 Z.nc c1 71 7 (fun k => claimL (v k)), .own D1 Z.nd d1 73 4 (fun k => feudL (Z.d k)), .own B1 Z.nb e1 75 3 (fun k => borderL (Z.b k)), .blk b7 30 [.slice C1 Z.nc c1, .slice D1 Z.nd d1, .slice B1 Z.nb e1], .blk b1 25 [.slice W Y.nw cw, .slice A Y.nl cl], .blk b2 30 [.slice C Z.nc cc, .slice D0 Z.nd cd, .slice B Z.nb cb], .blk b3 33 [.int .i64 T.hd, .int .i64 T.wo, .slice O T.no co, .slice U T.nu cu, .slice V T.nv cv], .blk b4 35 [.int .i64 Y.p0, .int .i64 Y.p1]]) (fun i v => i ≤ Z.nc ∧ Sws Eq Z.nc Z.c v) (fun i v => Z.nc - i) 0 Z.c fs9 ?_ ?_ ?_
  exact ks9
  exact ⟨Nat.zero_le _, Sws.refl (fun _ => rfl)⟩
  rintro i v ⟨hi, hv⟩ Z2 hZ2
  refine TW.seq fun Y23 hY23 => ?_
  refine TW.region ?_
  refine TL.p Pu.lt ?_
  refine TL.nil ?_
  refine TQ.thenN (hY23 _ _ ?_)
  refine TW.seq fun Y24 hY24 => ?_
  refine TW.cond rfl (fun hc4 => ?_) (fun hc4 => ?_)
  try simp only [decide_eq_true_eq, decide_eq_false_iff_not, Bool.not_eq_true', Bool.not_eq_false', Bool.and_eq_true, Bool.or_eq_true, Bool.and_eq_false_iff, Bool.or_eq_false_iff, Int.not_lt, Int.not_le] at hc4
  have hin : i < Z.nc := by omega
  have c1' := chs_bd hu i
  have hem := Int.emod_nonneg (chsV nb u i) (show (Z.nc : Int) ≠ 0 by omega)
  have hem2 := Int.emod_lt_of_pos (chsV nb u i) (show 0 < (Z.nc : Int) by omega)
  obtain ⟨kk, hkk⟩ : ∃ kk : Nat, chsV nb u i % (Z.nc : Int) = (kk : Int) := ⟨(chsV nb u i % (Z.nc : Int)).toNat, by omega⟩
  rw [hkk] at hem hem2
  replace hkk := hidT hkk
  have hkn : kk < Z.nc := by omega
  have hsw := hv.swap (a := v kk) (b := v i) hin hkn (fun _ => Iff.rfl) (fun _ => Iff.rfl)
  refine TW.skip ?_
  refine TQ.thenN (hY24 _ _ ?_)
  refine TW.seq fun Y25 hY25 => ?_
  refine TW.block ?_
  refine TW.seq fun Y26 hY26 => ?_
  refine TW.region ?_
  refine TL.p Pu.mv ?_
  refine TL.p Pu.as ?_
  refine TL.nil ?_
  refine TQ.thenN (hY26 _ _ ?_)
  refine TW.seq fun Y27 hY27 => ?_
  refine TW.dw 9 ?_
  refine RK.tk Pu.mv ?_
  refine RK.tk Pu.mv ?_
  refine RK.keep ?_
  refine RK.keep ?_
  refine RK.tk (by first | exact Pu.fb ty_fa30_0 | exact Pu.fe ty_fa30_0) ?_
  refine RK.tk (Pu.ld ty_sc26) ?_
  refine RK.tk (Pu.ln Tryz.underlying26) ?_
  refine RK.keep ?_
  refine RK.keep ?_
  refine RK.ch [false, true, true, true] ?_ trivial
  refine WK.cr rfl (enters Tryz.func30 rfl rfl) (fun w hw => by
      exact choose_any i (hRG.sat hw Apart.nil)) ?_
  refine WK.p (Pu.cv (v := .int .i64 (chsV nb u i)) rfl (fun w => by go_simp; rw [IntWalk.i64_in (chsV nb u i) (by omega)])) ?_
  refine WK.p (Pu.iv Pu.rm hkk.out) ?_
  refine WK.p Pu.as ?_
  refine WK.n ?_
  refine TL.nil ?_
  refine TQ.thenN (hY27 _ _ ?_)
  refine TW.expk [.blk b7 30 [.slice C1 Z.nc c1, .slice D1 Z.nd d1, .slice B1 Z.nb e1]] (fun (_ : Unit) => ([(105, .int .i64 (i : Int)), (104, .int .i64 (Z.nc : Int)), (103, .slice C1 Z.nc c1), (24, .pointer (some ⟨b7, 0, none⟩)), (17, .bool true), (7, .slice G nb cg), (3, .int .i64 Y.start), (4, .int .i64 Y.day), (6, .slice L Y.n cn), (8, .pointer (some ⟨b1, 0, none⟩)), (9, .pointer (some ⟨b2, 0, none⟩)), (10, .pointer (some ⟨b3, 0, none⟩)), (13, .pointer (some ⟨b4, 0, none⟩))] : Fr)) (fun (_ : Unit) => [.own C1 Z.nc c1 71 7 (fun k => claimL (updA (updA v i (v kk)) kk (v i) k)), .own D1 Z.nd d1 73 4 (fun k => feudL (Z.d k)), .own B1 Z.nb e1 75 3 (fun k => borderL (Z.b k)), .blk b7 30 [.slice C1 Z.nc c1, .slice D1 Z.nd d1, .slice B1 Z.nb e1], .blk b1 25 [.slice W Y.nw cw, .slice A Y.nl cl], .blk b2 30 [.slice C Z.nc cc, .slice D0 Z.nd cd, .slice B Z.nb cb], .blk b3 33 [.int .i64 T.hd, .int .i64 T.wo, .slice O T.no co, .slice U T.nu cu, .slice V T.nv cv], .blk b4 35 [.int .i64 Y.p0, .int .i64 Y.p1]]) ?_ (fun hE => ?_)
  rintro ⟨⟩
  refine TQ.blkN ?_
  refine TQ.thenN (hY25 _ _ ?_)
  refine TW.region ?_
  refine TL.p Pu.ad ?_
  refine TL.p Pu.mv ?_
  refine TL.nil ?_
  refine TQ.thenN (hZ2 (i + 1) (updA (updA v i (v kk)) kk (v i)) _ _ ?_ ?_ fs9 ?_)
  exact ⟨by omega, hsw⟩
  exact (by first | omega | (simp only []; omega) | (simp; omega))
  exact ks9
  refine RG.tk 0 rfl (by first | exact Pu.fb ty_fa30_0 | exact Pu.fe ty_fa30_0) ?_
  refine RG.tk 1 rfl (Pu.ld ty_sc26) ?_
  refine RG.tk 2 rfl Pu.mv ?_
  refine RG.tk 3 rfl (by first | exact Pu.fb ty_fa30_0 | exact Pu.fe ty_fa30_0) ?_
  refine RG.tk 4 rfl (Pu.ld ty_sc26) ?_
  refine RG.tk 5 rfl Pu.mv ?_
  refine RG.tk 6 rfl (by first | exact Pu.fb ty_fa30_0 | exact Pu.fe ty_fa30_0) ?_
  refine RG.tk 7 rfl (Pu.ld ty_sc26) ?_
  refine RG.tk 8 rfl Pu.mv ?_
  refine RG.tk 11 rfl (by first | exact Pu.fb ty_fa30_0 | exact Pu.fe ty_fa30_0) ?_
  refine RG.tk 12 rfl (Pu.ld ty_sc26) ?_
  refine RG.tk 13 rfl Pu.mv ?_
  refine RG.a2 9 14 rfl rfl (fun X9 hX9 => ?_) (fun X14 hX14 => ?_)
  refine TL.p (Pu.el ty_et26) ?_
  refine TL.nil ?_
  refine TQ.nxt (hX9 _ _ hl9 ?_)
  refine RG.a2 10 14 rfl rfl (fun X10 hX10 => ?_) (fun X14 hX14 => ?_)
  refine TL.p (Pu.lds ty_ag71) ?_
  refine TL.nil ?_
  refine TQ.nxt (hX10 _ _ hl9 ?_)
  refine RG.a1 14 rfl (fun X14 hX14 => ?_)
  refine TL.p (Pu.el ty_et26) ?_
  refine TL.nil ?_
  refine TQ.nxt (hX14 _ _ hl9 ?_)
  refine RG.a1 15 rfl (fun X15 hX15 => ?_)
  refine TL.p (Pu.lds ty_ag71) ?_
  refine TL.nil ?_
  refine TQ.nxt (hX15 _ _ hl9 ?_)
  refine RG.a1 16 rfl (fun X16 hX16 => ?_)
  refine TL.p (Pu.el ty_et26) ?_
  refine TL.nil ?_
  refine TQ.nxt (hX16 _ _ hl9 ?_)
  refine RG.a1 17 rfl (fun X17 hX17 => ?_)
  first | refine TL.st ty_sz71 ?_ | refine TL.se ty_sz71 ?_
  refine TL.nil ?_
  refine TQ.nxt (hX17 _ _ hl9 ?_)
  refine RG.a1 18 rfl (fun X18 hX18 => ?_)
  refine TL.p (Pu.el ty_et26) ?_
  refine TL.nil ?_
  refine TQ.nxt (hX18 _ _ hl9 ?_)
  refine RG.a1 19 rfl (fun X19 hX19 => ?_)
  refine TL.subK (KSub.own (s := fun k => claimL (updA v i (v kk) k)) pk9 (fun j hj => by unfold updR updA; split <;> rfl) (KSub.refl _)) ?_
  refine TL.se ty_sz71 ?_
  refine TL.subK (KSub.own (s := fun k => claimL (updA (updA v i (v kk)) kk (v i) k)) pk9 (fun j hj => by unfold updR; show _ = claimL (if j = kk then v i else updA v i (v kk) j); split <;> rfl) (KSub.refl _)) ?_
  refine TL.nil ?_
  refine TQ.nxt (hX19 _ _ hl9 ?_)
  exact RG.nil (TQ.sub fs9 kt9 (hE ⟨⟩)) (by kernel_rfl)
  refine TL.p (Pu.el ty_et26) ?_
  refine TL.nil ?_
  refine TQ.nxt (hX14 _ _ hl9 ?_)
  refine RG.a2 10 15 rfl rfl (fun X10 hX10 => ?_) (fun X15 hX15 => ?_)
  refine TL.p (Pu.lds ty_ag71) ?_
  refine TL.nil ?_
  refine TQ.nxt (hX10 _ _ hl9 ?_)
  refine RG.a1 15 rfl (fun X15 hX15 => ?_)
  refine TL.p (Pu.lds ty_ag71) ?_
  refine TL.nil ?_
  refine TQ.nxt (hX15 _ _ hl9 ?_)
  refine RG.a1 16 rfl (fun X16 hX16 => ?_)
  refine TL.p (Pu.el ty_et26) ?_
  refine TL.nil ?_
  refine TQ.nxt (hX16 _ _ hl9 ?_)
  refine RG.a1 17 rfl (fun X17 hX17 => ?_)
  first | refine TL.st ty_sz71 ?_ | refine TL.se ty_sz71 ?_
  refine TL.nil ?_
  refine TQ.nxt (hX17 _ _ hl9 ?_)
  refine RG.a1 18 rfl (fun X18 hX18 => ?_)
  refine TL.p (Pu.el ty_et26) ?_
  refine TL.nil ?_
  refine TQ.nxt (hX18 _ _ hl9 ?_)
  refine RG.a1 19 rfl (fun X19 hX19 => ?_)
  refine TL.subK (KSub.own (s := fun k => claimL (updA v i (v kk) k)) pk9 (fun j hj => by unfold updR updA; split <;> rfl) (KSub.refl _)) ?_
  refine TL.se ty_sz71 ?_
  refine TL.subK (KSub.own (s := fun k => claimL (updA (updA v i (v kk)) kk (v i) k)) pk9 (fun j hj => by unfold updR; show _ = claimL (if j = kk then v i else updA v i (v kk) j); split <;> rfl) (KSub.refl _)) ?_
  refine TL.nil ?_
  refine TQ.nxt (hX19 _ _ hl9 ?_)
  exact RG.nil (TQ.sub fs9 kt9 (hE ⟨⟩)) (by kernel_rfl)
  refine TL.p (Pu.lds ty_ag71) ?_
  refine TL.nil ?_
  refine TQ.nxt (hX15 _ _ hl9 ?_)
  refine RG.a1 10 rfl (fun X10 hX10 => ?_)
  refine TL.p (Pu.lds ty_ag71) ?_
  refine TL.nil ?_
  refine TQ.nxt (hX10 _ _ hl9 ?_)
  refine RG.a1 16 rfl (fun X16 hX16 => ?_)
  refine TL.p (Pu.el ty_et26) ?_
  refine TL.nil ?_
  refine TQ.nxt (hX16 _ _ hl9 ?_)
  refine RG.a1 17 rfl (fun X17 hX17 => ?_)
  first | refine TL.st ty_sz71 ?_ | refine TL.se ty_sz71 ?_
  refine TL.nil ?_
  refine TQ.nxt (hX17 _ _ hl9 ?_)
  refine RG.a1 18 rfl (fun X18 hX18 => ?_)
  refine TL.p (Pu.el ty_et26) ?_
  refine TL.nil ?_
  refine TQ.nxt (hX18 _ _ hl9 ?_)
  refine RG.a1 19 rfl (fun X19 hX19 => ?_)
  refine TL.subK (KSub.own (s := fun k => claimL (updA v i (v kk) k)) pk9 (fun j hj => by unfold updR updA; split <;> rfl) (KSub.refl _)) ?_
  refine TL.se ty_sz71 ?_
  refine TL.subK (KSub.own (s := fun k => claimL (updA (updA v i (v kk)) kk (v i) k)) pk9 (fun j hj => by unfold updR; show _ = claimL (if j = kk then v i else updA v i (v kk) j); split <;> rfl) (KSub.refl _)) ?_
  refine TL.nil ?_
  refine TQ.nxt (hX19 _ _ hl9 ?_)
  exact RG.nil (TQ.sub fs9 kt9 (hE ⟨⟩)) (by kernel_rfl)
  refine TL.p (Pu.el ty_et26) ?_
  refine TL.nil ?_
  refine TQ.nxt (hX14 _ _ hl9 ?_)
  refine RG.a2 9 15 rfl rfl (fun X9 hX9 => ?_) (fun X15 hX15 => ?_)
  refine TL.p (Pu.el ty_et26) ?_
  refine TL.nil ?_
  refine TQ.nxt (hX9 _ _ hl9 ?_)
  refine RG.a2 10 15 rfl rfl (fun X10 hX10 => ?_) (fun X15 hX15 => ?_)
  refine TL.p (Pu.lds ty_ag71) ?_
  refine TL.nil ?_
  refine TQ.nxt (hX10 _ _ hl9 ?_)
  refine RG.a1 15 rfl (fun X15 hX15 => ?_)
  refine TL.p (Pu.lds ty_ag71) ?_
  refine TL.nil ?_
  refine TQ.nxt (hX15 _ _ hl9 ?_)
  refine RG.a1 16 rfl (fun X16 hX16 => ?_)
  refine TL.p (Pu.el ty_et26) ?_
  refine TL.nil ?_
  refine TQ.nxt (hX16 _ _ hl9 ?_)
  refine RG.a1 17 rfl (fun X17 hX17 => ?_)
  first | refine TL.st ty_sz71 ?_ | refine TL.se ty_sz71 ?_
  refine TL.nil ?_
  refine TQ.nxt (hX17 _ _ hl9 ?_)
  refine RG.a1 18 rfl (fun X18 hX18 => ?_)
  refine TL.p (Pu.el ty_et26) ?_
  refine TL.nil ?_
  refine TQ.nxt (hX18 _ _ hl9 ?_)
  refine RG.a1 19 rfl (fun X19 hX19 => ?_)
  refine TL.subK (KSub.own (s := fun k => claimL (updA v i (v kk) k)) pk9 (fun j hj => by unfold updR updA; split <;> rfl) (KSub.refl _)) ?_
  refine TL.se ty_sz71 ?_
  refine TL.subK (KSub.own (s := fun k => claimL (updA (updA v i (v kk)) kk (v i) k)) pk9 (fun j hj => by unfold updR; show _ = claimL (if j = kk then v i else updA v i (v kk) j); split <;> rfl) (KSub.refl _)) ?_
  refine TL.nil ?_
  refine TQ.nxt (hX19 _ _ hl9 ?_)
  exact RG.nil (TQ.sub fs9 kt9 (hE ⟨⟩)) (by kernel_rfl)
  refine TL.p (Pu.lds ty_ag71) ?_
  refine TL.nil ?_
  refine TQ.nxt (hX15 _ _ hl9 ?_)
  refine RG.a1 10 rfl (fun X10 hX10 => ?_)
  refine TL.p (Pu.lds ty_ag71) ?_
  refine TL.nil ?_
  refine TQ.nxt (hX10 _ _ hl9 ?_)
  refine RG.a1 16 rfl (fun X16 hX16 => ?_)
  refine TL.p (Pu.el ty_et26) ?_
  refine TL.nil ?_
  refine TQ.nxt (hX16 _ _ hl9 ?_)
  refine RG.a1 17 rfl (fun X17 hX17 => ?_)
  first | refine TL.st ty_sz71 ?_ | refine TL.se ty_sz71 ?_
  refine TL.nil ?_
  refine TQ.nxt (hX17 _ _ hl9 ?_)
  refine RG.a1 18 rfl (fun X18 hX18 => ?_)
  refine TL.p (Pu.el ty_et26) ?_
  refine TL.nil ?_
  refine TQ.nxt (hX18 _ _ hl9 ?_)
  refine RG.a1 19 rfl (fun X19 hX19 => ?_)
  refine TL.subK (KSub.own (s := fun k => claimL (updA v i (v kk) k)) pk9 (fun j hj => by unfold updR updA; split <;> rfl) (KSub.refl _)) ?_
  refine TL.se ty_sz71 ?_
  refine TL.subK (KSub.own (s := fun k => claimL (updA (updA v i (v kk)) kk (v i) k)) pk9 (fun j hj => by unfold updR; show _ = claimL (if j = kk then v i else updA v i (v kk) j); split <;> rfl) (KSub.refl _)) ?_
  refine TL.nil ?_
  refine TQ.nxt (hX19 _ _ hl9 ?_)
  exact RG.nil (TQ.sub fs9 kt9 (hE ⟨⟩)) (by kernel_rfl)
  refine TL.p (Pu.lds ty_ag71) ?_
  refine TL.nil ?_
  refine TQ.nxt (hX15 _ _ hl9 ?_)
  refine RG.a1 9 rfl (fun X9 hX9 => ?_)
  refine TL.p (Pu.el ty_et26) ?_
  refine TL.nil ?_
  refine TQ.nxt (hX9 _ _ hl9 ?_)
  refine RG.a1 10 rfl (fun X10 hX10 => ?_)
  refine TL.p (Pu.lds ty_ag71) ?_
  refine TL.nil ?_
  refine TQ.nxt (hX10 _ _ hl9 ?_)
  refine RG.a1 16 rfl (fun X16 hX16 => ?_)
  refine TL.p (Pu.el ty_et26) ?_
  refine TL.nil ?_
  refine TQ.nxt (hX16 _ _ hl9 ?_)
  refine RG.a1 17 rfl (fun X17 hX17 => ?_)
  first | refine TL.st ty_sz71 ?_ | refine TL.se ty_sz71 ?_
  refine TL.nil ?_
  refine TQ.nxt (hX17 _ _ hl9 ?_)
  refine RG.a1 18 rfl (fun X18 hX18 => ?_)
  refine TL.p (Pu.el ty_et26) ?_
  refine TL.nil ?_
  refine TQ.nxt (hX18 _ _ hl9 ?_)
  refine RG.a1 19 rfl (fun X19 hX19 => ?_)
  refine TL.subK (KSub.own (s := fun k => claimL (updA v i (v kk) k)) pk9 (fun j hj => by unfold updR updA; split <;> rfl) (KSub.refl _)) ?_
  refine TL.se ty_sz71 ?_
  refine TL.subK (KSub.own (s := fun k => claimL (updA (updA v i (v kk)) kk (v i) k)) pk9 (fun j hj => by unfold updR; show _ = claimL (if j = kk then v i else updA v i (v kk) j); split <;> rfl) (KSub.refl _)) ?_
  refine TL.nil ?_
  refine TQ.nxt (hX19 _ _ hl9 ?_)
  exact RG.nil (TQ.sub fs9 kt9 (hE ⟨⟩)) (by kernel_rfl)
  try simp only [decide_eq_true_eq, decide_eq_false_iff_not, Bool.not_eq_true', Bool.not_eq_false', Bool.and_eq_true, Bool.or_eq_true, Bool.and_eq_false_iff, Bool.or_eq_false_iff, Int.not_lt, Int.not_le] at hc4
  obtain rfl : i = Z.nc := by omega
  refine TW.exit ?_
  refine TQ.thenX ?_
  refine TQ.thenX ?_
  refine TQ.blkX ?_
  refine TQ.thenN (hY21 _ _ ?_)
  refine TW.seq fun Y28 hY28 => ?_
  refine TW.seq fun Y29 hY29 => ?_
  refine TW.region ?_
  refine TL.p (by first | exact Pu.fb ty_fa30_1 | exact Pu.fe ty_fa30_1) ?_
  refine TL.p (Pu.ld ty_sc27) ?_
  refine TL.p (Pu.ln Tryz.underlying27) ?_
  refine TL.p Pu.mv ?_
  refine TL.nil ?_
  refine TQ.thenN (hY29 _ _ ?_)
  refine TW.block ?_
  refine TW.loop2 (fun (i : Nat) (f : Nat → Nat → Int) => [(138, .int .i64 (i : Int)), (137, .int .i64 (Z.nd : Int)), (136, .slice D1 Z.nd d1), (24, .pointer (some ⟨b7, 0, none⟩)), (17, .bool true), (7, .slice G nb cg), (3, .int .i64 Y.start), (4, .int .i64 Y.day), (6, .slice L Y.n cn), (8, .pointer (some ⟨b1, 0, none⟩)), (9, .pointer (some ⟨b2, 0, none⟩)), (10, .pointer (some ⟨b3, 0, none⟩)), (13, .pointer (some ⟨b4, 0, none⟩))]) (fun i f => [.own D1 Z.nd d1 73 4 (fun k => feudL (f k)), .own C1 Z.nc c1 71 7 (fun k => claimL (v k)), .own B1 Z.nb e1 75 3 (fun k => borderL (Z.b k)), .blk b7 30 [.slice C1 Z.nc c1, .slice D1 Z.nd d1, .slice B1 Z.nb e1], .blk b1 25 [.slice W Y.nw cw, .slice A Y.nl cl], .blk b2 30 [.slice C Z.nc cc, .slice D0 Z.nd cd, .slice B Z.nb cb], .blk b3 33 [.int .i64 T.hd, .int .i64 T.wo, .slice O T.no co, .slice U T.nu cu, .slice V T.nv cv], .blk b4 35 [.int .i64 Y.p0, .int .i64 Y.p1]]) (fun i f => i ≤ Z.nd ∧ Sws FeuE Z.nd Z.d f) (fun i f => Z.nd - i) 0 Z.d fs9 ?_ ?_ ?_
  exact ks9
  exact ⟨Nat.zero_le _, Sws.refl (fun _ => .inl rfl)⟩
  rintro i f ⟨hi, hf⟩ Z3 hZ3
  refine TW.seq fun Y30 hY30 => ?_
  refine TW.region ?_
  refine TL.p Pu.lt ?_
  refine TL.nil ?_
  refine TQ.thenN (hY30 _ _ ?_)
  refine TW.seq fun Y31 hY31 => ?_
  refine TW.cond rfl (fun hc5 => ?_) (fun hc5 => ?_)
  try simp only [decide_eq_true_eq, decide_eq_false_iff_not, Bool.not_eq_true', Bool.not_eq_false', Bool.and_eq_true, Bool.or_eq_true, Bool.and_eq_false_iff, Bool.or_eq_false_iff, Int.not_lt, Int.not_le] at hc5
  have hin : i < Z.nd := by omega
  have c1' := chs_bd hu (30 + (i : Int)).toNat
  obtain ⟨x1, hx1⟩ : ∃ x, x = chsV nb u (30 + (i : Int)).toNat := ⟨_, rfl⟩
  rw [← hx1] at c1'
  replace hx1 := hidT hx1
  have hem := Int.emod_nonneg x1 (show (Z.nd : Int) ≠ 0 by omega)
  have hem2 := Int.emod_lt_of_pos x1 (show 0 < (Z.nd : Int) by omega)
  obtain ⟨kk, hkk⟩ : ∃ kk : Nat, x1 % (Z.nd : Int) = (kk : Int) := ⟨(x1 % (Z.nd : Int)).toNat, by omega⟩
  rw [hkk] at hem hem2
  replace hkk := hidT hkk
  have hkn : kk < Z.nd := by omega
  have hsw := hf.swap (a := f i) (b := sw4 (f kk)) hkn hin (fun _ => Iff.rfl) (fun _ => feuE_sw)
  refine TW.skip ?_
  refine TQ.thenN (hY31 _ _ ?_)
  refine TW.seq fun Y32 hY32 => ?_
  refine TW.block ?_
  refine TW.seq fun Y33 hY33 => ?_
  refine TW.region ?_
  refine TL.p Pu.mv ?_
  refine TL.p Pu.as ?_
  refine TL.nil ?_
  refine TQ.thenN (hY33 _ _ ?_)
  refine TW.seq fun Y34 hY34 => ?_
  refine TW.dw 10 ?_
  refine RK.tk Pu.mv ?_
  refine RK.tk Pu.mv ?_
  refine RK.tk Pu.ad ?_
  refine RK.keep ?_
  refine RK.keep ?_
  refine RK.tk (by first | exact Pu.fb ty_fa30_1 | exact Pu.fe ty_fa30_1) ?_
  refine RK.tk (Pu.ld ty_sc27) ?_
  refine RK.tk (Pu.ln Tryz.underlying27) ?_
  refine RK.keep ?_
  refine RK.keep ?_
  refine RK.ch [false, true, true, true] ?_ trivial
  refine WK.cr rfl (enters Tryz.func30 rfl rfl) (fun w hw => by
      have h9 := choose_x (cp := cg) (30 + (i : Int)) (by omega) (hRG.sat hw Apart.nil)
      rw [← hx1.out] at h9
      exact h9) ?_
  refine WK.p (Pu.cv (v := .int .i64 x1) rfl (fun w => by go_simp; rw [IntWalk.i64_in x1 (by omega)])) ?_
  refine WK.p (Pu.iv Pu.rm hkk.out) ?_
  refine WK.p Pu.as ?_
  refine WK.n ?_
  refine TL.nil ?_
  refine TQ.thenN (hY34 _ _ ?_)
  refine TW.seq fun Y35 hY35 => ?_
  refine TW.region ?_
  refine TL.p (by first | exact Pu.fb ty_fa30_1 | exact Pu.fe ty_fa30_1) ?_
  refine TL.p (Pu.ld ty_sc27) ?_
  refine TL.p Pu.mv ?_
  refine TL.p (Pu.el ty_et27) ?_
  refine TL.p (Pu.lds ty_ag73) ?_
  refine TL.m (Mk.al ty_zr73) ?_
  intro b8
  first | refine TL.st ty_sz73 ?_ | refine TL.se ty_sz73 ?_
  refine TL.nil ?_
  refine TQ.thenN (hY35 _ _ ?_)
  refine TW.seq fun Y36 hY36 => ?_
  refine TW.dw 9 ?_
  refine RK.tk (by first | exact Pu.fb ty_fa30_1 | exact Pu.fe ty_fa30_1) ?_
  refine RK.tk (Pu.ld ty_sc27) ?_
  refine RK.tk Pu.mv ?_
  refine RK.tk (by first | exact Pu.fb ty_fa30_1 | exact Pu.fe ty_fa30_1) ?_
  refine RK.tk (Pu.ld ty_sc27) ?_
  refine RK.tk Pu.mv ?_
  refine RK.tk (Pu.el ty_et27) ?_
  refine RK.tk (Pu.lds ty_ag73) ?_
  refine RK.tk (Pu.el ty_et27) ?_
  refine RK.ch [] ?_ trivial
  refine WK.n ?_
  first | refine TL.st ty_sz73 ?_ | refine TL.se ty_sz73 ?_
  refine TL.nil ?_
  refine TQ.thenN (hY36 _ _ ?_)
  refine TW.region ?_
  refine TL.p (by first | exact Pu.fb ty_fa30_1 | exact Pu.fe ty_fa30_1) ?_
  refine TL.p (Pu.ld ty_sc27) ?_
  refine TL.p Pu.mv ?_
  refine TL.p (by first | exact Pu.fb ty_fa73_1 | exact Pu.fe ty_fa73_1) ?_
  refine TL.p (Pu.ld ty_sc3) ?_
  refine TL.p (by first | exact Pu.fb ty_fa73_0 | exact Pu.fe ty_fa73_0) ?_
  refine TL.p (Pu.ld ty_sc3) ?_
  refine TL.p (by first | exact Pu.fb ty_fa73_2 | exact Pu.fe ty_fa73_2) ?_
  refine TL.p (Pu.ld ty_sc3) ?_
  refine TL.p (by first | exact Pu.fb ty_fa73_3 | exact Pu.fe ty_fa73_3) ?_
  refine TL.p (Pu.ld ty_sc3) ?_
  refine TL.p Pu.bd ?_
  refine TL.p (Pu.el ty_et27) ?_
  refine TL.subK (KSub.own (s := fun k => feudL (updA f kk (f i) k)) pk9 (fun j hj => by unfold updR updA; split <;> rfl) (KSub.refl _)) ?_
  refine TL.se ty_sz73 ?_
  refine TL.subK (KSub.own (s := fun k => feudL (updA (updA f kk (f i)) i (sw4 (f kk)) k)) pk9 (fun j hj => by unfold updR; show _ = feudL (if j = i then sw4 (f kk) else updA f kk (f i) j); split <;> rfl) (KSub.refl _)) ?_
  refine TL.nil ?_
  refine TQ.blkN ?_
  refine TQ.thenN (hY32 _ _ ?_)
  refine TW.region ?_
  refine TL.p Pu.ad ?_
  refine TL.p Pu.mv ?_
  refine TL.nil ?_
  refine TQ.thenN (hZ3 (i + 1) (updA (updA f kk (f i)) i (sw4 (f kk))) _ _ ?_ ?_ fs9 ?_)
  exact ⟨by omega, hsw⟩
  exact (by first | omega | (simp only []; omega) | (simp; omega))
  exact ks9
  try simp only [decide_eq_true_eq, decide_eq_false_iff_not, Bool.not_eq_true', Bool.not_eq_false', Bool.and_eq_true, Bool.or_eq_true, Bool.and_eq_false_iff, Bool.or_eq_false_iff, Int.not_lt, Int.not_le] at hc5
  obtain rfl : i = Z.nd := by omega
  have htz := hidT (oth_tol (v := v) (f := f) g hv hf)
  obtain ⟨ha1, ha2, ha3, ha4⟩ := oth_ans (v := v) (f := f) g hv hf hdis
  replace ha1 := hidT ha1
  replace ha2 := hidT ha2
  replace ha3 := hidT ha3
  replace ha4 := hidT ha4
  have hto := hidT g.tol
  have hDl : (dueL Y Z T).length ≤ 1000000 := by
    unfold dueL
    rw [if_pos hto.out]
    have h9 := tolA_len (Z := Z) (T := T) (st := stY Y) Y.n
    have := g.n30
    omega
  obtain ⟨r, hr⟩ : ∃ r, r = barA Y Z T := ⟨_, rfl⟩
  replace hr := hidT hr
  obtain ⟨D, hD⟩ : ∃ D, D = dueL Y Z T := ⟨_, rfl⟩
  rw [← hD] at hDl
  replace hD := hidT hD
  obtain ⟨lo0, hlo0⟩ : ∃ x, x = dueLo Y Z T := ⟨_, rfl⟩
  replace hlo0 := hidT hlo0
  obtain ⟨hi0, hhi0⟩ : ∃ x, x = dueHi Y Z T := ⟨_, rfl⟩
  replace hhi0 := hidT hhi0
  refine TW.exit ?_
  refine TQ.thenX ?_
  refine TQ.thenX ?_
  refine TQ.blkX ?_
  refine TQ.thenN (hY28 _ _ ?_)
  refine TW.seq fun Y37 hY37 => ?_
  refine TW.region ?_
  refine TL.p (Pu.lds ty_ag25) ?_
  refine TL.p (Pu.lds ty_ag30) ?_
  refine TL.p (Pu.lds ty_ag33) ?_
  refine TL.p Pu.mv ?_
  refine TL.p Pu.mv ?_
  refine TL.p (Pu.lds ty_ag35) ?_
  refine TL.p Pu.mv ?_
  refine TL.cr rfl (enters Tryz.func18 rfl rfl) (fun w hw => by
      have h9 := fB _ Z C D0 B cc cd cb hn1 ((a.land g.gr).ext (Chg.ext hw.chg)) (hRL.sat hw Apart.nil) ((a.cust g.gr).ext (Chg.ext hw.chg)) ((a.trp g.gr).ext (Chg.ext hw.chg)) (hG.ext (Chg.ext hw.chg))
      rw [hto.out, ← hr.out] at h9
      exact h9) ?_
  refine TL.p Pu.mv ?_
  refine TL.p Pu.ex ?_
  refine TL.p Pu.ex ?_
  refine TL.p Pu.ex ?_
  refine TL.p Pu.as ?_
  refine TL.p Pu.as ?_
  refine TL.p Pu.as ?_
  refine TL.nil ?_
  refine TQ.thenN (hY37 _ _ ?_)
  refine TW.seq fun Y38 hY38 => ?_
  refine TW.region ?_
  refine TL.p (Pu.lds ty_ag25) ?_
  refine TL.p (Pu.lds ty_ag30) ?_
  refine TL.p (Pu.lds ty_ag33) ?_
  refine TL.p Pu.mv ?_
  refine TL.p Pu.mv ?_
  refine TL.p (Pu.lds ty_ag35) ?_
  refine TL.p Pu.mv ?_
  refine TL.cr rfl (enters Tryz.func18 rfl rfl) (fun w hw => by
      have q1 := OwnR.rdr (hw.holds (.own C1 Z.nc c1 71 7 (fun k => claimL (v k))) (Pick.mem pk9))
      have q2 := OwnR.rdr (hw.holds (.own D1 Z.nd d1 73 4 (fun k => feudL (f k))) (Pick.mem pk9))
      have q3 := OwnR.rdr (hw.holds (.own B1 Z.nb e1 75 3 (fun k => borderL (Z.b k))) (Pick.mem pk9))
      have h9 := fB _ (oth Z v f) C1 D1 B1 c1 d1 e1 hn1 ((a.land g.gr).ext (Chg.ext hw.chg)) (hRL.sat hw Apart.nil) ⟨show Z.nc ≤ 1000 by omega, show Z.nd ≤ 1000 by omega, show Z.nb ≤ 1000 by omega, q1, q2, q3⟩ ((a.trp g.gr).ext (Chg.ext hw.chg)) (hG.ext (Chg.ext hw.chg))
      rw [htz.out, ha1.out, ← hr.out] at h9
      exact h9) ?_
  refine TL.p Pu.mv ?_
  refine TL.p Pu.ex ?_
  refine TL.p Pu.ex ?_
  refine TL.p Pu.ex ?_
  refine TL.p Pu.as ?_
  refine TL.p Pu.as ?_
  refine TL.p Pu.as ?_
  refine TL.nil ?_
  refine TQ.thenN (hY38 _ _ ?_)
  refine TW.seq fun Y39 hY39 => ?_
  refine TW.region ?_
  refine TL.p (Pu.lds ty_ag25) ?_
  refine TL.p (Pu.lds ty_ag30) ?_
  refine TL.p (Pu.lds ty_ag33) ?_
  refine TL.p Pu.mv ?_
  refine TL.p Pu.mv ?_
  refine TL.p (Pu.lds ty_ag35) ?_
  refine TL.p Pu.mv ?_
  refine TL.call (M := []) rfl (enters Tryz.func20 rfl rfl) (List.Perm.refl _) rfl (fun w hw => by
      have h9 := fD _ Z C D0 B cc cd cb hn1 ((a.land g.gr).ext (Chg.ext hw.chg)) (hRL.sat hw Apart.nil) ((a.cust g.gr).ext (Chg.ext hw.chg)) ((a.trp g.gr).ext (Chg.ext hw.chg))
      rw [dueV_eq, dueK_eq] at h9
      rw [hto.out, ← hD.out, ← hlo0.out, ← hhi0.out] at h9
      exact h9) ?_
  rintro ⟨P0, p0⟩
  simp only [List.cons_append, List.nil_append]
  refine TL.p Pu.mv ?_
  refine TL.p Pu.ex ?_
  refine TL.p Pu.ex ?_
  refine TL.p Pu.ex ?_
  refine TL.m (Mk.al ty_zr35) ?_
  intro b9
  refine TL.p Pu.as ?_
  first | refine TL.st ty_sz35 ?_ | refine TL.se ty_sz35 ?_
  refine TL.p Pu.as ?_
  refine TL.nil ?_
  refine TQ.thenN (hY39 _ _ ?_)
  refine TW.seq fun Y40 hY40 => ?_
  refine TW.region ?_
  refine TL.p (Pu.lds ty_ag25) ?_
  refine TL.p (Pu.lds ty_ag30) ?_
  refine TL.p (Pu.lds ty_ag33) ?_
  refine TL.p Pu.mv ?_
  refine TL.p Pu.mv ?_
  refine TL.p (Pu.lds ty_ag35) ?_
  refine TL.p Pu.mv ?_
  refine TL.call (M := []) rfl (enters Tryz.func20 rfl rfl) (List.Perm.refl _) rfl (fun w hw => by
      have q1 := OwnR.rdr (hw.holds (.own C1 Z.nc c1 71 7 (fun k => claimL (v k))) (Pick.mem pk9))
      have q2 := OwnR.rdr (hw.holds (.own D1 Z.nd d1 73 4 (fun k => feudL (f k))) (Pick.mem pk9))
      have q3 := OwnR.rdr (hw.holds (.own B1 Z.nb e1 75 3 (fun k => borderL (Z.b k))) (Pick.mem pk9))
      have h9 := fD _ (oth Z v f) C1 D1 B1 c1 d1 e1 hn1 ((a.land g.gr).ext (Chg.ext hw.chg)) (hRL.sat hw Apart.nil) ⟨show Z.nc ≤ 1000 by omega, show Z.nd ≤ 1000 by omega, show Z.nb ≤ 1000 by omega, q1, q2, q3⟩ ((a.trp g.gr).ext (Chg.ext hw.chg))
      rw [dueV_eq, dueK_eq] at h9
      rw [htz.out, ha2.out, ha3.out, ha4.out, ← hD.out, ← hlo0.out, ← hhi0.out] at h9
      exact h9) ?_
  rintro ⟨P1, p1⟩
  simp only [List.cons_append, List.nil_append]
  refine TL.p Pu.mv ?_
  refine TL.p Pu.ex ?_
  refine TL.p Pu.ex ?_
  refine TL.p Pu.ex ?_
  refine TL.m (Mk.al ty_zr35) ?_
  intro b10
  refine TL.p Pu.as ?_
  first | refine TL.st ty_sz35 ?_ | refine TL.se ty_sz35 ?_
  refine TL.p Pu.as ?_
  refine TL.nil ?_
  refine TQ.thenN (hY40 _ _ ?_)
  refine TW.seq fun Y41 hY41 => ?_
  refine TW.join [(16, .bool true)] ?_ (fun hJ3 => ?_)
  refine TQ.thenN (hY41 _ _ ?_)
  refine TW.ret ?_
  refine TQ.ret Tryz.results7 rfl ((.tmp rfl .nil)) ?_
  exact fun w hw => Ret.of hw
  refine TW.region ?_
  refine TL.p Pu.mv ?_
  refine TL.p Pu.mv ?_
  refine TL.lit (t := 227) (b' := true) rfl (rfl) ?_
  refine TL.gd Pu.mv ?_
  refine TL.gd Pu.mv ?_
  refine TL.gd Pu.eq ?_
  refine TL.lit (t := 230) (b' := true) rfl ((by simp)) ?_
  refine TL.p Pu.kt ?_
  refine TL.p Pu.mv ?_
  refine TL.gd Pu.mv ?_
  refine TL.gd Pu.mv ?_
  refine TL.gd Pu.eq ?_
  refine TL.lit (t := 235) (b' := true) rfl ((by simp)) ?_
  refine TL.p Pu.kt ?_
  refine TL.p Pu.mv ?_
  refine TL.gd Pu.mv ?_
  refine TL.gd Pu.mv ?_
  refine TL.gd Pu.eq ?_
  refine TL.lit (t := 240) (b' := true) rfl (rfl) ?_
  refine TL.p Pu.kt ?_
  refine TL.p Pu.mv ?_
  refine TL.gd (Pu.lds ty_ag35) ?_
  refine TL.gd (Pu.lds ty_ag35) ?_
  refine TL.gd (Pu.q2 ty_q2_35) ?_
  refine TL.lit (t := 245) (b' := true) rfl ((by simp)) ?_
  refine TL.p Pu.kt ?_
  refine TL.p Pu.mv ?_
  refine TL.gd Pu.mv ?_
  refine TL.gd Pu.mv ?_
  refine TL.gd Pu.eq ?_
  refine TL.lit (t := 250) (b' := true) rfl (rfl) ?_
  refine TL.p Pu.kt ?_
  refine TL.p Pu.mv ?_
  refine TL.gd Pu.mv ?_
  refine TL.gd Pu.mv ?_
  refine TL.cr rfl (enters Tryz.func22 rfl rfl) (fun w hw => by
      exact sameTolls_any (L := D) hDl (OwnR.rdr (hw.holds (.own P0 D.length p0 78 4 (fun k => tolL (D.getD k (0, 0, 0, 0)))) (Pick.mem pk9))) (OwnR.rdr (hw.holds (.own P1 D.length p1 78 4 (fun k => tolL (D.getD k (0, 0, 0, 0)))) (Pick.mem pk9)))) ?_
  refine TL.p Pu.kt ?_
  refine TL.p Pu.as ?_
  refine TL.nil ?_
  exact TQ.sub (by repeat (first | exact trivial | refine ⟨rfl, ?_⟩ | refine ⟨trivial, ?_⟩ | refine ⟨(by show some (Value.bool _) = some (Value.bool _); first | (simp []; done) | (refine congrArg (fun z => some (Value.bool z)) (Bool.eq_iff_iff.2 ?_); simp []; omega)), ?_⟩)) ks9 hJ3
  refine TW.region ?_
  refine TL.p Pu.mv ?_
  refine TL.p Pu.no ?_
  refine TL.p Pu.mv ?_
  refine TL.guard (t := 56) rfl (fun hg3 => ?_) (fun hg3 => ?_)
  try simp only [decide_eq_true_eq, decide_eq_false_iff_not, Bool.not_eq_true', Bool.not_eq_false', Int.natCast_pos] at hg3
  refine TL.gs ?_
  refine TL.gs ?_
  refine TL.p Pu.kt ?_
  refine TL.nil ?_
  exact TQ.sub (by repeat (first | exact trivial | refine ⟨rfl, ?_⟩ | refine ⟨trivial, ?_⟩ | refine ⟨(by show some (Value.bool _) = some (Value.bool _); first | (simp [hg3]; done) | (refine congrArg (fun z => some (Value.bool z)) (Bool.eq_iff_iff.2 ?_); simp [hg3]; omega)), ?_⟩)) ks9 hJ1
  try simp only [decide_eq_true_eq, decide_eq_false_iff_not, Bool.not_eq_true', Bool.not_eq_false', Int.natCast_pos] at hg3
  refine TL.gd Pu.mv ?_
  refine TL.gd Pu.no ?_
  refine TL.p Pu.kf ?_
  refine TL.nil ?_
  exact TQ.sub (by repeat (first | exact trivial | refine ⟨rfl, ?_⟩ | refine ⟨trivial, ?_⟩ | refine ⟨(by show some (Value.bool _) = some (Value.bool _); first | (simp [hg3]; done) | (refine congrArg (fun z => some (Value.bool z)) (Bool.eq_iff_iff.2 ?_); simp [hg3]; omega)), ?_⟩)) ks9 hJ1
end
end Go.Proofs.YtmonkjnfjgidbaaGreatDoor
namespace Go.Proofs.YtmonkjnfjgidbaaGreatDoor
set_option linter.all false
set_option linter.unusedVariables false
set_option linter.unusedSimpArgs false
open Go.ChangeShapes Go.WideShapes Go.RowKit Go.Deep
section
variable {H : Type} {enc : TypeId × Value → H} {P : Program} {w : World} {base : Nat} {spare : Nat → Bool} {held : Bool}
def kindsL (P : Program) (g : TypeId → Option (List IntKind)) : List Field → Nat → Option (List IntKind)
  | [], _ => some []
  | f :: fs, off => match g f.type with
    | some a => if f.offset = off ∧ a.length = P.cellsOf f.type then match kindsL P g fs (off + a.length) with
      | some b => some (a ++ b)
      | none => none
      else none
    | none => none
def kindsF (P : Program) : Nat → TypeId → Option (List IntKind)
  | 0, _ => none
  | d + 1, t => match P.underlying t with
    | some (.int k) => some [k]
    | some (.struct fs) => match kindsL P (kindsF P d) fs.toList 0 with
      | some a => if a.length = P.cellsOf t then some a else none
      | none => none
    | _ => none
def ints (ks : List IntKind) (ns : List Int) : List Value := List.zipWith Value.int ks ns
theorem ints_append {a b : List IntKind} {x y : List Int} (h : x.length = a.length) : ints (a ++ b) (x ++ y) = ints a x ++ ints b y := by
  unfold ints; rw [List.zipWith_append h.symm]
theorem ints_length {a : List IntKind} {x : List Int} (h : x.length = a.length) : (ints a x).length = a.length := by simp [ints, h]
theorem kindsL_spec {g : TypeId → Option (List IntKind)} (hg : ∀ t ks, g t = some ks → ∀ fuel cs x, DataW.trod enc P w base spare held fuel t cs = some x → ∃ ns : List Int, cs = ints ks ns ∧ ns.length = ks.length) :
    ∀ (fs : List Field) (off : Nat) (ks : List IntKind) (cs : List Value), kindsL P g fs off = some ks → cs.length = off + ks.length →
      (∀ f ∈ fs, ∃ n x, DataW.trod enc P w base spare held n f.type ((cs.drop f.offset).take (P.cellsOf f.type)) = some x) → ∃ ns : List Int, cs.drop off = ints ks ns ∧ ns.length = ks.length
  | [], off, ks, cs, h, hl, _ => by cases h; exact ⟨[], by simp at hl; simp [ints, hl], rfl⟩
  | f :: fs, off, ks, cs, h, hl, hf => by
    simp only [kindsL] at h
    cases h1 : g f.type with
    | none => rw [h1] at h; cases h
    | some a =>
      rw [h1] at h
      simp only at h
      split at h
      · rename_i h2
        obtain ⟨h2, h3⟩ := h2
        cases h4 : kindsL P g fs (off + a.length) with
        | none => rw [h4] at h; cases h
        | some b =>
          rw [h4] at h
          cases h
          obtain ⟨n, x, hx⟩ := hf f (by simp)
          rw [h2, ← h3] at hx
          obtain ⟨ns, e1, e2⟩ := hg _ _ h1 _ _ _ hx
          obtain ⟨ms, e3, e4⟩ := kindsL_spec hg fs (off + a.length) b cs h4 (by rw [hl]; simp; omega) (fun f' hf' => hf f' (by simp [hf']))
          refine ⟨ns ++ ms, ?_, by simp [e2, e4]⟩
          rw [ints_append e2, ← e1, ← e3, ← List.drop_drop, List.take_append_drop]
      · cases h
theorem kindsF_spec : ∀ (d : Nat) (t : TypeId) (ks : List IntKind), kindsF P d t = some ks → ∀ fuel cs x, DataW.trod enc P w base spare held fuel t cs = some x → ∃ ns : List Int, cs = ints ks ns ∧ ns.length = ks.length
  | 0, _, _, h, _, _, _, _ => by cases h
  | d + 1, t, ks, h, fuel, cs, x, hx => by
    simp only [kindsF] at h
    cases hu : P.underlying t with
    | none => rw [hu] at h; cases h
    | some desc =>
      rw [hu] at h
      match desc, hu, h with
      | .int k, hu, h =>
        injection h with h
        subst h
        obtain ⟨n, rfl, _, _⟩ := DataW.trod_int hu hx
        exact ⟨[n], rfl, rfl⟩
      | .struct fs, hu, h =>
        simp only at h
        cases h1 : kindsL P (kindsF P d) fs.toList 0 with
        | none => rw [h1] at h; cases h
        | some a =>
          rw [h1] at h
          simp only at h
          split at h
          · rename_i h2
            cases h
            obtain ⟨xs, n, _, _, hlen, hxl, hf⟩ := DataW.trod_struct hu hx
            obtain ⟨ns, e1, e2⟩ := kindsL_spec (kindsF_spec d) fs.toList 0 _ cs h1 (by omega) (fun f hf' => by
              obtain ⟨i, hi, rfl⟩ := List.getElem_of_mem hf'
              have hi' : i < fs.size := by simpa using hi
              have := hf i fs[i] (by simp [hi'])
              rw [List.getElem?_eq_getElem (by omega)] at this
              exact ⟨n, _, this⟩)
            exact ⟨ns, by simpa using e1, e2⟩
          · cases h
theorem open_flat_slice {t e : TypeId} {fuel : Nat} {cs : List Value} {x : DataW H × List MemPlace} (d : Nat) {ks : List IntKind} (ht : P.underlying t = some (.slice e)) (hk : kindsF P d e = some ks) (hC : P.cellsOf e = ks.length) (h0 : Nat.blt 0 ks.length = true) (h : DataW.trod enc P w base spare held fuel t cs = some x) :
    ∃ (A : Option Addr) (len cap : Nat) (g : Nat → List Int), cs = [.slice A len cap] ∧ (∀ i, i < len → (g i).length = ks.length) ∧ RdR w ks.length A len (fun i => ints ks (g i)) ∧ (A = none → len = 0 ∧ cap = 0) ∧ len ≤ cap ∧ cap ≤ maxLen := by
  have h0 : 0 < ks.length := Nat.le_of_ble_eq_true h0
  rcases open_slice ht h with ⟨rfl, rfl⟩ | ⟨a, len, cap, m, n, D, Pl, rfl, hb, hl, hm, hmm, _, hi⟩
  · exact ⟨none, 0, 0, fun _ => [], rfl, fun i hi => by omega, ⟨Rd.nil, fun i hi => by omega⟩, fun _ => ⟨rfl, rfl⟩, Nat.le_refl _, Nat.zero_le _⟩
  · have hlm : len ≤ m := by rw [hmm]; split <;> omega
    have key : ∀ i, i < len → ∃ ns : List Int, ns.length = ks.length ∧ ∀ j, j < ks.length → w.cell? (a.add (i * ks.length + j)) = (ints ks ns)[j]? := fun i hil => by
      obtain ⟨cs', hc, hx⟩ := hi i (by omega)
      obtain ⟨_, hcl, hat⟩ := World.cells?_some hc
      obtain ⟨ns, rfl, e2⟩ := kindsF_spec d e ks hk _ _ _ hx
      refine ⟨ns, e2, fun j hj => ?_⟩
      have := hat j (by rw [hC]; exact hj)
      rw [hC] at this
      rw [← this, ← add_add]
    refine ⟨some a, len, cap, fun i => if hi : i < len then (key i hi).choose else [], rfl, fun i hi => ?_, ⟨fun hn => ?_, fun i hi => ?_⟩, fun h => (by cases h), hl, hm⟩
    · simp only [hi, dite_true]; exact (key i hi).choose_spec.1
    · have h1 := (key 0 hn).choose_spec.2 0 h0
      have hsome : (ints ks (key 0 hn).choose)[0]? = some ((ints ks (key 0 hn).choose)[0]'(by rw [ints_length (key 0 hn).choose_spec.1]; exact h0)) := List.getElem?_eq_getElem _
      rw [hsome] at h1
      have hadd : a.add (0 * ks.length + 0) = a := by simp [Addr.add]
      rw [hadd] at h1
      have hsp : a.spot = none := by
        unfold World.cell? at h1
        split at h1
        · cases hs : a.spot with
          | none => rfl
          | some s => simp [hs] at h1
        · cases h1
      have hlt : a.block < w.heap.size := World.block_lt_of_cell? w a h1
      obtain ⟨b, o, s⟩ := a
      simp only at hsp
      subst hsp
      refine ⟨b, o, rfl, hlt, fun i j hi hj => ?_⟩
      have h2 := (key i hi).choose_spec.2 j hj
      rw [add_plain] at h2
      rw [show o + i * ks.length + j = o + (i * ks.length + j) by omega, h2]
      simp only [rowF, hi, dite_true]
      have hl2 : j < (ints ks (key i hi).choose).length := by rw [ints_length (key i hi).choose_spec.1]; exact hj
      rw [List.getElem?_eq_getElem hl2]
      simp [List.getD_eq_getElem?_getD, List.getElem?_eq_getElem hl2]
    · simp only [hi, dite_true]
      exact ints_length (key i hi).choose_spec.1
theorem open_rows {r : Reach} {b0 : Nat} {t e : TypeId} {v : Value} {dd : DataW H} {p : List MemPlace} (d : Nat) (ks : List IntKind) (ht : P.underlying t = some (.slice e)) (hk : kindsF P d e = some ks) (hC : P.cellsOf e = ks.length) (h0 : Nat.blt 0 ks.length = true) (hv : Value.okWide P w r b0 t v) (h : DataW.Trod enc P w base spare held t v dd p) :
    ∃ (A : Option Addr) (len cap : Nat) (g : Nat → List Int), v = .slice A len cap ∧ (∀ i, i < len → (g i).length = ks.length) ∧ RdR w ks.length A len (fun i => ints ks (g i)) ∧ (A = none → len = 0 ∧ cap = 0) ∧ len ≤ cap ∧ cap ≤ maxLen := by
  obtain ⟨a, n, c, rfl⟩ := okWide_slice ht hv
  obtain ⟨fuel, h⟩ := h
  obtain ⟨A, len, cap, g, e, h1⟩ := open_flat_slice d ht hk hC h0 h
  simp only [Value.cells, List.cons.injEq, Value.slice.injEq, and_true] at e
  obtain ⟨rfl, rfl, rfl⟩ := e
  exact ⟨_, _, _, g, rfl, h1⟩
def gi (ns : List Int) (j : Nat) : Int := ns.getD j 0
def rowK : List IntKind → (Nat → Int) → List Value
  | [], _ => []
  | k :: ks, f => .int k (f 0) :: rowK ks fun j => f (j + 1)
theorem ints_rowK : ∀ (ks : List IntKind) (ns : List Int), ns.length = ks.length → ints ks ns = rowK ks (gi ns)
  | [], [], _ => rfl
  | k :: ks, n :: ns, h => by
    show Value.int k n :: ints ks ns = _
    rw [ints_rowK ks ns (by simpa using h)]
    rfl
theorem RdR.rowK {sz n : Nat} {A : Option Addr} {ks : List IntKind} {g : Nat → List Int} (h : RdR w sz A n (fun i => ints ks (g i))) (hl : ∀ i, i < n → (g i).length = ks.length) : RdR w sz A n (fun i => rowK ks (gi (g i))) :=
  ⟨h.rd.congr fun i j hi hj => by simp only [rowF, ints_rowK ks (g i) (hl i hi)], fun i hi => by rw [← ints_rowK ks (g i) (hl i hi)]; exact h.len i hi⟩
theorem trodAll_stays (hl : laidOutB P = true) {W W' : World} (hb : Below W.heap.size W W') {sp' : Nat → Bool} : ∀ {ts : List TypeId} {vs : List Value} {ds : List (DataW H)} {ps : List MemPlace}, ts.all (fun t => P.readableRec t && decide (t < P.types.size)) = true →
    DataW.TrodAll enc P W 0 (fun _ => true) true ts vs ds ps → (∀ p ∈ ps, p.block < W.heap.size) → (∀ p ∈ ps, sp' p.block = true) → DataW.TrodAll enc P W' 0 sp' true ts vs ds ps
  | [], [], [], ps, _, h, _, _ => h
  | t :: ts, v :: vs, d :: ds, ps, ht, h, hlt, hs => by
    simp only [List.all_cons, Bool.and_eq_true, decide_eq_true_eq] at ht
    obtain ⟨p, q, h1, h2, rfl⟩ := h
    exact ⟨p, q, WideElems.Trod_stays hl ht.1.1 ht.1.2 h1 (fun x hx => hb.same (hlt x (by simp [hx]))) (fun x hx => hs x (by simp [hx])), trodAll_stays hl hb ht.2 h2 (fun x hx => hlt x (by simp [hx])) (fun x hx => hs x (by simp [hx])), rfl⟩
theorem law_post {f : Func} {s : ChangeSpec} {apart fresh handsOn again : Bool} {W W' : World} {args : Array Value} {ds : List (DataW H)} {p : List MemPlace} {tb : TypeId} (hl : laidOutB P = true) (hvars : s.vars = [])
    (hW : DataW.Whole enc P f.params.toList s.vars apart W args.toList ds [] p) (hA : DataW.TrodAll enc P W 0 (fun _ => true) true f.params.toList args.toList ds p)
    (ht : f.params.toList.all (fun t => P.readableRec t && decide (t < P.types.size)) = true) (hrt : f.resultTypes = #[tb]) (htb : P.underlying tb = some .bool) (hfn : s.fn H ds = { results := [.lit (.bool true)], args := ds }) (hb : Below W.heap.size W W') :
    s.post enc P f apart fresh handsOn again W args (.bool true) W' := by
  have hlt : ∀ q ∈ p, q.block < W.heap.size := fun q hq => hW.lt q hq
  have hold : ∀ q ∈ p, (fun b => decide (b < W.heap.size)) q.block = true := fun q hq => by simpa using hW.lt q hq
  have hres : ∀ (b : Nat) (sp : Nat → Bool) (hd : Bool), DataW.TrodAll enc P W' b sp hd f.resultTypes.toList ((Value.bool true).resultList f.resultTypes.size) (s.fn H (ds ++ [])).results [] := fun b sp hd => by
    rw [List.append_nil, hfn, hrt]
    exact ⟨[], [], shut_bool htb true, rfl, rfl⟩
  have hargs : ∀ sp : Nat → Bool, (∀ q ∈ p, sp q.block = true) → DataW.TrodAll enc P W' 0 sp true f.params.toList args.toList (s.fn H (ds ++ [])).args p := fun sp hs => by
    rw [List.append_nil, hfn]
    exact trodAll_stays hl hb ht hA (fun q hq => hW.lt q hq) hs
  have hv : ∀ sp : Nat → Bool, DataW.TrodVars enc P W' sp s.vars (s.fn H (ds ++ [])).vars [] := fun sp => by
    rw [List.append_nil, hfn, hvars]; exact rfl
  have hok : ∀ (j : Nat) (t : TypeId) (r : Value), f.resultTypes[j]? = some t → ((Value.bool true).resultList f.resultTypes.size)[j]? = some r → Value.okWide P W' .any 0 t r := ok_one (by rw [hrt]) rfl (okWide_bool_mk htb true)
  refine ⟨ds, [], p, [], p, [], hW, hres _ _ _, hargs _ hold, hv _, World.keptBut_mono (fun q hq => ⟨hq, by simpa using hq⟩) (hb.frame (· ∈ p)), fun _ => ?_⟩
  obtain ⟨_, _, _, _, _, hz, hn⟩ := hW
  refine ⟨hok, _, _, ([] ++ p) ++ [], ⟨[] ++ p, [], trodAll_append (hargs _ (fun _ _ => rfl)) (hres _ _ _), hv _, rfl, ?_, ?_⟩, ?_⟩
  · intro b off hp
    have hin : MemPlace.cell b off ∈ p := by simpa using hp
    rw [hb.frozen (hlt _ hin)]
    exact hz b off hin
  · intro ha
    have := hn ha
    simpa using this
  · intro q hq _
    simpa using hq
end
end Go.Proofs.YtmonkjnfjgidbaaGreatDoor
namespace Go.Proofs.YtmonkjnfjgidbaaGreatDoor
set_option linter.all false
set_option linter.unusedVariables false
set_option linter.unusedSimpArgs false
open Go.ChangeShapes Go.WideShapes Go.RowKit Go.Deep
section
variable {H : Type} {enc : TypeId × Value → H} {P : Program} {w : World} {base : Nat} {spare : Nat → Bool} {held : Bool}
theorem open_slice_any {t e : TypeId} {fuel : Nat} {cs : List Value} {x : DataW H × List MemPlace} {sz : Nat} (ht : P.underlying t = some (.slice e)) (hC : P.cellsOf e = sz) (h0 : Nat.blt 0 sz = true) (h : DataW.trod enc P w base spare held fuel t cs = some x) :
    ∃ (A : Option Addr) (len cap : Nat) (G : Nat → List Value), cs = [.slice A len cap] ∧ RdR w sz A len G ∧ (∀ i, i < len → ∃ n y, DataW.trod enc P w base spare held n e (G i) = some y) ∧ (A = none → len = 0 ∧ cap = 0) ∧ len ≤ cap ∧ cap ≤ maxLen := by
  have h0 : 0 < sz := Nat.le_of_ble_eq_true h0
  rcases open_slice ht h with ⟨rfl, rfl⟩ | ⟨a, len, cap, m, n, D, Pl, rfl, hb, hl, hm, hmm, _, hi⟩
  · exact ⟨none, 0, 0, fun _ => [], rfl, ⟨Rd.nil, fun i hi => by omega⟩, fun i hi => by omega, fun _ => ⟨rfl, rfl⟩, Nat.le_refl _, Nat.zero_le _⟩
  · have hlm : len ≤ m := by rw [hmm]; split <;> omega
    have key : ∀ i, i < len → ∃ cs' : List Value, cs'.length = sz ∧ (∀ j, j < sz → w.cell? (a.add (i * sz + j)) = cs'[j]?) ∧ ∃ n y, DataW.trod enc P w base spare held n e cs' = some y := fun i hil => by
      obtain ⟨cs', hc, hx⟩ := hi i (by omega)
      obtain ⟨_, hcl, hat⟩ := World.cells?_some hc
      refine ⟨cs', by rw [hcl, hC], fun j hj => ?_, n, _, hx⟩
      have := hat j (by rw [hC]; exact hj)
      rw [hC] at this
      rw [← this, ← add_add]
    refine ⟨some a, len, cap, fun i => if hi : i < len then (key i hi).choose else [], rfl, ⟨fun hn => ?_, fun i hi => ?_⟩, fun i hi => ?_, fun h => (by cases h), hl, hm⟩
    · have h1 := (key 0 hn).choose_spec.2.1 0 h0
      have hsome : ((key 0 hn).choose)[0]? = some ((key 0 hn).choose[0]'(by rw [(key 0 hn).choose_spec.1]; exact h0)) := List.getElem?_eq_getElem _
      rw [hsome] at h1
      have hadd : a.add (0 * sz + 0) = a := by simp [Addr.add]
      rw [hadd] at h1
      have hsp : a.spot = none := by
        unfold World.cell? at h1
        split at h1
        · cases hs : a.spot with
          | none => rfl
          | some s => simp [hs] at h1
        · cases h1
      have hlt : a.block < w.heap.size := World.block_lt_of_cell? w a h1
      obtain ⟨b, o, s⟩ := a
      simp only at hsp
      subst hsp
      refine ⟨b, o, rfl, hlt, fun i j hi hj => ?_⟩
      have h2 := (key i hi).choose_spec.2.1 j hj
      rw [add_plain] at h2
      rw [show o + i * sz + j = o + (i * sz + j) by omega, h2]
      simp only [rowF, hi, dite_true]
      have hl2 : j < (key i hi).choose.length := by rw [(key i hi).choose_spec.1]; exact hj
      rw [List.getD_eq_getElem?_getD, List.getElem?_eq_getElem hl2]
      rfl
    · simp only [hi, dite_true]
      exact (key i hi).choose_spec.1
    · simp only [hi, dite_true]
      exact (key i hi).choose_spec.2.2
theorem trod_fields {t : TypeId} {fs : Array Field} {fuel : Nat} {cs : List Value} {x : DataW H × List MemPlace} (ht : P.underlying t = some (.struct fs)) (h : DataW.trod enc P w base spare held fuel t cs = some x) :
    cs.length = P.cellsOf t ∧ ∀ (i : Nat) (f : Field), fs[i]? = some f → ∃ n y, DataW.trod enc P w base spare held n f.type ((cs.drop f.offset).take (P.cellsOf f.type)) = some y := by
  obtain ⟨xs, n, _, _, hlen, hxl, hf⟩ := DataW.trod_struct ht h
  refine ⟨hlen, fun i f hi => ?_⟩
  have h1 := hf i f hi
  have hi' : i < fs.size := (Array.getElem?_eq_some_iff.1 hi).1
  rw [List.getElem?_eq_getElem (by omega)] at h1
  exact ⟨n, _, h1⟩
theorem open_ints_in {t e : TypeId} {k : IntKind} {fuel : Nat} {cs : List Value} {x : DataW H × List MemPlace} (ht : P.underlying t = some (.slice e)) (he : P.underlying e = some (.int k)) (hC : P.cellsOf e = 1) (h : DataW.trod enc P w base spare held fuel t cs = some x) :
    ∃ (A : Option Addr) (len cap : Nat) (v : Nat → Int), cs = [.slice A len cap] ∧ RdR w 1 A len (fun q => [.int k (v q)]) ∧ (A = none → len = 0 ∧ cap = 0) ∧ len ≤ cap ∧ cap ≤ maxLen := by
  obtain ⟨A, len, cap, g, rfl, hg, hR, h1, h2, h3⟩ := open_flat_slice (ks := [k]) 1 ht (by simp only [kindsF, he]) hC rfl h
  refine ⟨A, len, cap, fun q => gi (g q) 0, rfl, ⟨hR.rd.congr fun i j hi hj => ?_, fun i hi => rfl⟩, h1, h2, h3⟩
  show (ints [k] (g i)).getD j undef = _
  rw [ints_rowK [k] (g i) (hg i hi)]
  rfl
theorem trodAll_eight {t0 t1 t2 t3 t4 t5 t6 t7 : TypeId} {args : Array Value} {ds : List (DataW H)} {ps : List MemPlace} (h : DataW.TrodAll enc P w base spare held [t0, t1, t2, t3, t4, t5, t6, t7] args.toList ds ps) :
    ∃ v0 v1 v2 v3 v4 v5 v6 v7 d0 d1 d2 d3 d4 d5 d6 d7 p0 p1 p2 p3 p4 p5 p6 p7, args = #[v0, v1, v2, v3, v4, v5, v6, v7] ∧ ds = [d0, d1, d2, d3, d4, d5, d6, d7] ∧ ps = p0 ++ (p1 ++ (p2 ++ (p3 ++ (p4 ++ (p5 ++ (p6 ++ p7)))))) ∧ DataW.Trod enc P w base spare held t0 v0 d0 p0 ∧ DataW.Trod enc P w base spare held t1 v1 d1 p1 ∧ DataW.Trod enc P w base spare held t2 v2 d2 p2 ∧ DataW.Trod enc P w base spare held t3 v3 d3 p3 ∧ DataW.Trod enc P w base spare held t4 v4 d4 p4 ∧ DataW.Trod enc P w base spare held t5 v5 d5 p5 ∧ DataW.Trod enc P w base spare held t6 v6 d6 p6 ∧ DataW.Trod enc P w base spare held t7 v7 d7 p7 := by
  obtain ⟨v0, vs0, d0, ds0, p0, q0, hargs, rfl, rfl, h0, hr0⟩ := trodAll_cons h
  obtain ⟨v1, vs1, d1, ds1, p1, q1, rfl, rfl, rfl, h1, hr1⟩ := trodAll_cons hr0
  obtain ⟨v2, vs2, d2, ds2, p2, q2, rfl, rfl, rfl, h2, hr2⟩ := trodAll_cons hr1
  obtain ⟨v3, vs3, d3, ds3, p3, q3, rfl, rfl, rfl, h3, hr3⟩ := trodAll_cons hr2
  obtain ⟨v4, vs4, d4, ds4, p4, q4, rfl, rfl, rfl, h4, hr4⟩ := trodAll_cons hr3
  obtain ⟨v5, vs5, d5, ds5, p5, q5, rfl, rfl, rfl, h5, hr5⟩ := trodAll_cons hr4
  obtain ⟨v6, vs6, d6, ds6, p6, q6, rfl, rfl, rfl, h6, hr6⟩ := trodAll_cons hr5
  obtain ⟨v7, vs7, d7, ds7, p7, q7, rfl, rfl, rfl, h7, hr7⟩ := trodAll_cons hr6
  obtain ⟨rfl, rfl, rfl⟩ := trodAll_nil hr7
  exact ⟨v0, v1, v2, v3, v4, v5, v6, v7, d0, d1, d2, d3, d4, d5, d6, d7, p0, p1, p2, p3, p4, p5, p6, p7, by cases args; simp_all, rfl, by simp, h0, h1, h2, h3, h4, h5, h6, h7⟩
end
end Go.Proofs.YtmonkjnfjgidbaaGreatDoor
namespace Go.Proofs.YtmonkjnfjgidbaaGreatDoor
set_option linter.all false
set_option linter.unusedVariables false
set_option linter.unusedSimpArgs false
open Go.ChangeShapes Go.WideShapes Go.ChangeAt Go.RowKit Go.Deep
theorem Tryz.own : ownKnob Tryz.prog.godebug = none := by kernel_rfl
theorem Tryz.laidOut : laidOutB Tryz.prog = true := by kernel_rfl
section
variable {H : Type} {enc : TypeId × Value → H} {w : World} {base : Nat} {spare : Nat → Bool} {held : Bool}
set_option maxRecDepth 100000 in
theorem leg_of_trod {fuel : Nat} {G : List Value} {y : DataW H × List MemPlace} (hl : G.length = 5) (hy : DataW.trod enc Tryz.prog w base spare held fuel 122 G = some y) :
    ∃ (x : Leg) (g : Nat → Nat → Int), G = legL x ∧ RdR w 4 x.A x.n (fun j => gateL (g j)) := by
  obtain ⟨_, hf⟩ := trod_fields Tryz.underlying122 hy
  obtain ⟨n0, y0, h0⟩ := hf 0 _ rfl
  obtain ⟨n1, y1, h1⟩ := hf 1 _ rfl
  obtain ⟨n2, y2, h2⟩ := hf 2 _ rfl
  obtain ⟨n3, y3, h3⟩ := hf 3 _ rfl
  obtain ⟨k0, e0, _, _⟩ := DataW.trod_int Tryz.underlying3 h0
  obtain ⟨k1, e1, _, _⟩ := DataW.trod_int Tryz.underlying3 h1
  obtain ⟨s2, e2, l2⟩ := kindsF_spec 2 35 [.i64, .i64] (by kernel_rfl) _ _ _ h2
  obtain ⟨A, n, c, gg, e3, hg, hR, _⟩ := open_flat_slice (ks := [.i64, .i64, .i64, .i64]) 3 Tryz.underlying120 (by kernel_rfl) (by kernel_rfl) rfl h3
  have hc1 : Tryz.prog.cellsOf 3 = 1 := by kernel_rfl
  have hc2 : Tryz.prog.cellsOf 35 = 2 := by kernel_rfl
  have hc3 : Tryz.prog.cellsOf 120 = 1 := by kernel_rfl
  match s2, l2 with
  | [a0, a1], _ =>
    match G, hl with
    | [x0, x1, x2, x3, x4], _ =>
      have e0 : [x0] = [.int .i64 k0] := by simpa [hc1] using e0
      have e1 : [x1] = [.int .i64 k1] := by simpa [hc1] using e1
      have e2 : [x2, x3] = [.int .i64 a0, .int .i64 a1] := by simpa [hc2, ints] using e2
      have e3 : [x4] = [.slice A n c] := by simpa [hc3] using e3
      cases e0; cases e1; cases e2; cases e3
      exact ⟨⟨gi [k0, k1, a0, a1], A, n, c⟩, fun j => gi (gg j), rfl, hR.rowK hg⟩
set_option maxRecDepth 100000 in
theorem claim_of_trod {fuel : Nat} {G : List Value} {y : DataW H × List MemPlace} (hl : G.length = 7) (hy : DataW.trod enc Tryz.prog w base spare held fuel 71 G = some y) :
    ∃ x : (Nat → Int) × Bool, G = claimL x := by
  obtain ⟨_, hf⟩ := trod_fields Tryz.underlying71 hy
  obtain ⟨n0, y0, h0⟩ := hf 0 _ rfl
  obtain ⟨n1, y1, h1⟩ := hf 1 _ rfl
  obtain ⟨n2, y2, h2⟩ := hf 2 _ rfl
  obtain ⟨n3, y3, h3⟩ := hf 3 _ rfl
  obtain ⟨n4, y4, h4⟩ := hf 4 _ rfl
  obtain ⟨n5, y5, h5⟩ := hf 5 _ rfl
  obtain ⟨n6, y6, h6⟩ := hf 6 _ rfl
  obtain ⟨k0, e0, _, _⟩ := DataW.trod_int Tryz.underlying3 h0
  obtain ⟨k1, e1, _, _⟩ := DataW.trod_int Tryz.underlying3 h1
  obtain ⟨k2, e2, _, _⟩ := DataW.trod_int Tryz.underlying3 h2
  obtain ⟨k3, e3, _, _⟩ := DataW.trod_int Tryz.underlying3 h3
  obtain ⟨k4, e4, _, _⟩ := DataW.trod_int Tryz.underlying3 h4
  obtain ⟨k5, e5, _, _⟩ := DataW.trod_int Tryz.underlying3 h5
  obtain ⟨m, e6, _⟩ := DataW.trod_bool Tryz.underlying4 h6
  have hc1 : Tryz.prog.cellsOf 3 = 1 := by kernel_rfl
  have hc2 : Tryz.prog.cellsOf 4 = 1 := by kernel_rfl
  match G, hl with
  | [x0, x1, x2, x3, x4, x5, x6], _ =>
    have e0 : [x0] = [.int .i64 k0] := by simpa [hc1] using e0
    have e1 : [x1] = [.int .i64 k1] := by simpa [hc1] using e1
    have e2 : [x2] = [.int .i64 k2] := by simpa [hc1] using e2
    have e3 : [x3] = [.int .i64 k3] := by simpa [hc1] using e3
    have e4 : [x4] = [.int .i64 k4] := by simpa [hc1] using e4
    have e5 : [x5] = [.int .i64 k5] := by simpa [hc1] using e5
    have e6 : [x6] = [.bool m] := by simpa [hc2] using e6
    cases e0; cases e1; cases e2; cases e3; cases e4; cases e5; cases e6
    exact ⟨(gi [k0, k1, k2, k3, k4, k5], m), rfl⟩
theorem rows_choose {α : Type} {n sz : Nat} {A : Option Addr} {G : Nat → List Value} {F : α → List Value} {q : Nat → α → Prop} (d : α) (hR : RdR w sz A n G) (h : ∀ i, i < n → ∃ x, G i = F x ∧ q i x) : ∃ r : Nat → α, RdR w sz A n (fun i => F (r i)) ∧ ∀ i, i < n → q i (r i) := by
  have hch : ∀ i, ∃ x, i < n → G i = F x ∧ q i x := fun i => by
    by_cases hi : i < n
    · obtain ⟨x, hx⟩ := h i hi
      exact ⟨x, fun _ => hx⟩
    · exact ⟨d, fun h => absurd h hi⟩
  obtain ⟨r, hr⟩ := Classical.axiomOfChoice hch
  exact ⟨r, ⟨hR.rd.congr fun i j hi hj => by simp only [rowF, (hr i hi).1], fun i hi => by rw [← (hr i hi).1]; exact hR.len i hi⟩, fun i hi => (hr i hi).2⟩
set_option maxRecDepth 100000 in
theorem open_land {r : Reach} {b0 : Nat} {v : Value} {dd : DataW H} {p : List MemPlace} (hv : Value.okWide Tryz.prog w r b0 25 v) (h : DataW.Trod enc Tryz.prog w base spare held 25 v dd p) :
    ∃ (W A : Option Addr) (nw cw nl cl : Nat) (f : Nat → Nat → Int) (x : Nat → Leg) (g : Nat → Nat → Nat → Int), v = .agg (landL W nw cw A nl cl).toArray ∧ RdR w 9 W nw (fun k => wellL (f k)) ∧ RdR w 5 A nl (fun k => legL (x k)) ∧ ∀ k, k < nl → RdR w 4 (x k).A (x k).n (fun j => gateL (g k j)) := by
  obtain ⟨cs, rfl, hlen⟩ := okWide_struct Tryz.underlying25 hv
  obtain ⟨fuel, hf⟩ := h
  obtain ⟨hl, hfs⟩ := trod_fields Tryz.underlying25 hf
  obtain ⟨n0, y0, h0⟩ := hfs 0 _ rfl
  obtain ⟨n1, y1, h1⟩ := hfs 1 _ rfl
  obtain ⟨W, nw, cw, gg, e0, hg, hR0, _⟩ := open_flat_slice (ks := List.replicate 9 .i64) 3 Tryz.underlying22 (by kernel_rfl) (by kernel_rfl) rfl h0
  obtain ⟨A, nl, cl, G, e1, hR1, hel, _⟩ := open_slice_any (sz := 5) Tryz.underlying23 (by kernel_rfl) rfl h1
  obtain ⟨x, hx, hq⟩ := rows_choose (F := fun q : Leg × (Nat → Nat → Int) => legL q.1) (q := fun _ q => RdR w 4 q.1.A q.1.n (fun j => gateL (q.2 j))) (⟨fun _ => 0, none, 0, 0⟩, fun _ _ => 0) hR1 fun i hi => by
    obtain ⟨n, y, hy⟩ := hel i hi
    obtain ⟨x, g, e, hr⟩ := leg_of_trod (hR1.len i hi) hy
    exact ⟨(x, g), e, hr⟩
  have hc2 : Tryz.prog.cellsOf 25 = 2 := by kernel_rfl
  have hcw : Tryz.prog.cellsOf 22 = 1 := by kernel_rfl
  have hcl : Tryz.prog.cellsOf 23 = 1 := by kernel_rfl
  rw [hc2] at hl
  obtain ⟨L⟩ := cs
  match L, hl with
  | [x0, x1], _ =>
    have e0 : [x0] = [.slice W nw cw] := by simpa [hcw, Value.cells] using e0
    have e1 : [x1] = [.slice A nl cl] := by simpa [hcl, Value.cells] using e1
    cases e0; cases e1
    exact ⟨W, A, nw, cw, nl, cl, fun k => gi (gg k), fun k => (x k).1, fun k => (x k).2, rfl, hR0.rowK hg, hx, hq⟩
set_option maxRecDepth 100000 in
theorem open_custom {r : Reach} {b0 : Nat} {v : Value} {dd : DataW H} {p : List MemPlace} (hv : Value.okWide Tryz.prog w r b0 30 v) (h : DataW.Trod enc Tryz.prog w base spare held 30 v dd p) :
    ∃ (C D B : Option Addr) (nc cc nd cd nb cb : Nat) (c : Nat → (Nat → Int) × Bool) (d b : Nat → Nat → Int), v = .agg (custL C nc cc D nd cd B nb cb).toArray ∧ RdR w 7 C nc (fun k => claimL (c k)) ∧ RdR w 4 D nd (fun k => feudL (d k)) ∧ RdR w 3 B nb (fun k => borderL (b k)) := by
  obtain ⟨cs, rfl, hlen⟩ := okWide_struct Tryz.underlying30 hv
  obtain ⟨fuel, hf⟩ := h
  obtain ⟨hl, hfs⟩ := trod_fields Tryz.underlying30 hf
  obtain ⟨n0, y0, h0⟩ := hfs 0 _ rfl
  obtain ⟨n1, y1, h1⟩ := hfs 1 _ rfl
  obtain ⟨n2, y2, h2⟩ := hfs 2 _ rfl
  obtain ⟨C, nc, cc, G, e0, hR0, hel, _⟩ := open_slice_any (sz := 7) Tryz.underlying26 (by kernel_rfl) rfl h0
  obtain ⟨D, nd, cd, gd, e1, hgd, hR1, _⟩ := open_flat_slice (ks := List.replicate 4 .i64) 3 Tryz.underlying27 (by kernel_rfl) (by kernel_rfl) rfl h1
  obtain ⟨B, nb, cb, gb, e2, hgb, hR2, _⟩ := open_flat_slice (ks := List.replicate 3 .i64) 3 Tryz.underlying28 (by kernel_rfl) (by kernel_rfl) rfl h2
  obtain ⟨c, hc, _⟩ := rows_choose (F := claimL) (q := fun _ _ => True) (fun _ => 0, false) hR0 fun i hi => by
    obtain ⟨n, y, hy⟩ := hel i hi
    obtain ⟨x, e⟩ := claim_of_trod (hR0.len i hi) hy
    exact ⟨x, e, trivial⟩
  have hc3 : Tryz.prog.cellsOf 30 = 3 := by kernel_rfl
  have hk1 : Tryz.prog.cellsOf 26 = 1 := by kernel_rfl
  have hk2 : Tryz.prog.cellsOf 27 = 1 := by kernel_rfl
  have hk3 : Tryz.prog.cellsOf 28 = 1 := by kernel_rfl
  rw [hc3] at hl
  obtain ⟨L⟩ := cs
  match L, hl with
  | [x0, x1, x2], _ =>
    have e0 : [x0] = [.slice C nc cc] := by simpa [hk1, Value.cells] using e0
    have e1 : [x1] = [.slice D nd cd] := by simpa [hk2, Value.cells] using e1
    have e2 : [x2] = [.slice B nb cb] := by simpa [hk3, Value.cells] using e2
    cases e0; cases e1; cases e2
    exact ⟨C, D, B, nc, cc, nd, cd, nb, cb, c, fun k => gi (gd k), fun k => gi (gb k), rfl, hc, hR1.rowK hgd, hR2.rowK hgb⟩
set_option maxRecDepth 100000 in
theorem open_troop {r : Reach} {b0 : Nat} {v : Value} {dd : DataW H} {p : List MemPlace} (hv : Value.okWide Tryz.prog w r b0 33 v) (h : DataW.Trod enc Tryz.prog w base spare held 33 v dd p) :
    ∃ (T : Trp) (O U V : Option Addr) (co cu cv : Nat), v = .agg (troopL T.hd T.wo O T.no co U T.nu cu V T.nv cv).toArray ∧ RdR w 1 O T.no (fun k => [.int .i64 (T.o k)]) ∧ RdR w 1 U T.nu (fun k => [.int .i64 (T.u k)]) ∧ RdR w 1 V T.nv (fun k => [.int .i64 (T.v k)]) := by
  obtain ⟨cs, rfl, hlen⟩ := okWide_struct Tryz.underlying33 hv
  obtain ⟨fuel, hf⟩ := h
  obtain ⟨hl, hfs⟩ := trod_fields Tryz.underlying33 hf
  obtain ⟨n0, y0, h0⟩ := hfs 0 _ rfl
  obtain ⟨n1, y1, h1⟩ := hfs 1 _ rfl
  obtain ⟨n2, y2, h2⟩ := hfs 2 _ rfl
  obtain ⟨n3, y3, h3⟩ := hfs 3 _ rfl
  obtain ⟨n4, y4, h4⟩ := hfs 4 _ rfl
  obtain ⟨k0, e0, _, _⟩ := DataW.trod_int Tryz.underlying3 h0
  obtain ⟨k1, e1, _, _⟩ := DataW.trod_int Tryz.underlying3 h1
  obtain ⟨O, no, co, o, e2, hO, _⟩ := open_ints_in Tryz.underlying31 Tryz.underlying3 (by kernel_rfl) h2
  obtain ⟨U, nu, cu, u, e3, hU, _⟩ := open_ints_in Tryz.underlying31 Tryz.underlying3 (by kernel_rfl) h3
  obtain ⟨V, nv, cv, x, e4, hV, _⟩ := open_ints_in Tryz.underlying31 Tryz.underlying3 (by kernel_rfl) h4
  have hc5 : Tryz.prog.cellsOf 33 = 5 := by kernel_rfl
  have hc1 : Tryz.prog.cellsOf 3 = 1 := by kernel_rfl
  have hc2 : Tryz.prog.cellsOf 31 = 1 := by kernel_rfl
  rw [hc5] at hl
  obtain ⟨L⟩ := cs
  match L, hl with
  | [x0, x1, x2, x3, x4], _ =>
    have e0 : [x0] = [.int .i64 k0] := by simpa [hc1, Value.cells] using e0
    have e1 : [x1] = [.int .i64 k1] := by simpa [hc1, Value.cells] using e1
    have e2 : [x2] = [.slice O no co] := by simpa [hc2, Value.cells] using e2
    have e3 : [x3] = [.slice U nu cu] := by simpa [hc2, Value.cells] using e3
    have e4 : [x4] = [.slice V nv cv] := by simpa [hc2, Value.cells] using e4
    cases e0; cases e1; cases e2; cases e3; cases e4
    exact ⟨⟨k0, k1, no, nu, nv, o, u, x⟩, O, U, V, co, cu, cv, rfl, hO, hU, hV⟩
set_option maxRecDepth 100000 in
theorem open_span {r : Reach} {b0 : Nat} {v : Value} {dd : DataW H} {p : List MemPlace} (hv : Value.okWide Tryz.prog w r b0 35 v) (h : DataW.Trod enc Tryz.prog w base spare held 35 v dd p) :
    ∃ a b : Int, v = .agg #[.int .i64 a, .int .i64 b] := by
  obtain ⟨cs, rfl, hlen⟩ := okWide_struct Tryz.underlying35 hv
  obtain ⟨fuel, hf⟩ := h
  obtain ⟨s2, e2, l2⟩ := kindsF_spec 2 35 [.i64, .i64] (by kernel_rfl) _ _ _ hf
  match s2, l2 with
  | [a0, a1], _ =>
    refine ⟨a0, a1, ?_⟩
    have e3 : cs.toList = [.int .i64 a0, .int .i64 a1] := by simpa [ints, Value.cells] using e2
    obtain ⟨L⟩ := cs
    have e4 : L = [.int .i64 a0, .int .i64 a1] := e3
    rw [e4]
set_option maxRecDepth 100000 in
theorem open_numbers {r : Reach} {b0 : Nat} {v : Value} {dd : DataW H} {p : List MemPlace} (hv : Value.okWide Tryz.prog w r b0 31 v) (h : DataW.Trod enc Tryz.prog w base spare held 31 v dd p) :
    ∃ (A : Option Addr) (n cp : Nat) (u : Nat → Int), v = .slice A n cp ∧ RdR w 1 A n (fun k => [.int .i64 (u k)]) := by
  obtain ⟨A, n, cp, g, rfl, hg, hR, _, _, _⟩ := open_rows 1 [.i64] Tryz.underlying31 (by kernel_rfl) (by kernel_rfl) rfl hv h
  exact ⟨A, n, cp, fun i => gi (g i) 0, rfl, hR.rowK hg⟩
end
theorem gBars : Tryz.prog.globalNamed "azalai/toll.bars" = some 0 := by kernel_rfl
theorem tBars : (Tryz.prog.globals[0]?).map (·.type) = some 215 := by kernel_rfl
theorem nil_of_trod {w : World} {base : Nat} {sp : Nat → Bool} {fuel : Nat} {t : TypeId} {ps rs : Array TypeId} {va : Bool} {v : Value} {q : List MemPlace} (ht : Tryz.prog.underlying t = some (.func ps rs va)) (h : DataW.trod (funcToken Tryz.prog) Tryz.prog w base sp true fuel t [v] = some (.nil, q)) : v = Value.nilFunc := by
  cases fuel with
  | zero => simp [DataW.trod] at h
  | succ n => cases v <;> simp [DataW.trod, ht] at h <;> rfl
set_option maxRecDepth 100000 in
theorem bars0_of_laid {W : World} (h : laidMetH Tryz.prog [("azalai/toll.bars", Rows.laid_azalai_toll_bars)] W) : OldB W 0 barsL := by
  obtain ⟨g0, t0, cs, fuel, p, hg, ht, hv, hd⟩ := h.funcs (List.mem_singleton.2 rfl)
  obtain rfl := Option.some.inj (gBars.symm.trans hg)
  obtain rfl := Option.some.inj (tBars.symm.trans ht)
  have hd' : DataW.trod (funcToken Tryz.prog) Tryz.prog W 0 (fun _ => true) true fuel 215 cs.toList = some (.agg [.nil, .held [40, 42, 97, 122, 97, 108, 97, 105, 47, 116, 111, 108, 108, 46, 116, 114, 101, 107, 41, 46, 99, 108, 111, 115, 101, 100], .held [40, 42, 97, 122, 97, 108, 97, 105, 47, 116, 111, 108, 108, 46, 116, 114, 101, 107, 41, 46, 104, 97, 116, 101, 100], .held [40, 42, 97, 122, 97, 108, 97, 105, 47, 116, 111, 108, 108, 46, 116, 114, 101, 107, 41, 46, 108, 111, 115, 116]], p) := hd
  have hfl : ∃ c0 c1 c2 c3, cs = #[c0, c1, c2, c3] := by
    obtain ⟨xs, m, _, _, hl, _, _⟩ := DataW.trod_array Tryz.underlying215 hd'
    have hc : Tryz.prog.cellsOf 215 = 4 := by kernel_rfl
    rw [hc] at hl
    obtain ⟨L⟩ := cs
    match L, hl with
    | [c0, c1, c2, c3], _ => exact ⟨c0, c1, c2, c3, rfl⟩
  obtain ⟨c0, c1, c2, c3, rfl⟩ := hfl
  obtain ⟨y0, y1, y2, y3, n, hx, h0, h1, h2, h3⟩ := trod_array4 Tryz.underlying215 (by kernel_rfl) hd'
  simp only [Prod.mk.injEq, DataW.agg.injEq, List.cons.injEq, and_true] at hx
  obtain ⟨⟨e0, e1, e2, e3⟩, _⟩ := hx
  obtain ⟨d0, q0⟩ := y0
  obtain ⟨d1, q1⟩ := y1
  obtain ⟨d2, q2⟩ := y2
  obtain ⟨d3, q3⟩ := y3
  simp only at e0 e1 e2 e3
  subst e0 e1 e2 e3
  obtain rfl := nil_of_trod Tryz.underlying214 h0
  obtain rfl := func_of_trod (f0 := 215) Tryz.underlying214 (by kernel_rfl) h1
  obtain rfl := func_of_trod (f0 := 216) Tryz.underlying214 (by kernel_rfl) h2
  obtain rfl := func_of_trod (f0 := 217) Tryz.underlying214 (by kernel_rfl) h3
  have hc := World.var?_cell hg hv
  exact ⟨World.block_lt_of_cell? W ⟨0, 0, none⟩ (hc 0), fun j v hj => by rw [hc j]; simpa [barsL, barV, barF] using hj⟩
end Go.Proofs.YtmonkjnfjgidbaaGreatDoor
namespace Go.Proofs.YtmonkjnfjgidbaaGreatDoor
set_option linter.all false
set_option linter.unusedVariables false
set_option linter.unusedSimpArgs false
open Go.ChangeShapes Go.WideShapes Go.ChangeAt Go.RowKit Go.Deep
section
variable {H : Type} {enc : TypeId × Value → H} {P : Program} {w : World} {base : Nat} {spare : Nat → Bool} {held : Bool}
theorem RdR.cong {sz n : Nat} {A : Option Addr} {r r' : Nat → List Value} (h : RdR w sz A n r) (he : ∀ i, i < n → r i = r' i) : RdR w sz A n r' := ⟨h.rd.congr fun i j hi _ => by simp only [rowF, he i hi], fun i hi => by rw [← he i hi]; exact h.len i hi⟩
theorem trod_int {P : Program} {n : Nat} {t : TypeId} {k : IntKind} {cs : List Value} {y : DataW H × List MemPlace} (ht : P.underlying t = some (.int k)) (h : DataW.trod enc P w base spare held n t cs = some y) : ∃ x : Int, cs = [.int k x] ∧ k.min ≤ x ∧ x ≤ k.max := by
  cases n with
  | zero => cases h
  | succ n =>
    unfold DataW.trod at h
    rw [ht] at h
    split at h <;> first | (rename_i e _; cases e; done) | skip
    all_goals first | (rename_i k1 k2 x e; cases e; split at h; (rename_i hx; obtain ⟨rfl, hw⟩ := hx; simp only [Lit.wf, Bool.and_eq_true, decide_eq_true_eq] at hw; exact ⟨x, rfl, hw.1, hw.2⟩); cases h) | (cases h; done) | (rename_i e; cases e; done) | (rename_i e _ _; cases e; done) | (rename_i e _ _ _; cases e; done)
set_option maxRecDepth 100000 in
theorem open_u32s {r : Reach} {b0 : Nat} {v : Value} {dd : DataW H} {p : List MemPlace} (hv : Value.okWide Tryz.prog w r b0 56 v) (h : DataW.Trod enc Tryz.prog w base spare held 56 v dd p) :
    ∃ (A : Option Addr) (n cp : Nat) (u : Nat → Int), v = .slice A n cp ∧ RdR w 1 A n (fun k => [.int .u32 (u k)]) ∧ U32n n u := by
  obtain ⟨A0, n0, c0, rfl⟩ := okWide_slice Tryz.underlying56 hv
  obtain ⟨fuel, h⟩ := h
  obtain ⟨A, m, cp, G, e, hR, hel, _, hc, _⟩ := open_slice_any (sz := 1) Tryz.underlying56 (by kernel_rfl) rfl h
  simp only [Value.cells, List.cons.injEq, Value.slice.injEq, and_true] at e
  obtain ⟨rfl, rfl, rfl⟩ := e
  have key : ∀ i, i < n0 → ∃ x : Int, G i = [.int .u32 x] ∧ 0 ≤ x ∧ x ≤ 4294967295 := fun i hi => by
    obtain ⟨n, y, hy⟩ := hel i hi
    obtain ⟨x, e, h1, h2⟩ := trod_int Tryz.underlying64 hy
    exact ⟨x, e, h1, h2⟩
  refine ⟨A0, n0, c0, fun i => if hi : i < n0 then (key i hi).choose else 0, rfl, ?_, fun i hi => ?_⟩
  · exact hR.cong fun i hi => by simp only [dif_pos hi]; exact (key i hi).choose_spec.1
  · simp only [dif_pos hi]; exact (key i hi).choose_spec.2
end
end Go.Proofs.YtmonkjnfjgidbaaGreatDoor
namespace Go.Proofs.YtmonkjnfjgidbaaGreatDoor
set_option linter.all false
set_option linter.unusedVariables false
set_option linter.unusedSimpArgs false
open Go.ChangeShapes Go.WideShapes Go.ChangeAt Go.RowKit Go.Deep
section
variable {H : Type} {enc : TypeId × Value → H} {w : World} {base : Nat} {spare : Nat → Bool} {held : Bool}
set_option maxRecDepth 100000 in
theorem custom_cap {C D B : Option Addr} {nc cc nd cd nb cb : Nat} {dd : DataW H} {p : List MemPlace} (h : DataW.Trod enc Tryz.prog w base spare held 30 (.agg (custL C nc cc D nd cd B nb cb).toArray) dd p) : nc ≤ cc := by
  obtain ⟨fuel, hf⟩ := h
  obtain ⟨_, hfs⟩ := trod_fields Tryz.underlying30 hf
  obtain ⟨n0, y0, h0⟩ := hfs 0 _ rfl
  obtain ⟨C', n', c', G, e0, _, _, _, hc, _⟩ := open_slice_any (sz := 7) Tryz.underlying26 (by kernel_rfl) rfl h0
  have hk1 : Tryz.prog.cellsOf 26 = 1 := by kernel_rfl
  have e : [Value.slice C nc cc] = [.slice C' n' c'] := by simpa [hk1, Value.cells, custL] using e0
  cases e
  exact hc
end
set_option maxRecDepth 100000 in
theorem tollOrder_door (os : Os) (args : Array Value) : laidMetH Tryz.prog Rows.tollOrderRow.laid ((World.doorLaid Tryz.prog 14 os).forCall (fun _ _ => 0) ⟨#[], args, []⟩).memory :=
  laidMetH_of_parts3 (fuel := 8) (laidMet_of_run' 8 (by kernel_rfl) (by kernel_rfl)) (by kernel_rfl) (by kernel_rfl)
set_option maxRecDepth 100000 in
theorem tollOrder_lifted (os : Os) (started : os.Started) (H : Type) (enc : TypeId × Value → H) :
    ReturnsInHanded {} Tryz.checked os 7 .any (fun w args => (Rows.tollOrderSpec.pre enc Tryz.prog Tryz.f7 [] false w args ∧ laidMetH Tryz.prog Rows.tollOrderRow.laid w) ∧ sizedMet enc Tryz.prog Tryz.f7 (OpenSpec.ofChange Rows.tollOrderSpec) false w args) (Rows.tollOrderSpec.post enc Tryz.prog Tryz.f7 false true false false) := by
  refine returnsInHanded_of_change_and (C := Tryz.checked) (X := fun w _ => laidMetH Tryz.prog Rows.tollOrderRow.laid w) (fun _ _ _ hh h => h.of_heap hh) Tryz.own started (by kernel_rfl) Tryz.func7
    (ChangeSpec.witness_shaped (enc := enc) (C := Tryz.checked) (os := os) (X := fun w _ => laidMetH Tryz.prog Rows.tollOrderRow.laid w) false (World.doorLaid Tryz.prog 14 os) #[.agg #[.slice none 0 0, .slice none 0 0], .agg #[.slice none 0 0, .slice none 0 0, .slice none 0 0], .agg #[.int .i64 0, .int .i64 0, .slice none 0 0, .slice none 0 0, .slice none 0 0], .int .i64 0, .int .i64 0, .agg #[.int .i64 0, .int .i64 0], .slice none 0 0, .slice none 0 0] 8 rfl (World.shaped_of_RefB (by kernel_rfl) (by kernel_rfl)) (by kernel_rfl) (by kernel_rfl) (by kernel_rfl) (tollOrder_door os _)) ?_
  intro W base args ds gs before hval0 hW _ _ hLd _
  have hval : ∀ (j : Nat) t v, Tryz.f7.params[j]? = some t → args[j]? = some v → Value.okWide Tryz.prog W .any base t v := hval0
  have hW' := hW
  obtain ⟨p, q, hA0, hV, rfl, hfz, hnd⟩ := hW
  have hA : DataW.TrodAll enc Tryz.prog W 0 (fun _ => true) true Tryz.f7.params.toList args.toList ds p := hA0
  have hA1 := hA
  rw [Tryz.params7] at hA hval
  obtain ⟨v0, v1, v2, v3, v4, v5, v6, v7, d0, d1, d2, d3, d4, d5, d6, d7, p0, p1, p2, p3, p4, p5, p6, p7, rfl, rfl, rfl, h0, h1, h2, h3, h4, h5, h6, h7⟩ := trodAll_eight hA
  obtain ⟨rfl, rfl⟩ := trodVars_none hV
  have hG : OldB W 0 barsL := bars0_of_laid hLd
  obtain ⟨Wl, A, nw, cw, nl, cl, f, x, g, rfl, hRW, hRA, hRG⟩ := open_land (hval 0 25 v0 rfl rfl) h0
  obtain ⟨C, D, B, nc, cc, nd, cd, nb, cb, c, d, b, rfl, hRC, hRD, hRB⟩ := open_custom (hval 1 30 v1 rfl rfl) h1
  obtain ⟨T, O, U, V, co, cu, cv, rfl, hRO, hRU, hRV⟩ := open_troop (hval 2 33 v2 rfl rfl) h2
  obtain ⟨start, rfl, _⟩ := open_int Tryz.underlying3 (hval 3 3 v3 rfl rfl) h3
  obtain ⟨day, rfl, _⟩ := open_int Tryz.underlying3 (hval 4 3 v4 rfl rfl) h4
  obtain ⟨q0, q1, rfl⟩ := open_span (hval 5 35 v5 rfl rfl) h5
  obtain ⟨L, n, cn, ls, rfl, hRL⟩ := open_numbers (hval 6 31 v6 rfl rfl) h6
  obtain ⟨Gb, nb9, cg, u, rfl, hRu, hu⟩ := open_u32s (hval 7 56 v7 rfl rfl) h7
  have hcc := custom_cap h1
  clear hA0 hval0
  simp only [List.append_nil] at hW'
  refine (lawOrder_any (Y := ⟨nw, nl, f, x, g, q0, q1, start, day, n, ls⟩) (Z := ⟨nc, nd, nb, c, d, b⟩) (T := T) hcc ⟨hRW, hRA, hRG, hRC, hRD, hRB, hRO, hRU, hRV, hRL⟩ hRu hu hG).mono ?_
  rintro e W' ⟨rfl, hb⟩
  exact ⟨_, rfl, law_post Tryz.laidOut rfl hW' hA1 (by kernel_rfl) (by kernel_rfl) Tryz.underlying4 rfl hb⟩
theorem tollOrder_row : Rows.TollOrderSaid :=
  OpenClaim.holds_of_wide 7 Tryz.f7 rfl rfl rfl rfl rfl rfl rfl ⟨rfl, rfl, rfl, rfl, rfl⟩ rfl rfl rfl rfl rfl (by kernel_rfl) Tryz.func7 (by kernel_rfl)
    (of_decide_eq_true (by kernel_rfl)) (by unfold Func.isWrapper; first | (rw [if_pos (by decide +kernel)]; kernel_rfl) | (rw [if_neg (by decide +kernel)]; exact ⟨rfl, rfl⟩))
    (fun os started H enc _ => tollOrder_lifted os started H enc)
theorem tollOrder_holds : Rows.TollOrderCardSaid :=
  Claim7.holds_tied_plain_at .later [] [.funcs] true _ false
    tollOrder_row (fun _ h => by cases h) (by kernel_rfl) (fun _ h => by cases h) tollOrder_row_tie rfl ⟨rfl, rfl⟩ (by kernel_rfl) rfl
    (fun f fn hf hfn => by
      obtain rfl : f = 7 := Option.some.inj ((show Tryz.prog.funcNamed "azalai/azalailaw07.TollOrder" = some 7 by kernel_rfl).symm.trans hf) |>.symm
      obtain rfl : fn = Tryz.f7 := (Option.some.inj (Tryz.func7.symm.trans hfn)).symm
      exact ⟨by kernel_rfl, fun j t ht => by
        have hall : (Tryz.f7.params.toList.all fun u => !Tryz.prog.wantsStandIn u) = true := by kernel_rfl
        have hm : t ∈ Tryz.f7.params.toList := by simpa using Array.mem_of_getElem? ht
        exact (show Tryz.prog.wantsStandIn t = false by simpa using List.all_eq_true.1 hall t hm)⟩)
    (by kernel_rfl)
end Go.Proofs.YtmonkjnfjgidbaaGreatDoor
