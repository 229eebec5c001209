/-
  Part 4 of the proof of brandLines_holds: declarations of several texts, in build order. No condition on a program.
-/
import Derived.Test.YtlphecckplndnaaBrln03
import Derived.Lib.SliceRun
namespace Go.Proofs.Ytlphecckplndnaa
set_option linter.all false
set_option linter.unusedVariables false
set_option linter.unusedSimpArgs false
abbrev BSt := Nat → Int × Int
def Con (f : Nat → Int) (n : Nat) (C : BSt) : Prop := ∀ i, i < n → 0 ≤ f i → (C (f i).toNat).1 + 1400 ≤ (C i).1 ∧ (C i).2 ≤ (C (f i).toNat).2 + 10000 ∧ (C i).1 - 10000 ≤ (C (f i).toNat).1 ∧ (C (f i).toNat).2 ≤ (C i).2 - 1400
def SubS (n : Nat) (C S : BSt) : Prop := ∀ i, i < n → (S i).1 ≤ (C i).1 ∧ (C i).2 ≤ (S i).2
theorem SubS.refl {n : Nat} {S : BSt} : SubS n S S := fun _ _ => ⟨Int.le_refl _, Int.le_refl _⟩
theorem SubS.trans {n : Nat} {A B C : BSt} (h : SubS n A B) (k : SubS n B C) : SubS n A C := fun i hi => ⟨Int.le_trans (k i hi).1 (h i hi).1, Int.le_trans (h i hi).2 (k i hi).2⟩
structure Wid (f : Nat → Int) (n : Nat) (own R : BSt) : Prop where
  con : Con f n R
  sub : SubS n R own
  top : ∀ C, Con f n C → SubS n C own → SubS n C R
theorem Wid.uniq {f : Nat → Int} {n : Nat} {own R R' : BSt} (h : Wid f n own R) (k : Wid f n own R') : ∀ i, i < n → R i = R' i := fun i hi => by
  have h1 := k.top R h.con h.sub i hi
  have h2 := h.top R' k.con k.sub i hi
  exact Prod.ext (Int.le_antisymm h2.1 h1.1) (Int.le_antisymm h1.2 h2.2)
def putS1 (S : BSt) (i : Nat) (x : Int × Int) : BSt := fun j => if j = i then x else S j
theorem putS1_at {S : BSt} {i : Nat} {x : Int × Int} : putS1 S i x i = x := if_pos rfl
theorem putS1_ne {S : BSt} {i j : Nat} {x : Int × Int} (h : j ≠ i) : putS1 S i x j = S j := if_neg h
def comm (a b : Int × Int) : Int × Int := (max a.1 b.1, min a.2 b.2)
def shf (a : Int × Int) (lo hi : Int) : Int × Int := (a.1 + lo, a.2 + hi)
def upS (f : Nat → Int) (S : BSt) (i : Nat) : BSt := if 0 ≤ f i then putS1 S (f i).toNat (comm (S (f i).toNat) (shf (S i) (-10000) (-1400))) else S
def dnS (f : Nat → Int) (S : BSt) (i : Nat) : BSt := if 0 ≤ f i then putS1 S i (comm (S i) (shf (S (f i).toNat) 1400 10000)) else S
def upP (f : Nat → Int) (S : BSt) (L : List Nat) : BSt := L.foldl (upS f) S
def dnP (f : Nat → Int) (S : BSt) (L : List Nat) : BSt := L.foldl (dnS f) S
def bthP (f : Nat → Int) (S : BSt) (L : List Nat) : BSt := dnP f (upP f S L) L.reverse
structure Ordd (f : Nat → Int) (n : Nat) (L : List Nat) : Prop where
  mem : ∀ i, i ∈ L ↔ i < n
  nd : L.Nodup
  pw : L.Pairwise fun a b => depH f n b ≤ depH f n a
section
variable {f : Nat → Int} {n : Nat} {S C : BSt} {i : Nat}
theorem upS_sub (hf : Mo f n) (hi : i < n) : SubS n (upS f S i) S := fun j hj => by
  unfold upS
  split
  · by_cases e : j = (f i).toNat
    · subst e; rw [putS1_at]; unfold comm; dsimp only; omega
    · rw [putS1_ne e]; omega
  · omega
theorem dnS_sub : SubS n (dnS f S i) S := fun j hj => by
  unfold dnS
  split
  · by_cases e : j = i
    · subst e; rw [putS1_at]; unfold comm; dsimp only; omega
    · rw [putS1_ne e]; omega
  · omega
theorem upS_top (hc : Con f n C) (hi : i < n) (h : SubS n C S) : SubS n C (upS f S i) := fun j hj => by
  unfold upS
  split
  · rename_i h0
    by_cases e : j = (f i).toNat
    · have h1 := hc i hi h0
      have h2 := h i hi
      have h3 := h j hj
      rw [← e] at h1
      subst e; rw [putS1_at]; unfold comm shf; dsimp only; omega
    · rw [putS1_ne e]; exact h j hj
  · exact h j hj
theorem dnS_top (hf : Mo f n) (hc : Con f n C) (hi : i < n) (h : SubS n C S) : SubS n C (dnS f S i) := fun j hj => by
  unfold dnS
  split
  · rename_i h0
    by_cases e : j = i
    · have h1 := hc i hi h0
      have h2 := h i hi
      have h3 := h (f i).toNat (by have := hf i hi; omega)
      subst e; rw [putS1_at]; unfold comm shf; dsimp only; omega
    · rw [putS1_ne e]; exact h j hj
  · exact h j hj
theorem upP_sub (hf : Mo f n) : ∀ {L : List Nat} {S : BSt}, (∀ i ∈ L, i < n) → SubS n (upP f S L) S
  | [], S, _ => SubS.refl
  | i :: L, S, h => (upP_sub hf (L := L) (S := upS f S i) fun j hj => h j (by simp [hj])).trans (upS_sub hf (h i (by simp)))
theorem dnP_sub : ∀ {L : List Nat} {S : BSt}, SubS n (dnP f S L) S
  | [], S => SubS.refl
  | i :: L, S => (dnP_sub (L := L) (S := dnS f S i)).trans dnS_sub
theorem upP_top (hc : Con f n C) : ∀ {L : List Nat} {S : BSt}, (∀ i ∈ L, i < n) → SubS n C S → SubS n C (upP f S L)
  | [], S, _, h => h
  | i :: L, S, hL, h => upP_top hc (L := L) (S := upS f S i) (fun j hj => hL j (by simp [hj])) (upS_top hc (hL i (by simp)) h)
theorem dnP_top (hf : Mo f n) (hc : Con f n C) : ∀ {L : List Nat} {S : BSt}, (∀ i ∈ L, i < n) → SubS n C S → SubS n C (dnP f S L)
  | [], S, _, h => h
  | i :: L, S, hL, h => dnP_top hf hc (L := L) (S := dnS f S i) (fun j hj => hL j (by simp [hj])) (dnS_top hf hc (hL i (by simp)) h)
def UpOk (f : Nat → Int) (S : BSt) (i : Nat) : Prop := 0 ≤ f i → (S i).1 - 10000 ≤ (S (f i).toNat).1 ∧ (S (f i).toNat).2 ≤ (S i).2 - 1400
theorem upP_ok (hf : Mo f n) (ha : Acyc f n) : ∀ (L : List Nat) (S : BSt) (D : Nat → Prop), (∀ i ∈ L, i < n) → (∀ i, D i → i < n) → (∀ i, D i → ∀ q ∈ L, depH f n q ≤ depH f n i) → L.Pairwise (fun a b => depH f n b ≤ depH f n a) → (∀ i, D i → UpOk f S i) → ∀ i, (D i ∨ i ∈ L) → UpOk f (upP f S L) i
  | [], S, D, _, _, _, _, h, i, hi => h i (by simpa using hi)
  | q :: L, S, D, hL, hD, hDL, hp, h, i, hi => by
    have hq := hL q (by simp)
    refine upP_ok hf ha L (upS f S q) (fun i => D i ∨ i = q) (fun j hj => hL j (by simp [hj])) ?_ ?_ (List.pairwise_cons.1 hp).2 ?_ i ?_
    · rintro j (hj | rfl)
      · exact hD j hj
      · exact hq
    · rintro j (hj | rfl) r hr
      · exact hDL j hj r (by simp [hr])
      · exact (List.pairwise_cons.1 hp).1 r hr
    · intro j hj h0
      have hjn : j < n := by
        rcases hj with hj | rfl
        · exact hD j hj
        · exact hq
      unfold upS
      by_cases hfq : 0 ≤ f q
      · rw [if_pos hfq]
        have hdm := dep_mother ha hf hq hfq
        have hjm : j ≠ (f q).toNat := by
          rintro rfl
          rcases hj with hj | hj
          · have := hDL _ hj q (by simp)
            omega
          · rw [hj] at hdm; omega
        rw [putS1_ne hjm]
        rcases hj with hj | rfl
        · have h1 := h j hj h0
          by_cases e : (f j).toNat = (f q).toNat
          · rw [e, putS1_at]; rw [e] at h1; unfold comm; dsimp only; omega
          · rw [putS1_ne e]; exact h1
        · rw [putS1_at]; unfold comm shf; dsimp only; omega
      · rw [if_neg hfq]
        rcases hj with hj | rfl
        · exact h j hj h0
        · exact absurd h0 hfq
    · rcases hi with hi | hi
      · exact .inl (.inl hi)
      · rcases List.mem_cons.1 hi with rfl | hi
        · exact .inl (.inr rfl)
        · exact .inr hi
def DnOk (f : Nat → Int) (U S : BSt) (i : Nat) : Prop := (0 ≤ f i → S i = comm (U i) (shf (S (f i).toNat) 1400 10000)) ∧ (¬ 0 ≤ f i → S i = U i)
theorem dnP_ok (hf : Mo f n) (ha : Acyc f n) (U : BSt) : ∀ (L : List Nat) (S : BSt) (D : Nat → Prop), (∀ i ∈ L, i < n) → (∀ i, D i → i < n) → (∀ i, D i → i ∉ L) → (∀ i, D i → ∀ q ∈ L, depH f n i ≤ depH f n q) → L.Pairwise (fun a b => depH f n a ≤ depH f n b) → L.Nodup → (∀ i, D i → DnOk f U S i) → (∀ i, ¬ D i → S i = U i) → ∀ i, (D i ∨ i ∈ L) → DnOk f U (dnP f S L) i
  | [], S, D, _, _, _, _, _, _, h, _, i, hi => h i (by simpa using hi)
  | q :: L, S, D, hL, hD, hDn, hDL, hp, hnd, h, hU, i, hi => by
    have hq := hL q (by simp)
    have hqD : ¬ D q := fun hd => hDn q hd (by simp)
    have hn := List.nodup_cons.1 hnd
    refine dnP_ok hf ha U L (dnS f S q) (fun i => D i ∨ i = q) (fun j hj => hL j (by simp [hj])) ?_ ?_ ?_ (List.pairwise_cons.1 hp).2 hn.2 ?_ ?_ i ?_
    · rintro j (hj | rfl)
      · exact hD j hj
      · exact hq
    · rintro j (hj | rfl)
      · exact fun h9 => hDn j hj (by simp [h9])
      · exact hn.1
    · rintro j (hj | rfl) r hr
      · exact hDL j hj r (by simp [hr])
      · exact (List.pairwise_cons.1 hp).1 r hr
    · intro j hj
      unfold dnS
      by_cases hfq : 0 ≤ f q
      · rw [if_pos hfq]
        have hdm := dep_mother ha hf hq hfq
        rcases hj with hj | rfl
        · have hjq : j ≠ q := fun e => hqD (e ▸ hj)
          unfold DnOk
          rw [putS1_ne hjq]
          refine ⟨fun h0 => ?_, (h j hj).2⟩
          have hmq : (f j).toNat ≠ q := fun e => by
            have h1 := dep_mother ha hf (hD j hj) h0
            have h2 := hDL j hj q (by simp)
            rw [e] at h1; omega
          rw [putS1_ne hmq]
          exact (h j hj).1 h0
        · refine ⟨fun _ => ?_, fun h0 => absurd hfq h0⟩
          have hmj : (f j).toNat ≠ j := fun e => by rw [e] at hdm; omega
          rw [putS1_at, putS1_ne hmj, hU j hqD]
      · rw [if_neg hfq]
        rcases hj with hj | rfl
        · exact h j hj
        · exact ⟨fun h0 => absurd h0 hfq, fun _ => hU j hqD⟩
    · intro j hj
      have hjq : j ≠ q := fun e => hj (.inr e)
      unfold dnS
      split
      · rw [putS1_ne hjq]; exact hU j fun h9 => hj (.inl h9)
      · exact hU j fun h9 => hj (.inl h9)
    · rcases hi with hi | hi
      · exact .inl (.inl hi)
      · rcases List.mem_cons.1 hi with rfl | hi
        · exact .inl (.inr rfl)
        · exact .inr hi
theorem bth_wid (hf : Mo f n) (ha : Acyc f n) {L : List Nat} (hL : Ordd f n L) : Wid f n S (bthP f S L) := by
  have hm : ∀ i ∈ L, i < n := fun i hi => (hL.mem i).1 hi
  have hmr : ∀ i ∈ L.reverse, i < n := fun i hi => hm i (List.mem_reverse.1 hi)
  refine ⟨?_, ?_, fun C hc hs => dnP_top hf hc hmr (upP_top hc hm hs)⟩
  · have hU := upP_ok hf ha L S (fun _ => False) hm (fun _ h => h.elim) (fun _ h => h.elim) hL.pw (fun _ h => h.elim)
    have hD := dnP_ok hf ha (upP f S L) L.reverse (upP f S L) (fun _ => False) hmr (fun _ h => h.elim) (fun _ h => h.elim) (fun _ h => h.elim) (List.pairwise_reverse.2 hL.pw) ((List.reverse_perm L).nodup_iff.2 hL.nd) (fun _ h => h.elim) (fun _ _ => rfl)
    intro i hi h0
    have h1 := hU i (.inr ((hL.mem i).2 hi)) h0
    have h2 := (hD i (.inr (List.mem_reverse.2 ((hL.mem i).2 hi)))).1 h0
    have h3 := dnP_sub (f := f) (n := n) (L := L.reverse) (S := upP f S L) (f i).toNat (by have := hf i hi; omega)
    have e : bthP f S L = dnP f (upP f S L) L.reverse := rfl
    rw [e, h2]
    unfold comm shf
    dsimp only
    omega
  · exact (dnP_sub (L := L.reverse) (S := upP f S L)).trans (upP_sub hf hm)
end
def ordL (f : Nat → Int) (n : Nat) : Nat → List Nat
  | 0 => []
  | d + 1 => ((List.range n).filter fun i => decide (depH f n i = d)) ++ ordL f n d
theorem ordL_mem {f : Nat → Int} {n i : Nat} : ∀ {d}, i ∈ ordL f n d ↔ i < n ∧ depH f n i < d
  | 0 => by simp [ordL]
  | d + 1 => by
    simp only [ordL, List.mem_append, ordL_mem (d := d), List.mem_filter, List.mem_range, decide_eq_true_eq]
    omega
theorem ordL_ok {f : Nat → Int} {n : Nat} : Ordd f n (ordL f n (n + 1)) := by
  refine ⟨fun i => ⟨fun h => (ordL_mem.1 h).1, fun h => ordL_mem.2 ⟨h, by have := dep_le (f := f) (n := n) (i := i); omega⟩⟩, ?_, ?_⟩
  · suffices h : ∀ d, (ordL f n d).Nodup from h _
    intro d
    induction d with
    | zero => exact List.nodup_nil
    | succ d ih =>
      refine List.nodup_append.2 ⟨List.nodup_range.filter _, ih, fun a ha b hb e => ?_⟩
      subst e
      have h1 := (List.mem_filter.1 ha).2
      have h2 := (ordL_mem.1 hb).2
      simp only [decide_eq_true_eq] at h1
      omega
  · suffices h : ∀ d, (ordL f n d).Pairwise fun a b => depH f n b ≤ depH f n a from h _
    intro d
    induction d with
    | zero => exact List.Pairwise.nil
    | succ d ih =>
      refine List.pairwise_append.2 ⟨?_, ih, fun a ha b hb => ?_⟩
      · have : ∀ l : List Nat, (∀ a ∈ l, depH f n a = d) → l.Pairwise fun a b => depH f n b ≤ depH f n a := by
          intro l
          induction l with
          | nil => exact fun _ => List.Pairwise.nil
          | cons x l ih => exact fun h => List.pairwise_cons.2 ⟨fun b hb => by rw [h x (by simp), h b (by simp [hb])]; exact Nat.le_refl _, ih fun a ha => h a (by simp [ha])⟩
        exact this _ fun a ha => by simpa using (List.mem_filter.1 ha).2
      · have h1 := (List.mem_filter.1 ha).2
        have h2 := (ordL_mem.1 hb).2
        simp only [decide_eq_true_eq] at h1
        omega
def bth (f : Nat → Int) (n : Nat) (S : BSt) : BSt := bthP f S (ordL f n (n + 1))
def bthOk (f : Nat → Int) (n : Nat) (S : BSt) : Bool := (List.range n).all fun i => decide ((bth f n S i).1 ≤ (bth f n S i).2)
theorem bthOk_iff {f : Nat → Int} {n : Nat} {S : BSt} : bthOk f n S = true ↔ ∀ i, i < n → (bth f n S i).1 ≤ (bth f n S i).2 := by simp [bthOk]
section
variable {f : Nat → Int} {n : Nat} {S R : BSt}
theorem bth_w (hf : Mo f n) (ha : Acyc f n) : Wid f n S (bth f n S) := bth_wid hf ha ordL_ok
theorem bth_eq (hf : Mo f n) (ha : Acyc f n) (h : Wid f n S R) : ∀ i, i < n → R i = bth f n S i := h.uniq (bth_w hf ha)
def wid (S : BSt) : Nat → Nat
  | 0 => 0
  | n + 1 => wid S n + ((S n).2 - (S n).1 + 1).toNat
theorem wid_lt {S S' : BSt} : ∀ {n}, (∀ i, i < n → ((S' i).2 - (S' i).1 + 1).toNat ≤ ((S i).2 - (S i).1 + 1).toNat) → wid S' n ≤ wid S n ∧ ((∃ i, i < n ∧ ((S' i).2 - (S' i).1 + 1).toNat < ((S i).2 - (S i).1 + 1).toNat) → wid S' n < wid S n)
  | 0, _ => ⟨Nat.le_refl _, fun ⟨i, hi, _⟩ => absurd hi (Nat.not_lt_zero i)⟩
  | n + 1, h => by
    obtain ⟨h1, h2⟩ := wid_lt (S := S) (S' := S') (n := n) fun i hi => h i (by omega)
    have h3 := h n (by omega)
    refine ⟨by simp only [wid]; omega, fun ⟨i, hi, hlt⟩ => ?_⟩
    by_cases e : i = n
    · subst e; simp only [wid]; omega
    · have := h2 ⟨i, by omega, hlt⟩
      simp only [wid]; omega
def nrA (S : BSt) (i m : Nat) : Int × Int := comm (S i) (shf (S m) 1400 10000)
def nrB (S : BSt) (i m : Nat) : Int × Int := comm (S m) (shf (S i) (-10000) (-1400))
def nrS (S : BSt) (i m : Nat) : BSt := putS1 (putS1 S i (nrA S i m)) m (nrB S i m)
theorem nr_sub {i m : Nat} : SubS n (nrS S i m) S := fun j hj => by
  unfold nrS
  by_cases e : j = m
  · subst e; rw [putS1_at]; unfold nrB comm shf; dsimp only; omega
  · rw [putS1_ne e]
    by_cases e2 : j = i
    · subst e2; rw [putS1_at]; unfold nrA comm shf; dsimp only; omega
    · rw [putS1_ne e2]; omega
theorem nr_top {C : BSt} {i : Nat} (hf : Mo f n) (hc : Con f n C) (hi : i < n) (h0 : 0 ≤ f i) (h : SubS n C S) : SubS n C (nrS S i (f i).toNat) := fun j hj => by
  have h1 := hc i hi h0
  have h2 := h i hi
  have h3 := h (f i).toNat (by have := hf i hi; omega)
  unfold nrS
  by_cases e : j = (f i).toNat
  · rw [e, putS1_at]; unfold nrB comm shf; dsimp only; omega
  · rw [putS1_ne e]
    by_cases e2 : j = i
    · rw [e2, putS1_at]; unfold nrA comm shf; dsimp only; omega
    · rw [putS1_ne e2]; exact h j hj
theorem nr_wid {i m : Nat} (hi : i < n) (hm : m < n) (him : i ≠ m) (hA : (nrA S i m).1 ≤ (nrA S i m).2) (hB : (nrB S i m).1 ≤ (nrB S i m).2) (h : nrA S i m ≠ S i ∨ nrB S i m ≠ S m) : wid (nrS S i m) n < wid S n := by
  refine (wid_lt (S := S) (S' := nrS S i m) fun j hj => ?_).2 ?_
  · have := nr_sub (n := n) (S := S) (i := i) (m := m) j hj
    omega
  · have hai := nr_sub (n := n) (S := S) (i := i) (m := m) i hi
    have hbm := nr_sub (n := n) (S := S) (i := i) (m := m) m hm
    have ei : nrS S i m i = nrA S i m := by unfold nrS; rw [putS1_ne him, putS1_at]
    have em : nrS S i m m = nrB S i m := putS1_at
    rw [ei] at hai
    rw [em] at hbm
    rcases h with h | h
    · refine ⟨i, hi, ?_⟩
      rw [ei]
      have hne : ¬ ((nrA S i m).1 = (S i).1 ∧ (nrA S i m).2 = (S i).2) := fun e => h (Prod.ext e.1 e.2)
      omega
    · refine ⟨m, hm, ?_⟩
      rw [em]
      have hne : ¬ ((nrB S i m).1 = (S m).1 ∧ (nrB S i m).2 = (S m).2) := fun e => h (Prod.ext e.1 e.2)
      omega
theorem nr_same {i m : Nat} (h1 : nrA S i m = S i) (h2 : nrB S i m = S m) : ((S m).1 + 1400 ≤ (S i).1 ∧ (S i).2 ≤ (S m).2 + 10000 ∧ (S i).1 - 10000 ≤ (S m).1 ∧ (S m).2 ≤ (S i).2 - 1400) ∧ nrS S i m = S := by
  refine ⟨?_, ?_⟩
  · unfold nrA nrB comm shf at *
    have a1 := congrArg Prod.fst h1
    have a2 := congrArg Prod.snd h1
    have b1 := congrArg Prod.fst h2
    have b2 := congrArg Prod.snd h2
    dsimp only at *
    omega
  · funext j
    unfold nrS
    by_cases e : j = m
    · rw [e, putS1_at, h2]
    · rw [putS1_ne e]
      by_cases e2 : j = i
      · rw [e2, putS1_at, h1]
      · rw [putS1_ne e2]
end
end Go.Proofs.Ytlphecckplndnaa
namespace Go.Proofs.Ytlphecckplndnaa
set_option linter.all false
set_option linter.unusedVariables false
set_option linter.unusedSimpArgs false
structure Hd where
  n : Nat
  id : Nat → Int
  mo : Nat → Int
  lo : Nat → Int
  hi : Nat → Int
  ml : Nat → Nat
  sp : Nat → Nat → Int
  sg : Nat → Nat → Int
def atH (H : Hd) (x : Int) : Int := atI (fun i => decide (H.id i = x)) H.n
def moH (H : Hd) (i : Nat) : Int := if H.mo i = -1 then -1 else atH H (H.mo i)
def bornH (H : Hd) : BSt := fun i => (H.lo i, H.hi i)
def markB (H : Hd) (i k : Nat) : Bool := inB5 0 7 (H.sp i k) && inB5 1 20 (H.sg i k) && allB k fun j => !decide (H.sp i j = H.sp i k)
def marksB (H : Hd) (i : Nat) : Bool := allB (H.ml i) (markB H i)
def an1B (H : Hd) (i : Nat) : Bool := inB5 0 9999 (H.id i) && decide (atH H (H.id i) = (i : Int)) && ordB5 (-100000) 100000 (H.lo i) (H.hi i) && marksB H i
def an2B (H : Hd) (i : Nat) : Bool := decide (H.mo i = -1) || decide (0 ≤ atH H (H.mo i))
def endB (H : Hd) (i : Nat) : Bool := decide (upH (moH H) i H.n < 0)
def herdB (H : Hd) : Bool := decide ((H.n : Int) ≤ 16) && allB H.n (an1B H) && allB H.n (an2B H) && allB H.n (endB H)
def sgK (H : Hd) (i : Nat) : Nat → Nat → Int
  | 0 => fun _ => 0
  | k + 1 => fun s => if s = (H.sp i k).toNat then H.sg i k else sgK H i k s
def sgH (H : Hd) (i : Nat) : Nat → Int := sgK H i (H.ml i)
section
variable {H : Hd} {i k s : Nat} {x : Int}
theorem mo_bd (h : H.n ≠ 0) : -1 ≤ moH H i ∧ moH H i < H.n := by
  unfold moH
  split
  · omega
  · have h1 := atI_bd (p := fun j => decide (H.id j = H.mo i)) (n := H.n)
    unfold atH
    omega
theorem moH_Mo : Mo (moH H) H.n := fun i hi => mo_bd (by omega)
structure HOk (H : Hd) : Prop where
  n16 : H.n ≤ 16
  id : ∀ i, i < H.n → 0 ≤ H.id i ∧ H.id i ≤ 9999
  at_ : ∀ i, i < H.n → atH H (H.id i) = i
  bd : ∀ i, i < H.n → -100000 ≤ H.lo i ∧ H.lo i ≤ H.hi i ∧ H.hi i ≤ 100000
  mks : ∀ i, i < H.n → marksB H i = true
  mo : ∀ i, i < H.n → H.mo i = -1 ∨ 0 ≤ atH H (H.mo i)
  ac : Acyc (moH H) H.n
theorem herdB_ok : herdB H = true ↔ HOk H := by
  unfold herdB
  simp only [Bool.and_eq_true, decide_eq_true_eq, allB_iff]
  constructor
  · rintro ⟨⟨⟨h1, h2⟩, h3⟩, h4⟩
    have h2' := fun i hi => by
      have := h2 i hi
      unfold an1B at this
      simp only [inB5, ordB5, Bool.and_eq_true, decide_eq_true_eq] at this
      exact this
    refine ⟨by omega, fun i hi => (h2' i hi).1.1.1, fun i hi => (h2' i hi).1.1.2, fun i hi => ⟨(h2' i hi).1.2.1.1, (h2' i hi).1.2.1.2, (h2' i hi).1.2.2⟩, fun i hi => (h2' i hi).2, fun i hi => ?_, fun i hi => ?_⟩
    · have := h3 i hi
      unfold an2B at this
      simpa only [Bool.or_eq_true, decide_eq_true_eq] using this
    · have := h4 i hi
      unfold endB at this
      simpa only [decide_eq_true_eq] using this
  · intro h
    have h16 := h.n16
    refine ⟨⟨⟨by omega, fun i hi => ?_⟩, fun i hi => ?_⟩, fun i hi => ?_⟩
    · unfold an1B
      simp only [inB5, ordB5, Bool.and_eq_true, decide_eq_true_eq]
      exact ⟨⟨⟨h.id i hi, h.at_ i hi⟩, ⟨(h.bd i hi).1, (h.bd i hi).2.1⟩, (h.bd i hi).2.2⟩, h.mks i hi⟩
    · unfold an2B
      simp only [Bool.or_eq_true, decide_eq_true_eq]
      exact h.mo i hi
    · unfold endB
      simp only [decide_eq_true_eq]
      exact h.ac i hi
theorem at_first (hi : i < H.n) : atH H (H.id i) = (i : Int) ↔ ∀ j, j < i → H.id j ≠ H.id i := by
  unfold atH
  constructor
  · intro h j hj e
    have h1 := atI_le (p := fun j => decide (H.id j = H.id i)) (n := H.n) (by omega)
    have h2 : fst1 (fun j => decide (H.id j = H.id i)) H.n = i := by
      unfold atI at h
      split at h <;> omega
    have := fst1_no (p := fun j => decide (H.id j = H.id i)) (n := H.n) (j := j) (by omega)
    simp only [decide_eq_false_iff_not] at this
    exact this e
  · intro h
    exact atI_eq hi (by simp) fun j hj => by simpa using h j hj
theorem sgK_pos (hm : ∀ j, j < k → inB5 0 7 (H.sp i j) = true ∧ inB5 1 20 (H.sg i j) = true) : 0 ≤ sgK H i k s ∧ sgK H i k s ≤ 20 ∧ (sgK H i k s ≠ 0 ↔ ∃ j, j < k ∧ (H.sp i j).toNat = s) := by
  induction k with
  | zero => simp [sgK]
  | succ k ih =>
    have ih := ih fun j hj => hm j (by omega)
    have h1 := hm k (by omega)
    simp only [inB5, Bool.and_eq_true, decide_eq_true_eq] at h1
    simp only [sgK]
    by_cases e : s = (H.sp i k).toNat
    · rw [if_pos e]
      refine ⟨by omega, by omega, ⟨fun _ => ⟨k, by omega, e.symm⟩, fun _ => by omega⟩⟩
    · rw [if_neg e]
      refine ⟨ih.1, ih.2.1, ih.2.2.trans ⟨fun ⟨j, hj, h⟩ => ⟨j, by omega, h⟩, fun ⟨j, hj, h⟩ => ?_⟩⟩
      by_cases e2 : j = k
      · subst e2; exact absurd h.symm e
      · exact ⟨j, by omega, h⟩
theorem mark_step (hm : ∀ j, j < k → markB H i j = true) (h7 : inB5 0 7 (H.sp i k) = true) (h20 : inB5 1 20 (H.sg i k) = true) : sgK H i k (H.sp i k).toNat = 0 ↔ markB H i k = true := by
  have hm2 : ∀ j, j < k → inB5 0 7 (H.sp i j) = true ∧ inB5 1 20 (H.sg i j) = true := fun j hj => by
    have := hm j hj
    unfold markB at this
    simp only [Bool.and_eq_true] at this
    exact this.1
  have h := (sgK_pos (s := (H.sp i k).toNat) hm2).2.2
  unfold markB
  rw [h7, h20, Bool.true_and, Bool.true_and, allB_iff]
  constructor
  · intro h0 j hj
    have h9 : ¬ ∃ j, j < k ∧ (H.sp i j).toNat = (H.sp i k).toNat := fun h9 => h.2 h9 h0
    simp only [Bool.not_eq_true', decide_eq_false_iff_not]
    exact fun e => h9 ⟨j, hj, by rw [e]⟩
  · intro h1
    by_cases h2 : sgK H i k (H.sp i k).toNat = 0
    · exact h2
    · obtain ⟨j, hj, e⟩ := h.1 h2
      have h3 := h1 j hj
      have h4 := (hm2 j hj).1
      simp only [inB5, Bool.and_eq_true, decide_eq_true_eq, Bool.not_eq_true', decide_eq_false_iff_not] at h3 h4 h7
      omega
theorem marks_no (hk : k < H.ml i) (h : markB H i k = false) : marksB H i = false := by
  cases h2 : marksB H i with
  | false => rfl
  | true =>
    have := allB_iff.1 h2 k hk
    rw [h] at this; cases this
end
end Go.Proofs.Ytlphecckplndnaa
namespace Go.Proofs.Ytlphecckplndnaa
set_option linter.all false
set_option linter.unusedVariables false
set_option linter.unusedSimpArgs false
open Go.RowKit
section
variable {l : Nat} {c : Cx} {Q : Exit → Act → World → Prop} {F F' : Fr} {K K' K0 : List Fact}
def IterR (P : Program) (gf : FuncId) (lb : List Value) (M : List Fact) (G : Type) (enc : Nat → G → List Value) (Y Y' : Nat → G → List Fact) (N : Nat) (L : List Fact) (S : List Nat) (w0 : World) (R : Type) (J : Nat → R → List Fact) : Prop :=
  ∀ (l : Nat) (Rx : Type) (Jx : Rx → List Fact) (r0 : R) (w : World), Sat S w0 (M ++ J 0 r0) w →
    (∀ q g r w', q < N → Sat S w0 (Y q g ++ J q r) w' → YieldAt Fence.wide 0 P l (enc q g).toArray w' fun e w'' => (e = .returned (.bool true) ∧ ∃ r', Sat S w0 (Y' q g ++ J (q + 1) r') w'') ∨ (e = .returned (.bool false) ∧ ∃ x, Sat S w0 (Y' q g ++ Jx x) w'')) →
    Calls P gf (.func (.yield l) #[] #[] :: lb).toArray w fun e w' => (∃ v, e = .returned v) ∧ ((∃ r, Sat S w0 (L ++ J N r) w') ∨ ∃ x, Sat S w0 (Jx x) w')
theorem IterK.at {P : Program} {gf : FuncId} {lb : List Value} {M L : List Fact} {G : Type} {enc : Nat → G → List Value} {Y Y' : Nat → G → List Fact} {N : Nat} {S : List Nat} {w0 : World} (h : IterK P gf lb M G enc Y Y' N L S w0) {R : Type} {J : Nat → R → List Fact} : IterR P gf lb M G enc Y Y' N L S w0 R J := fun l Rx Jx r0 w => h l R Rx J Jx r0 w
theorem TW.rangeR {g : Operand} {ps : List Tmp} {assign body : Code} {gf : Nat} {lb : List Value} {M L : List Fact} {G R Rx : Type} {enc : Nat → G → List Value} {Y Y' : Nat → G → List Fact} {N : Nat} (J : Nat → R → List Fact) (jx : Rx → Code) (Jx : Rx → List Fact) (r0 : R)
    (it : ∀ x y : Fact, IterR c.P gf lb M G enc Y Y' N L c.S c.w0 R fun q r => x :: y :: J q r) (hKs : KSub K (M ++ J 0 r0))
    (round : ∀ (l D : Nat) (o1 o1' o2 : Obj) (q : Nat) (g : G) (r : R), q < N → ∀ Z : Act → World → Prop,
      (∀ F2 K1 K2, Pick K1 (.obj l o1) K2 → TWi l { c with D := [] } body (RB { c with D := [] } (fun r' => .obj l o1' :: .obj D o2 :: (Y' q g ++ J (q + 1) r')) jx (fun x => .obj l o1' :: .obj D o2 :: (Y' q g ++ Jx x))) F2 (.obj l o1' :: K2) → TQ { c with D := [] } (fun _ => Z) .normal F2 K1) →
      TWi l { c with D := [] } assign (Exit.then Z (fun _ _ _ => False)) (putF ps (enc q g) F) (.obj l o1 :: .obj D o2 :: (Y q g ++ J q r)))
    (done : ∀ (D : Nat) (r : R), TQ { c with D := { target := .collected D, args := #[] } :: c.D } Q .normal F (.obj D (.deferred (some [])) :: (L ++ J N r)))
    (stop : ∀ (D : Nat) (x : Rx), TW { c with D := { target := .collected D, args := #[] } :: c.D } (jx x) Q F (.obj D (.deferred (some [])) :: Jx x))
    (hg : ev F g = some (.func (.func gf) #[] lb.toArray) := by rfl) (eg : Enters c.P gf) (hps : ∀ q g, (enc q g).length = ps.length := by (intro _ _; rfl)) (hpn : (ps.all fun p => Nat.blt p c.n) = true := by rfl) :
    TW c (.rangeFunc g ps.toArray assign body) Q F K := fun a w hF hK => by
  refine (wpIn_wide (n := 2)).1 (wpIn_rangeFunc fun fn _ => ?_)
  obtain ⟨rc, hrc⟩ : ∃ rc : LoopState → Option Code → Loop, rc = fun st pe => { state := st, pending := pe, fn, tmps := a.tmps, params := ps.toArray, assign, body, defers := w.heap.size } := ⟨_, rfl⟩
  obtain ⟨W1, hW1⟩ : ∃ W1, (w.alloc (.deferred (some []))).alloc (.loop (rc .ready none)) = W1 := ⟨_, rfl⟩
  have hs := ((hK.sub hKs).newO (.deferred (some [])) rfl).newO (.loop (rc .ready none)) rfl
  rw [World.size_alloc, hW1] at hs
  have hFr : FS c.n ({ target := .collected w.heap.size, args := #[] } :: c.D) F { a with defers := [{ target := .collected w.heap.size, args := #[] }] ++ a.defers } := ⟨hF.size, by rw [hF.dfs]; rfl, hF.get⟩
  refine ⟨w.heap.size + 1, [{ target := .collected w.heap.size, args := #[] }], W1, { target := .fn (.func gf) lb.toArray, args := #[.func (.yield (w.heap.size + 1)) #[] #[]] }, W1, gf, (.func (.yield (w.heap.size + 1)) #[] #[] :: lb).toArray, W1, ?_, ?_, fun _ _ => trivial, ?_, fun _ => by decide, ?_⟩
  · rw [← hW1, hrc]; exact run_enterLoop_outer _ _ _ _ _
  · have := hF.evl hg
    simp only [resolve, this]
    simp [go_sem]
  · have := eg (.func (.yield (w.heap.size + 1)) #[] #[] :: lb).toArray W1
    have e : #[Value.func (.yield (w.heap.size + 1)) #[] #[]] ++ lb.toArray = (.func (.yield (w.heap.size + 1)) #[] #[] :: lb).toArray := by simp
    simp only [invoke, e]
    exact this
  · refine callsIn_wide.2 (Calls.mono (it (.obj (w.heap.size + 1) (.loop (rc .ready none))) (.obj w.heap.size (.deferred (some []))) (w.heap.size + 1) Rx (fun x => .obj (w.heap.size + 1) (.loop (rc .done (some (jx x)))) :: .obj w.heap.size (.deferred (some [])) :: Jx x) r0 W1 (hs.perm (perm_objs M _ _ _).symm) ?_) ?_)
    · intro q g r w' hq hw'
      replace hw' := hw'.perm (perm_objs _ _ _ _)
      have hl : w'.heap[w.heap.size + 1]? = some (.loop (rc .ready none)) := (hw'.holds (.obj _ _) (by simp)).1
      have hy := run_yield (P := c.P) (args := (enc q g).toArray) hl (by rw [hrc]; simp [hps q g])
      rw [hrc] at hy
      refine ⟨fn, _, assign, body, hy, roundIn_of_wpIn trivial ?_⟩
      have hF0 : FS c.n [] F { tmps := a.tmps, defers := [] } := ⟨hF.size, rfl, hF.get⟩
      have hF1 := hF0.putF (vs := enc q g) hpn
      simp only [List.zip_toArray, List.foldl_toArray]
      refine round (w.heap.size + 1) w.heap.size (.loop (rc .ready none)) (.loop { rc .ready none with state := .busy }) (.deferred (some [])) q g r hq _ ?_ _ w' hF1 hw'
      intro F2 K1 K2 hp hb a1 w1 hF2 hK1
      have h1 := hK1.pick hp
      have hl1 : w1.heap[w.heap.size + 1]? = some (.loop (rc .ready none)) := (h1.holds (.obj _ _) (by simp)).1
      refine ⟨_, run_beginRound hl1 (by rw [hrc]), wpIn_mono (hb a1 _ hF2 (h1.putO rfl)) ?_⟩
      have fin : ∀ (jump : Option Code) (w3 : World), w3.heap[w.heap.size + 1]? = some (.loop { rc .ready none with state := .busy }) → (Instr.endRound (w.heap.size + 1) jump).run c.P w3 = .ok (.bool jump.isNone) (w3.putObj (w.heap.size + 1) (.loop (rc (if jump.isNone then .ready else .done) jump))) := fun jump w3 h3 => by
        have := run_endRound (P := c.P) jump h3
        rw [hrc] at this ⊢
        exact this
      rintro e a3 w3 he
      cases e with
      | normal =>
        obtain ⟨r', h3⟩ := he
        exact ⟨_, _, fin none w3 (h3.holds (.obj _ _) (by simp)).1, .inl ⟨rfl, r', (h3.putO rfl).perm (perm_objs _ _ _ _).symm⟩⟩
      | ret =>
        obtain ⟨x, hx, h3⟩ := he
        exact ⟨_, _, fin (some .ret) w3 (h3.holds (.obj _ _) (by simp)).1, .inr ⟨rfl, x, by rw [hx]; exact (h3.putO rfl).perm (perm_objs _ _ _ _).symm⟩⟩
      | exit i =>
        obtain ⟨x, hx, h3⟩ := he
        exact ⟨_, _, fin (some (.exit i)) w3 (h3.holds (.obj _ _) (by simp)).1, .inr ⟨rfl, x, by rw [hx]; exact (h3.putO rfl).perm (perm_objs _ _ _ _).symm⟩⟩
      | goto t => exact he.elim
      | panic ch => exact he.elim
      | outgrown => exact he.elim
    · rintro e w2 ⟨⟨v, rfl⟩, ⟨r, h2⟩ | ⟨x, h2⟩⟩
      · replace h2 := h2.perm (perm_objs _ _ _ _)
        have hl : w2.heap[w.heap.size + 1]? = some (.loop (rc .ready none)) := (h2.holds (.obj _ _) (by simp)).1
        refine ⟨none, _, by have := run_endLoop (P := c.P) hl (by rw [hrc]; simp); rw [hrc] at this; exact this, ?_⟩
        exact done w.heap.size r _ _ hFr ((h2.putO rfl).sub (KSub.drop (KSub.refl _)))
      · have hl : w2.heap[w.heap.size + 1]? = some (.loop (rc .done (some (jx x)))) := (h2.holds (.obj _ _) (by simp)).1
        refine ⟨some (jx x), _, by have := run_endLoop (P := c.P) hl (by rw [hrc]; simp); rw [hrc] at this; exact this, ?_⟩
        exact (wpIn_wide (n := 2)).2 (stop w.heap.size x _ _ hFr ((h2.putO rfl).sub (KSub.drop (KSub.refl _))))
end
end Go.Proofs.Ytlphecckplndnaa
namespace Go.Proofs.Ytlphecckplndnaa
set_option linter.all false
set_option linter.unusedVariables false
set_option linter.unusedSimpArgs false
open Go.RowKit
theorem OwnR.blk {w : World} {b n : Nat} {E : TypeId} {sz : Nat} {r : Nat → List Value} (h : OwnR w (some ⟨b, 0, none⟩) n n E sz r) : Blk w b E (flatR n r).toArray := by
  rw [flatR_spec h.len]
  rcases h.own.2 with ⟨e, _⟩ | ⟨g, cap, cur, e, _, hh, _, _, hcs, ht⟩
  · cases e
  · simp only [Value.slice.injEq, Option.some.injEq, Addr.mk.injEq, and_true, true_and] at e
    obtain ⟨rfl, rfl⟩ := e
    have e2 : cur.toList = flat sz n (rowF r) := by
      rw [← ht, List.take_of_length_le]
      rw [Array.length_toList, hcs]
      exact Nat.le_refl _
    show w.heap[b]? = _
    rw [hh, ← e2]
theorem KSub.valI {K K' L : List Fact} {b : Nat} {E : TypeId} {k : IntKind} {i j : Int} (hp : Pick K (.blk b E [.int k i]) K') (e : i = j) (h : KSub K' L) : KSub K (.blk b E [.int k j] :: L) := by
  subst e; exact .cons hp h
structure ArrT (P : Program) (t E : TypeId) (n sz : Nat) : Prop where
  ht : P.underlying t = some (.array n E)
  hs : ∀ w, (sizeOf E).run P w = .ok sz w
theorem Pu.ea {c : Cx} {F : Fr} {K : List Fact} {d : Option Tmp} {t E ty : TypeId} {pos : String} {af : Array Edge} {g : Option (Nat × Bool)} {x y : Operand} {b n sz q : Nat} {kk : IntKind} {i : Int} (hT : ArrT c.P t E n sz) (hx : ev F x = some (.pointer (some ⟨b, 0, none⟩)) := by rfl) (hy : ev F y = some (.int kk i) := by rfl) (hk : i.toNat = q := by first | exact Int.toNat_natCast _ | rfl) (h0 : 0 ≤ i := by omega) (h1 : i < n := by omega) :
    Pu c F K ⟨d, .indexAddr t x y, ty, pos, af, g⟩ (.pointer (elA (some ⟨b, 0, none⟩) q sz 0)) := fun a w hF _ => by
  simp [execOp, hF.evl hx, hF.evl hy, Instr.indexAt, asIntOf, run_underlying hT.ht, Instr.sureAddr, h0, h1, hT.hs, elA, hk]
section
variable {c : Cx} {Q : Exit → Act → World → Prop} {F : Fr} {K K' : List Fact} {ops : Array Oper} {rest : List Oper}
theorem Sat.bo {S : List Nat} {w0 w : World} {b n : Nat} {E : TypeId} {sz : Nat} {r : Nat → List Value} {cs : List Value} (h : Sat S w0 (.own (some ⟨b, 0, none⟩) n n E sz r :: K) w) (hc : flatR n r = cs) : Sat S w0 (.blk b E cs :: K) w := by
  have hb := OwnR.blk (h.holds (.own (some ⟨b, 0, none⟩) n n E sz r) (by simp))
  subst hc
  exact ⟨h.chg, h.nd, h.ge, fun φ hφ => by
    rcases List.mem_cons.1 hφ with rfl | hφ
    · exact hb
    · exact h.holds φ (by simp [hφ])⟩
theorem TL.bo {b n : Nat} {E : TypeId} {sz : Nat} {r : Nat → List Value} {cs : List Value} (hp : Pick K (.own (some ⟨b, 0, none⟩) n n E sz r) K') (hc : flatR n r = cs) (h : TL c ops Q rest F (.blk b E cs :: K')) : TL c ops Q rest F K := fun a w hF hK => h a w hF ((hK.pick hp).bo hc)
theorem Sat.ob {S : List Nat} {w0 w : World} {b n : Nat} {E : TypeId} {sz : Nat} {r : Nat → List Value} {cs : List Value} (h : Sat S w0 (.blk b E cs :: K) w) (hr : flatR n r = cs) (hl : ∀ i, i < n → (r i).length = sz) (hz : Nat.blt 0 sz = true) (hn : Nat.ble n 1000000 = true) : Sat S w0 (.own (some ⟨b, 0, none⟩) n n E sz r :: K) w :=
  h.sub (KSub.ofBlk Pick.hd hr hl hz hn (KSub.refl _))
end
end Go.Proofs.Ytlphecckplndnaa
namespace Go.Proofs.Ytlphecckplndnaa
set_option linter.all false
set_option linter.unusedVariables false
set_option linter.unusedSimpArgs false
open Go.RowKit
section
variable {P : Program} {ops : Array Oper} {Q : Exit → Act → World → Prop} {md : Region.Mode} {S1 S : World → Prop} {s : Nat}
def wpUntil (P : Program) (md : Region.Mode) (ops : Array Oper) (Q : Exit → Act → World → Prop) (S1 S : World → Prop) (s : Nat) : Nat → Array Bool → Act → World → Prop
  | 0, l, a, w => Region.ready md ops l = [] ∧ Q .normal a w
  | n + 1, l, a, w => (Region.ready md ops l = [] → Q .normal a w) ∧ ∀ i ∈ Region.ready md ops l, wpOp P ops Q i (fun a' w' => S1 w' ∧ ((l.setIfInBounds i true).getD s true = false → S w') ∧ wpUntil P md ops Q S1 S s n (l.setIfInBounds i true) a' w') a w
theorem until_any : ∀ (n : Nat) (l : Array Bool) (a : Act) (w : World), wpUntil P md ops Q S1 S s n l a w → wpAnyH P md ops Q S1 n l a w
  | 0, _, _, _, h => h
  | n + 1, _, _, _, h => ⟨h.1, fun i hi => wpOp_mono (fun a' w' h' => ⟨h'.1, until_any n _ a' w' h'.2.2⟩) (h.2 i hi)⟩
theorem set_stays {l : Array Bool} {i : Nat} (h : l.getD s true = true) : (l.setIfInBounds i true).getD s true = true := by
  by_cases hi : i = s
  · subst hi
    by_cases hlt : i < l.size
    · simp [hlt]
    · simp [hlt]
  · rw [getD_set_ne true hi]; exact h
theorem until_of_any : ∀ (n : Nat) (l : Array Bool) (a : Act) (w : World), l.getD s true = true → wpAnyH P md ops Q S1 n l a w → wpUntil P md ops Q S1 S s n l a w
  | 0, _, _, _, _, h => h
  | n + 1, l, _, _, hs, h => ⟨h.1, fun i hi => wpOp_mono (fun a' w' h' => ⟨h'.1, fun h0 => (by rw [set_stays hs] at h0; cases h0), until_of_any n _ a' w' (set_stays hs) h'.2⟩) (h.2 i hi)⟩
theorem until_first {i : Nat} {oi : Oper} {v : Value} {T : World → Prop} (hi : ops[i]? = some oi) (hsel : ∀ (j : Nat) (o : Oper) cs b, ops[j]? = some o → o.op ≠ .select cs b)
    (hQ : ∀ c a w, Q (.panic c) (a.put oi.dst v) w → Q (.panic c) a w) (his : i ≠ s)
    (hT : (T = S ∧ ∃ os, ops[s]? = some os ∧ ∃ e ∈ os.after, Region.binds md e = true ∧ e.on = i) ∨ T = S1) :
    ∀ (n : Nat) (l : Array Bool) (a : Act) (w : World),
      (∀ j oj, ops[j]? = some oj → j ≠ i → l.getD j true = false → (∀ e ∈ oj.after, Region.binds md e = true → e.on ≠ i) → oi.apart ops oj = true) →
      i ∈ Region.ready md ops l → YieldsIf P ops T oi v a → l.getD s true = false → S1 w → S w →
      wpUntil P md ops Q S1 S s n (l.setIfInBounds i true) (a.put oi.dst v) w → wpUntil P md ops Q S1 S s (n + 1) l a w := by
  intro n
  have hTw : ∀ w, S1 w → S w → T w := fun w h1 h => by
    rcases hT with ⟨rfl, _⟩ | rfl
    · exact h
    · exact h1
  induction n with
  | zero =>
    intro l a w _ hr hy hs hS1 hS H
    refine ⟨fun h => (by rw [h] at hr; cases hr), fun j hj => ?_⟩
    by_cases hji : j = i
    · subst hji; exact hy.wpOp hi (hTw w hS1 hS) ⟨hS1, fun _ => hS, H⟩
    · have := ready_mono hj hji
      rw [H.1] at this
      cases this
  | succ n ih =>
    intro l a w hfree hr hy hs hS1 hS H
    refine ⟨fun h => (by rw [h] at hr; cases hr), fun j hj => ?_⟩
    by_cases hji : j = i
    · subst hji; exact hy.wpOp hi (hTw w hS1 hS) ⟨hS1, fun _ => hS, H⟩
    · have h1 := H.2 j (ready_mono hj hji)
      obtain ⟨hjun, oj, hoj, hall⟩ := mem_ready.1 hj
      have hiun := (mem_ready.1 hr).1
      have hnot : ∀ e ∈ oj.after, Region.binds md e = true → e.on ≠ i := fun e he hb heq => by
        have h2 := hall e he hb
        rw [heq] at h2
        rcases Nat.lt_or_ge i l.size with h' | h'
        · simp [h'] at hiun h2; rw [hiun] at h2; cases h2
        · simp [Array.getElem?_eq_none h'] at h2
      have h2 := wpOp_putIf hoj (hfree j oj hoj hji hjun hnot) (fun cs b => hsel i oi cs b hi) (fun cs b => hsel j oj cs b hoj) hQ hy h1
      have hfree' : ∀ k ok, ops[k]? = some ok → k ≠ i → (l.setIfInBounds j true).getD k true = false →
          (∀ e ∈ ok.after, Region.binds md e = true → e.on ≠ i) → oi.apart ops ok = true := fun k ok hk hki hun hno => by
        refine hfree k ok hk hki ?_ hno
        by_cases hjk : j = k
        · subst hjk; exact hjun
        · rw [getD_set_ne true hjk] at hun; exact hun
      have hcomm : (l.setIfInBounds i true).setIfInBounds j true = (l.setIfInBounds j true).setIfInBounds i true := Array.setIfInBounds_comm _ _ (fun e => hji e.symm)
      have hbit : ((l.setIfInBounds i true).setIfInBounds j true).getD s true = (l.setIfInBounds j true).getD s true := by rw [hcomm, getD_set_ne true his]
      refine wpOp_mono (fun a' w' h3 => ?_) h2
      obtain ⟨hy', hS1', hS', H'⟩ := h3
      rw [hbit] at hS'
      by_cases hjs : (l.setIfInBounds j true).getD s true = false
      · refine ⟨hS1', fun _ => hS' hjs, ih (l.setIfInBounds j true) a' w' hfree' (ready_mono hr (Ne.symm hji)) hy' hjs hS1' (hS' hjs) ?_⟩
        rw [← hcomm]
        exact H'
      · have hjs' : (l.setIfInBounds j true).getD s true = true := by simpa using hjs
        refine ⟨hS1', fun h => absurd h hjs, ?_⟩
        rcases hT with ⟨_, os, hos, e, he, hb, hei⟩ | rfl
        · exfalso
          have hsj : j = s := by
            by_cases hne : j = s
            · exact hne
            · rw [getD_set_ne true hne, hs] at hjs'; cases hjs'
          subst hsj
          rw [hoj] at hos
          cases hos
          exact hnot e he hb hei
        · refine until_of_any _ _ _ _ hjs' (wpAnyH_first hi hsel hQ n (l.setIfInBounds j true) a' w' hfree' (ready_mono hr (Ne.symm hji)) hy' hS1' ?_)
          have := until_any _ _ _ _ H'
          rw [hcomm] at this
          exact this
end
theorem wpOp_of_TL {c : Cx} {Q : Exit → Act → World → Prop} {F : Fr} {K : List Fact} {ops : Array Oper} {j : Nat} {o : Oper} {Z : Act → World → Prop} (ho : ops[j]? = some o) (h : TL c ops (nxt Z Q) [o] F K) {a : Act} {w : World} (hF : FS c.n c.D F a) (hK : Sat c.S c.w0 K w) : wpOp c.P ops Q j Z a w := by
  have h1 := h a w hF hK
  unfold wpList at h1
  unfold wpOp
  simp only [ho]
  split
  · rename_i hw
    rw [if_pos hw] at h1
    rcases h1 with h1 | ⟨hA, hL⟩
    · refine .inl ?_
      unfold Oper.wp at *
      generalize (execOp a.eval o).run c.P w = r at *
      cases r with
      | ok x w' =>
        cases x <;> simp only [Oper.upon] at h1 ⊢ <;> first
          | exact h1
          | exact Calls.mono h1 (fun e w'' he => by
              cases e with
              | returned v => exact he
              | panicked ch => exact he
              | outgrown => obtain ⟨x, y, z⟩ := he; exact ⟨x, y, z⟩)
          | exact Rows.mono h1 (fun _ _ he => he)
      | halt x w' => cases x <;> simp only [Oper.upon] at h1 ⊢ <;> exact h1
    · obtain ⟨x, y, z⟩ := hL
      exact .inr ⟨hA, x, y, z⟩
  · rename_i hw
    rw [if_neg hw] at h1
    exact h1
section
variable {c : Cx} {Q : Exit → Act → World → Prop} {F F' : Fr} {K K' K0 : List Fact} {ops : Array Oper} {listed : Array Bool} {fuel s : Nat}
def RU (c : Cx) (ops : Array Oper) (Q : Exit → Act → World → Prop) (K0 : List Fact) (s : Nat) (listed : Array Bool) (fuel : Nat) (F : Fr) (K : List Fact) : Prop :=
  ∀ a w, FS c.n c.D F a → Sat c.S c.w0 K w → wpUntil c.P .any ops Q (Sat c.S c.w0 []) (Sat c.S c.w0 K0) s fuel listed a w
def waitsB (ops : Array Oper) (s i : Nat) : Bool := match ops[s]? with
  | some o => o.after.any fun e => Region.binds .any e && e.on == i
  | none => false
theorem waits_spec {i : Nat} (h : waitsB ops s i = true) : ∃ os, ops[s]? = some os ∧ ∃ e ∈ os.after, Region.binds .any e = true ∧ e.on = i := by
  unfold waitsB at h
  split at h
  · rename_i o ho
    obtain ⟨e, he, h2⟩ := Array.any_eq_true'.1 h
    simp only [Bool.and_eq_true, beq_iff_eq] at h2
    exact ⟨o, ho, e, he, h2.1, h2.2⟩
  · cases h
theorem RU.tk (i : Nat) {op : Op} {ty : TypeId} {pos : String} {af : Array Edge} {g : Option (Nat × Bool)} {t : Nat} {v : Value} (ho : ops[i]? = some ⟨some t, op, ty, pos, af, g⟩) (hp : Pu c F K0 ⟨some t, op, ty, pos, af, g⟩ v) (h : RU c ops Q K0 s (listed.setIfInBounds i true) fuel ((t, v) :: F) K) (hh : HasL K K0 := by repeat (first | exact HasL.nil | refine HasL.cons (by repeat (first | exact Pick.hd | apply Pick.tl)) ?_)) (hk : takeA ops listed i = true := by kernel_rfl) (hw : waitsB ops s i = true := by kernel_rfl) (hn : Nat.beq i s = false := by rfl) (hu : listed.getD s true = false := by kernel_rfl) (hg : gdB F ops g = some true := by rfl) (hd : Nat.blt t c.n = true := by rfl) (hpan : Pan Q := by (intro d _ _ _ _; cases d <;> exact Iff.rfl)) :
    RU c ops Q K0 s listed (fuel + 1) F K := fun a w hF hK => by
  simp only [takeA, Bool.and_eq_true] at hk
  have his : i ≠ s := fun e => by rw [beq_iff.2 e] at hn; cases hn
  exact until_first ho (Region.noSelect_spec hk.1.1) (fun ch a w h => (hpan _ v ch a w).1 h) his (.inl ⟨rfl, waits_spec hw⟩) fuel listed a w (Region.free_spec ho hk.1.2) (by simpa using hk.2) (.inl ⟨hF.wanted hg, fun w' hS => hp a w' hF hS⟩) hu (HasL.nil.has.sat hK) (hh.has.sat hK) (h _ w (hF.put hd v) hK)
theorem RU.a1 (i : Nat) {o : Oper} (ho : ops[i]? = some o) (h : ∀ Z : Act → World → Prop, (∀ F2 K2, HasL K2 K0 → RU c ops Q K0 s (listed.setIfInBounds i true) fuel F2 K2 → TQ c (fun _ => Z) .normal F2 K2) → TL c ops (nxt Z Q) [o] F K) (hr : Region.ready .any ops listed = [i] := by kernel_rfl) : RU c ops Q K0 s listed (fuel + 1) F K := fun a w hF hK => by
  refine ⟨fun h0 => (by rw [hr] at h0; cases h0), fun j hj => ?_⟩
  rw [hr, List.mem_singleton] at hj
  subst hj
  exact wpOp_of_TL ho (h (fun a' w' => Sat c.S c.w0 [] w' ∧ ((listed.setIfInBounds j true).getD s true = false → Sat c.S c.w0 K0 w') ∧ wpUntil c.P .any ops Q (Sat c.S c.w0 []) (Sat c.S c.w0 K0) s fuel (listed.setIfInBounds j true) a' w') (fun F2 K2 hh hg a' w' hF2 hK2 => ⟨HasL.nil.has.sat hK2, fun _ => hh.has.sat hK2, hg a' w' hF2 hK2⟩)) hF hK
theorem RU.st {o : Oper} (ho : ops[s]? = some o) (h : ∀ Z : Act → World → Prop, (∀ F2 K2, RG c ops Q [] [] (listed.setIfInBounds s true) fuel F2 K2 → TQ c (fun _ => Z) .normal F2 K2) → TL c ops (nxt Z Q) [o] F K) (hr : Region.ready .any ops listed = [s] := by kernel_rfl) (hu : (listed.setIfInBounds s true).getD s true = true := by kernel_rfl) : RU c ops Q K0 s listed (fuel + 1) F K := fun a w hF hK => by
  refine ⟨fun h0 => (by rw [hr] at h0; cases h0), fun j hj => ?_⟩
  rw [hr, List.mem_singleton] at hj
  subst hj
  exact wpOp_of_TL ho (h (fun a' w' => Sat c.S c.w0 [] w' ∧ ((listed.setIfInBounds j true).getD j true = false → Sat c.S c.w0 K0 w') ∧ wpUntil c.P .any ops Q (Sat c.S c.w0 []) (Sat c.S c.w0 K0) j fuel (listed.setIfInBounds j true) a' w') (fun F2 K2 hg a' w' hF2 hK2 => ⟨HasL.nil.has.sat hK2, fun h0 => (by rw [hu] at h0; cases h0), until_of_any _ _ _ _ hu (hg (fun p hp => by cases hp) a' w' hF2 hK2)⟩)) hF hK
end
end Go.Proofs.Ytlphecckplndnaa
namespace Go.Proofs.Ytlphecckplndnaa
set_option linter.all false
set_option linter.unusedVariables false
set_option linter.unusedSimpArgs false
open Go.RowKit Go.MapKept
section
variable {c : Cx} {Q : Exit → Act → World → Prop} {F : Fr} {K K' : List Fact} {d : Option Tmp} {ty : TypeId} {pos : String} {af : Array Edge} {g : Option (Nat × Bool)}
theorem Pu.lkV {x y : Operand} {T kt et : TypeId} {kk : IntKind} {b : Nat} {i : Int} {z : Value} (v : Value) (is : Bool) {l : List (Int × Value)} (hT : MapT c.P T kt et kk) (hz : ∀ w, (zeroValue et).run c.P w = .ok z w) (hv : (mlook i l).getD z = v) (hi : (mlook i l).isSome = is) (hx : ev F x = some (.map (some b)) := by rfl) (hy : ev F y = some (.int kk i) := by rfl)
    (hp : Pick K (.obj b (mapO kk l)) K' := by repeat (first | exact Pick.hd | apply Pick.tl)) : Pu c F K ⟨d, .lookup T x y true, ty, pos, af, g⟩ (.tuple #[v, .bool is]) := by
  have h := Pu.lk (c := c) (F := F) (d := d) (ty := ty) (pos := pos) (af := af) (g := g) hT hz hx hy hp
  rw [hv, hi] at h
  exact h
end
end Go.Proofs.Ytlphecckplndnaa
namespace Go.Proofs.Ytlphecckplndnaa
set_option linter.all false
set_option linter.unusedVariables false
set_option linter.unusedSimpArgs false
open Go.RowKit
theorem bIn1_any (x lo hi : Int) (b1 b2 : Nat) (w : World) (h1 : OldB w b1 [.int .i64 lo]) (h2 : OldB w b2 [.int .i64 hi]) :
    Calls Try.prog 46 #[.int .i64 x, .pointer (some ⟨b1, 0, none⟩), .pointer (some ⟨b2, 0, none⟩)] w (Ret w (.bool (!inB5 lo hi x))) := by
  refine K_enter (S := []) (K := []) Try.func46 rfl Try.ntmps46 rfl (Sat.start _) ?_
  refine TW.seq fun Y1 hY1 => ?_
  refine TW.region ?_
  refine TL.p Pu.as ?_
  refine TL.nil ?_
  refine TQ.thenN (hY1 _ _ ?_)
  refine TW.seq fun Y2 hY2 => ?_
  refine TW.join [(4, .bool (decide (x < lo) || decide (hi < x)))] ?_ (fun hJ1 => ?_)
  · refine TQ.thenN (hY2 _ _ ?_)
    refine TW.ret ?_
    refine TQ.ret Try.results46 rfl ((.tmp rfl .nil)) ?_
    exact fun w hw => ⟨ret_bool (by unfold inB5; rw [Bool.eq_iff_iff]; simp only [Bool.not_eq_true', Bool.and_eq_false_iff, Bool.or_eq_true, decide_eq_true_eq, decide_eq_false_iff_not]; omega), Chg.ext hw.chg⟩
  refine TW.region ?_
  refine TL.p Pu.mv ?_
  refine TL.p (by first | exact (Pu.ld ty_sc3) | exact (Pu.ldo ty_sc3)) ?_
  refine TL.p Pu.lt ?_
  refine TL.p Pu.mv ?_
  refine TL.guard (t := 8) rfl (fun hg1 => ?_) (fun hg1 => ?_)
  · refine TL.gs ?_
    refine TL.gs ?_
    refine TL.gs ?_
    refine TL.p Pu.kt ?_
    refine TL.p Pu.as ?_
    refine TL.nil ?_
    exact TQ.sub (by repeat (first | exact trivial | refine ⟨rfl, ?_⟩ | refine ⟨trivial, ?_⟩ | refine ⟨(by show some (Value.bool _) = some (Value.bool _); simp [hg1]), ?_⟩)) (by repeat (first | exact KSub.nil | refine KSub.cons (by repeat (first | exact Pick.hd | apply Pick.tl)) ?_)) hJ1
  · refine TL.gd Pu.mv ?_
    refine TL.gd (by first | exact (Pu.ld ty_sc3) | exact (Pu.ldo ty_sc3)) ?_
    refine TL.gd Pu.gt ?_
    refine TL.p Pu.kf ?_
    refine TL.p Pu.as ?_
    refine TL.nil ?_
    exact TQ.sub (by repeat (first | exact trivial | refine ⟨rfl, ?_⟩ | refine ⟨trivial, ?_⟩ | refine ⟨(by show some (Value.bool _) = some (Value.bool _); simp [hg1]), ?_⟩)) (by repeat (first | exact KSub.nil | refine KSub.cons (by repeat (first | exact Pick.hd | apply Pick.tl)) ?_)) hJ1
theorem bIn_any (lo hi : Int) {A : Option Addr} {n cp : Nat} {v : Nat → Int} {w : World} (hn : n ≤ 9223372036854775807) (hR : RdR w 1 A n (fun k => [.int .i64 (v k)])) :
    Calls Try.prog 32 #[.int .i64 lo, .int .i64 hi, .slice A n cp] w (Ret w (.bool (allB n fun k => inB5 lo hi (v k)))) := by
  refine K_enter (S := []) (K := []) Try.func32 rfl Try.ntmps32 rfl (Sat.start _) ?_
  refine TW.seq fun Y1 hY1 => ?_
  refine TW.region ?_
  refine TL.m Mk.bx ?_
  intro b1
  refine TL.m Mk.bx ?_
  intro b2
  refine TL.p Pu.as ?_
  refine TL.nil ?_
  refine TQ.thenN (hY1 _ _ ?_)
  refine TW.seq fun Y2 hY2 => ?_
  refine TW.region ?_
  refine TL.p Pu.mv ?_
  refine TL.p Pu.fn ?_
  refine TL.cr rfl (enters Try.func45 rfl rfl) (fun w hw => by
      have h1 := OldB.of_blk (hw.holds (.blk b1 3 [.int .i64 lo]) (by simp))
      have h2 := OldB.of_blk (hw.holds (.blk b2 3 [.int .i64 hi]) (by simp))
      exact hasInt_any (fs := []) (p := fun k => !inB5 lo hi (v k)) (enters Try.func46 rfl rfl) hn (hR.sat hw Apart.nil) fun k hk w' hb => bIn1_any _ _ _ b1 b2 w' (h1.ext hb) (h2.ext hb)) ?_
  refine TL.p Pu.no ?_
  refine TL.p Pu.as ?_
  refine TL.nil ?_
  refine TQ.thenN (hY2 _ _ ?_)
  refine TW.ret ?_
  refine TQ.ret Try.results32 rfl ((.tmp rfl .nil)) ?_
  exact fun w hw => ⟨ret_bool (by rw [not_anyB]; simp), Chg.ext hw.chg⟩
theorem bInOne_any (lo hi x : Int) {b E : Nat} {w : World} (h : Blk w b E #[.int .i64 x]) :
    Calls Try.prog 32 #[.int .i64 lo, .int .i64 hi, .slice (some ⟨b, 0, none⟩) 1 1] w (Ret w (.bool (inB5 lo hi x))) := by
  have := bIn_any lo hi (n := 1) (cp := 1) (v := fun _ => x) (by decide) (RdR.blk (cs := [.int .i64 x]) h rfl (fun _ _ => rfl))
  simpa [allB] using this
theorem bInTwo_any (lo hi x y : Int) {b E : Nat} {w : World} (h : Blk w b E #[.int .i64 x, .int .i64 y]) :
    Calls Try.prog 32 #[.int .i64 lo, .int .i64 hi, .slice (some ⟨b, 0, none⟩) 2 2] w (Ret w (.bool (inB5 lo hi x && inB5 lo hi y))) := by
  have := bIn_any lo hi (n := 2) (cp := 2) (v := fun k => if k = 0 then x else y) (by decide) (RdR.blk (cs := [.int .i64 x, .int .i64 y]) h rfl (fun _ _ => rfl))
  simpa [allB, List.range_succ] using this
theorem bProper1_any (x y lo hi : Int) (b1 b2 : Nat) (w : World) (h1 : OldB w b1 [.int .i64 lo]) (h2 : OldB w b2 [.int .i64 hi]) :
    Calls Try.prog 47 #[.agg (spL x y).toArray, .pointer (some ⟨b1, 0, none⟩), .pointer (some ⟨b2, 0, none⟩)] w (Ret w (.bool (!ordB5 lo hi x y))) := by
  refine K_enter (S := []) (K := []) Try.func47 rfl Try.ntmps47 rfl (Sat.start _) ?_
  refine TW.seq fun Y1 hY1 => ?_
  refine TW.region ?_
  refine TL.m Mk.bx ?_
  intro b1
  refine TL.p Pu.as ?_
  refine TL.nil ?_
  refine TQ.thenN (hY1 _ _ ?_)
  refine TW.seq fun Y2 hY2 => ?_
  refine TW.join [(4, .bool (decide (y < x) || !(inB5 lo hi x && inB5 lo hi y)))] ?_ (fun hJ1 => ?_)
  · refine TQ.thenN (hY2 _ _ ?_)
    refine TW.ret ?_
    refine TQ.ret Try.results47 rfl ((.tmp rfl .nil)) ?_
    exact fun w hw => ⟨ret_bool (by unfold ordB5 inB5; rw [Bool.eq_iff_iff]; simp only [Bool.not_eq_true', Bool.and_eq_false_iff, Bool.or_eq_true, decide_eq_true_eq, decide_eq_false_iff_not]; omega), Chg.ext hw.chg⟩
  refine TW.region ?_
  refine TL.p (by first | exact Pu.fb ty_fa47_0 | exact Pu.fe ty_fa47_0) ?_
  refine TL.p (by first | exact (Pu.ld ty_sc3) | exact (Pu.ldo ty_sc3)) ?_
  refine TL.p (by first | exact Pu.fb ty_fa47_1 | exact Pu.fe ty_fa47_1) ?_
  refine TL.p (by first | exact (Pu.ld ty_sc3) | exact (Pu.ldo ty_sc3)) ?_
  refine TL.p Pu.gt ?_
  refine TL.p Pu.mv ?_
  refine TL.guard (t := 10) rfl (fun hg1 => ?_) (fun hg1 => ?_)
  · refine TL.gs ?_
    refine TL.gs ?_
    refine TL.gs ?_
    refine TL.gs ?_
    refine TL.gs ?_
    refine TL.gs ?_
    refine TL.gs ?_
    refine TL.gs ?_
    refine TL.gs ?_
    refine TL.p Pu.kt ?_
    refine TL.p Pu.as ?_
    refine TL.nil ?_
    exact TQ.sub (by repeat (first | exact trivial | refine ⟨rfl, ?_⟩ | refine ⟨trivial, ?_⟩ | refine ⟨(by show some (Value.bool _) = some (Value.bool _); simp [hg1]), ?_⟩)) (by repeat (first | exact KSub.nil | refine KSub.cons (by repeat (first | exact Pick.hd | apply Pick.tl)) ?_)) hJ1
  · refine TL.gd (by first | exact (Pu.ld ty_sc3) | exact (Pu.ldo ty_sc3)) ?_
    refine TL.gd (by first | exact (Pu.ld ty_sc3) | exact (Pu.ldo ty_sc3)) ?_
    refine TL.gd (by first | exact Pu.fb ty_fa47_0 | exact Pu.fe ty_fa47_0) ?_
    refine TL.gd (by first | exact (Pu.ld ty_sc3) | exact (Pu.ldo ty_sc3)) ?_
    refine TL.gd (by first | exact Pu.fb ty_fa47_1 | exact Pu.fe ty_fa47_1) ?_
    refine TL.gd (by first | exact (Pu.ld ty_sc3) | exact (Pu.ldo ty_sc3)) ?_
    refine TL.gm Mk.bl ?_
    intro b2
    refine TL.cr rfl (enters Try.func32 rfl rfl) (fun w hw => by
        exact bInTwo_any _ _ _ _ (hw.holds _ (List.mem_cons_self ..))) ?_
    refine TL.gd Pu.no ?_
    refine TL.p Pu.kf ?_
    refine TL.p Pu.as ?_
    refine TL.nil ?_
    exact TQ.sub (by repeat (first | exact trivial | refine ⟨rfl, ?_⟩ | refine ⟨trivial, ?_⟩ | refine ⟨(by show some (Value.bool _) = some (Value.bool _); simp [hg1]), ?_⟩)) (by repeat (first | exact KSub.nil | refine KSub.cons (by repeat (first | exact Pick.hd | apply Pick.tl)) ?_)) hJ1
theorem bProper_any (lo hi : Int) {A : Option Addr} {n cp : Nat} {v : Nat → Nat → Int} {w : World} (hn : n ≤ 9223372036854775807) (hR : RdR w 2 A n (fun k => spL (v k 0) (v k 1))) :
    Calls Try.prog 33 #[.int .i64 lo, .int .i64 hi, .slice A n cp] w (Ret w (.bool (allB n fun k => ordB5 lo hi (v k 0) (v k 1)))) := by
  refine K_enter (S := []) (K := []) Try.func33 rfl Try.ntmps33 rfl (Sat.start _) ?_
  refine TW.seq fun Y1 hY1 => ?_
  refine TW.region ?_
  refine TL.m Mk.bx ?_
  intro b1
  refine TL.m Mk.bx ?_
  intro b2
  refine TL.p Pu.as ?_
  refine TL.nil ?_
  refine TQ.thenN (hY1 _ _ ?_)
  refine TW.seq fun Y2 hY2 => ?_
  refine TW.region ?_
  refine TL.p Pu.mv ?_
  refine TL.p Pu.fn ?_
  refine TL.cr rfl (enters Try.func43 rfl rfl) (fun w hw => by
      have h1 := OldB.of_blk (hw.holds (.blk b1 3 [.int .i64 lo]) (by simp))
      have h2 := OldB.of_blk (hw.holds (.blk b2 3 [.int .i64 hi]) (by simp))
      exact hasSpan_any (fs := []) (v := v) (p := fun k => !ordB5 lo hi (v k 0) (v k 1)) (enters Try.func47 rfl rfl) hn (hR.sat hw Apart.nil) fun k hk w' hb => bProper1_any _ _ _ _ b1 b2 w' (h1.ext hb) (h2.ext hb)) ?_
  refine TL.p Pu.no ?_
  refine TL.p Pu.as ?_
  refine TL.nil ?_
  refine TQ.thenN (hY2 _ _ ?_)
  refine TW.ret ?_
  refine TQ.ret Try.results33 rfl ((.tmp rfl .nil)) ?_
  exact fun w hw => ⟨ret_bool (by rw [not_anyB]; simp), Chg.ext hw.chg⟩
theorem bProperOne_any (lo hi x y : Int) {b E : Nat} {w : World} (h : Blk w b E #[.int .i64 x, .int .i64 y]) :
    Calls Try.prog 33 #[.int .i64 lo, .int .i64 hi, .slice (some ⟨b, 0, none⟩) 1 1] w (Ret w (.bool (ordB5 lo hi x y))) := by
  have := bProper_any lo hi (n := 1) (cp := 1) (v := fun _ j => if j = 0 then x else y) (by decide) (RdR.blk (cs := [.int .i64 x, .int .i64 y]) h rfl (fun _ _ => rfl))
  simpa [allB] using this
theorem bCommon_any (a b c d : Int) (w : World) : Calls Try.prog 40 #[.agg #[.int .i64 a, .int .i64 b], .agg #[.int .i64 c, .int .i64 d]] w (Ret w (.agg #[.int .i64 (max a c), .int .i64 (min b d)])) := by
  refine K_enter (S := []) (K := []) Try.func40 rfl Try.ntmps40 rfl (Sat.start _) ?_
  refine TW.seq fun Y1 hY1 => ?_
  refine TW.region ?_
  refine TL.m Mk.bx ?_
  intro b1
  refine TL.m Mk.bx ?_
  intro b2
  refine TL.m (Mk.al ty_zr47) ?_
  intro b3
  refine TL.nil ?_
  refine TQ.thenN (hY1 _ _ ?_)
  refine TW.seq fun Y2 hY2 => ?_
  refine TW.region ?_
  refine TL.p (by first | exact Pu.fb ty_fa47_0 | exact Pu.fe ty_fa47_0) ?_
  refine TL.p (Pu.ld ty_sc3) ?_
  refine TL.p (by first | exact Pu.fb ty_fa47_0 | exact Pu.fe ty_fa47_0) ?_
  refine TL.p (Pu.ld ty_sc3) ?_
  refine TL.p Pu.mx ?_
  refine TL.p (by first | exact Pu.fb ty_fa47_1 | exact Pu.fe ty_fa47_1) ?_
  refine TL.p (Pu.ld ty_sc3) ?_
  refine TL.p (by first | exact Pu.fb ty_fa47_1 | exact Pu.fe ty_fa47_1) ?_
  refine TL.p (Pu.ld ty_sc3) ?_
  refine TL.p Pu.mn ?_
  refine TL.p Pu.bd ?_
  first | refine TL.st ty_sz47 ?_ | refine TL.se ty_sz47 ?_
  refine TL.nil ?_
  refine TQ.thenN (hY2 _ _ ?_)
  refine TW.ret ?_
  refine TQ.ret Try.results40 rfl ((RV.cs ty_ag47 .nil)) ?_
  exact fun w hw => Ret.of hw
theorem bShifted_any (a b x y : Int) (w : World) (h : (-1000000000000000000 ≤ a ∧ a ≤ 1000000000000000000) ∧ (-1000000000000000000 ≤ b ∧ b ≤ 1000000000000000000) ∧ (-1000000000000000000 ≤ x ∧ x ≤ 1000000000000000000) ∧ (-1000000000000000000 ≤ y ∧ y ≤ 1000000000000000000)) :
    Calls Try.prog 41 #[.agg #[.int .i64 a, .int .i64 b], .int .i64 x, .int .i64 y] w (Ret w (.agg #[.int .i64 (a + x), .int .i64 (b + y)])) := by
  refine K_enter (S := []) (K := []) Try.func41 rfl Try.ntmps41 rfl (Sat.start _) ?_
  refine TW.seq fun Y1 hY1 => ?_
  refine TW.region ?_
  refine TL.m Mk.bx ?_
  intro b1
  refine TL.m (Mk.al ty_zr47) ?_
  intro b2
  refine TL.nil ?_
  refine TQ.thenN (hY1 _ _ ?_)
  refine TW.seq fun Y2 hY2 => ?_
  refine TW.region ?_
  refine TL.p (by first | exact Pu.fb ty_fa47_0 | exact Pu.fe ty_fa47_0) ?_
  refine TL.p (Pu.ld ty_sc3) ?_
  refine TL.p Pu.mv ?_
  refine TL.p Pu.ad ?_
  refine TL.p (by first | exact Pu.fb ty_fa47_1 | exact Pu.fe ty_fa47_1) ?_
  refine TL.p (Pu.ld ty_sc3) ?_
  refine TL.p Pu.mv ?_
  refine TL.p Pu.ad ?_
  refine TL.p Pu.bd ?_
  first | refine TL.st ty_sz47 ?_ | refine TL.se ty_sz47 ?_
  refine TL.nil ?_
  refine TQ.thenN (hY2 _ _ ?_)
  refine TW.ret ?_
  refine TQ.ret Try.results41 rfl ((RV.cs ty_ag47 .nil)) ?_
  exact fun w hw => Ret.of hw
def anL (H : Hd) (a : Nat → Option Addr) (c : Nat → Nat) (i : Nat) : List Value := [.int .i64 (H.id i), .int .i64 (H.mo i), .int .i64 (H.lo i), .int .i64 (H.hi i), .slice (a i) (H.ml i) (c i)]
def octL (g : Nat → Int) : List Value := [.int .i64 (g 0), .int .i64 (g 1), .int .i64 (g 2), .int .i64 (g 3), .int .i64 (g 4), .int .i64 (g 5), .int .i64 (g 6), .int .i64 (g 7)]
theorem oct8 : ArrT Try.prog 78 3 8 1 := ⟨Try.underlying78, fun w => by kernel_rfl⟩
def SgX (H : Hd) (i : Nat) := { g : Nat → Int // marksB H i = true → ∀ s, s < 8 → g s = sgH H i s }
set_option maxRecDepth 100000 in
set_option maxHeartbeats 1000000 in
theorem signed_any {H : Hd} {a : Nat → Option Addr} {c : Nat → Nat} {i : Nat} {w : World} (hl : H.ml i ≤ 1000) (hR : RdR w 2 (a i) (H.ml i) (fun k => spL (H.sp i k) (H.sg i k))) :
    CallsK Try.prog 31 #[.agg (anL H a c i).toArray] [] w (SgX H i) (fun g => .tuple #[.agg (octL g.1).toArray, .bool (marksB H i)]) (fun _ => []) := by
  unfold anL
  refine K_enter (S := []) (K := []) Try.func31 rfl Try.ntmps31 rfl (Sat.start _) ?_
  refine TW.seq fun Y1 hY1 => ?_
  refine TW.region ?_
  refine TL.m Mk.bx ?_
  intro b1
  refine TL.m (Mk.al ty_zr78) ?_
  intro b2
  refine TL.p Pu.as ?_
  refine TL.nil ?_
  refine TQ.thenN (hY1 _ _ ?_)
  refine TW.seq fun Y2 hY2 => ?_
  refine TW.region ?_
  refine TL.m (Mk.al ty_zr78) ?_
  intro b3
  refine TL.nil ?_
  refine TQ.thenN (hY2 _ _ ?_)
  refine TW.seq fun Y3 hY3 => ?_
  refine TW.seq fun Y4 hY4 => ?_
  refine TW.region ?_
  refine TL.p (by first | exact Pu.fb ty_fa50_3 | exact Pu.fe ty_fa50_3) ?_
  refine TL.p (Pu.ld ty_sc48) ?_
  refine TL.p (Pu.ln Try.underlying48) ?_
  refine TL.p Pu.mv ?_
  refine TL.nil ?_
  refine TQ.thenN (hY4 _ _ ?_)
  refine TW.block ?_
  refine TW.loop1 (fun (k : Nat) => [(10, .int .i64 (k : Int)), (9, .int .i64 (H.ml i : Int)), (8, .slice (a i) (H.ml i) (c i)), (4, .pointer (some ⟨b3, 0, none⟩)), (2, .pointer (some ⟨b2, 0, none⟩))]) (fun k => [.own (some ⟨b3, 0, none⟩) 8 8 78 1 (fun s => [.int .i64 (sgK H i k s)]), .blk b2 78 (octL fun _ => 0)]) (fun k => k ≤ H.ml i ∧ ∀ j, j < k → markB H i j = true) (fun k => H.ml i - k) 0 (by repeat (first | exact trivial | refine ⟨rfl, ?_⟩ | refine ⟨trivial, ?_⟩)) ?_ ?_ ?_
  · exact KSub.ofBlk (by repeat (first | exact Pick.hd | apply Pick.tl)) rfl (fun i hi => rfl) rfl rfl (KSub.cons (by repeat (first | exact Pick.hd | apply Pick.tl)) KSub.nil)
  · exact ⟨Nat.zero_le _, fun j hj => by omega⟩
  rintro k ⟨hk, hm⟩ Z0 hZ0
  refine TW.seq fun Y5 hY5 => ?_
  refine TW.region ?_
  refine TL.p Pu.lt ?_
  refine TL.nil ?_
  refine TQ.thenN (hY5 _ _ ?_)
  refine TW.seq fun Y6 hY6 => ?_
  refine TW.cond rfl (fun hc0 => ?_) (fun hc0 => ?_)
  · try simp only [decide_eq_true_eq, decide_eq_false_iff_not, Bool.not_eq_true', Bool.not_eq_false', Bool.and_eq_true, Bool.or_eq_true, Bool.and_eq_false_iff, Bool.or_eq_false_iff, Int.not_lt, Int.not_le] at hc0
    have hkl : k < H.ml i := by omega
    refine TW.skip ?_
    refine TQ.thenN (hY6 _ _ ?_)
    refine TW.seq fun Y7 hY7 => ?_
    refine TW.block ?_
    refine TW.seq fun Y8 hY8 => ?_
    refine TW.region ?_
    refine TL.p (Pu.el ty_et48) ?_
    refine TL.p (Pu.lds ty_ag72) ?_
    refine TL.m (Mk.al ty_zr72) ?_
    intro b4
    first | refine TL.st ty_sz72 ?_ | refine TL.se ty_sz72 ?_
    refine TL.nil ?_
    refine TQ.thenN (hY8 _ _ ?_)
    refine TW.seq fun Y9 hY9 => ?_
    refine TW.seq fun Y10 hY10 => ?_
    refine TW.region ?_
    refine TL.p (by first | exact Pu.fb ty_fa72_0 | exact Pu.fe ty_fa72_0) ?_
    refine TL.p (Pu.ld ty_sc3) ?_
    refine TL.m Mk.bl ?_
    intro b5
    refine TL.cr rfl (enters Try.func32 rfl rfl) (fun w hw => by
        exact bInOne_any _ _ _ (hw.holds _ (List.mem_cons_self ..))) ?_
    refine TL.p Pu.no ?_
    refine TL.p Pu.mv ?_
    refine TL.guard (t := 19) rfl (fun hg1 => ?_) (fun hg1 => ?_)
    · try simp only [decide_eq_true_eq, decide_eq_false_iff_not, Bool.not_eq_true', Bool.not_eq_false', Int.natCast_pos] at hg1
      refine TL.gs ?_
      refine TL.gs ?_
      refine TL.gs ?_
      refine TL.gs ?_
      refine TL.gs ?_
      refine TL.p Pu.kt ?_
      refine TL.p Pu.mv ?_
      refine TL.gs ?_
      refine TL.gs ?_
      refine TL.gs ?_
      refine TL.gs ?_
      refine TL.gs ?_
      refine TL.p Pu.kt ?_
      refine TL.nil ?_
      refine TQ.thenN (hY10 _ _ ?_)
      refine TW.condT rfl rfl ?_
      refine TW.seq fun Y11 hY11 => ?_
      refine TW.region ?_
      refine TL.bo (b := b3) (cs := octL (sgK H i k)) (by repeat (first | exact Pick.hd | apply Pick.tl)) rfl ?_
      refine TL.p (Pu.lds ty_ag78) ?_
      first | refine TL.st ty_sz78 ?_ | refine TL.se ty_sz78 ?_
      refine TL.p Pu.as ?_
      refine TL.nil ?_
      refine TQ.thenN (hY11 _ _ ?_)
      refine TW.ret ?_
      refine TQ.thenR ?_
      refine TQ.blkR ?_
      refine TQ.thenR ?_
      refine TQ.thenR ?_
      refine TQ.blkR ?_
      refine TQ.thenR ?_
      refine TQ.ret Try.results31 rfl ((RV.cs ty_ag78 (.tmp rfl .nil))) ?_
      have hno := marks_no hkl (by first | exact hbad | (unfold markB; rw [hg1]; rfl) | (unfold markB; rw [hg1, hg2]; rfl))
      exact fun w hw => ⟨⟨sgK H i k, fun h => by rw [hno] at h; cases h⟩, by show _ = Ending.returned (Value.tuple #[Value.agg (octL (sgK H i k)).toArray, Value.bool (marksB H i)]); rw [hno]; rfl, hw.sub KSub.nil⟩
    · try simp only [decide_eq_true_eq, decide_eq_false_iff_not, Bool.not_eq_true', Bool.not_eq_false', Int.natCast_pos] at hg1
      refine TL.gd (by first | exact Pu.fb ty_fa72_1 | exact Pu.fe ty_fa72_1) ?_
      refine TL.gd (Pu.ld ty_sc3) ?_
      refine TL.gm Mk.bl ?_
      intro b6
      refine TL.cr rfl (enters Try.func32 rfl rfl) (fun w hw => by
          exact bInOne_any _ _ _ (hw.holds _ (List.mem_cons_self ..))) ?_
      refine TL.gd Pu.no ?_
      refine TL.p Pu.kf ?_
      refine TL.p Pu.mv ?_
      refine TL.guard (t := 26) rfl (fun hg2 => ?_) (fun hg2 => ?_)
      · try simp only [decide_eq_true_eq, decide_eq_false_iff_not, Bool.not_eq_true', Bool.not_eq_false', Int.natCast_pos] at hg2
        refine TL.gs ?_
        refine TL.gs ?_
        refine TL.gs ?_
        refine TL.gs ?_
        refine TL.gs ?_
        refine TL.p Pu.kt ?_
        refine TL.nil ?_
        refine TQ.thenN (hY10 _ _ ?_)
        refine TW.condT rfl rfl ?_
        refine TW.seq fun Y12 hY12 => ?_
        refine TW.region ?_
        refine TL.bo (b := b3) (cs := octL (sgK H i k)) (by repeat (first | exact Pick.hd | apply Pick.tl)) rfl ?_
        refine TL.p (Pu.lds ty_ag78) ?_
        first | refine TL.st ty_sz78 ?_ | refine TL.se ty_sz78 ?_
        refine TL.p Pu.as ?_
        refine TL.nil ?_
        refine TQ.thenN (hY12 _ _ ?_)
        refine TW.ret ?_
        refine TQ.thenR ?_
        refine TQ.blkR ?_
        refine TQ.thenR ?_
        refine TQ.thenR ?_
        refine TQ.blkR ?_
        refine TQ.thenR ?_
        refine TQ.ret Try.results31 rfl ((RV.cs ty_ag78 (.tmp rfl .nil))) ?_
        have hno := marks_no hkl (by first | exact hbad | (unfold markB; rw [hg1]; rfl) | (unfold markB; rw [hg1, hg2]; rfl))
        exact fun w hw => ⟨⟨sgK H i k, fun h => by rw [hno] at h; cases h⟩, by show _ = Ending.returned (Value.tuple #[Value.agg (octL (sgK H i k)).toArray, Value.bool (marksB H i)]); rw [hno]; rfl, hw.sub KSub.nil⟩
      · try simp only [decide_eq_true_eq, decide_eq_false_iff_not, Bool.not_eq_true', Bool.not_eq_false', Int.natCast_pos] at hg2
        have h7 : 0 ≤ H.sp i k ∧ H.sp i k ≤ 7 := by simpa [inB5] using hg1
        refine TL.gd (by first | exact Pu.fb ty_fa72_0 | exact Pu.fe ty_fa72_0) ?_
        refine TL.gd (Pu.ld ty_sc3) ?_
        refine TL.gd (Pu.ea (q := (H.sp i k).toNat) oct8 (hk := rfl)) ?_
        refine TL.gd (Pu.ld ty_sc3) ?_
        refine TL.gd Pu.ne ?_
        refine TL.p Pu.kf ?_
        refine TL.nil ?_
        refine TQ.thenN (hY10 _ _ ?_)
        refine TW.cond rfl (fun hc1 => ?_) (fun hc1 => ?_)
        · try simp only [decide_eq_true_eq, decide_eq_false_iff_not, Bool.not_eq_true', Bool.not_eq_false', Bool.and_eq_true, Bool.or_eq_true, Bool.and_eq_false_iff, Bool.or_eq_false_iff, Int.not_lt, Int.not_le] at hc1
          have hbad : markB H i k = false := by
            cases h : markB H i k with
            | false => rfl
            | true => exact absurd ((mark_step hm hg1 hg2).2 h) hc1
          refine TW.seq fun Y13 hY13 => ?_
          refine TW.region ?_
          refine TL.bo (b := b3) (cs := octL (sgK H i k)) (by repeat (first | exact Pick.hd | apply Pick.tl)) rfl ?_
          refine TL.p (Pu.lds ty_ag78) ?_
          first | refine TL.st ty_sz78 ?_ | refine TL.se ty_sz78 ?_
          refine TL.p Pu.as ?_
          refine TL.nil ?_
          refine TQ.thenN (hY13 _ _ ?_)
          refine TW.ret ?_
          refine TQ.thenR ?_
          refine TQ.blkR ?_
          refine TQ.thenR ?_
          refine TQ.thenR ?_
          refine TQ.blkR ?_
          refine TQ.thenR ?_
          refine TQ.ret Try.results31 rfl ((RV.cs ty_ag78 (.tmp rfl .nil))) ?_
          have hno := marks_no hkl (by first | exact hbad | (unfold markB; rw [hg1]; rfl) | (unfold markB; rw [hg1, hg2]; rfl))
          exact fun w hw => ⟨⟨sgK H i k, fun h => by rw [hno] at h; cases h⟩, by show _ = Ending.returned (Value.tuple #[Value.agg (octL (sgK H i k)).toArray, Value.bool (marksB H i)]); rw [hno]; rfl, hw.sub KSub.nil⟩
        · try simp only [decide_eq_true_eq, decide_eq_false_iff_not, Bool.not_eq_true', Bool.not_eq_false', Bool.and_eq_true, Bool.or_eq_true, Bool.and_eq_false_iff, Bool.or_eq_false_iff, Int.not_lt, Int.not_le] at hc1
          have hgood : markB H i k = true := (mark_step hm hg1 hg2).1 (by simpa using hc1)
          refine TW.skip ?_
          refine TQ.thenN (hY9 _ _ ?_)
          refine TW.region ?_
          refine TL.p (by first | exact Pu.fb ty_fa72_0 | exact Pu.fe ty_fa72_0) ?_
          refine TL.p (Pu.ld ty_sc3) ?_
          refine TL.p (by first | exact Pu.fb ty_fa72_1 | exact Pu.fe ty_fa72_1) ?_
          refine TL.p (Pu.ld ty_sc3) ?_
          refine TL.p (Pu.ea (q := (H.sp i k).toNat) oct8 (hk := rfl)) ?_
          first | refine TL.st ty_sz3 ?_ | refine TL.se ty_sz3 ?_
          refine TL.nil ?_
          refine TQ.blkN ?_
          refine TQ.thenN (hY7 _ _ ?_)
          refine TW.region ?_
          refine TL.p Pu.ad ?_
          refine TL.p Pu.mv ?_
          refine TL.nil ?_
          refine TQ.thenN (hZ0 (k + 1) _ _ ?_ ?_ (by repeat (first | exact trivial | refine ⟨rfl, ?_⟩ | refine ⟨trivial, ?_⟩)) ?_)
          · refine ⟨by omega, fun j hj => ?_⟩
            by_cases e : j = k
            · subst e; exact hgood
            · exact hm j (by omega)
          · exact (by first | omega | (simp only []; omega) | (simp; omega))
          · refine KSub.own (by repeat (first | exact Pick.hd | apply Pick.tl)) (fun s _ => ?_) (KSub.cons (by repeat (first | exact Pick.hd | apply Pick.tl)) KSub.nil)
            unfold updR
            simp only [sgK]
            split <;> rfl
  · try simp only [decide_eq_true_eq, decide_eq_false_iff_not, Bool.not_eq_true', Bool.not_eq_false', Bool.and_eq_true, Bool.or_eq_true, Bool.and_eq_false_iff, Bool.or_eq_false_iff, Int.not_lt, Int.not_le] at hc0
    obtain rfl : k = H.ml i := by omega
    refine TW.exit ?_
    refine TQ.thenX ?_
    refine TQ.thenX ?_
    refine TQ.blkX ?_
    refine TQ.thenN (hY3 _ _ ?_)
    refine TW.seq fun Y14 hY14 => ?_
    refine TW.region ?_
    refine TL.bo (b := b3) (cs := octL (sgH H i)) (by repeat (first | exact Pick.hd | apply Pick.tl)) rfl ?_
    refine TL.p (Pu.lds ty_ag78) ?_
    first | refine TL.st ty_sz78 ?_ | refine TL.se ty_sz78 ?_
    refine TL.p Pu.as ?_
    refine TL.nil ?_
    refine TQ.thenN (hY14 _ _ ?_)
    refine TW.ret ?_
    refine TQ.ret Try.results31 rfl ((RV.cs ty_ag78 (.tmp rfl .nil))) ?_
    have hgood : marksB H i = true := allB_iff.2 hm
    exact fun w hw => ⟨⟨sgH H i, fun _ _ _ => rfl⟩, by show _ = Ending.returned (Value.tuple #[Value.agg (octL (sgH H i)).toArray, Value.bool (marksB H i)]); rw [hgood]; rfl, hw.sub KSub.nil⟩
end Go.Proofs.Ytlphecckplndnaa
namespace Go.Proofs.Ytlphecckplndnaa
set_option linter.all false
set_option linter.unusedVariables false
set_option linter.unusedSimpArgs false
open Go.RowKit
section
variable {c : Cx} {F : Fr} {K K' : List Fact}
theorem TW.seqD {Q : Exit → Act → World → Prop} {x y : Code} (h : ∀ Y : Act → World → Prop, (∀ (c2 : Cx) (F : Fr) (K : List Fact), TW c2 y Q F K → (hP : c2.P = c.P := by rfl) → TQ c2 (fun _ => Y) .normal F K) → TW c x (Exit.then Y Q) F K) : TW c (.seq x y) Q F K := fun a w hF hK =>
  wp_seq (h (y.wp c.P Q) (fun c2 F K h hP a w h1 h2 => hP ▸ h a w h1 h2) a w hF hK)
end
end Go.Proofs.Ytlphecckplndnaa
namespace Go.Proofs.Ytlphecckplndnaa
set_option linter.all false
set_option linter.unusedVariables false
set_option linter.unusedSimpArgs false
open Go.RowKit
theorem line_any {w : World} {bh : Nat} {i : Int} : CallsK Try.prog 22 #[.pointer (some ⟨bh, 0, none⟩), .int .i64 i] [] w (Nat × Nat) (fun x => .func (.func 34) #[] #[.pointer (some ⟨x.1, 0, none⟩), .pointer (some ⟨x.2, 0, none⟩)]) (fun x => [.blk x.1 3 [.int .i64 i], .blk x.2 51 [.pointer (some ⟨bh, 0, none⟩)]]) := by
  refine K_enter (S := []) (K := []) Try.func22 rfl Try.ntmps22 rfl (Sat.start _) ?_
  refine TW.seq fun Y1 hY1 => ?_
  refine TW.region ?_
  refine TL.m Mk.bx ?_
  intro b1
  refine TL.m Mk.bx ?_
  intro b2
  refine TL.p Pu.as ?_
  refine TL.nil ?_
  refine TQ.thenN (hY1 _ _ ?_)
  refine TW.seq fun Y2 hY2 => ?_
  refine TW.region ?_
  refine TL.p Pu.fn ?_
  refine TL.p Pu.as ?_
  refine TL.nil ?_
  refine TQ.thenN (hY2 _ _ ?_)
  refine TW.ret ?_
  refine TQ.ret Try.results22 rfl ((.tmp rfl .nil)) ?_
  exact fun w hw => ⟨(b2, b1), rfl, hw.sub (by repeat (first | exact KSub.nil | refine KSub.cons (by repeat (first | exact Pick.hd | apply Pick.tl)) ?_))⟩
def linM (bi bp bh : Nat) (i : Int) : List Fact := [.blk bi 3 [.int .i64 i], .blk bp 51 [.pointer (some ⟨bh, 0, none⟩)]]
set_option maxRecDepth 100000 in
set_option maxHeartbeats 1000000 in
theorem line1_iter {f : Nat → Int} {n i N bi bp bh cm : Nat} {Am : Option Addr} {va vm vk : Value} {S : List Nat} {W0 : World} {R : Type} {J : Nat → R → List Fact} (hoB : OldB W0 bh [va, vm, .slice Am n cm, vk]) (hSb : Apart S (some ⟨bh, 0, none⟩)) (hoM : RdR W0 1 Am n (fun j => [.int .i64 (f j)])) (hA : Apart S Am) (hf : Mo f n) (hi : i < n)
    (hN : (N = depH f n i ∧ upH f i n < 0) ∨ (0 ≤ upH f i n ∧ ∀ X r w, ¬ Sat S W0 (X ++ J N r) w)) :
    IterR Try.prog 34 [.pointer (some ⟨bi, 0, none⟩), .pointer (some ⟨bp, 0, none⟩)] (linM bi bp bh i) Unit (fun q _ => [.int .i64 (upH f i q)]) (fun q _ => linM bi bp bh (upH f i q)) (fun q _ => linM bi bp bh (upH f i q)) N [] S W0 R J := by
  intro lY Rx Jx r0 W hS hround
  have hbd := upH_bd hf hi
  refine K_enterW (S := S) (K := .blk bi 3 [.int .i64 (i : Int)] :: .blk bp 51 [.pointer (some ⟨bh, 0, none⟩)] :: J 0 r0) Try.func34 rfl Try.ntmps34 rfl hS ?_
  refine TW.block ?_
  refine TW.loop2 (fun (q : Nat) (r : R) => [(0, .func (.yield lY) #[] #[]), (1, .pointer (some ⟨bi, 0, none⟩)), (2, .pointer (some ⟨bp, 0, none⟩))]) (fun q r => .blk bi 3 [.int .i64 (upH f i q)] :: .blk bp 51 [.pointer (some ⟨bh, 0, none⟩)] :: J q r) (fun q r => q ≤ N ∧ ∀ t, t < q → 0 ≤ upH f i t) (fun q r => N - q) 0 r0 (by repeat (first | exact trivial | refine ⟨rfl, ?_⟩ | refine ⟨trivial, ?_⟩)) ?_ ?_ ?_
  · exact (by repeat (first | exact KSub.nil | refine KSub.cons (by repeat (first | exact Pick.hd | apply Pick.tl)) ?_ | exact KSub.refl _ | refine KSub.drop ?_))
  · exact ⟨Nat.zero_le _, fun t ht => by omega⟩
  rintro q r ⟨hq, hup⟩ Z0 hZ0
  have hbq := hbd q
  by_cases hqN : q = N ∧ 0 ≤ upH f i n
  · rcases hN with ⟨_, h9⟩ | ⟨_, h9⟩
    · have := hqN.2; omega
    · obtain ⟨rfl, _⟩ := hqN
      exact fun a w hF hK => absurd hK (h9 [.blk bi 3 [.int .i64 (upH f i q)], .blk bp 51 [.pointer (some ⟨bh, 0, none⟩)]] r w)
  refine TW.seq fun Y1 hY1 => ?_
  refine TW.seq fun Y2 hY2 => ?_
  refine TW.region ?_
  refine TL.p (by first | exact (Pu.ld ty_sc3) | exact (Pu.ldo ty_sc3)) ?_
  refine TL.p Pu.ge ?_
  refine TL.nil ?_
  refine TQ.thenN (hY2 _ _ ?_)
  refine TW.cond rfl (fun hc0 => ?_) (fun hc0 => ?_)
  · try simp only [decide_eq_true_eq, decide_eq_false_iff_not, Bool.not_eq_true', Bool.not_eq_false', Bool.and_eq_true, Bool.or_eq_true, Bool.and_eq_false_iff, Bool.or_eq_false_iff, Int.not_lt, Int.not_le] at hc0
    have hlt : q < N := by
      rcases hN with ⟨h8, h9⟩ | ⟨h8, _⟩
      · have h7 := dep_end h9
        rw [← h8] at h7
        by_cases e : q = N
        · subst e; omega
        · omega
      · by_cases e : q = N
        · exact absurd ⟨e, h8⟩ hqN
        · omega
    have hnx : upH f i (q + 1) = f (upH f i q).toNat := if_neg (by omega)
    refine TW.skip ?_
    refine TQ.thenN (hY1 _ _ ?_)
    refine TW.seq fun Y3 hY3 => ?_
    refine TW.block ?_
    refine TW.seq fun Y4 hY4 => ?_
    refine TW.regionI ?_
    refine TLi.op (fun U1 hU1 => ?_) (by rintro ⟨_, _, h⟩; first | exact h | (obtain ⟨⟨_, h⟩, _⟩ := h; cases h) | cases h)
    refine TL.p Pu.mv ?_
    refine TL.nil ?_
    refine TQ.nxt (hU1 _ _ ?_)
    refine TLi.op (fun U2 hU2 => ?_) (by rintro ⟨_, _, h⟩; first | exact h | (obtain ⟨⟨_, h⟩, _⟩ := h; cases h) | cases h)
    refine TL.p (by first | exact (Pu.ld ty_sc3) | exact (Pu.ldo ty_sc3)) ?_
    refine TL.nil ?_
    refine TQ.nxt (hU2 _ _ ?_)
    refine TLi.yi rfl rfl (fun w hw => by
        exact hround q () r w hlt hw) ?_ ?_
    · intro r'
      refine TLi.op (fun U3 hU3 => ?_) (by rintro ⟨_, _, h⟩; first | exact h | (obtain ⟨⟨_, h⟩, _⟩ := h; cases h) | cases h)
      refine TL.p Pu.no ?_
      refine TL.nil ?_
      refine TQ.nxt (hU3 _ _ ?_)
      refine TLi.nil ?_
      refine TQ.thenN (hY4 _ _ ?_)
      refine TW.condF rfl rfl ?_
      refine TW.skip ?_
      refine TQ.blkN ?_
      refine TQ.thenN (hY3 _ _ ?_)
      refine TW.dw 7 ?_
      refine RK.tk (by first | exact (Pu.ld ty_sc51) | exact (Pu.ldo ty_sc51)) ?_
      refine RK.tk (by first | exact Pu.nn | exact Pu.nc) ?_
      refine RK.tk (by first | exact Pu.fb ty_fa63_2 | exact Pu.fe ty_fa63_2) ?_
      refine RK.tk (by first | exact (Pu.ld ty_sc31) | exact (Pu.ldo ty_sc31)) ?_
      refine RK.tk (by first | exact (Pu.ld ty_sc3) | exact (Pu.ldo ty_sc3)) ?_
      refine RK.tk (Pu.el (q := (upH f i q).toNat) ty_et31 (hk := rfl)) ?_
      refine RK.tk (by first | exact (Pu.ld ty_sc3) | exact (Pu.ldo ty_sc3)) ?_
      refine RK.ch [] ?_ trivial
      refine WK.n ?_
      first | refine TL.st ty_sz3 ?_ | refine TL.se ty_sz3 ?_
      refine TL.nil ?_
      refine TQ.thenN (hZ0 (q + 1) r' _ _ ?_ ?_ (by repeat (first | exact trivial | refine ⟨rfl, ?_⟩ | refine ⟨trivial, ?_⟩)) ?_)
      · refine ⟨by omega, fun t ht => ?_⟩
        by_cases e : t = q
        · subst e; omega
        · exact hup t (by omega)
      · exact (by first | omega | (simp only []; omega) | (simp; omega))
      · rw [hnx]; exact KSub.refl _
    · intro x
      refine TLi.op (fun U4 hU4 => ?_) (by rintro ⟨_, _, h⟩; first | exact h | (obtain ⟨⟨_, h⟩, _⟩ := h; cases h) | cases h)
      refine TL.p Pu.no ?_
      refine TL.nil ?_
      refine TQ.nxt (hU4 _ _ ?_)
      refine TLi.nil ?_
      refine TQ.thenN (hY4 _ _ ?_)
      refine TW.condT rfl rfl ?_
      refine TW.ret ?_
      refine TQ.blkR ?_
      refine TQ.thenR ?_
      refine TQ.thenR ?_
      refine TQ.blkR ?_
      refine TQ.ret Try.results34 rfl (.nil) ?_
      exact fun w hw => ⟨⟨_, rfl⟩, .inr ⟨x, hw.sub (KSub.dropL _ (KSub.refl _))⟩⟩
  · try simp only [decide_eq_true_eq, decide_eq_false_iff_not, Bool.not_eq_true', Bool.not_eq_false', Bool.and_eq_true, Bool.or_eq_true, Bool.and_eq_false_iff, Bool.or_eq_false_iff, Int.not_lt, Int.not_le] at hc0
    have hqe : q = N := by
      rcases hN with ⟨h8, h9⟩ | ⟨h8, _⟩
      · by_cases e : q = N
        · exact e
        · have := dep_in (f := f) (n := n) (i := i) (s := q) (by omega)
          omega
      · have := upH_cycle hf hi h8 q
        omega
    subst hqe
    refine TW.exit ?_
    refine TQ.thenX ?_
    refine TQ.thenX ?_
    refine TQ.blkX ?_
    refine TQ.end Try.results34 rfl (.nil) ?_
    exact fun w hw => ⟨⟨_, rfl⟩, .inl ⟨r, hw.sub (KSub.drop (KSub.drop (KSub.refl _)))⟩⟩
end Go.Proofs.Ytlphecckplndnaa
namespace Go.Proofs.Ytlphecckplndnaa
set_option linter.all false
set_option linter.unusedVariables false
set_option linter.unusedSimpArgs false
open Go.RowKit
def colD (Ds : List Nat) : List Deferred := Ds.map fun D => { target := .collected D, args := #[] }
def defK (Ds : List Nat) : List Fact := Ds.map fun D => .obj D (.deferred (some []))
section
variable {c : Cx} {Q : Exit → Act → World → Prop} {F F' : Fr} {K K' : List Fact}
theorem leaves {P : Program} {fn : Func} {R : Ending → World → Prop} {t : Array Value} {v : Value} {S : List Nat} {w0 : World} {K : List Fact} (hr : ∀ w, Sat S w0 K w → (results fn t).run P w = .ok v w) (hR : ∀ w, Sat S w0 K w → R (.returned v) w) : ∀ (Ds : List Nat) (w : World), Sat S w0 (defK Ds ++ K) w → LeavesInM Fence.wide 2 P fn t R (colD Ds) .returning w
  | [], w, h => ⟨v, hr w h, hR w h⟩
  | D :: Ds, w, h => by
    have hd : w.heap[D]? = some (.deferred (some [])) := (h.holds (.obj D (.deferred (some []))) (by simp [defK])).1
    have h2 : Sat S w0 (defK Ds ++ K) (w.putObj D (.deferred none)) := (Sat.putO (o' := .deferred none) (K := defK Ds ++ K) h rfl).sub (KSub.drop (KSub.refl _))
    exact ⟨by simp, .inl ⟨D, _, rfl, run_takeDeferred hd, leaves hr hR Ds _ h2⟩⟩
theorem TQ.retMs {fn : Func} {R : Ending → World → Prop} {rs : List ResultVar} {vs : List Value} (Ds : List Nat) (K1 : List Fact) (hr : fn.results = rs.toArray) (hK : KSub K (K1 ++ defK Ds)) (hv : RV c F K1 rs vs) (h : ∀ w, Sat c.S c.w0 K1 w → R (.returned (retV vs)) w) (hD : c.D = colD Ds := by rfl) : TQ c (bodyPostM Fence.wide 2 c.P fn R) .ret F K := fun a w hF hs => by
  obtain ⟨t, ds⟩ := a
  have e : ds = colD Ds := hF.dfs.trans hD
  subst e
  exact leaves (fun w hw => hv.results hr hF hw) h Ds w ((hs.sub hK).perm List.perm_append_comm)
theorem TW.loopM {ι : Type} {x : Code} (FI : ι → Fr) (KI : ι → List Nat → List Fact) (p : ι → Prop) (μ : ι → Nat) (i0 : ι) (Ds0 : List Nat) (hF : fsub F (FI i0)) (hK : KSub K (KI i0 Ds0)) (hp : p i0)
    (round : ∀ i, p i → ∀ Ds, ∀ Y : Act → World → Prop, (∀ j Ds' F K, p j → μ j < μ i → fsub F (FI j) → KSub K (KI j Ds') → TQ { c with D := colD Ds' } (fun _ => Y) .normal F K) → TW { c with D := colD Ds } x (Exit.then Y Q) (FI i) (KI i Ds)) (hD : c.D = colD Ds0 := by rfl) : TW c (.loop x) Q F K := fun a w hf hk => by
  refine wp_loop_ghost (fun k a w => ∃ i Ds, μ i = k ∧ p i ∧ FS c.n (colD Ds) (FI i) a ∧ Sat c.S c.w0 (KI i Ds) w) (μ i0) ⟨i0, Ds0, rfl, hp, hD ▸ hf.sub (fsub_spec hF), hk.sub hK⟩ ?_
  rintro k a w ⟨i, Ds, rfl, hpi, hf, hk⟩
  refine round i hpi Ds _ (fun j Ds' F K hpj hj hF hK a w h1 h2 => ?_) a w hf hk
  exact ⟨μ j, hj, j, Ds', rfl, hpj, h1.sub (fsub_spec hF), h2.sub hK⟩
theorem TW.loopM1 {ι1 : Type} {x : Code} (FI : ι1 → Fr) (KI : ι1 → List Nat → List Fact) (p : ι1 → Prop) (μ : ι1 → Nat) (i1 : ι1) (Ds0 : List Nat) (hF : fsub F (FI i1)) (hK : KSub K (KI i1 Ds0)) (hp : p i1)
    (round : ∀ i1, p i1 → ∀ Ds, ∀ Y : Act → World → Prop, (∀ j1 Ds' F K, p j1 → μ j1 < μ i1 → fsub F (FI j1) → KSub K (KI j1 Ds') → TQ { c with D := colD Ds' } (fun _ => Y) .normal F K) → TW { c with D := colD Ds } x (Exit.then Y Q) (FI i1) (KI i1 Ds)) (hD : c.D = colD Ds0 := by rfl) : TW c (.loop x) Q F K :=
  TW.loopM FI KI p μ i1 Ds0 hF hK hp round hD
theorem TW.loopM3 {ι1 ι2 ι3 : Type} {x : Code} (FI : ι1 → ι2 → ι3 → Fr) (KI : ι1 → ι2 → ι3 → List Nat → List Fact) (p : ι1 → ι2 → ι3 → Prop) (μ : ι1 → ι2 → ι3 → Nat) (i1 : ι1) (i2 : ι2) (i3 : ι3) (Ds0 : List Nat) (hF : fsub F (FI i1 i2 i3)) (hK : KSub K (KI i1 i2 i3 Ds0)) (hp : p i1 i2 i3)
    (round : ∀ i1 i2 i3, p i1 i2 i3 → ∀ Ds, ∀ Y : Act → World → Prop, (∀ j1 j2 j3 Ds' F K, p j1 j2 j3 → μ j1 j2 j3 < μ i1 i2 i3 → fsub F (FI j1 j2 j3) → KSub K (KI j1 j2 j3 Ds') → TQ { c with D := colD Ds' } (fun _ => Y) .normal F K) → TW { c with D := colD Ds } x (Exit.then Y Q) (FI i1 i2 i3) (KI i1 i2 i3 Ds)) (hD : c.D = colD Ds0 := by rfl) : TW c (.loop x) Q F K :=
  TW.loopM (ι := ι1 × ι2 × ι3) (fun t => FI t.1 t.2.1 t.2.2) (fun t => KI t.1 t.2.1 t.2.2) (fun t => p t.1 t.2.1 t.2.2) (fun t => μ t.1 t.2.1 t.2.2) (i1, i2, i3) Ds0 hF hK hp (fun t hp Ds Y hY => round t.1 t.2.1 t.2.2 hp Ds Y fun j1 j2 j3 => hY (j1, j2, j3)) hD
theorem TW.np {x : Code} (h : TW c x (NP Q) F K) : TW c x Q F K := fun a w hF hK => wp_mono (h a w hF hK) fun e a w he => by
  cases e with
  | panic ch => exact he.elim
  | _ => exact he
theorem TQ.npN (h : TQ c Q .normal F K) : TQ c (NP Q) .normal F K := h
theorem TW.rebaseK {x : Code} (K1 K2 : List Fact) (hp : KSub K (K1 ++ K2)) (h : ∀ w1, Sat c.S c.w0 (K1 ++ K2) w1 → TW ⟨c.P, c.n, c.D, feet K1, w1⟩ x Q F K1) : TW c x Q F K := fun a w hF hK => by
  have hs := hK.sub hp
  exact h w hs a w hF (Has.sat ⟨K2, List.Perm.refl _⟩ hs).self
end
theorem Sat.apartO {S : List Nat} {w0 w : World} {K1 K2 : List Fact} {A : Option Addr} {n c : Nat} {E : TypeId} {sz : Nat} {r : Nat → List Value} (h : Sat S w0 (K1 ++ K2) w) (hm : .own A n c E sz r ∈ K2) : Apart (feet K1) A := fun b hb hm1 => by
  have hnd := List.nodup_append.1 (feet_append K1 K2 ▸ h.nd)
  cases A with
  | none => cases hb
  | some a =>
    have e : a.block = b := by simpa using hb
    exact hnd.2.2 b hm1 b (List.mem_flatMap.2 ⟨_, hm, by simp [Fact.foot, e]⟩) rfl
theorem Sat.apartB {S : List Nat} {w0 w : World} {K1 K2 : List Fact} {b : Nat} {t : TypeId} {cs : List Value} (h : Sat S w0 (K1 ++ K2) w) (hm : .blk b t cs ∈ K2) : Apart (feet K1) (some ⟨b, 0, none⟩) := fun b' hb hm1 => by
  have hnd := List.nodup_append.1 (feet_append K1 K2 ▸ h.nd)
  have e : b = b' := by simpa using hb
  subst e
  exact hnd.2.2 b hm1 b (List.mem_flatMap.2 ⟨_, hm, by simp [Fact.foot]⟩) rfl
end Go.Proofs.Ytlphecckplndnaa
