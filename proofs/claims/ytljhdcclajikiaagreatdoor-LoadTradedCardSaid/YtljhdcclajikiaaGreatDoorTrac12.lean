/-
  Part 12 of the proof of loadTraded_holds: declarations of several texts, in build order. No condition on a program.
-/
import Derived.Test.YtljhdcclajikiaaGreatDoorTrac11
import Derived.Test.YtljhdcclajikiaaGreatDoorTrac06
import Derived.Test.YtljhdcclajikiaaGreatDoorTrac05
import Derived.Test.YtljhdcclajikiaaGreatDoorTrac03
namespace Go.Proofs.YtljhdcclajikiaaGreatDoor
set_option linter.all false
set_option linter.unusedVariables false
set_option linter.unusedSimpArgs false
open Go.RowKit
section
variable {M : List (Int × Value)} {x y : Int} {v : Value}
theorem mlook_none : ∀ {M : List (Int × Value)}, mlook x M = none ↔ x ∉ M.map (·.1)
  | [] => by simp [mlook]
  | (k, u) :: l => by
    by_cases h : x = k
    · simp [mlook, h]
    · simp [mlook, h, mlook_none (M := l)]
theorem mlook_put : ∀ {M : List (Int × Value)}, mlook y (mput x v M) = if y = x then some v else mlook y M
  | [] => by simp [mput, mlook]
  | (k, u) :: l => by
    by_cases h : x = k
    · subst h
      by_cases h2 : y = x <;> simp [mput, mlook, h2]
    · by_cases h2 : y = k
      · subst h2
        have h3 : y ≠ x := fun e => h e.symm
        simp [mput, mlook, h, h3]
      · simp [mput, mlook, h, h2, mlook_put (M := l)]
theorem keys_put : ∀ {M : List (Int × Value)}, (mput x v M).map (·.1) = if x ∈ M.map (·.1) then M.map (·.1) else M.map (·.1) ++ [x]
  | [] => by simp [mput]
  | (k, u) :: l => by
    by_cases h : x = k
    · simp [mput, h]
    · have ih := keys_put (M := l)
      by_cases h2 : x ∈ l.map (·.1)
      · rw [if_pos h2] at ih
        rw [if_pos (by rw [List.map_cons]; exact List.mem_cons_of_mem _ h2)]
        simp only [mput, h, if_false, List.map_cons, ih]
      · rw [if_neg h2] at ih
        have h3 : x ∉ ((k, u) :: l).map (·.1) := by
          rw [List.map_cons, List.mem_cons]
          rintro (e | e)
          · exact h e
          · exact h2 e
        rw [if_neg h3]
        simp only [mput, h, if_false, List.map_cons, ih, List.cons_append]
theorem mem_put : y ∈ (mput x v M).map (·.1) ↔ y = x ∨ y ∈ M.map (·.1) := by
  rw [keys_put]
  split
  · rename_i h
    constructor
    · exact .inr
    · rintro (rfl | h2)
      · exact h
      · exact h2
  · rw [List.mem_append, List.mem_singleton]; exact Or.comm
theorem nodup_put (h : (M.map (·.1)).Nodup) : ((mput x v M).map (·.1)).Nodup := by
  rw [keys_put]
  split
  · exact h
  · rename_i h2
    refine List.nodup_append.2 ⟨h, by simp, fun a ha b hb e => ?_⟩
    subst e
    obtain rfl := List.mem_singleton.1 hb
    exact h2 ha
theorem sub_del : ∀ {M : List (Int × Value)}, (mdel x M).Sublist M
  | [] => List.Sublist.refl _
  | (k, u) :: l => by
    by_cases h : x = k
    · simp [mdel, h]
    · simp [mdel, h, sub_del (M := l)]
theorem mem_del : ∀ {M : List (Int × Value)}, (M.map (·.1)).Nodup → (y ∈ (mdel x M).map (·.1) ↔ y ≠ x ∧ y ∈ M.map (·.1))
  | [], _ => by simp [mdel]
  | (k, u) :: l, h => by
    rw [List.map_cons, List.nodup_cons] at h
    have ih := mem_del h.2
    by_cases e : x = k
    · subst e
      simp only [mdel, if_true, List.map_cons, List.mem_cons]
      constructor
      · intro h2; exact ⟨fun e => h.1 (e ▸ h2), .inr h2⟩
      · rintro ⟨h1, h2 | h2⟩
        · exact absurd h2 h1
        · exact h2
    · simp only [mdel, e, if_false, List.map_cons, List.mem_cons, ih]
      constructor
      · rintro (rfl | ⟨a, b⟩)
        · exact ⟨fun h => e h.symm, .inl rfl⟩
        · exact ⟨a, .inr b⟩
      · rintro ⟨a, rfl | b⟩
        · exact .inl rfl
        · exact .inr ⟨a, b⟩
theorem mlook_del : ∀ {M : List (Int × Value)}, (M.map (·.1)).Nodup → y ≠ x → mlook y (mdel x M) = mlook y M
  | [], _, _ => rfl
  | (k, u) :: l, h, hy => by
    rw [List.map_cons, List.nodup_cons] at h
    have ih := mlook_del h.2 hy
    by_cases e : x = k
    · subst e
      simp [mdel, mlook, hy]
    · by_cases e2 : y = k
      · simp [mdel, mlook, e, e2]
      · simp [mdel, mlook, e, e2, ih]
def MP (M : List (Int × Value)) (n : Nat) (R : Int → Nat → Prop) : Prop := (M.map (·.1)).Nodup ∧ (∀ x, x ∈ M.map (·.1) ↔ ∃ s, s < n ∧ R x s) ∧ ∀ x s, s < n → R x s → mlook x M = some (.int .i64 (s : Int))
variable {n S : Nat} {R R' : Int → Nat → Prop}
theorem MP.start (h : ∀ x s, s < n → ¬ R x s) : MP [] n R := ⟨List.nodup_nil, fun x => ⟨fun h => (by cases h), fun ⟨s, hs, hr⟩ => absurd hr (h x s hs)⟩, fun x s hs hr => absurd hr (h x s hs)⟩
theorem MP.congr (h : MP M n R) (e : ∀ x s, s < n → (R x s ↔ R' x s)) : MP M n R' :=
  ⟨h.1, fun x => (h.2.1 x).trans ⟨fun ⟨s, hs, hr⟩ => ⟨s, hs, (e x s hs).1 hr⟩, fun ⟨s, hs, hr⟩ => ⟨s, hs, (e x s hs).2 hr⟩⟩, fun x s hs hr => h.2.2 x s hs ((e x s hs).2 hr)⟩
theorem MP.none (h : MP M n R) (hx : ∀ s, s < n → ¬ R x s) : mlook x M = none := mlook_none.2 fun hm => by
  obtain ⟨s, hs, hr⟩ := (h.2.1 x).1 hm
  exact hx s hs hr
theorem MP.put (h : MP M n R) (hS : S < n) : MP (mput x (.int .i64 (S : Int)) M) n (fun y s => if y = x then s = S else R y s) := by
  refine ⟨nodup_put h.1, fun y => ?_, fun y s hs hr => ?_⟩
  · rw [mem_put]
    by_cases e : y = x
    · simp only [e, if_true, true_or, true_iff]
      exact ⟨S, hS, rfl⟩
    · simp only [e, if_false, false_or]
      exact h.2.1 y
  · rw [mlook_put]
    by_cases e : y = x
    · rw [if_pos e]
      have hr2 : s = S := by simpa [e] using hr
      rw [hr2]
    · rw [if_neg e]
      exact h.2.2 y s hs (by simpa [e] using hr)
theorem MP.del (h : MP M n R) : MP (mdel x M) n (fun y s => y ≠ x ∧ R y s) := by
  refine ⟨h.1.sublist (sub_del.map _), fun y => ?_, fun y s hs hr => ?_⟩
  · rw [mem_del h.1, h.2.1 y]
    exact ⟨fun ⟨a, s, hs, hr⟩ => ⟨s, hs, a, hr⟩, fun ⟨s, hs, a, hr⟩ => ⟨a, s, hs, hr⟩⟩
  · rw [mlook_del h.1 hr.1]
    exact h.2.2 y s hs hr.2
end
def Sep (T : Nat → List Int) (n : Nat) : Prop := (∀ s, s < n → (T s).Nodup) ∧ ∀ x s s', s < n → s' < n → x ∈ T s → x ∈ T s' → s = s'
theorem mem_flat {T : Nat → List Int} {x : Int} : ∀ {n : Nat}, x ∈ flatT T n ↔ ∃ s, s < n ∧ x ∈ T s
  | 0 => ⟨fun h => (by cases h), fun ⟨s, h, _⟩ => absurd h (Nat.not_lt_zero s)⟩
  | n + 1 => by
    simp only [flatT, List.mem_append, mem_flat (n := n)]
    constructor
    · rintro (⟨s, a, b⟩ | h)
      · exact ⟨s, by omega, b⟩
      · exact ⟨n, Nat.lt_succ_self n, h⟩
    · rintro ⟨s, a, b⟩
      by_cases e : s = n
      · exact .inr (e ▸ b)
      · exact .inl ⟨s, by omega, b⟩
theorem sep_flat {T : Nat → List Int} : ∀ {n : Nat}, Sep T n ↔ (flatT T n).Nodup
  | 0 => ⟨fun _ => List.nodup_nil, fun _ => ⟨fun s h => absurd h (Nat.not_lt_zero s), fun _ s _ h => absurd h (Nat.not_lt_zero s)⟩⟩
  | n + 1 => by
    simp only [flatT]
    rw [List.nodup_append, ← sep_flat (n := n)]
    constructor
    · rintro ⟨h1, h2⟩
      refine ⟨⟨fun s hs => h1 s (by omega), fun x s s' hs hs' => h2 x s s' (by omega) (by omega)⟩, h1 n (by omega), fun a ha b hb e => ?_⟩
      subst e
      obtain ⟨s, hs, hm⟩ := mem_flat.1 ha
      have := h2 a s n (by omega) (by omega) hm hb
      omega
    · rintro ⟨⟨h1, h2⟩, h3, h4⟩
      refine ⟨fun s hs => ?_, fun x s s' hs hs' hm hm' => ?_⟩
      · by_cases e : s = n
        · exact e ▸ h3
        · exact h1 s (by omega)
      · by_cases e : s = n
        · by_cases e' : s' = n
          · omega
          · subst e
            exact absurd rfl (h4 x (mem_flat.2 ⟨s', by omega, hm'⟩) x hm)
        · by_cases e' : s' = n
          · subst e'
            exact absurd rfl (h4 x (mem_flat.2 ⟨s, by omega, hm⟩) x hm')
          · exact h2 x s s' (by omega) (by omega) hm hm'
theorem MP.len {M : List (Int × Value)} {n : Nat} {T : Nat → List Int} (h : MP M n (fun x s => x ∈ T s)) (hT : Sep T n) : M.length = (flatT T n).length := by
  have := nodup_len h.1 (sep_flat.1 hT) fun x => (h.2.1 x).trans mem_flat.symm
  rwa [List.length_map] at this
end Go.Proofs.YtljhdcclajikiaaGreatDoor
namespace Go.Proofs.YtljhdcclajikiaaGreatDoor
set_option linter.all false
set_option linter.unusedVariables false
set_option linter.unusedSimpArgs false
open Go.RowKit
section
variable {M : List (Int × Value)} {n S k m nP : Nat} {T : Nat → List Int} {F : List Int} {P : Nat → Nat → Int}
theorem mem_take_succ {L : List Int} {x : Int} (h : k < L.length) : x ∈ L.take (k + 1) ↔ x ∈ L.take k ∨ x = L.getD k 0 := by
  rw [take_succ h, List.mem_append, List.mem_singleton]
def R1 (T : Nat → List Int) (S k : Nat) (x : Int) (s : Nat) : Prop := x ∈ T s ∧ (s < S ∨ s = S ∧ x ∈ (T S).take k)
theorem r1_start : MP [] n (R1 T 0 0) := MP.start fun x s _ h => by
  rcases h.2 with h2 | ⟨_, h2⟩
  · exact absurd h2 (Nat.not_lt_zero s)
  · simp at h2
theorem r1_next (hT : Sep T n) (hS : S < n) (hk : k < (T S).length) (h : MP M n (R1 T S k)) : MP (mput ((T S).getD k 0) (.int .i64 (S : Int)) M) n (R1 T S (k + 1)) :=
  (h.put hS).congr fun x s hs => by
    have hx : (T S).getD k 0 ∈ T S := mem_getD hk
    unfold R1
    rw [mem_take_succ hk]
    split
    · rename_i e
      constructor
      · rintro rfl
        exact ⟨e ▸ hx, .inr ⟨rfl, .inr e⟩⟩
      · rintro ⟨h1, _⟩
        rw [e] at h1
        exact hT.2 _ s S hs hS h1 hx
    · rename_i e
      simp only [e, or_false]
theorem r1_done (h : MP M n (R1 T S (T S).length)) : MP M n (R1 T (S + 1) 0) := h.congr fun x s _ => by
  unfold R1
  rw [List.take_length]
  simp only [List.take_zero, List.not_mem_nil, and_false, or_false]
  constructor
  · rintro ⟨h1, h2⟩
    exact ⟨h1, by omega⟩
  · rintro ⟨h1, h2⟩
    refine ⟨h1, ?_⟩
    by_cases e : s = S
    · exact .inr ⟨e, e ▸ h1⟩
    · exact .inl (by omega)
theorem r1_end (h : MP M n (R1 T n 0)) : MP M n (fun x s => x ∈ T s) := h.congr fun x s hs => ⟨fun h => h.1, fun h => ⟨h, .inl hs⟩⟩
def R2 (T : Nat → List Int) (F : List Int) (k : Nat) (x : Int) (s : Nat) : Prop := x ∈ T s ∧ x ∉ F.take k
theorem r2_start (h : MP M n (fun x s => x ∈ T s)) : MP M n (R2 T F 0) := h.congr fun x s _ => by simp [R2]
theorem r2_next (hk : k < F.length) (h : MP M n (R2 T F k)) : MP (mdel (F.getD k 0) M) n (R2 T F (k + 1)) := h.del.congr fun x s _ => by
  unfold R2
  rw [mem_take_succ hk]
  constructor
  · rintro ⟨a, b, c⟩
    exact ⟨b, fun h => h.elim c a⟩
  · rintro ⟨b, c⟩
    exact ⟨fun e => c (.inr e), b, fun h => c (.inl h)⟩
theorem mem_takeT {x : Int} {s : Nat} : x ∈ takeT F T s ↔ x ∈ T s ∧ x ∉ F := by
  unfold takeT
  rw [List.mem_filter]
  simp
theorem r2_end (h : MP M n (R2 T F F.length)) : MP M n (fun x s => x ∈ takeT F T s) := h.congr fun x s _ => by
  rw [mem_takeT]
  unfold R2
  rw [List.take_length]
theorem sep_take (h : Sep T n) : Sep (takeT F T) n := ⟨fun s hs => (h.1 s hs).sublist List.filter_sublist, fun x s s' hs hs' a b => h.2 x s s' hs hs' (mem_takeT.1 a).1 (mem_takeT.1 b).1⟩
theorem mem_putT {x : Int} {s : Nat} : x ∈ putT T P (k + 1) s ↔ x ∈ putT T P k s ∨ s = putS (P k) ∧ x = P k 0 := by
  simp only [putT, updN]
  by_cases e : s = putS (P k)
  · rw [if_pos e, mem_srt, List.mem_append, List.mem_singleton]
    simp [e]
  · rw [if_neg e]
    simp [e]
theorem mem_put_of {x : Int} {s : Nat} : ∀ {k}, x ∈ putT T P k s → x ∈ T s ∨ x ∈ toI (fun q => P q 0) k
  | 0, h => .inl h
  | k + 1, h => by
    rw [toI_succ, List.mem_append, List.mem_singleton]
    rcases mem_putT.1 h with h | ⟨_, h⟩
    · exact (mem_put_of h).imp_right .inl
    · exact .inr (.inr h)
theorem ok_facts {np : Nat} (h : okPut np m T P k = true) (hp : 0 ≤ P k 2) : P k 2 ≤ 2 ∧ putS (P k) < 3 * m ∧ 0 ≤ P k 1 ∧ P k 1 < m ∧ ∀ s, s < 3 * m → P k 0 ∉ putT T P k s := by
  unfold okPut at h
  simp only [inB5, Bool.and_eq_true, decide_eq_true_eq, Bool.not_eq_true', decide_eq_false_iff_not] at h
  obtain ⟨⟨⟨_, h2⟩, h3⟩, h4⟩ := h
  refine ⟨h4, by unfold putS; omega, by omega, by omega, fun s hs hm => h2 ?_⟩
  unfold usedP
  rw [List.mem_append]
  exact (mem_put_of hm).imp_left fun h => mem_flat.2 ⟨s, hs, h⟩
theorem r3_none {np : Nat} (h : MP M (3 * m) (fun x s => x ∈ putT T P k s)) (ho : okPut np m T P k = true) (hp : 0 ≤ P k 2) : mlook (P k 0) M = none := h.none fun s hs => (ok_facts ho hp).2.2.2.2 s hs
theorem r3_next {np : Nat} (h : MP M (3 * m) (fun x s => x ∈ putT T P k s)) (ho : okPut np m T P k = true) (hp : 0 ≤ P k 2) : MP (mput (P k 0) (.int .i64 (putS (P k) : Int)) M) (3 * m) (fun x s => x ∈ putT T P (k + 1) s) :=
  (h.put (ok_facts ho hp).2.1).congr fun x s hs => by
    rw [mem_putT]
    split
    · rename_i e
      have h9 := (ok_facts ho hp).2.2.2.2 s hs
      subst e
      simp [h9]
    · rename_i e
      simp [e]
theorem sep_put {np : Nat} (hT : Sep T (3 * m)) (ho : ∀ k, k < nP → okPut np m T P k = true) (hp : ∀ k, k < nP → 0 ≤ P k 2) : ∀ k, k ≤ nP → Sep (putT T P k) (3 * m)
  | 0, _ => hT
  | k + 1, hk => by
    have ih := sep_put hT ho hp k (by omega)
    have hf := (ok_facts (ho k (by omega)) (hp k (by omega))).2.2.2.2
    refine ⟨fun s hs => ?_, fun x s s' hs hs' a b => ?_⟩
    · simp only [putT, updN]
      split
      · rename_i e
        refine (srt_perm _).nodup_iff.2 (List.nodup_append.2 ⟨ih.1 _ (e ▸ hs), by simp, fun a ha b hb e2 => ?_⟩)
        obtain rfl := List.mem_singleton.1 hb
        subst e2
        exact hf _ (e ▸ hs) ha
      · exact ih.1 s hs
    · rcases mem_putT.1 a with a | ⟨a, a2⟩ <;> rcases mem_putT.1 b with b | ⟨b, b2⟩
      · exact ih.2 x s s' hs hs' a b
      · subst b2; exact absurd a (hf s hs)
      · subst a2; exact absurd b (hf s' hs')
      · rw [a, b]
theorem asc_put (h : (putT T P k S).Nodup) (hm : (T S).Pairwise (· ≤ ·)) : Asc (putT T P k S) := by
  have h2 := (putT_form (P := P) hm k).2
  have := asc_srt h
  rwa [srt_uniq (List.Perm.refl _) h2] at this
def sw (s : Nat) : Nat := if s % 3 = 0 then s + 1 else if s % 3 = 1 then s - 1 else s
theorem sw_lt {s : Nat} (h : s < 3 * m) : sw s < 3 * m := by unfold sw; split <;> (try split) <;> omega
theorem sw_sw {s : Nat} : sw (sw s) = s := by
  unfold sw
  by_cases h0 : s % 3 = 0
  · rw [if_pos h0, if_neg (by omega), if_pos (by omega)]; omega
  · by_cases h1 : s % 3 = 1
    · rw [if_neg h0, if_pos h1, if_pos (by omega)]; omega
    · rw [if_neg h0, if_neg h1, if_neg h0, if_neg h1]
theorem sw_iff {s t : Nat} : sw s = t ↔ s = sw t := ⟨fun h => by rw [← h, sw_sw], fun h => by rw [h, sw_sw]⟩
def R4 (T : Nat → List Int) (L : List Int) (k : Nat) (x : Int) (s : Nat) : Prop := (x ∈ L.take k ∧ x ∈ T (sw s)) ∨ (x ∉ L.take k ∧ x ∈ T s)
theorem r4_start {L : List Int} (h : MP M n (fun x s => x ∈ T s)) : MP M n (R4 T L 0) := h.congr fun x s _ => by simp [R4]
theorem getD_not_take {L : List Int} (hL : Asc L) (hk : k < L.length) : L.getD k 0 ∉ L.take k := fun h => by
  obtain ⟨j, hj, _, e⟩ := mem_take_getD h
  have := asc_getD hL hj hk
  omega
theorem r4_get {L : List Int} {s0 : Nat} (hL : Asc L) (hk : k < L.length) (h : MP M n (R4 T L k)) (hs : s0 < n) (hm : L.getD k 0 ∈ T s0) : mlook (L.getD k 0) M = some (.int .i64 (s0 : Int)) :=
  h.2.2 _ s0 hs (.inr ⟨getD_not_take hL hk, hm⟩)
theorem r4_next {L : List Int} {s0 : Nat} (hT : Sep T (3 * m)) (hL : Asc L) (hk : k < L.length) (h : MP M (3 * m) (R4 T L k)) (hs : s0 < 3 * m) (hm : L.getD k 0 ∈ T s0) : MP (mput (L.getD k 0) (.int .i64 (sw s0 : Int)) M) (3 * m) (R4 T L (k + 1)) :=
  (h.put (sw_lt hs)).congr fun x s hs' => by
    unfold R4
    rw [mem_take_succ hk]
    split
    · rename_i e
      have hx : x ∈ T s0 := e ▸ hm
      constructor
      · intro h1
        refine .inl ⟨.inr e, ?_⟩
        rw [h1, sw_sw]; exact hx
      · rintro (⟨_, h1⟩ | ⟨h1, _⟩)
        · exact sw_iff.1 (hT.2 x _ _ (sw_lt hs') hs h1 hx)
        · exact absurd (.inr e) h1
    · rename_i e
      simp only [e, or_false]
end
end Go.Proofs.YtljhdcclajikiaaGreatDoor
namespace Go.Proofs.YtljhdcclajikiaaGreatDoor
set_option linter.all false
set_option linter.unusedVariables false
set_option linter.unusedSimpArgs false
open Go.RowKit
def ldl (T : Nat → List Int) (i j : Nat) : Nat := (T (3 * i + j)).length
def ldv (T : Nat → List Int) (i j k : Nat) : Int := (T (3 * i + j)).getD k 0
theorem ld_toI {T : Nat → List Int} {i j : Nat} : toI (ldv T i j) (ldl T i j) = T (3 * i + j) := toI_getD _
theorem ld_T0 {T : Nat → List Int} {s : Nat} : T0 (ldl T) (ldv T) s = T s := by
  have h : s = 3 * (s / 3) + s % 3 := by omega
  unfold T0
  rw [ld_toI, ← h]
theorem sep_three {T : Nat → List Int} {i m : Nat} (h : Sep T (3 * m)) (hi : i < m) : (T (3 * i) ++ T (3 * i + 1) ++ T (3 * i + 2)).Nodup := by
  refine List.nodup_append.2 ⟨List.nodup_append.2 ⟨h.1 _ (by omega), h.1 _ (by omega), fun a ha b hb e => ?_⟩, h.1 _ (by omega), fun a ha b hb e => ?_⟩
  · subst e
    have := h.2 a _ _ (by omega) (by omega) ha hb
    omega
  · subst e
    rcases List.mem_append.1 ha with ha | ha
    · have := h.2 a _ _ (by omega) (by omega) ha hb
      omega
    · have := h.2 a _ _ (by omega) (by omega) ha hb
      omega
theorem lists_check {np m : Nat} {pk : Nat → Nat → Int} {T : Nat → List Int} (hp : packsOk np pk = true) (hm : m ≤ 8) (hT : Sep T (3 * m)) (ha : ∀ s, s < 3 * m → Asc (T s) ∧ InxL (T s) np) (hc : ∀ i, i < m → cnt3 T i ≤ 10) :
    checkV np pk m (ldl T) (ldv T) = 0 ∧ ∀ i, i < m → check1 np pk (ldl T i) (ldv T i) = 0 := by
  have h1 : ∀ i, i < m → tot (ldl T i) 3 ≤ 10 := fun i hi => by rw [tot3]; exact hc i hi
  refine ⟨?_, fun i hi => check1_iff.2 ⟨hp, fun j hj => by rw [ld_toI]; exact ha _ (by omega), h1 i hi, by rw [ld_toI, ld_toI, ld_toI]; exact sep_three hT hi⟩⟩
  unfold checkV
  rw [if_pos hp, if_pos]
  rw [ties_dup]
  unfold dupOk
  simp only [Bool.and_eq_true, decide_eq_true_eq, allB_iff]
  refine ⟨fun i hi => ?_, by omega, ?_⟩
  · unfold tieOk
    simp only [Bool.and_eq_true, decide_eq_true_eq, allB_iff]
    exact ⟨fun j hj => allB_iff.1 (rise_asc.2 (by rw [ld_toI]; exact ha _ (by omega))), h1 i hi⟩
  · rw [← flatT_held]
    have e : T0 (ldl T) (ldv T) = T := funext fun s => ld_T0
    rw [e]
    exact sep_flat.1 hT
section
variable {r0 r1 : Nat → Int} {b : Int} {T : Nat → List Int} {m : Nat}
theorem tr3_val : ∀ {m i : Nat}, i < m → tr3 r0 r1 b T m (3 * i) = mvd (T (3 * i)) (T (3 * i + 1)) (trB r0 r1 b T i).1 ∧ tr3 r0 r1 b T m (3 * i + 1) = mvd (T (3 * i + 1)) (T (3 * i)) (trB r0 r1 b T i).1 ∧ tr3 r0 r1 b T m (3 * i + 2) = T (3 * i + 2)
  | m + 1, i, h => by
    simp only [tr3, updN]
    by_cases e : i = m
    · subst e
      rw [if_neg (by omega), if_pos rfl, if_pos rfl, if_neg (by omega), if_neg (by omega), tr3_at (by omega)]
      exact ⟨rfl, rfl, rfl⟩
    · rw [if_neg (by omega), if_neg (by omega), if_neg (by omega), if_neg (by omega), if_neg (by omega), if_neg (by omega)]
      exact tr3_val (by omega)
theorem mem_movs {x : Int} : ∀ {i : Nat}, x ∈ movs r0 r1 b T i ↔ ∃ q, q < i ∧ x ∈ (trB r0 r1 b T q).1
  | 0 => ⟨fun h => (by cases h), fun ⟨q, h, _⟩ => absurd h (Nat.not_lt_zero q)⟩
  | i + 1 => by
    simp only [movs, List.mem_append, mem_movs (i := i)]
    constructor
    · rintro (⟨q, a, b⟩ | h)
      · exact ⟨q, by omega, b⟩
      · exact ⟨i, Nat.lt_succ_self i, h⟩
    · rintro ⟨q, a, b⟩
      by_cases e : q = i
      · exact .inr (e ▸ b)
      · exact .inl ⟨q, by omega, b⟩
def MvIn (r0 r1 : Nat → Int) (b : Int) (T : Nat → List Int) (m : Nat) : Prop := ∀ i, i < m → Asc (trB r0 r1 b T i).1 ∧ ∀ x ∈ (trB r0 r1 b T i).1, x ∈ T (3 * i) ∨ x ∈ T (3 * i + 1)
theorem mv_same (hT : Sep T (3 * m)) (h : MvIn r0 r1 b T m) {x : Int} {q s : Nat} (hq : q < m) (hs : s < 3 * m) (hx : x ∈ (trB r0 r1 b T q).1) (hm : x ∈ T s) : s = 3 * q ∨ s = 3 * q + 1 := by
  rcases (h q hq).2 x hx with h1 | h1
  · exact .inl (hT.2 x _ _ hs (by omega) hm h1)
  · exact .inr (hT.2 x _ _ hs (by omega) hm h1)
theorem movs_nodup (hT : Sep T (3 * m)) (h : MvIn r0 r1 b T m) : ∀ i, i ≤ m → (movs r0 r1 b T i).Nodup
  | 0, _ => List.nodup_nil
  | i + 1, hi => by
    simp only [movs]
    refine List.nodup_append.2 ⟨movs_nodup hT h i (by omega), asc_nodup (h i (by omega)).1, fun x hx y hy e => ?_⟩
    subst e
    obtain ⟨q, hq, hm⟩ := mem_movs.1 hx
    rcases (h i (by omega)).2 x hy with h1 | h1
    · have := mv_same hT h (by omega) (by omega) hm h1
      omega
    · have := mv_same hT h (by omega) (by omega) hm h1
      omega
theorem movs_asc (hT : Sep T (3 * m)) (h : MvIn r0 r1 b T m) : Asc (srt (movs r0 r1 b T m)) := asc_srt (movs_nodup hT h m (Nat.le_refl m))
theorem movs_at (h : MvIn r0 r1 b T m) {x : Int} (hx : x ∈ srt (movs r0 r1 b T m)) : ∃ s, s < 3 * m ∧ s % 3 ≠ 2 ∧ x ∈ T s := by
  obtain ⟨q, hq, hm⟩ := mem_movs.1 (mem_srt.1 hx)
  rcases (h q hq).2 x hm with h1 | h1
  · exact ⟨3 * q, by omega, by omega, h1⟩
  · exact ⟨3 * q + 1, by omega, by omega, h1⟩
theorem mem_tr3 (hT : Sep T (3 * m)) (h : MvIn r0 r1 b T m) {x : Int} {s : Nat} (hs : s < 3 * m) : x ∈ tr3 r0 r1 b T m s ↔ R4 T (srt (movs r0 r1 b T m)) (srt (movs r0 r1 b T m)).length x s := by
  unfold R4
  rw [List.take_length, mem_srt, mem_movs]
  have hi : s / 3 < m := by omega
  obtain ⟨e0, e1, e2⟩ := tr3_val (r0 := r0) (r1 := r1) (b := b) (T := T) hi
  have key : (x ∈ T (3 * (s / 3)) ∨ x ∈ T (3 * (s / 3) + 1)) → ((∃ q, q < m ∧ x ∈ (trB r0 r1 b T q).1) ↔ x ∈ (trB r0 r1 b T (s / 3)).1) := fun hx => by
    constructor
    · rintro ⟨q, hq, hm⟩
      have : q = s / 3 := by
        rcases hx with hx | hx
        · have := mv_same hT h hq (by omega) hm hx
          omega
        · have := mv_same hT h hq (by omega) hm hx
          omega
      exact this ▸ hm
    · exact fun hm => ⟨_, hi, hm⟩
  rcases (show s = 3 * (s / 3) ∨ s = 3 * (s / 3) + 1 ∨ s = 3 * (s / 3) + 2 by omega) with e | e | e
  · have es : sw s = 3 * (s / 3) + 1 := by unfold sw; rw [if_pos (by omega)]; omega
    rw [es, show tr3 r0 r1 b T m s = _ from (congrArg _ e).trans e0, mem_mvd, show T s = T (3 * (s / 3)) from congrArg _ e]
    constructor
    · rintro (⟨a, c⟩ | ⟨a, c⟩)
      · exact .inr ⟨fun h2 => c ((key (.inl a)).1 h2), a⟩
      · exact .inl ⟨(key (.inr a)).2 c, a⟩
    · rintro (⟨a, c⟩ | ⟨a, c⟩)
      · exact .inr ⟨c, (key (.inr c)).1 a⟩
      · exact .inl ⟨c, fun h2 => a ((key (.inl c)).2 h2)⟩
  · have es : sw s = 3 * (s / 3) := by unfold sw; rw [if_neg (by omega), if_pos (by omega)]; omega
    rw [es, show tr3 r0 r1 b T m s = _ from (congrArg _ e).trans e1, mem_mvd, show T s = T (3 * (s / 3) + 1) from congrArg _ e]
    constructor
    · rintro (⟨a, c⟩ | ⟨a, c⟩)
      · exact .inr ⟨fun h2 => c ((key (.inr a)).1 h2), a⟩
      · exact .inl ⟨(key (.inl a)).2 c, a⟩
    · rintro (⟨a, c⟩ | ⟨a, c⟩)
      · exact .inr ⟨c, (key (.inl c)).1 a⟩
      · exact .inl ⟨c, fun h2 => a ((key (.inr c)).2 h2)⟩
  · have es : sw s = s := by unfold sw; rw [if_neg (by omega), if_neg (by omega)]
    rw [es, show tr3 r0 r1 b T m s = T s from (congrArg _ e).trans (e2.trans (congrArg _ e.symm))]
    constructor
    · intro a
      exact (Classical.em _).imp (fun h2 => ⟨h2, a⟩) fun h2 => ⟨h2, a⟩
    · exact fun a => a.elim (·.2) (·.2)
theorem sep_tr3 (hT : Sep T (3 * m)) (h : MvIn r0 r1 b T m) : Sep (tr3 r0 r1 b T m) (3 * m) := by
  refine ⟨fun s hs => ?_, fun x s s' hs hs' a c => ?_⟩
  · have hi : s / 3 < m := by omega
    obtain ⟨e0, e1, e2⟩ := tr3_val (r0 := r0) (r1 := r1) (b := b) (T := T) hi
    have h3 := (List.nodup_append.1 (sep_three hT hi)).1
    rcases (show s = 3 * (s / 3) ∨ s = 3 * (s / 3) + 1 ∨ s = 3 * (s / 3) + 2 by omega) with e | e | e
    · rw [e, e0]; exact asc_nodup (mvd_asc h3)
    · rw [e, e1]; exact asc_nodup (mvd_asc (List.perm_append_comm.nodup_iff.1 h3))
    · rw [e, e2]; exact hT.1 _ (by omega)
  · rw [mem_tr3 hT h hs] at a
    rw [mem_tr3 hT h hs'] at c
    rcases a with ⟨a1, a2⟩ | ⟨a1, a2⟩ <;> rcases c with ⟨c1, c2⟩ | ⟨c1, c2⟩
    · have := hT.2 x _ _ (sw_lt hs) (sw_lt hs') a2 c2
      rw [← sw_sw (s := s), this, sw_sw]
    · exact absurd a1 c1
    · exact absurd c1 a1
    · exact hT.2 x _ _ hs hs' a2 c2
end
end Go.Proofs.YtljhdcclajikiaaGreatDoor
namespace Go.Proofs.YtljhdcclajikiaaGreatDoor
set_option linter.all false
set_option linter.unusedVariables false
set_option linter.unusedSimpArgs false
open Go.RowKit
section
variable {np m nP : Nat} {pk : Nat → Nat → Int} {l : Nat → Nat → Nat} {v : Nat → Nat → Nat → Int} {F : List Int} {P : Nat → Nat → Int} {b : Int}
structure TrA (np m nP : Nat) (pk : Nat → Nat → Int) (l : Nat → Nat → Nat) (v : Nat → Nat → Nat → Int) (F : List Int) (P : Nat → Nat → Int) (b : Int) (T1 T2 T3 : Nat → List Int) (L : List Int) : Prop where
  s0 : Sep (T0 l v) (3 * m)
  e1 : T1 = takeT F (T0 l v)
  e2 : T2 = putT T1 P nP
  s2 : Sep T2 (3 * m)
  s3 : Sep T3 (3 * m)
  ok : ∀ k, k < nP → okPut np m T1 P k = true
  aL : Asc L
  at_ : ∀ x ∈ L, ∃ s, s < 3 * m ∧ s % 3 ≠ 2 ∧ x ∈ T2 s
  m3 : ∀ x s, s < 3 * m → (x ∈ T3 s ↔ R4 T2 L L.length x s)
  ck : checkV np pk m (ldl T3) (ldv T3) = 0
  c1 : ∀ i, i < m → check1 np pk (ldl T3 i) (ldv T3 i) = 0
  bl : ∀ i, i < m → balV (wL (fun q => rl (pk q)) (T3 (3 * i))) (wL (fun q => rh (pk q)) (T3 (3 * i))) (wL (fun q => rl (pk q)) (T3 (3 * i + 1))) (wL (fun q => rh (pk q)) (T3 (3 * i + 1))) b = 2
  hb : 0 ≤ b ∧ b ≤ 1000000000
theorem trade_ans (hc : checkV np pk m l v = 0) (hP : ∀ k, k < nP → 0 ≤ P k 2) (h : tradeC np pk m l v F P nP b = 0) :
    TrA np m nP pk l v F P b (takeT F (T0 l v)) (tr2 l v F P nP) (tradeT pk m l v F P nP b) (tradeM np pk m l v F P nP b) := by
  obtain ⟨hm, _, hn, ha⟩ := trd_check hc
  have hp : packsOk np pk = true := by
    unfold checkV at hc
    split at hc
    · assumption
    · cases hc
  have hM : tradeM np pk m l v F P nP b = srt (movs (fun q => rl (pk q)) (fun q => rh (pk q)) b (tr2 l v F P nP) m) := if_pos h
  have hA : askT np pk m l v b = 0 ∧ takeC np F (T0 l v) m = 0 ∧ putC np m (takeT F (T0 l v)) P nP = 0 ∧ ∀ i, i < m → trD (fun q => rl (pk q)) (fun q => rh (pk q)) b (tr2 l v F P nP) i = 0 := by
    unfold tradeC at h
    split at h
    · rename_i h1
      split at h
      · rename_i h2
        split at h
        · rename_i h3
          split at h
          · rename_i h4
            exact ⟨h1, h2, h3, fun i hi => of_decide_eq_true (allB_iff.1 h4 i hi)⟩
          · cases h
        · rename_i h3; exact absurd h h3
      · rename_i h2; exact absurd h h2
    · rename_i h1; exact absurd h h1
  obtain ⟨h1, h2, h3, h4⟩ := hA
  have hb : 0 ≤ b ∧ b ≤ 1000000000 := by
    unfold askT at h1
    rw [if_pos hc] at h1
    split at h1
    · rename_i h9
      simp only [inB5, Bool.and_eq_true, decide_eq_true_eq] at h9
      omega
    · cases h1
  obtain ⟨hok, hcnt⟩ := putC_ok h3
  have s0 : Sep (T0 l v) (3 * m) := sep_flat.2 hn
  have s1 : Sep (takeT F (T0 l v)) (3 * m) := sep_take s0
  have s2 : Sep (tr2 l v F P nP) (3 * m) := sep_put s1 hok hP nP (Nat.le_refl _)
  have a1 : ∀ s, s < 3 * m → Asc (takeT F (T0 l v) s) ∧ InxL (takeT F (T0 l v) s) np := fun s hs => ⟨(ha s hs).1.sublist List.filter_sublist, (ha s hs).2.1.filter⟩
  have a2 : ∀ s, s < 3 * m → Asc (tr2 l v F P nP s) ∧ InxL (tr2 l v F P nP s) np := fun s hs => ⟨asc_put (s2.1 s hs) (asc_le (a1 s hs).1), putT_inx (fun s hs => (a1 s hs).2) hok nP (Nat.le_refl _) s hs⟩
  have k2 := (lists_check (T := tr2 l v F P nP) hp hm s2 a2 hcnt).2
  have hst : ∀ i, i < m → Asc (trB (fun q => rl (pk q)) (fun q => rh (pk q)) b (tr2 l v F P nP) i).1 ∧ (∀ x ∈ (trB (fun q => rl (pk q)) (fun q => rh (pk q)) b (tr2 l v F P nP) i).1, x ∈ tr2 l v F P nP (3 * i) ∨ x ∈ tr2 l v F P nP (3 * i + 1)) ∧
      mvOk (fun q => rl (pk q)) (fun q => rh (pk q)) b (tr2 l v F P nP (3 * i)) (tr2 l v F P nP (3 * i + 1)) (trB (fun q => rl (pk q)) (fun q => rh (pk q)) b (tr2 l v F P nP) i).1 = true := fun i hi => by
    have h9 := h4 i hi
    unfold trD at h9
    rcases best_cases (r0 := fun q => rl (pk q)) (r1 := fun q => rh (pk q)) (b := b) (List.nodup_append.1 (sep_three s2 hi)).1 with ⟨g1, _⟩ | ⟨_, g2, g3, g4, _⟩
    · rw [g1] at h9; cases h9
    · exact ⟨g2, g3, g4⟩
  have hMv : MvIn (fun q => rl (pk q)) (fun q => rh (pk q)) b (tr2 l v F P nP) m := fun i hi => ⟨(hst i hi).1, (hst i hi).2.1⟩
  have s3 : Sep (tradeT pk m l v F P nP b) (3 * m) := sep_tr3 s2 hMv
  have v3 := fun i (hi : i < m) => tr3_val (r0 := fun q => rl (pk q)) (r1 := fun q => rh (pk q)) (b := b) (T := tr2 l v F P nP) hi
  have a3 : ∀ s, s < 3 * m → Asc (tradeT pk m l v F P nP b s) ∧ InxL (tradeT pk m l v F P nP b s) np := fun s hs => by
    have hi : s / 3 < m := by omega
    obtain ⟨e0, e1, e2⟩ := v3 _ hi
    have h3 := (List.nodup_append.1 (sep_three s2 hi)).1
    unfold tradeT
    rcases (show s = 3 * (s / 3) ∨ s = 3 * (s / 3) + 1 ∨ s = 3 * (s / 3) + 2 by omega) with e | e | e
    · rw [e, e0]; exact ⟨mvd_asc h3, (a2 _ (by omega)).2.mvd (a2 _ (by omega)).2⟩
    · rw [e, e1]; exact ⟨mvd_asc (List.perm_append_comm.nodup_iff.1 h3), (a2 _ (by omega)).2.mvd (a2 _ (by omega)).2⟩
    · rw [e, e2]; exact a2 _ (by omega)
  have c3 : ∀ i, i < m → cnt3 (tradeT pk m l v F P nP b) i ≤ 10 := fun i hi => by
    obtain ⟨e0, e1, e2⟩ := v3 i hi
    have h9 := hcnt i hi
    have hl := (mvd_perm (S := tr2 l v F P nP (3 * i)) (C := tr2 l v F P nP (3 * i + 1)) (M := (trB (fun q => rl (pk q)) (fun q => rh (pk q)) b (tr2 l v F P nP) i).1)).length_eq
    rw [List.length_append, List.length_append] at hl
    unfold cnt3 tradeT
    rw [e0, e1, e2]
    unfold cnt3 at h9
    unfold tr2 at *
    omega
  obtain ⟨ck, c1⟩ := lists_check hp hm s3 a3 c3
  refine ⟨s0, rfl, rfl, s2, s3, hok, ?_, ?_, ?_, ck, c1, fun i hi => ?_, hb⟩
  · rw [hM]; exact movs_asc s2 hMv
  · rw [hM]; exact fun x hx => movs_at hMv hx
  · rw [hM]; exact fun x s hs => mem_tr3 s2 hMv hs
  · obtain ⟨e0, e1, _⟩ := v3 i hi
    unfold tradeT
    rw [e0, e1]
    have h9 := (hst i hi).2.2
    unfold mvOk at h9
    exact of_decide_eq_true h9
end
end Go.Proofs.YtljhdcclajikiaaGreatDoor
namespace Go.Proofs.YtljhdcclajikiaaGreatDoor
set_option linter.all false
set_option linter.unusedVariables false
set_option linter.unusedSimpArgs false
open Go.RowKit Go.MapKept
section
variable {c : Cx} {Q : Exit → Act → World → Prop} {F : Fr} {K K' : List Fact} {d : Option Tmp} {ty : TypeId} {pos : String} {af : Array Edge} {g : Option (Nat × Bool)}
theorem TW.rebase {x : Code} (h : ∀ w1, Sat c.S c.w0 K w1 → TW ⟨c.P, c.n, c.D, [], w1⟩ x Q F []) : TW c x Q F K := fun a w hF hK => h w hK a w hF (Sat.start w)
theorem Pu.lkGn {x y : Operand} {T kt et : TypeId} {kk : IntKind} {b n : Nat} {i : Int} {z : Value} {l : Gl} (hT : MapT c.P T kt et kk) (hz : ∀ w, (zeroValue et).run c.P w = .ok z w) (hl : mlook i (gl l) = none) (hx : ev F x = some (.map (some b)) := by rfl) (hy : ev F y = some (.int kk i) := by rfl)
    (hp : Pick K (.obj b (gO kk l n)) K' := by repeat (first | exact Pick.hd | apply Pick.tl)) : Pu c F K ⟨d, .lookup T x y true, ty, pos, af, g⟩ (.tuple #[z, .bool false]) := by
  have h := Pu.lkG (c := c) (F := F) (d := d) (ty := ty) (pos := pos) (af := af) (g := g) hT hz hx hy hp
  rw [hl] at h
  exact h
theorem Pu.lkGs {x y : Operand} {T kt et : TypeId} {kk : IntKind} {b n : Nat} {i : Int} {z u : Value} {l : Gl} (hT : MapT c.P T kt et kk) (hz : ∀ w, (zeroValue et).run c.P w = .ok z w) (hl : mlook i (gl l) = some u) (hx : ev F x = some (.map (some b)) := by rfl) (hy : ev F y = some (.int kk i) := by rfl)
    (hp : Pick K (.obj b (gO kk l n)) K' := by repeat (first | exact Pick.hd | apply Pick.tl)) : Pu c F K ⟨d, .lookup T x y true, ty, pos, af, g⟩ (.tuple #[u, .bool true]) := by
  have h := Pu.lkG (c := c) (F := F) (d := d) (ty := ty) (pos := pos) (af := af) (g := g) hT hz hx hy hp
  rw [hl] at h
  exact h
theorem old_obj {w : World} {b : Nat} {o : Obj} (hb : c.w0.heap[b]? = some o) (hS : b ∉ c.S) (hK : Sat c.S c.w0 K w) : w.heap[b]? = some o := (hK.chg.block b (lt_of_get hb) hS).trans hb
theorem Pu.lkOs {x y : Operand} {T kt et : TypeId} {kk : IntKind} {b n : Nat} {i : Int} {z u : Value} {l : Gl} (hT : MapT c.P T kt et kk) (hz : ∀ w, (zeroValue et).run c.P w = .ok z w) (hb : c.w0.heap[b]? = some (gO kk l n)) (hS : b ∉ c.S) (hl : mlook i (gl l) = some u)
    (hx : ev F x = some (.map (some b)) := by rfl) (hy : ev F y = some (.int kk i) := by rfl) : Pu c F K ⟨d, .lookup T x y true, ty, pos, af, g⟩ (.tuple #[u, .bool true]) := fun a w hF hK => by
  have hr := run_lookup_g (i := i) hT (old_obj hb hS hK) (hz w) true
  rw [hl] at hr
  simp [execOp, hF.evl hx, hF.evl hy, hr]
theorem Pu.lnO {x : Operand} {T kt et : TypeId} {kk : IntKind} {b n : Nat} {l : Gl} (hT : MapT c.P T kt et kk) (hb : c.w0.heap[b]? = some (gO kk l n)) (hS : b ∉ c.S) (hx : ev F x = some (.map (some b)) := by rfl) :
    Pu c F K ⟨d, .call { callee := .builtin .len, args := #[x], argTypes := #[T] }, ty, pos, af, g⟩ (.int .i64 (gl l).length) := fun a w hF hK => by
  have hg := run_getObj_g (P := c.P) (old_obj hb hS hK)
  simp [execOp, resolve, invoke, builtin, Builtin.len_, hF.evl hx, run_underlying hT.map, goInt, hg, gl]
end
end Go.Proofs.YtljhdcclajikiaaGreatDoor
namespace Go.Proofs.YtljhdcclajikiaaGreatDoor
set_option linter.all false
set_option linter.unusedVariables false
set_option linter.unusedSimpArgs false
open Go.RowKit
section
variable {np m nP : Nat} {pk : Nat → Nat → Int} {l : Nat → Nat → Nat} {v : Nat → Nat → Nat → Int} {F : List Int} {P : Nat → Nat → Int} {b : Int}
theorem trade_cnt (h : tradeC np pk m l v F P nP b = 0) : ∀ i, i < m → cnt3 (tr2 l v F P nP) i ≤ 10 := by
  unfold tradeC at h
  split at h
  · split at h
    · split at h
      · rename_i h3
        exact (putC_ok h3).2
      · rename_i h3; exact absurd h h3
    · rename_i h3; exact absurd h h3
  · rename_i h3; exact absurd h h3
theorem tradeM_len : (tradeM np pk m l v F P nP b).length ≤ 10 * m := by
  unfold tradeM
  split
  · rename_i h
    rw [srt_len]
    exact movs_len (trade_cnt h) m (Nat.le_refl _)
  · simp
end
theorem TW.perm {c : Cx} {Q : Exit → Act → World → Prop} {F : Fr} {K K2 : List Fact} {x : Code} (hp : K.Perm K2) (h : TW c x Q F K2) : TW c x Q F K := fun a w hF hK => h a w hF (hK.perm hp)
end Go.Proofs.YtljhdcclajikiaaGreatDoor
namespace Go.Proofs.YtljhdcclajikiaaGreatDoor
set_option linter.all false
set_option linter.unusedVariables false
set_option linter.unusedSimpArgs false
open Go.RowKit
theorem great_no {np m : Nat} {l : Nat → Nat → Nat} (h : greatB np m l = false) : np ≤ 40 ∧ m ≤ 12 ∧ ∀ i, i < m → tot (l i) 3 ≤ 48 := by
  simp only [greatB, Bool.or_eq_false_iff, decide_eq_false_iff_not, anyB_false] at h
  refine ⟨by omega, by omega, fun i hi => ?_⟩
  have := h.2 i hi
  simp only [bigT, Bool.or_eq_false_iff, decide_eq_false_iff_not] at this
  rw [tot3]
  omega
end Go.Proofs.YtljhdcclajikiaaGreatDoor
namespace Go.Proofs.YtljhdcclajikiaaGreatDoor
set_option linter.all false
set_option linter.unusedVariables false
set_option linter.unusedSimpArgs false
open Go.RowKit
theorem tradeC_or {np m nP : Nat} {pk : Nat → Nat → Int} {l : Nat → Nat → Nat} {v : Nat → Nat → Nat → Int} {F : List Int} {P : Nat → Nat → Int} {b : Int} (hc : checkV np pk m l v = 0) :
    tradeC np pk m l v F P nP b = 0 ∨ tradeC np pk m l v F P nP b = 2 ∨ tradeC np pk m l v F P nP b = 54 ∨ tradeC np pk m l v F P nP b = 52 := by
  unfold tradeC askT takeC putC
  rw [if_pos hc]
  (repeat' split) <;> simp_all
theorem flat_len {T : Nat → List Int} {n : Nat} (h : ∀ s, s < n → (T s).length ≤ 10) : (flatT T n).length ≤ 10 * n := by
  induction n with
  | zero => exact Nat.zero_le _
  | succ n ih =>
    have h1 := ih fun s hs => h s (by omega)
    have h2 := h n (by omega)
    simp only [flatT, List.length_append]
    omega
theorem flat_succ_len {T : Nat → List Int} {n : Nat} : (flatT T (n + 1)).length = (flatT T n).length + (T n).length := by simp only [flatT, List.length_append]
set_option maxRecDepth 100000 in
set_option maxHeartbeats 8000000 in
theorem lawTraded_any {w : World} {A AT Af AP : Option Addr} {np cp m cT cf nP cP : Nat} {pk : Nat → Nat → Int} {a : Nat → Nat → Option Addr} {l c : Nat → Nat → Nat} {v : Nat → Nat → Nat → Int} {F : List Int} {P : Nat → Nat → Int} {b : Int}
    (hG : None0 w) (hR : RdR w 11 A np (fun k => packL (pk k))) (hT : RdR w 3 AT m (fun i => tieL (a i) (l i) (c i))) (hI : ∀ i, i < m → ∀ j, j < 3 → RdR w 1 (a i j) (l i j) (fun k => [.int .i64 (v i j k)]))
    (hF : RdR w 1 Af F.length (iL F)) (hPR : RdR w 3 AP nP (fun k => putL (P k))) (hP2 : ∀ k, k < nP → 0 ≤ P k 2) :
    Calls Tryz.prog 3 #[.slice A np cp, .slice AT m cT, .slice Af F.length cf, .slice AP nP cP, .int .i64 b] w (Ret w (.bool true)) := by
  refine K_enter (S := []) (K := []) Tryz.func3 rfl Tryz.ntmps3 rfl (Sat.start _) ?_
  refine TW.seq fun Y1 hY1 => ?_
  refine TW.region ?_
  refine TL.p Pu.as ?_
  refine TL.nil ?_
  refine TQ.thenN (hY1 _ _ ?_)
  refine TW.seq fun Y2 hY2 => ?_
  refine TW.region ?_
  refine TL.cr rfl (enters Tryz.func5 rfl rfl) (fun w hw => by
      exact alive_any _ (hG.sat hw (by simp))) ?_
  refine TL.p Pu.as ?_
  refine TL.nil ?_
  refine TQ.thenN (hY2 _ _ ?_)
  refine TW.seq fun Y3 hY3 => ?_
  refine TW.seq fun Y4 hY4 => ?_
  refine TW.region ?_
  refine TL.p Pu.mv ?_
  refine TL.p Pu.mv ?_
  refine TL.cr rfl (enters Tryz.func6 rfl rfl) (fun w hw => by
      exact great_any (hT.sat hw Apart.nil)) ?_
  refine TL.p Pu.mv ?_
  refine TL.guard (t := 47) rfl (fun hg1 => ?_) (fun hg1 => ?_)
  · try simp only [decide_eq_true_eq, decide_eq_false_iff_not, Bool.not_eq_true', Bool.not_eq_false', Int.natCast_pos] at hg1
    refine TL.gs ?_
    refine TL.gs ?_
    refine TL.gs ?_
    refine TL.p Pu.kt ?_
    refine TL.p Pu.mv ?_
    refine TL.gs ?_
    refine TL.gs ?_
    refine TL.gs ?_
    refine TL.p Pu.kt ?_
    refine TL.p Pu.mv ?_
    refine TL.gs ?_
    refine TL.gs ?_
    refine TL.gs ?_
    refine TL.gs ?_
    refine TL.p Pu.kt ?_
    refine TL.p Pu.mv ?_
    refine TL.gs ?_
    refine TL.gs ?_
    refine TL.p Pu.kt ?_
    refine TL.nil ?_
    refine TQ.thenN (hY4 _ _ ?_)
    refine TW.condT rfl rfl ?_
    refine TW.seq fun Y5 hY5 => ?_
    refine TW.region ?_
    refine TL.p Pu.mv ?_
    refine TL.p Pu.as ?_
    refine TL.nil ?_
    refine TQ.thenN (hY5 _ _ ?_)
    refine TW.ret ?_
    refine TQ.thenR ?_
    refine TQ.ret Tryz.results3 rfl ((.tmp rfl .nil)) ?_
    first
      | exact fun w hw => ⟨rfl, Chg.ext hw.chg⟩
      | exact fun w hw => ⟨rfl, Chg.ext (hw1c.trans hw.chg)⟩
  · try simp only [decide_eq_true_eq, decide_eq_false_iff_not, Bool.not_eq_true', Bool.not_eq_false', Int.natCast_pos] at hg1
    refine TL.gd Pu.mv ?_
    refine TL.gd (Pu.ln Tryz.underlying24) ?_
    refine TL.gd Pu.gt ?_
    refine TL.p Pu.kf ?_
    refine TL.p Pu.mv ?_
    refine TL.guard (t := 52) rfl (fun hg2 => ?_) (fun hg2 => ?_)
    · try simp only [decide_eq_true_eq, decide_eq_false_iff_not, Bool.not_eq_true', Bool.not_eq_false', Int.natCast_pos] at hg2
      refine TL.gs ?_
      refine TL.gs ?_
      refine TL.gs ?_
      refine TL.p Pu.kt ?_
      refine TL.p Pu.mv ?_
      refine TL.gs ?_
      refine TL.gs ?_
      refine TL.gs ?_
      refine TL.gs ?_
      refine TL.p Pu.kt ?_
      refine TL.p Pu.mv ?_
      refine TL.gs ?_
      refine TL.gs ?_
      refine TL.p Pu.kt ?_
      refine TL.nil ?_
      refine TQ.thenN (hY4 _ _ ?_)
      refine TW.condT rfl rfl ?_
      refine TW.seq fun Y6 hY6 => ?_
      refine TW.region ?_
      refine TL.p Pu.mv ?_
      refine TL.p Pu.as ?_
      refine TL.nil ?_
      refine TQ.thenN (hY6 _ _ ?_)
      refine TW.ret ?_
      refine TQ.thenR ?_
      refine TQ.ret Tryz.results3 rfl ((.tmp rfl .nil)) ?_
      first
        | exact fun w hw => ⟨rfl, Chg.ext hw.chg⟩
        | exact fun w hw => ⟨rfl, Chg.ext (hw1c.trans hw.chg)⟩
    · try simp only [decide_eq_true_eq, decide_eq_false_iff_not, Bool.not_eq_true', Bool.not_eq_false', Int.natCast_pos] at hg2
      refine TL.gd Pu.mv ?_
      refine TL.gd (Pu.ln Tryz.underlying25) ?_
      refine TL.gd Pu.gt ?_
      refine TL.p Pu.kf ?_
      refine TL.p Pu.mv ?_
      refine TL.guard (t := 57) rfl (fun hg3 => ?_) (fun hg3 => ?_)
      · try simp only [decide_eq_true_eq, decide_eq_false_iff_not, Bool.not_eq_true', Bool.not_eq_false', Int.natCast_pos] at hg3
        refine TL.gs ?_
        refine TL.gs ?_
        refine TL.gs ?_
        refine TL.gs ?_
        refine TL.p Pu.kt ?_
        refine TL.p Pu.mv ?_
        refine TL.gs ?_
        refine TL.gs ?_
        refine TL.p Pu.kt ?_
        refine TL.nil ?_
        refine TQ.thenN (hY4 _ _ ?_)
        refine TW.condT rfl rfl ?_
        refine TW.seq fun Y7 hY7 => ?_
        refine TW.region ?_
        refine TL.p Pu.mv ?_
        refine TL.p Pu.as ?_
        refine TL.nil ?_
        refine TQ.thenN (hY7 _ _ ?_)
        refine TW.ret ?_
        refine TQ.thenR ?_
        refine TQ.ret Tryz.results3 rfl ((.tmp rfl .nil)) ?_
        first
          | exact fun w hw => ⟨rfl, Chg.ext hw.chg⟩
          | exact fun w hw => ⟨rfl, Chg.ext (hw1c.trans hw.chg)⟩
      · try simp only [decide_eq_true_eq, decide_eq_false_iff_not, Bool.not_eq_true', Bool.not_eq_false', Int.natCast_pos] at hg3
        refine TL.gd Pu.mv ?_
        refine TL.gd Pu.mv ?_
        obtain ⟨hnp40, hm12, hl48⟩ := great_no hg1
        have hLay : Lay w A AT np m pk a l c v := ⟨hG, by omega, by omega, hR, hT, hI, fun i hi => by have := hl48 i hi; omega⟩
        refine TL.cr rfl (enters Tryz.func7 rfl rfl) (fun w hw => by
            exact refCheck_any (hLay.sat hw)) ?_
        refine TL.gd Pu.ne ?_
        refine TL.p Pu.kf ?_
        refine TL.p Pu.mv ?_
        refine TL.guard (t := 63) rfl (fun hg4 => ?_) (fun hg4 => ?_)
        · try simp only [decide_eq_true_eq, decide_eq_false_iff_not, Bool.not_eq_true', Bool.not_eq_false', Int.natCast_pos] at hg4
          refine TL.gs ?_
          refine TL.gs ?_
          refine TL.p Pu.kt ?_
          refine TL.nil ?_
          refine TQ.thenN (hY4 _ _ ?_)
          refine TW.condT rfl rfl ?_
          refine TW.seq fun Y8 hY8 => ?_
          refine TW.region ?_
          refine TL.p Pu.mv ?_
          refine TL.p Pu.as ?_
          refine TL.nil ?_
          refine TQ.thenN (hY8 _ _ ?_)
          refine TW.ret ?_
          refine TQ.thenR ?_
          refine TQ.ret Tryz.results3 rfl ((.tmp rfl .nil)) ?_
          first
            | exact fun w hw => ⟨rfl, Chg.ext hw.chg⟩
            | exact fun w hw => ⟨rfl, Chg.ext (hw1c.trans hw.chg)⟩
        · try simp only [decide_eq_true_eq, decide_eq_false_iff_not, Bool.not_eq_true', Bool.not_eq_false', Int.natCast_pos] at hg4
          refine TL.gd Pu.mv ?_
          refine TL.gd Pu.no ?_
          refine TL.p Pu.kf ?_
          refine TL.nil ?_
          refine TQ.thenN (hY4 _ _ ?_)
          refine TW.condF rfl rfl ?_
          refine TW.skip ?_
          refine TQ.thenN (hY3 _ _ ?_)
          have hck : checkV np pk m l v = 0 := by simpa using hg4
          have hor := tradeC_or (F := F) (P := P) (nP := nP) (b := b) hck
          refine TW.seq fun Y9 hY9 => ?_
          refine TW.region ?_
          refine TL.p Pu.mv ?_
          refine TL.p Pu.mv ?_
          refine TL.p Pu.mv ?_
          refine TL.p Pu.mv ?_
          refine TL.p Pu.mv ?_
          refine TL.call (M := []) rfl (enters Tryz.func8 rfl rfl) (List.Perm.refl _) rfl (fun w hw => by
              exact loadTrade_any (hLay.sat hw) (hF.sat hw Apart.nil) rfl (by omega) (hPR.sat hw Apart.nil) (by omega) hP2) ?_
          rintro ⟨⟨⟨An, cn⟩, X, D⟩, ⟨Am, cm⟩⟩
          simp only [List.append_nil]
          refine TL.p Pu.mv ?_
          refine TL.p Pu.ex ?_
          refine TL.p Pu.ex ?_
          refine TL.p Pu.ex ?_
          refine TL.p Pu.as ?_
          refine TL.p Pu.as ?_
          refine TL.p Pu.as ?_
          refine TL.nil ?_
          refine TQ.thenN (hY9 _ _ ?_)
          refine TW.seq fun Y10 hY10 => ?_
          refine TW.seq fun Y11 hY11 => ?_
          refine TW.region ?_
          refine TL.p Pu.mv ?_
          refine TL.p Pu.ne ?_
          refine TL.nil ?_
          refine TQ.thenN (hY11 _ _ ?_)
          refine TW.cond rfl (fun hc1 => ?_) (fun hc1 => ?_)
          · try simp only [decide_eq_true_eq, decide_eq_false_iff_not, Bool.not_eq_true', Bool.not_eq_false', Bool.and_eq_true, Bool.or_eq_true, Bool.and_eq_false_iff, Bool.or_eq_false_iff, Int.not_lt, Int.not_le] at hc1
            have hne : tradeC np pk m l v F P nP b ≠ 0 := hc1
            have hN : tradeN np pk m l v F P nP b = 0 := if_neg hne
            have hL0 : tradeM np pk m l v F P nP b = [] := if_neg hne
            rw [hN, hL0]
            have hlen0 : ([] : List Int).length = 0 := rfl
            refine TW.seq fun Y12 hY12 => ?_
            refine TW.region ?_
            refine TL.p Pu.mv ?_
            refine TL.p Pu.mv ?_
            refine TL.gd Pu.mv ?_
            refine TL.gd (Pu.ln Tryz.underlying23) ?_
            refine TL.gd Pu.mv ?_
            refine TL.gd (Pu.ln Tryz.underlying24) ?_
            refine TL.gd Pu.ad ?_
            refine TL.gd Pu.eq ?_
            refine TL.lit (t := 87) (b' := true) rfl (rfl) ?_
            refine TL.p Pu.kt ?_
            refine TL.p Pu.mv ?_
            refine TL.gd Pu.mv ?_
            refine TL.gd Pu.eq ?_
            refine TL.gd Pu.mv ?_
            refine TL.guard (t := 92) rfl (fun hg5 => ?_) (fun hg5 => ?_)
            · try simp only [decide_eq_true_eq, decide_eq_false_iff_not, Bool.not_eq_true', Bool.not_eq_false', Int.natCast_pos] at hg5
              refine TL.gs ?_
              refine TL.gs ?_
              refine TL.gd Pu.kt ?_
              refine TL.gd Pu.mv ?_
              refine TL.gs ?_
              refine TL.gs ?_
              refine TL.gd Pu.kt ?_
              refine TL.p Pu.kt ?_
              refine TL.p Pu.as ?_
              refine TL.nil ?_
              refine TQ.thenN (hY12 _ _ ?_)
              refine TW.ret ?_
              refine TQ.thenR ?_
              refine TQ.ret Tryz.results3 rfl ((.tmp rfl .nil)) ?_
              first
                | exact fun w hw => ⟨rfl, Chg.ext hw.chg⟩
                | exact fun w hw => ⟨rfl, Chg.ext (hw1c.trans hw.chg)⟩
            · try simp only [decide_eq_true_eq, decide_eq_false_iff_not, Bool.not_eq_true', Bool.not_eq_false', Int.natCast_pos] at hg5
              refine TL.gd Pu.mv ?_
              refine TL.gd Pu.eq ?_
              refine TL.gd Pu.kf ?_
              refine TL.gd Pu.mv ?_
              refine TL.guard (t := 96) rfl (fun hg6 => ?_) (fun hg6 => ?_)
              · try simp only [decide_eq_true_eq, decide_eq_false_iff_not, Bool.not_eq_true', Bool.not_eq_false', Int.natCast_pos] at hg6
                refine TL.gs ?_
                refine TL.gs ?_
                refine TL.gd Pu.kt ?_
                refine TL.p Pu.kt ?_
                refine TL.p Pu.as ?_
                refine TL.nil ?_
                refine TQ.thenN (hY12 _ _ ?_)
                refine TW.ret ?_
                refine TQ.thenR ?_
                refine TQ.ret Tryz.results3 rfl ((.tmp rfl .nil)) ?_
                first
                  | exact fun w hw => ⟨rfl, Chg.ext hw.chg⟩
                  | exact fun w hw => ⟨rfl, Chg.ext (hw1c.trans hw.chg)⟩
              · try simp only [decide_eq_true_eq, decide_eq_false_iff_not, Bool.not_eq_true', Bool.not_eq_false', Int.natCast_pos] at hg6
                refine TL.gd Pu.mv ?_
                refine TL.gd Pu.eq ?_
                refine TL.lit (t := 98) (b' := true) rfl ((by simp; omega)) ?_
                refine TL.gd Pu.kf ?_
                refine TL.p Pu.kt ?_
                refine TL.p Pu.as ?_
                refine TL.nil ?_
                refine TQ.thenN (hY12 _ _ ?_)
                refine TW.ret ?_
                refine TQ.thenR ?_
                refine TQ.ret Tryz.results3 rfl ((.tmp rfl .nil)) ?_
                first
                  | exact fun w hw => ⟨rfl, Chg.ext hw.chg⟩
                  | exact fun w hw => ⟨rfl, Chg.ext (hw1c.trans hw.chg)⟩
          · try simp only [decide_eq_true_eq, decide_eq_false_iff_not, Bool.not_eq_true', Bool.not_eq_false', Bool.and_eq_true, Bool.or_eq_true, Bool.and_eq_false_iff, Bool.or_eq_false_iff, Int.not_lt, Int.not_le] at hc1
            have hz : tradeC np pk m l v F P nP b = 0 := by simpa using hc1
            have hA := trade_ans hck hP2 hz
            have hN : tradeN np pk m l v F P nP b = m := if_pos hz
            have hLl : (tradeM np pk m l v F P nP b).length ≤ 10 * m := tradeM_len
            rw [hN, hz]
            generalize tradeT pk m l v F P nP b = T3 at hA ⊢
            generalize tradeM np pk m l v F P nP b = L at hA hLl ⊢
            have hbd := hA.hb
            have hm8 := (trd_check hck).1
            have ht3 : ∀ s, s < 3 * m → (T3 s).length ≤ 10 := fun s hs => by
              have h9 := ((trd_check hA.ck).2.2.2 s hs).2.2
              rwa [ld_T0] at h9
            refine TW.skip ?_
            refine TQ.thenN (hY10 _ _ ?_)
            refine TW.seq fun Y13 hY13 => ?_
            refine TW.seq fun Y14 hY14 => ?_
            refine TW.region ?_
            refine TL.p Pu.mv ?_
            refine TL.p (Pu.ln Tryz.underlying23) ?_
            refine TL.p Pu.mv ?_
            refine TL.p (Pu.ln Tryz.underlying23) ?_
            refine TL.p Pu.ne ?_
            refine TL.lit (t := 105) (b' := false) rfl ((by simp)) ?_
            refine TL.p Pu.mv ?_
            refine TL.gd Pu.mv ?_
            refine TL.gd Pu.mv ?_
            refine TL.cr rfl (enters Tryz.func7 rfl rfl) (fun w hw => by
                have hLt : Lay w A An np m pk (fun i j => X (3 * i + j)) (ldl T3) (fun i j => D (3 * i + j)) (ldv T3) := ⟨hG.sat hw (by simp), by omega, by omega, hR.sat hw Apart.nil, OwnR.rdr (hw.holds (.own An m cn 34 3 (tieX X T3 D)) (by simp [tiesX])), fun i hi j hj => OwnR.rdr (hw.holds (.own (X (3 * i + j)) (T3 (3 * i + j)).length (D (3 * i + j)) 3 1 (iL (T3 (3 * i + j)))) (by simp [tiesX, ownsT_mem (show 3 * i + j < 3 * m by omega)])), fun i hi => by have := ((check_ok hA.ck).2.2 i hi).2; omega⟩
                have h9 := refCheck_any (cp := cp) (cp2 := cn) hLt
                rw [hA.ck] at h9
                exact h9) ?_
            refine TL.gd Pu.ne ?_
            refine TL.lit (t := 110) (b' := false) rfl (rfl) ?_
            refine TL.p Pu.kf ?_
            refine TL.nil ?_
            refine TQ.thenN (hY14 _ _ ?_)
            refine TW.condF rfl rfl ?_
            refine TW.skip ?_
            refine TQ.thenN (hY13 _ _ ?_)
            refine TW.seq fun Y15 hY15 => ?_
            refine TW.region ?_
            refine TL.mmG (kk := .i64) ?_
            intro bM
            refine TL.p Pu.as ?_
            refine TL.nil ?_
            refine TQ.thenN (hY15 _ _ ?_)
            refine TW.seq fun Y16 hY16 => ?_
            refine TW.seq fun Y17 hY17 => ?_
            refine TW.region ?_
            refine TL.p Pu.mv ?_
            refine TL.p (Pu.ln Tryz.underlying23) ?_
            refine TL.p Pu.mv ?_
            refine TL.nil ?_
            refine TQ.thenN (hY17 _ _ ?_)
            refine TW.block ?_
            refine TW.loop3 (fun (i : Nat) (g : Gl) (q : Nat) => [(115, .int .i64 (i : Int)), (114, .int .i64 (m : Int)), (113, .slice AT m cT), (11, .bool true), (12, .slice An m cn), (13, .slice Am L.length cm), (15, .map (some bM)), (0, .slice A np cp), (1, .slice AT m cT), (2, .slice Af F.length cf), (3, .slice AP nP cP), (4, .int .i64 b)]) (fun i g q => .obj bM (gO .i64 g q) :: .own Am L.length cm 3 1 (iL L) :: tiesX m T3 ((An, cn), X, D)) (fun i g q => i ≤ m ∧ MP (gl g) (3 * m) (R1 (T0 l v) (3 * i) 0)) (fun i g q => m - i) 0 [] 0 (by repeat (first | exact trivial | refine ⟨rfl, ?_⟩ | refine ⟨trivial, ?_⟩)) ?_ ?_ ?_
            · exact (by repeat (first | exact KSub.nil | refine KSub.cons (by repeat (first | exact Pick.hd | apply Pick.tl)) ?_ | exact KSub.refl _ | refine KSub.drop ?_))
            · exact ⟨Nat.zero_le _, r1_start⟩
            rintro i g q ⟨hi, hM⟩ Z0 hZ0
            refine TW.seq fun Y18 hY18 => ?_
            refine TW.region ?_
            refine TL.p Pu.lt ?_
            refine TL.nil ?_
            refine TQ.thenN (hY18 _ _ ?_)
            refine TW.seq fun Y19 hY19 => ?_
            refine TW.cond rfl (fun hc3 => ?_) (fun hc3 => ?_)
            · try simp only [decide_eq_true_eq, decide_eq_false_iff_not, Bool.not_eq_true', Bool.not_eq_false', Bool.and_eq_true, Bool.or_eq_true, Bool.and_eq_false_iff, Bool.or_eq_false_iff, Int.not_lt, Int.not_le] at hc3
              have him : i < m := by omega
              refine TW.skip ?_
              refine TQ.thenN (hY19 _ _ ?_)
              refine TW.seq fun Y20 hY20 => ?_
              refine TW.block ?_
              refine TW.seq fun Y21 hY21 => ?_
              refine TW.region ?_
              refine TL.p Pu.mv ?_
              refine TL.p (Pu.el ty_et23) ?_
              refine TL.p (Pu.lds ty_ag34) ?_
              refine TL.m (Mk.al ty_zr34) ?_
              intro b1
              refine TL.p Pu.as ?_
              first | refine TL.st ty_sz34 ?_ | refine TL.se ty_sz34 ?_
              refine TL.nil ?_
              refine TQ.thenN (hY21 _ _ ?_)
              refine TW.seq fun Y22 hY22 => ?_
              refine TW.region ?_
              refine TL.p (by first | exact Pu.fb ty_fa34_0 | exact Pu.fe ty_fa34_0) ?_
              refine TL.p (Pu.ld ty_sc24) ?_
              refine TL.p (by first | exact Pu.fb ty_fa34_1 | exact Pu.fe ty_fa34_1) ?_
              refine TL.p (Pu.ld ty_sc24) ?_
              refine TL.p (by first | exact Pu.fb ty_fa34_2 | exact Pu.fe ty_fa34_2) ?_
              refine TL.p (Pu.ld ty_sc24) ?_
              refine TL.p Pu.bd ?_
              refine TL.p Pu.mv ?_
              refine TL.nil ?_
              refine TQ.thenN (hY22 _ _ ?_)
              refine TW.block ?_
              refine TW.loop3 (fun (j : Nat) (g : Gl) (q : Nat) => [(127, .int .i64 (j : Int)), (126, .agg (tieL (a i) (l i) (c i)).toArray), (16, .int .i64 (i : Int)), (115, .int .i64 (i : Int)), (114, .int .i64 (m : Int)), (113, .slice AT m cT), (11, .bool true), (12, .slice An m cn), (13, .slice Am L.length cm), (15, .map (some bM)), (0, .slice A np cp), (1, .slice AT m cT), (2, .slice Af F.length cf), (3, .slice AP nP cP), (4, .int .i64 b)]) (fun j g q => .obj bM (gO .i64 g q) :: .own Am L.length cm 3 1 (iL L) :: tiesX m T3 ((An, cn), X, D)) (fun j g q => j ≤ 3 ∧ MP (gl g) (3 * m) (R1 (T0 l v) (3 * i + j) 0)) (fun j g q => 3 - j) 0 g q (by repeat (first | exact trivial | refine ⟨rfl, ?_⟩ | refine ⟨trivial, ?_⟩)) ?_ ?_ ?_
              · exact (by repeat (first | exact KSub.nil | refine KSub.cons (by repeat (first | exact Pick.hd | apply Pick.tl)) ?_ | exact KSub.refl _ | refine KSub.drop ?_))
              · exact ⟨Nat.zero_le _, hM⟩
              rintro j g q ⟨hj, hM⟩ Z1 hZ1
              refine TW.seq fun Y23 hY23 => ?_
              refine TW.region ?_
              refine TL.p Pu.lt ?_
              refine TL.nil ?_
              refine TQ.thenN (hY23 _ _ ?_)
              refine TW.seq fun Y24 hY24 => ?_
              refine TW.cond rfl (fun hc4 => ?_) (fun hc4 => ?_)
              · try simp only [decide_eq_true_eq, decide_eq_false_iff_not, Bool.not_eq_true', Bool.not_eq_false', Bool.and_eq_true, Bool.or_eq_true, Bool.and_eq_false_iff, Bool.or_eq_false_iff, Int.not_lt, Int.not_le] at hc4
                have hj3 : j < 3 := by omega
                have hIij := hI i him j hj3
                have e0 : T0 l v (3 * i + j) = toI (v i j) (l i j) := T0_at hj3
                have hln : (T0 l v (3 * i + j)).length = l i j := by rw [e0]; exact toI_len
                have hl10 : l i j ≤ 10 := by
                  have h9 := ((trd_check hck).2.2.2 (3 * i + j) (by omega)).2.2
                  rwa [hln] at h9
                refine TW.skip ?_
                refine TQ.thenN (hY24 _ _ ?_)
                refine TW.seq fun Y25 hY25 => ?_
                refine TW.block ?_
                refine TW.seq fun Y26 hY26 => ?_
                refine TW.region ?_
                refine TL.p Pu.mv ?_
                refine TL.p (Pu.ix rfl rfl (fun w => index_tie _ _ _ j (by omega) w)) ?_
                refine TL.p Pu.as ?_
                refine TL.p Pu.as ?_
                refine TL.nil ?_
                refine TQ.thenN (hY26 _ _ ?_)
                refine TW.seq fun Y27 hY27 => ?_
                refine TW.region ?_
                refine TL.p Pu.mv ?_
                refine TL.p (Pu.ln Tryz.underlying24) ?_
                refine TL.p Pu.mv ?_
                refine TL.nil ?_
                refine TQ.thenN (hY27 _ _ ?_)
                refine TW.block ?_
                refine TW.loop3 (fun (k : Nat) (g : Gl) (q : Nat) => [(133, .int .i64 (k : Int)), (132, .int .i64 (l i j : Int)), (131, .slice (a i j) (l i j) (c i j)), (18, .int .i64 (j : Int)), (127, .int .i64 (j : Int)), (126, .agg (tieL (a i) (l i) (c i)).toArray), (16, .int .i64 (i : Int)), (115, .int .i64 (i : Int)), (114, .int .i64 (m : Int)), (113, .slice AT m cT), (11, .bool true), (12, .slice An m cn), (13, .slice Am L.length cm), (15, .map (some bM)), (0, .slice A np cp), (1, .slice AT m cT), (2, .slice Af F.length cf), (3, .slice AP nP cP), (4, .int .i64 b)]) (fun k g q => .obj bM (gO .i64 g q) :: .own Am L.length cm 3 1 (iL L) :: tiesX m T3 ((An, cn), X, D)) (fun k g q => k ≤ l i j ∧ MP (gl g) (3 * m) (R1 (T0 l v) (3 * i + j) k)) (fun k g q => l i j - k) 0 g q (by repeat (first | exact trivial | refine ⟨rfl, ?_⟩ | refine ⟨trivial, ?_⟩)) ?_ ?_ ?_
                · exact (by repeat (first | exact KSub.nil | refine KSub.cons (by repeat (first | exact Pick.hd | apply Pick.tl)) ?_ | exact KSub.refl _ | refine KSub.drop ?_))
                · exact ⟨Nat.zero_le _, hM⟩
                rintro k g q ⟨hk, hM⟩ Z2 hZ2
                refine TW.seq fun Y28 hY28 => ?_
                refine TW.region ?_
                refine TL.p Pu.lt ?_
                refine TL.nil ?_
                refine TQ.thenN (hY28 _ _ ?_)
                refine TW.seq fun Y29 hY29 => ?_
                refine TW.cond rfl (fun hc5 => ?_) (fun hc5 => ?_)
                · try simp only [decide_eq_true_eq, decide_eq_false_iff_not, Bool.not_eq_true', Bool.not_eq_false', Bool.and_eq_true, Bool.or_eq_true, Bool.and_eq_false_iff, Bool.or_eq_false_iff, Int.not_lt, Int.not_le] at hc5
                  have hkl : k < l i j := by omega
                  have hgt : (T0 l v (3 * i + j)).getD k 0 = v i j k := by rw [e0]; exact toI_get hkl
                  refine TW.skip ?_
                  refine TQ.thenN (hY29 _ _ ?_)
                  refine TW.seq fun Y30 hY30 => ?_
                  refine TW.block ?_
                  refine TW.seq fun Y31 hY31 => ?_
                  refine TW.region ?_
                  refine TL.p (Pu.el ty_et24) ?_
                  refine TL.p (Pu.ld ty_sc3) ?_
                  refine TL.p Pu.as ?_
                  refine TL.nil ?_
                  refine TQ.thenN (hY31 _ _ ?_)
                  refine TW.region ?_
                  refine TL.p Pu.mv ?_
                  refine TL.p Pu.mv ?_
                  refine TL.p Pu.mv ?_
                  refine TL.p Pu.ml ?_
                  refine TL.p Pu.mv ?_
                  refine TL.p Pu.ad ?_
                  refine TL.muG (i := v i j k) (v := .int .i64 (3 * (i : Int) + (j : Int))) ty_mp32 ?_
                  intro g2 q2 hG2
                  refine TL.nil ?_
                  refine TQ.blkN ?_
                  refine TQ.thenN (hY30 _ _ ?_)
                  refine TW.region ?_
                  refine TL.p Pu.ad ?_
                  refine TL.p Pu.mv ?_
                  refine TL.nil ?_
                  refine TQ.thenN (hZ2 (k + 1) g2 q2 _ _ ?_ ?_ (by repeat (first | exact trivial | refine ⟨rfl, ?_⟩ | refine ⟨trivial, ?_⟩)) ?_)
                  · refine ⟨by omega, ?_⟩
                    have h9 := r1_next hA.s0 (show 3 * i + j < 3 * m by omega) (by rw [hln]; exact hkl) hM
                    rw [hgt, show ((3 * i + j : Nat) : Int) = 3 * (i : Int) + (j : Int) by omega] at h9
                    rw [hG2]; exact h9
                  · exact (by first | omega | (simp only []; omega) | (simp; omega))
                  · exact (by repeat (first | exact KSub.nil | refine KSub.cons (by repeat (first | exact Pick.hd | apply Pick.tl)) ?_ | exact KSub.refl _ | refine KSub.drop ?_))
                · try simp only [decide_eq_true_eq, decide_eq_false_iff_not, Bool.not_eq_true', Bool.not_eq_false', Bool.and_eq_true, Bool.or_eq_true, Bool.and_eq_false_iff, Bool.or_eq_false_iff, Int.not_lt, Int.not_le] at hc5
                  obtain rfl : k = l i j := by omega
                  refine TW.exit ?_
                  refine TQ.thenX ?_
                  refine TQ.thenX ?_
                  refine TQ.blkX ?_
                  refine TQ.blkN ?_
                  refine TQ.thenN (hY25 _ _ ?_)
                  refine TW.region ?_
                  refine TL.p Pu.ad ?_
                  refine TL.p Pu.mv ?_
                  refine TL.nil ?_
                  refine TQ.thenN (hZ1 (j + 1) g q _ _ ?_ ?_ (by repeat (first | exact trivial | refine ⟨rfl, ?_⟩ | refine ⟨trivial, ?_⟩)) ?_)
                  · exact ⟨by omega, r1_done (S := 3 * i + j) (by rw [hln]; exact hM)⟩
                  · exact (by first | omega | (simp only []; omega) | (simp; omega))
                  · exact (by repeat (first | exact KSub.nil | refine KSub.cons (by repeat (first | exact Pick.hd | apply Pick.tl)) ?_ | exact KSub.refl _ | refine KSub.drop ?_))
              · try simp only [decide_eq_true_eq, decide_eq_false_iff_not, Bool.not_eq_true', Bool.not_eq_false', Bool.and_eq_true, Bool.or_eq_true, Bool.and_eq_false_iff, Bool.or_eq_false_iff, Int.not_lt, Int.not_le] at hc4
                obtain rfl : j = 3 := by omega
                refine TW.exit ?_
                refine TQ.thenX ?_
                refine TQ.thenX ?_
                refine TQ.blkX ?_
                refine TQ.blkN ?_
                refine TQ.thenN (hY20 _ _ ?_)
                refine TW.region ?_
                refine TL.p Pu.ad ?_
                refine TL.p Pu.mv ?_
                refine TL.nil ?_
                refine TQ.thenN (hZ0 (i + 1) g q _ _ ?_ ?_ (by repeat (first | exact trivial | refine ⟨rfl, ?_⟩ | refine ⟨trivial, ?_⟩)) ?_)
                · exact ⟨by omega, by rw [show 3 * (i + 1) = 3 * i + 3 by omega]; exact hM⟩
                · exact (by first | omega | (simp only []; omega) | (simp; omega))
                · exact (by repeat (first | exact KSub.nil | refine KSub.cons (by repeat (first | exact Pick.hd | apply Pick.tl)) ?_ | exact KSub.refl _ | refine KSub.drop ?_))
            · try simp only [decide_eq_true_eq, decide_eq_false_iff_not, Bool.not_eq_true', Bool.not_eq_false', Bool.and_eq_true, Bool.or_eq_true, Bool.and_eq_false_iff, Bool.or_eq_false_iff, Int.not_lt, Int.not_le] at hc3
              obtain rfl : m = i := by omega
              have hM2 := r2_start (F := F) (r1_end hM)
              refine TW.exit ?_
              refine TQ.thenX ?_
              refine TQ.thenX ?_
              refine TQ.blkX ?_
              refine TQ.thenN (hY16 _ _ ?_)
              refine TW.seq fun Y32 hY32 => ?_
              refine TW.seq fun Y33 hY33 => ?_
              refine TW.region ?_
              refine TL.p Pu.mv ?_
              refine TL.p (Pu.ln Tryz.underlying24) ?_
              refine TL.p Pu.mv ?_
              refine TL.nil ?_
              refine TQ.thenN (hY33 _ _ ?_)
              refine TW.block ?_
              refine TW.loop3 (fun (k : Nat) (g : Gl) (q : Nat) => [(148, .int .i64 (k : Int)), (147, .int .i64 (F.length : Int)), (146, .slice Af F.length cf), (11, .bool true), (12, .slice An m cn), (13, .slice Am L.length cm), (15, .map (some bM)), (0, .slice A np cp), (1, .slice AT m cT), (2, .slice Af F.length cf), (3, .slice AP nP cP), (4, .int .i64 b)]) (fun k g q => .obj bM (gO .i64 g q) :: .own Am L.length cm 3 1 (iL L) :: tiesX m T3 ((An, cn), X, D)) (fun k g q => k ≤ F.length ∧ MP (gl g) (3 * m) (R2 (T0 l v) F k)) (fun k g q => F.length - k) 0 g q (by repeat (first | exact trivial | refine ⟨rfl, ?_⟩ | refine ⟨trivial, ?_⟩)) ?_ ?_ ?_
              · exact (by repeat (first | exact KSub.nil | refine KSub.cons (by repeat (first | exact Pick.hd | apply Pick.tl)) ?_ | exact KSub.refl _ | refine KSub.drop ?_))
              · exact ⟨Nat.zero_le _, hM2⟩
              rintro k g q ⟨hk, hM⟩ Z3 hZ3
              refine TW.seq fun Y34 hY34 => ?_
              refine TW.region ?_
              refine TL.p Pu.lt ?_
              refine TL.nil ?_
              refine TQ.thenN (hY34 _ _ ?_)
              refine TW.seq fun Y35 hY35 => ?_
              refine TW.cond rfl (fun hc6 => ?_) (fun hc6 => ?_)
              · try simp only [decide_eq_true_eq, decide_eq_false_iff_not, Bool.not_eq_true', Bool.not_eq_false', Bool.and_eq_true, Bool.or_eq_true, Bool.and_eq_false_iff, Bool.or_eq_false_iff, Int.not_lt, Int.not_le] at hc6
                have hkl : k < F.length := by omega
                refine TW.skip ?_
                refine TQ.thenN (hY35 _ _ ?_)
                refine TW.seq fun Y36 hY36 => ?_
                refine TW.block ?_
                refine TW.seq fun Y37 hY37 => ?_
                refine TW.region ?_
                refine TL.p (Pu.el ty_et24) ?_
                refine TL.p (Pu.ld ty_sc3) ?_
                refine TL.p Pu.as ?_
                refine TL.nil ?_
                refine TQ.thenN (hY37 _ _ ?_)
                refine TW.region ?_
                refine TL.p Pu.mv ?_
                refine TL.p Pu.mv ?_
                refine TL.deG (i := F.getD k 0) ty_mp32 ?_
                intro g2 hG2
                refine TL.nil ?_
                refine TQ.blkN ?_
                refine TQ.thenN (hY36 _ _ ?_)
                refine TW.region ?_
                refine TL.p Pu.ad ?_
                refine TL.p Pu.mv ?_
                refine TL.nil ?_
                refine TQ.thenN (hZ3 (k + 1) g2 q _ _ ?_ ?_ (by repeat (first | exact trivial | refine ⟨rfl, ?_⟩ | refine ⟨trivial, ?_⟩)) ?_)
                · exact ⟨by omega, by rw [hG2]; exact r2_next hkl hM⟩
                · exact (by first | omega | (simp only []; omega) | (simp; omega))
                · exact (by repeat (first | exact KSub.nil | refine KSub.cons (by repeat (first | exact Pick.hd | apply Pick.tl)) ?_ | exact KSub.refl _ | refine KSub.drop ?_))
              · try simp only [decide_eq_true_eq, decide_eq_false_iff_not, Bool.not_eq_true', Bool.not_eq_false', Bool.and_eq_true, Bool.or_eq_true, Bool.and_eq_false_iff, Bool.or_eq_false_iff, Int.not_lt, Int.not_le] at hc6
                obtain rfl : k = F.length := by omega
                have hM2 := r2_end hM
                refine TW.exit ?_
                refine TQ.thenX ?_
                refine TQ.thenX ?_
                refine TQ.blkX ?_
                refine TQ.thenN (hY32 _ _ ?_)
                refine TW.seq fun Y38 hY38 => ?_
                refine TW.seq fun Y39 hY39 => ?_
                refine TW.region ?_
                refine TL.p Pu.mv ?_
                refine TL.p (Pu.ln Tryz.underlying25) ?_
                refine TL.p Pu.mv ?_
                refine TL.nil ?_
                refine TQ.thenN (hY39 _ _ ?_)
                refine TW.block ?_
                refine TW.loop3 (fun (k : Nat) (g : Gl) (q : Nat) => [(157, .int .i64 (k : Int)), (156, .int .i64 (nP : Int)), (155, .slice AP nP cP), (11, .bool true), (12, .slice An m cn), (13, .slice Am L.length cm), (15, .map (some bM)), (0, .slice A np cp), (1, .slice AT m cT), (2, .slice Af F.length cf), (3, .slice AP nP cP), (4, .int .i64 b)]) (fun k g q => .obj bM (gO .i64 g q) :: .own Am L.length cm 3 1 (iL L) :: tiesX m T3 ((An, cn), X, D)) (fun k g q => k ≤ nP ∧ MP (gl g) (3 * m) (fun x s => x ∈ putT (takeT F (T0 l v)) P k s)) (fun k g q => nP - k) 0 g q (by repeat (first | exact trivial | refine ⟨rfl, ?_⟩ | refine ⟨trivial, ?_⟩)) ?_ ?_ ?_
                · exact (by repeat (first | exact KSub.nil | refine KSub.cons (by repeat (first | exact Pick.hd | apply Pick.tl)) ?_ | exact KSub.refl _ | refine KSub.drop ?_))
                · exact ⟨Nat.zero_le _, hM2⟩
                rintro k g q ⟨hk, hM⟩ Z4 hZ4
                refine TW.seq fun Y40 hY40 => ?_
                refine TW.region ?_
                refine TL.p Pu.lt ?_
                refine TL.nil ?_
                refine TQ.thenN (hY40 _ _ ?_)
                refine TW.seq fun Y41 hY41 => ?_
                refine TW.cond rfl (fun hc7 => ?_) (fun hc7 => ?_)
                · try simp only [decide_eq_true_eq, decide_eq_false_iff_not, Bool.not_eq_true', Bool.not_eq_false', Bool.and_eq_true, Bool.or_eq_true, Bool.and_eq_false_iff, Bool.or_eq_false_iff, Int.not_lt, Int.not_le] at hc7
                  have hkn : k < nP := by omega
                  have hok := hA.ok k hkn
                  have hp0 := hP2 k hkn
                  obtain ⟨hp2, hpS, hp1, hp1m, _⟩ := ok_facts hok hp0
                  have hno := r3_none hM hok hp0
                  have hcS : ((putS (P k) : Nat) : Int) = 3 * P k 1 + P k 2 := by unfold putS; omega
                  refine TW.skip ?_
                  refine TQ.thenN (hY41 _ _ ?_)
                  refine TW.seq fun Y42 hY42 => ?_
                  refine TW.block ?_
                  refine TW.seq fun Y43 hY43 => ?_
                  refine TW.region ?_
                  refine TL.p (Pu.el ty_et25) ?_
                  refine TL.p (Pu.lds ty_ag37) ?_
                  refine TL.m (Mk.al ty_zr37) ?_
                  intro b2
                  first | refine TL.st ty_sz37 ?_ | refine TL.se ty_sz37 ?_
                  refine TL.nil ?_
                  refine TQ.thenN (hY43 _ _ ?_)
                  refine TW.seq fun Y44 hY44 => ?_
                  refine TW.seq fun Y45 hY45 => ?_
                  refine TW.region ?_
                  refine TL.p Pu.mv ?_
                  refine TL.p (by first | exact Pu.fb ty_fa37_0 | exact Pu.fe ty_fa37_0) ?_
                  refine TL.p (Pu.ld ty_sc3) ?_
                  refine TL.p (Pu.lkGn ty_mp32 ty_zv3 hno) ?_
                  refine TL.p Pu.mv ?_
                  refine TL.p Pu.ex ?_
                  refine TL.p Pu.ex ?_
                  refine TL.p Pu.as ?_
                  refine TL.p Pu.as ?_
                  refine TL.nil ?_
                  refine TQ.thenN (hY45 _ _ ?_)
                  refine TW.seq fun Y46 hY46 => ?_
                  refine TW.region ?_
                  refine TL.p Pu.mv ?_
                  refine TL.p Pu.mv ?_
                  refine TL.lit (t := 169) (b' := false) rfl (rfl) ?_
                  refine TL.gd (by first | exact Pu.fb ty_fa37_2 | exact Pu.fe ty_fa37_2) ?_
                  refine TL.gd (Pu.ld ty_sc5) ?_
                  refine TL.gd Pu.gt ?_
                  refine TL.lit (t := 172) (b' := false) rfl ((decide_eq_false (by omega))) ?_
                  refine TL.p Pu.kf ?_
                  refine TL.nil ?_
                  refine TQ.thenN (hY46 _ _ ?_)
                  refine TW.condF rfl rfl ?_
                  refine TW.skip ?_
                  refine TQ.thenN (hY44 _ _ ?_)
                  refine TW.region ?_
                  refine TL.p Pu.mv ?_
                  refine TL.p (by first | exact Pu.fb ty_fa37_0 | exact Pu.fe ty_fa37_0) ?_
                  refine TL.p (Pu.ld ty_sc3) ?_
                  refine TL.p (by first | exact Pu.fb ty_fa37_1 | exact Pu.fe ty_fa37_1) ?_
                  refine TL.p (Pu.ld ty_sc3) ?_
                  refine TL.p Pu.ml ?_
                  refine TL.p (by first | exact Pu.fb ty_fa37_2 | exact Pu.fe ty_fa37_2) ?_
                  refine TL.p (Pu.ld ty_sc5) ?_
                  refine TL.p (Pu.cv (v := .int .i64 (P k 2)) rfl (fun w => by go_simp; rw [IntWalk.i64_in (P k 2) (by omega)])) ?_
                  refine TL.p Pu.ad ?_
                  refine TL.muG (i := P k 0) (v := .int .i64 (3 * P k 1 + P k 2)) ty_mp32 ?_
                  intro g2 q2 hG2
                  refine TL.nil ?_
                  refine TQ.blkN ?_
                  refine TQ.thenN (hY42 _ _ ?_)
                  refine TW.region ?_
                  refine TL.p Pu.ad ?_
                  refine TL.p Pu.mv ?_
                  refine TL.nil ?_
                  refine TQ.thenN (hZ4 (k + 1) g2 q2 _ _ ?_ ?_ (by repeat (first | exact trivial | refine ⟨rfl, ?_⟩ | refine ⟨trivial, ?_⟩)) ?_)
                  · refine ⟨by omega, ?_⟩
                    have h9 := r3_next hM hok hp0
                    rw [hcS] at h9
                    rw [hG2]; exact h9
                  · exact (by first | omega | (simp only []; omega) | (simp; omega))
                  · exact (by repeat (first | exact KSub.nil | refine KSub.cons (by repeat (first | exact Pick.hd | apply Pick.tl)) ?_ | exact KSub.refl _ | refine KSub.drop ?_))
                · try simp only [decide_eq_true_eq, decide_eq_false_iff_not, Bool.not_eq_true', Bool.not_eq_false', Bool.and_eq_true, Bool.or_eq_true, Bool.and_eq_false_iff, Bool.or_eq_false_iff, Int.not_lt, Int.not_le] at hc7
                  obtain rfl : nP = k := by omega
                  have hM2 := r4_start (L := L) hM
                  refine TW.exit ?_
                  refine TQ.thenX ?_
                  refine TQ.thenX ?_
                  refine TQ.blkX ?_
                  refine TQ.thenN (hY38 _ _ ?_)
                  refine TW.seq fun Y47 hY47 => ?_
                  refine TW.seq fun Y48 hY48 => ?_
                  refine TW.region ?_
                  refine TL.p Pu.mv ?_
                  refine TL.p (Pu.ln Tryz.underlying24) ?_
                  refine TL.p Pu.mv ?_
                  refine TL.nil ?_
                  refine TQ.thenN (hY48 _ _ ?_)
                  refine TW.block ?_
                  refine TW.loop3 (fun (k : Nat) (g : Gl) (q : Nat) => [(187, .int .i64 (k : Int)), (186, .int .i64 (L.length : Int)), (185, .slice Am L.length cm), (11, .bool true), (12, .slice An m cn), (13, .slice Am L.length cm), (15, .map (some bM)), (0, .slice A np cp), (1, .slice AT m cT), (2, .slice Af F.length cf), (3, .slice AP nP cP), (4, .int .i64 b)]) (fun k g q => .obj bM (gO .i64 g q) :: .own Am L.length cm 3 1 (iL L) :: tiesX m T3 ((An, cn), X, D)) (fun k g q => k ≤ L.length ∧ MP (gl g) (3 * m) (R4 (tr2 l v F P nP) L k)) (fun k g q => L.length - k) 0 g q (by repeat (first | exact trivial | refine ⟨rfl, ?_⟩ | refine ⟨trivial, ?_⟩)) ?_ ?_ ?_
                  · exact (by repeat (first | exact KSub.nil | refine KSub.cons (by repeat (first | exact Pick.hd | apply Pick.tl)) ?_ | exact KSub.refl _ | refine KSub.drop ?_))
                  · exact ⟨Nat.zero_le _, hM2⟩
                  rintro k g q ⟨hk, hM⟩ Z5 hZ5
                  refine TW.seq fun Y49 hY49 => ?_
                  refine TW.region ?_
                  refine TL.p Pu.lt ?_
                  refine TL.nil ?_
                  refine TQ.thenN (hY49 _ _ ?_)
                  refine TW.seq fun Y50 hY50 => ?_
                  refine TW.cond rfl (fun hc9 => ?_) (fun hc9 => ?_)
                  · try simp only [decide_eq_true_eq, decide_eq_false_iff_not, Bool.not_eq_true', Bool.not_eq_false', Bool.and_eq_true, Bool.or_eq_true, Bool.and_eq_false_iff, Bool.or_eq_false_iff, Int.not_lt, Int.not_le] at hc9
                    have hkl : k < L.length := by omega
                    obtain ⟨s0, hs0, hs2, hmem⟩ := hA.at_ _ (mem_getD hkl)
                    have hlk := r4_get hA.aL hkl hM hs0 hmem
                    have hasc : 0 < k → L.getD (k - 1) 0 < L.getD k 0 := fun h => asc_getD hA.aL (by omega) hkl
                    have hsw : ((sw s0 : Nat) : Int) = (s0 : Int) - (s0 : Int) % 3 + 1 - (s0 : Int) % 3 := by
                      unfold sw
                      by_cases h : s0 % 3 = 0
                      · rw [if_pos h]; omega
                      · rw [if_neg h, if_pos (by omega)]; omega
                    refine TW.skip ?_
                    refine TQ.thenN (hY50 _ _ ?_)
                    refine TW.seq fun Y51 hY51 => ?_
                    refine TW.block ?_
                    refine TW.seq fun Y52 hY52 => ?_
                    refine TW.region ?_
                    refine TL.p Pu.mv ?_
                    refine TL.p (Pu.el ty_et24) ?_
                    refine TL.p (Pu.ld ty_sc3) ?_
                    refine TL.p Pu.as ?_
                    refine TL.p Pu.as ?_
                    refine TL.nil ?_
                    refine TQ.thenN (hY52 _ _ ?_)
                    refine TW.seq fun Y53 hY53 => ?_
                    refine TW.region ?_
                    refine TL.p Pu.mv ?_
                    refine TL.p Pu.mv ?_
                    refine TL.p (Pu.lkGs ty_mp32 ty_zv3 hlk) ?_
                    refine TL.p Pu.mv ?_
                    refine TL.p Pu.ex ?_
                    refine TL.p Pu.ex ?_
                    refine TL.p Pu.as ?_
                    refine TL.p Pu.as ?_
                    refine TL.nil ?_
                    refine TQ.thenN (hY53 _ _ ?_)
                    refine TW.seq fun Y54 hY54 => ?_
                    refine TW.seq fun Y55 hY55 => ?_
                    refine TW.region ?_
                    refine TL.p Pu.mv ?_
                    refine TL.p Pu.no ?_
                    refine TL.lit (t := 199) (b' := false) rfl (rfl) ?_
                    refine TL.p Pu.mv ?_
                    refine TL.gd Pu.mv ?_
                    refine TL.gd Pu.rm ?_
                    refine TL.gd Pu.eq ?_
                    refine TL.lit (t := 203) (b' := false) rfl ((decide_eq_false (by omega))) ?_
                    refine TL.p Pu.kf ?_
                    refine TL.p Pu.mv ?_
                    refine TL.gd Pu.mv ?_
                    refine TL.gd Pu.gt ?_
                    refine TL.gd Pu.mv ?_
                    refine TL.guard (t := 208) rfl (fun hg7 => ?_) (fun hg7 => ?_)
                    · try simp only [decide_eq_true_eq, decide_eq_false_iff_not, Bool.not_eq_true', Bool.not_eq_false', Int.natCast_pos] at hg7
                      refine TL.gd Pu.mv ?_
                      refine TL.gd Pu.mv ?_
                      refine TL.gd Pu.mv ?_
                      refine TL.gd Pu.sb ?_
                      refine TL.gd (Pu.el (q := k - 1) ty_et24 (hk := by omega)) ?_
                      refine TL.gd (Pu.ld ty_sc3) ?_
                      refine TL.gd Pu.le ?_
                      refine TL.lit (t := 215) (b' := false) rfl ((decide_eq_false (by have := hasc (by omega); omega))) ?_
                      refine TL.gd Pu.kt ?_
                      refine TL.p Pu.kf ?_
                      refine TL.nil ?_
                      refine TQ.thenN (hY55 _ _ ?_)
                      refine TW.condF rfl rfl ?_
                      refine TW.skip ?_
                      refine TQ.thenN (hY54 _ _ ?_)
                      refine TW.region ?_
                      refine TL.p Pu.mv ?_
                      refine TL.p Pu.mv ?_
                      refine TL.p Pu.mv ?_
                      refine TL.p Pu.mv ?_
                      refine TL.p Pu.rm ?_
                      refine TL.p Pu.sb ?_
                      refine TL.p Pu.ad ?_
                      refine TL.p Pu.mv ?_
                      refine TL.p Pu.rm ?_
                      refine TL.p Pu.sb ?_
                      refine TL.muG (i := L.getD k 0) (v := .int .i64 ((s0 : Int) - (s0 : Int) % 3 + 1 - (s0 : Int) % 3)) ty_mp32 ?_
                      intro g2 q2 hG2
                      refine TL.nil ?_
                      refine TQ.blkN ?_
                      refine TQ.thenN (hY51 _ _ ?_)
                      refine TW.region ?_
                      refine TL.p Pu.ad ?_
                      refine TL.p Pu.mv ?_
                      refine TL.nil ?_
                      refine TQ.thenN (hZ5 (k + 1) g2 q2 _ _ ?_ ?_ (by repeat (first | exact trivial | refine ⟨rfl, ?_⟩ | refine ⟨trivial, ?_⟩)) ?_)
                      · refine ⟨by omega, ?_⟩
                        have h9 := r4_next hA.s2 hA.aL hkl hM hs0 hmem
                        rw [hsw] at h9
                        rw [hG2]; exact h9
                      · exact (by first | omega | (simp only []; omega) | (simp; omega))
                      · exact (by repeat (first | exact KSub.nil | refine KSub.cons (by repeat (first | exact Pick.hd | apply Pick.tl)) ?_ | exact KSub.refl _ | refine KSub.drop ?_))
                    · try simp only [decide_eq_true_eq, decide_eq_false_iff_not, Bool.not_eq_true', Bool.not_eq_false', Int.natCast_pos] at hg7
                      refine TL.gs ?_
                      refine TL.gs ?_
                      refine TL.gs ?_
                      refine TL.gs ?_
                      refine TL.gs ?_
                      refine TL.gs ?_
                      refine TL.gs ?_
                      refine TL.gd Pu.kf ?_
                      refine TL.p Pu.kf ?_
                      refine TL.nil ?_
                      refine TQ.thenN (hY55 _ _ ?_)
                      refine TW.condF rfl rfl ?_
                      refine TW.skip ?_
                      refine TQ.thenN (hY54 _ _ ?_)
                      refine TW.region ?_
                      refine TL.p Pu.mv ?_
                      refine TL.p Pu.mv ?_
                      refine TL.p Pu.mv ?_
                      refine TL.p Pu.mv ?_
                      refine TL.p Pu.rm ?_
                      refine TL.p Pu.sb ?_
                      refine TL.p Pu.ad ?_
                      refine TL.p Pu.mv ?_
                      refine TL.p Pu.rm ?_
                      refine TL.p Pu.sb ?_
                      refine TL.muG (i := L.getD k 0) (v := .int .i64 ((s0 : Int) - (s0 : Int) % 3 + 1 - (s0 : Int) % 3)) ty_mp32 ?_
                      intro g2 q2 hG2
                      refine TL.nil ?_
                      refine TQ.blkN ?_
                      refine TQ.thenN (hY51 _ _ ?_)
                      refine TW.region ?_
                      refine TL.p Pu.ad ?_
                      refine TL.p Pu.mv ?_
                      refine TL.nil ?_
                      refine TQ.thenN (hZ5 (k + 1) g2 q2 _ _ ?_ ?_ (by repeat (first | exact trivial | refine ⟨rfl, ?_⟩ | refine ⟨trivial, ?_⟩)) ?_)
                      · refine ⟨by omega, ?_⟩
                        have h9 := r4_next hA.s2 hA.aL hkl hM hs0 hmem
                        rw [hsw] at h9
                        rw [hG2]; exact h9
                      · exact (by first | omega | (simp only []; omega) | (simp; omega))
                      · exact (by repeat (first | exact KSub.nil | refine KSub.cons (by repeat (first | exact Pick.hd | apply Pick.tl)) ?_ | exact KSub.refl _ | refine KSub.drop ?_))
                  · try simp only [decide_eq_true_eq, decide_eq_false_iff_not, Bool.not_eq_true', Bool.not_eq_false', Bool.and_eq_true, Bool.or_eq_true, Bool.and_eq_false_iff, Bool.or_eq_false_iff, Int.not_lt, Int.not_le] at hc9
                    obtain rfl : k = L.length := by omega
                    have hM3 : MP (gl g) (3 * m) (fun x s => x ∈ T3 s) := hM.congr fun x s hs => (hA.m3 x s hs).symm
                    refine TW.exit ?_
                    refine TQ.thenX ?_
                    refine TQ.thenX ?_
                    refine TQ.blkX ?_
                    refine TQ.thenN (hY47 _ _ ?_)
                    refine TW.rebase fun w1 hw1 => ?_
                    have hO : w1.heap[bM]? = some (gO .i64 g q) := (hw1.holds (.obj bM (gO .i64 g q)) (by simp)).1
                    have hNx : RdR w1 3 An m (tieX X T3 D) := OwnR.rdr (hw1.holds (.own An m cn 34 3 (tieX X T3 D)) (by simp [tiesX]))
                    have hNi : ∀ s, s < 3 * m → RdR w1 1 (X s) (T3 s).length (iL (T3 s)) := fun s hs => OwnR.rdr (hw1.holds (.own (X s) (T3 s).length (D s) 3 1 (iL (T3 s))) (by simp [tiesX, ownsT_mem hs]))
                    have hR1 := hR.sat hw1 Apart.nil
                    have hG1 := hG.sat hw1 (by simp)
                    have hcl : ((flatT T3 (3 * m)).length : Int) = ((gl g).length : Int) := by rw [hM3.len hA.s3]
                    have hfl : ∀ n, n ≤ 3 * m → (flatT T3 n).length ≤ 240 := fun n hn => by
                      have := flat_len (T := T3) (n := n) fun s hs => ht3 s (by omega)
                      omega
                    have hw1c := hw1.chg
                    refine TW.seq fun Y56 hY56 => ?_
                    refine TW.region ?_
                    refine TL.p Pu.as ?_
                    refine TL.nil ?_
                    refine TQ.thenN (hY56 _ _ ?_)
                    refine TW.seq fun Y57 hY57 => ?_
                    refine TW.seq fun Y58 hY58 => ?_
                    refine TW.region ?_
                    refine TL.p Pu.mv ?_
                    refine TL.p (Pu.ln Tryz.underlying23) ?_
                    refine TL.p Pu.mv ?_
                    refine TL.nil ?_
                    refine TQ.thenN (hY58 _ _ ?_)
                    refine TW.block ?_
                    refine TW.loop1 (fun (i : Nat) => [(231, .int .i64 (i : Int)), (230, .int .i64 (m : Int)), (229, .slice An m cn), (32, .int .i64 ((flatT T3 (3 * i)).length : Int)), (11, .bool true), (12, .slice An m cn), (13, .slice Am L.length cm), (15, .map (some bM)), (0, .slice A np cp), (1, .slice AT m cT), (2, .slice Af F.length cf), (3, .slice AP nP cP), (4, .int .i64 b)]) (fun i => []) (fun i => i ≤ m) (fun i => m - i) 0 (by repeat (first | exact trivial | refine ⟨rfl, ?_⟩ | refine ⟨trivial, ?_⟩)) ?_ ?_ ?_
                    · exact (by repeat (first | exact KSub.nil | refine KSub.cons (by repeat (first | exact Pick.hd | apply Pick.tl)) ?_ | exact KSub.refl _ | refine KSub.drop ?_))
                    · exact Nat.zero_le _
                    rintro i hi Z6 hZ6
                    refine TW.seq fun Y59 hY59 => ?_
                    refine TW.region ?_
                    refine TL.p Pu.lt ?_
                    refine TL.nil ?_
                    refine TQ.thenN (hY59 _ _ ?_)
                    refine TW.seq fun Y60 hY60 => ?_
                    refine TW.cond rfl (fun hc11 => ?_) (fun hc11 => ?_)
                    · try simp only [decide_eq_true_eq, decide_eq_false_iff_not, Bool.not_eq_true', Bool.not_eq_false', Bool.and_eq_true, Bool.or_eq_true, Bool.and_eq_false_iff, Bool.or_eq_false_iff, Int.not_lt, Int.not_le] at hc11
                      have him : i < m := by omega
                      have hL1 : Lay1 w1 A np pk (fun j => X (3 * i + j)) (ldl T3 i) (ldv T3 i) := ⟨hG1, by omega, hR1, fun j hj => hNi (3 * i + j) (by omega), by have := ((check_ok hA.ck).2.2 i him).2; omega⟩
                      have hak : askedV np pk (ldl T3 i) (ldv T3 i) b = 0 := by unfold askedV; rw [if_pos (hA.c1 i him), if_pos (by simp [inB5]; omega)]
                      have hbal : balR np pk (ldl T3 i) (ldv T3 i) b = 2 := (if_pos hak).trans (hA.bl i him)
                      refine TW.skip ?_
                      refine TQ.thenN (hY60 _ _ ?_)
                      refine TW.seq fun Y61 hY61 => ?_
                      refine TW.block ?_
                      refine TW.seq fun Y62 hY62 => ?_
                      refine TW.region ?_
                      refine TL.p Pu.mv ?_
                      refine TL.p (Pu.el ty_et23) ?_
                      refine TL.p (Pu.lds ty_ag34) ?_
                      refine TL.m (Mk.al ty_zr34) ?_
                      intro b3
                      refine TL.p Pu.as ?_
                      first | refine TL.st ty_sz34 ?_ | refine TL.se ty_sz34 ?_
                      refine TL.nil ?_
                      refine TQ.thenN (hY62 _ _ ?_)
                      refine TW.seq fun Y63 hY63 => ?_
                      refine TW.seq fun Y64 hY64 => ?_
                      refine TW.region ?_
                      refine TL.p Pu.mv ?_
                      refine TL.p (Pu.lds ty_ag34) ?_
                      refine TL.p Pu.mv ?_
                      refine TL.cr rfl (enters Tryz.func9 rfl rfl) (fun w hw => by
                          have h := loadBalance_any (c := fun j => D (3 * i + j)) (cp := cp) (b := b) (hL1.sat hw); rw [hbal, hak] at h; exact h) ?_
                      refine TL.p Pu.mv ?_
                      refine TL.p Pu.ex ?_
                      refine TL.p Pu.ex ?_
                      refine TL.p Pu.as ?_
                      refine TL.p Pu.as ?_
                      refine TL.nil ?_
                      refine TQ.thenN (hY64 _ _ ?_)
                      refine TW.seq fun Y65 hY65 => ?_
                      refine TW.region ?_
                      refine TL.p Pu.mv ?_
                      refine TL.p Pu.ne ?_
                      refine TL.lit (t := 244) (b' := false) rfl (rfl) ?_
                      refine TL.p Pu.mv ?_
                      refine TL.gd Pu.mv ?_
                      refine TL.gd Pu.ne ?_
                      refine TL.lit (t := 247) (b' := false) rfl (rfl) ?_
                      refine TL.p Pu.kf ?_
                      refine TL.nil ?_
                      refine TQ.thenN (hY65 _ _ ?_)
                      refine TW.condF rfl rfl ?_
                      refine TW.skip ?_
                      refine TQ.thenN (hY63 _ _ ?_)
                      refine TW.seq fun Y66 hY66 => ?_
                      refine TW.region ?_
                      refine TL.p (by first | exact Pu.fb ty_fa34_0 | exact Pu.fe ty_fa34_0) ?_
                      refine TL.p (Pu.ld ty_sc24) ?_
                      refine TL.p (by first | exact Pu.fb ty_fa34_1 | exact Pu.fe ty_fa34_1) ?_
                      refine TL.p (Pu.ld ty_sc24) ?_
                      refine TL.p (by first | exact Pu.fb ty_fa34_2 | exact Pu.fe ty_fa34_2) ?_
                      refine TL.p (Pu.ld ty_sc24) ?_
                      refine TL.p Pu.bd ?_
                      refine TL.p Pu.mv ?_
                      refine TL.nil ?_
                      refine TQ.thenN (hY66 _ _ ?_)
                      refine TW.block ?_
                      refine TW.loop1 (fun (j : Nat) => [(256, .int .i64 (j : Int)), (255, .agg (tieX X T3 D i).toArray), (33, .int .i64 (i : Int)), (231, .int .i64 (i : Int)), (230, .int .i64 (m : Int)), (229, .slice An m cn), (32, .int .i64 ((flatT T3 (3 * i + j)).length : Int)), (11, .bool true), (12, .slice An m cn), (13, .slice Am L.length cm), (15, .map (some bM)), (0, .slice A np cp), (1, .slice AT m cT), (2, .slice Af F.length cf), (3, .slice AP nP cP), (4, .int .i64 b)]) (fun j => []) (fun j => j ≤ 3) (fun j => 3 - j) 0 (by repeat (first | exact trivial | refine ⟨rfl, ?_⟩ | refine ⟨trivial, ?_⟩)) ?_ ?_ ?_
                      · exact (by repeat (first | exact KSub.nil | refine KSub.cons (by repeat (first | exact Pick.hd | apply Pick.tl)) ?_ | exact KSub.refl _ | refine KSub.drop ?_))
                      · exact Nat.zero_le _
                      rintro j hj Z7 hZ7
                      refine TW.seq fun Y67 hY67 => ?_
                      refine TW.region ?_
                      refine TL.p Pu.lt ?_
                      refine TL.nil ?_
                      refine TQ.thenN (hY67 _ _ ?_)
                      refine TW.seq fun Y68 hY68 => ?_
                      refine TW.cond rfl (fun hc13 => ?_) (fun hc13 => ?_)
                      · try simp only [decide_eq_true_eq, decide_eq_false_iff_not, Bool.not_eq_true', Bool.not_eq_false', Bool.and_eq_true, Bool.or_eq_true, Bool.and_eq_false_iff, Bool.or_eq_false_iff, Int.not_lt, Int.not_le] at hc13
                        have hj3 : j < 3 := by omega
                        have hIij := hNi (3 * i + j) (by omega)
                        have hfij := hfl (3 * i + j) (by omega)
                        have htij := ht3 (3 * i + j) (by omega)
                        refine TW.skip ?_
                        refine TQ.thenN (hY68 _ _ ?_)
                        refine TW.seq fun Y69 hY69 => ?_
                        refine TW.block ?_
                        refine TW.seq fun Y70 hY70 => ?_
                        refine TW.region ?_
                        refine TL.p Pu.mv ?_
                        refine TL.p (Pu.ix rfl rfl (fun w => index_tie (fun j => X (3 * i + j)) (ldl T3 i) (fun j => D (3 * i + j)) j (by omega) w)) ?_
                        refine TL.p Pu.as ?_
                        refine TL.p Pu.as ?_
                        refine TL.nil ?_
                        refine TQ.thenN (hY70 _ _ ?_)
                        refine TW.seq fun Y71 hY71 => ?_
                        refine TW.region ?_
                        refine TL.p Pu.mv ?_
                        refine TL.p (Pu.ln Tryz.underlying24) ?_
                        refine TL.p Pu.mv ?_
                        refine TL.nil ?_
                        refine TQ.thenN (hY71 _ _ ?_)
                        refine TW.block ?_
                        refine TW.loop1 (fun (k : Nat) => [(262, .int .i64 (k : Int)), (261, .int .i64 ((T3 (3 * i + j)).length : Int)), (260, .slice (X (3 * i + j)) (T3 (3 * i + j)).length (D (3 * i + j))), (37, .int .i64 (j : Int)), (256, .int .i64 (j : Int)), (255, .agg (tieX X T3 D i).toArray), (33, .int .i64 (i : Int)), (231, .int .i64 (i : Int)), (230, .int .i64 (m : Int)), (229, .slice An m cn), (32, .int .i64 (((flatT T3 (3 * i + j)).length : Int) + (k : Int))), (11, .bool true), (12, .slice An m cn), (13, .slice Am L.length cm), (15, .map (some bM)), (0, .slice A np cp), (1, .slice AT m cT), (2, .slice Af F.length cf), (3, .slice AP nP cP), (4, .int .i64 b)]) (fun k => []) (fun k => k ≤ (T3 (3 * i + j)).length) (fun k => (T3 (3 * i + j)).length - k) 0 ⟨rfl, rfl, rfl, rfl, rfl, rfl, rfl, rfl, rfl, rfl, (by show some (Value.int .i64 _) = some (Value.int .i64 _); first | (congr 2; done) | (congr 2; simp)), rfl, rfl, rfl, rfl, rfl, rfl, rfl, rfl, rfl, trivial⟩ ?_ ?_ ?_
                        · exact (by repeat (first | exact KSub.nil | refine KSub.cons (by repeat (first | exact Pick.hd | apply Pick.tl)) ?_ | exact KSub.refl _ | refine KSub.drop ?_))
                        · exact Nat.zero_le _
                        rintro k hk Z8 hZ8
                        refine TW.seq fun Y72 hY72 => ?_
                        refine TW.region ?_
                        refine TL.p Pu.lt ?_
                        refine TL.nil ?_
                        refine TQ.thenN (hY72 _ _ ?_)
                        refine TW.seq fun Y73 hY73 => ?_
                        refine TW.cond rfl (fun hc14 => ?_) (fun hc14 => ?_)
                        · try simp only [decide_eq_true_eq, decide_eq_false_iff_not, Bool.not_eq_true', Bool.not_eq_false', Bool.and_eq_true, Bool.or_eq_true, Bool.and_eq_false_iff, Bool.or_eq_false_iff, Int.not_lt, Int.not_le] at hc14
                          have hkl : k < (T3 (3 * i + j)).length := by omega
                          have hlk := hM3.2.2 _ (3 * i + j) (by omega) (mem_getD hkl)
                          refine TW.skip ?_
                          refine TQ.thenN (hY73 _ _ ?_)
                          refine TW.seq fun Y74 hY74 => ?_
                          refine TW.block ?_
                          refine TW.seq fun Y75 hY75 => ?_
                          refine TW.region ?_
                          refine TL.p (Pu.el ty_et24) ?_
                          refine TL.p (Pu.ld ty_sc3) ?_
                          refine TL.p Pu.as ?_
                          refine TL.nil ?_
                          refine TQ.thenN (hY75 _ _ ?_)
                          refine TW.seq fun Y76 hY76 => ?_
                          refine TW.seq fun Y77 hY77 => ?_
                          refine TW.region ?_
                          refine TL.p Pu.mv ?_
                          refine TL.p Pu.mv ?_
                          refine TL.p (Pu.lkOs ty_mp32 ty_zv3 hO (by simp) hlk) ?_
                          refine TL.p Pu.mv ?_
                          refine TL.p Pu.ex ?_
                          refine TL.p Pu.ex ?_
                          refine TL.p Pu.as ?_
                          refine TL.p Pu.as ?_
                          refine TL.nil ?_
                          refine TQ.thenN (hY77 _ _ ?_)
                          refine TW.seq fun Y78 hY78 => ?_
                          refine TW.region ?_
                          refine TL.p Pu.mv ?_
                          refine TL.p Pu.no ?_
                          refine TL.lit (t := 273) (b' := false) rfl (rfl) ?_
                          refine TL.p Pu.mv ?_
                          refine TL.gd Pu.mv ?_
                          refine TL.gd Pu.mv ?_
                          refine TL.gd Pu.ml ?_
                          refine TL.gd Pu.mv ?_
                          refine TL.gd Pu.ad ?_
                          refine TL.gd Pu.ne ?_
                          refine TL.lit (t := 280) (b' := false) rfl ((by simp)) ?_
                          refine TL.p Pu.kf ?_
                          refine TL.nil ?_
                          refine TQ.thenN (hY78 _ _ ?_)
                          refine TW.condF rfl rfl ?_
                          refine TW.skip ?_
                          refine TQ.thenN (hY76 _ _ ?_)
                          refine TW.region ?_
                          refine TL.p Pu.mv ?_
                          refine TL.p Pu.ad ?_
                          refine TL.p Pu.as ?_
                          refine TL.nil ?_
                          refine TQ.blkN ?_
                          refine TQ.thenN (hY74 _ _ ?_)
                          refine TW.region ?_
                          refine TL.p Pu.ad ?_
                          refine TL.p Pu.mv ?_
                          refine TL.nil ?_
                          refine TQ.thenN (hZ8 (k + 1) _ _ ?_ ?_ ⟨rfl, rfl, rfl, rfl, rfl, rfl, rfl, rfl, rfl, rfl, (by show some (Value.int .i64 _) = some (Value.int .i64 _); first | (congr 2; done) | (congr 2; omega)), rfl, rfl, rfl, rfl, rfl, rfl, rfl, rfl, rfl, trivial⟩ ?_)
                          · exact (by omega)
                          · exact (by first | omega | (simp only []; omega) | (simp; omega))
                          · exact (by repeat (first | exact KSub.nil | refine KSub.cons (by repeat (first | exact Pick.hd | apply Pick.tl)) ?_ | exact KSub.refl _ | refine KSub.drop ?_))
                        · try simp only [decide_eq_true_eq, decide_eq_false_iff_not, Bool.not_eq_true', Bool.not_eq_false', Bool.and_eq_true, Bool.or_eq_true, Bool.and_eq_false_iff, Bool.or_eq_false_iff, Int.not_lt, Int.not_le] at hc14
                          obtain rfl : k = (T3 (3 * i + j)).length := by omega
                          refine TW.exit ?_
                          refine TQ.thenX ?_
                          refine TQ.thenX ?_
                          refine TQ.blkX ?_
                          refine TQ.blkN ?_
                          refine TQ.thenN (hY69 _ _ ?_)
                          refine TW.region ?_
                          refine TL.p Pu.ad ?_
                          refine TL.p Pu.mv ?_
                          refine TL.nil ?_
                          refine TQ.thenN (hZ7 (j + 1) _ _ ?_ ?_ ⟨rfl, rfl, rfl, rfl, rfl, rfl, (by show some (Value.int .i64 _) = some (Value.int .i64 _); congr 2; rw [show 3 * i + (j + 1) = (3 * i + j) + 1 by omega, flat_succ_len]; omega), rfl, rfl, rfl, rfl, rfl, rfl, rfl, rfl, rfl, trivial⟩ ?_)
                          · exact (by omega)
                          · exact (by first | omega | (simp only []; omega) | (simp; omega))
                          · exact (by repeat (first | exact KSub.nil | refine KSub.cons (by repeat (first | exact Pick.hd | apply Pick.tl)) ?_ | exact KSub.refl _ | refine KSub.drop ?_))
                      · try simp only [decide_eq_true_eq, decide_eq_false_iff_not, Bool.not_eq_true', Bool.not_eq_false', Bool.and_eq_true, Bool.or_eq_true, Bool.and_eq_false_iff, Bool.or_eq_false_iff, Int.not_lt, Int.not_le] at hc13
                        obtain rfl : j = 3 := by omega
                        refine TW.exit ?_
                        refine TQ.thenX ?_
                        refine TQ.thenX ?_
                        refine TQ.blkX ?_
                        refine TQ.blkN ?_
                        refine TQ.thenN (hY61 _ _ ?_)
                        refine TW.region ?_
                        refine TL.p Pu.ad ?_
                        refine TL.p Pu.mv ?_
                        refine TL.nil ?_
                        refine TQ.thenN (hZ6 (i + 1) _ _ ?_ ?_ (by repeat (first | exact trivial | refine ⟨rfl, ?_⟩ | refine ⟨trivial, ?_⟩)) ?_)
                        · exact (by omega)
                        · exact (by first | omega | (simp only []; omega) | (simp; omega))
                        · exact (by repeat (first | exact KSub.nil | refine KSub.cons (by repeat (first | exact Pick.hd | apply Pick.tl)) ?_ | exact KSub.refl _ | refine KSub.drop ?_))
                    · try simp only [decide_eq_true_eq, decide_eq_false_iff_not, Bool.not_eq_true', Bool.not_eq_false', Bool.and_eq_true, Bool.or_eq_true, Bool.and_eq_false_iff, Bool.or_eq_false_iff, Int.not_lt, Int.not_le] at hc11
                      obtain rfl : m = i := by omega
                      refine TW.exit ?_
                      refine TQ.thenX ?_
                      refine TQ.thenX ?_
                      refine TQ.blkX ?_
                      refine TQ.thenN (hY57 _ _ ?_)
                      refine TW.seq fun Y79 hY79 => ?_
                      refine TW.region ?_
                      refine TL.p Pu.mv ?_
                      refine TL.p Pu.mv ?_
                      refine TL.lit (t := 288) (b' := true) rfl (rfl) ?_
                      refine TL.gd Pu.mv ?_
                      refine TL.gd Pu.mv ?_
                      refine TL.gd (Pu.lnO ty_mp32 hO (by simp)) ?_
                      refine TL.gd Pu.eq ?_
                      refine TL.lit (t := 292) (b' := true) rfl ((decide_eq_true hcl)) ?_
                      refine TL.p Pu.kt ?_
                      refine TL.p Pu.as ?_
                      refine TL.nil ?_
                      refine TQ.thenN (hY79 _ _ ?_)
                      refine TW.ret ?_
                      refine TQ.ret Tryz.results3 rfl ((.tmp rfl .nil)) ?_
                      first
                        | exact fun w hw => ⟨rfl, Chg.ext hw.chg⟩
                        | exact fun w hw => ⟨rfl, Chg.ext (hw1c.trans hw.chg)⟩
end Go.Proofs.YtljhdcclajikiaaGreatDoor
