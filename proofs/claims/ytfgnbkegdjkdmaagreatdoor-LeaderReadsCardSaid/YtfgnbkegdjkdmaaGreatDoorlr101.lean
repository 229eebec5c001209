/-
  Part 1 of the proof of leaderReads_holds: declarations of several texts, in build order. No condition on a program.
-/
import Derived.Lib.ItoaLen
import Derived.Lib.SplitLaws
import Derived.Lib.LastIndexByte
import Derived.Lib.AtoiTie
import Derived.Lib.AtoiAllCases
import Derived.Test.YtfgnbkegdjkdmaaGreatDoorRows
import Derived.WalkKit
import Derived.WalkSpells
import Derived.WalkLawsBesides
import Derived.Deep.QuietTactic
import Derived.BigQuiet
import Derived.OrdersHeld
import Derived.Maps.AppendAt
import Derived.OwnWalk
import Derived.Lib.SliceRun
namespace Go.Proofs.YtfgnbkegdjkdmaaGreatDoor
set_option linter.all false
set_option linter.unusedVariables false
set_option linter.unusedSimpArgs false
open Go.Lib
def ckB (s : Nat) (b : UInt8) : Nat := (37 * s + b.toNat) % 8191
def ckL (s : Nat) (t : List UInt8) : Nat := t.foldl ckB s
theorem ckL_app {s : Nat} {t x : List UInt8} : ckL s (t ++ x) = ckL (ckL s t) x := List.foldl_append
theorem ckL_snoc {s : Nat} {t : List UInt8} {b : UInt8} : ckL s (t ++ [b]) = ckB (ckL s t) b := by rw [ckL_app]; rfl
theorem ckB_lt {s : Nat} {b : UInt8} : ckB s b < 8191 := Nat.mod_lt _ (by decide)
theorem ckL_lt {s : Nat} (hs : s < 8191) : ∀ {t : List UInt8}, ckL s t < 8191
  | [] => hs
  | _ :: t => ckL_lt ckB_lt (t := t)
end Go.Proofs.YtfgnbkegdjkdmaaGreatDoor
namespace Go.Proofs.YtfgnbkegdjkdmaaGreatDoor
set_option linter.all false
set_option linter.unusedVariables false
set_option linter.unusedSimpArgs false
open Go.Lib
def dgV (a : Int) : List UInt8 → Option Int
  | [] => some a
  | b :: t => if 48 ≤ b.toNat ∧ b.toNat ≤ 57 then dgV (10 * a + ((b.toNat : Int) - 48)) t else none
theorem dgV_app : ∀ {t u : List UInt8} {a : Int}, dgV a (t ++ u) = (dgV a t).bind fun m => dgV m u
  | [], u, a => rfl
  | b :: t, u, a => by
    simp only [List.cons_append, dgV]
    split
    · exact dgV_app
    · rfl
theorem dgV_dec : ∀ u : Nat, dgV 0 (decDigits u) = some (u : Int) := by
  intro u
  induction u using Nat.strongRecOn with
  | _ u ih =>
    rw [decDigits]
    by_cases h : u < 10
    · rw [dif_pos h]
      have h1 : (UInt8.ofNat (48 + u)).toNat = 48 + u := by rw [UInt8.toNat_ofNat']; omega
      simp only [dgV, h1]
      rw [if_pos (by omega)]
      congr 1
      omega
    · rw [dif_neg h, dgV_app, ih (u / 10) (by omega)]
      have h1 : (UInt8.ofNat (48 + u % 10)).toNat = 48 + u % 10 := by rw [UInt8.toNat_ofNat']; omega
      simp only [Option.bind_some, dgV, h1]
      rw [if_pos (by omega)]
      congr 1
      omega
theorem dec_head : ∀ u : Nat, ∃ b t, decDigits u = b :: t ∧ b ≠ 45 := by
  intro u
  induction u using Nat.strongRecOn with
  | _ u ih =>
    rw [decDigits]
    by_cases h : u < 10
    · rw [dif_pos h]
      refine ⟨_, _, rfl, fun e => ?_⟩
      have h1 : (UInt8.ofNat (48 + u)).toNat = 48 + u := by rw [UInt8.toNat_ofNat']; omega
      rw [e] at h1
      have h2 : (45 : UInt8).toNat = 45 := rfl
      omega
    · rw [dif_neg h]
      obtain ⟨b, t, e, hb⟩ := ih (u / 10) (by omega)
      exact ⟨b, t ++ [UInt8.ofNat (48 + u % 10)], by rw [e]; rfl, hb⟩
theorem dec_len : ∀ {k u : Nat}, u < 10 ^ (k + 1) → (decDigits u).length ≤ k + 1
  | 0, u, h => by
    rw [decDigits, dif_pos (by simpa using h)]
    exact Nat.le_refl _
  | k + 1, u, h => by
    rw [decDigits]
    by_cases h1 : u < 10
    · rw [dif_pos h1]
      show 1 ≤ _
      omega
    · rw [dif_neg h1, List.length_append]
      have := dec_len (k := k) (u := u / 10) (by rw [Nat.pow_succ] at h; omega)
      show _ + 1 ≤ _
      omega
def rawL : List UInt8 → Option Int
  | [] => none
  | b :: t => if 14 < t.length + 1 then none else if b = 45 then (dgV 0 t).map fun m => -m else dgV 0 (b :: t)
def valL (w : List UInt8) : Option Int := (rawL w).bind fun n => if itoa n = w ∧ -1000000000000 ≤ n ∧ n ≤ 1000000000000 then some n else none
theorem val_raw {n : Int} (h : -1000000000000 ≤ n ∧ n ≤ 1000000000000) : rawL (itoa n) = some n := by
  unfold itoa
  have h9 : (10 : Nat) ^ (12 + 1) = 10000000000000 := by decide
  by_cases h0 : n < 0
  · rw [if_pos h0]
    have h1 := dec_len (k := 12) (u := n.natAbs) (by omega)
    show (if 14 < (decDigits n.natAbs).length + 1 then none else if (45 : UInt8) = 45 then (dgV 0 (decDigits n.natAbs)).map fun m => -m else _) = _
    rw [if_neg (by omega), if_pos rfl, dgV_dec]
    show some (-(n.natAbs : Int)) = some n
    congr 1
    omega
  · rw [if_neg h0]
    have h1 := dec_len (k := 12) (u := n.toNat) (by omega)
    obtain ⟨b, t, e, hb⟩ := dec_head n.toNat
    rw [e] at h1
    rw [e]
    show (if 14 < t.length + 1 then none else if b = 45 then _ else dgV 0 (b :: t)) = _
    rw [if_neg (by simpa using h1 |> fun h => by simp at h ⊢; omega), if_neg hb, ← e, dgV_dec]
    congr 1
    omega
theorem val_iff {w : List UInt8} {n : Int} : valL w = some n ↔ itoa n = w ∧ -1000000000000 ≤ n ∧ n ≤ 1000000000000 := by
  unfold valL
  constructor
  · intro h
    cases h1 : rawL w with
    | none => rw [h1] at h; cases h
    | some m =>
      rw [h1] at h
      simp only [Option.bind_some] at h
      split at h
      · rename_i h2; cases h; exact h2
      · cases h
  · rintro ⟨rfl, h⟩
    rw [val_raw h]
    show (if itoa n = itoa n ∧ -1000000000000 ≤ n ∧ n ≤ 1000000000000 then some n else none) = some n
    exact if_pos ⟨rfl, h⟩
end Go.Proofs.YtfgnbkegdjkdmaaGreatDoor
namespace Go.Proofs.YtfgnbkegdjkdmaaGreatDoor
set_option linter.all false
set_option linter.unusedVariables false
set_option linter.unusedSimpArgs false
open Go.Lib
def wrB (n : Int) : Bool := decide (-1000000000000 ≤ n) && decide (n ≤ 1000000000000)
theorem wrB_iff {n : Int} : wrB n = true ↔ -1000000000000 ≤ n ∧ n ≤ 1000000000000 := by
  unfold wrB
  rw [Bool.and_eq_true, decide_eq_true_eq, decide_eq_true_eq]
structure Ltr where
  id : Int
  day : Int
  kind : Int
  who : Int
  other : Int
  animal : Int
  rials : Int
  mouth : Bool
def cmT : List (List UInt8 × Nat) := [([77, 65, 82, 67, 72], 9), ([82, 69, 83, 84], 4), ([77, 65, 82, 75], 6), ([83, 84, 65, 82], 2), ([78, 69, 65, 82], 3), ([68, 82, 73, 78, 75], 1), ([74, 79, 76, 84], 2), ([83, 69, 84, 84, 76, 69], 1), ([82, 79, 87], 14), ([76, 69, 84, 84, 69, 82], 8)]
def cmB (w : List UInt8) (n : Nat) : Bool := cmT.any fun p => decide (p.1 = w) && decide (n = p.2)
structure Ent where
  day : Int
  word : List UInt8
  args : List Int
theorem cm_one {w : List UInt8} {n m : Nat} (h : (w, m) ∈ cmT) : cmB w n = decide (n = m) := by
  have h1 : ∀ p, p ∈ cmT → ∀ q, q ∈ cmT → p.1 = q.1 → p = q := by decide
  unfold cmB
  by_cases e : n = m
  · subst e
    rw [decide_eq_true rfl]
    exact List.any_eq_true.2 ⟨_, h, by simp⟩
  · rw [decide_eq_false e]
    refine List.any_eq_false.2 fun p hp => ?_
    simp only [Bool.and_eq_true, decide_eq_true_eq, not_and]
    intro h2 h3
    have := h1 p hp _ h h2
    subst this
    exact e h3
theorem cm_none {w : List UInt8} {n : Nat} (h : ∀ p, p ∈ cmT → p.1 ≠ w) : cmB w n = false :=
  List.any_eq_false.2 fun p hp => by
    simp only [Bool.and_eq_true, decide_eq_true_eq, not_and]
    exact fun h2 => absurd h2 (h p hp)
end Go.Proofs.YtfgnbkegdjkdmaaGreatDoor
namespace Go.Proofs.YtfgnbkegdjkdmaaGreatDoor
set_option linter.all false
set_option linter.unusedVariables false
set_option linter.unusedSimpArgs false
open Go.Lib
def spW (c : UInt8) : List UInt8 → List (List UInt8)
  | [] => [[]]
  | b :: t => if b = c then [] :: spW c t else
    match spW c t with
    | [] => [[b]]
    | w :: l => (b :: w) :: l
theorem spW_ne {c : UInt8} : ∀ {l : List UInt8}, spW c l ≠ []
  | [] => fun h => by cases h
  | b :: t => by
    unfold spW
    split
    · exact fun h => by cases h
    · split <;> exact fun h => by cases h
theorem spW_cons {c b : UInt8} {t : List UInt8} (h : b ≠ c) : ∃ w l, spW c t = w :: l ∧ spW c (b :: t) = (b :: w) :: l := by
  rw [spW, if_neg h]
  cases h1 : spW c t with
  | nil => exact absurd h1 spW_ne
  | cons w l => exact ⟨w, l, rfl, rfl⟩
theorem spW_no {c : UInt8} : ∀ {l : List UInt8}, c ∉ l → spW c l = [l]
  | [], _ => rfl
  | b :: t, h => by
    have h1 : b ≠ c := fun e => h (by rw [e]; exact List.mem_cons_self ..)
    have h2 : c ∉ t := fun e => h (List.mem_cons_of_mem _ e)
    rw [spW, if_neg h1, spW_no h2]
theorem spW_at {c : UInt8} : ∀ {a : List UInt8} {b : List UInt8}, c ∉ a → spW c (a ++ c :: b) = a :: spW c b
  | [], b, _ => by rw [List.nil_append, spW, if_pos rfl]
  | x :: a, b, h => by
    have h1 : x ≠ c := fun e => h (by rw [e]; exact List.mem_cons_self ..)
    have h2 : c ∉ a := fun e => h (List.mem_cons_of_mem _ e)
    rw [List.cons_append, spW, if_neg h1, spW_at h2]
theorem spW_last {c : UInt8} : ∀ {a : List UInt8} {b : List UInt8}, c ∉ b → spW c (a ++ c :: b) = spW c a ++ [b]
  | [], b, h => by
    show spW c (c :: b) = [[], b]
    rw [spW, if_pos rfl, spW_no h]
  | x :: a, b, h => by
    rw [List.cons_append, spW, spW_last h, spW]
    split
    · rfl
    · cases h1 : spW c a with
      | nil => exact absurd h1 spW_ne
      | cons w l => rfl
theorem idx_one {c : UInt8} : ∀ {l : List UInt8}, (index l [c] = -1 ∧ c ∉ l) ∨ ∃ a b, l = a ++ c :: b ∧ c ∉ a ∧ index l [c] = (a.length : Int)
  | [] => .inl ⟨rfl, List.not_mem_nil⟩
  | b :: t => by
    by_cases h : b = c
    · subst h
      exact .inr ⟨[], t, rfl, List.not_mem_nil, by rw [index]; simp [List.isPrefixOf]⟩
    · have hp : ([c] : List UInt8).isPrefixOf (b :: t) = false := by simp [List.isPrefixOf, Ne.symm h]
      have hix : index (b :: t) [c] = if index t [c] == -1 then -1 else index t [c] + 1 := by rw [index, hp]; simp
      rcases idx_one (c := c) (l := t) with ⟨h1, h2⟩ | ⟨a, d, rfl, h2, h3⟩
      · refine .inl ⟨by rw [hix, h1]; rfl, fun h3 => ?_⟩
        rcases List.mem_cons.1 h3 with e | h3
        · exact h e.symm
        · exact h2 h3
      · refine .inr ⟨b :: a, d, rfl, fun h4 => ?_, ?_⟩
        · rcases List.mem_cons.1 h4 with e | h4
          · exact h e.symm
          · exact h2 h4
        · rw [hix, h3, if_neg (fun e => by rw [beq_iff_eq] at e; omega), List.length_cons]
          omega
theorem split_spW {c : UInt8} {s : List UInt8} : split s [c] = spW c s := by
  suffices h : ∀ (k : Nat) (s : List UInt8), s.count c = k → splitK [c] 0 k s = spW c s by
    unfold split
    rw [count_one]
    exact h _ _ rfl
  intro k
  induction k with
  | zero =>
    intro s hs
    rw [splitK, spW_no (fun h => by have := List.count_pos_iff.2 h; omega)]
  | succ k ih =>
    intro s hs
    rcases idx_one (c := c) (l := s) with ⟨_, h2⟩ | ⟨a, d, rfl, h2, h3⟩
    · have := List.count_eq_zero.2 h2
      omega
    · have h4 : (a ++ c :: d).count c = d.count c + 1 := by
        rw [List.count_append, List.count_eq_zero.2 h2, List.count_cons_self]
        omega
      rw [splitK, h3, if_neg (fun e => by rw [beq_iff_eq] at e; omega), spW_at h2]
      have e1 : ((a.length : Int).toNat + 0) = a.length := by omega
      have e2 : ((a.length : Int).toNat + [c].length) = a.length + 1 := by rw [List.length_singleton]; omega
      rw [e1, e2, List.take_left', ← ih d (by omega)]
      · congr 2
        rw [List.drop_append]
        simp
      · rfl
end Go.Proofs.YtfgnbkegdjkdmaaGreatDoor
namespace Go.Proofs.YtfgnbkegdjkdmaaGreatDoor
set_option linter.all false
set_option linter.unusedVariables false
set_option linter.unusedSimpArgs false
open Go.Lib
def nmsL : List (List UInt8) → Option (List Int)
  | [] => some []
  | w :: l => (valL w).bind fun n => (nmsL l).map fun m => n :: m
theorem nms_len : ∀ {l : List (List UInt8)} {m : List Int}, nmsL l = some m → m.length = l.length
  | [], m, h => by cases h; rfl
  | w :: l, m, h => by
    unfold nmsL at h
    cases h1 : valL w with
    | none => rw [h1] at h; cases h
    | some n =>
      rw [h1] at h
      simp only [Option.bind_some] at h
      cases h2 : nmsL l with
      | none => rw [h2] at h; cases h
      | some k =>
        rw [h2] at h
        cases h
        rw [List.length_cons, List.length_cons, nms_len h2]
theorem nms_snoc : ∀ {l : List (List UInt8)} {w : List UInt8}, nmsL (l ++ [w]) = (nmsL l).bind fun m => (valL w).map fun n => m ++ [n]
  | [], w => by
    show ((valL w).bind fun n => (nmsL []).map fun m => n :: m) = _
    cases valL w <;> rfl
  | x :: l, w => by
    rw [List.cons_append, nmsL, nms_snoc, nmsL]
    cases valL x with
    | none => rfl
    | some n =>
      simp only [Option.bind_some]
      cases nmsL l with
      | none => rfl
      | some m => cases valL w <;> rfl
theorem nms_empty {l : List (List UInt8)} (h : [] ∈ l) : nmsL l = none := by
  induction l with
  | nil => cases h
  | cons w l ih =>
    unfold nmsL
    rcases List.mem_cons.1 h with e | h
    · rw [← e]; rfl
    · rw [ih h]
      cases valL w <;> rfl
structure Cont where
  rows : List (List Int)
  letters : List (List Int)
  log : List Ent
def lettB (n : List Int) : Bool := decide (0 ≤ n.getD 2 0 ∧ n.getD 2 0 ≤ 255) && decide (0 ≤ n.getD 7 0 ∧ n.getD 7 0 ≤ 1)
def addB (c : Cont) : List (List UInt8) → Option Cont
  | [] => none
  | f :: l => (nmsL l).bind fun n =>
    if c.rows.length + c.letters.length = 300 then none
    else if f = [82] ∧ n.length = 14 ∧ c.letters = [] then some { c with rows := c.rows ++ [n] }
    else if f = [76] ∧ n.length = 8 ∧ lettB n = true then some { c with letters := c.letters ++ [n] }
    else none
def addG (c : Cont) : List (List UInt8) → Option Cont
  | f :: d :: w :: l => if f = [68] ∧ c.log.length ≠ 200 then (valL d).bind fun day => (nmsL l).bind fun args => if cmB w args.length then some { c with log := c.log ++ [⟨day, w, args⟩] } else none else none
  | _ => none
def addL (isLog : Bool) (c : Cont) (l : List (List UInt8)) : Option Cont := if isLog then addG c l else addB c l
theorem addL_empty {isLog : Bool} {c : Cont} {l : List (List UInt8)} (h : [] ∈ l.drop 1) : addL isLog c l = none := by
  unfold addL
  cases isLog with
  | false =>
    rw [if_neg (by decide)]
    cases l with
    | nil => cases h
    | cons f l =>
      have h9 : [] ∈ l := h
      show (nmsL l).bind _ = none
      rw [nms_empty h9]
      rfl
  | true =>
    rw [if_pos rfl]
    rcases l with _ | ⟨f, _ | ⟨d, _ | ⟨w, l⟩⟩⟩
    · rfl
    · rfl
    · rfl
    · have h9 : [] ∈ d :: w :: l := h
      show (if f = [68] ∧ c.log.length ≠ 200 then _ else none) = none
      split
      · rcases List.mem_cons.1 h9 with e | h9
        · rw [← e]; rfl
        · cases valL d with
          | none => rfl
          | some day =>
            show ((nmsL l).bind _) = none
            rcases List.mem_cons.1 h9 with e | h9
            · rw [← e]
              cases nmsL l with
              | none => rfl
              | some a =>
                have h8 : cmB [] a.length = false := cm_none (by decide)
                show (if cmB [] a.length = true then some { c with log := c.log ++ [⟨day, [], a⟩] } else none) = none
                rw [h8]
                rfl
            · rw [nms_empty h9]
              rfl
      · rfl
inductive Ver where
  | bad (e : Int)
  | fin
  | go (c : Cont)
def lnV (isLog : Bool) (c : Cont) (s : Nat) (n : Nat) (a z : List UInt8) (more : Bool) : Ver :=
  match valL z with
  | none => .bad 103
  | some k =>
    let ws := spW 32 a
    if [] ∈ ws then .bad 103
    else if ws.head? = some [69] then
      match nmsL (ws.drop 1) with
      | some [m] => if more then .bad 103 else if k = (ckL s a : Int) ∧ m = (n : Int) then .fin else .bad 104
      | _ => .bad 103
    else match addL isLog c ws with
      | none => .bad 103
      | some c' => if k = (ckL s a : Int) then .go c' else .bad 104
def rdF (isLog : Bool) : Nat → Cont → Nat → Nat → List UInt8 → Int × Int × Cont
  | 0, c, _, n, _ => ((n : Int) + 1, 103, c)
  | k + 1, c, s, n, t =>
    if index t [10] = -1 then ((n : Int) + 1, 103, c)
    else
      let x := t.take (index t [10]).toNat
      let r := t.drop ((index t [10]).toNat + 1)
      if 32 ∉ x then ((n : Int) + 1, 103, c)
      else
        let z := (spW 32 x).getLastD []
        let a := x.take (x.length - z.length - 1)
        match lnV isLog c s n a z (!r.isEmpty) with
        | .bad e => ((n : Int) + 1, e, c)
        | .fin => (0, 0, c)
        | .go c' => rdF isLog k c' (ckL (ckL s x) [10]) (n + 1) r
end Go.Proofs.YtfgnbkegdjkdmaaGreatDoor
namespace Go.Proofs.YtfgnbkegdjkdmaaGreatDoor
set_option linter.all false
set_option linter.unusedVariables false
set_option linter.unusedSimpArgs false
open Go.Lib
theorem last_at {c : UInt8} : ∀ {x : List UInt8}, c ∈ x → ∃ a z, x = a ++ c :: z ∧ c ∉ z
  | b :: t, h => by
    by_cases h1 : c ∈ t
    · obtain ⟨a, z, e, hz⟩ := last_at h1
      exact ⟨b :: a, z, by rw [e]; rfl, hz⟩
    · rcases List.mem_cons.1 h with e | h
      · exact ⟨[], t, by rw [e]; rfl, h1⟩
      · exact absurd h h1
theorem getLastD_snoc {α : Type} {l : List α} {x d : α} : (l ++ [x]).getLastD d = x := by simp
theorem sp_end {x : List UInt8} (h : 32 ∈ x) : ∃ a z, x = a ++ 32 :: z ∧ 32 ∉ z ∧ spW 32 x = spW 32 a ++ [z] ∧ (spW 32 x).getLastD [] = z ∧ x.take (x.length - z.length - 1) = a := by
  obtain ⟨a, z, rfl, hz⟩ := last_at h
  have h1 := spW_last (a := a) hz
  refine ⟨a, z, rfl, hz, h1, by rw [h1, getLastD_snoc], ?_⟩
  have h2 : (a ++ 32 :: z).length - z.length - 1 = a.length := by
    rw [List.length_append, List.length_cons]
    omega
  rw [h2, List.take_left']
  rfl
section
variable {isLog : Bool} {k s n : Nat} {c : Cont} {t x r a z : List UInt8}
theorem rd_none (h : 10 ∉ t) : rdF isLog k c s n t = ((n : Int) + 1, 103, c) := by
  cases k with
  | zero => rfl
  | succ k =>
    have h1 : index t [10] = -1 := by
      rcases idx_one (c := 10) (l := t) with ⟨h1, _⟩ | ⟨a, d, rfl, _, _⟩
      · exact h1
      · exact absurd (List.mem_append_right _ (List.mem_cons_self ..)) h
    show (if index t [10] = -1 then _ else _) = _
    rw [if_pos h1]
theorem rd_line (hx : 10 ∉ x) (hs : 32 ∉ x) : rdF isLog (k + 1) c s n (x ++ 10 :: r) = ((n : Int) + 1, 103, c) := by
  rcases idx_one (c := 10) (l := x ++ 10 :: r) with ⟨_, h⟩ | ⟨a, d, e, h2, h3⟩
  · exact absurd (List.mem_append_right _ (List.mem_cons_self ..)) h
  · obtain ⟨rfl, rfl⟩ : a = x ∧ d = r := by
      have h4 := spW_at (b := d) h2
      have h5 := spW_at (b := r) hx
      rw [← e, h5] at h4
      have h6 := (List.cons.inj h4).1
      subst h6
      have h7 := List.append_cancel_left e
      exact ⟨rfl, (List.cons.inj h7).2.symm⟩
    have e1 : (a ++ 10 :: d).take (index (a ++ 10 :: d) [10]).toNat = a := by
      rw [h3, Int.toNat_natCast, List.take_left']
      rfl
    show (if index (a ++ 10 :: d) [10] = -1 then _ else if 32 ∉ (a ++ 10 :: d).take (index (a ++ 10 :: d) [10]).toNat then _ else _) = _
    rw [if_neg (by rw [h3]; omega), e1, if_pos hs]
theorem rd_step (hx : 10 ∉ a ++ 32 :: z) (hz : 32 ∉ z) : rdF isLog (k + 1) c s n ((a ++ 32 :: z) ++ 10 :: r) = match lnV isLog c s n a z (!r.isEmpty) with
    | .bad e => ((n : Int) + 1, e, c)
    | .fin => (0, 0, c)
    | .go c' => rdF isLog k c' (ckL (ckL s (a ++ 32 :: z)) [10]) (n + 1) r := by
  rcases idx_one (c := 10) (l := (a ++ 32 :: z) ++ 10 :: r) with ⟨_, h⟩ | ⟨y, d, e, h2, h3⟩
  · exact absurd (List.mem_append_right _ (List.mem_cons_self ..)) h
  · obtain ⟨e5, rfl⟩ : y = a ++ 32 :: z ∧ d = r := by
      have h4 := spW_at (b := d) h2
      have h5 := spW_at (b := r) hx
      rw [← e, h5] at h4
      have h6 := (List.cons.inj h4).1
      rw [← h6] at e
      have h7 := List.append_cancel_left e
      exact ⟨h6.symm, (List.cons.inj h7).2.symm⟩
    rw [e5] at h3
    have e1 : ((a ++ 32 :: z) ++ 10 :: d).take (index ((a ++ 32 :: z) ++ 10 :: d) [10]).toNat = a ++ 32 :: z := by
      rw [h3, Int.toNat_natCast, List.take_left']
      rfl
    have e2 : ((a ++ 32 :: z) ++ 10 :: d).drop ((index ((a ++ 32 :: z) ++ 10 :: d) [10]).toNat + 1) = d := by
      rw [h3, Int.toNat_natCast, List.drop_append]
      simp
    have e3 : (spW 32 (a ++ 32 :: z)).getLastD [] = z := by rw [spW_last hz, getLastD_snoc]
    have e4 : (a ++ 32 :: z).take ((a ++ 32 :: z).length - z.length - 1) = a := by
      have h2 : (a ++ 32 :: z).length - z.length - 1 = a.length := by
        rw [List.length_append, List.length_cons]
        omega
      rw [h2, List.take_left']
      rfl
    have h4 : (32 : UInt8) ∈ a ++ 32 :: z := List.mem_append_right _ (List.mem_cons_self ..)
    rw [rdF]
    rw [if_neg (by rw [h3]; omega)]
    simp only [e1, e2, e3, e4]
    rw [if_neg (fun h => h h4)]
    all_goals (cases lnV isLog c s n a z (!d.isEmpty) <;> rfl)
theorem lnV_code {more : Bool} : lnV isLog c s n a z more = match valL z with
    | none => .bad 103
    | some k => if (spW 32 a).head? = some [] then .bad 103
      else if (spW 32 a).head? = some [69] then
        match nmsL ((spW 32 a).drop 1) with
        | some [m] => if more then .bad 103 else if k = (ckL s a : Int) ∧ m = (n : Int) then .fin else .bad 104
        | _ => .bad 103
      else match addL isLog c (spW 32 a) with
        | none => .bad 103
        | some c' => if k = (ckL s a : Int) then .go c' else .bad 104 := by
  unfold lnV
  cases valL z with
  | none => rfl
  | some k =>
    dsimp only
    obtain ⟨w, l, hw⟩ : ∃ w l, spW 32 a = w :: l := by
      cases h : spW 32 a with
      | nil => exact absurd h spW_ne
      | cons w l => exact ⟨w, l, rfl⟩
    rw [hw]
    by_cases h1 : [] ∈ w :: l
    · rw [if_pos h1]
      by_cases h2 : (w :: l).head? = some []
      · rw [if_pos h2]
      · rw [if_neg h2]
        have h3 : [] ∈ (w :: l).drop 1 := by
          rcases List.mem_cons.1 h1 with e | h
          · exact absurd (by rw [← e]; rfl) h2
          · exact h
        split
        · rw [nms_empty h3]
        · rw [addL_empty h3]
    · have h2 : (w :: l).head? ≠ some [] := fun e => h1 (by
        have h4 : w = [] := Option.some.inj e
        rw [h4]
        exact List.mem_cons_self ..)
      rw [if_neg h1, if_neg h2]
      all_goals (
        split
        · rcases nmsL ((w :: l).drop 1) with _ | (_ | ⟨m, _ | ⟨m2, l2⟩⟩) <;> rfl
        · rcases addL isLog c (w :: l) with _ | c2 <;> rfl)
end
end Go.Proofs.YtfgnbkegdjkdmaaGreatDoor
namespace Go.Proofs.YtfgnbkegdjkdmaaGreatDoor
set_option linter.all false
set_option linter.unusedVariables false
set_option linter.unusedSimpArgs false
open Go.Lib
theorem spW_mid {c : UInt8} : ∀ {a b : List UInt8}, spW c (a ++ c :: b) = spW c a ++ spW c b
  | [], b => by
    show spW c (c :: b) = [] :: spW c b
    rw [spW, if_pos rfl]
  | x :: a, b => by
    rw [List.cons_append, spW, spW_mid, spW]
    split
    · rfl
    · cases h1 : spW c a with
      | nil => exact absurd h1 spW_ne
      | cons w l => rfl
theorem spW_more {c b : UInt8} (hb : b ≠ c) : ∀ {a : List UInt8} {d : List (List UInt8)} {w : List UInt8}, spW c a = d ++ [w] → spW c (a ++ [b]) = d ++ [w ++ [b]]
  | [], d, w, h => by
    have h1 : [[]] = d ++ [w] := h
    have h2 : d = [] := by
      cases d with
      | nil => rfl
      | cons x d =>
        have := congrArg List.length h1
        simp at this
    subst h2
    have h3 : w = [] := by
      have := (List.cons.inj h1).1
      exact this.symm
    subst h3
    show spW c [b] = [[b]]
    exact spW_no (by simpa using Ne.symm hb)
  | x :: a, d, w, h => by
    rw [List.cons_append]
    by_cases hx : x = c
    · rw [spW, if_pos hx] at h ⊢
      cases d with
      | nil =>
        have h1 := (List.cons.inj h).2
        exact absurd h1 spW_ne
      | cons y d =>
        obtain ⟨h1, h2⟩ := List.cons.inj h
        rw [spW_more hb h2, ← h1]
        rfl
    · obtain ⟨v, l, e1, e2⟩ := spW_cons (c := c) (t := a) hx
      rw [e2] at h
      obtain ⟨v2, l2, e3, e4⟩ := spW_cons (c := c) (t := a ++ [b]) hx
      rw [e4]
      cases d with
      | nil =>
        obtain ⟨h1, h2⟩ := List.cons.inj h
        have h3 := spW_more (a := a) (d := []) (w := v) hb (by rw [e1, h2]; rfl)
        rw [e3] at h3
        obtain ⟨h4, h5⟩ := List.cons.inj h3
        rw [h4, h5, ← h1]
        rfl
      | cons y d =>
        obtain ⟨h1, h2⟩ := List.cons.inj h
        have h3 := spW_more (a := a) (d := v :: d) (w := w) hb (by rw [e1, h2]; rfl)
        rw [e3] at h3
        obtain ⟨h4, h5⟩ := List.cons.inj h3
        rw [h4, h5, ← h1]
        rfl
theorem spW_cut {c : UInt8} {a : List UInt8} : spW c (a ++ [c]) = spW c a ++ [[]] := spW_mid
def mkP (p : Nat) : List (List UInt8) → List (Nat × Nat)
  | [] => []
  | w :: l => (p, p + w.length) :: mkP (p + w.length + 1) l
def mkE : List (List UInt8) → Nat
  | [] => 0
  | w :: l => w.length + 1 + mkE l
theorem mkP_len {p : Nat} : ∀ {l : List (List UInt8)}, (mkP p l).length = l.length
  | [] => rfl
  | w :: l => by rw [mkP, List.length_cons, List.length_cons, mkP_len]
theorem mkE_app : ∀ {l m : List (List UInt8)}, mkE (l ++ m) = mkE l + mkE m
  | [], m => by rw [List.nil_append, mkE, Nat.zero_add]
  | w :: l, m => by rw [List.cons_append, mkE, mkE, mkE_app]; omega
theorem mkP_app {p : Nat} : ∀ {l m : List (List UInt8)}, mkP p (l ++ m) = mkP p l ++ mkP (p + mkE l) m := by
  intro l
  induction l generalizing p with
  | nil => exact fun {m} => rfl
  | cons w l ih =>
    intro m
    rw [List.cons_append, mkP, ih, mkP, mkE, List.cons_append]
    congr 3
    omega
theorem mkP_snoc {p : Nat} {l : List (List UInt8)} {w : List UInt8} : mkP p (l ++ [w]) = mkP p l ++ [(p + mkE l, p + mkE l + w.length)] := mkP_app
theorem mkE_len {c : UInt8} : ∀ {a : List UInt8}, mkE (spW c a) = a.length + 1
  | [] => rfl
  | b :: a => by
    by_cases h : b = c
    · rw [spW, if_pos h, mkE, mkE_len, List.length_nil, List.length_cons]
      omega
    · obtain ⟨w, l, e1, e2⟩ := spW_cons (c := c) (t := a) h
      have h1 := mkE_len (c := c) (a := a)
      rw [e1, mkE] at h1
      rw [e2, mkE, List.length_cons, List.length_cons]
      omega
theorem mkP_word {c : UInt8} : ∀ {a : List UInt8} {k : Nat}, k < (spW c a).length → (a.drop ((mkP 0 (spW c a)).getD k (0, 0)).1).take (((mkP 0 (spW c a)).getD k (0, 0)).2 - ((mkP 0 (spW c a)).getD k (0, 0)).1) = (spW c a).getD k [] := by
  suffices h : ∀ (m : Nat) (a : List UInt8) (p k : Nat) (u : List UInt8), a.length ≤ m → u.length = p → k < (spW c a).length → ((u ++ a).drop ((mkP p (spW c a)).getD k (0, 0)).1).take (((mkP p (spW c a)).getD k (0, 0)).2 - ((mkP p (spW c a)).getD k (0, 0)).1) = (spW c a).getD k [] by
    intro a k hk
    exact h a.length a 0 k [] (Nat.le_refl _) rfl hk
  intro m
  induction m with
  | zero =>
    intro a p k u ha hu hk
    obtain rfl : a = [] := List.eq_nil_of_length_eq_zero (by omega)
    obtain rfl : k = 0 := by
      have : k < 1 := hk
      omega
    subst hu
    show ((u ++ []).drop u.length).take (u.length + 0 - u.length) = []
    simp
  | succ m ih =>
    intro a p k u ha hu hk
    by_cases hc : c ∈ a
    · obtain ⟨x, y, e, hx⟩ : ∃ x y, a = x ++ c :: y ∧ c ∉ x := by
        rcases idx_one (c := c) (l := a) with ⟨_, h⟩ | ⟨x, y, e, h, _⟩
        · exact absurd hc h
        · exact ⟨x, y, e, h⟩
      subst e
      rw [spW_at hx] at hk ⊢
      subst hu
      cases k with
      | zero =>
        show ((u ++ (x ++ c :: y)).drop u.length).take (u.length + x.length - u.length) = x
        rw [List.drop_left', Nat.add_sub_cancel_left, List.take_left'] <;> rfl
      | succ k =>
        have h1 := ih y (u.length + x.length + 1) k (u ++ x ++ [c]) (by rw [List.length_append, List.length_cons] at ha; omega) (by simp; omega) (by rw [List.length_cons] at hk; omega)
        have h2 : u ++ x ++ [c] ++ y = u ++ (x ++ c :: y) := by simp
        rw [h2] at h1
        exact h1
    · rw [spW_no hc] at hk ⊢
      obtain rfl : k = 0 := by
        have : k < 1 := hk
        omega
      subst hu
      show ((u ++ a).drop u.length).take (u.length + a.length - u.length) = a
      rw [List.drop_left', Nat.add_sub_cancel_left, List.take_length]
      rfl
end Go.Proofs.YtfgnbkegdjkdmaaGreatDoor
namespace Go.Proofs.YtfgnbkegdjkdmaaGreatDoor
set_option linter.all false
set_option linter.unusedVariables false
set_option linter.unusedSimpArgs false
open Go.Lib
section
variable {isLog : Bool} {k s n : Nat} {c c' c1 c2 : Cont} {x r : List UInt8} {l m : List (List UInt8)}
theorem line_cases (t : List UInt8) : 10 ∉ t ∨ (∃ x r, t = x ++ 10 :: r ∧ 10 ∉ x ∧ 32 ∉ x) ∨ ∃ a z r, t = (a ++ 32 :: z) ++ 10 :: r ∧ 10 ∉ a ++ 32 :: z ∧ 32 ∉ z := by
  rcases idx_one (c := 10) (l := t) with ⟨_, h⟩ | ⟨x, r, e, h, _⟩
  · exact .inl h
  · by_cases h32 : 32 ∈ x
    · obtain ⟨a, z, e2, hz, _⟩ := sp_end h32
      exact .inr (.inr ⟨a, z, r, by rw [← e2]; exact e, by rw [← e2]; exact h, hz⟩)
    · exact .inr (.inl ⟨x, r, e, h, h32⟩)
theorem rd_err : ∀ {k : Nat} {c : Cont} {s n : Nat} {t : List UInt8}, (rdF isLog k c s n t).2.1 = 0 ∧ (rdF isLog k c s n t).1 = 0 ∨ (rdF isLog k c s n t).2.1 = 103 ∨ (rdF isLog k c s n t).2.1 = 104
  | 0, c, s, n, t => .inr (.inl rfl)
  | k + 1, c, s, n, t => by
    rcases line_cases t with h1 | ⟨x, r, rfl, h1, h2⟩ | ⟨a, z, r, rfl, h1, h2⟩
    · rw [rd_none h1]; exact .inr (.inl rfl)
    · rw [rd_line h1 h2]; exact .inr (.inl rfl)
    · rw [rd_step h1 h2]
      have hb : ∀ e, lnV isLog c s n a z (!r.isEmpty) = .bad e → e = 103 ∨ e = 104 := by
        intro e he
        rw [lnV_code] at he
        cases h3 : valL z with
        | none => rw [h3] at he; cases he; exact .inl rfl
        | some kk =>
          rw [h3] at he
          dsimp only at he
          by_cases h4 : (spW 32 a).head? = some []
          · rw [if_pos h4] at he; cases he; exact .inl rfl
          · rw [if_neg h4] at he
            by_cases h5 : (spW 32 a).head? = some [69]
            · rw [if_pos h5] at he
              rcases hm : nmsL ((spW 32 a).drop 1) with _ | (_ | ⟨m, _ | ⟨m2, l2⟩⟩)
              · rw [hm] at he; cases he; exact .inl rfl
              · rw [hm] at he; cases he; exact .inl rfl
              · rw [hm] at he
                dsimp only at he
                by_cases h6 : (!r.isEmpty) = true
                · rw [if_pos h6] at he; cases he; exact .inl rfl
                · rw [if_neg h6] at he
                  by_cases h7 : kk = (ckL s a : Int) ∧ m = (n : Int)
                  · rw [if_pos h7] at he; cases he
                  · rw [if_neg h7] at he; cases he; exact .inr rfl
              · rw [hm] at he; cases he; exact .inl rfl
            · rw [if_neg h5] at he
              cases h6 : addL isLog c (spW 32 a) with
              | none => rw [h6] at he; cases he; exact .inl rfl
              | some c1 =>
                rw [h6] at he
                dsimp only at he
                by_cases h7 : kk = (ckL s a : Int)
                · rw [if_pos h7] at he; cases he
                · rw [if_neg h7] at he; cases he; exact .inr rfl
      cases hv : lnV isLog c s n a z (!r.isEmpty) with
      | bad e => exact .inr (hb e hv)
      | fin => exact .inl ⟨rfl, rfl⟩
      | go c1 => exact rd_err
end
end Go.Proofs.YtfgnbkegdjkdmaaGreatDoor
namespace Go.Proofs.YtfgnbkegdjkdmaaGreatDoor
set_option linter.all false
set_option linter.unusedVariables false
set_option linter.unusedSimpArgs false
open Go.Lib
theorem decFrom_dgV : ∀ {l : List UInt8} {a : Nat}, (decFrom a l).map (fun m : Nat => (m : Int)) = dgV (a : Int) l
  | [], a => rfl
  | b :: t, a => by
    unfold decFrom dgV digitVal
    by_cases h : 48 ≤ b.toNat ∧ b.toNat ≤ 57
    · rw [if_pos h, if_pos h]
      dsimp only
      rw [decFrom_dgV]
      congr 1
      omega
    · rw [if_neg h, if_neg h]
      rfl
theorem decFrom_dec (u : Nat) : decFrom 0 (decDigits u) = some u := by
  have h := decFrom_dgV (l := decDigits u) (a := 0)
  rw [show ((0 : Nat) : Int) = 0 from rfl, dgV_dec] at h
  cases h1 : decFrom 0 (decDigits u) with
  | none => rw [h1] at h; cases h
  | some m =>
    rw [h1] at h
    have h2 : (m : Int) = u := Option.some.inj h
    congr 1
    omega
theorem decNat_dec (u : Nat) : decNat (decDigits u) = some u := by
  obtain ⟨b, t, e, _⟩ := dec_head u
  unfold decNat
  rw [if_neg (by rw [e]; exact Bool.false_ne_true), decFrom_dec]
theorem atoi_itoa (n : Int) : atoi (itoa n) = some n := by
  unfold itoa
  by_cases h0 : n < 0
  · rw [if_pos h0]
    show (decNat (decDigits n.natAbs)).map (fun (m : Nat) => -(m : Int)) = some n
    rw [decNat_dec]
    show some (-(n.natAbs : Int)) = some n
    congr 1
    omega
  · rw [if_neg h0]
    have h1 := decNat_dec n.toNat
    obtain ⟨b, t, e, hb⟩ := dec_head n.toNat
    have h2 := decFrom_dec n.toNat
    rw [e] at h1 h2 ⊢
    have h43 : b ≠ 43 := fun e2 => by rw [e2] at h2; cases h2
    show (if b == 45 then _ else if b == 43 then _ else (decNat (b :: t)).map fun (m : Nat) => (m : Int)) = some n
    rw [if_neg (by simpa using hb), if_neg (by simpa using h43), h1]
    show some ((n.toNat : Int)) = some n
    congr 1
    omega
theorem itoa_short {n : Int} (h : -1000000000000 ≤ n ∧ n ≤ 1000000000000) : (itoa n).length ≤ 14 := by
  have h9 : (10 : Nat) ^ (12 + 1) = 10000000000000 := by decide
  unfold itoa
  by_cases h0 : n < 0
  · rw [if_pos h0]
    have h1 := dec_len (k := 12) (u := n.natAbs) (by omega)
    rw [List.length_cons]
    omega
  · rw [if_neg h0]
    have h1 := dec_len (k := 12) (u := n.toNat) (by omega)
    omega
theorem atoiAll_itoa {n : Int} (h : -1000000000000 ≤ n ∧ n ≤ 1000000000000) : atoiAll (itoa n) = .ok n := by
  rw [atoiAll_short _ (by have := itoa_short h; omega), atoi_itoa]
  rfl
def atN (w : List UInt8) : Int := match atoiAll w with | .ok v => v | .range => atoiSat w | _ => 0
def atB (w : List UInt8) : Bool := match atoiAll w with | .ok _ => true | _ => false
theorem atN_bd (w : List UInt8) : -9223372036854775808 ≤ atN w ∧ atN w ≤ 9223372036854775807 := by
  unfold atN
  rcases h : atoiAll w with v | _ | _
  · exact atoiAll_bounds h
  · exact ⟨by show (-9223372036854775808 : Int) ≤ 0; decide, by show (0 : Int) ≤ 9223372036854775807; decide⟩
  · exact atoiSat_bounds w
theorem val_code {w : List UInt8} : valL w = if atB w = true ∧ wrB (atN w) = true ∧ itoa (atN w) = w then some (atN w) else none := by
  split
  · rename_i h
    exact val_iff.2 ⟨h.2.2, wrB_iff.1 h.2.1⟩
  · rename_i h
    cases h1 : valL w with
    | none => rfl
    | some n =>
      refine absurd ?_ h
      obtain ⟨h2, h3⟩ := val_iff.1 h1
      have h4 := atoiAll_itoa h3
      rw [h2] at h4
      have e1 : atN w = n := by unfold atN; rw [h4]
      have e2 : atB w = true := by unfold atB; rw [h4]
      exact ⟨e2, by rw [e1]; exact wrB_iff.2 h3, by rw [e1]; exact h2⟩
theorem cut_none {c : UInt8} {t : List UInt8} (h : c ∉ t) : cut t [c] = (t, [], false) := by
  rcases idx_one (c := c) (l := t) with ⟨h1, _⟩ | ⟨a, d, rfl, _, _⟩
  · unfold cut
    rw [h1]
    rfl
  · exact absurd (List.mem_append_right _ (List.mem_cons_self ..)) h
theorem cut_at {c : UInt8} {x r : List UInt8} (h : c ∉ x) : cut (x ++ c :: r) [c] = (x, r, true) := by
  rcases idx_one (c := c) (l := x ++ c :: r) with ⟨_, h1⟩ | ⟨a, d, e, h2, h3⟩
  · exact absurd (List.mem_append_right _ (List.mem_cons_self ..)) h1
  · obtain ⟨rfl, rfl⟩ : a = x ∧ d = r := by
      have h4 := spW_at (b := d) h2
      have h5 := spW_at (b := r) h
      rw [← e, h5] at h4
      have h6 := (List.cons.inj h4).1
      subst h6
      have h7 := List.append_cancel_left e
      exact ⟨rfl, (List.cons.inj h7).2.symm⟩
    unfold cut
    rw [h3, if_pos (by omega), Int.toNat_natCast]
    refine Prod.ext (List.take_left' rfl) (Prod.ext ?_ rfl)
    show List.drop (a.length + [c].length) (a ++ c :: d) = d
    rw [List.drop_append]
    simp
theorem bang_at {l : List UInt8} {j : Nat} : (⟨l.toArray⟩ : ByteArray).data[j]! = l.getD j 0 := by
  rw [getElem!_def, List.getD_eq_getElem?_getD]
  have e : (⟨l.toArray⟩ : ByteArray).data[j]? = l[j]? := List.getElem?_toArray
  rw [e]
  cases l[j]? <;> rfl
theorem lix_none {x : List UInt8} (h : (32 : UInt8) ∉ x) : lastIndexByte ⟨x.toArray⟩ 32 = -1 := by
  rcases lastIndexByte_spec ⟨x.toArray⟩ 32 with ⟨e, _⟩ | ⟨i, hi, _, hc, _⟩
  · exact e
  · rw [bang_at] at hc
    have hi' : i < x.length := by simpa [ByteArray.size] using hi
    refine absurd ?_ h
    have e1 : x.getD i 0 = x[i] := by rw [List.getD_eq_getElem?_getD, List.getElem?_eq_getElem hi']; rfl
    rw [e1] at hc
    have e2 : x[i] = 32 := UInt8.toNat_inj.1 (by have : (32 : UInt8).toNat = 32 := rfl; omega)
    rw [← e2]
    exact List.getElem_mem hi'
theorem lix_at {a z : List UInt8} (h : (32 : UInt8) ∉ z) : lastIndexByte ⟨(a ++ 32 :: z).toArray⟩ 32 = (a.length : Int) := by
  have hs : (⟨(a ++ 32 :: z).toArray⟩ : ByteArray).size = a.length + z.length + 1 := by
    show (a ++ 32 :: z).toArray.size = _
    rw [List.size_toArray, List.length_append, List.length_cons]
    omega
  have ha : (a ++ 32 :: z).getD a.length 0 = 32 := by rw [List.getD_eq_getElem?_getD, List.getElem?_append_right (Nat.le_refl _), Nat.sub_self]; rfl
  rcases lastIndexByte_spec ⟨(a ++ 32 :: z).toArray⟩ 32 with ⟨_, hn⟩ | ⟨i, hi, e, hc, hn⟩
  · have h1 := hn a.length (by omega)
    rw [bang_at, ha] at h1
    exact absurd rfl h1
  · rw [e]
    rw [hs] at hi
    rw [bang_at] at hc
    rcases Nat.lt_trichotomy i a.length with h1 | rfl | h1
    · have h2 := hn a.length h1 (by omega)
      rw [bang_at, ha] at h2
      exact absurd rfl h2
    · rfl
    · refine absurd ?_ h
      have h2 : (a ++ 32 :: z).getD i 0 = z.getD (i - a.length - 1) 0 := by
        rw [List.getD_eq_getElem?_getD, List.getElem?_append_right (by omega), show i - a.length = (i - a.length - 1) + 1 by omega, List.getElem?_cons_succ, ← List.getD_eq_getElem?_getD]
        congr 1
      rw [h2] at hc
      have h3 : i - a.length - 1 < z.length := by omega
      rw [List.getD_eq_getElem?_getD, List.getElem?_eq_getElem h3] at hc
      have e2 : z[i - a.length - 1] = 32 := UInt8.toNat_inj.1 (by have : (32 : UInt8).toNat = 32 := rfl; have h5 : ((z[i - a.length - 1].toNat : Nat) : Int) = 32 := hc; omega)
      rw [← e2]
      exact List.getElem_mem h3
theorem splitB_spW {a : List UInt8} : (splitB ⟨#[32]⟩ 0 (countB ⟨a.toArray⟩ ⟨#[32]⟩) ⟨a.toArray⟩) = (spW 32 a).map (fun w => (⟨w.toArray⟩ : ByteArray)) := by
  have h := splitB_data ⟨#[32]⟩ 0 (countB ⟨a.toArray⟩ ⟨#[32]⟩) ⟨a.toArray⟩
  have h1 : splitK [32] 0 (countB ⟨a.toArray⟩ ⟨#[32]⟩) a = spW 32 a := by
    rw [← split_spW]
    rfl
  have h2 : (splitB ⟨#[32]⟩ 0 (countB ⟨a.toArray⟩ ⟨#[32]⟩) ⟨a.toArray⟩).map (fun s => s.data.toList) = spW 32 a := h.trans h1
  rw [← h2, List.map_map]
  conv => lhs; rw [← List.map_id (splitB ⟨#[32]⟩ 0 (countB ⟨a.toArray⟩ ⟨#[32]⟩) ⟨a.toArray⟩)]
  refine List.map_congr_left fun s _ => ?_
  rfl
theorem countB_spW {a : List UInt8} : countB ⟨a.toArray⟩ ⟨#[32]⟩ + 1 = (spW 32 a).length := by
  have h := splitB_all ⟨#[32]⟩ (by decide) 0 _ ⟨a.toArray⟩ rfl
  rw [splitB_spW, List.length_map] at h
  exact h.symm
end Go.Proofs.YtfgnbkegdjkdmaaGreatDoor
namespace Go.Proofs.YtfgnbkegdjkdmaaGreatDoor
set_option linter.all false
set_option linter.unusedVariables false
set_option linter.unusedSimpArgs false
open Go.Lib
section
variable {isLog : Bool} {s n : Nat} {c c' : Cont} {t u x : List UInt8} {l m : List (List UInt8)}
theorem rd_fuel : ∀ {k j : Nat} {c : Cont} {s n : Nat} {t : List UInt8}, t.length ≤ k → t.length ≤ j → rdF isLog k c s n t = rdF isLog j c s n t
  | 0, j, c, s, n, t, h, _ => by
    obtain rfl : t = [] := List.eq_nil_of_length_eq_zero (by omega)
    rw [rd_none List.not_mem_nil, rd_none List.not_mem_nil]
  | k + 1, 0, c, s, n, t, _, h => by
    obtain rfl : t = [] := List.eq_nil_of_length_eq_zero (by omega)
    rw [rd_none List.not_mem_nil, rd_none List.not_mem_nil]
  | k + 1, j + 1, c, s, n, t, h, h2 => by
    rcases line_cases t with h1 | ⟨x, r, rfl, h1, h3⟩ | ⟨a, z, r, rfl, h1, h3⟩
    · rw [rd_none h1, rd_none h1]
    · rw [rd_line h1 h3, rd_line h1 h3]
    · rw [rd_step h1 h3, rd_step h1 h3]
      cases lnV isLog c s n a z (!r.isEmpty) with
      | bad e => rfl
      | fin => rfl
      | go c1 =>
        simp only [List.length_append, List.length_cons] at h h2
        exact rd_fuel (by omega) (by omega)
def rdT (isLog : Bool) (t : List UInt8) : Int × Int × Cont := rdF isLog t.length ⟨[], [], []⟩ 23 0 t
def fOf (R : List (List Int)) : Nat → Nat → Int := fun i j => (R.getD i []).getD j 0
def ltrO (n : List Int) : Ltr := ⟨n.getD 0 0, n.getD 1 0, n.getD 2 0, n.getD 3 0, n.getD 4 0, n.getD 5 0, n.getD 6 0, decide (n.getD 7 0 = 1)⟩
def gOf (L : List (List Int)) : Nat → Ltr := fun i => ltrO (L.getD i [])
end
end Go.Proofs.YtfgnbkegdjkdmaaGreatDoor
namespace Go.Proofs.YtfgnbkegdjkdmaaGreatDoor
set_option linter.all false
set_option linter.unusedVariables false
set_option linter.unusedSimpArgs false
open Go.Lib
def rdW (isLog : Bool) (t : List UInt8) : Int × Int × Cont := if 30000 < t.length then (0, 9, ⟨[], [], []⟩) else rdT isLog t
section
variable {isLog : Bool} {j s n : Nat} {c c' : Cont} {t X R a z f : List UInt8} {l0 : List (List UInt8)} {k m : Int} {m2 : List Int}
theorem v_no (h : 10 ∉ t) : rdF isLog t.length c s n t = ((n : Int) + 1, 103, c) := rd_none h
theorem v_line (hx : 10 ∉ X) (hs : 32 ∉ X) : rdF isLog (X ++ 10 :: R).length c s n (X ++ 10 :: R) = ((n : Int) + 1, 103, c) := by
  rw [show (X ++ 10 :: R).length = (X.length + R.length) + 1 by simp; omega]
  exact rd_line hx hs
theorem v_step (hx : 10 ∉ a ++ 32 :: z) (hz : 32 ∉ z) : rdF isLog ((a ++ 32 :: z) ++ 10 :: R).length c s n ((a ++ 32 :: z) ++ 10 :: R) = match lnV isLog c s n a z (!R.isEmpty) with
    | .bad e => ((n : Int) + 1, e, c)
    | .fin => (0, 0, c)
    | .go c' => rdF isLog R.length c' (ckL (ckL s (a ++ 32 :: z)) [10]) (n + 1) R := by
  rw [show ((a ++ 32 :: z) ++ 10 :: R).length = ((a ++ 32 :: z).length + R.length) + 1 by rw [List.length_append, List.length_cons]; omega, rd_step hx hz]
  cases lnV isLog c s n a z (!R.isEmpty) with
  | bad e => rfl
  | fin => rfl
  | go c' => exact rd_fuel (by omega) (Nat.le_refl _)
theorem v_key (hx : 10 ∉ a ++ 32 :: z) (hz : 32 ∉ z) (hw : spW 32 a = f :: l0) (h : valL z = none ∨ f = []) : rdF isLog ((a ++ 32 :: z) ++ 10 :: R).length c s n ((a ++ 32 :: z) ++ 10 :: R) = ((n : Int) + 1, 103, c) := by
  rw [v_step hx hz, lnV_code, hw]
  rcases h with h | h
  · rw [h]
  · subst h
    cases valL z with
    | none => rfl
    | some k => rfl
theorem v_head (hf : f ≠ []) : ¬ ((f :: l0).head? = some []) := fun e => hf (Option.some.inj e)
theorem v_badE (hx : 10 ∉ a ++ 32 :: z) (hz : 32 ∉ z) (hw : spW 32 a = [69] :: l0) (hk : valL z = some k) (h : (∀ m, nmsL l0 ≠ some [m]) ∨ R ≠ []) : rdF isLog ((a ++ 32 :: z) ++ 10 :: R).length c s n ((a ++ 32 :: z) ++ 10 :: R) = ((n : Int) + 1, 103, c) := by
  rw [v_step hx hz, lnV_code, hw, hk]
  dsimp only
  rw [if_neg (v_head (by decide)), if_pos (by rfl)]
  rw [show List.drop 1 ([69] :: l0) = l0 from rfl]
  rcases hn : nmsL l0 with _ | (_ | ⟨m, _ | ⟨m2, l2⟩⟩)
  · rfl
  · rfl
  · rcases h with h | h
    · exact absurd hn (h m)
    · have hR : R.isEmpty = false := by cases R with | nil => exact absurd rfl h | cons _ _ => rfl
      rw [hR]
      rfl
  · rfl
theorem v_okE (hx : 10 ∉ a ++ 32 :: z) (hz : 32 ∉ z) (hw : spW 32 a = [69] :: l0) (hk : valL z = some k) (hn : nmsL l0 = some [m]) : rdF isLog ((a ++ 32 :: z) ++ 10 :: []).length c s n ((a ++ 32 :: z) ++ 10 :: []) = if k = (ckL s a : Int) ∧ m = (n : Int) then (0, 0, c) else ((n : Int) + 1, 104, c) := by
  rw [v_step hx hz, lnV_code, hw, hk]
  dsimp only
  rw [if_neg (v_head (by decide)), if_pos (by rfl)]
  rw [show List.drop 1 ([69] :: l0) = l0 from rfl]
  rw [hn]
  dsimp only
  rw [if_neg (by decide)]
  by_cases h : k = (ckL s a : Int) ∧ m = (n : Int)
  · rw [if_pos h, if_pos h]
  · rw [if_neg h, if_neg h]
theorem v_take (hx : 10 ∉ a ++ 32 :: z) (hz : 32 ∉ z) (hw : spW 32 a = f :: l0) (hk : valL z = some k) (hf : f ≠ []) (hE : f ≠ [69]) : rdF isLog ((a ++ 32 :: z) ++ 10 :: R).length c s n ((a ++ 32 :: z) ++ 10 :: R) = match addL isLog c (f :: l0) with
    | none => ((n : Int) + 1, 103, c)
    | some c' => if k = (ckL s a : Int) then rdF isLog R.length c' (ckL (ckL s a) (32 :: z ++ [10])) (n + 1) R else ((n : Int) + 1, 104, c) := by
  rw [v_step hx hz, lnV_code, hw, hk]
  dsimp only
  rw [if_neg (v_head hf), if_neg (show ¬ ((f :: l0).head? = some [69]) from fun e => hE (Option.some.inj e))]
  cases addL isLog c (f :: l0) with
  | none => rfl
  | some c' =>
    dsimp only
    by_cases h : k = (ckL s a : Int)
    · rw [if_pos h, if_pos h, ← ckL_app, ← ckL_app]
      congr 1
      rw [List.append_assoc]
    · rw [if_neg h, if_neg h]
end
end Go.Proofs.YtfgnbkegdjkdmaaGreatDoor
namespace Go.Proofs.YtfgnbkegdjkdmaaGreatDoor
set_option linter.all false
set_option linter.unusedVariables false
set_option linter.unusedSimpArgs false
open Go.Lib
def dgs (x : List UInt8) (k : Nat) : List UInt8 := if x.head? = some 45 then (x.take k).drop 1 else x.take k
theorem dgV_bd : ∀ {l : List UInt8} {a m : Int}, 0 ≤ a → dgV a l = some m → 0 ≤ m ∧ m < (a + 1) * 10 ^ l.length
  | [], a, m, ha, h => by
    have h1 : a = m := Option.some.inj h
    subst h1
    simp only [List.length_nil, Int.pow_zero]
    omega
  | b :: t, a, m, ha, h => by
    unfold dgV at h
    split at h
    · rename_i hb
      obtain ⟨h1, h2⟩ := dgV_bd (l := t) (a := 10 * a + ((b.toNat : Int) - 48)) (by omega) h
      refine ⟨h1, Int.lt_of_lt_of_le h2 ?_⟩
      rw [List.length_cons, Int.pow_succ, Int.mul_comm (10 ^ t.length) 10, ← Int.mul_assoc]
      exact Int.mul_le_mul_of_nonneg_right (by omega) (Int.pow_nonneg (by decide))
    · cases h
theorem dgs_zero {x : List UInt8} : dgs x 0 = [] := by unfold dgs; split <;> rfl
theorem dgs_len {x : List UInt8} {k : Nat} : (dgs x k).length ≤ k := by
  unfold dgs
  split
  · rw [List.length_drop, List.length_take]; omega
  · rw [List.length_take]; omega
theorem dgs_minus {x : List UInt8} (h : x.head? = some 45) : dgs x 1 = [] := by
  unfold dgs
  rw [if_pos h]
  cases x <;> rfl
theorem take_snoc9 {x : List UInt8} {k : Nat} (hk : k < x.length) : x.take (k + 1) = x.take k ++ [x.getD k 0] := by
  rw [List.take_succ, List.getD_eq_getElem?_getD, List.getElem?_eq_getElem hk]
  rfl
theorem dgs_succ {x : List UInt8} {k : Nat} (hk : k < x.length) (h : ¬ (k = 0 ∧ x.head? = some 45)) : dgs x (k + 1) = dgs x k ++ [x.getD k 0] := by
  unfold dgs
  split
  · rename_i h1
    have hk0 : 0 < k := Nat.pos_of_ne_zero fun e => h ⟨e, h1⟩
    rw [take_snoc9 hk, List.drop_append_of_le_length (by rw [List.length_take]; omega)]
  · rw [take_snoc9 hk]
theorem dgV_snoc {l : List UInt8} {m : Int} {b : UInt8} (h : dgV 0 l = some m) : dgV 0 (l ++ [b]) = if 48 ≤ b.toNat ∧ b.toNat ≤ 57 then some (10 * m + ((b.toNat : Int) - 48)) else none := by
  rw [dgV_app, h]
  show dgV m [b] = _
  unfold dgV
  split <;> rfl
theorem dgs_pre {x : List UInt8} {k : Nat} : ∃ u, dgs x x.length = dgs x k ++ u := by
  unfold dgs
  split
  · rcases Nat.lt_or_ge 0 k with h | h
    · refine ⟨x.drop k, ?_⟩
      rw [List.take_length]
      rcases Nat.lt_or_ge x.length 1 with h1 | h1
      · have : x = [] := List.eq_nil_of_length_eq_zero (by omega)
        subst this
        simp
      · rw [← List.drop_append_of_le_length (by rw [List.length_take]; omega), List.take_append_drop]
    · obtain rfl : k = 0 := by omega
      exact ⟨_, rfl⟩
  · exact ⟨x.drop k, by rw [List.take_length, List.take_append_drop]⟩
theorem raw_dgs {x : List UInt8} (h0 : x ≠ []) (h : x.length ≤ 14) : rawL x = if x.head? = some 45 then (dgV 0 (dgs x x.length)).map (fun m => -m) else dgV 0 (dgs x x.length) := by
  cases x with
  | nil => exact absurd rfl h0
  | cons b t =>
    rw [List.length_cons] at h
    show (if 14 < t.length + 1 then none else if b = 45 then (dgV 0 t).map fun m => -m else dgV 0 (b :: t)) = _
    rw [if_neg (by omega)]
    by_cases hb : b = 45
    · subst hb
      have hh : (45 :: t).head? = some (45 : UInt8) := rfl
      have e : dgs (45 :: t) (45 :: t).length = t := by
        unfold dgs
        rw [if_pos hh, List.take_length]
        rfl
      rw [if_pos rfl, if_pos hh, e]
    · have hb' : ¬ ((b :: t).head? = some 45) := fun e => hb (Option.some.inj e)
      have e : dgs (b :: t) (b :: t).length = b :: t := by
        unfold dgs
        rw [if_neg hb', List.take_length]
      rw [if_neg hb, if_neg hb', e]
def VaR (x : List UInt8) (r : Int × Bool) : Prop := (r.2 = true ∧ valL x = some r.1) ∨ (r.2 = false ∧ valL x = none)
theorem va_size {x : List UInt8} (h : x.length = 0 ∨ 14 < x.length) : VaR x (0, false) := by
  refine .inr ⟨rfl, ?_⟩
  unfold valL
  cases x with
  | nil => rfl
  | cons b t =>
    rw [List.length_cons] at h
    show ((if 14 < t.length + 1 then none else _ : Option Int)).bind _ = none
    rw [if_pos (by omega)]
    rfl
theorem va_bad {x : List UInt8} {k : Nat} {m : Int} (h0 : 0 < x.length) (h : x.length ≤ 14) (hk : k < x.length) (hn : ¬ (k = 0 ∧ x.head? = some 45)) (hm : dgV 0 (dgs x k) = some m) (hb : (x.getD k 0).toNat < 48 ∨ 57 < (x.getD k 0).toNat) : VaR x (0, false) := by
  refine .inr ⟨rfl, ?_⟩
  obtain ⟨u, hu⟩ := dgs_pre (x := x) (k := k + 1)
  have h1 : dgV 0 (dgs x x.length) = none := by
    rw [hu, dgV_app, dgs_succ hk hn, dgV_snoc hm, if_neg (by omega)]
    rfl
  unfold valL
  rw [raw_dgs (fun e => by rw [e] at h0; cases h0) h, h1]
  split <;> rfl
theorem va_end {x : List UInt8} {m n : Int} (h0 : 0 < x.length) (h : x.length ≤ 14) (hm : dgV 0 (dgs x x.length) = some m) (hn : n = if x.head? = some 45 then -m else m) : VaR x (n, decide (itoa n = x) && (decide (-1000000000000 ≤ n) && decide (n ≤ 1000000000000))) := by
  have h1 : rawL x = some n := by
    rw [raw_dgs (fun e => by rw [e] at h0; cases h0) h, hm, hn]
    split <;> rfl
  by_cases h2 : itoa n = x ∧ -1000000000000 ≤ n ∧ n ≤ 1000000000000
  · refine .inl ⟨?_, ?_⟩
    · simp [h2.1, h2.2.1, h2.2.2]
    · unfold valL
      rw [h1]
      show (if itoa n = x ∧ _ then some n else none) = some n
      rw [if_pos h2]
  · refine .inr ⟨?_, ?_⟩
    · rw [Bool.eq_false_iff]
      intro h3
      simp only [Bool.and_eq_true, decide_eq_true_eq] at h3
      exact h2 ⟨h3.1, h3.2.1, h3.2.2⟩
    · unfold valL
      rw [h1]
      show (if itoa n = x ∧ _ then some n else none) = none
      rw [if_neg h2]
theorem dgs_bd {x : List UInt8} {k : Nat} {m : Int} (hk : k ≤ 14) (h : dgV 0 (dgs x k) = some m) : 0 ≤ m ∧ m < 100000000000000 := by
  obtain ⟨h1, h2⟩ := dgV_bd (Int.le_refl 0) h
  refine ⟨h1, Int.lt_of_lt_of_le h2 ?_⟩
  have h3 : (10 : Int) ^ (dgs x k).length ≤ 10 ^ 14 := by
    have h5 : (10 : Nat) ^ (dgs x k).length ≤ 10 ^ 14 := Nat.pow_le_pow_right (by decide) (Nat.le_trans dgs_len hk)
    exact_mod_cast h5
  have h4 : (10 : Int) ^ 14 = 100000000000000 := by decide
  omega
end Go.Proofs.YtfgnbkegdjkdmaaGreatDoor
namespace Go.Proofs.YtfgnbkegdjkdmaaGreatDoor
set_option linter.all false
set_option linter.unusedVariables false
set_option linter.unusedSimpArgs false
open Go.Lib
def mkR (p : Nat) (X : List UInt8) : List (Nat × Nat) := if [] ∈ spW 32 X then [] else mkP p (spW 32 X)
def MkI (p : Nat) (X : List UInt8) (k st : Nat) (L : List (Nat × Nat)) : Prop :=
  (k ≤ X.length ∧ ∃ d w, spW 32 (X.take k) = d ++ [w] ∧ [] ∉ d ∧ L = mkP p d ∧ st = p + mkE d) ∨ (k = X.length + 1 ∧ [] ∉ spW 32 X ∧ L = mkP p (spW 32 X))
section
variable {p : Nat} {X : List UInt8} {k st : Nat} {L : List (Nat × Nat)}
theorem mkI_start : MkI p X 0 p [] := .inl ⟨Nat.zero_le _, [], [], rfl, List.not_mem_nil, rfl, rfl⟩
theorem mkI_more (h : MkI p X k st L) (hk : k < X.length) (hb : X.getD k 0 ≠ 32) : MkI p X (k + 1) st L := by
  rcases h with ⟨_, d, w, h1, h2, h3, h4⟩ | ⟨h1, _⟩
  · exact .inl ⟨hk, d, w ++ [X.getD k 0], by rw [take_snoc9 hk]; exact spW_more hb h1, h2, h3, h4⟩
  · omega
theorem mkI_word (h : MkI p X k st L) (hk : k ≤ X.length) (hb : k < X.length → X.getD k 0 = 32) : (p + k = st → [] ∈ spW 32 X) ∧ (p + k ≠ st → MkI p X (k + 1) (p + k + 1) (L ++ [(st, p + k)])) := by
  rcases h with ⟨_, d, w, h1, h2, h3, h4⟩ | ⟨h1, _⟩
  · have h5 := mkE_len (c := 32) (a := X.take k)
    rw [h1, mkE_app, List.length_take, Nat.min_eq_left hk] at h5
    have h6 : mkE [w] = w.length + 1 := rfl
    rw [h6] at h5
    have hL : L ++ [(st, p + k)] = mkP p (d ++ [w]) := by
      rw [mkP_snoc, h3, h4, show p + mkE d + w.length = p + k by omega]
    have hw : w = [] ↔ p + k = st := by
      constructor
      · intro e; rw [e] at h5; simp only [List.length_nil] at h5; omega
      · intro e; exact List.eq_nil_of_length_eq_zero (by omega)
    have hd : w ≠ [] → [] ∉ d ++ [w] := fun hne hm => by
      rcases List.mem_append.1 hm with h7 | h7
      · exact h2 h7
      · exact hne (List.mem_singleton.1 h7).symm
    rcases Nat.lt_or_ge k X.length with hlt | hge
    · have h32 := hb hlt
      have hX : X = X.take k ++ 32 :: X.drop (k + 1) := by
        rw [← h32, List.getD_eq_getElem?_getD, List.getElem?_eq_getElem hlt]
        show X = X.take k ++ X[k] :: X.drop (k + 1)
        rw [← List.drop_eq_getElem_cons hlt, List.take_append_drop]
      refine ⟨fun e => ?_, fun e => .inl ⟨hlt, d ++ [w], [], ?_, hd (fun e2 => e (hw.1 e2)), hL, ?_⟩⟩
      · rw [hX, spW_mid, h1, hw.2 e]
        simp
      · rw [take_snoc9 hlt, h32, spW_cut, h1]
      · rw [mkE_app, h6]; omega
    · have hXe : X.take k = X := List.take_of_length_le hge
      rw [hXe] at h1
      refine ⟨fun e => ?_, fun e => .inr ⟨by omega, ?_, ?_⟩⟩
      · rw [h1, hw.2 e]; simp
      · rw [h1]; exact hd fun e2 => e (hw.1 e2)
      · rw [h1]; exact hL
  · omega
theorem mkI_end (h : MkI p X k st L) (hk : X.length < k) : mkR p X = L := by
  rcases h with ⟨h1, _⟩ | ⟨_, h1, h2⟩
  · omega
  · unfold mkR
    rw [if_neg h1, h2]
theorem mkR_none (h : [] ∈ spW 32 X) : mkR p X = [] := by unfold mkR; rw [if_pos h]
end
end Go.Proofs.YtfgnbkegdjkdmaaGreatDoor
namespace Go.Proofs.YtfgnbkegdjkdmaaGreatDoor
set_option linter.all false
set_option linter.unusedVariables false
set_option linter.unusedSimpArgs false
open Go.Lib
section
variable {t X a z f R : List UInt8} {l0 : List (List UInt8)} {p q n s : Nat} {isLog : Bool} {c : Cont}
theorem nl_cut (hpq : p ≤ q) (hq : q < t.length) (h10 : t.getD q 0 = 10) : t.drop p = (t.drop p).take (q - p) ++ 10 :: t.drop (q + 1) := by
  have h1 : t.drop q = 10 :: t.drop (q + 1) := by
    rw [← h10, List.getD_eq_getElem?_getD, List.getElem?_eq_getElem hq]
    exact List.drop_eq_getElem_cons hq
  have h2 : (t.drop p).drop (q - p) = t.drop q := by rw [List.drop_drop, show p + (q - p) = q by omega]
  calc t.drop p = (t.drop p).take (q - p) ++ (t.drop p).drop (q - p) := (List.take_append_drop ..).symm
    _ = _ := by rw [h2, h1]
theorem nl_more {k : Nat} (h : (10 : UInt8) ∉ (t.drop p).take k) (hk : p + k < t.length) (hb : t.getD (p + k) 0 ≠ 10) : (10 : UInt8) ∉ (t.drop p).take (k + 1) := by
  rw [List.take_succ, List.getElem?_drop, List.getElem?_eq_getElem hk]
  rw [List.getD_eq_getElem?_getD, List.getElem?_eq_getElem hk] at hb
  intro hm
  rcases List.mem_append.1 hm with h1 | h1
  · exact h h1
  · exact hb (List.mem_singleton.1 h1).symm
theorem nl_all {k : Nat} (h : (10 : UInt8) ∉ (t.drop p).take k) (hk : t.length ≤ p + k) : (10 : UInt8) ∉ t.drop p := by
  rwa [List.take_of_length_le (by rw [List.length_drop]; omega)] at h
theorem v_emp (hx : 10 ∉ X) (he : [] ∈ spW 32 X) : rdF isLog (X ++ 10 :: R).length c s n (X ++ 10 :: R) = ((n : Int) + 1, 103, c) := by
  by_cases hs : 32 ∈ X
  · obtain ⟨a, z, rfl, hz, h1, _, _⟩ := sp_end hs
    rw [v_step hx hz]
    unfold lnV
    cases hv : valL z with
    | none => rfl
    | some k =>
      dsimp only
      rw [h1] at he
      rcases List.mem_append.1 he with h2 | h2
      · rw [if_pos h2]
      · rw [← List.mem_singleton.1 h2] at hv
        cases hv
  · exact v_line hx hs
theorem sp_few (h : (spW 32 X).length < 2) : 32 ∉ X := fun hs => by
  obtain ⟨a, z, rfl, hz, h1, _, _⟩ := sp_end hs
  rw [h1, List.length_append] at h
  have h2 : (spW 32 a).length ≠ 0 := fun h3 => spW_ne (List.eq_nil_of_length_eq_zero h3)
  simp at h
  omega
theorem sp_more (h : 2 ≤ (spW 32 X).length) : ∃ a z f l0, X = a ++ 32 :: z ∧ 32 ∉ z ∧ spW 32 a = f :: l0 ∧ spW 32 X = (f :: l0) ++ [z] := by
  by_cases hs : 32 ∈ X
  · obtain ⟨a, z, rfl, hz, h1, _, _⟩ := sp_end hs
    obtain ⟨f, l0, h2⟩ : ∃ f l0, spW 32 a = f :: l0 := by
      cases h2 : spW 32 a with
      | nil => exact absurd h2 spW_ne
      | cons f l0 => exact ⟨f, l0, rfl⟩
    exact ⟨a, z, f, l0, rfl, hz, h2, by rw [h1, h2]⟩
  · rw [spW_no hs] at h
    simp at h
theorem mkP_bd : ∀ {l : List (List UInt8)} {p k : Nat}, k < l.length → p ≤ ((mkP p l).getD k (0, 0)).1 ∧ ((mkP p l).getD k (0, 0)).1 ≤ ((mkP p l).getD k (0, 0)).2 ∧ ((mkP p l).getD k (0, 0)).2 + 1 ≤ p + mkE l
  | w :: l, p, 0, _ => by
    show p ≤ p ∧ p ≤ p + w.length ∧ p + w.length + 1 ≤ p + (w.length + 1 + mkE l)
    omega
  | w :: l, p, k + 1, h => by
    have h1 := mkP_bd (l := l) (p := p + w.length + 1) (k := k) (by rw [List.length_cons] at h; omega)
    show p ≤ ((mkP (p + w.length + 1) l).getD k (0, 0)).1 ∧ ((mkP (p + w.length + 1) l).getD k (0, 0)).1 ≤ ((mkP (p + w.length + 1) l).getD k (0, 0)).2 ∧ ((mkP (p + w.length + 1) l).getD k (0, 0)).2 + 1 ≤ p + (w.length + 1 + mkE l)
    omega
theorem mkP_to : ∀ {l : List (List UInt8)} {p k : Nat}, k + 1 = l.length → ((mkP p l).getD k (0, 0)).2 + 1 = p + mkE l
  | [w], p, 0, _ => by
    show p + w.length + 1 = p + (w.length + 1 + 0)
    omega
  | w :: v :: l, p, 0, h => by simp at h
  | [w], p, k + 1, h => by simp at h
  | w :: v :: l, p, k + 1, h => by
    have h1 := mkP_to (l := v :: l) (p := p + w.length + 1) (k := k) (by simp only [List.length_cons] at h ⊢; omega)
    show ((mkP (p + w.length + 1) (v :: l)).getD k (0, 0)).2 + 1 = p + (w.length + 1 + mkE (v :: l))
    omega
theorem mkP_shift {d : Nat} : ∀ {l : List (List UInt8)} {p : Nat}, mkP (d + p) l = (mkP p l).map fun x => (d + x.1, d + x.2)
  | [], _ => rfl
  | w :: l, p => by
    show (d + p, d + p + w.length) :: mkP (d + p + w.length + 1) l = (d + p, d + (p + w.length)) :: (mkP (p + w.length + 1) l).map _
    rw [← mkP_shift, Nat.add_assoc d p, Nat.add_assoc d (p + w.length)]
theorem mkP_sh {d k : Nat} {l : List (List UInt8)} (hk : k < l.length) : (mkP d l).getD k (0, 0) = (d + ((mkP 0 l).getD k (0, 0)).1, d + ((mkP 0 l).getD k (0, 0)).2) := by
  have h1 : (mkP 0 l).length = l.length := mkP_len
  rw [show mkP d l = mkP (d + 0) l from rfl, mkP_shift, List.getD_eq_getElem?_getD, List.getD_eq_getElem?_getD, List.getElem?_map, List.getElem?_eq_getElem (by rw [h1]; exact hk)]
  rfl
theorem mkP_at (hX : X = (t.drop p).take (q - p)) (hpq : p ≤ q) (hq : q ≤ t.length) {k : Nat} (hk : k < (spW 32 X).length) :
    ((mkP p (spW 32 X)).getD k (0, 0)).1 ≤ ((mkP p (spW 32 X)).getD k (0, 0)).2 ∧ ((mkP p (spW 32 X)).getD k (0, 0)).2 ≤ t.length ∧ (t.drop ((mkP p (spW 32 X)).getD k (0, 0)).1).take (((mkP p (spW 32 X)).getD k (0, 0)).2 - ((mkP p (spW 32 X)).getD k (0, 0)).1) = (spW 32 X).getD k [] := by
  have hXl : X.length = q - p := by rw [hX, List.length_take, List.length_drop]; omega
  have h1 := mkP_bd (l := spW 32 X) (p := p) hk
  have h2 := mkE_len (c := 32) (a := X)
  refine ⟨h1.2.1, by omega, ?_⟩
  rw [← mkP_word hk]
  have h3 := mkP_bd (l := spW 32 X) (p := 0) hk
  rw [mkP_sh hk]
  generalize (mkP 0 (spW 32 X)).getD k (0, 0) = x at h3
  obtain ⟨x1, x2⟩ := x
  dsimp only at h3 ⊢
  rw [hX, List.drop_take, List.drop_drop, List.take_take, show min (x2 - x1) (q - p - x1) = p + x2 - (p + x1) by omega]
theorem mkP_end (hs : spW 32 X = (f :: l0) ++ [z]) (ha : spW 32 a = f :: l0) : ((mkP p (spW 32 X)).getD l0.length (0, 0)).2 = p + a.length := by
  have h1 : mkP p (spW 32 X) = mkP p (f :: l0) ++ mkP (p + mkE (f :: l0)) [z] := by rw [hs, mkP_app]
  have h2 : (mkP p (f :: l0)).length = l0.length + 1 := by rw [mkP_len, List.length_cons]
  have h3 := mkP_to (l := f :: l0) (p := p) (k := l0.length) rfl
  have h4 := mkE_len (c := 32) (a := a)
  rw [ha] at h4
  rw [h1, List.getD_eq_getElem?_getD, List.getElem?_append_left (by omega), ← List.getD_eq_getElem?_getD]
  omega
theorem ck_at {k : Nat} (hk : p + k ≤ t.length) : ckL 23 (t.take (p + k)) = ckL (ckL 23 (t.take p)) ((t.drop p).take k) := by
  rw [← ckL_app, List.take_add]
end
end Go.Proofs.YtfgnbkegdjkdmaaGreatDoor
namespace Go.Proofs.YtfgnbkegdjkdmaaGreatDoor
set_option linter.all false
set_option linter.unusedVariables false
set_option linter.unusedSimpArgs false
open Go.RowKit
theorem ret_bool {a b : Bool} (h : b = a) : Ending.returned (.bool a) = .returned (.bool b) := by rw [h]
def Rd (w : World) (sz : Nat) (A : Option Addr) (n : Nat) (f : Nat → Nat → Value) : Prop :=
  0 < n → ∃ b off, A = some ⟨b, off, none⟩ ∧ b < w.heap.size ∧ ∀ i j, i < n → j < sz → w.cell? ⟨b, off + i * sz + j, none⟩ = some (f i j)
section
variable {w wr : World} {sz n : Nat} {A : Option Addr} {f : Nat → Nat → Value}
theorem Rd.nil : Rd w sz A 0 f := fun h => absurd h (by omega)
theorem Rd.congr {g : Nat → Nat → Value} (h : Rd w sz A n f) (he : ∀ i j, i < n → j < sz → f i j = g i j) : Rd w sz A n g := fun hn => by
  obtain ⟨b, off, h1, h2, h3⟩ := h hn
  exact ⟨b, off, h1, h2, fun i j hi hj => by rw [← he i j hi hj]; exact h3 i j hi hj⟩
theorem Rd.atn {k : Nat} (h : Rd w sz A n f) (hk : k < n) (hb : Below w.heap.size w wr) :
    ∃ b off, A = some ⟨b, off, none⟩ ∧ b < w.heap.size ∧ ∀ j, j < sz → wr.cell? ⟨b, off + k * sz + j, none⟩ = some (f k j) := by
  obtain ⟨b, off, h1, h2, h3⟩ := h (by omega)
  exact ⟨b, off, h1, h2, fun j hj => by rw [hb.cell (p := ⟨b, _, none⟩) h2]; exact h3 k j hk hj⟩
theorem Rd.new (w : World) (cs : Array Value) (E : TypeId) (sz n : Nat) (hs : cs.size = n * sz) :
    Rd (w.alloc (.cells cs E)) sz (some ⟨w.heap.size, 0, none⟩) n (fun i j => cs.getD (i * sz + j) undef) := fun hn =>
  ⟨w.heap.size, 0, rfl, by simp, fun i j hi hj => by
    have hlt : i * sz + j < cs.size := by rw [hs]; calc i * sz + j < i * sz + sz := by omega
      _ = (i + 1) * sz := by rw [Nat.add_mul]; omega
      _ ≤ n * sz := Nat.mul_le_mul_right _ (by omega)
    rw [cell_of_row (w.alloc (.cells cs E)) w.heap.size _ cs E (0, 0) (heap_alloc_new w _)]
    simp [Array.getD, hlt]⟩
end
def Blk (w : World) (g : Nat) (t : TypeId) (cs : Array Value) : Prop := w.heap[g]? = some (.cells cs t (0, 0))
section
variable {w w' : World} {g : Nat} {t : TypeId} {cs : Array Value}
theorem Blk.lt (h : Blk w g t cs) : g < w.heap.size := by
  rcases Nat.lt_or_ge g w.heap.size with hlt | hge
  · exact hlt
  · unfold Blk at h; rw [Array.getElem?_eq_none hge] at h; cases h
theorem Blk.cell (h : Blk w g t cs) (i : Nat) : w.cell? ⟨g, i, none⟩ = cs[i]? := cell_of_row w g i cs t (0, 0) h
theorem Blk.frozen (h : Blk w g t cs) (i : Nat) : w.frozen? ⟨g, i, none⟩ = false := by
  unfold Blk at h
  simp [World.frozen?, h]
theorem Blk.new (w : World) (t : TypeId) (cs : Array Value) : Blk (w.alloc (.cells cs t)) w.heap.size t cs := heap_alloc_new w _
theorem Blk.alloc (h : Blk w g t cs) (o : Obj) : Blk (w.alloc o) g t cs := (Below.heap_alloc w o g h.lt).trans h
theorem Blk.set_ (h : Blk w g t cs) (i : Nat) (u : Value) : Blk (w.setCell ⟨g, i, none⟩ u) g t (cs.setIfInBounds i u) := by
  unfold Blk at h ⊢
  simp [World.setCell, Array.getElem?_modify, h]
theorem Blk.below {B : Nat} (h : Blk w g t cs) (hb : Below B w w') (hg : g < B) : Blk w' g t cs := (hb.block g hg).trans h
theorem Blk.blw (h : Blk w g t cs) (hb : Below w.heap.size w w') : Blk w' g t cs := h.below hb h.lt
end
theorem Rd.of_blk {w : World} {cs : Array Value} {E : TypeId} {sz n b : Nat} {f : Nat → Nat → Value} (h : Blk w b E cs) (hs : cs.size = n * sz) (hf : ∀ i j, i < n → j < sz → cs.getD (i * sz + j) undef = f i j) :
    Rd w sz (some ⟨b, 0, none⟩) n f := fun _ => ⟨b, 0, rfl, h.lt, fun i j hi hj => by
  have hlt : i * sz + j < cs.size := by
    rw [hs]
    have := Nat.mul_le_mul_right sz (show i + 1 ≤ n by omega)
    rw [Nat.add_mul] at this
    omega
  rw [Nat.zero_add, h.cell, ← hf i j hi hj]
  simp [Array.getD, hlt]⟩
def allB (n : Nat) (p : Nat → Bool) : Bool := (List.range n).all p
def anyB (n : Nat) (p : Nat → Bool) : Bool := (List.range n).any p
theorem allB_iff {n : Nat} {p : Nat → Bool} : allB n p = true ↔ ∀ i, i < n → p i = true := by simp [allB]
theorem not_anyB {n : Nat} {p : Nat → Bool} : (!anyB n p) = allB n fun i => !p i := by simp [anyB, allB, List.not_any_eq_all_not]
theorem keep_drew (W : World) : Below W.heap.size W W.drew := ⟨rfl, rfl, rfl, Nat.le_refl _, fun _ _ => rfl⟩
def Enters (P : Program) (g : FuncId) : Prop := ∀ args w, (callFunc g args).run P w = .ok (.enter g args) w
theorem enters {P : Program} {f : FuncId} {fn : Func} {c : Code} (hf : P.funcs[f]? = some fn) (hname : (fn.name == "runtime.NumGoroutine") = false) (hb : fn.body = some c) : Enters P f := fun args w => by
  have h1 : fn.name ≠ "runtime.NumGoroutine" := by simpa using hname
  simp [callFunc, hf, h1, hb]
def Ret (w : World) (v : Value) (e : Ending) (w' : World) : Prop := e = .returned v ∧ Below w.heap.size w w'
end Go.Proofs.YtfgnbkegdjkdmaaGreatDoor
namespace Go.Proofs.YtfgnbkegdjkdmaaGreatDoor
set_option linter.all false
set_option linter.unusedVariables false
set_option linter.unusedSimpArgs false
open Go.RowKit
section
variable {P : Program} {ops : Array Oper} {Q : Exit → Act → World → Prop}
def tailPost (P : Program) (ops : Array Oper) (Q : Exit → Act → World → Prop) (n : Nat) : Exit → Act → World → Prop := fun e a w =>
  match e with
  | .normal => wpOps P ops Q (List.range' n (ops.size - n)) a w
  | e => Q e a w
def frontOf (ops : Array Oper) (n : Nat) : Array Oper := (ops.toList.take n).toArray
theorem frontOf_get {n i : Nat} (hi : i < n) : (frontOf ops n)[i]? = ops[i]? := by simp [frontOf, hi]
theorem frontOf_ge {n i : Nat} (hi : n ≤ i) : (frontOf ops n)[i]? = none := by simp [frontOf, List.getElem?_take]; omega
def direct (o : Oper) : Nat := o.after.toList.foldl (fun m e => if Region.binds .any e then m ||| 2 ^ e.on else m) 0
def closeBack (ops : Array Oper) : Nat → Nat → Nat
  | 0, S => S
  | j + 1, S => closeBack ops j (if S.testBit j then (match ops[j]? with | none => S | some o => S ||| direct o) else S)
theorem direct_spec {o : Oper} {j : Nat} (h : (direct o).testBit j = true) : ∃ e ∈ o.after, Region.binds .any e = true ∧ e.on = j := by
  have key : ∀ (l : List Edge) (m : Nat), (l.foldl (fun m e => if Region.binds .any e then m ||| 2 ^ e.on else m) m).testBit j = true → m.testBit j = true ∨ ∃ e ∈ l, Region.binds .any e = true ∧ e.on = j := by
    intro l
    induction l with
    | nil => intro m h; exact .inl h
    | cons e l ih =>
      intro m h
      rw [List.foldl_cons] at h
      rcases ih _ h with h | ⟨e', he', h'⟩
      · split at h
        · rename_i hb
          rw [Nat.testBit_or, Nat.testBit_two_pow, Bool.or_eq_true, decide_eq_true_eq] at h
          rcases h with h | h
          · exact .inl h
          · exact .inr ⟨e, by simp, hb, h⟩
        · exact .inl h
      · exact .inr ⟨e', by simp [he'], h'⟩
  rcases key _ _ h with h | ⟨e, he, h'⟩
  · simp at h
  · exact ⟨e, by simpa using he, h'⟩
def Closed (ops : Array Oper) (L : Array Bool) : Prop := ∀ i o, L.getD i true = true → i < L.size → ops[i]? = some o → ∀ e ∈ o.after, Region.binds .any e = true → L.getD e.on true = true
theorem closeBack_spec {L : Array Bool} (hL : Closed ops L) (hs : ops.size ≤ L.size) : ∀ (j S : Nat), (∀ q, S.testBit q = true → L.getD q true = true) → ∀ q, (closeBack ops j S).testBit q = true → L.getD q true = true
  | 0, S, h => h
  | j + 1, S, h => by
    refine closeBack_spec hL hs j _ ?_
    split
    · rename_i hb
      cases ho : ops[j]? with
      | none => exact h
      | some o =>
        intro q hq
        simp only [Nat.testBit_or, Bool.or_eq_true] at hq
        rcases hq with hq | hq
        · exact h q hq
        · obtain ⟨e, he, hbi, rfl⟩ := direct_spec hq
          exact hL j o (h j hb) (Nat.lt_of_lt_of_le (Array.getElem?_eq_some_iff.1 ho).1 hs) ho e he hbi
    · exact h
def tailOk (ops : Array Oper) (n : Nat) : Bool := n ≤ ops.size && (List.range ops.size).all fun i => match ops[i]? with
  | none => true
  | some o => (o.after.all fun e => !Region.binds .any e || decide (e.on < i)) && (if i < n then (match o.guard with | none => true | some (g, _) => decide (g < n)) else (List.range i).all fun j => (closeBack ops i (direct o)).testBit j)
structure TailOk (ops : Array Oper) (n : Nat) : Prop where
  le : n ≤ ops.size
  low : ∀ i o, ops[i]? = some o → ∀ e ∈ o.after, Region.binds .any e = true → e.on < i
  guard : ∀ i o g b, i < n → ops[i]? = some o → o.guard = some (g, b) → g < n
  wait : ∀ i o j, n ≤ i → ops[i]? = some o → j < i → (closeBack ops i (direct o)).testBit j = true
theorem tailOk_spec {n : Nat} (h : tailOk ops n = true) : TailOk ops n := by
  simp only [tailOk, Bool.and_eq_true, decide_eq_true_eq, List.all_eq_true, List.mem_range] at h
  obtain ⟨h0, h⟩ := h
  have h' : ∀ i o, ops[i]? = some o → ((o.after.all fun e => !Region.binds .any e || decide (e.on < i)) && (if i < n then (match o.guard with | none => true | some (g, _) => decide (g < n)) else (List.range i).all fun j => (closeBack ops i (direct o)).testBit j)) = true := fun i o ho => by
    have := h i (Array.getElem?_eq_some_iff.1 ho).1
    simpa only [ho] using this
  refine ⟨h0, fun i o ho e he hb => ?_, fun i o g b hi ho hg => ?_, fun i o j hi ho hj => ?_⟩
  · have := (Bool.and_eq_true _ _ ▸ h' i o ho).1
    have := Array.all_eq_true_iff_forall_mem.1 this e he
    simpa [hb] using this
  · have := (Bool.and_eq_true _ _ ▸ h' i o ho).2
    rw [if_pos hi, hg] at this
    simpa using this
  · have := (Bool.and_eq_true _ _ ▸ h' i o ho).2
    rw [if_neg (by omega)] at this
    exact List.all_eq_true.1 this j (List.mem_range.2 hj)
theorem getD_up {L : Array Bool} {q : Nat} {d : Bool} (h : L.getD q d = true) : L.getD q true = true := by
  rw [Array.getD_eq_getD_getElem?] at h ⊢
  cases e : L[q]? with
  | none => rfl
  | some b => rw [e] at h; exact h
theorem TailOk.listed {n i j : Nat} {o : Oper} {L : Array Bool} (T : TailOk ops n) (hc : Closed ops L) (hs : ops.size ≤ L.size) (hi : n ≤ i) (ho : ops[i]? = some o) (hj : j < i)
    (hr : ∀ e ∈ o.after, Region.binds .any e = true → L.getD e.on true = true) : L.getD j true = true :=
  closeBack_spec hc hs i (direct o) (fun q hq => by obtain ⟨e, he, hb, rfl⟩ := direct_spec hq; exact hr e he hb) j (T.wait i o j hi ho hj)
theorem getD_set {L : Array Bool} {i r : Nat} (h : L.getD r true = true) : (L.setIfInBounds i true).getD r true = true := by
  rw [Array.getD_eq_getD_getElem?] at h ⊢
  rw [Array.getElem?_setIfInBounds]
  split
  · split <;> rfl
  · exact h
theorem Closed.set {L : Array Bool} {i : Nat} (h : Closed ops L) (hr : ∀ o, ops[i]? = some o → ∀ e ∈ o.after, Region.binds .any e = true → L.getD e.on true = true) : Closed ops (L.setIfInBounds i true) := by
  intro q o hq hs ho e he hb
  refine getD_set ?_
  by_cases hqi : q = i
  · subst hqi; exact hr o ho e he hb
  · refine h q o ?_ (by simpa using hs) ho e he hb
    rw [Array.getD_eq_getD_getElem?] at hq ⊢
    rwa [Array.getElem?_setIfInBounds_ne (Ne.symm hqi)] at hq
theorem wpOp_front {n i : Nat} (T : TailOk ops n) (hi : i < n) {K K' : Act → World → Prop} {a : Act} {w : World} (hK : ∀ a w, K a w → K' a w)
    (h : wpOp P (frontOf ops n) (tailPost P ops Q n) i K a w) : wpOp P ops Q i K' a w := by
  unfold wpOp at *
  rw [frontOf_get hi] at h
  cases ho : ops[i]? with
  | none => simp only [ho] at h ⊢; exact hK _ _ h
  | some o =>
    simp only [ho] at h ⊢
    have hy : Region.wanted o (yielded (frontOf ops n) a.tmps) = Region.wanted o (yielded ops a.tmps) := by
      unfold Region.wanted
      cases hg : o.guard with
      | none => rfl
      | some gw =>
        obtain ⟨g, b⟩ := gw
        simp only [yielded, frontOf_get (T.guard i o g b hi ho hg)]
    rw [hy] at h
    split
    · rename_i hw
      rw [if_pos hw] at h
      rcases h with h | ⟨hA, hL⟩
      · refine .inl ?_
        unfold Oper.wp at *
        generalize (execOp a.eval o).run P w = r at *
        cases r with
        | ok x w' =>
          cases x <;> simp only [Oper.upon] at h ⊢ <;> first
            | exact hK _ _ h
            | exact Calls.mono h (fun e w'' he => by
                cases e with
                | returned v => exact hK _ _ he
                | panicked c => exact he
                | outgrown => obtain ⟨x, y, z⟩ := he; exact ⟨x, y, z⟩)
            | exact Rows.mono h (fun _ _ he => hK _ _ he)
        | halt x w' => cases x <;> simp only [Oper.upon] at h ⊢ <;> exact h
      · obtain ⟨x, y, z⟩ := hL
        exact .inr ⟨hA, x, y, z⟩
    · rename_i hw
      rw [if_neg hw] at h
      exact hK _ _ h
theorem getD_some {l : Array Bool} {i : Nat} {b d : Bool} (h : l[i]? = some b) : l.getD i d = b := by simp [Array.getD_eq_getD_getElem?, h]
theorem tail_any {n : Nat} (T : TailOk ops n) : ∀ (k fuel j : Nat) (L : Array Bool) (a : Act) (w : World), k ≤ fuel → n ≤ j → j + k = ops.size →
    (∀ i, i < ops.size → L[i]? = some (decide (i < j))) → wpOps P ops Q (List.range' j k) a w → wpAny P .any ops Q fuel L a w := by
  intro k
  induction k with
  | zero =>
    intro fuel j L a w _ _ hj hL h
    refine wpAny_done ?_ h fuel
    apply List.eq_nil_iff_forall_not_mem.2
    intro i hi
    obtain ⟨h1, o, ho, _⟩ := mem_ready.1 hi
    have hlt := (Array.getElem?_eq_some_iff.1 ho).1
    rw [getD_some (hL i hlt)] at h1
    simp at h1; omega
  | succ k ih =>
    intro fuel j L a w hf hn hj hL h
    obtain ⟨fuel, rfl⟩ : ∃ f, fuel = f + 1 := ⟨fuel - 1, by omega⟩
    have hjl : j < ops.size := by omega
    have ho : ops[j]? = some ops[j] := Array.getElem?_eq_getElem hjl
    have hr : j ∈ Region.ready .any ops L := mem_ready.2 ⟨by rw [getD_some (hL j hjl)]; simp, ops[j], ho, fun e he hb => by
      have := T.low j _ ho e he hb
      rw [getD_some (hL e.on (by omega))]; simpa using this⟩
    refine ⟨fun h0 => (by rw [h0] at hr; cases hr), fun i hi => ?_⟩
    obtain ⟨h1, o, hoi, hall⟩ := mem_ready.1 hi
    have hlt := (Array.getElem?_eq_some_iff.1 hoi).1
    rw [getD_some (hL i hlt)] at h1
    simp only [decide_eq_false_iff_not, Nat.not_lt] at h1
    have hij : i = j := by
      rcases Nat.lt_or_ge j i with hlt' | hge
      · have hsz : ops.size ≤ L.size := by
          refine Nat.le_of_not_lt fun hlt2 => ?_
          have := hL L.size hlt2
          simp at this
        have := T.listed (L := L) (fun q o' hq hqs hoq e he hb => by
          have hqo : q < ops.size := (Array.getElem?_eq_some_iff.1 hoq).1
          have hlo := T.low q o' hoq e he hb
          rw [getD_some (hL q hqo)] at hq
          rw [getD_some (hL e.on (by omega))]
          simp at hq ⊢; omega) hsz (by omega) hoi hlt' (fun e he hb => getD_up (hall e he hb))
        rw [getD_some (hL j hjl)] at this
        simp at this
      · omega
    subst hij
    rw [List.range'_succ, wpOps_cons] at h
    refine wpOp_mono (fun a' w' h' => ih fuel (i + 1) _ a' w' (by omega) (by omega) (by omega) (fun q hq => ?_) h') h
    by_cases hqi : q = i
    · subst hqi
      have hs : q < L.size := by
        rcases Nat.lt_or_ge q L.size with h' | h'
        · exact h'
        · have := hL q hq; rw [Array.getElem?_eq_none h'] at this; cases this
      simp [Array.getElem?_setIfInBounds_self_of_lt hs]
    · rw [Array.getElem?_setIfInBounds_ne (Ne.symm hqi), hL q hq]
      congr 1
      simp only [decide_eq_decide]
      omega
theorem front_any {n : Nat} (T : TailOk ops n) : ∀ (fuel : Nat) (l L : Array Bool) (a : Act) (w : World), l.size = n → L.size = ops.size →
    (∀ i, i < n → L[i]? = l[i]?) → (∀ i, n ≤ i → i < ops.size → L[i]? = some false) → Closed ops L →
    wpAny P .any (frontOf ops n) (tailPost P ops Q n) fuel l a w → wpAny P .any ops Q (fuel + (ops.size - n)) L a w := by
  have hle := T.le
  intro fuel
  induction fuel with
  | zero =>
    intro l L a w hl hLs h1 h2 hc h
    have hall : ∀ i, i < n → l[i]? = some true := fun i => by
      induction i using Nat.strongRecOn with
      | ind i ihi =>
        intro hi
        have hs : l[i]? = some l[i] := Array.getElem?_eq_getElem (by omega)
        cases hb : l[i] with
        | true => rw [hs, hb]
        | false =>
          have : i ∈ Region.ready .any (frontOf ops n) l := mem_ready.2 ⟨by rw [getD_some (hs.trans (by rw [hb]))], ops[i], by rw [frontOf_get hi]; exact Array.getElem?_eq_getElem (by omega), fun e he hbi => by
            have hlo := T.low i _ (Array.getElem?_eq_getElem (by omega)) e he hbi
            rw [getD_some (ihi e.on hlo (by omega))]⟩
          rw [h.1] at this; cases this
    have hq : wpOps P ops Q (List.range' n (ops.size - n)) a w := h.2
    exact tail_any T (ops.size - n) _ n L a w (by omega) (Nat.le_refl _) (by omega) (fun i hi => by
      by_cases hin : i < n
      · rw [h1 i hin, hall i hin]; simp [hin]
      · rw [h2 i (by omega) hi]; simp [hin]) hq
  | succ fuel ih =>
    intro l L a w hl hLs h1 h2 hc h
    by_cases hall : ∀ i, i < n → l[i]? = some true
    · have hq : wpOps P ops Q (List.range' n (ops.size - n)) a w := h.1 (by
        apply List.eq_nil_iff_forall_not_mem.2
        intro i hi
        obtain ⟨h3, o, ho, _⟩ := mem_ready.1 hi
        rcases Nat.lt_or_ge i n with hin | hin
        · rw [getD_some (hall i hin)] at h3; cases h3
        · rw [frontOf_ge hin] at ho; cases ho)
      exact tail_any T (ops.size - n) _ n L a w (by omega) (Nat.le_refl _) (by omega) (fun i hi => by
        by_cases hin : i < n
        · rw [h1 i hin, hall i hin]; simp [hin]
        · rw [h2 i (by omega) hi]; simp [hin]) hq
    · have hex : ∃ i, i < n ∧ l[i]? = some false ∧ ∀ j, j < i → l[j]? = some true := by
        refine Classical.byContradiction fun hno => hall fun i => ?_
        induction i using Nat.strongRecOn with
        | ind i ihi =>
          intro hi
          have hs : l[i]? = some l[i] := Array.getElem?_eq_getElem (by omega)
          cases hb : l[i] with
          | true => rw [hs, hb]
          | false => exact absurd ⟨i, hi, hs.trans (by rw [hb]), fun j hj => ihi j hj (by omega)⟩ hno
      obtain ⟨u, hu, huf, hub⟩ := hex
      have hrL : u ∈ Region.ready .any ops L := mem_ready.2 ⟨by rw [getD_some ((h1 u hu).trans huf)], ops[u], Array.getElem?_eq_getElem (by omega), fun e he hbi => by
        have hlo := T.low u _ (Array.getElem?_eq_getElem (by omega)) e he hbi
        rw [getD_some ((h1 e.on (by omega)).trans (hub e.on hlo))]⟩
      rw [show fuel + 1 + (ops.size - n) = (fuel + (ops.size - n)) + 1 by omega]
      refine ⟨fun h0 => (by rw [h0] at hrL; cases hrL), fun i hi => ?_⟩
      obtain ⟨h3, o, ho, hw⟩ := mem_ready.1 hi
      have hin : i < n := by
        rcases Nat.lt_or_ge i n with hin | hin
        · exact hin
        · have := T.listed (j := u) hc (Nat.le_of_eq hLs.symm) hin ho (by omega) (fun e he hb => getD_up (hw e he hb))
          rw [getD_some ((h1 u hu).trans huf)] at this; cases this
      have hrf : i ∈ Region.ready .any (frontOf ops n) l := mem_ready.2 ⟨by
          have hs : l[i]? = some l[i] := Array.getElem?_eq_getElem (by omega)
          rw [getD_some ((h1 i hin).trans hs)] at h3
          rw [getD_some hs]; exact h3, o, by rw [frontOf_get hin]; exact ho, fun e he hb => by
          have hlo := T.low i o ho e he hb
          have hs : l[e.on]? = some l[e.on] := Array.getElem?_eq_getElem (by omega)
          have := hw e he hb
          rw [getD_some ((h1 e.on (by omega)).trans hs)] at this
          rw [getD_some hs]; exact this⟩
      refine wpOp_front T hin (fun a' w' h' => ih _ _ a' w' (by simpa using hl) (by simpa using hLs) (fun q hq => ?_) (fun q hq hq' => ?_) (hc.set fun o' ho' e he hb => by rw [ho] at ho'; cases ho'; exact getD_up (hw e he hb)) h') (h.2 i hrf)
      · by_cases hqi : q = i
        · subst hqi
          rw [Array.getElem?_setIfInBounds_self_of_lt (by omega), Array.getElem?_setIfInBounds_self_of_lt (by omega)]
        · rw [Array.getElem?_setIfInBounds_ne (Ne.symm hqi), Array.getElem?_setIfInBounds_ne (Ne.symm hqi)]; exact h1 q hq
      · rw [Array.getElem?_setIfInBounds_ne (by omega)]; exact h2 q hq hq'
theorem wp_region_front {id n : Nat} {a : Act} {w : World} (hm : P.follows .mixedOrders = true) (hT : tailOk ops n = true)
    (h : Below w.heap.size w w.drew → wpAnyH P .any (frontOf ops n) (tailPost P ops Q n) (Below w.heap.size w) n (Array.replicate n false) a w.drew) : (Code.region id ops true).wp P Q a w := by
  have T := tailOk_spec hT
  refine wp_region_any hm ?_
  have := front_any T n (Array.replicate n false) (Array.replicate ops.size false) a w.drew (by simp) (by simp) (fun i hi => by simp [Array.getElem?_replicate, hi]; have := T.le; omega) (fun i _ hi => by simp [hi]) (fun i o h0 hs _ _ _ _ => by simp at hs; rw [Array.getD_eq_getD_getElem?, Array.getElem?_replicate, if_pos hs] at h0; cases h0) (wpAny_of_held _ _ _ _ (h (keep_drew w)))
  rw [show n + (ops.size - n) = ops.size by have := T.le; omega] at this
  exact this
end
end Go.Proofs.YtfgnbkegdjkdmaaGreatDoor
namespace Go.Proofs.YtfgnbkegdjkdmaaGreatDoor
set_option linter.all false
set_option linter.unusedVariables false
set_option linter.unusedSimpArgs false
open Go.RowKit
structure Fl where
  i : Nat
  d : Tmp
  ty : TypeId
  z : Array Value
abbrev Ext (w w' : World) : Prop := Below w.heap.size w w'
theorem Ext.trans {a b c : World} (h : Ext a b) (k : Ext b c) : Ext a c := Below.trans h (k.mono h.size)
def puts (D : List (Fl × Nat)) (a : Act) : Act := D.foldl (fun a p => a.put (some p.1.d) (.pointer (some ⟨p.2, 0, none⟩))) a
def FlOk (B : Nat) (w : World) (N : List (Nat × Nat)) (D : List (Fl × Nat)) : Prop :=
  (∀ p ∈ D, B ≤ p.2 ∧ Blk w p.2 p.1.ty p.1.z ∧ ∀ q ∈ N, p.2 < q.1 ∨ q.2 ≤ p.2) ∧ (D.map (·.2)).Nodup
section
variable {P : Program} {ops : Array Oper} {Q : Exit → Act → World → Prop}
theorem wpOp_put1 {c : Nat} {oc : Oper} {d : Tmp} {v : Value} (hc : ops[c]? = some oc) (hl : d ∉ oc.looksAt ops) (hd : oc.dst ≠ some d) (hs : ∀ cs b, oc.op ≠ .select cs b)
    (hQ : ∀ ch a w v, Q (.panic ch) a w → Q (.panic ch) (a.put (some d) v) w) {K : Act → World → Prop} {a : Act} {w : World} (h : wpOp P ops Q c K a w) :
    wpOp P ops Q c (fun a' w' => ∃ a1, a' = a1.put (some d) v ∧ K a1 w') (a.put (some d) v) w := by
  have hl' : ∀ d', some d = some d' → d' ∉ oc.looksAt ops := fun d' e => by cases e; exact hl
  have hcm : ∀ (a : Act) (u : Value), (a.put (some d) v).put oc.dst u = (a.put oc.dst u).put (some d) v := fun a u => Act.put_comm a v u (fun d' e => by cases e; exact hd)
  unfold wpOp at *
  simp only [hc] at h ⊢
  rw [wanted_put oc a (some d) v hl']
  split
  · rename_i hw
    rw [if_pos hw] at h
    rcases h with h | ⟨hA, hL⟩
    · refine .inl ?_
      unfold Oper.wp at *
      rw [execOp_put oc hs a (some d) v hl']
      generalize (execOp a.eval oc).run P w = r at *
      cases r with
      | ok n w' =>
        cases n <;> simp only [Oper.upon] at h ⊢
        case value u => exact ⟨_, hcm a u, h⟩
        case skip => exact ⟨_, hcm a _, h⟩
        case defer df => exact ⟨_, by rw [Act.put_defers, hcm], h⟩
        case enter f args =>
          refine Calls.mono h fun e w'' he => ?_
          cases e with
          | returned u => exact ⟨_, hcm a u, he⟩
          | panicked ch => exact hQ _ _ _ _ he
          | outgrown => exact he
        case row row args => exact Rows.mono h fun u w'' he => ⟨_, hcm a u, he⟩
      | halt x w' =>
        cases x <;> simp only [Oper.upon] at h ⊢
        case panic u => exact hQ _ _ _ _ h
    · exact .inr ⟨by unfold Oper.asks at *; rw [execOp_put oc hs a (some d) v hl']; exact hA, hL⟩
  · rename_i hw
    rw [if_neg hw] at h
    exact ⟨_, hcm a _, h⟩
theorem wpOp_puts {c : Nat} {oc : Oper} (hc : ops[c]? = some oc) (hs : ∀ cs b, oc.op ≠ .select cs b) (hQ : ∀ d ch a w v, Q (.panic ch) a w → Q (.panic ch) (a.put (some d) v) w) :
    ∀ (D : List (Fl × Nat)) (a : Act) (w : World) (K : Act → World → Prop), (∀ p ∈ D, p.1.d ∉ oc.looksAt ops ∧ oc.dst ≠ some p.1.d) → wpOp P ops Q c K a w →
      wpOp P ops Q c (fun a' w' => ∃ a1, a' = puts D a1 ∧ K a1 w') (puts D a) w := by
  intro D
  induction D with
  | nil => intro a w K _ h; exact wpOp_mono (fun a w h => ⟨a, rfl, h⟩) h
  | cons p D ih =>
    intro a w K hap h
    have h1 := wpOp_put1 (v := .pointer (some ⟨p.2, 0, none⟩)) hc (hap p (by simp)).1 (hap p (by simp)).2 hs (hQ _) h
    have h2 := ih _ w _ (fun q hq => hap q (by simp [hq])) h1
    exact wpOp_mono (fun a' w' ⟨a1, e1, a2, e2, hk⟩ => ⟨a2, by rw [e1, e2]; rfl, hk⟩) h2
theorem puts_perm {D D' : List (Fl × Nat)} (h : D.Perm D') (hn : (D.map (·.1.d)).Nodup) (a : Act) : puts D a = puts D' a := by
  induction h generalizing a with
  | nil => rfl
  | cons p _ ih => exact ih (by simp at hn; exact hn.2) _
  | swap p q l =>
    simp only [List.map_cons, List.nodup_cons, List.mem_cons, not_or] at hn
    simp only [puts, List.foldl_cons]
    rw [Act.put_comm a _ _ (fun d e => by cases e; exact fun h => hn.1.1 (by injection h with h; exact h.symm))]
  | trans h1 _ ih1 ih2 => rw [ih1 hn, ih2 ((h1.map _).nodup_iff.1 hn)]
theorem perm_map_lift {α β : Type} {f : α → β} {x m : List β} (h : x.Perm m) : ∀ l : List α, l.map f = x → ∃ l', l.Perm l' ∧ l'.map f = m := by
  induction h with
  | nil => intro l hl; exact ⟨l, List.Perm.refl _, hl⟩
  | cons a _ ih =>
    intro l hl
    cases l with
    | nil => simp at hl
    | cons b l =>
      simp only [List.map_cons, List.cons.injEq] at hl
      obtain ⟨l', h1, h2⟩ := ih l hl.2
      exact ⟨b :: l', h1.cons b, by simp [hl.1, h2]⟩
  | swap a b t =>
    intro l hl
    match l, hl with
    | x :: y :: l, hl =>
      simp only [List.map_cons, List.cons.injEq] at hl
      exact ⟨y :: x :: l, List.Perm.swap _ _ _, by simp [hl.1, hl.2.1, hl.2.2]⟩
  | trans _ _ ih1 ih2 =>
    intro l hl
    obtain ⟨l1, a1, b1⟩ := ih1 l hl
    obtain ⟨l2, a2, b2⟩ := ih2 l1 b1
    exact ⟨l2, a1.trans a2, b2⟩
structure ChainOk (P : Program) (ops : Array Oper) (Q : Exit → Act → World → Prop) (Cs : List Nat) (F : List Fl) (l0 : Nat → Bool) : Prop where
  sel : ∀ (j : Nat) (o : Oper) cs b, ops[j]? = some o → o.op ≠ .select cs b
  pan : ∀ d ch a w v, Q (.panic ch) a w → Q (.panic ch) (a.put (some d) v) w
  fup : ∀ f ∈ F, f.i < ops.size ∧ ∃ o, ops[f.i]? = some o ∧ o.dst = some f.d ∧ o.guard = none ∧ (∀ ρ w, (execOp ρ o).run P w = .ok (.value (.pointer (some ⟨w.heap.size, 0, none⟩))) (w.alloc (.cells f.z f.ty))) ∧ ∀ e ∈ o.after, Region.binds .any e = true → l0 e.on = true ∧ e.on < ops.size
  fnd : (F.map (·.i)).Nodup
  dnd : (F.map (·.d)).Nodup
  ap : ∀ f ∈ F, ∀ c ∈ Cs, ∀ o, ops[c]? = some o → f.d ∉ o.looksAt ops ∧ o.dst ≠ some f.d
def flB (ops : Array Oper) (l : Nat → Bool) (i : Nat) (d : Tmp) (T : TypeId) : Bool := match ops[i]? with
  | some o => o.dst == some d && o.guard.isNone && (match o.op with | .alloc t => t == T | _ => false) && o.after.all fun e => !Region.binds .any e || (l e.on && decide (e.on < ops.size))
  | none => false
def apB (ops : Array Oper) (Cs : List Nat) (d : Tmp) : Bool := Cs.all fun c => match ops[c]? with | some o => !(o.looksAt ops).contains d && o.dst != some d | none => true
def Zero (P : Program) (T : TypeId) (z : Array Value) : Prop := ∀ ρ o w, o.op = .alloc T → (execOp ρ o).run P w = .ok (.value (.pointer (some ⟨w.heap.size, 0, none⟩))) (w.alloc (.cells z T))
def keys (F : List Fl) : List (Nat × Tmp × TypeId) := F.map fun f => (f.i, f.d, f.ty)
end
end Go.Proofs.YtfgnbkegdjkdmaaGreatDoor
namespace Go.Proofs.YtfgnbkegdjkdmaaGreatDoor
set_option linter.all false
set_option linter.unusedVariables false
set_option linter.unusedSimpArgs false
open Go.RowKit
section
variable {P : Program} {ops : Array Oper} {Q : Exit → Act → World → Prop}
theorem tail_list {n : Nat} {a : Act} {w : World} (h : wpList P ops Q (ops.toList.drop n) a w) : tailPost P ops Q n .normal a w := by
  have := wpOps_eq_wpList (P := P) (ops := ops) (Q := Q) (ops.toList.drop n) n (fun j => by simp [List.getElem?_drop])
  show wpOps P ops Q (List.range' n (ops.size - n)) a w
  rw [show ops.size - n = (ops.toList.drop n).length by simp, this]
  exact h
def Pan (Q : Exit → Act → World → Prop) : Prop := ∀ (d : Option Tmp) (v : Value) ch a w, Q (.panic ch) (a.put d v) w ↔ Q (.panic ch) a w
def RW (P : Program) (ops : Array Oper) (Q : Exit → Act → World → Prop) (n : Nat) (S : World → Prop) (k : Nat) (rest : List Oper) (pend : List (Nat × Oper)) (_fl : List Fl) (listed : Array Bool) (fuel : Nat) (a : Act) (w : World) : Prop :=
  (ops.toList.take n).drop k = rest → (∀ p ∈ pend, (frontOf ops n)[p.1]? = some p.2) → Pan Q → wpAnyH P .any (frontOf ops n) (tailPost P ops Q n) S fuel listed a w
theorem RW.begin {id n : Nat} {a : Act} {w : World} (hm : P.follows .mixedOrders = true) (hT : tailOk ops n = true) (hp : Pan Q)
    (h : Below w.heap.size w w.drew → RW P ops Q n (Below w.heap.size w) 0 (ops.toList.take n) [] [] (Array.replicate n false) n a w.drew) : (Code.region id ops true).wp P Q a w :=
  wp_region_front hm hT fun hS => h hS rfl (fun p hp => by cases hp) hp
theorem RW.head {n k : Nat} {o : Oper} {rest : List Oper} (h : (ops.toList.take n).drop k = o :: rest) : (frontOf ops n)[k]? = some o ∧ (ops.toList.take n).drop (k + 1) = rest := by
  constructor
  · have := congrArg (·[0]?) h
    simpa [frontOf, List.getElem?_drop] using this
  · have := congrArg List.tail h
    simpa [List.drop_drop, Nat.add_comm] using this
def takeB (ops : Array Oper) (n : Nat) (l : Array Bool) (i : Nat) : Bool := Region.noSelect (frontOf ops n) && Region.free .any (frontOf ops n) l i && (Region.ready .any (frontOf ops n) l).contains i
theorem RW.take {n k fuel : Nat} {S : World → Prop} {o : Oper} {rest : List Oper} {pend : List (Nat × Oper)} {fl : List Fl} {listed : Array Bool} {a : Act} {w : World} {v : Value} (hS : S w) (hk : takeB ops n listed k = true)
    (hw : Region.wanted o (yielded (frontOf ops n) a.tmps) = true) (hrun : ∀ w', S w' → (execOp a.eval o).run P w' = .ok (.value v) w')
    (h : RW P ops Q n S (k + 1) rest pend fl (listed.setIfInBounds k true) fuel (a.put o.dst v) w) : RW P ops Q n S k (o :: rest) pend fl listed (fuel + 1) a w := fun h1 h2 h3 => by
  obtain ⟨e1, e2⟩ := RW.head h1
  simp only [takeB, Bool.and_eq_true] at hk
  exact wpAnyH_take e1 hk.1.1 hk.1.2 hk.2 (fun c a w h => (h3 o.dst v c a w).1 h) (.inl ⟨hw, hrun⟩) hS (h e2 h2 h3)
theorem RW.keep {n k fuel : Nat} {S : World → Prop} {o : Oper} {rest : List Oper} {pend : List (Nat × Oper)} {fl : List Fl} {listed : Array Bool} {a : Act} {w : World}
    (h : RW P ops Q n S (k + 1) rest (pend ++ [(k, o)]) fl listed fuel a w) : RW P ops Q n S k (o :: rest) pend fl listed fuel a w := fun h1 h2 h3 => by
  obtain ⟨e1, e2⟩ := RW.head h1
  exact h e2 (fun p hp => by
    rcases List.mem_append.1 hp with hp | hp
    · exact h2 p hp
    · simp only [List.mem_singleton] at hp; subst hp; exact e1) h3
theorem RW.float {n k fuel : Nat} {S : World → Prop} {d : Tmp} {T : TypeId} {ty : TypeId} {pos : String} {af : Array Edge} {rest : List Oper} {pend : List (Nat × Oper)} {fl : List Fl} {listed : Array Bool} {a : Act} {w : World} (z : Array Value)
    (h : RW P ops Q n S (k + 1) rest pend (fl ++ [⟨k, d, T, z⟩]) listed fuel a w) : RW P ops Q n S k (⟨some d, .alloc T, ty, pos, af, none⟩ :: rest) pend fl listed fuel a w := fun h1 h2 h3 => h (RW.head h1).2 h2 h3
end
end Go.Proofs.YtfgnbkegdjkdmaaGreatDoor
namespace Go.Proofs.YtfgnbkegdjkdmaaGreatDoor
set_option linter.all false
set_option linter.unusedVariables false
set_option linter.unusedSimpArgs false
open Go.RowKit
def flat (sz n : Nat) (f : Nat → Nat → Value) : List Value := (List.range n).flatMap fun i => (List.range sz).map (f i)
theorem flat_succ (sz n : Nat) (f : Nat → Nat → Value) : flat sz (n + 1) f = flat sz n f ++ (List.range sz).map (f n) := by
  simp [flat, List.range_succ]
theorem flat_length (sz n : Nat) (f : Nat → Nat → Value) : (flat sz n f).length = n * sz := by
  induction n with
  | zero => simp [flat]
  | succ n ih => rw [flat_succ, List.length_append, ih]; simp [Nat.add_mul]
theorem flat_get {sz n : Nat} {f : Nat → Nat → Value} {i j : Nat} (hi : i < n) (hj : j < sz) : (flat sz n f)[i * sz + j]? = some (f i j) := by
  induction n with
  | zero => omega
  | succ n ih =>
    rw [flat_succ]
    by_cases hin : i < n
    · have : i * sz + j < (flat sz n f).length := by
        rw [flat_length]
        have := Nat.mul_le_mul_right sz (show i + 1 ≤ n by omega)
        rw [Nat.add_mul] at this
        omega
      rw [List.getElem?_append_left this]
      exact ih hin
    · obtain rfl : i = n := by omega
      rw [List.getElem?_append_right (by rw [flat_length]; omega), flat_length]
      simp [hj]
theorem flat_congr {sz n : Nat} {f g : Nat → Nat → Value} (h : ∀ i j, i < n → j < sz → f i j = g i j) : flat sz n f = flat sz n g := by
  induction n with
  | zero => rfl
  | succ n ih =>
    rw [flat_succ, flat_succ, ih fun i j hi hj => h i j (by omega) hj]
    congr 1
    exact List.map_congr_left fun j hj => h n j (by omega) (List.mem_range.1 hj)
def cat (n : Nat) (f g : Nat → Nat → Value) : Nat → Nat → Value := fun i j => if i < n then f i j else g (i - n) j
theorem flat_cat (sz n m : Nat) (f g : Nat → Nat → Value) : flat sz (n + m) (cat n f g) = flat sz n f ++ flat sz m g := by
  induction m with
  | zero => simp only [Nat.add_zero]; rw [show flat sz 0 g = [] from rfl, List.append_nil]; exact flat_congr fun i j hi _ => by simp [cat, hi]
  | succ m ih =>
    rw [← Nat.add_assoc, flat_succ, ih, flat_succ, List.append_assoc]
    congr 2
    exact List.map_congr_left fun j _ => by simp [cat]; intro h; omega
def Own (w : World) (B : Nat) (E : TypeId) (sz : Nat) (v : Value) (n : Nat) (f : Nat → Nat → Value) : Prop := w.ownsRow B E sz v n (flat sz n f)
section
variable {w w' : World} {B : Nat} {E : TypeId} {sz n : Nat} {v : Value} {f : Nat → Nat → Value}
theorem Own.form (h : Own w B E sz v n f) : ∃ A c, v = .slice A n c ∧ n ≤ c ∧ c ≤ maxLen ∧ Rd w sz A n f := by
  rcases h.2 with ⟨rfl, rfl⟩ | ⟨g, cap, cur, rfl, hg, hh, hnc, hcm, hcs, ht⟩
  · exact ⟨none, 0, rfl, Nat.le_refl _, Nat.zero_le _, Rd.nil⟩
  · refine ⟨_, cap, rfl, hnc, hcm, fun _ => ⟨g, 0, rfl, ?_, fun i j hi hj => ?_⟩⟩
    · rcases Nat.lt_or_ge g w.heap.size with h1 | h1
      · exact h1
      · rw [Array.getElem?_eq_none h1] at hh; cases hh
    · rw [Nat.zero_add, cell_of_row w g _ cur E (0, 0) hh]
      have h2 := flat_get (f := f) hi hj
      rw [← ht, List.getElem?_take] at h2
      split at h2
      · simpa using h2
      · cases h2
theorem Own.congr {g : Nat → Nat → Value} (h : Own w B E sz v n f) (he : ∀ i j, i < n → j < sz → f i j = g i j) : Own w B E sz v n g := by
  unfold Own; rw [← flat_congr he]; exact h
theorem Own.nil (w : World) (B : Nat) (E : TypeId) (sz : Nat) (f : Nat → Nat → Value) : Own w B E sz (.slice none 0 0) 0 f := ⟨by simp [flat], .inl ⟨rfl, rfl⟩⟩
theorem Own.of_blk {cs : Array Value} {b : Nat} (h : Blk w b E cs) (hB : B ≤ b) (hs : cs.size = n * sz) (hz : 0 < sz) (hm : n ≤ maxLen) (hf : ∀ i j, i < n → j < sz → cs.getD (i * sz + j) undef = f i j) : Own w B E sz (.slice (some ⟨b, 0, none⟩) n n) n f := by
  refine ⟨flat_length _ _ _, .inr ⟨b, n, cs, rfl, hB, h, Nat.le_refl _, hm, hs, ?_⟩⟩
  apply List.ext_getElem?
  intro q
  by_cases hq : q < n * sz
  · have hi : q / sz < n := Nat.div_lt_of_lt_mul (by rw [Nat.mul_comm]; exact hq)
    have hj : q % sz < sz := Nat.mod_lt _ hz
    have e : q = q / sz * sz + q % sz := by rw [Nat.mul_comm]; exact (Nat.div_add_mod q sz).symm
    have h2 := flat_get (f := f) hi hj
    rw [← e] at h2
    have h3 := hf _ _ hi hj
    rw [← e] at h3
    have hqc : q < cs.size := by omega
    rw [h2, ← h3, List.getElem?_take]
    simp [hq, Array.getD, hqc]
  · rw [List.getElem?_eq_none (by simp; omega), List.getElem?_eq_none (by rw [flat_length]; omega)]
theorem Own.blk {k : Nat} (h : Own w B E sz v n f) (hv : v.ownBlock = some k) : B ≤ k ∧ k < w.heap.size := World.ownsRow.lt h k hv
end
structure ElemT (P : Program) (t E : TypeId) (sz bytes : Nat) : Prop where
  ht : P.underlying t = some (.slice E)
  hi : ∃ i z, P.info? E = some i ∧ i.zero = some z ∧ i.size = sz ∧ i.bytes = bytes ∧ z.cells.size = sz
  pos : 0 < sz
theorem elemT {P : Program} {t E : TypeId} {sz bytes : Nat} {z : Value} (ht : P.underlying t = some (.slice E)) (h : (P.info? E).map (fun i => (i.zero, i.size, i.bytes)) = some (some z, sz, bytes)) (hz : z.cells.size = sz) (pos : 0 < sz) : ElemT P t E sz bytes := by
  obtain ⟨i, h1, h2, h3, h4⟩ := info_parts h
  exact ⟨ht, ⟨i, z, h1, h2, h3, h4, hz⟩, pos⟩
section
variable {P : Program} {w : World}
theorem run_append_R {t ty E : TypeId} {sz bytes B : Nat} (T : ElemT P t E sz bytes) {v : Value} {n : Nat} {f : Nat → Nat → Value} (hown : Own w B E sz v n f) {A : Option Addr} {m c : Nat} {g : Nat → Nat → Value} (hr : Rd w sz A m g)
    (hA : A = none → c = 0 ∨ True) (h1 : ∀ i j, i < m → j < sz → (g i j).oneCell' = true) (hm : n + m ≤ 1000000000) (hby : bytes ≤ 10000) (hB : B ≤ w.heap.size) :
    ∃ v' w', (Builtin.append_ #[t, t] ty #[v, .slice A m c]).run P w = .ok v' w' ∧ Own w' B E sz v' (n + m) (cat n f g) ∧ w.grownBy w' v.ownBlock ∧ (v'.ownBlock = v.ownBlock ∨ v'.ownBlock = some w.heap.size) := by
  obtain ⟨i, z, hi, hz, hs, hb, hzs⟩ := T.hi
  have hsmall : n + m ≤ maxLen := by simp only [maxLen]; omega
  have hbytes : (n + m) * bytes ≤ 140737488355328 := Nat.le_trans (Nat.mul_le_mul hm hby) (by decide)
  by_cases hm0 : m = 0
  · subst hm0
    have hfl : Own w B E sz v (n + 0) (cat n f g) := hown.congr fun i j hi _ => by simp [cat, show i < n from hi]
    cases A with
    | none =>
      refine ⟨v, w, ?_, hfl, World.grownBy.refl w _, .inl rfl⟩
      rcases hown.2 with ⟨rfl, rfl⟩ | ⟨g', cap, cur, rfl, _, _, hnc, _⟩
      · simp [Builtin.append_, run_underlying T.ht, sizeOf, typeInfo, hi, Builtin.lenOf, Builtin.firstCells]
      · simp [Builtin.append_, run_underlying T.ht, sizeOf, typeInfo, hi, Builtin.lenOf, Builtin.firstCells, hnc, storeCells]
    | some ad =>
      obtain ⟨v', w', hrun, h2, h3, _, h5⟩ := run_append_own_at (P := P) w B t ty E i z sz bytes T.ht hi hz hs hb hzs T.pos v n _ hown ad 0 c [] (by simp) (by simp) (by simp) (by simpa using hsmall) (by simpa using hbytes) hB
      refine ⟨v', w', hrun, ?_, h3, h5⟩
      unfold Own
      rw [flat_cat, show flat sz 0 g = [] from rfl]
      exact h2
  · obtain ⟨b, off, rfl, hlt, hc⟩ := hr (by omega)
    obtain ⟨v', w', hrun, h2, h3, _, h5⟩ := run_append_own_at (P := P) w B t ty E i z sz bytes T.ht hi hz hs hb hzs T.pos v n _ hown ⟨b, off, none⟩ m c (flat sz m g) (flat_length _ _ _) (fun q u hq => by
      have hql : q < m * sz := by have := (List.getElem?_eq_some_iff.1 hq).1; rw [flat_length] at this; exact this
      have hi' : q / sz < m := Nat.div_lt_of_lt_mul (by rw [Nat.mul_comm]; exact hql)
      have hj' : q % sz < sz := Nat.mod_lt _ T.pos
      have e : q = q / sz * sz + q % sz := by rw [Nat.mul_comm]; exact (Nat.div_add_mod q sz).symm
      have h2 := flat_get (f := g) hi' hj'
      rw [← e, hq] at h2
      have h3 := hc _ _ hi' hj'
      rw [Nat.add_assoc, ← e, ← h2] at h3
      rw [← h3]
      unfold Addr.add
      by_cases hq0 : q = 0
      · subst hq0; rfl
      · rw [if_neg hq0]) (fun u hu => by
      obtain ⟨q, hq, rfl⟩ := List.getElem_of_mem hu
      have hql : q < m * sz := by rw [flat_length] at hq; exact hq
      have hi' : q / sz < m := Nat.div_lt_of_lt_mul (by rw [Nat.mul_comm]; exact hql)
      have hj' : q % sz < sz := Nat.mod_lt _ T.pos
      have e : q = q / sz * sz + q % sz := by rw [Nat.mul_comm]; exact (Nat.div_add_mod q sz).symm
      have h2 := flat_get (f := g) hi' hj'
      rw [← e, List.getElem?_eq_getElem hq] at h2
      injection h2 with h2
      rw [h2]
      exact h1 _ _ hi' hj') hsmall hbytes hB
    refine ⟨v', w', hrun, ?_, h3, h5⟩
    unfold Own
    rw [flat_cat]
    exact h2
theorem wp_app {o : Oper} {a : Act} {K : Act → World → Prop} {Q : Exit → Act → World → Prop} (s x : Operand) {t E : TypeId} {sz bytes B : Nat} (T : ElemT P t E sz bytes) (ho : o.op = .call { callee := .builtin .append, args := #[s, x], argTypes := #[t, t] })
    {v : Value} {n : Nat} {f : Nat → Nat → Value} (hs : a.eval s = v) (hown : Own w B E sz v n f) {A : Option Addr} {m c : Nat} {g : Nat → Nat → Value} (hx : a.eval x = .slice A m c) (hr : Rd w sz A m g) (h1 : ∀ i j, i < m → j < sz → (g i j).oneCell' = true) (hm : n + m ≤ 1000000000)
    (hby : bytes ≤ 10000) (hB : B ≤ w.heap.size) (h : ∀ v' w', Own w' B E sz v' (n + m) (cat n f g) → w.grownBy w' v.ownBlock → (v'.ownBlock = v.ownBlock ∨ v'.ownBlock = some w.heap.size) → K (a.put o.dst v') w') : o.wp P a w K Q := by
  obtain ⟨v', w', hrun, h2, h3, h4⟩ := run_append_R (ty := o.type) T hown hr (fun _ => .inr trivial) h1 hm hby hB
  unfold Oper.wp execOp
  simp only [ho, resolve, invoke, builtin, Sem.run_bind, Sem.run_pure, Result.andThen_ok, List.map_toArray, List.map_cons, List.map_nil, hs, hx]
  rw [hrun]
  exact h v' w' h2 h3 h4
theorem wpList_app {ops : Array Oper} {rest : List Oper} {o : Oper} {a : Act} {Q : Exit → Act → World → Prop} (hgd : o.guard = none) (s x : Operand) {t E : TypeId} {sz bytes B : Nat} (T : ElemT P t E sz bytes) (ho : o.op = .call { callee := .builtin .append, args := #[s, x], argTypes := #[t, t] })
    {v : Value} {n : Nat} {f : Nat → Nat → Value} (hs : a.eval s = v) (hown : Own w B E sz v n f) {A : Option Addr} {m c : Nat} {g : Nat → Nat → Value} (hx : a.eval x = .slice A m c) (hr : Rd w sz A m g) (h1 : ∀ i j, i < m → j < sz → (g i j).oneCell' = true) (hm : n + m ≤ 1000000000)
    (hby : bytes ≤ 10000) (hB : B ≤ w.heap.size) (h : ∀ v' w', Own w' B E sz v' (n + m) (cat n f g) → w.grownBy w' v.ownBlock → (v'.ownBlock = v.ownBlock ∨ v'.ownBlock = some w.heap.size) → wpList P ops Q rest (a.put o.dst v') w') : wpList P ops Q (o :: rest) a w :=
  wpList_plain hgd fun _ hK => wp_app s x T ho hs hown hx hr h1 hm hby hB fun v' w' h2 h3 h4 => hK _ _ (h v' w' h2 h3 h4)
end
end Go.Proofs.YtfgnbkegdjkdmaaGreatDoor
