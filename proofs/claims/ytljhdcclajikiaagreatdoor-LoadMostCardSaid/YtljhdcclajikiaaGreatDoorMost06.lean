/-
  Part 6 of the proof of loadMost_holds: declarations of several texts, in build order. No condition on a program.
-/
import Derived.Test.YtljhdcclajikiaaGreatDoorMost05
namespace Go.Proofs.YtljhdcclajikiaaGreatDoor
set_option linter.all false
set_option linter.unusedVariables false
set_option linter.unusedSimpArgs false
open Go.RowKit
theorem mlook_mput (i j : Int) (v : Value) : ∀ l : List (Int × Value), mlook j (mput i v l) = if j = i then some v else mlook j l
  | [] => by by_cases h : j = i <;> simp [mput, mlook, h]
  | (k, u) :: l => by
    by_cases hk : i = k
    · subst hk; by_cases h : j = i <;> simp [mput, mlook, h]
    · by_cases h : j = i
      · subst h; simp [mput, mlook, hk, mlook_mput j j v l]
      · by_cases h2 : j = k
        · subst h2; simp [mput, mlook, hk, h]
        · simp [mput, mlook, hk, h, h2, mlook_mput i j v l]
theorem mput_len (i : Int) (v : Value) : ∀ l : List (Int × Value), (mput i v l).length = l.length + if (mlook i l).isSome then 0 else 1
  | [] => rfl
  | (k, u) :: l => by
    by_cases hk : i = k
    · simp [mput, mlook, hk]
    · simp [mput, mlook, hk, mput_len i v l]; omega
theorem mark_look (x : Int) : ∀ (xs : List Int) (m : List (Int × Value)), (mlook x (xs.foldl (fun m x => mput x (.bool true) m) m)).isSome = (decide (x ∈ xs) || (mlook x m).isSome)
  | [], m => by simp
  | y :: xs, m => by
    rw [List.foldl_cons, mark_look x xs, mlook_mput]
    by_cases h : x = y <;> by_cases h2 : x ∈ xs <;> simp [h, h2]
theorem mark_len : ∀ (n : Nat) (xs : List Int), xs.length = n → (markAll xs).length ≤ n ∧ ((markAll xs).length = n ↔ xs.Nodup)
  | 0, xs, h => by
    have : xs = [] := List.length_eq_zero_iff.1 h
    subst this
    simp [markAll]
  | n + 1, xs, h => by
    rcases List.eq_nil_or_concat xs with rfl | ⟨ys, y, rfl⟩
    · simp at h
    · have hl : ys.length = n := by simpa using h
      obtain ⟨h1, h2⟩ := mark_len n ys hl
      have hk := mark_look y ys []
      have hk' : (mlook y (markAll ys)).isSome = decide (y ∈ ys) := by
        unfold markAll; rw [hk]; simp [mlook]
      rw [List.concat_eq_append, markAll_snoc, mput_len, hk']
      by_cases hm : y ∈ ys
      · simp only [hm, decide_true, if_true]
        refine ⟨by omega, ⟨fun h => by omega, fun h => ?_⟩⟩
        exfalso
        have := List.nodup_append.1 h
        exact this.2.2 y hm y (by simp) rfl
      · simp only [hm, decide_false, Bool.false_eq_true, if_false]
        refine ⟨by omega, ⟨fun h => ?_, fun h => ?_⟩⟩
        · have h3 : ys.Nodup := h2.1 (by omega)
          exact List.nodup_append.2 ⟨h3, by simp, fun a ha b hb e => by
            simp at hb; subst hb; subst e; exact hm ha⟩
        · have := h2.2 (List.nodup_append.1 h).1
          omega
theorem marks_nodup (xs : List Int) : decide (((markAll xs).length : Int) = (xs.length : Int)) = decide xs.Nodup := by
  have h := (mark_len xs.length xs rfl).2
  by_cases hn : xs.Nodup
  · have := h.2 hn; simp [hn, this]
  · have : ¬ (markAll xs).length = xs.length := fun e => hn (h.1 e)
    simp only [hn, decide_false, decide_eq_false_iff_not]
    omega
theorem lsts_get (l : Nat → Nat) (v : Nat → Nat → Int) : ∀ (j k : Nat), k < tot l j → catN l (fun i k => [.int .i64 (v i k)]) j k = [Value.int .i64 ((lsts l v j).getD k 0)]
  | 0, k, h => by simp [tot] at h
  | j + 1, k, h => by
    simp only [catN, catR, lsts]
    have hl := lsts_length l v j
    by_cases hk : k < tot l j
    · rw [if_pos hk, lsts_get l v j k hk, List.getD_eq_getElem?_getD, List.getD_eq_getElem?_getD, List.getElem?_append_left (by omega)]
    · rw [if_neg hk, List.getD_eq_getElem?_getD, List.getElem?_append_right (by omega), hl]
      simp only [tot] at h
      have h2 : k - tot l j < l j := by omega
      simp [lst, List.getD_eq_getElem?_getD, h2]
theorem rise_bound {v : Nat → Int} {N : Int} {n : Nat} (h3 : 0 ≤ N) (h : allB n (riseP v N) = true) : ∀ k, k < n → 0 ≤ v k ∧ v k ≤ N - 1 := fun k hk => by
  have h1 := allB_iff.1 h
  have h2 := rise_lo h3 k fun j hj => h1 j (by omega)
  have h4 := h1 k hk
  simp only [riseP, inB5, Bool.and_eq_true, decide_eq_true_eq] at h4
  omega
theorem lsts_bound {l : Nat → Nat} {v : Nat → Nat → Int} {N : Int} (h3 : 0 ≤ N) : ∀ j, (∀ j', j' < j → allB (l j') (riseP (v j') N) = true) → ∀ x ∈ lsts l v j, 0 ≤ x ∧ x ≤ N - 1
  | 0, _, x, hx => by simp [lsts] at hx
  | j + 1, h, x, hx => by
    simp only [lsts, List.mem_append] at hx
    rcases hx with hx | hx
    · exact lsts_bound h3 j (fun j' hj => h j' (by omega)) x hx
    · simp only [lst, List.mem_map, List.mem_range] at hx
      obtain ⟨k, hk, rfl⟩ := hx
      exact rise_bound h3 (h j (by omega)) k hk
theorem take_next {ys : List Int} {k : Nat} (hk : k < ys.length) : ys.take (k + 1) = ys.take k ++ [ys.getD k 0] := by
  rw [List.take_succ, List.getD_eq_getElem?_getD, List.getElem?_eq_getElem hk]
  rfl
theorem refList3 {a : Nat → Option Addr} {l c : Nat → Nat} {v : Nat → Nat → Int} {w : World} (ht : tot l 3 ≤ 1000000000) (hI : ∀ i, i < 3 → RdR w 1 (a i) (l i) (fun k => [.int .i64 (v i k)])) :
    CallsK Tryz.prog 13 #[.agg (tieL a l c).toArray] [] w (Option Addr × Nat) (fun x => .slice x.1 (tot l 3) x.2) (fun x => [.own x.1 (tot l 3) x.2 3 1 (fun k => [.int .i64 ((lsts l v 3).getD k 0)])]) :=
  Calls.mono (refList_any ht hI) fun e w' ⟨x, h1, h2⟩ => ⟨x, h1, h2.sub (KSub.own Pick.hd (fun k hk => lsts_get l v 3 k hk) KSub.nil)⟩
theorem allB3 (p : Nat → Bool) : allB 3 p = (p 0 && p 1 && p 2) := by simp [allB, List.range_succ, Bool.and_assoc]
def usedR (xs : List Int) : Nat → List Value := fun q => [.bool (decide ((q : Int) ∈ xs))]
theorem usedR_put {xs : List Int} {x : Int} (h0 : 0 ≤ x) : ∀ q, updR (usedR xs) x.toNat [.bool true] q = usedR (xs ++ [x]) q := fun q => by
  unfold updR usedR
  by_cases h : q = x.toNat
  · subst h
    have : ((x.toNat : Nat) : Int) = x := by omega
    simp [this]
  · have : ¬ ((q : Int) = x) := by omega
    simp [h, this]
def dupOk (np m : Nat) (l : Nat → Nat → Nat) (v : Nat → Nat → Nat → Int) : Bool := allB m (fun i => tieOk np (l i) (v i)) && (decide ((m : Int) ≤ 8) && decide (held l v m).Nodup)
theorem ties_dup (np m : Nat) (l : Nat → Nat → Nat) (v : Nat → Nat → Nat → Int) : tiesOk np m l v = dupOk np m l v := by
  unfold tiesOk dupOk
  rw [marks_nodup]
theorem held_pre {l : Nat → Nat → Nat} {v : Nat → Nat → Nat → Int} {i m : Nat} (h : i ≤ m) : ∃ r, held l v m = held l v i ++ r := by
  induction m with
  | zero => have : i = 0 := by omega
            subst this; exact ⟨[], by simp⟩
  | succ m ih =>
    by_cases he : i = m + 1
    · subst he; exact ⟨[], by simp⟩
    · obtain ⟨r, hr⟩ := ih (by omega)
      exact ⟨r ++ lsts (l m) (v m) 3, by simp [held, hr]⟩
theorem dup_no {np m i k : Nat} {l : Nat → Nat → Nat} {v : Nat → Nat → Nat → Int} (hi : i < m) (hk : k < tot (l i) 3) (h : (lsts (l i) (v i) 3).getD k 0 ∈ held l v i ++ (lsts (l i) (v i) 3).take k) : dupOk np m l v = false := by
  have h1 : ¬ (held l v m).Nodup := fun hn => by
    obtain ⟨r, hr⟩ := held_pre (l := l) (v := v) (show i + 1 ≤ m by omega)
    rw [hr] at hn
    have h2 := (List.nodup_append.1 hn).1
    rw [held] at h2
    have h3 : (held l v i ++ (lsts (l i) (v i) 3).take (k + 1)).Nodup := by
      have h4 : (held l v i ++ (lsts (l i) (v i) 3)) = (held l v i ++ (lsts (l i) (v i) 3).take (k + 1)) ++ (lsts (l i) (v i) 3).drop (k + 1) := by rw [List.append_assoc, List.take_append_drop]
      rw [h4] at h2
      exact (List.nodup_append.1 h2).1
    rw [take_next (by rw [lsts_length]; exact hk), ← List.append_assoc] at h3
    exact (List.nodup_append.1 h3).2.2 _ h _ (by simp) rfl
  unfold dupOk
  simp [h1]
theorem dup_tie {np m i : Nat} {l : Nat → Nat → Nat} {v : Nat → Nat → Nat → Int} (hi : i < m) (h : tieOk np (l i) (v i) = false) : dupOk np m l v = false := by
  rw [← ties_dup]; exact ties_no hi h
set_option maxRecDepth 100000 in
theorem refTies_any {A2 : Option Addr} {np m cp2 : Nat} {a : Nat → Nat → Option Addr} {l c : Nat → Nat → Nat} {v : Nat → Nat → Nat → Int} {w : World} (hnp : np ≤ 1000000) (hm : m ≤ 1000)
    (hT : RdR w 3 A2 m (fun i => tieL (a i) (l i) (c i))) (hI : ∀ i, i < m → ∀ j, j < 3 → RdR w 1 (a i j) (l i j) (fun k => [.int .i64 (v i j k)])) (hL : ∀ i, i < m → tot (l i) 3 ≤ 1000) :
    Calls Tryz.prog 26 #[.int .i64 np, .slice A2 m cp2] w (Ret w (.bool (dupOk np m l v))) := by
  refine K_enter (S := []) (K := []) Tryz.func26 rfl Tryz.ntmps26 rfl (Sat.start _) ?_
  refine TW.seq fun Y1 hY1 => ?_
  refine TW.region ?_
  refine TL.p Pu.as ?_
  refine TL.nil ?_
  refine TQ.thenN (hY1 _ _ ?_)
  refine TW.seq fun Y2 hY2 => ?_
  refine TW.seq fun Y3 hY3 => ?_
  refine TW.region ?_
  refine TL.p Pu.mv ?_
  refine TL.p (Pu.ln Tryz.underlying23) ?_
  refine TL.p Pu.gt ?_
  refine TL.nil ?_
  refine TQ.thenN (hY3 _ _ ?_)
  refine TW.cond rfl (fun hc0 => ?_) (fun hc0 => ?_)
  · try simp only [decide_eq_true_eq, decide_eq_false_iff_not, Bool.not_eq_true', Bool.not_eq_false', Bool.and_eq_true, Bool.or_eq_true, Bool.and_eq_false_iff, Bool.or_eq_false_iff, Int.not_lt, Int.not_le] at hc0
    refine TW.seq fun Y4 hY4 => ?_
    refine TW.region ?_
    refine TL.p Pu.as ?_
    refine TL.nil ?_
    refine TQ.thenN (hY4 _ _ ?_)
    refine TW.ret ?_
    refine TQ.thenR ?_
    refine TQ.ret Tryz.results26 rfl ((.tmp rfl .nil)) ?_
    exact fun w hw => ⟨ret_bool (by unfold dupOk; rw [show decide ((m : Int) ≤ 8) = false by simp; omega]; simp), Chg.ext hw.chg⟩
  · try simp only [decide_eq_true_eq, decide_eq_false_iff_not, Bool.not_eq_true', Bool.not_eq_false', Bool.and_eq_true, Bool.or_eq_true, Bool.and_eq_false_iff, Bool.or_eq_false_iff, Int.not_lt, Int.not_le] at hc0
    refine TW.skip ?_
    refine TQ.thenN (hY2 _ _ ?_)
    refine TW.seq fun Y5 hY5 => ?_
    refine TW.region ?_
    refine TL.p Pu.mv ?_
    refine TL.ms ty_et104 ty_zr4 ?_
    intro b1
    refine TL.p Pu.as ?_
    refine TL.nil ?_
    refine TQ.thenN (hY5 _ _ ?_)
    refine TW.seq fun Y6 hY6 => ?_
    refine TW.seq fun Y7 hY7 => ?_
    refine TW.region ?_
    refine TL.p Pu.as ?_
    refine TL.nil ?_
    refine TQ.thenN (hY7 _ _ ?_)
    refine TW.block ?_
    refine TW.loop1 (fun (i : Nat) => [(6, .int .i64 (i : Int)), (0, .int .i64 (np : Int)), (1, .slice A2 m cp2), (5, .slice (some ⟨b1, 0, none⟩) np np)]) (fun i => [.own (some ⟨b1, 0, none⟩) np np 4 1 (usedR (held l v i))]) (fun i => i ≤ m ∧ (held l v i).Nodup ∧ ∀ i', i' < i → tieOk np (l i') (v i') = true) (fun i => m - i) 0 (by repeat (first | exact trivial | refine ⟨rfl, ?_⟩ | refine ⟨trivial, ?_⟩)) ?_ ?_ ?_
    · exact KSub.own Pick.hd (fun q _ => by simp [usedR, held]) KSub.nil
    · exact ⟨by omega, by simp [held], fun i' h => by omega⟩
    rintro i ⟨hi, hnd, hoks⟩ Z0 hZ0
    refine TW.seq fun Y8 hY8 => ?_
    refine TW.seq fun Y9 hY9 => ?_
    refine TW.region ?_
    refine TL.p Pu.mv ?_
    refine TL.p Pu.mv ?_
    refine TL.p (Pu.ln Tryz.underlying23) ?_
    refine TL.p Pu.lt ?_
    refine TL.nil ?_
    refine TQ.thenN (hY9 _ _ ?_)
    refine TW.cond rfl (fun hc1 => ?_) (fun hc1 => ?_)
    · try simp only [decide_eq_true_eq, decide_eq_false_iff_not, Bool.not_eq_true', Bool.not_eq_false', Bool.and_eq_true, Bool.or_eq_true, Bool.and_eq_false_iff, Bool.or_eq_false_iff, Int.not_lt, Int.not_le] at hc1
      have him : i < m := by omega
      have hLi := hL i him
      have hIi := hI i him
      have hI0 := hIi 0 (by omega)
      have hI1 := hIi 1 (by omega)
      have hI2 := hIi 2 (by omega)
      have hl0 : l i 0 + l i 1 + l i 2 ≤ 1000 := by rw [← tot3]; exact hLi
      refine TW.skip ?_
      refine TQ.thenN (hY8 _ _ ?_)
      refine TW.seq fun Y10 hY10 => ?_
      refine TW.block ?_
      refine TW.seq fun Y11 hY11 => ?_
      refine TW.region ?_
      refine TL.p Pu.mv ?_
      refine TL.p Pu.mv ?_
      refine TL.p (Pu.el ty_et23) ?_
      refine TL.p (Pu.lds ty_ag34) ?_
      refine TL.m (Mk.al ty_zr34) ?_
      intro b2
      first | refine TL.st ty_sz34 ?_ | refine TL.se ty_sz34 ?_
      refine TL.nil ?_
      refine TQ.thenN (hY11 _ _ ?_)
      refine TW.seq fun Y12 hY12 => ?_
      refine TW.seq fun Y13 hY13 => ?_
      refine TW.join [(43, .bool (!allB 3 (fun j => allB (l i j) (riseP (v i j) np))))] ?_ (fun hJ1 => ?_)
      · refine TQ.thenN (hY13 _ _ ?_)
        refine TW.cond rfl (fun hc2 => ?_) (fun hc2 => ?_)
        · try simp only [decide_eq_true_eq, decide_eq_false_iff_not, Bool.not_eq_true', Bool.not_eq_false', Bool.and_eq_true, Bool.or_eq_true, Bool.and_eq_false_iff, Bool.or_eq_false_iff, Int.not_lt, Int.not_le] at hc2
          have hbad : allB 3 (fun j => allB (l i j) (riseP (v i j) np)) = false := by simpa using hc2
          refine TW.seq fun Y14 hY14 => ?_
          refine TW.region ?_
          refine TL.p Pu.as ?_
          refine TL.nil ?_
          refine TQ.thenN (hY14 _ _ ?_)
          refine TW.ret ?_
          refine TQ.thenR ?_
          refine TQ.blkR ?_
          refine TQ.thenR ?_
          refine TQ.thenR ?_
          refine TQ.blkR ?_
          refine TQ.thenR ?_
          refine TQ.ret Tryz.results26 rfl ((.tmp rfl .nil)) ?_
          exact fun w hw => ⟨ret_bool (by rw [dup_tie him (by unfold tieOk; rw [hbad]; rfl)]), Chg.ext hw.chg⟩
        · try simp only [decide_eq_true_eq, decide_eq_false_iff_not, Bool.not_eq_true', Bool.not_eq_false', Bool.and_eq_true, Bool.or_eq_true, Bool.and_eq_false_iff, Bool.or_eq_false_iff, Int.not_lt, Int.not_le] at hc2
          have hgood : allB 3 (fun j => allB (l i j) (riseP (v i j) np)) = true := by simpa using hc2
          have hbd := lsts_bound (N := (np : Int)) (by omega) 3 (fun j' hj => allB_iff.1 hgood j' hj)
          refine TW.skip ?_
          refine TQ.thenN (hY12 _ _ ?_)
          refine TW.seq fun Y15 hY15 => ?_
          refine TW.region ?_
          refine TL.p (Pu.lds ty_ag34) ?_
          refine TL.call (M := []) rfl (enters Tryz.func13 rfl rfl) (List.Perm.refl _) rfl (fun w hw => by
              exact refList3 (v := v i) (by omega) (fun j hj => (hIi j hj).sat hw Apart.nil)) ?_
          rintro ⟨A8, c8⟩
          refine TL.p Pu.as ?_
          refine TL.nil ?_
          refine TQ.thenN (hY15 _ _ ?_)
          refine TW.seq fun Y16 hY16 => ?_
          refine TW.seq fun Y17 hY17 => ?_
          refine TW.region ?_
          refine TL.p Pu.mv ?_
          refine TL.p (Pu.ln Tryz.underlying24) ?_
          refine TL.p Pu.gt ?_
          refine TL.nil ?_
          refine TQ.thenN (hY17 _ _ ?_)
          refine TW.cond rfl (fun hc3 => ?_) (fun hc3 => ?_)
          · try simp only [decide_eq_true_eq, decide_eq_false_iff_not, Bool.not_eq_true', Bool.not_eq_false', Bool.and_eq_true, Bool.or_eq_true, Bool.and_eq_false_iff, Bool.or_eq_false_iff, Int.not_lt, Int.not_le] at hc3
            refine TW.seq fun Y18 hY18 => ?_
            refine TW.region ?_
            refine TL.p Pu.as ?_
            refine TL.nil ?_
            refine TQ.thenN (hY18 _ _ ?_)
            refine TW.ret ?_
            refine TQ.thenR ?_
            refine TQ.blkR ?_
            refine TQ.thenR ?_
            refine TQ.thenR ?_
            refine TQ.blkR ?_
            refine TQ.thenR ?_
            refine TQ.ret Tryz.results26 rfl ((.tmp rfl .nil)) ?_
            exact fun w hw => ⟨ret_bool (by rw [dup_tie him (by unfold tieOk; rw [show decide (tot (l i) 3 ≤ 10) = false by simp; omega, Bool.and_false])]), Chg.ext hw.chg⟩
          · try simp only [decide_eq_true_eq, decide_eq_false_iff_not, Bool.not_eq_true', Bool.not_eq_false', Bool.and_eq_true, Bool.or_eq_true, Bool.and_eq_false_iff, Bool.or_eq_false_iff, Int.not_lt, Int.not_le] at hc3
            refine TW.skip ?_
            refine TQ.thenN (hY16 _ _ ?_)
            refine TW.seq fun Y19 hY19 => ?_
            refine TW.region ?_
            refine TL.p Pu.as ?_
            refine TL.nil ?_
            refine TQ.thenN (hY19 _ _ ?_)
            refine TW.block ?_
            refine TW.loop1 (fun (k : Nat) => [(9, .int .i64 (k : Int)), (8, .slice A8 (tot (l i) 3) c8), (6, .int .i64 (i : Int)), (0, .int .i64 (np : Int)), (1, .slice A2 m cp2), (5, .slice (some ⟨b1, 0, none⟩) np np)]) (fun k => [.own (some ⟨b1, 0, none⟩) np np 4 1 (usedR (held l v i ++ (lsts (l i) (v i) 3).take k)), .own A8 (tot (l i) 3) c8 3 1 (fun k => [.int .i64 ((lsts (l i) (v i) 3).getD k 0)])]) (fun k => k ≤ tot (l i) 3 ∧ (held l v i ++ (lsts (l i) (v i) 3).take k).Nodup) (fun k => tot (l i) 3 - k) 0 (by repeat (first | exact trivial | refine ⟨rfl, ?_⟩ | refine ⟨trivial, ?_⟩)) ?_ ?_ ?_
            · rw [List.take_zero, List.append_nil]
              exact KSub.cons (by repeat (first | exact Pick.hd | apply Pick.tl)) (KSub.cons (by repeat (first | exact Pick.hd | apply Pick.tl)) KSub.nil)
            · exact ⟨Nat.zero_le _, by simpa using hnd⟩
            rintro k ⟨hk, hndk⟩ Z1 hZ1
            refine TW.seq fun Y20 hY20 => ?_
            refine TW.seq fun Y21 hY21 => ?_
            refine TW.region ?_
            refine TL.p Pu.mv ?_
            refine TL.p Pu.mv ?_
            refine TL.p (Pu.ln Tryz.underlying24) ?_
            refine TL.p Pu.lt ?_
            refine TL.nil ?_
            refine TQ.thenN (hY21 _ _ ?_)
            refine TW.cond rfl (fun hc4 => ?_) (fun hc4 => ?_)
            · try simp only [decide_eq_true_eq, decide_eq_false_iff_not, Bool.not_eq_true', Bool.not_eq_false', Bool.and_eq_true, Bool.or_eq_true, Bool.and_eq_false_iff, Bool.or_eq_false_iff, Int.not_lt, Int.not_le] at hc4
              have hkt : k < tot (l i) 3 := by omega
              have hx : 0 ≤ (lsts (l i) (v i) 3).getD k 0 ∧ (lsts (l i) (v i) 3).getD k 0 ≤ (np : Int) - 1 := by
                refine hbd _ ?_
                rw [List.getD_eq_getElem?_getD, List.getElem?_eq_getElem (by rw [lsts_length]; exact hkt)]
                exact List.getElem_mem _
              obtain ⟨hx0, hx1⟩ := hx
              have hxn : (((lsts (l i) (v i) 3).getD k 0).toNat : Int) = (lsts (l i) (v i) 3).getD k 0 := by omega
              refine TW.skip ?_
              refine TQ.thenN (hY20 _ _ ?_)
              refine TW.seq fun Y22 hY22 => ?_
              refine TW.block ?_
              refine TW.seq fun Y23 hY23 => ?_
              refine TW.seq fun Y24 hY24 => ?_
              refine TW.region ?_
              refine TL.p Pu.mv ?_
              refine TL.p Pu.mv ?_
              refine TL.p Pu.mv ?_
              refine TL.p (Pu.el ty_et24) ?_
              refine TL.p (Pu.ld ty_sc3) ?_
              refine TL.p (Pu.el (q := ((lsts (l i) (v i) 3).getD k 0).toNat) ty_et104 (hk := rfl)) ?_
              refine TL.p (Pu.ld ty_sc4) ?_
              refine TL.nil ?_
              refine TQ.thenN (hY24 _ _ ?_)
              refine TW.cond rfl (fun hc5 => ?_) (fun hc5 => ?_)
              · try simp only [decide_eq_true_eq, decide_eq_false_iff_not, Bool.not_eq_true', Bool.not_eq_false', Bool.and_eq_true, Bool.or_eq_true, Bool.and_eq_false_iff, Bool.or_eq_false_iff, Int.not_lt, Int.not_le] at hc5
                have hdup : (lsts (l i) (v i) 3).getD k 0 ∈ held l v i ++ (lsts (l i) (v i) 3).take k := by rw [← hxn]; simpa using hc5
                refine TW.seq fun Y25 hY25 => ?_
                refine TW.region ?_
                refine TL.p Pu.as ?_
                refine TL.nil ?_
                refine TQ.thenN (hY25 _ _ ?_)
                refine TW.ret ?_
                refine TQ.thenR ?_
                refine TQ.blkR ?_
                refine TQ.thenR ?_
                refine TQ.thenR ?_
                refine TQ.blkR ?_
                refine TQ.blkR ?_
                refine TQ.thenR ?_
                refine TQ.thenR ?_
                refine TQ.blkR ?_
                refine TQ.thenR ?_
                refine TQ.ret Tryz.results26 rfl ((.tmp rfl .nil)) ?_
                exact fun w hw => ⟨ret_bool (by rw [dup_no him hkt hdup]), Chg.ext hw.chg⟩
              · try simp only [decide_eq_true_eq, decide_eq_false_iff_not, Bool.not_eq_true', Bool.not_eq_false', Bool.and_eq_true, Bool.or_eq_true, Bool.and_eq_false_iff, Bool.or_eq_false_iff, Int.not_lt, Int.not_le] at hc5
                have hnew : ¬ (lsts (l i) (v i) 3).getD k 0 ∈ held l v i ++ (lsts (l i) (v i) 3).take k := by rw [← hxn]; simpa using hc5
                refine TW.skip ?_
                refine TQ.thenN (hY23 _ _ ?_)
                refine TW.region ?_
                refine TL.p Pu.mv ?_
                refine TL.p Pu.mv ?_
                refine TL.p Pu.mv ?_
                refine TL.p (Pu.el ty_et24) ?_
                refine TL.p (Pu.ld ty_sc3) ?_
                refine TL.p (Pu.el (q := ((lsts (l i) (v i) 3).getD k 0).toNat) ty_et104 (hk := rfl)) ?_
                first | refine TL.st ty_sz4 ?_ | refine TL.se ty_sz4 ?_
                refine TL.nil ?_
                refine TQ.blkN ?_
                refine TQ.thenN (hY22 _ _ ?_)
                refine TW.region ?_
                refine TL.p Pu.mv ?_
                refine TL.p Pu.ad ?_
                refine TL.p Pu.as ?_
                refine TL.nil ?_
                refine TQ.thenN (hZ1 (k + 1) _ _ ?_ ?_ (by repeat (first | exact trivial | refine ⟨rfl, ?_⟩ | refine ⟨trivial, ?_⟩)) ?_)
                · refine ⟨by omega, ?_⟩
                  rw [take_next (by rw [lsts_length]; exact hkt), ← List.append_assoc]
                  exact List.nodup_append.2 ⟨hndk, by simp, fun a ha b hb e => by
                    rw [List.mem_singleton] at hb
                    subst hb; subst e; exact hnew ha⟩
                · exact (by first | omega | (simp only []; omega) | (simp; omega))
                · rw [take_next (by rw [lsts_length]; exact hkt), ← List.append_assoc]
                  exact KSub.own Pick.hd (fun q _ => usedR_put hx0 q) (KSub.cons (by repeat (first | exact Pick.hd | apply Pick.tl)) KSub.nil)
            · try simp only [decide_eq_true_eq, decide_eq_false_iff_not, Bool.not_eq_true', Bool.not_eq_false', Bool.and_eq_true, Bool.or_eq_true, Bool.and_eq_false_iff, Bool.or_eq_false_iff, Int.not_lt, Int.not_le] at hc4
              obtain rfl : tot (l i) 3 = k := by omega
              refine TW.exit ?_
              refine TQ.thenX ?_
              refine TQ.thenX ?_
              refine TQ.blkX ?_
              refine TQ.blkN ?_
              refine TQ.thenN (hY10 _ _ ?_)
              refine TW.region ?_
              refine TL.p Pu.mv ?_
              refine TL.p Pu.ad ?_
              refine TL.p Pu.as ?_
              refine TL.nil ?_
              rw [List.take_of_length_le (by rw [lsts_length]; exact Nat.le_refl _)] at hndk
              refine TQ.thenN (hZ0 (i + 1) _ _ ?_ ?_ (by repeat (first | exact trivial | refine ⟨rfl, ?_⟩ | refine ⟨trivial, ?_⟩)) ?_)
              · refine ⟨by omega, hndk, fun i' h => ?_⟩
                by_cases he : i' = i
                · subst he
                  simp only [tieOk, Bool.and_eq_true, decide_eq_true_eq]
                  exact ⟨hgood, by omega⟩
                · exact hoks i' (by omega)
              · exact (by first | omega | (simp only []; omega) | (simp; omega))
              · rw [List.take_of_length_le (by rw [lsts_length]; exact Nat.le_refl _)]
                exact KSub.cons (by repeat (first | exact Pick.hd | apply Pick.tl)) KSub.nil
      refine TW.region ?_
      refine TL.p (by first | exact Pu.fb ty_fa34_0 | exact Pu.fe ty_fa34_0) ?_
      refine TL.p (Pu.ld ty_sc24) ?_
      refine TL.p Pu.mv ?_
      refine TL.cr rfl (enters Tryz.func53 rfl rfl) (fun w hw => by
          first | exact refRising_any (v := v i 0) (by omega) (hI0.sat hw Apart.nil) (by omega) (by omega) | exact refRising_any (v := v i 1) (by omega) (hI1.sat hw Apart.nil) (by omega) (by omega) | exact refRising_any (v := v i 2) (by omega) (hI2.sat hw Apart.nil) (by omega) (by omega)) ?_
      refine TL.p Pu.no ?_
      refine TL.p Pu.mv ?_
      refine TL.guard (t := 30) rfl (fun hg1 => ?_) (fun hg1 => ?_)
      · refine TL.gs ?_
        refine TL.gs ?_
        refine TL.gs ?_
        refine TL.gs ?_
        refine TL.gs ?_
        refine TL.p Pu.kt ?_
        refine TL.p Pu.mv ?_
        refine TL.gs ?_
        refine TL.gs ?_
        refine TL.gs ?_
        refine TL.gs ?_
        refine TL.gs ?_
        refine TL.p Pu.kt ?_
        refine TL.nil ?_
        exact TQ.sub (by repeat (first | exact trivial | refine ⟨rfl, ?_⟩ | refine ⟨trivial, ?_⟩ | refine ⟨(by show some (Value.bool _) = some (Value.bool _); simp [hg1, allB3]), ?_⟩)) (by repeat (first | exact KSub.nil | refine KSub.cons (by repeat (first | exact Pick.hd | apply Pick.tl)) ?_)) hJ1
      · refine TL.gd (by first | exact Pu.fb ty_fa34_1 | exact Pu.fe ty_fa34_1) ?_
        refine TL.gd (Pu.ld ty_sc24) ?_
        refine TL.gd Pu.mv ?_
        refine TL.cr rfl (enters Tryz.func53 rfl rfl) (fun w hw => by
            first | exact refRising_any (v := v i 0) (by omega) (hI0.sat hw Apart.nil) (by omega) (by omega) | exact refRising_any (v := v i 1) (by omega) (hI1.sat hw Apart.nil) (by omega) (by omega) | exact refRising_any (v := v i 2) (by omega) (hI2.sat hw Apart.nil) (by omega) (by omega)) ?_
        refine TL.gd Pu.no ?_
        refine TL.p Pu.kf ?_
        refine TL.p Pu.mv ?_
        refine TL.guard (t := 37) rfl (fun hg2 => ?_) (fun hg2 => ?_)
        · refine TL.gs ?_
          refine TL.gs ?_
          refine TL.gs ?_
          refine TL.gs ?_
          refine TL.gs ?_
          refine TL.p Pu.kt ?_
          refine TL.nil ?_
          exact TQ.sub (by repeat (first | exact trivial | refine ⟨rfl, ?_⟩ | refine ⟨trivial, ?_⟩ | refine ⟨(by show some (Value.bool _) = some (Value.bool _); simp [hg1, hg2, allB3]), ?_⟩)) (by repeat (first | exact KSub.nil | refine KSub.cons (by repeat (first | exact Pick.hd | apply Pick.tl)) ?_)) hJ1
        · refine TL.gd (by first | exact Pu.fb ty_fa34_2 | exact Pu.fe ty_fa34_2) ?_
          refine TL.gd (Pu.ld ty_sc24) ?_
          refine TL.gd Pu.mv ?_
          refine TL.cr rfl (enters Tryz.func53 rfl rfl) (fun w hw => by
              first | exact refRising_any (v := v i 0) (by omega) (hI0.sat hw Apart.nil) (by omega) (by omega) | exact refRising_any (v := v i 1) (by omega) (hI1.sat hw Apart.nil) (by omega) (by omega) | exact refRising_any (v := v i 2) (by omega) (hI2.sat hw Apart.nil) (by omega) (by omega)) ?_
          refine TL.gd Pu.no ?_
          refine TL.p Pu.kf ?_
          refine TL.nil ?_
          exact TQ.sub (by repeat (first | exact trivial | refine ⟨rfl, ?_⟩ | refine ⟨trivial, ?_⟩ | refine ⟨(by show some (Value.bool _) = some (Value.bool _); simp [hg1, hg2, allB3]), ?_⟩)) (by repeat (first | exact KSub.nil | refine KSub.cons (by repeat (first | exact Pick.hd | apply Pick.tl)) ?_)) hJ1
    · try simp only [decide_eq_true_eq, decide_eq_false_iff_not, Bool.not_eq_true', Bool.not_eq_false', Bool.and_eq_true, Bool.or_eq_true, Bool.and_eq_false_iff, Bool.or_eq_false_iff, Int.not_lt, Int.not_le] at hc1
      refine TW.exit ?_
      refine TQ.thenX ?_
      refine TQ.thenX ?_
      refine TQ.blkX ?_
      refine TQ.thenN (hY6 _ _ ?_)
      refine TW.seq fun Y26 hY26 => ?_
      refine TW.region ?_
      refine TL.p Pu.as ?_
      refine TL.nil ?_
      refine TQ.thenN (hY26 _ _ ?_)
      refine TW.ret ?_
      refine TQ.ret Tryz.results26 rfl ((.tmp rfl .nil)) ?_
      exact fun w hw => ⟨ret_bool (by
        obtain rfl : i = m := by omega
        unfold dupOk
        rw [allB_iff.2 hoks, show decide ((i : Int) ≤ 8) = true by simp; omega]
        simp [hnd]), Chg.ext hw.chg⟩
theorem refCheck_any {A A2 : Option Addr} {np m cp cp2 : Nat} {pk : Nat → Nat → Int} {a : Nat → Nat → Option Addr} {l c : Nat → Nat → Nat} {v : Nat → Nat → Nat → Int} {w : World} (h : Lay w A A2 np m pk a l c v) :
    Calls Tryz.prog 7 #[.slice A np cp, .slice A2 m cp2] w (Ret w (.int .i64 (checkV np pk m l v))) := by
  have hnp := h.hnp
  refine K_enter (S := []) (K := []) Tryz.func7 rfl Tryz.ntmps7 rfl (Sat.start _) ?_
  refine TW.seq fun Y1 hY1 => ?_
  refine TW.region ?_
  refine TL.p Pu.as ?_
  refine TL.nil ?_
  refine TQ.thenN (hY1 _ _ ?_)
  refine TW.seq fun Y2 hY2 => ?_
  refine TW.seq fun Y3 hY3 => ?_
  refine TW.region ?_
  refine TL.p Pu.mv ?_
  refine TL.cr rfl (enters Tryz.func25 rfl rfl) (fun w hw => by
      exact refPacks_any hnp (h.sat hw).hR) ?_
  refine TL.p Pu.no ?_
  refine TL.nil ?_
  refine TQ.thenN (hY3 _ _ ?_)
  refine TW.cond rfl (fun hc0 => ?_) (fun hc0 => ?_)
  · try simp only [decide_eq_true_eq, decide_eq_false_iff_not, Bool.not_eq_true', Bool.not_eq_false', Bool.and_eq_true, Bool.or_eq_true, Bool.and_eq_false_iff, Bool.or_eq_false_iff, Int.not_lt, Int.not_le] at hc0
    have hno : packsOk np pk = false := hc0
    refine TW.seq fun Y4 hY4 => ?_
    refine TW.region ?_
    refine TL.p Pu.as ?_
    refine TL.nil ?_
    refine TQ.thenN (hY4 _ _ ?_)
    refine TW.ret ?_
    refine TQ.thenR ?_
    refine TQ.ret Tryz.results7 rfl ((.tmp rfl .nil)) ?_
    exact fun w hw => ⟨by unfold checkV; rw [hno]; rfl, Chg.ext hw.chg⟩
  · try simp only [decide_eq_true_eq, decide_eq_false_iff_not, Bool.not_eq_true', Bool.not_eq_false', Bool.and_eq_true, Bool.or_eq_true, Bool.and_eq_false_iff, Bool.or_eq_false_iff, Int.not_lt, Int.not_le] at hc0
    have hyes : packsOk np pk = true := hc0
    have hnp30 : np ≤ 30 := by
      have h1 := hyes
      simp only [packsOk, Bool.and_eq_true, decide_eq_true_eq] at h1
      omega
    refine TW.skip ?_
    refine TQ.thenN (hY2 _ _ ?_)
    refine TW.seq fun Y5 hY5 => ?_
    refine TW.seq fun Y6 hY6 => ?_
    refine TW.region ?_
    refine TL.p Pu.mv ?_
    refine TL.p (Pu.ln Tryz.underlying22) ?_
    refine TL.p Pu.mv ?_
    refine TL.cr rfl (enters Tryz.func26 rfl rfl) (fun w hw => by
        exact refTies_any (by omega) h.hm (h.sat hw).hT (h.sat hw).hI h.hL) ?_
    refine TL.p Pu.no ?_
    refine TL.nil ?_
    refine TQ.thenN (hY6 _ _ ?_)
    refine TW.cond rfl (fun hc1 => ?_) (fun hc1 => ?_)
    · try simp only [decide_eq_true_eq, decide_eq_false_iff_not, Bool.not_eq_true', Bool.not_eq_false', Bool.and_eq_true, Bool.or_eq_true, Bool.and_eq_false_iff, Bool.or_eq_false_iff, Int.not_lt, Int.not_le] at hc1
      have hn1 : dupOk np m l v = false := hc1
      refine TW.seq fun Y7 hY7 => ?_
      refine TW.region ?_
      refine TL.p Pu.as ?_
      refine TL.nil ?_
      refine TQ.thenN (hY7 _ _ ?_)
      refine TW.ret ?_
      refine TQ.thenR ?_
      refine TQ.ret Tryz.results7 rfl ((.tmp rfl .nil)) ?_
      exact fun w hw => ⟨by unfold checkV; rw [hyes, ties_dup, hn1]; rfl, Chg.ext hw.chg⟩
    · try simp only [decide_eq_true_eq, decide_eq_false_iff_not, Bool.not_eq_true', Bool.not_eq_false', Bool.and_eq_true, Bool.or_eq_true, Bool.and_eq_false_iff, Bool.or_eq_false_iff, Int.not_lt, Int.not_le] at hc1
      have hy1 : dupOk np m l v = true := hc1
      refine TW.skip ?_
      refine TQ.thenN (hY5 _ _ ?_)
      refine TW.seq fun Y8 hY8 => ?_
      refine TW.region ?_
      refine TL.p Pu.as ?_
      refine TL.nil ?_
      refine TQ.thenN (hY8 _ _ ?_)
      refine TW.ret ?_
      refine TQ.ret Tryz.results7 rfl ((.tmp rfl .nil)) ?_
      exact fun w hw => ⟨by unfold checkV; rw [hyes, ties_dup, hy1]; rfl, Chg.ext hw.chg⟩
end Go.Proofs.YtljhdcclajikiaaGreatDoor
namespace Go.Proofs.YtljhdcclajikiaaGreatDoor
set_option linter.all false
set_option linter.unusedVariables false
set_option linter.unusedSimpArgs false
open Go.RowKit
def Bd (f : Nat → Nat → Int) (np : Nat) (B : Int) : Prop := ∀ q, q < np → 0 ≤ f q 9 ∧ f q 9 ≤ B ∧ 0 ≤ f q 10 ∧ f q 10 ≤ 100000
theorem Bd.mono {f : Nat → Nat → Int} {np : Nat} {B D : Int} (h : Bd f np B) (h1 : B ≤ D) : Bd f np D := fun q hq => by
  obtain ⟨a, b, c, e⟩ := h q hq
  exact ⟨a, by omega, c, e⟩
end Go.Proofs.YtljhdcclajikiaaGreatDoor
namespace Go.Proofs.YtljhdcclajikiaaGreatDoor
set_option linter.all false
set_option linter.unusedVariables false
set_option linter.unusedSimpArgs false
open Go.RowKit
theorem old_below {W0 w w2 : World} {S : List Nat} {K : List Fact} (hb : Below W0.heap.size W0 w) (hs : Sat S w K w2) (hS : ∀ b ∈ S, W0.heap.size ≤ b) : Below W0.heap.size W0 w2 :=
  ⟨hs.chg.os.trans hb.os, hs.chg.tape.trans hb.tape, hs.chg.output.trans hb.output, Nat.le_trans hb.size hs.chg.size, fun k hk => (hs.chg.block k (Nat.lt_of_lt_of_le hk hb.size) (fun hm => by have := hS k hm; omega)).trans (hb.block k hk)⟩
theorem check_ok {np m : Nat} {pk : Nat → Nat → Int} {l : Nat → Nat → Nat} {v : Nat → Nat → Nat → Int} (h : checkV np pk m l v = 0) : np ≤ 30 ∧ (∀ q, q < np → packOk (pk q) = true) ∧ ∀ i, i < m → (∀ j, j < 3 → allB (l i j) (riseP (v i j) np) = true) ∧ tot (l i) 3 ≤ 10 := by
  unfold checkV at h
  split at h
  · rename_i hp
    split at h
    · rename_i ht
      simp only [packsOk, tiesOk, Bool.and_eq_true, decide_eq_true_eq] at hp ht
      refine ⟨by omega, allB_iff.1 hp.2, fun i hi => ?_⟩
      have := allB_iff.1 ht.1 i hi
      simp only [tieOk, Bool.and_eq_true, decide_eq_true_eq] at this
      exact ⟨allB_iff.1 this.1, this.2⟩
    · simp at h
  · simp at h
section
variable {np m nj : Nat} {pk jt : Nat → Nat → Int} {l : Nat → Nat → Nat} {v : Nat → Nat → Nat → Int} {days : Int}
end
end Go.Proofs.YtljhdcclajikiaaGreatDoor
namespace Go.Proofs.YtljhdcclajikiaaGreatDoor
set_option linter.all false
set_option linter.unusedVariables false
set_option linter.unusedSimpArgs false
open Go.RowKit
def sumF (g : Nat → Int) : Nat → Int
  | 0 => 0
  | n + 1 => sumF g n + g n
theorem sumF_bd {g : Nat → Int} {B : Int} : ∀ {n : Nat}, (∀ k, k < n → 0 ≤ g k ∧ g k ≤ B) → 0 ≤ sumF g n ∧ sumF g n ≤ n * B
  | 0, _ => by simp [sumF]
  | n + 1, h => by
    have h1 := sumF_bd (n := n) fun k hk => h k (by omega)
    have h2 := h n (by omega)
    simp only [sumF]
    have e : ((n + 1 : Nat) : Int) * B = n * B + B := by rw [Int.natCast_add, Int.add_mul]; simp
    omega
theorem sumF_le {g : Nat → Int} {n : Nat} (h : ∀ k, k < n → 0 ≤ g k ∧ g k ≤ 1000000) (hn : n ≤ 1000) : ∀ q, q ≤ n → 0 ≤ sumF g q ∧ sumF g q ≤ 1000000000 := fun q hq => by
  have h1 := sumF_bd (g := g) (n := q) fun k hk => h k (by omega)
  have : (q : Int) * 1000000 ≤ 1000 * 1000000 := by omega
  omega
theorem KSub.app {K K' L : List Fact} {A : Option Addr} {k c sz : Nat} {E : TypeId} {g : Nat → List Value} {x : List Value} (hp : Pick K (.own A (k + 1) c E sz (catR k g (fun _ => x))) K') (hx : x = g k) (h : KSub K' L) : KSub K (.own A (k + 1) c E sz g :: L) :=
  KSub.own hp (fun i hi => by
    simp only [catR]
    by_cases h : i < k
    · rw [if_pos h]
    · obtain rfl : i = k := by omega
      rw [if_neg h, hx]) h
theorem sum_any {A : Option Addr} {n cp : Nat} {x y : Nat → Int} {w : World} (hn : n ≤ 1000) (hx : ∀ k, k < n → 0 ≤ x k ∧ x k ≤ 1000000) (hy : ∀ k, k < n → 0 ≤ y k ∧ y k ≤ 1000000) (hR : RdR w 2 A n (fun k => spL (x k) (y k))) :
    Calls Tryz.prog 72 #[.slice A n cp] w (Ret w (.agg #[.int .i64 (sumF x n), .int .i64 (sumF y n)])) := by
  have sx := sumF_le hx hn
  have sy := sumF_le hy hn
  refine K_enter (S := []) (K := []) Tryz.func72 rfl Tryz.ntmps72 rfl (Sat.start _) ?_
  refine TW.seq fun Y1 hY1 => ?_
  refine TW.region ?_
  refine TL.m (Mk.al ty_zr47) ?_
  intro b1
  refine TL.nil ?_
  refine TQ.thenN (hY1 _ _ ?_)
  refine TW.seq fun Y2 hY2 => ?_
  refine TW.seq fun Y3 hY3 => ?_
  refine TW.region ?_
  refine TL.p Pu.mv ?_
  refine TL.p (Pu.ln Tryz.underlying81) ?_
  refine TL.p Pu.mv ?_
  refine TL.nil ?_
  refine TQ.thenN (hY3 _ _ ?_)
  refine TW.block ?_
  refine TW.loop1 (fun (k : Nat) => [(7, .int .i64 (k : Int)), (6, .int .i64 (n : Int)), (5, .slice A n cp), (2, .pointer (some ⟨b1, 0, none⟩))]) (fun k => [.blk b1 47 (spL (sumF x k) (sumF y k))]) (fun k => k ≤ n) (fun k => n - k) 0 (by repeat (first | exact trivial | refine ⟨rfl, ?_⟩ | refine ⟨trivial, ?_⟩)) ?_ ?_ ?_
  · exact (by repeat (first | exact KSub.nil | refine KSub.cons (by repeat (first | exact Pick.hd | apply Pick.tl)) ?_))
  · exact Nat.zero_le _
  rintro k hk Z0 hZ0
  refine TW.seq fun Y4 hY4 => ?_
  refine TW.region ?_
  refine TL.p Pu.lt ?_
  refine TL.nil ?_
  refine TQ.thenN (hY4 _ _ ?_)
  refine TW.seq fun Y5 hY5 => ?_
  refine TW.cond rfl (fun hc0 => ?_) (fun hc0 => ?_)
  · try simp only [decide_eq_true_eq, decide_eq_false_iff_not, Bool.not_eq_true', Bool.not_eq_false', Bool.and_eq_true, Bool.or_eq_true, Bool.and_eq_false_iff, Bool.or_eq_false_iff, Int.not_lt, Int.not_le] at hc0
    have hkn : k < n := by omega
    have hxk := hx k hkn
    have hyk := hy k hkn
    have sxk := sx k hk
    have syk := sy k hk
    refine TW.skip ?_
    refine TQ.thenN (hY5 _ _ ?_)
    refine TW.seq fun Y6 hY6 => ?_
    refine TW.block ?_
    refine TW.seq fun Y7 hY7 => ?_
    refine TW.region ?_
    refine TL.p (Pu.el ty_et81) ?_
    refine TL.p (Pu.lds ty_ag47) ?_
    refine TL.m (Mk.al ty_zr47) ?_
    intro b2
    first | refine TL.st ty_sz47 ?_ | refine TL.se ty_sz47 ?_
    refine TL.nil ?_
    refine TQ.thenN (hY7 _ _ ?_)
    refine TW.ex0 (Drop.blk 2 rfl (by repeat (first | exact Pick.hd | apply Pick.tl)) Drop.done) ?_
    refine RG.tk 0 rfl (by first | exact Pu.fb ty_fa47_0 | exact Pu.fe ty_fa47_0) ?_
    refine RG.tk 2 rfl (by first | exact Pu.fb ty_fa47_0 | exact Pu.fe ty_fa47_0) ?_
    refine RG.tk 3 rfl (Pu.ld ty_sc3) ?_
    refine RG.tk 5 rfl (by first | exact Pu.fb ty_fa47_1 | exact Pu.fe ty_fa47_1) ?_
    refine RG.tk 7 rfl (by first | exact Pu.fb ty_fa47_1 | exact Pu.fe ty_fa47_1) ?_
    refine RG.tk 8 rfl (Pu.ld ty_sc3) ?_
    refine RG.a2 1 6 rfl rfl (fun X1 hX1 => ?_) (fun X6 hX6 => ?_)
    · refine TL.p (Pu.ld ty_sc3) ?_
      refine TL.nil ?_
      refine TQ.nxt (hX1 _ _ (by repeat (first | exact HasL.nil | refine HasL.cons (by repeat (first | exact Pick.hd | apply Pick.tl)) ?_)) ?_)
      refine RG.tk 4 rfl Pu.ad ?_
      refine RG.a1 6 rfl (fun X6 hX6 => ?_)
      refine TL.p (Pu.ld ty_sc3) ?_
      refine TL.nil ?_
      refine TQ.nxt (hX6 _ _ (by repeat (first | exact HasL.nil | refine HasL.cons (by repeat (first | exact Pick.hd | apply Pick.tl)) ?_)) ?_)
      refine RG.tk 9 rfl Pu.ad ?_
      refine RG.tk 10 rfl (by first | exact Pu.fb ty_fa47_0 | exact Pu.fe ty_fa47_0) ?_
      refine RG.a1 11 rfl (fun X11 hX11 => ?_)
      first | refine TL.st ty_sz3 ?_ | refine TL.se ty_sz3 ?_
      refine TL.nil ?_
      refine TQ.nxt (hX11 _ _ (by repeat (first | exact HasL.nil | refine HasL.cons (by repeat (first | exact Pick.hd | apply Pick.tl)) ?_)) ?_)
      refine RG.tk 12 rfl (by first | exact Pu.fb ty_fa47_1 | exact Pu.fe ty_fa47_1) ?_
      refine RG.a1 13 rfl (fun X13 hX13 => ?_)
      first | refine TL.st ty_sz3 ?_ | refine TL.se ty_sz3 ?_
      refine TL.nil ?_
      refine TQ.nxt (hX13 _ _ (by repeat (first | exact HasL.nil | refine HasL.cons (by repeat (first | exact Pick.hd | apply Pick.tl)) ?_)) ?_)
      refine RG.nil ?_ (by kernel_rfl)
      refine TQ.blkN ?_
      refine TQ.thenN (hY6 _ _ ?_)
      refine TW.region ?_
      refine TL.p Pu.ad ?_
      refine TL.p Pu.mv ?_
      refine TL.nil ?_
      refine TQ.thenN (hZ0 (k + 1) _ _ ?_ ?_ (by repeat (first | exact trivial | refine ⟨rfl, ?_⟩ | refine ⟨trivial, ?_⟩)) ?_)
      · exact (by omega)
      · exact (by first | omega | (simp only []; omega) | (simp; omega))
      · exact (by repeat (first | exact KSub.nil | refine KSub.cons (by repeat (first | exact Pick.hd | apply Pick.tl)) ?_))
    · refine TL.p (Pu.ld ty_sc3) ?_
      refine TL.nil ?_
      refine TQ.nxt (hX6 _ _ (by repeat (first | exact HasL.nil | refine HasL.cons (by repeat (first | exact Pick.hd | apply Pick.tl)) ?_)) ?_)
      refine RG.tk 9 rfl Pu.ad ?_
      refine RG.a1 1 rfl (fun X1 hX1 => ?_)
      refine TL.p (Pu.ld ty_sc3) ?_
      refine TL.nil ?_
      refine TQ.nxt (hX1 _ _ (by repeat (first | exact HasL.nil | refine HasL.cons (by repeat (first | exact Pick.hd | apply Pick.tl)) ?_)) ?_)
      refine RG.tk 4 rfl Pu.ad ?_
      refine RG.tk 10 rfl (by first | exact Pu.fb ty_fa47_0 | exact Pu.fe ty_fa47_0) ?_
      refine RG.a1 11 rfl (fun X11 hX11 => ?_)
      first | refine TL.st ty_sz3 ?_ | refine TL.se ty_sz3 ?_
      refine TL.nil ?_
      refine TQ.nxt (hX11 _ _ (by repeat (first | exact HasL.nil | refine HasL.cons (by repeat (first | exact Pick.hd | apply Pick.tl)) ?_)) ?_)
      refine RG.tk 12 rfl (by first | exact Pu.fb ty_fa47_1 | exact Pu.fe ty_fa47_1) ?_
      refine RG.a1 13 rfl (fun X13 hX13 => ?_)
      first | refine TL.st ty_sz3 ?_ | refine TL.se ty_sz3 ?_
      refine TL.nil ?_
      refine TQ.nxt (hX13 _ _ (by repeat (first | exact HasL.nil | refine HasL.cons (by repeat (first | exact Pick.hd | apply Pick.tl)) ?_)) ?_)
      refine RG.nil ?_ (by kernel_rfl)
      refine TQ.blkN ?_
      refine TQ.thenN (hY6 _ _ ?_)
      refine TW.region ?_
      refine TL.p Pu.ad ?_
      refine TL.p Pu.mv ?_
      refine TL.nil ?_
      refine TQ.thenN (hZ0 (k + 1) _ _ ?_ ?_ (by repeat (first | exact trivial | refine ⟨rfl, ?_⟩ | refine ⟨trivial, ?_⟩)) ?_)
      · exact (by omega)
      · exact (by first | omega | (simp only []; omega) | (simp; omega))
      · exact (by repeat (first | exact KSub.nil | refine KSub.cons (by repeat (first | exact Pick.hd | apply Pick.tl)) ?_))
  · try simp only [decide_eq_true_eq, decide_eq_false_iff_not, Bool.not_eq_true', Bool.not_eq_false', Bool.and_eq_true, Bool.or_eq_true, Bool.and_eq_false_iff, Bool.or_eq_false_iff, Int.not_lt, Int.not_le] at hc0
    obtain rfl : k = n := by omega
    refine TW.exit ?_
    refine TQ.thenX ?_
    refine TQ.thenX ?_
    refine TQ.blkX ?_
    refine TQ.thenN (hY2 _ _ ?_)
    refine TW.seq fun Y8 hY8 => ?_
    refine TW.region ?_
    refine TL.p (Pu.lds ty_ag47) ?_
    first | refine TL.st ty_sz47 ?_ | refine TL.se ty_sz47 ?_
    refine TL.nil ?_
    refine TQ.thenN (hY8 _ _ ?_)
    refine TW.ret ?_
    refine TQ.ret Tryz.results72 rfl ((RV.cs ty_ag47 .nil)) ?_
    exact fun w hw => Ret.of hw
theorem bounded_any (bound : Int) (w : World) : Calls Tryz.prog 30 #[.int .i64 bound] w (Try w errs (if inB5 0 1000000000 bound then 0 else 2) (.tuple #[])) := by
  refine K_enter (S := []) (K := []) Tryz.func30 rfl Tryz.ntmps30 rfl (Sat.start _) ?_
  refine TW.region ?_
  refine TL.p Pu.mv ?_
  refine TL.m Mk.bl ?_
  intro b1
  refine TL.cr rfl (enters Tryz.func41 rfl rfl) (fun w hw => by
      exact inOne_any _ _ _ (hw.holds _ (List.mem_cons_self ..))) ?_
  refine TL.ct rfl (enters Tryz.func40 rfl rfl) (fun w hw => by
      exact need_any _ _ _ (by decide)) (fun hp1 => ?_) (fun hp1 => ?_)
  rotate_left
  · refine TQ.pan rfl ?_
    exact fun w hw => Try.no hp1 hw
  refine TL.nil ?_
  refine TQ.end Tryz.results30 rfl (.nil) ?_
  exact fun w hw => Try.ok hp1 hw
end Go.Proofs.YtljhdcclajikiaaGreatDoor
namespace Go.Proofs.YtljhdcclajikiaaGreatDoor
set_option linter.all false
set_option linter.unusedVariables false
set_option linter.unusedSimpArgs false
open Go.RowKit
def rl (f : Nat → Int) : Int := (restV f).getD 0 0
def rh (f : Nat → Int) : Int := (restV f).getD 1 0
theorem rest_bd {f : Nat → Int} (h : packOk f = true) : 0 ≤ rl f ∧ rl f ≤ rh f ∧ rh f ≤ 1000000 := by
  obtain ⟨⟨h1, h2, h3, h4, h5, h6, h7⟩, hkind⟩ := (packOk_iff f).1 h
  have m1 : f 7 * f 10 ≤ f 8 * f 10 ∨ f 8 < f 7 := by
    by_cases hh : f 7 ≤ f 8
    · exact .inl (Int.mul_le_mul_of_nonneg_right hh h6)
    · exact .inr (by omega)
  unfold rl rh restV
  split
  · simp only [List.getD_cons_zero, List.getD_cons_succ]
    have : 0 ≤ f 7 * f 10 := Int.mul_nonneg (by omega) h6
    omega
  · split
    · simp only [List.getD_cons_zero, List.getD_cons_succ]; omega
    · have hk : f 0 = 1 := by omega
      have h8 : 0 ≤ f 5 ∧ f 5 ≤ f 6 ∧ f 6 ≤ 1000 := by omega
      have m3 : 0 ≤ f 1 * (1000 - f 6) ∧ f 1 * (1000 - f 6) ≤ f 1 * 1000 := ⟨Int.mul_nonneg h1 (by omega), Int.mul_le_mul_of_nonneg_left (by omega) h1⟩
      have m4 : f 1 * (1000 - f 6) ≤ f 2 * (1000 - f 5) := Int.mul_le_mul h2 (by omega) (by omega) (by omega)
      have m5 : f 2 * (1000 - f 5) ≤ f 2 * 1000 := Int.mul_le_mul_of_nonneg_left (by omega) (by omega)
      split <;> simp only [List.getD_cons_zero, List.getD_cons_succ] <;> omega
theorem restK_ok {f : Nat → Int} (h : packOk f = true) : restK f = [.agg #[.int .i64 (rl f), .int .i64 (rh f)], .agg #[.int .i64 ((restV f).getD 2 0), .int .i64 ((restV f).getD 3 0)], .int .u8 ((restV f).getD 4 0), .int .i64 0] := by
  unfold restK
  rw [if_pos h]
  rfl
theorem rests_any {A : Option Addr} {np cp : Nat} {pk : Nat → Nat → Int} {w : World} (hG : None0 w) (hn : np ≤ 1000000000) (hP : ∀ q, q < np → packOk (pk q) = true) (hR : RdR w 11 A np (fun k => packL (pk k))) :
    CallsK Tryz.prog 33 #[.slice A np cp] [] w (Option Addr × Nat) (fun x => .slice x.1 np x.2) (fun x => [.own x.1 np x.2 47 2 (fun q => spL (rl (pk q)) (rh (pk q)))]) := by
  refine K_enter (S := []) (K := []) Tryz.func33 rfl Tryz.ntmps33 rfl (Sat.start _) ?_
  refine TW.seq fun Y1 hY1 => ?_
  refine TW.region ?_
  refine TL.p Pu.as ?_
  refine TL.nil ?_
  refine TQ.thenN (hY1 _ _ ?_)
  refine TW.seq fun Y2 hY2 => ?_
  refine TW.region ?_
  refine TL.p Pu.as ?_
  refine TL.nil ?_
  refine TQ.thenN (hY2 _ _ ?_)
  refine TW.seq fun Y3 hY3 => ?_
  refine TW.seq fun Y4 hY4 => ?_
  refine TW.region ?_
  refine TL.p Pu.mv ?_
  refine TL.p (Pu.ln Tryz.underlying22) ?_
  refine TL.p Pu.mv ?_
  refine TL.nil ?_
  refine TQ.thenN (hY4 _ _ ?_)
  refine TW.block ?_
  refine TW.loop3 (fun (k : Nat) (Ao : Option Addr) (co : Nat) => [(12, .int .i64 (k : Int)), (11, .int .i64 (np : Int)), (10, .slice A np cp), (3, .slice Ao k co)]) (fun k Ao co => [.own Ao k co 47 2 (fun q => spL (rl (pk q)) (rh (pk q)))]) (fun k Ao co => k ≤ np) (fun k Ao co => np - k) 0 none 0 (by repeat (first | exact trivial | refine ⟨rfl, ?_⟩ | refine ⟨trivial, ?_⟩)) ?_ ?_ ?_
  · exact KSub.nilOwn KSub.nil
  · exact Nat.zero_le _
  rintro k Ao co hk Z0 hZ0
  refine TW.seq fun Y5 hY5 => ?_
  refine TW.region ?_
  refine TL.p Pu.lt ?_
  refine TL.nil ?_
  refine TQ.thenN (hY5 _ _ ?_)
  refine TW.seq fun Y6 hY6 => ?_
  refine TW.cond rfl (fun hc0 => ?_) (fun hc0 => ?_)
  · try simp only [decide_eq_true_eq, decide_eq_false_iff_not, Bool.not_eq_true', Bool.not_eq_false', Bool.and_eq_true, Bool.or_eq_true, Bool.and_eq_false_iff, Bool.or_eq_false_iff, Int.not_lt, Int.not_le] at hc0
    have hkn : k < np := by omega
    refine TW.skip ?_
    refine TQ.thenN (hY6 _ _ ?_)
    refine TW.seq fun Y7 hY7 => ?_
    refine TW.block ?_
    refine TW.seq fun Y8 hY8 => ?_
    refine TW.region ?_
    refine TL.p (Pu.el ty_et22) ?_
    refine TL.p (Pu.lds ty_ag58) ?_
    refine TL.m (Mk.al ty_zr58) ?_
    intro b1
    first | refine TL.st ty_sz58 ?_ | refine TL.se ty_sz58 ?_
    refine TL.nil ?_
    refine TQ.thenN (hY8 _ _ ?_)
    refine TW.seq fun Y9 hY9 => ?_
    refine TW.region ?_
    refine TL.p (Pu.lds ty_ag58) ?_
    refine TL.cr rfl (enters Tryz.func14 rfl rfl) (fun w hw => by
        have h9 := rest_any (pk k) w (hG.sat hw (by simp))
        rw [restK_ok (hP k hkn)] at h9
        exact h9) ?_
    refine TL.p Pu.mv ?_
    refine TL.p Pu.ex ?_
    refine TL.p Pu.ex ?_
    refine TL.p Pu.ex ?_
    refine TL.p Pu.ex ?_
    refine TL.m (Mk.al ty_zr47) ?_
    intro b2
    refine TL.m (Mk.al ty_zr47) ?_
    intro b3
    first | refine TL.st ty_sz47 ?_ | refine TL.se ty_sz47 ?_
    first | refine TL.st ty_sz47 ?_ | refine TL.se ty_sz47 ?_
    refine TL.p Pu.as ?_
    refine TL.p Pu.as ?_
    refine TL.nil ?_
    refine TQ.thenN (hY9 _ _ ?_)
    refine TW.region ?_
    refine TL.p Pu.mv ?_
    refine TL.p (Pu.lds ty_ag47) ?_
    refine TL.m Mk.bl ?_
    intro b4
    first | refine TL.a0 ty_et81 ?_ | refine TL.ap ty_et81 ?_
    intro A5 c5
    refine TL.p Pu.as ?_
    refine TL.nil ?_
    refine TQ.blkN ?_
    refine TQ.thenN (hY7 _ _ ?_)
    refine TW.region ?_
    refine TL.p Pu.ad ?_
    refine TL.p Pu.mv ?_
    refine TL.nil ?_
    refine TQ.thenN (hZ0 (k + 1) _ _ _ _ ?_ ?_ (by repeat (first | exact trivial | refine ⟨rfl, ?_⟩ | refine ⟨trivial, ?_⟩)) ?_)
    · exact (by omega)
    · exact (by first | omega | (simp only []; omega) | (simp; omega))
    · exact KSub.app (by repeat (first | exact Pick.hd | apply Pick.tl)) rfl KSub.nil
  · try simp only [decide_eq_true_eq, decide_eq_false_iff_not, Bool.not_eq_true', Bool.not_eq_false', Bool.and_eq_true, Bool.or_eq_true, Bool.and_eq_false_iff, Bool.or_eq_false_iff, Int.not_lt, Int.not_le] at hc0
    obtain rfl : k = np := by omega
    refine TW.exit ?_
    refine TQ.thenX ?_
    refine TQ.thenX ?_
    refine TQ.blkX ?_
    refine TQ.thenN (hY3 _ _ ?_)
    refine TW.seq fun Y10 hY10 => ?_
    refine TW.region ?_
    refine TL.p Pu.mv ?_
    refine TL.p Pu.as ?_
    refine TL.nil ?_
    refine TQ.thenN (hY10 _ _ ?_)
    refine TW.ret ?_
    refine TQ.ret Tryz.results33 rfl ((.tmp rfl .nil)) ?_
    exact fun w hw => ⟨(Ao, co), rfl, hw⟩
def wS (r : Nat → Int) (v : Nat → Int) (n : Nat) : Int := sumF (fun k => r (v k).toNat) n
def Inx (v : Nat → Int) (n nr : Nat) : Prop := ∀ k, k < n → 0 ≤ v k ∧ v k < nr
def tiedL (a : Nat → Option Addr) (l c : Nat → Nat) (Ar : Option Addr) (nr cr : Nat) : List Value := [.slice (a 0) (l 0) (c 0), .slice (a 1) (l 1) (c 1), .slice (a 2) (l 2) (c 2), .slice Ar nr cr]
structure RestOk (r0 r1 : Nat → Int) (nr : Nat) : Prop where
  lo : ∀ q, q < nr → 0 ≤ r0 q
  le : ∀ q, q < nr → r0 q ≤ r1 q
  hi : ∀ q, q < nr → r1 q ≤ 1000000
theorem RestOk.bd0 {r0 r1 : Nat → Int} {nr n : Nat} {v : Nat → Int} (h : RestOk r0 r1 nr) (hv : Inx v n nr) : ∀ k, k < n → 0 ≤ r0 (v k).toNat ∧ r0 (v k).toNat ≤ 1000000 := fun k hk => by
  have := hv k hk
  have a := h.lo (v k).toNat (by omega); have b := h.le (v k).toNat (by omega); have c := h.hi (v k).toNat (by omega)
  omega
theorem RestOk.bd1 {r0 r1 : Nat → Int} {nr n : Nat} {v : Nat → Int} (h : RestOk r0 r1 nr) (hv : Inx v n nr) : ∀ k, k < n → 0 ≤ r1 (v k).toNat ∧ r1 (v k).toNat ≤ 1000000 := fun k hk => by
  have := hv k hk
  have a := h.lo (v k).toNat (by omega); have b := h.le (v k).toNat (by omega); have c := h.hi (v k).toNat (by omega)
  omega
theorem sumF_mono {g h : Nat → Int} : ∀ {n : Nat}, (∀ k, k < n → g k ≤ h k) → sumF g n ≤ sumF h n
  | 0, _ => by simp [sumF]
  | n + 1, e => by
    have h1 := sumF_mono (n := n) fun k hk => e k (by omega)
    have h2 := e n (by omega)
    simp only [sumF]; omega
theorem RestOk.wS {r0 r1 : Nat → Int} {nr n : Nat} {v : Nat → Int} (h : RestOk r0 r1 nr) (hv : Inx v n nr) (hn : n ≤ 1000) : 0 ≤ wS r0 v n ∧ wS r0 v n ≤ wS r1 v n ∧ wS r1 v n ≤ 1000000000 := by
  have h0 := sumF_le (h.bd0 hv) hn n (Nat.le_refl _)
  have h1 := sumF_le (h.bd1 hv) hn n (Nat.le_refl _)
  have h2 := sumF_mono (n := n) (g := fun k => r0 (v k).toNat) (h := fun k => r1 (v k).toNat) fun k hk => by
    have := hv k hk
    exact h.le _ (by omega)
  exact ⟨h0.1, h2, h1.2⟩
theorem weight_any {a : Nat → Option Addr} {l c : Nat → Nat} {Ar A : Option Addr} {nr cr n cp : Nat} {r0 r1 v : Nat → Int} {w : World} (hr : RestOk r0 r1 nr) (hn : n ≤ 1000) (hv : Inx v n nr)
    (hR : RdR w 2 Ar nr (fun q => spL (r0 q) (r1 q))) (hI : RdR w 1 A n (fun k => [.int .i64 (v k)])) :
    Calls Tryz.prog 43 #[.agg (tiedL a l c Ar nr cr).toArray, .slice A n cp] w (Ret w (.agg #[.int .i64 (wS r0 v n), .int .i64 (wS r1 v n)])) := by
  refine K_enter (S := []) (K := []) Tryz.func43 rfl Tryz.ntmps43 rfl (Sat.start _) ?_
  refine TW.seq fun Y1 hY1 => ?_
  refine TW.region ?_
  refine TL.m Mk.bx ?_
  intro b1
  refine TL.m (Mk.al ty_zr47) ?_
  intro b2
  refine TL.nil ?_
  refine TQ.thenN (hY1 _ _ ?_)
  refine TW.seq fun Y2 hY2 => ?_
  refine TW.region ?_
  refine TL.p Pu.as ?_
  refine TL.nil ?_
  refine TQ.thenN (hY2 _ _ ?_)
  refine TW.seq fun Y3 hY3 => ?_
  refine TW.seq fun Y4 hY4 => ?_
  refine TW.region ?_
  refine TL.p Pu.mv ?_
  refine TL.p (Pu.ln Tryz.underlying24) ?_
  refine TL.p Pu.mv ?_
  refine TL.nil ?_
  refine TQ.thenN (hY4 _ _ ?_)
  refine TW.block ?_
  refine TW.loop3 (fun (k : Nat) (Ao : Option Addr) (co : Nat) => [(10, .int .i64 (k : Int)), (9, .int .i64 (n : Int)), (8, .slice A n cp), (5, .slice Ao k co), (2, .pointer (some ⟨b1, 0, none⟩)), (4, .pointer (some ⟨b2, 0, none⟩))]) (fun k Ao co => [.own Ao k co 47 2 (fun q => spL (r0 (v q).toNat) (r1 (v q).toNat)), .blk b1 84 (tiedL a l c Ar nr cr), .blk b2 47 (spL 0 0)]) (fun k Ao co => k ≤ n) (fun k Ao co => n - k) 0 none 0 (by repeat (first | exact trivial | refine ⟨rfl, ?_⟩ | refine ⟨trivial, ?_⟩)) ?_ ?_ ?_
  · exact KSub.nilOwn (KSub.cons (Pick.tl Pick.hd) (KSub.cons Pick.hd KSub.nil))
  · exact Nat.zero_le _
  rintro k Ao co hk Z0 hZ0
  refine TW.seq fun Y5 hY5 => ?_
  refine TW.region ?_
  refine TL.p Pu.lt ?_
  refine TL.nil ?_
  refine TQ.thenN (hY5 _ _ ?_)
  refine TW.seq fun Y6 hY6 => ?_
  refine TW.cond rfl (fun hc0 => ?_) (fun hc0 => ?_)
  · try simp only [decide_eq_true_eq, decide_eq_false_iff_not, Bool.not_eq_true', Bool.not_eq_false', Bool.and_eq_true, Bool.or_eq_true, Bool.and_eq_false_iff, Bool.or_eq_false_iff, Int.not_lt, Int.not_le] at hc0
    have hkn : k < n := by omega
    have hvk := hv k hkn
    refine TW.skip ?_
    refine TQ.thenN (hY6 _ _ ?_)
    refine TW.seq fun Y7 hY7 => ?_
    refine TW.block ?_
    refine TW.seq fun Y8 hY8 => ?_
    refine TW.region ?_
    refine TL.p (Pu.el ty_et24) ?_
    refine TL.p (Pu.ld ty_sc3) ?_
    refine TL.p Pu.as ?_
    refine TL.nil ?_
    refine TQ.thenN (hY8 _ _ ?_)
    refine TW.region ?_
    refine TL.p Pu.mv ?_
    refine TL.p (by first | exact Pu.fb ty_fa84_1 | exact Pu.fe ty_fa84_1) ?_
    refine TL.p (Pu.ld ty_sc81) ?_
    refine TL.p Pu.mv ?_
    refine TL.p (Pu.el (q := (v k).toNat) ty_et81 (hk := rfl)) ?_
    refine TL.p (Pu.lds ty_ag47) ?_
    refine TL.m Mk.bl ?_
    intro b3
    first | refine TL.a0 ty_et81 ?_ | refine TL.ap ty_et81 ?_
    intro A4 c4
    refine TL.p Pu.as ?_
    refine TL.nil ?_
    refine TQ.blkN ?_
    refine TQ.thenN (hY7 _ _ ?_)
    refine TW.region ?_
    refine TL.p Pu.ad ?_
    refine TL.p Pu.mv ?_
    refine TL.nil ?_
    refine TQ.thenN (hZ0 (k + 1) _ _ _ _ ?_ ?_ (by repeat (first | exact trivial | refine ⟨rfl, ?_⟩ | refine ⟨trivial, ?_⟩)) ?_)
    · exact (by omega)
    · exact (by first | omega | (simp only []; omega) | (simp; omega))
    · exact KSub.app (by repeat (first | exact Pick.hd | apply Pick.tl)) rfl (by repeat (first | exact KSub.nil | refine KSub.cons (by repeat (first | exact Pick.hd | apply Pick.tl)) ?_))
  · try simp only [decide_eq_true_eq, decide_eq_false_iff_not, Bool.not_eq_true', Bool.not_eq_false', Bool.and_eq_true, Bool.or_eq_true, Bool.and_eq_false_iff, Bool.or_eq_false_iff, Int.not_lt, Int.not_le] at hc0
    obtain rfl : k = n := by omega
    refine TW.exit ?_
    refine TQ.thenX ?_
    refine TQ.thenX ?_
    refine TQ.blkX ?_
    refine TQ.thenN (hY3 _ _ ?_)
    refine TW.seq fun Y9 hY9 => ?_
    refine TW.region ?_
    refine TL.p Pu.mv ?_
    refine TL.cr rfl (enters Tryz.func72 rfl rfl) (fun w hw => by
        exact sum_any hn (hr.bd0 hv) (hr.bd1 hv) (OwnR.rdr (hw.holds (.own Ao k co 47 2 (fun q => spL (r0 (v q).toNat) (r1 (v q).toNat))) (by simp)))) ?_
    first | refine TL.st ty_sz47 ?_ | refine TL.se ty_sz47 ?_
    refine TL.nil ?_
    refine TQ.thenN (hY9 _ _ ?_)
    refine TW.ret ?_
    refine TQ.ret Tryz.results43 rfl ((RV.cs ty_ag47 .nil)) ?_
    exact fun w hw => Ret.of hw
end Go.Proofs.YtljhdcclajikiaaGreatDoor
namespace Go.Proofs.YtljhdcclajikiaaGreatDoor
set_option linter.all false
set_option linter.unusedVariables false
set_option linter.unusedSimpArgs false
open Go.RowKit
def balV (l0 l1 r0 r1 b : Int) : Int := if -b ≤ l0 - r1 ∧ l1 - r0 ≤ b then 2 else if b < l0 - r1 ∨ l1 - r0 < -b then 0 else 1
set_option maxRecDepth 100000 in
theorem balance_any {a : Nat → Option Addr} {l c : Nat → Nat} {Ar : Option Addr} {nr cr : Nat} {r0 r1 : Nat → Int} {v : Nat → Nat → Int} {b : Int} {w : World} (hr : RestOk r0 r1 nr) (hb : 0 ≤ b ∧ b ≤ 1000000000000) (hl : ∀ j, j < 2 → l j ≤ 1000) (hv : ∀ j, j < 2 → Inx (v j) (l j) nr)
    (hR : RdR w 2 Ar nr (fun q => spL (r0 q) (r1 q))) (hI : ∀ j, j < 2 → RdR w 1 (a j) (l j) (fun k => [.int .i64 (v j k)])) :
    Calls Tryz.prog 38 #[.agg (tiedL a l c Ar nr cr).toArray, .int .i64 b] w (Ret w (.int .u8 (balV (wS r0 (v 0) (l 0)) (wS r1 (v 0) (l 0)) (wS r0 (v 1) (l 1)) (wS r1 (v 1) (l 1)) b))) := by
  have e0 := hr.wS (hv 0 (by omega)) (hl 0 (by omega))
  have e1 := hr.wS (hv 1 (by omega)) (hl 1 (by omega))
  generalize hq0 : wS r0 (v 0) (l 0) = l0 at *
  generalize hq1 : wS r1 (v 0) (l 0) = l1 at *
  generalize hq2 : wS r0 (v 1) (l 1) = s0 at *
  generalize hq3 : wS r1 (v 1) (l 1) = s1 at *
  refine K_enter (S := []) (K := []) Tryz.func38 rfl Tryz.ntmps38 rfl (Sat.start _) ?_
  refine TW.seq fun Y1 hY1 => ?_
  refine TW.region ?_
  refine TL.m Mk.bx ?_
  intro b1
  refine TL.p Pu.as ?_
  refine TL.nil ?_
  refine TQ.thenN (hY1 _ _ ?_)
  refine TW.seq fun Y2 hY2 => ?_
  refine TW.dw 12 ?_
  refine RK.tk (Pu.lds ty_ag84) ?_
  refine RK.tk (by first | exact Pu.fb ty_fa84_0 | exact Pu.fe ty_fa84_0) ?_
  refine RK.tk (by first | exact Pu.fb ty_fa34_0 | exact Pu.fe ty_fa34_0) ?_
  refine RK.tk (Pu.ld ty_sc24) ?_
  refine RK.keep ?_
  refine RK.tk (Pu.lds ty_ag84) ?_
  refine RK.tk (by first | exact Pu.fb ty_fa84_0 | exact Pu.fe ty_fa84_0) ?_
  refine RK.tk (by first | exact Pu.fb ty_fa34_1 | exact Pu.fe ty_fa34_1) ?_
  refine RK.tk (Pu.ld ty_sc24) ?_
  refine RK.keep ?_
  refine RK.float [.int .i64 0, .int .i64 0] ?_
  refine RK.float [.int .i64 0, .int .i64 0] ?_
  refine RK.ch [false, false] ?_ ⟨ty_zr47, ty_zr47, trivial⟩
  refine WK.cr rfl (enters Tryz.func43 rfl rfl) (fun w hw => by
      have h9 := weight_any (a := a) (l := l) (c := c) (Ar := Ar) (cr := cr) (cp := c 0) hr (hl 0 (by omega)) (hv 0 (by omega)) (hR.sat hw Apart.nil) ((hI 0 (by omega)).sat hw Apart.nil)
      rw [hq0, hq1] at h9
      exact h9) ?_
  refine WK.cr rfl (enters Tryz.func43 rfl rfl) (fun w hw => by
      have h9 := weight_any (a := a) (l := l) (c := c) (Ar := Ar) (cr := cr) (cp := c 1) hr (hl 1 (by omega)) (hv 1 (by omega)) (hR.sat hw Apart.nil) ((hI 1 (by omega)).sat hw Apart.nil)
      rw [hq2, hq3] at h9
      exact h9) ?_
  refine WK.n ?_
  intro b2
  intro b3
  first | refine TL.st ty_sz47 ?_ | refine TL.se ty_sz47 ?_
  first | refine TL.st ty_sz47 ?_ | refine TL.se ty_sz47 ?_
  refine TL.nil ?_
  refine TQ.thenN (hY2 _ _ ?_)
  refine TW.seq fun Y3 hY3 => ?_
  refine TW.seq fun Y4 hY4 => ?_
  refine TW.dw 12 ?_
  refine RK.tk (by first | exact Pu.fb ty_fa47_0 | exact Pu.fe ty_fa47_0) ?_
  refine RK.tk (Pu.ld ty_sc3) ?_
  refine RK.tk (by first | exact Pu.fb ty_fa47_1 | exact Pu.fe ty_fa47_1) ?_
  refine RK.tk (Pu.ld ty_sc3) ?_
  refine RK.tk Pu.sb ?_
  refine RK.tk (by first | exact Pu.fb ty_fa47_1 | exact Pu.fe ty_fa47_1) ?_
  refine RK.tk (Pu.ld ty_sc3) ?_
  refine RK.tk (by first | exact Pu.fb ty_fa47_0 | exact Pu.fe ty_fa47_0) ?_
  refine RK.tk (Pu.ld ty_sc3) ?_
  refine RK.tk Pu.sb ?_
  refine RK.tk Pu.as ?_
  refine RK.tk Pu.as ?_
  refine RK.ch [] ?_ trivial
  refine WK.n ?_
  refine TL.nil ?_
  refine TQ.thenN (hY4 _ _ ?_)
  refine TW.block ?_
  refine TW.seq fun Y5 hY5 => ?_
  refine TW.region ?_
  refine TL.p Pu.mv ?_
  refine TL.p Pu.ng ?_
  refine TL.p Pu.mv ?_
  refine TL.p Pu.mv ?_
  refine TL.p Pu.mv ?_
  refine TL.m Mk.bl ?_
  intro b4
  refine TL.cr rfl (enters Tryz.func41 rfl rfl) (fun w hw => by
      exact inTwo_any _ _ _ _ (hw.holds _ (List.mem_cons_self ..))) ?_
  refine TL.p Pu.as ?_
  refine TL.nil ?_
  refine TQ.thenN (hY5 _ _ ?_)
  refine TW.cond rfl (fun hc0 => ?_) (fun hc0 => ?_)
  · try simp only [decide_eq_true_eq, decide_eq_false_iff_not, Bool.not_eq_true', Bool.not_eq_false', Bool.and_eq_true, Bool.or_eq_true, Bool.and_eq_false_iff, Bool.or_eq_false_iff, Int.not_lt, Int.not_le] at hc0
    have h7 : -b ≤ l0 - s1 ∧ l1 - s0 ≤ b := by
      simp only [inB5, Bool.and_eq_true, decide_eq_true_eq] at hc0
      omega
    refine TW.seq fun Y6 hY6 => ?_
    refine TW.region ?_
    refine TL.p Pu.as ?_
    refine TL.nil ?_
    refine TQ.thenN (hY6 _ _ ?_)
    refine TW.ret ?_
    refine TQ.blkR ?_
    refine TQ.thenR ?_
    refine TQ.ret Tryz.results38 rfl ((.tmp rfl .nil)) ?_
    exact fun w hw => ⟨ret_int (by unfold balV; rw [if_pos h7]), Chg.ext hw.chg⟩
  · try simp only [decide_eq_true_eq, decide_eq_false_iff_not, Bool.not_eq_true', Bool.not_eq_false', Bool.and_eq_true, Bool.or_eq_true, Bool.and_eq_false_iff, Bool.or_eq_false_iff, Int.not_lt, Int.not_le] at hc0
    have h7 : ¬ (-b ≤ l0 - s1 ∧ l1 - s0 ≤ b) := by
      intro h
      simp only [inB5, Bool.and_eq_false_iff, decide_eq_false_iff_not] at hc0
      omega
    refine TW.seq fun Y7 hY7 => ?_
    refine TW.join [(37, .bool (decide (b < l0 - s1) || decide (l1 - s0 < -b)))] ?_ (fun hJ1 => ?_)
    · refine TQ.thenN (hY7 _ _ ?_)
      refine TW.cond rfl (fun hc1 => ?_) (fun hc1 => ?_)
      · try simp only [decide_eq_true_eq, decide_eq_false_iff_not, Bool.not_eq_true', Bool.not_eq_false', Bool.and_eq_true, Bool.or_eq_true, Bool.and_eq_false_iff, Bool.or_eq_false_iff, Int.not_lt, Int.not_le] at hc1
        refine TW.seq fun Y8 hY8 => ?_
        refine TW.region ?_
        refine TL.p Pu.as ?_
        refine TL.nil ?_
        refine TQ.thenN (hY8 _ _ ?_)
        refine TW.ret ?_
        refine TQ.blkR ?_
        refine TQ.thenR ?_
        refine TQ.ret Tryz.results38 rfl ((.tmp rfl .nil)) ?_
        exact fun w hw => ⟨ret_int (by unfold balV; rw [if_neg h7, if_pos hc1]), Chg.ext hw.chg⟩
      · try simp only [decide_eq_true_eq, decide_eq_false_iff_not, Bool.not_eq_true', Bool.not_eq_false', Bool.and_eq_true, Bool.or_eq_true, Bool.and_eq_false_iff, Bool.or_eq_false_iff, Int.not_lt, Int.not_le] at hc1
        refine TW.skip ?_
        refine TQ.blkN ?_
        refine TQ.thenN (hY3 _ _ ?_)
        refine TW.seq fun Y9 hY9 => ?_
        refine TW.region ?_
        refine TL.p Pu.as ?_
        refine TL.nil ?_
        refine TQ.thenN (hY9 _ _ ?_)
        refine TW.ret ?_
        refine TQ.ret Tryz.results38 rfl ((.tmp rfl .nil)) ?_
        exact fun w hw => ⟨ret_int (by unfold balV; rw [if_neg h7, if_neg (by omega)]), Chg.ext hw.chg⟩
    refine TW.region ?_
    refine TL.p Pu.mv ?_
    refine TL.p Pu.mv ?_
    refine TL.p Pu.gt ?_
    refine TL.p Pu.mv ?_
    refine TL.guard (t := 41) rfl (fun hg1 => ?_) (fun hg1 => ?_)
    · refine TL.gs ?_
      refine TL.gs ?_
      refine TL.gs ?_
      refine TL.gs ?_
      refine TL.p Pu.kt ?_
      refine TL.p Pu.as ?_
      refine TL.nil ?_
      exact TQ.sub (by repeat (first | exact trivial | refine ⟨rfl, ?_⟩ | refine ⟨trivial, ?_⟩ | refine ⟨(by show some (Value.bool _) = some (Value.bool _); simp [hg1]), ?_⟩)) (by repeat (first | exact KSub.nil | refine KSub.cons (by repeat (first | exact Pick.hd | apply Pick.tl)) ?_)) hJ1
    · refine TL.gd Pu.mv ?_
      refine TL.gd Pu.mv ?_
      refine TL.gd Pu.ng ?_
      refine TL.gd Pu.lt ?_
      refine TL.p Pu.kf ?_
      refine TL.p Pu.as ?_
      refine TL.nil ?_
      exact TQ.sub (by repeat (first | exact trivial | refine ⟨rfl, ?_⟩ | refine ⟨trivial, ?_⟩ | refine ⟨(by show some (Value.bool _) = some (Value.bool _); simp [hg1]), ?_⟩)) (by repeat (first | exact KSub.nil | refine KSub.cons (by repeat (first | exact Pick.hd | apply Pick.tl)) ?_)) hJ1
theorem RestOk.of_packs {pk : Nat → Nat → Int} {np : Nat} (hP : ∀ q, q < np → packOk (pk q) = true) : RestOk (fun q => rl (pk q)) (fun q => rh (pk q)) np :=
  ⟨fun q hq => (rest_bd (hP q hq)).1, fun q hq => (rest_bd (hP q hq)).2.1, fun q hq => (rest_bd (hP q hq)).2.2⟩
end Go.Proofs.YtljhdcclajikiaaGreatDoor
namespace Go.Proofs.YtljhdcclajikiaaGreatDoor
set_option linter.all false
set_option linter.unusedVariables false
set_option linter.unusedSimpArgs false
open Go.RowKit
def iL (L : List Int) : Nat → List Value := fun k => [.int .i64 (L.getD k 0)]
theorem iL_lt {L : List Int} {k : Nat} (h : k < L.length) : L[k]? = some (L.getD k 0) := by
  rw [List.getD_eq_getElem?_getD, List.getElem?_eq_getElem h]
  rfl
theorem getD_app {L M : List Int} {k : Nat} : (L ++ M).getD k 0 = if k < L.length then L.getD k 0 else M.getD (k - L.length) 0 := by
  simp only [List.getD_eq_getElem?_getD]
  by_cases h : k < L.length
  · rw [if_pos h, List.getElem?_append_left h]
  · rw [if_neg h, List.getElem?_append_right (by omega)]
theorem iL_app {L L' : List Int} {m : Nat} {x : Int} {s : Nat → List Value} (hm : m = L.length) (hL : L' = L ++ [x]) (hs : s 0 = [.int .i64 x]) : ∀ i, i < m + 1 → catR m (iL L) s i = iL L' i := fun i hi => by
  subst hL
  simp only [catR, iL]
  rw [getD_app]
  by_cases h : i < m
  · rw [if_pos h, if_pos (by omega)]
  · obtain rfl : i = m := by omega
    rw [if_neg h, Nat.sub_self, hs, if_neg (by omega), hm, Nat.sub_self]
    rfl
theorem iL_cat {L M : List Int} {n : Nat} (hn : n = L.length) : ∀ i, catR n (iL L) (iL M) i = iL (L ++ M) i := fun i => by
  subst hn
  simp only [catR, iL]
  rw [getD_app]
  split <;> rfl
def toI (v : Nat → Int) (n : Nat) : List Int := (List.range n).map v
theorem toI_len {v : Nat → Int} {n : Nat} : (toI v n).length = n := by simp [toI]
theorem toI_get {v : Nat → Int} {n k : Nat} (h : k < n) : (toI v n).getD k 0 = v k := by
  simp [toI, List.getD_eq_getElem?_getD, h]
theorem toI_succ {v : Nat → Int} {n : Nat} : toI v (n + 1) = toI v n ++ [v n] := by simp [toI, List.range_succ]
theorem RdR.toI {w : World} {A : Option Addr} {n : Nat} {v : Nat → Int} (h : RdR w 1 A n (fun k => [.int .i64 (v k)])) : RdR w 1 A (toI v n).length (iL (toI v n)) := by
  rw [toI_len]
  exact ⟨h.rd.congr fun i j hi hj => by simp only [rowF, iL, toI_get hi], fun i hi => rfl⟩
theorem mem_getD {L : List Int} {k : Nat} (h : k < L.length) : L.getD k 0 ∈ L := by
  have := iL_lt h
  exact List.mem_of_getElem? this
theorem take_succ {L : List Int} {k : Nat} (h : k < L.length) : L.take (k + 1) = L.take k ++ [L.getD k 0] := by
  rw [List.take_succ, iL_lt h]
  rfl
def ins (x : Int) : List Int → List Int
  | [] => [x]
  | y :: ys => if x ≤ y then x :: y :: ys else y :: ins x ys
def srt : List Int → List Int
  | [] => []
  | x :: xs => ins x (srt xs)
theorem ins_perm (x : Int) : ∀ L : List Int, (ins x L).Perm (x :: L)
  | [] => List.Perm.refl _
  | y :: ys => by
    simp only [ins]
    split
    · exact List.Perm.refl _
    · exact ((ins_perm x ys).cons y).trans (List.Perm.swap _ _ _)
theorem srt_perm : ∀ L : List Int, (srt L).Perm L
  | [] => List.Perm.refl _
  | x :: xs => (ins_perm x (srt xs)).trans ((srt_perm xs).cons x)
theorem srt_len (L : List Int) : (srt L).length = L.length := (srt_perm L).length_eq
theorem ins_mono (x : Int) : ∀ L : List Int, L.Pairwise (· ≤ ·) → (ins x L).Pairwise (· ≤ ·)
  | [], _ => by simp [ins]
  | y :: ys, h => by
    have h1 := List.pairwise_cons.1 h
    simp only [ins]
    split
    · rename_i hxy
      refine List.pairwise_cons.2 ⟨fun z hz => ?_, h⟩
      rcases List.mem_cons.1 hz with rfl | hz
      · exact hxy
      · exact Int.le_trans hxy (h1.1 z hz)
    · refine List.pairwise_cons.2 ⟨fun z hz => ?_, ins_mono x ys h1.2⟩
      rcases List.mem_cons.1 ((ins_perm x ys).mem_iff.1 hz) with rfl | hz
      · omega
      · exact h1.1 z hz
theorem srt_mono : ∀ L : List Int, (srt L).Pairwise (· ≤ ·)
  | [] => List.Pairwise.nil
  | x :: xs => ins_mono x _ (srt_mono xs)
theorem ms_mono (L : List Int) : (L.mergeSort fun x y => decide (x ≤ y)).Pairwise (· ≤ ·) :=
  (List.pairwise_mergeSort (le := fun x y : Int => decide (x ≤ y)) (fun a b c h1 h2 => by simp only [decide_eq_true_eq] at *; omega) (fun a b => by simp only [Bool.or_eq_true, decide_eq_true_eq]; omega) L).imp (by intro a b h; simpa using h)
theorem ms_srt (L : List Int) : (L.mergeSort fun x y => decide (x ≤ y)) = srt L :=
  List.Perm.eq_of_pairwise (le := (· ≤ ·)) (fun a b _ _ h1 h2 => Int.le_antisymm h1 h2) (ms_mono L) (srt_mono L) ((List.mergeSort_perm L _).trans (srt_perm L).symm)
theorem srt_nil : srt [] = [] := rfl
theorem mem_srt {L : List Int} {x : Int} : x ∈ srt L ↔ x ∈ L := (srt_perm L).mem_iff
def sel (L : List Int) (b : Nat) : Nat → List Int
  | 0 => []
  | i + 1 => if b / 2 ^ i % 2 = 1 then sel L b i ++ [L.getD i 0] else sel L b i
theorem sel_len {L : List Int} {b : Nat} : ∀ i, (sel L b i).length ≤ i
  | 0 => Nat.le_refl _
  | i + 1 => by
    have := sel_len (L := L) (b := b) i
    simp only [sel]
    split
    · simp; omega
    · omega
def mvd (S C M : List Int) : List Int := srt (S.filter (fun x => !M.contains x) ++ C.filter (fun x => M.contains x))
def cmpV (a b : Int) : Int := if a < b then -1 else if b < a then 1 else 0
def cmpI : List Int → List Int → Int
  | [], [] => 0
  | [], _ :: _ => -1
  | _ :: _, [] => 1
  | x :: xs, y :: ys => if cmpV x y = 0 then cmpI xs ys else cmpV x y
def setStep (ok : List Int → Bool) (s : List Int × Nat) (l : List Int) : List Int × Nat :=
  if (l.length < s.2 ∨ l.length = s.2 ∧ cmpI l s.1 < 0) ∧ ok l = true then (l, l.length) else s
def setRun (L : List Int) (ok : List Int → Bool) : Nat → List Int × Nat
  | 0 => ([], L.length + 1)
  | q + 1 => setStep ok (setRun L ok q) (sel L q L.length)
theorem setRun_le {L : List Int} {ok : List Int → Bool} : ∀ q, (setRun L ok q).2 ≤ L.length + 1 ∧ (setRun L ok q).1.length ≤ L.length
  | 0 => by simp [setRun]
  | q + 1 => by
    have h := setRun_le (L := L) (ok := ok) q
    have h2 := sel_len (L := L) (b := q) L.length
    simp only [setRun, setStep]
    split
    · simp; omega
    · exact h
theorem wS_toI {r : Nat → Int} {L : List Int} : wS r (fun k => L.getD k 0) L.length = (L.map fun x => r x.toNat).sum := by
  unfold wS
  have key : ∀ n, n ≤ L.length → sumF (fun q => r (L.getD q 0).toNat) n = ((L.take n).map fun x => r x.toNat).sum := by
    intro n
    induction n with
    | zero => intro _; simp [sumF]
    | succ n ih =>
      intro h
      rw [take_succ (by omega)]
      simp only [sumF, ih (by omega), List.map_append, List.sum_append, List.map_cons, List.map_nil, List.sum_cons, List.sum_nil]
      omega
  have := key L.length (Nat.le_refl _)
  rw [List.take_length] at this
  exact this
end Go.Proofs.YtljhdcclajikiaaGreatDoor
namespace Go.Proofs.YtljhdcclajikiaaGreatDoor
set_option linter.all false
set_option linter.unusedVariables false
set_option linter.unusedSimpArgs false
open Go.RowKit
def catI (l : Nat → Nat) (v : Nat → Nat → Int) (k : Nat) : Int := if k < l 0 + l 1 then (if k < l 0 then v 0 k else v 1 (k - l 0)) else v 2 (k - (l 0 + l 1))
theorem catN_catI (l : Nat → Nat) (v : Nat → Nat → Int) : catN l (fun i k => [.int .i64 (v i k)]) 3 = fun k => [.int .i64 (catI l v k)] := by
  rw [cat3]
  funext k
  simp only [catR, catI]
  split
  · split <;> rfl
  · rfl
structure Lay1 (w : World) (A : Option Addr) (np : Nat) (pk : Nat → Nat → Int) (a : Nat → Option Addr) (l : Nat → Nat) (v : Nat → Nat → Int) : Prop where
  hG : None0 w
  hnp : np ≤ 1000000000
  hR : RdR w 11 A np (fun k => packL (pk k))
  hI : ∀ j, j < 3 → RdR w 1 (a j) (l j) (fun k => [.int .i64 (v j k)])
  hL : tot l 3 ≤ 1000
def check1 (np : Nat) (pk : Nat → Nat → Int) (l : Nat → Nat) (v : Nat → Nat → Int) : Int := checkV np pk 1 (fun _ => l) (fun _ => v)
section
variable {w w' : World} {A : Option Addr} {np : Nat} {pk : Nat → Nat → Int} {a : Nat → Option Addr} {l c : Nat → Nat} {v : Nat → Nat → Int}
theorem Lay1.sat {K : List Fact} (h : Lay1 w A np pk a l v) (hs : Sat [] w K w') : Lay1 w' A np pk a l v :=
  ⟨h.hG.sat hs (by simp), h.hnp, h.hR.sat hs Apart.nil, fun j hj => (h.hI j hj).sat hs Apart.nil, h.hL⟩
theorem Lay1.ext (h : Lay1 w A np pk a l v) (hb : Below w.heap.size w w') : Lay1 w' A np pk a l v := h.sat (Sat.nil (Chg.of_ext hb))
theorem Lay1.lay {b : Nat} {E : TypeId} (h : Lay1 w A np pk a l v) (hB : Blk w b E (tieL a l c).toArray) : Lay w A (some ⟨b, 0, none⟩) np 1 pk (fun _ => a) (fun _ => l) (fun _ => c) (fun _ => v) :=
  ⟨h.hG, h.hnp, by decide, h.hR, RdR.blk (n := 1) (cs := tieL a l c) hB rfl (fun i _ => rfl), fun i _ j hj => h.hI j hj, fun i _ => h.hL⟩
theorem rise_inx {u : Nat → Int} {n N : Nat} (h : allB n (riseP u N) = true) : Inx u n N := fun k hk => by
  have h1 := rise_lo (v := u) (N := N) (by omega) k fun j hj => allB_iff.1 h j (by omega)
  have h2 := allB_iff.1 h k hk
  simp only [riseP, inB5, Bool.and_eq_true, decide_eq_true_eq] at h2
  omega
theorem check1_ok (h : check1 np pk l v = 0) : np ≤ 30 ∧ (∀ q, q < np → packOk (pk q) = true) ∧ (∀ j, j < 3 → Inx (v j) (l j) np) ∧ tot l 3 ≤ 10 := by
  obtain ⟨h1, h2, h3⟩ := check_ok h
  obtain ⟨h4, h5⟩ := h3 0 (by omega)
  exact ⟨h1, h2, fun j hj => rise_inx (h4 j hj), h5⟩
theorem inx_cat (h : ∀ j, j < 3 → Inx (v j) (l j) np) : Inx (catI l v) (tot l 3) np := fun k hk => by
  rw [tot3] at hk
  unfold catI
  split
  · split
    · exact h 0 (by omega) k (by omega)
    · exact h 1 (by omega) _ (by omega)
  · exact h 2 (by omega) _ (by omega)
end
def wlo (pk : Nat → Nat → Int) (v : Nat → Int) (n : Nat) : Int := wS (fun q => rl (pk q)) v n
def whi (pk : Nat → Nat → Int) (v : Nat → Int) (n : Nat) : Int := wS (fun q => rh (pk q)) v n
theorem apart_of {S : List Nat} {b : Nat} (h : b ∉ S) : Apart S (some ⟨b, 0, none⟩) := fun q hq => by cases hq; exact h
theorem Doing.no {M K : List Fact} {X : Type} {L : X → List Fact} {code code' : Int} {w w' : World} (x : X) (hc : code' ≠ 0) (e : code = code') (hL : code ≠ 0 → L x = M) (hs : Sat (feet M) w K w') (hK : KSub K M) :
    ∃ x : X, Sat (feet M) w (L x) w' ∧ Ending.panicked (errs code') = if code = 0 then .returned (.tuple #[]) else .panicked (errs code) := by
  subst e
  exact ⟨x, by rw [hL hc]; exact hs.sub hK, by rw [if_neg hc]⟩
theorem Doing.yes {M K N : List Fact} {X : Type} {L : X → List Fact} {code : Int} {w w' : World} (x : X) (hc : code = 0) (hL : code = 0 → L x = N) (hs : Sat (feet M) w K w') (hK : KSub K N) :
    ∃ x : X, Sat (feet M) w (L x) w' ∧ Ending.returned (.tuple #[]) = if code = 0 then .returned (.tuple #[]) else .panicked (errs code) :=
  ⟨x, by rw [hL hc]; exact hs.sub hK, by rw [if_pos hc]⟩
set_option maxRecDepth 100000 in
set_option maxHeartbeats 400000 in
theorem sides1_any {W0 w : World} {A : Option Addr} {np cp bp bt x y z : Nat} {pk : Nat → Nat → Int} {a : Nat → Option Addr} {l c : Nat → Nat} {v : Nat → Nat → Int}
    (hL : Lay1 W0 A np pk a l v) (hb : Below W0.heap.size W0 w) (hS : ∀ b ∈ [z, y, x], W0.heap.size ≤ b)
    (h1 : OldB w bp [.slice A np cp]) (h2 : OldB w bt (tieL a l c)) (n1 : bp ∉ [z, y, x]) (n2 : bt ∉ [z, y, x])
    (hM : Sat [z, y, x] w [.blk z 47 (spL 0 0), .blk y 47 (spL 0 0), .blk x 47 (spL 0 0)] w) :
    Doing Tryz.prog 46 #[.pointer (some ⟨bp, 0, none⟩), .pointer (some ⟨bt, 0, none⟩), .pointer (some ⟨x, 0, none⟩), .pointer (some ⟨y, 0, none⟩), .pointer (some ⟨z, 0, none⟩)] [.blk z 47 (spL 0 0), .blk y 47 (spL 0 0), .blk x 47 (spL 0 0)] Unit
      (fun _ => if check1 np pk l v = 0 then [.blk z 47 (spL (wlo pk (catI l v) (tot l 3)) (whi pk (catI l v) (tot l 3))), .blk y 47 (spL (wlo pk (v 1) (l 1)) (whi pk (v 1) (l 1))), .blk x 47 (spL (wlo pk (v 0) (l 0)) (whi pk (v 0) (l 0)))] else [.blk z 47 (spL 0 0), .blk y 47 (spL 0 0), .blk x 47 (spL 0 0)]) (check1 np pk l v) w := by
  have hnp := hL.hnp
  have ap1 := apart_of n1
  have ap2 := apart_of n2
  have hL1 := hL.ext hb
  refine K_enter (args := [.pointer (some ⟨bp, 0, none⟩), .pointer (some ⟨bt, 0, none⟩), .pointer (some ⟨x, 0, none⟩), .pointer (some ⟨y, 0, none⟩), .pointer (some ⟨z, 0, none⟩)]) (S := [z, y, x]) (K := [.blk z 47 (spL 0 0), .blk y 47 (spL 0 0), .blk x 47 (spL 0 0)]) Tryz.func46 rfl Tryz.ntmps46 rfl hM ?_
  refine TW.seq fun Y1 hY1 => ?_
  refine TW.region ?_
  refine TL.p (by first | exact (Pu.ld ty_sc22) | exact (Pu.ldo ty_sc22)) ?_
  refine TL.p (by first | exact (Pu.lds ty_ag34) | exact (Pu.ldso ty_ag34)) ?_
  refine TL.m Mk.bl ?_
  intro b1
  refine TL.ct rfl (enters Tryz.func29 rfl rfl) (fun w hw => by
      have hLw := (hL.ext (old_below hb hw hS)).lay (c := c) (b := b1) (E := 34) (hw.holds (.blk b1 34 (tieL a l c)) (by simp [tieL]))
      exact hLw.check) (fun hp1 => ?_) (fun hp1 => ?_)
  rotate_left
  · refine TQ.thenP ?_
    refine TQ.pan rfl ?_
    exact fun w hw => Doing.no () hp1 rfl (fun h => if_neg h) hw (by repeat (first | exact KSub.nil | refine KSub.cons (by repeat (first | exact Pick.hd | apply Pick.tl)) ?_))
  refine TL.nil ?_
  refine TQ.thenN (hY1 _ _ ?_)
  refine TW.seq fun Y2 hY2 => ?_
  refine TW.dw 5 ?_
  refine RK.tk (by first | exact (Pu.lds ty_ag34) | exact (Pu.ldso ty_ag34)) ?_
  refine RK.tk (by first | exact (Pu.ld ty_sc22) | exact (Pu.ldo ty_sc22)) ?_
  refine RK.keep ?_
  refine RK.keep ?_
  refine RK.float [.slice none 0 0, .slice none 0 0, .slice none 0 0, .slice none 0 0] ?_
  refine RK.ch [false, true] ?_ ⟨ty_zr84, trivial⟩
  refine WK.call rfl (enters Tryz.func33 rfl rfl) rfl (fun w hw => by
      have hLw := hL.ext (old_below hb hw hS)
      exact rests_any hLw.hG hnp (check1_ok hp1).2.1 hLw.hR) ?_
  rintro ⟨Ar, cr⟩
  refine WK.p Pu.bd ?_
  refine WK.n ?_
  intro b2
  first | refine TL.st ty_sz84 ?_ | refine TL.se ty_sz84 ?_
  refine TL.nil ?_
  refine TQ.thenN (hY2 _ _ ?_)
  refine TW.dw 14 ?_
  refine RK.tk (by first | exact (Pu.lds ty_ag84) | exact (Pu.ldso ty_ag84)) ?_
  refine RK.tk (by first | exact Pu.fb ty_fa84_0 | exact Pu.fe ty_fa84_0) ?_
  refine RK.tk (by first | exact Pu.fb ty_fa34_0 | exact Pu.fe ty_fa34_0) ?_
  refine RK.tk (by first | exact (Pu.ld ty_sc24) | exact (Pu.ldo ty_sc24)) ?_
  refine RK.keep ?_
  refine RK.tk (by first | exact (Pu.lds ty_ag84) | exact (Pu.ldso ty_ag84)) ?_
  refine RK.tk (by first | exact Pu.fb ty_fa84_0 | exact Pu.fe ty_fa84_0) ?_
  refine RK.tk (by first | exact Pu.fb ty_fa34_1 | exact Pu.fe ty_fa34_1) ?_
  refine RK.tk (by first | exact (Pu.ld ty_sc24) | exact (Pu.ldo ty_sc24)) ?_
  refine RK.keep ?_
  refine RK.tk (by first | exact (Pu.lds ty_ag84) | exact (Pu.ldso ty_ag84)) ?_
  refine RK.tk (by first | exact (Pu.lds ty_ag34) | exact (Pu.ldso ty_ag34)) ?_
  refine RK.keep ?_
  refine RK.keep ?_
  refine RK.ch [false, false, false, false] ?_ trivial
  refine WK.cr rfl (enters Tryz.func43 rfl rfl) (fun w hw => by
      have hLw := hL.ext (old_below hb hw hS)
      obtain ⟨k1, k2, k3, k4⟩ := check1_ok hp1
      rw [tot3] at k4
      have hRr := OwnR.rdr (hw.holds (.own Ar np cr 47 2 (fun q => spL (rl (pk q)) (rh (pk q)))) (by simp))
      exact weight_any (a := a) (l := l) (c := c) (Ar := Ar) (cr := cr) (cp := c 0) (RestOk.of_packs k2) (show l 0 ≤ 1000 by omega) (k3 0 (by omega)) hRr (hLw.hI 0 (by omega))) ?_
  refine WK.cr rfl (enters Tryz.func43 rfl rfl) (fun w hw => by
      have hLw := hL.ext (old_below hb hw hS)
      obtain ⟨k1, k2, k3, k4⟩ := check1_ok hp1
      rw [tot3] at k4
      have hRr := OwnR.rdr (hw.holds (.own Ar np cr 47 2 (fun q => spL (rl (pk q)) (rh (pk q)))) (by simp))
      exact weight_any (a := a) (l := l) (c := c) (Ar := Ar) (cr := cr) (cp := c 1) (RestOk.of_packs k2) (show l 1 ≤ 1000 by omega) (k3 1 (by omega)) hRr (hLw.hI 1 (by omega))) ?_
  refine WK.call rfl (enters Tryz.func44 rfl rfl) rfl (fun w hw => by
      have hLw := hL.ext (old_below hb hw hS)
      have h9 := all_any (a := a) (l := l) (c := c) (v := v) (by have := hL.hL; omega) hLw.hI
      rw [catN_catI] at h9
      exact h9) ?_
  rintro ⟨Ac, cc⟩
  refine WK.cr rfl (enters Tryz.func43 rfl rfl) (fun w hw => by
      have hLw := hL.ext (old_below hb hw hS)
      obtain ⟨k1, k2, k3, k4⟩ := check1_ok hp1
      rw [tot3] at k4
      have hRr := OwnR.rdr (hw.holds (.own Ar np cr 47 2 (fun q => spL (rl (pk q)) (rh (pk q)))) (by simp))
      exact weight_any (a := a) (l := l) (c := c) (Ar := Ar) (cr := cr) (v := catI l v) (RestOk.of_packs k2) (show tot l 3 ≤ 1000 by rw [tot3]; omega) (inx_cat k3) hRr (OwnR.rdr (hw.holds (.own Ac (tot l 3) cc 3 1 (fun k => [.int .i64 (catI l v k)])) (by simp)))) ?_
  refine WK.n ?_
  first | refine TL.st ty_sz47 ?_ | refine TL.se ty_sz47 ?_
  first | refine TL.st ty_sz47 ?_ | refine TL.se ty_sz47 ?_
  first | refine TL.st ty_sz47 ?_ | refine TL.se ty_sz47 ?_
  refine TL.nil ?_
  refine TQ.end Tryz.results46 rfl (.nil) ?_
  exact fun w hw => Doing.yes () hp1 (fun h => if_pos h) hw (by repeat (first | exact KSub.nil | refine KSub.cons (by repeat (first | exact Pick.hd | apply Pick.tl)) ?_))
def sidesR (np : Nat) (pk : Nat → Nat → Int) (l : Nat → Nat) (v : Nat → Nat → Int) : List Int :=
  if check1 np pk l v = 0 then [wlo pk (v 0) (l 0), whi pk (v 0) (l 0), wlo pk (v 1) (l 1), whi pk (v 1) (l 1), wlo pk (catI l v) (tot l 3), whi pk (catI l v) (tot l 3)] else [0, 0, 0, 0, 0, 0]
def sp2 (r : List Int) (k : Nat) : List Value := spL (r.getD k 0) (r.getD (k + 1) 0)
theorem feet_new {w0 w : World} {K M : List Fact} {R : List Fact} (hs : Sat [] w0 K w) (hp : K.Perm (M ++ R)) : Sat (feet M) w M w ∧ ∀ b ∈ feet M, w0.heap.size ≤ b := by
  have h1 := hs.perm hp
  refine ⟨(Has.sat ⟨R, List.Perm.refl _⟩ h1).self, fun b hb => (h1.ge b (by rw [feet_append]; simp [hb])).resolve_left (by simp)⟩
set_option maxRecDepth 100000 in
set_option maxHeartbeats 1000000 in
theorem loadSides_any {w : World} {A : Option Addr} {np cp : Nat} {pk : Nat → Nat → Int} {a : Nat → Option Addr} {l c : Nat → Nat} {v : Nat → Nat → Int} (hL : Lay1 w A np pk a l v) :
    Calls Tryz.prog 12 #[.slice A np cp, .agg (tieL a l c).toArray] w (Ret w (.tuple #[.agg (sp2 (sidesR np pk l v) 0).toArray, .agg (sp2 (sidesR np pk l v) 2).toArray, .agg (sp2 (sidesR np pk l v) 4).toArray, .int .i64 (check1 np pk l v)])) := by
  refine K_enter (S := []) (K := []) Tryz.func12 rfl Tryz.ntmps12 rfl (Sat.start _) ?_
  refine TW.seq fun Y1 hY1 => ?_
  refine TW.region ?_
  refine TL.m Mk.bx ?_
  intro b1
  refine TL.m Mk.bx ?_
  intro b2
  refine TL.m (Mk.al ty_zr47) ?_
  intro b3
  refine TL.m (Mk.al ty_zr47) ?_
  intro b4
  refine TL.m (Mk.al ty_zr47) ?_
  intro b5
  refine TL.p Pu.as ?_
  refine TL.nil ?_
  refine TQ.thenN (hY1 _ _ ?_)
  refine TW.seq fun Y2 hY2 => ?_
  refine TW.region ?_
  refine TL.p Pu.fn ?_
  refine TL.call rfl (enters Tryz.func27 rfl rfl) (M := [.blk b5 47 (spL 0 0), .blk b4 47 (spL 0 0), .blk b3 47 (spL 0 0)]) (List.Perm.refl _) rfl (fun w hw => by
      have hB1 : Blk w b1 22 #[.slice A np cp] := hw.holds (.blk b1 22 [.slice A np cp]) (by simp)
      have hB2 : Blk w b2 34 (tieL a l c).toArray := hw.holds (.blk b2 34 (tieL a l c)) (by simp [tieL])
      have hnd := hw.nd
      simp [feet, Fact.foot] at hnd
      obtain ⟨hself, hge⟩ := feet_new (M := [.blk b5 47 (spL 0 0), .blk b4 47 (spL 0 0), .blk b3 47 (spL 0 0)]) hw (List.Perm.refl _)
      have hbel := Chg.ext hw.chg
      have m1 : b1 ∉ [b5, b4, b3] := by simp; omega
      have m2 : b2 ∉ [b5, b4, b3] := by simp; omega
      have ht := trying_any (M := [.blk b5 47 (spL 0 0), .blk b4 47 (spL 0 0), .blk b3 47 (spL 0 0)]) (code := check1 np pk l v) (fs := []) (cs := [.pointer (some ⟨b1, 0, none⟩), .pointer (some ⟨b2, 0, none⟩), .pointer (some ⟨b3, 0, none⟩), .pointer (some ⟨b4, 0, none⟩), .pointer (some ⟨b5, 0, none⟩)]) (enters Tryz.func46 rfl rfl) hself fun w' hw' =>
        sides1_any (c := c) (cp := cp) hL (old_below hbel hw' hge) hge ((OldB.of_blk (cs := [_]) hB1).sat hw' m1) ((OldB.of_blk hB2).sat hw' m2) m1 m2 hw'.self
      refine Calls.mono (R' := fun e w' => ∃ x : Unit, e = .returned (.int .i64 (check1 np pk l v)) ∧ Sat (feet [.blk b5 47 (spL 0 0), .blk b4 47 (spL 0 0), .blk b3 47 (spL 0 0)]) w [.blk b5 47 (sp2 (sidesR np pk l v) 4), .blk b4 47 (sp2 (sidesR np pk l v) 2), .blk b3 47 (sp2 (sidesR np pk l v) 0)] w') ht ?_
      rintro e w' ⟨x, he, hs⟩
      refine ⟨(), he, ?_⟩
      unfold sidesR
      by_cases h0 : check1 np pk l v = 0
      · replace hs : Sat _ w (if check1 np pk l v = 0 then _ else _) w' := hs
        rw [if_pos h0] at hs
        rw [if_pos h0]
        exact hs
      · replace hs : Sat _ w (if check1 np pk l v = 0 then _ else _) w' := hs
        rw [if_neg h0] at hs
        rw [if_neg h0]
        exact hs) ?_
  rintro ⟨⟩
  refine TL.p Pu.as ?_
  refine TL.nil ?_
  refine TQ.thenN (hY2 _ _ ?_)
  refine TW.seq fun Y3 hY3 => ?_
  refine TW.ex0 (Drop.blk 4 rfl (by repeat (first | exact Pick.hd | apply Pick.tl)) (Drop.blk 5 rfl (by repeat (first | exact Pick.hd | apply Pick.tl)) (Drop.blk 6 rfl (by repeat (first | exact Pick.hd | apply Pick.tl)) Drop.done))) ?_
  refine RG.tk 3 rfl Pu.mv ?_
  refine RG.a3 0 1 2 rfl rfl rfl (fun X0 hX0 => ?_) (fun X1 hX1 => ?_) (fun X2 hX2 => ?_)
  · refine TL.p (Pu.lds ty_ag47) ?_
    refine TL.nil ?_
    refine TQ.nxt (hX0 _ _ (by repeat (first | exact HasL.nil | refine HasL.cons (by repeat (first | exact Pick.hd | apply Pick.tl)) ?_)) ?_)
    refine RG.a3 1 2 4 rfl rfl rfl (fun X1 hX1 => ?_) (fun X2 hX2 => ?_) (fun X4 hX4 => ?_)
    · refine TL.p (Pu.lds ty_ag47) ?_
      refine TL.nil ?_
      refine TQ.nxt (hX1 _ _ (by repeat (first | exact HasL.nil | refine HasL.cons (by repeat (first | exact Pick.hd | apply Pick.tl)) ?_)) ?_)
      refine RG.a2 2 4 rfl rfl (fun X2 hX2 => ?_) (fun X4 hX4 => ?_)
      · refine TL.p (Pu.lds ty_ag47) ?_
        refine TL.nil ?_
        refine TQ.nxt (hX2 _ _ (by repeat (first | exact HasL.nil | refine HasL.cons (by repeat (first | exact Pick.hd | apply Pick.tl)) ?_)) ?_)
        refine RG.a1 4 rfl (fun X4 hX4 => ?_)
        first | refine TL.st ty_sz47 ?_ | refine TL.se ty_sz47 ?_
        refine TL.nil ?_
        refine TQ.nxt (hX4 _ _ (by repeat (first | exact HasL.nil | refine HasL.cons (by repeat (first | exact Pick.hd | apply Pick.tl)) ?_)) ?_)
        refine RG.a1 5 rfl (fun X5 hX5 => ?_)
        first | refine TL.st ty_sz47 ?_ | refine TL.se ty_sz47 ?_
        refine TL.nil ?_
        refine TQ.nxt (hX5 _ _ (by repeat (first | exact HasL.nil | refine HasL.cons (by repeat (first | exact Pick.hd | apply Pick.tl)) ?_)) ?_)
        refine RG.a1 6 rfl (fun X6 hX6 => ?_)
        first | refine TL.st ty_sz47 ?_ | refine TL.se ty_sz47 ?_
        refine TL.nil ?_
        refine TQ.nxt (hX6 _ _ (by repeat (first | exact HasL.nil | refine HasL.cons (by repeat (first | exact Pick.hd | apply Pick.tl)) ?_)) ?_)
        refine RG.tk 7 rfl Pu.as ?_
        refine RG.nil ?_ (by kernel_rfl)
        refine TQ.thenN (hY3 _ _ ?_)
        refine TW.ret ?_
        refine TQ.ret Tryz.results12 rfl ((RV.cs ty_ag47 (RV.cs ty_ag47 (RV.cs ty_ag47 (.tmp rfl .nil))))) ?_
        exact fun w hw => Ret.of hw
      · first | refine TL.st ty_sz47 ?_ | refine TL.se ty_sz47 ?_
        refine TL.nil ?_
        refine TQ.nxt (hX4 _ _ (by repeat (first | exact HasL.nil | refine HasL.cons (by repeat (first | exact Pick.hd | apply Pick.tl)) ?_)) ?_)
        refine RG.a2 2 5 rfl rfl (fun X2 hX2 => ?_) (fun X5 hX5 => ?_)
        · refine TL.p (Pu.lds ty_ag47) ?_
          refine TL.nil ?_
          refine TQ.nxt (hX2 _ _ (by repeat (first | exact HasL.nil | refine HasL.cons (by repeat (first | exact Pick.hd | apply Pick.tl)) ?_)) ?_)
          refine RG.a1 5 rfl (fun X5 hX5 => ?_)
          first | refine TL.st ty_sz47 ?_ | refine TL.se ty_sz47 ?_
          refine TL.nil ?_
          refine TQ.nxt (hX5 _ _ (by repeat (first | exact HasL.nil | refine HasL.cons (by repeat (first | exact Pick.hd | apply Pick.tl)) ?_)) ?_)
          refine RG.a1 6 rfl (fun X6 hX6 => ?_)
          first | refine TL.st ty_sz47 ?_ | refine TL.se ty_sz47 ?_
          refine TL.nil ?_
          refine TQ.nxt (hX6 _ _ (by repeat (first | exact HasL.nil | refine HasL.cons (by repeat (first | exact Pick.hd | apply Pick.tl)) ?_)) ?_)
          refine RG.tk 7 rfl Pu.as ?_
          refine RG.nil ?_ (by kernel_rfl)
          refine TQ.thenN (hY3 _ _ ?_)
          refine TW.ret ?_
          refine TQ.ret Tryz.results12 rfl ((RV.cs ty_ag47 (RV.cs ty_ag47 (RV.cs ty_ag47 (.tmp rfl .nil))))) ?_
          exact fun w hw => Ret.of hw
        · first | refine TL.st ty_sz47 ?_ | refine TL.se ty_sz47 ?_
          refine TL.nil ?_
          refine TQ.nxt (hX5 _ _ (by repeat (first | exact HasL.nil | refine HasL.cons (by repeat (first | exact Pick.hd | apply Pick.tl)) ?_)) ?_)
          refine RG.a1 2 rfl (fun X2 hX2 => ?_)
          refine TL.p (Pu.lds ty_ag47) ?_
          refine TL.nil ?_
          refine TQ.nxt (hX2 _ _ (by repeat (first | exact HasL.nil | refine HasL.cons (by repeat (first | exact Pick.hd | apply Pick.tl)) ?_)) ?_)
          refine RG.a1 6 rfl (fun X6 hX6 => ?_)
          first | refine TL.st ty_sz47 ?_ | refine TL.se ty_sz47 ?_
          refine TL.nil ?_
          refine TQ.nxt (hX6 _ _ (by repeat (first | exact HasL.nil | refine HasL.cons (by repeat (first | exact Pick.hd | apply Pick.tl)) ?_)) ?_)
          refine RG.tk 7 rfl Pu.as ?_
          refine RG.nil ?_ (by kernel_rfl)
          refine TQ.thenN (hY3 _ _ ?_)
          refine TW.ret ?_
          refine TQ.ret Tryz.results12 rfl ((RV.cs ty_ag47 (RV.cs ty_ag47 (RV.cs ty_ag47 (.tmp rfl .nil))))) ?_
          exact fun w hw => Ret.of hw
    · refine TL.p (Pu.lds ty_ag47) ?_
      refine TL.nil ?_
      refine TQ.nxt (hX2 _ _ (by repeat (first | exact HasL.nil | refine HasL.cons (by repeat (first | exact Pick.hd | apply Pick.tl)) ?_)) ?_)
      refine RG.a2 1 4 rfl rfl (fun X1 hX1 => ?_) (fun X4 hX4 => ?_)
      · refine TL.p (Pu.lds ty_ag47) ?_
        refine TL.nil ?_
        refine TQ.nxt (hX1 _ _ (by repeat (first | exact HasL.nil | refine HasL.cons (by repeat (first | exact Pick.hd | apply Pick.tl)) ?_)) ?_)
        refine RG.a1 4 rfl (fun X4 hX4 => ?_)
        first | refine TL.st ty_sz47 ?_ | refine TL.se ty_sz47 ?_
        refine TL.nil ?_
        refine TQ.nxt (hX4 _ _ (by repeat (first | exact HasL.nil | refine HasL.cons (by repeat (first | exact Pick.hd | apply Pick.tl)) ?_)) ?_)
        refine RG.a1 5 rfl (fun X5 hX5 => ?_)
        first | refine TL.st ty_sz47 ?_ | refine TL.se ty_sz47 ?_
        refine TL.nil ?_
        refine TQ.nxt (hX5 _ _ (by repeat (first | exact HasL.nil | refine HasL.cons (by repeat (first | exact Pick.hd | apply Pick.tl)) ?_)) ?_)
        refine RG.a1 6 rfl (fun X6 hX6 => ?_)
        first | refine TL.st ty_sz47 ?_ | refine TL.se ty_sz47 ?_
        refine TL.nil ?_
        refine TQ.nxt (hX6 _ _ (by repeat (first | exact HasL.nil | refine HasL.cons (by repeat (first | exact Pick.hd | apply Pick.tl)) ?_)) ?_)
        refine RG.tk 7 rfl Pu.as ?_
        refine RG.nil ?_ (by kernel_rfl)
        refine TQ.thenN (hY3 _ _ ?_)
        refine TW.ret ?_
        refine TQ.ret Tryz.results12 rfl ((RV.cs ty_ag47 (RV.cs ty_ag47 (RV.cs ty_ag47 (.tmp rfl .nil))))) ?_
        exact fun w hw => Ret.of hw
      · first | refine TL.st ty_sz47 ?_ | refine TL.se ty_sz47 ?_
        refine TL.nil ?_
        refine TQ.nxt (hX4 _ _ (by repeat (first | exact HasL.nil | refine HasL.cons (by repeat (first | exact Pick.hd | apply Pick.tl)) ?_)) ?_)
        refine RG.a1 1 rfl (fun X1 hX1 => ?_)
        refine TL.p (Pu.lds ty_ag47) ?_
        refine TL.nil ?_
        refine TQ.nxt (hX1 _ _ (by repeat (first | exact HasL.nil | refine HasL.cons (by repeat (first | exact Pick.hd | apply Pick.tl)) ?_)) ?_)
        refine RG.a1 5 rfl (fun X5 hX5 => ?_)
        first | refine TL.st ty_sz47 ?_ | refine TL.se ty_sz47 ?_
        refine TL.nil ?_
        refine TQ.nxt (hX5 _ _ (by repeat (first | exact HasL.nil | refine HasL.cons (by repeat (first | exact Pick.hd | apply Pick.tl)) ?_)) ?_)
        refine RG.a1 6 rfl (fun X6 hX6 => ?_)
        first | refine TL.st ty_sz47 ?_ | refine TL.se ty_sz47 ?_
        refine TL.nil ?_
        refine TQ.nxt (hX6 _ _ (by repeat (first | exact HasL.nil | refine HasL.cons (by repeat (first | exact Pick.hd | apply Pick.tl)) ?_)) ?_)
        refine RG.tk 7 rfl Pu.as ?_
        refine RG.nil ?_ (by kernel_rfl)
        refine TQ.thenN (hY3 _ _ ?_)
        refine TW.ret ?_
        refine TQ.ret Tryz.results12 rfl ((RV.cs ty_ag47 (RV.cs ty_ag47 (RV.cs ty_ag47 (.tmp rfl .nil))))) ?_
        exact fun w hw => Ret.of hw
    · first | refine TL.st ty_sz47 ?_ | refine TL.se ty_sz47 ?_
      refine TL.nil ?_
      refine TQ.nxt (hX4 _ _ (by repeat (first | exact HasL.nil | refine HasL.cons (by repeat (first | exact Pick.hd | apply Pick.tl)) ?_)) ?_)
      refine RG.a2 1 2 rfl rfl (fun X1 hX1 => ?_) (fun X2 hX2 => ?_)
      · refine TL.p (Pu.lds ty_ag47) ?_
        refine TL.nil ?_
        refine TQ.nxt (hX1 _ _ (by repeat (first | exact HasL.nil | refine HasL.cons (by repeat (first | exact Pick.hd | apply Pick.tl)) ?_)) ?_)
        refine RG.a2 2 5 rfl rfl (fun X2 hX2 => ?_) (fun X5 hX5 => ?_)
        · refine TL.p (Pu.lds ty_ag47) ?_
          refine TL.nil ?_
          refine TQ.nxt (hX2 _ _ (by repeat (first | exact HasL.nil | refine HasL.cons (by repeat (first | exact Pick.hd | apply Pick.tl)) ?_)) ?_)
          refine RG.a1 5 rfl (fun X5 hX5 => ?_)
          first | refine TL.st ty_sz47 ?_ | refine TL.se ty_sz47 ?_
          refine TL.nil ?_
          refine TQ.nxt (hX5 _ _ (by repeat (first | exact HasL.nil | refine HasL.cons (by repeat (first | exact Pick.hd | apply Pick.tl)) ?_)) ?_)
          refine RG.a1 6 rfl (fun X6 hX6 => ?_)
          first | refine TL.st ty_sz47 ?_ | refine TL.se ty_sz47 ?_
          refine TL.nil ?_
          refine TQ.nxt (hX6 _ _ (by repeat (first | exact HasL.nil | refine HasL.cons (by repeat (first | exact Pick.hd | apply Pick.tl)) ?_)) ?_)
          refine RG.tk 7 rfl Pu.as ?_
          refine RG.nil ?_ (by kernel_rfl)
          refine TQ.thenN (hY3 _ _ ?_)
          refine TW.ret ?_
          refine TQ.ret Tryz.results12 rfl ((RV.cs ty_ag47 (RV.cs ty_ag47 (RV.cs ty_ag47 (.tmp rfl .nil))))) ?_
          exact fun w hw => Ret.of hw
        · first | refine TL.st ty_sz47 ?_ | refine TL.se ty_sz47 ?_
          refine TL.nil ?_
          refine TQ.nxt (hX5 _ _ (by repeat (first | exact HasL.nil | refine HasL.cons (by repeat (first | exact Pick.hd | apply Pick.tl)) ?_)) ?_)
          refine RG.a1 2 rfl (fun X2 hX2 => ?_)
          refine TL.p (Pu.lds ty_ag47) ?_
          refine TL.nil ?_
          refine TQ.nxt (hX2 _ _ (by repeat (first | exact HasL.nil | refine HasL.cons (by repeat (first | exact Pick.hd | apply Pick.tl)) ?_)) ?_)
          refine RG.a1 6 rfl (fun X6 hX6 => ?_)
          first | refine TL.st ty_sz47 ?_ | refine TL.se ty_sz47 ?_
          refine TL.nil ?_
          refine TQ.nxt (hX6 _ _ (by repeat (first | exact HasL.nil | refine HasL.cons (by repeat (first | exact Pick.hd | apply Pick.tl)) ?_)) ?_)
          refine RG.tk 7 rfl Pu.as ?_
          refine RG.nil ?_ (by kernel_rfl)
          refine TQ.thenN (hY3 _ _ ?_)
          refine TW.ret ?_
          refine TQ.ret Tryz.results12 rfl ((RV.cs ty_ag47 (RV.cs ty_ag47 (RV.cs ty_ag47 (.tmp rfl .nil))))) ?_
          exact fun w hw => Ret.of hw
      · refine TL.p (Pu.lds ty_ag47) ?_
        refine TL.nil ?_
        refine TQ.nxt (hX2 _ _ (by repeat (first | exact HasL.nil | refine HasL.cons (by repeat (first | exact Pick.hd | apply Pick.tl)) ?_)) ?_)
        refine RG.a1 1 rfl (fun X1 hX1 => ?_)
        refine TL.p (Pu.lds ty_ag47) ?_
        refine TL.nil ?_
        refine TQ.nxt (hX1 _ _ (by repeat (first | exact HasL.nil | refine HasL.cons (by repeat (first | exact Pick.hd | apply Pick.tl)) ?_)) ?_)
        refine RG.a1 5 rfl (fun X5 hX5 => ?_)
        first | refine TL.st ty_sz47 ?_ | refine TL.se ty_sz47 ?_
        refine TL.nil ?_
        refine TQ.nxt (hX5 _ _ (by repeat (first | exact HasL.nil | refine HasL.cons (by repeat (first | exact Pick.hd | apply Pick.tl)) ?_)) ?_)
        refine RG.a1 6 rfl (fun X6 hX6 => ?_)
        first | refine TL.st ty_sz47 ?_ | refine TL.se ty_sz47 ?_
        refine TL.nil ?_
        refine TQ.nxt (hX6 _ _ (by repeat (first | exact HasL.nil | refine HasL.cons (by repeat (first | exact Pick.hd | apply Pick.tl)) ?_)) ?_)
        refine RG.tk 7 rfl Pu.as ?_
        refine RG.nil ?_ (by kernel_rfl)
        refine TQ.thenN (hY3 _ _ ?_)
        refine TW.ret ?_
        refine TQ.ret Tryz.results12 rfl ((RV.cs ty_ag47 (RV.cs ty_ag47 (RV.cs ty_ag47 (.tmp rfl .nil))))) ?_
        exact fun w hw => Ret.of hw
  · refine TL.p (Pu.lds ty_ag47) ?_
    refine TL.nil ?_
    refine TQ.nxt (hX1 _ _ (by repeat (first | exact HasL.nil | refine HasL.cons (by repeat (first | exact Pick.hd | apply Pick.tl)) ?_)) ?_)
    refine RG.a2 0 2 rfl rfl (fun X0 hX0 => ?_) (fun X2 hX2 => ?_)
    · refine TL.p (Pu.lds ty_ag47) ?_
      refine TL.nil ?_
      refine TQ.nxt (hX0 _ _ (by repeat (first | exact HasL.nil | refine HasL.cons (by repeat (first | exact Pick.hd | apply Pick.tl)) ?_)) ?_)
      refine RG.a2 2 4 rfl rfl (fun X2 hX2 => ?_) (fun X4 hX4 => ?_)
      · refine TL.p (Pu.lds ty_ag47) ?_
        refine TL.nil ?_
        refine TQ.nxt (hX2 _ _ (by repeat (first | exact HasL.nil | refine HasL.cons (by repeat (first | exact Pick.hd | apply Pick.tl)) ?_)) ?_)
        refine RG.a1 4 rfl (fun X4 hX4 => ?_)
        first | refine TL.st ty_sz47 ?_ | refine TL.se ty_sz47 ?_
        refine TL.nil ?_
        refine TQ.nxt (hX4 _ _ (by repeat (first | exact HasL.nil | refine HasL.cons (by repeat (first | exact Pick.hd | apply Pick.tl)) ?_)) ?_)
        refine RG.a1 5 rfl (fun X5 hX5 => ?_)
        first | refine TL.st ty_sz47 ?_ | refine TL.se ty_sz47 ?_
        refine TL.nil ?_
        refine TQ.nxt (hX5 _ _ (by repeat (first | exact HasL.nil | refine HasL.cons (by repeat (first | exact Pick.hd | apply Pick.tl)) ?_)) ?_)
        refine RG.a1 6 rfl (fun X6 hX6 => ?_)
        first | refine TL.st ty_sz47 ?_ | refine TL.se ty_sz47 ?_
        refine TL.nil ?_
        refine TQ.nxt (hX6 _ _ (by repeat (first | exact HasL.nil | refine HasL.cons (by repeat (first | exact Pick.hd | apply Pick.tl)) ?_)) ?_)
        refine RG.tk 7 rfl Pu.as ?_
        refine RG.nil ?_ (by kernel_rfl)
        refine TQ.thenN (hY3 _ _ ?_)
        refine TW.ret ?_
        refine TQ.ret Tryz.results12 rfl ((RV.cs ty_ag47 (RV.cs ty_ag47 (RV.cs ty_ag47 (.tmp rfl .nil))))) ?_
        exact fun w hw => Ret.of hw
      · first | refine TL.st ty_sz47 ?_ | refine TL.se ty_sz47 ?_
        refine TL.nil ?_
        refine TQ.nxt (hX4 _ _ (by repeat (first | exact HasL.nil | refine HasL.cons (by repeat (first | exact Pick.hd | apply Pick.tl)) ?_)) ?_)
        refine RG.a2 2 5 rfl rfl (fun X2 hX2 => ?_) (fun X5 hX5 => ?_)
        · refine TL.p (Pu.lds ty_ag47) ?_
          refine TL.nil ?_
          refine TQ.nxt (hX2 _ _ (by repeat (first | exact HasL.nil | refine HasL.cons (by repeat (first | exact Pick.hd | apply Pick.tl)) ?_)) ?_)
          refine RG.a1 5 rfl (fun X5 hX5 => ?_)
          first | refine TL.st ty_sz47 ?_ | refine TL.se ty_sz47 ?_
          refine TL.nil ?_
          refine TQ.nxt (hX5 _ _ (by repeat (first | exact HasL.nil | refine HasL.cons (by repeat (first | exact Pick.hd | apply Pick.tl)) ?_)) ?_)
          refine RG.a1 6 rfl (fun X6 hX6 => ?_)
          first | refine TL.st ty_sz47 ?_ | refine TL.se ty_sz47 ?_
          refine TL.nil ?_
          refine TQ.nxt (hX6 _ _ (by repeat (first | exact HasL.nil | refine HasL.cons (by repeat (first | exact Pick.hd | apply Pick.tl)) ?_)) ?_)
          refine RG.tk 7 rfl Pu.as ?_
          refine RG.nil ?_ (by kernel_rfl)
          refine TQ.thenN (hY3 _ _ ?_)
          refine TW.ret ?_
          refine TQ.ret Tryz.results12 rfl ((RV.cs ty_ag47 (RV.cs ty_ag47 (RV.cs ty_ag47 (.tmp rfl .nil))))) ?_
          exact fun w hw => Ret.of hw
        · first | refine TL.st ty_sz47 ?_ | refine TL.se ty_sz47 ?_
          refine TL.nil ?_
          refine TQ.nxt (hX5 _ _ (by repeat (first | exact HasL.nil | refine HasL.cons (by repeat (first | exact Pick.hd | apply Pick.tl)) ?_)) ?_)
          refine RG.a1 2 rfl (fun X2 hX2 => ?_)
          refine TL.p (Pu.lds ty_ag47) ?_
          refine TL.nil ?_
          refine TQ.nxt (hX2 _ _ (by repeat (first | exact HasL.nil | refine HasL.cons (by repeat (first | exact Pick.hd | apply Pick.tl)) ?_)) ?_)
          refine RG.a1 6 rfl (fun X6 hX6 => ?_)
          first | refine TL.st ty_sz47 ?_ | refine TL.se ty_sz47 ?_
          refine TL.nil ?_
          refine TQ.nxt (hX6 _ _ (by repeat (first | exact HasL.nil | refine HasL.cons (by repeat (first | exact Pick.hd | apply Pick.tl)) ?_)) ?_)
          refine RG.tk 7 rfl Pu.as ?_
          refine RG.nil ?_ (by kernel_rfl)
          refine TQ.thenN (hY3 _ _ ?_)
          refine TW.ret ?_
          refine TQ.ret Tryz.results12 rfl ((RV.cs ty_ag47 (RV.cs ty_ag47 (RV.cs ty_ag47 (.tmp rfl .nil))))) ?_
          exact fun w hw => Ret.of hw
    · refine TL.p (Pu.lds ty_ag47) ?_
      refine TL.nil ?_
      refine TQ.nxt (hX2 _ _ (by repeat (first | exact HasL.nil | refine HasL.cons (by repeat (first | exact Pick.hd | apply Pick.tl)) ?_)) ?_)
      refine RG.a1 0 rfl (fun X0 hX0 => ?_)
      refine TL.p (Pu.lds ty_ag47) ?_
      refine TL.nil ?_
      refine TQ.nxt (hX0 _ _ (by repeat (first | exact HasL.nil | refine HasL.cons (by repeat (first | exact Pick.hd | apply Pick.tl)) ?_)) ?_)
      refine RG.a1 4 rfl (fun X4 hX4 => ?_)
      first | refine TL.st ty_sz47 ?_ | refine TL.se ty_sz47 ?_
      refine TL.nil ?_
      refine TQ.nxt (hX4 _ _ (by repeat (first | exact HasL.nil | refine HasL.cons (by repeat (first | exact Pick.hd | apply Pick.tl)) ?_)) ?_)
      refine RG.a1 5 rfl (fun X5 hX5 => ?_)
      first | refine TL.st ty_sz47 ?_ | refine TL.se ty_sz47 ?_
      refine TL.nil ?_
      refine TQ.nxt (hX5 _ _ (by repeat (first | exact HasL.nil | refine HasL.cons (by repeat (first | exact Pick.hd | apply Pick.tl)) ?_)) ?_)
      refine RG.a1 6 rfl (fun X6 hX6 => ?_)
      first | refine TL.st ty_sz47 ?_ | refine TL.se ty_sz47 ?_
      refine TL.nil ?_
      refine TQ.nxt (hX6 _ _ (by repeat (first | exact HasL.nil | refine HasL.cons (by repeat (first | exact Pick.hd | apply Pick.tl)) ?_)) ?_)
      refine RG.tk 7 rfl Pu.as ?_
      refine RG.nil ?_ (by kernel_rfl)
      refine TQ.thenN (hY3 _ _ ?_)
      refine TW.ret ?_
      refine TQ.ret Tryz.results12 rfl ((RV.cs ty_ag47 (RV.cs ty_ag47 (RV.cs ty_ag47 (.tmp rfl .nil))))) ?_
      exact fun w hw => Ret.of hw
  · refine TL.p (Pu.lds ty_ag47) ?_
    refine TL.nil ?_
    refine TQ.nxt (hX2 _ _ (by repeat (first | exact HasL.nil | refine HasL.cons (by repeat (first | exact Pick.hd | apply Pick.tl)) ?_)) ?_)
    refine RG.a2 0 1 rfl rfl (fun X0 hX0 => ?_) (fun X1 hX1 => ?_)
    · refine TL.p (Pu.lds ty_ag47) ?_
      refine TL.nil ?_
      refine TQ.nxt (hX0 _ _ (by repeat (first | exact HasL.nil | refine HasL.cons (by repeat (first | exact Pick.hd | apply Pick.tl)) ?_)) ?_)
      refine RG.a2 1 4 rfl rfl (fun X1 hX1 => ?_) (fun X4 hX4 => ?_)
      · refine TL.p (Pu.lds ty_ag47) ?_
        refine TL.nil ?_
        refine TQ.nxt (hX1 _ _ (by repeat (first | exact HasL.nil | refine HasL.cons (by repeat (first | exact Pick.hd | apply Pick.tl)) ?_)) ?_)
        refine RG.a1 4 rfl (fun X4 hX4 => ?_)
        first | refine TL.st ty_sz47 ?_ | refine TL.se ty_sz47 ?_
        refine TL.nil ?_
        refine TQ.nxt (hX4 _ _ (by repeat (first | exact HasL.nil | refine HasL.cons (by repeat (first | exact Pick.hd | apply Pick.tl)) ?_)) ?_)
        refine RG.a1 5 rfl (fun X5 hX5 => ?_)
        first | refine TL.st ty_sz47 ?_ | refine TL.se ty_sz47 ?_
        refine TL.nil ?_
        refine TQ.nxt (hX5 _ _ (by repeat (first | exact HasL.nil | refine HasL.cons (by repeat (first | exact Pick.hd | apply Pick.tl)) ?_)) ?_)
        refine RG.a1 6 rfl (fun X6 hX6 => ?_)
        first | refine TL.st ty_sz47 ?_ | refine TL.se ty_sz47 ?_
        refine TL.nil ?_
        refine TQ.nxt (hX6 _ _ (by repeat (first | exact HasL.nil | refine HasL.cons (by repeat (first | exact Pick.hd | apply Pick.tl)) ?_)) ?_)
        refine RG.tk 7 rfl Pu.as ?_
        refine RG.nil ?_ (by kernel_rfl)
        refine TQ.thenN (hY3 _ _ ?_)
        refine TW.ret ?_
        refine TQ.ret Tryz.results12 rfl ((RV.cs ty_ag47 (RV.cs ty_ag47 (RV.cs ty_ag47 (.tmp rfl .nil))))) ?_
        exact fun w hw => Ret.of hw
      · first | refine TL.st ty_sz47 ?_ | refine TL.se ty_sz47 ?_
        refine TL.nil ?_
        refine TQ.nxt (hX4 _ _ (by repeat (first | exact HasL.nil | refine HasL.cons (by repeat (first | exact Pick.hd | apply Pick.tl)) ?_)) ?_)
        refine RG.a1 1 rfl (fun X1 hX1 => ?_)
        refine TL.p (Pu.lds ty_ag47) ?_
        refine TL.nil ?_
        refine TQ.nxt (hX1 _ _ (by repeat (first | exact HasL.nil | refine HasL.cons (by repeat (first | exact Pick.hd | apply Pick.tl)) ?_)) ?_)
        refine RG.a1 5 rfl (fun X5 hX5 => ?_)
        first | refine TL.st ty_sz47 ?_ | refine TL.se ty_sz47 ?_
        refine TL.nil ?_
        refine TQ.nxt (hX5 _ _ (by repeat (first | exact HasL.nil | refine HasL.cons (by repeat (first | exact Pick.hd | apply Pick.tl)) ?_)) ?_)
        refine RG.a1 6 rfl (fun X6 hX6 => ?_)
        first | refine TL.st ty_sz47 ?_ | refine TL.se ty_sz47 ?_
        refine TL.nil ?_
        refine TQ.nxt (hX6 _ _ (by repeat (first | exact HasL.nil | refine HasL.cons (by repeat (first | exact Pick.hd | apply Pick.tl)) ?_)) ?_)
        refine RG.tk 7 rfl Pu.as ?_
        refine RG.nil ?_ (by kernel_rfl)
        refine TQ.thenN (hY3 _ _ ?_)
        refine TW.ret ?_
        refine TQ.ret Tryz.results12 rfl ((RV.cs ty_ag47 (RV.cs ty_ag47 (RV.cs ty_ag47 (.tmp rfl .nil))))) ?_
        exact fun w hw => Ret.of hw
    · refine TL.p (Pu.lds ty_ag47) ?_
      refine TL.nil ?_
      refine TQ.nxt (hX1 _ _ (by repeat (first | exact HasL.nil | refine HasL.cons (by repeat (first | exact Pick.hd | apply Pick.tl)) ?_)) ?_)
      refine RG.a1 0 rfl (fun X0 hX0 => ?_)
      refine TL.p (Pu.lds ty_ag47) ?_
      refine TL.nil ?_
      refine TQ.nxt (hX0 _ _ (by repeat (first | exact HasL.nil | refine HasL.cons (by repeat (first | exact Pick.hd | apply Pick.tl)) ?_)) ?_)
      refine RG.a1 4 rfl (fun X4 hX4 => ?_)
      first | refine TL.st ty_sz47 ?_ | refine TL.se ty_sz47 ?_
      refine TL.nil ?_
      refine TQ.nxt (hX4 _ _ (by repeat (first | exact HasL.nil | refine HasL.cons (by repeat (first | exact Pick.hd | apply Pick.tl)) ?_)) ?_)
      refine RG.a1 5 rfl (fun X5 hX5 => ?_)
      first | refine TL.st ty_sz47 ?_ | refine TL.se ty_sz47 ?_
      refine TL.nil ?_
      refine TQ.nxt (hX5 _ _ (by repeat (first | exact HasL.nil | refine HasL.cons (by repeat (first | exact Pick.hd | apply Pick.tl)) ?_)) ?_)
      refine RG.a1 6 rfl (fun X6 hX6 => ?_)
      first | refine TL.st ty_sz47 ?_ | refine TL.se ty_sz47 ?_
      refine TL.nil ?_
      refine TQ.nxt (hX6 _ _ (by repeat (first | exact HasL.nil | refine HasL.cons (by repeat (first | exact Pick.hd | apply Pick.tl)) ?_)) ?_)
      refine RG.tk 7 rfl Pu.as ?_
      refine RG.nil ?_ (by kernel_rfl)
      refine TQ.thenN (hY3 _ _ ?_)
      refine TW.ret ?_
      refine TQ.ret Tryz.results12 rfl ((RV.cs ty_ag47 (RV.cs ty_ag47 (RV.cs ty_ag47 (.tmp rfl .nil))))) ?_
      exact fun w hw => Ret.of hw
end Go.Proofs.YtljhdcclajikiaaGreatDoor
