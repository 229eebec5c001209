/-
  The reference's Ties and Check. Marks in a map and in a slice of bools say the same.
-/
import Derived.Test.YtagcnokaajinlaaDoorLoadL
namespace Go.Proofs.YtagcnokaajinlaaDoor
set_option linter.all false
set_option linter.unusedVariables false
set_option linter.unusedSimpArgs false
open Go.RowKit
theorem mlook_mput (i j : Int) (v : Value) : ∀ l : List (Int × Value), mlook j (mput i v l) = if j = i then some v else mlook j l
  | [] => by by_cases h : j = i <;> simp [mput, mlook, h]
  | (k, u) :: l => by
    by_cases hk : i = k
    · subst hk; by_cases h : j = i <;> simp [mput, mlook, h]
    · by_cases h : j = i
      · subst h; simp [mput, mlook, hk, mlook_mput j j v l]
      · by_cases h2 : j = k
        · subst h2; simp [mput, mlook, hk, h]
        · simp [mput, mlook, hk, h, h2, mlook_mput i j v l]
theorem mput_len (i : Int) (v : Value) : ∀ l : List (Int × Value), (mput i v l).length = l.length + if (mlook i l).isSome then 0 else 1
  | [] => rfl
  | (k, u) :: l => by
    by_cases hk : i = k
    · simp [mput, mlook, hk]
    · simp [mput, mlook, hk, mput_len i v l]; omega
theorem mark_look (x : Int) : ∀ (xs : List Int) (m : List (Int × Value)), (mlook x (xs.foldl (fun m x => mput x (.bool true) m) m)).isSome = (decide (x ∈ xs) || (mlook x m).isSome)
  | [], m => by simp
  | y :: xs, m => by
    rw [List.foldl_cons, mark_look x xs, mlook_mput]
    by_cases h : x = y <;> by_cases h2 : x ∈ xs <;> simp [h, h2]
theorem mark_len : ∀ (n : Nat) (xs : List Int), xs.length = n → (markAll xs).length ≤ n ∧ ((markAll xs).length = n ↔ xs.Nodup)
  | 0, xs, h => by
    have : xs = [] := List.length_eq_zero_iff.1 h
    subst this
    simp [markAll]
  | n + 1, xs, h => by
    rcases List.eq_nil_or_concat xs with rfl | ⟨ys, y, rfl⟩
    · simp at h
    · have hl : ys.length = n := by simpa using h
      obtain ⟨h1, h2⟩ := mark_len n ys hl
      have hk := mark_look y ys []
      have hk' : (mlook y (markAll ys)).isSome = decide (y ∈ ys) := by
        unfold markAll; rw [hk]; simp [mlook]
      rw [List.concat_eq_append, markAll_snoc, mput_len, hk']
      by_cases hm : y ∈ ys
      · simp only [hm, decide_true, if_true]
        refine ⟨by omega, ⟨fun h => by omega, fun h => ?_⟩⟩
        exfalso
        have := List.nodup_append.1 h
        exact this.2.2 y hm y (by simp) rfl
      · simp only [hm, decide_false, Bool.false_eq_true, if_false]
        refine ⟨by omega, ⟨fun h => ?_, fun h => ?_⟩⟩
        · have h3 : ys.Nodup := h2.1 (by omega)
          exact List.nodup_append.2 ⟨h3, by simp, fun a ha b hb e => by
            simp at hb; subst hb; subst e; exact hm ha⟩
        · have := h2.2 (List.nodup_append.1 h).1
          omega
theorem marks_nodup (xs : List Int) : decide (((markAll xs).length : Int) = (xs.length : Int)) = decide xs.Nodup := by
  have h := (mark_len xs.length xs rfl).2
  by_cases hn : xs.Nodup
  · have := h.2 hn; simp [hn, this]
  · have : ¬ (markAll xs).length = xs.length := fun e => hn (h.1 e)
    simp only [hn, decide_false, decide_eq_false_iff_not]
    omega
theorem lsts_get (l : Nat → Nat) (v : Nat → Nat → Int) : ∀ (j k : Nat), k < tot l j → catN l (fun i k => [.int .i64 (v i k)]) j k = [Value.int .i64 ((lsts l v j).getD k 0)]
  | 0, k, h => by simp [tot] at h
  | j + 1, k, h => by
    simp only [catN, catR, lsts]
    have hl := lsts_length l v j
    by_cases hk : k < tot l j
    · rw [if_pos hk, lsts_get l v j k hk, List.getD_eq_getElem?_getD, List.getD_eq_getElem?_getD, List.getElem?_append_left (by omega)]
    · rw [if_neg hk, List.getD_eq_getElem?_getD, List.getElem?_append_right (by omega), hl]
      simp only [tot] at h
      have h2 : k - tot l j < l j := by omega
      simp [lst, List.getD_eq_getElem?_getD, h2]
theorem rise_bound {v : Nat → Int} {N : Int} {n : Nat} (h3 : 0 ≤ N) (h : allB n (riseP v N) = true) : ∀ k, k < n → 0 ≤ v k ∧ v k ≤ N - 1 := fun k hk => by
  have h1 := allB_iff.1 h
  have h2 := rise_lo h3 k fun j hj => h1 j (by omega)
  have h4 := h1 k hk
  simp only [riseP, inB5, Bool.and_eq_true, decide_eq_true_eq] at h4
  omega
theorem lsts_bound {l : Nat → Nat} {v : Nat → Nat → Int} {N : Int} (h3 : 0 ≤ N) : ∀ j, (∀ j', j' < j → allB (l j') (riseP (v j') N) = true) → ∀ x ∈ lsts l v j, 0 ≤ x ∧ x ≤ N - 1
  | 0, _, x, hx => by simp [lsts] at hx
  | j + 1, h, x, hx => by
    simp only [lsts, List.mem_append] at hx
    rcases hx with hx | hx
    · exact lsts_bound h3 j (fun j' hj => h j' (by omega)) x hx
    · simp only [lst, List.mem_map, List.mem_range] at hx
      obtain ⟨k, hk, rfl⟩ := hx
      exact rise_bound h3 (h j (by omega)) k hk
theorem take_next {ys : List Int} {k : Nat} (hk : k < ys.length) : ys.take (k + 1) = ys.take k ++ [ys.getD k 0] := by
  rw [List.take_succ, List.getD_eq_getElem?_getD, List.getElem?_eq_getElem hk]
  rfl
theorem refList3 {a : Nat → Option Addr} {l c : Nat → Nat} {v : Nat → Nat → Int} {w : World} (ht : tot l 3 ≤ 1000000000) (hI : ∀ i, i < 3 → RdR w 1 (a i) (l i) (fun k => [.int .i64 (v i k)])) :
    CallsK Tryd.prog 40 #[.agg (tieL a l c).toArray] [] w (Option Addr × Nat) (fun x => .slice x.1 (tot l 3) x.2) (fun x => [.own x.1 (tot l 3) x.2 3 1 (fun k => [.int .i64 ((lsts l v 3).getD k 0)])]) :=
  Calls.mono (refList_any ht hI) fun e w' ⟨x, h1, h2⟩ => ⟨x, h1, h2.sub (KSub.own Pick.hd (fun k hk => lsts_get l v 3 k hk) KSub.nil)⟩
theorem allB3 (p : Nat → Bool) : allB 3 p = (p 0 && p 1 && p 2) := by simp [allB, List.range_succ, Bool.and_assoc]
def usedR (xs : List Int) : Nat → List Value := fun q => [.bool (decide ((q : Int) ∈ xs))]
theorem usedR_put {xs : List Int} {x : Int} (h0 : 0 ≤ x) : ∀ q, updR (usedR xs) x.toNat [.bool true] q = usedR (xs ++ [x]) q := fun q => by
  unfold updR usedR
  by_cases h : q = x.toNat
  · subst h
    have : ((x.toNat : Nat) : Int) = x := by omega
    simp [this]
  · have : ¬ ((q : Int) = x) := by omega
    simp [h, this]
def dupOk (np m : Nat) (l : Nat → Nat → Nat) (v : Nat → Nat → Nat → Int) : Bool := allB m (fun i => tieOk np (l i) (v i)) && (decide ((m : Int) ≤ 8) && decide (held l v m).Nodup)
theorem ties_dup (np m : Nat) (l : Nat → Nat → Nat) (v : Nat → Nat → Nat → Int) : tiesOk np m l v = dupOk np m l v := by
  unfold tiesOk dupOk
  rw [marks_nodup]
theorem held_pre {l : Nat → Nat → Nat} {v : Nat → Nat → Nat → Int} {i m : Nat} (h : i ≤ m) : ∃ r, held l v m = held l v i ++ r := by
  induction m with
  | zero => have : i = 0 := by omega
            subst this; exact ⟨[], by simp⟩
  | succ m ih =>
    by_cases he : i = m + 1
    · subst he; exact ⟨[], by simp⟩
    · obtain ⟨r, hr⟩ := ih (by omega)
      exact ⟨r ++ lsts (l m) (v m) 3, by simp [held, hr]⟩
/-- A number that stands twice. -/
theorem dup_no {np m i k : Nat} {l : Nat → Nat → Nat} {v : Nat → Nat → Nat → Int} (hi : i < m) (hk : k < tot (l i) 3) (h : (lsts (l i) (v i) 3).getD k 0 ∈ held l v i ++ (lsts (l i) (v i) 3).take k) : dupOk np m l v = false := by
  have h1 : ¬ (held l v m).Nodup := fun hn => by
    obtain ⟨r, hr⟩ := held_pre (l := l) (v := v) (show i + 1 ≤ m by omega)
    rw [hr] at hn
    have h2 := (List.nodup_append.1 hn).1
    rw [held] at h2
    have h3 : (held l v i ++ (lsts (l i) (v i) 3).take (k + 1)).Nodup := by
      have h4 : (held l v i ++ (lsts (l i) (v i) 3)) = (held l v i ++ (lsts (l i) (v i) 3).take (k + 1)) ++ (lsts (l i) (v i) 3).drop (k + 1) := by rw [List.append_assoc, List.take_append_drop]
      rw [h4] at h2
      exact (List.nodup_append.1 h2).1
    rw [take_next (by rw [lsts_length]; exact hk), ← List.append_assoc] at h3
    exact (List.nodup_append.1 h3).2.2 _ h _ (by simp) rfl
  unfold dupOk
  simp [h1]
theorem dup_tie {np m i : Nat} {l : Nat → Nat → Nat} {v : Nat → Nat → Nat → Int} (hi : i < m) (h : tieOk np (l i) (v i) = false) : dupOk np m l v = false := by
  rw [← ties_dup]; exact ties_no hi h
set_option maxRecDepth 100000 in
theorem refTies_any {A2 : Option Addr} {np m cp2 : Nat} {a : Nat → Nat → Option Addr} {l c : Nat → Nat → Nat} {v : Nat → Nat → Nat → Int} {w : World} (hnp : np ≤ 1000000) (hm : m ≤ 1000)
    (hT : RdR w 3 A2 m (fun i => tieL (a i) (l i) (c i))) (hI : ∀ i, i < m → ∀ j, j < 3 → RdR w 1 (a i j) (l i j) (fun k => [.int .i64 (v i j k)])) (hL : ∀ i, i < m → tot (l i) 3 ≤ 1000) :
    Calls Tryd.prog 43 #[.int .i64 np, .slice A2 m cp2] w (Ret w (.bool (dupOk np m l v))) := by
  refine K_enter (S := []) (K := []) Tryd.func43 rfl Tryd.ntmps43 rfl (Sat.start _) ?_
  refine TW.seq fun Y1 hY1 => ?_
  refine TW.region ?_
  refine TL.p Pu.as ?_
  refine TL.nil ?_
  refine TQ.thenN (hY1 _ _ ?_)
  refine TW.seq fun Y2 hY2 => ?_
  refine TW.seq fun Y3 hY3 => ?_
  refine TW.region ?_
  refine TL.p Pu.mv ?_
  refine TL.p (Pu.ln Tryd.underlying27) ?_
  refine TL.p Pu.gt ?_
  refine TL.nil ?_
  refine TQ.thenN (hY3 _ _ ?_)
  refine TW.cond rfl (fun hc0 => ?_) (fun hc0 => ?_)
  · try simp only [decide_eq_true_eq, decide_eq_false_iff_not, Bool.not_eq_true', Bool.not_eq_false', Bool.and_eq_true, Bool.or_eq_true, Bool.and_eq_false_iff, Bool.or_eq_false_iff, Int.not_lt, Int.not_le] at hc0
    refine TW.seq fun Y4 hY4 => ?_
    refine TW.region ?_
    refine TL.p Pu.as ?_
    refine TL.nil ?_
    refine TQ.thenN (hY4 _ _ ?_)
    refine TW.ret ?_
    refine TQ.thenR ?_
    refine TQ.ret Tryd.results43 rfl ((.tmp rfl .nil)) ?_
    exact fun w hw => ⟨ret_bool (by unfold dupOk; rw [show decide ((m : Int) ≤ 8) = false by simp; omega]; simp), Chg.ext hw.chg⟩
  · try simp only [decide_eq_true_eq, decide_eq_false_iff_not, Bool.not_eq_true', Bool.not_eq_false', Bool.and_eq_true, Bool.or_eq_true, Bool.and_eq_false_iff, Bool.or_eq_false_iff, Int.not_lt, Int.not_le] at hc0
    refine TW.skip ?_
    refine TQ.thenN (hY2 _ _ ?_)
    refine TW.seq fun Y5 hY5 => ?_
    refine TW.region ?_
    refine TL.p Pu.mv ?_
    refine TL.ms ty_et119 ty_zr4 ?_
    intro b1
    refine TL.p Pu.as ?_
    refine TL.nil ?_
    refine TQ.thenN (hY5 _ _ ?_)
    refine TW.seq fun Y6 hY6 => ?_
    refine TW.seq fun Y7 hY7 => ?_
    refine TW.region ?_
    refine TL.p Pu.as ?_
    refine TL.nil ?_
    refine TQ.thenN (hY7 _ _ ?_)
    refine TW.block ?_
    refine TW.loop1 (fun (i : Nat) => [(6, .int .i64 (i : Int)), (0, .int .i64 (np : Int)), (1, .slice A2 m cp2), (5, .slice (some ⟨b1, 0, none⟩) np np)]) (fun i => [.own (some ⟨b1, 0, none⟩) np np 4 1 (usedR (held l v i))]) (fun i => i ≤ m ∧ (held l v i).Nodup ∧ ∀ i', i' < i → tieOk np (l i') (v i') = true) (fun i => m - i) 0 (by repeat (first | exact trivial | refine ⟨rfl, ?_⟩ | refine ⟨trivial, ?_⟩)) ?_ ?_ ?_
    · exact KSub.own Pick.hd (fun q _ => by simp [usedR, held]) KSub.nil
    · exact ⟨by omega, by simp [held], fun i' h => by omega⟩
    rintro i ⟨hi, hnd, hoks⟩ Z0 hZ0
    refine TW.seq fun Y8 hY8 => ?_
    refine TW.seq fun Y9 hY9 => ?_
    refine TW.region ?_
    refine TL.p Pu.mv ?_
    refine TL.p Pu.mv ?_
    refine TL.p (Pu.ln Tryd.underlying27) ?_
    refine TL.p Pu.lt ?_
    refine TL.nil ?_
    refine TQ.thenN (hY9 _ _ ?_)
    refine TW.cond rfl (fun hc1 => ?_) (fun hc1 => ?_)
    · try simp only [decide_eq_true_eq, decide_eq_false_iff_not, Bool.not_eq_true', Bool.not_eq_false', Bool.and_eq_true, Bool.or_eq_true, Bool.and_eq_false_iff, Bool.or_eq_false_iff, Int.not_lt, Int.not_le] at hc1
      have him : i < m := by omega
      have hLi := hL i him
      have hIi := hI i him
      have hI0 := hIi 0 (by omega)
      have hI1 := hIi 1 (by omega)
      have hI2 := hIi 2 (by omega)
      have hl0 : l i 0 + l i 1 + l i 2 ≤ 1000 := by rw [← tot3]; exact hLi
      refine TW.skip ?_
      refine TQ.thenN (hY8 _ _ ?_)
      refine TW.seq fun Y10 hY10 => ?_
      refine TW.block ?_
      refine TW.seq fun Y11 hY11 => ?_
      refine TW.region ?_
      refine TL.p Pu.mv ?_
      refine TL.p Pu.mv ?_
      refine TL.p (Pu.el ty_et27) ?_
      refine TL.p (Pu.lds ty_ag59) ?_
      refine TL.m (Mk.al ty_zr59) ?_
      intro b2
      first | refine TL.st ty_sz59 ?_ | refine TL.se ty_sz59 ?_
      refine TL.nil ?_
      refine TQ.thenN (hY11 _ _ ?_)
      refine TW.seq fun Y12 hY12 => ?_
      refine TW.seq fun Y13 hY13 => ?_
      refine TW.join [(43, .bool (!allB 3 (fun j => allB (l i j) (riseP (v i j) np))))] ?_ (fun hJ1 => ?_)
      · refine TQ.thenN (hY13 _ _ ?_)
        refine TW.cond rfl (fun hc2 => ?_) (fun hc2 => ?_)
        · try simp only [decide_eq_true_eq, decide_eq_false_iff_not, Bool.not_eq_true', Bool.not_eq_false', Bool.and_eq_true, Bool.or_eq_true, Bool.and_eq_false_iff, Bool.or_eq_false_iff, Int.not_lt, Int.not_le] at hc2
          have hbad : allB 3 (fun j => allB (l i j) (riseP (v i j) np)) = false := by simpa using hc2
          refine TW.seq fun Y14 hY14 => ?_
          refine TW.region ?_
          refine TL.p Pu.as ?_
          refine TL.nil ?_
          refine TQ.thenN (hY14 _ _ ?_)
          refine TW.ret ?_
          refine TQ.thenR ?_
          refine TQ.blkR ?_
          refine TQ.thenR ?_
          refine TQ.thenR ?_
          refine TQ.blkR ?_
          refine TQ.thenR ?_
          refine TQ.ret Tryd.results43 rfl ((.tmp rfl .nil)) ?_
          exact fun w hw => ⟨ret_bool (by rw [dup_tie him (by unfold tieOk; rw [hbad]; rfl)]), Chg.ext hw.chg⟩
        · try simp only [decide_eq_true_eq, decide_eq_false_iff_not, Bool.not_eq_true', Bool.not_eq_false', Bool.and_eq_true, Bool.or_eq_true, Bool.and_eq_false_iff, Bool.or_eq_false_iff, Int.not_lt, Int.not_le] at hc2
          have hgood : allB 3 (fun j => allB (l i j) (riseP (v i j) np)) = true := by simpa using hc2
          have hbd := lsts_bound (N := (np : Int)) (by omega) 3 (fun j' hj => allB_iff.1 hgood j' hj)
          refine TW.skip ?_
          refine TQ.thenN (hY12 _ _ ?_)
          refine TW.seq fun Y15 hY15 => ?_
          refine TW.region ?_
          refine TL.p (Pu.lds ty_ag59) ?_
          refine TL.call (M := []) rfl (enters Tryd.func40 rfl rfl) (List.Perm.refl _) rfl (fun w hw => by
              exact refList3 (v := v i) (by omega) (fun j hj => (hIi j hj).sat hw Apart.nil)) ?_
          rintro ⟨A8, c8⟩
          refine TL.p Pu.as ?_
          refine TL.nil ?_
          refine TQ.thenN (hY15 _ _ ?_)
          refine TW.seq fun Y16 hY16 => ?_
          refine TW.seq fun Y17 hY17 => ?_
          refine TW.region ?_
          refine TL.p Pu.mv ?_
          refine TL.p (Pu.ln Tryd.underlying47) ?_
          refine TL.p Pu.gt ?_
          refine TL.nil ?_
          refine TQ.thenN (hY17 _ _ ?_)
          refine TW.cond rfl (fun hc3 => ?_) (fun hc3 => ?_)
          · try simp only [decide_eq_true_eq, decide_eq_false_iff_not, Bool.not_eq_true', Bool.not_eq_false', Bool.and_eq_true, Bool.or_eq_true, Bool.and_eq_false_iff, Bool.or_eq_false_iff, Int.not_lt, Int.not_le] at hc3
            refine TW.seq fun Y18 hY18 => ?_
            refine TW.region ?_
            refine TL.p Pu.as ?_
            refine TL.nil ?_
            refine TQ.thenN (hY18 _ _ ?_)
            refine TW.ret ?_
            refine TQ.thenR ?_
            refine TQ.blkR ?_
            refine TQ.thenR ?_
            refine TQ.thenR ?_
            refine TQ.blkR ?_
            refine TQ.thenR ?_
            refine TQ.ret Tryd.results43 rfl ((.tmp rfl .nil)) ?_
            exact fun w hw => ⟨ret_bool (by rw [dup_tie him (by unfold tieOk; rw [show decide (tot (l i) 3 ≤ 10) = false by simp; omega, Bool.and_false])]), Chg.ext hw.chg⟩
          · try simp only [decide_eq_true_eq, decide_eq_false_iff_not, Bool.not_eq_true', Bool.not_eq_false', Bool.and_eq_true, Bool.or_eq_true, Bool.and_eq_false_iff, Bool.or_eq_false_iff, Int.not_lt, Int.not_le] at hc3
            refine TW.skip ?_
            refine TQ.thenN (hY16 _ _ ?_)
            refine TW.seq fun Y19 hY19 => ?_
            refine TW.region ?_
            refine TL.p Pu.as ?_
            refine TL.nil ?_
            refine TQ.thenN (hY19 _ _ ?_)
            refine TW.block ?_
            refine TW.loop1 (fun (k : Nat) => [(9, .int .i64 (k : Int)), (8, .slice A8 (tot (l i) 3) c8), (6, .int .i64 (i : Int)), (0, .int .i64 (np : Int)), (1, .slice A2 m cp2), (5, .slice (some ⟨b1, 0, none⟩) np np)]) (fun k => [.own (some ⟨b1, 0, none⟩) np np 4 1 (usedR (held l v i ++ (lsts (l i) (v i) 3).take k)), .own A8 (tot (l i) 3) c8 3 1 (fun k => [.int .i64 ((lsts (l i) (v i) 3).getD k 0)])]) (fun k => k ≤ tot (l i) 3 ∧ (held l v i ++ (lsts (l i) (v i) 3).take k).Nodup) (fun k => tot (l i) 3 - k) 0 (by repeat (first | exact trivial | refine ⟨rfl, ?_⟩ | refine ⟨trivial, ?_⟩)) ?_ ?_ ?_
            · rw [List.take_zero, List.append_nil]
              exact KSub.cons (by repeat (first | exact Pick.hd | apply Pick.tl)) (KSub.cons (by repeat (first | exact Pick.hd | apply Pick.tl)) KSub.nil)
            · exact ⟨Nat.zero_le _, by simpa using hnd⟩
            rintro k ⟨hk, hndk⟩ Z1 hZ1
            refine TW.seq fun Y20 hY20 => ?_
            refine TW.seq fun Y21 hY21 => ?_
            refine TW.region ?_
            refine TL.p Pu.mv ?_
            refine TL.p Pu.mv ?_
            refine TL.p (Pu.ln Tryd.underlying47) ?_
            refine TL.p Pu.lt ?_
            refine TL.nil ?_
            refine TQ.thenN (hY21 _ _ ?_)
            refine TW.cond rfl (fun hc4 => ?_) (fun hc4 => ?_)
            · try simp only [decide_eq_true_eq, decide_eq_false_iff_not, Bool.not_eq_true', Bool.not_eq_false', Bool.and_eq_true, Bool.or_eq_true, Bool.and_eq_false_iff, Bool.or_eq_false_iff, Int.not_lt, Int.not_le] at hc4
              have hkt : k < tot (l i) 3 := by omega
              have hx : 0 ≤ (lsts (l i) (v i) 3).getD k 0 ∧ (lsts (l i) (v i) 3).getD k 0 ≤ (np : Int) - 1 := by
                refine hbd _ ?_
                rw [List.getD_eq_getElem?_getD, List.getElem?_eq_getElem (by rw [lsts_length]; exact hkt)]
                exact List.getElem_mem _
              obtain ⟨hx0, hx1⟩ := hx
              have hxn : (((lsts (l i) (v i) 3).getD k 0).toNat : Int) = (lsts (l i) (v i) 3).getD k 0 := by omega
              refine TW.skip ?_
              refine TQ.thenN (hY20 _ _ ?_)
              refine TW.seq fun Y22 hY22 => ?_
              refine TW.block ?_
              refine TW.seq fun Y23 hY23 => ?_
              refine TW.seq fun Y24 hY24 => ?_
              refine TW.region ?_
              refine TL.p Pu.mv ?_
              refine TL.p Pu.mv ?_
              refine TL.p Pu.mv ?_
              refine TL.p (Pu.el ty_et47) ?_
              refine TL.p (Pu.ld ty_sc3) ?_
              refine TL.p (Pu.el (q := ((lsts (l i) (v i) 3).getD k 0).toNat) ty_et119 (hk := rfl)) ?_
              refine TL.p (Pu.ld ty_sc4) ?_
              refine TL.nil ?_
              refine TQ.thenN (hY24 _ _ ?_)
              refine TW.cond rfl (fun hc5 => ?_) (fun hc5 => ?_)
              · try simp only [decide_eq_true_eq, decide_eq_false_iff_not, Bool.not_eq_true', Bool.not_eq_false', Bool.and_eq_true, Bool.or_eq_true, Bool.and_eq_false_iff, Bool.or_eq_false_iff, Int.not_lt, Int.not_le] at hc5
                have hdup : (lsts (l i) (v i) 3).getD k 0 ∈ held l v i ++ (lsts (l i) (v i) 3).take k := by rw [← hxn]; simpa using hc5
                refine TW.seq fun Y25 hY25 => ?_
                refine TW.region ?_
                refine TL.p Pu.as ?_
                refine TL.nil ?_
                refine TQ.thenN (hY25 _ _ ?_)
                refine TW.ret ?_
                refine TQ.thenR ?_
                refine TQ.blkR ?_
                refine TQ.thenR ?_
                refine TQ.thenR ?_
                refine TQ.blkR ?_
                refine TQ.blkR ?_
                refine TQ.thenR ?_
                refine TQ.thenR ?_
                refine TQ.blkR ?_
                refine TQ.thenR ?_
                refine TQ.ret Tryd.results43 rfl ((.tmp rfl .nil)) ?_
                exact fun w hw => ⟨ret_bool (by rw [dup_no him hkt hdup]), Chg.ext hw.chg⟩
              · try simp only [decide_eq_true_eq, decide_eq_false_iff_not, Bool.not_eq_true', Bool.not_eq_false', Bool.and_eq_true, Bool.or_eq_true, Bool.and_eq_false_iff, Bool.or_eq_false_iff, Int.not_lt, Int.not_le] at hc5
                have hnew : ¬ (lsts (l i) (v i) 3).getD k 0 ∈ held l v i ++ (lsts (l i) (v i) 3).take k := by rw [← hxn]; simpa using hc5
                refine TW.skip ?_
                refine TQ.thenN (hY23 _ _ ?_)
                refine TW.region ?_
                refine TL.p Pu.mv ?_
                refine TL.p Pu.mv ?_
                refine TL.p Pu.mv ?_
                refine TL.p (Pu.el ty_et47) ?_
                refine TL.p (Pu.ld ty_sc3) ?_
                refine TL.p (Pu.el (q := ((lsts (l i) (v i) 3).getD k 0).toNat) ty_et119 (hk := rfl)) ?_
                first | refine TL.st ty_sz4 ?_ | refine TL.se ty_sz4 ?_
                refine TL.nil ?_
                refine TQ.blkN ?_
                refine TQ.thenN (hY22 _ _ ?_)
                refine TW.region ?_
                refine TL.p Pu.mv ?_
                refine TL.p Pu.ad ?_
                refine TL.p Pu.as ?_
                refine TL.nil ?_
                refine TQ.thenN (hZ1 (k + 1) _ _ ?_ ?_ (by repeat (first | exact trivial | refine ⟨rfl, ?_⟩ | refine ⟨trivial, ?_⟩)) ?_)
                · refine ⟨by omega, ?_⟩
                  rw [take_next (by rw [lsts_length]; exact hkt), ← List.append_assoc]
                  exact List.nodup_append.2 ⟨hndk, by simp, fun a ha b hb e => by
                    rw [List.mem_singleton] at hb
                    subst hb; subst e; exact hnew ha⟩
                · exact (by first | omega | (simp only []; omega) | (simp; omega))
                · rw [take_next (by rw [lsts_length]; exact hkt), ← List.append_assoc]
                  exact KSub.own Pick.hd (fun q _ => usedR_put hx0 q) (KSub.cons (by repeat (first | exact Pick.hd | apply Pick.tl)) KSub.nil)
            · try simp only [decide_eq_true_eq, decide_eq_false_iff_not, Bool.not_eq_true', Bool.not_eq_false', Bool.and_eq_true, Bool.or_eq_true, Bool.and_eq_false_iff, Bool.or_eq_false_iff, Int.not_lt, Int.not_le] at hc4
              obtain rfl : tot (l i) 3 = k := by omega
              refine TW.exit ?_
              refine TQ.thenX ?_
              refine TQ.thenX ?_
              refine TQ.blkX ?_
              refine TQ.blkN ?_
              refine TQ.thenN (hY10 _ _ ?_)
              refine TW.region ?_
              refine TL.p Pu.mv ?_
              refine TL.p Pu.ad ?_
              refine TL.p Pu.as ?_
              refine TL.nil ?_
              rw [List.take_of_length_le (by rw [lsts_length]; exact Nat.le_refl _)] at hndk
              refine TQ.thenN (hZ0 (i + 1) _ _ ?_ ?_ (by repeat (first | exact trivial | refine ⟨rfl, ?_⟩ | refine ⟨trivial, ?_⟩)) ?_)
              · refine ⟨by omega, hndk, fun i' h => ?_⟩
                by_cases he : i' = i
                · subst he
                  simp only [tieOk, Bool.and_eq_true, decide_eq_true_eq]
                  exact ⟨hgood, by omega⟩
                · exact hoks i' (by omega)
              · exact (by first | omega | (simp only []; omega) | (simp; omega))
              · rw [List.take_of_length_le (by rw [lsts_length]; exact Nat.le_refl _)]
                exact KSub.cons (by repeat (first | exact Pick.hd | apply Pick.tl)) KSub.nil
      refine TW.region ?_
      refine TL.p (by first | exact Pu.fb ty_fa59_0 | exact Pu.fe ty_fa59_0) ?_
      refine TL.p (Pu.ld ty_sc47) ?_
      refine TL.p Pu.mv ?_
      refine TL.cr rfl (enters Tryd.func78 rfl rfl) (fun w hw => by
          first | exact refRising_any (v := v i 0) (by omega) (hI0.sat hw Apart.nil) (by omega) (by omega) | exact refRising_any (v := v i 1) (by omega) (hI1.sat hw Apart.nil) (by omega) (by omega) | exact refRising_any (v := v i 2) (by omega) (hI2.sat hw Apart.nil) (by omega) (by omega)) ?_
      refine TL.p Pu.no ?_
      refine TL.p Pu.mv ?_
      refine TL.guard (t := 30) rfl (fun hg1 => ?_) (fun hg1 => ?_)
      · refine TL.gs ?_
        refine TL.gs ?_
        refine TL.gs ?_
        refine TL.gs ?_
        refine TL.gs ?_
        refine TL.p Pu.kt ?_
        refine TL.p Pu.mv ?_
        refine TL.gs ?_
        refine TL.gs ?_
        refine TL.gs ?_
        refine TL.gs ?_
        refine TL.gs ?_
        refine TL.p Pu.kt ?_
        refine TL.nil ?_
        exact TQ.sub (by repeat (first | exact trivial | refine ⟨rfl, ?_⟩ | refine ⟨trivial, ?_⟩ | refine ⟨(by show some (Value.bool _) = some (Value.bool _); simp [hg1, allB3]), ?_⟩)) (by repeat (first | exact KSub.nil | refine KSub.cons (by repeat (first | exact Pick.hd | apply Pick.tl)) ?_)) hJ1
      · refine TL.gd (by first | exact Pu.fb ty_fa59_1 | exact Pu.fe ty_fa59_1) ?_
        refine TL.gd (Pu.ld ty_sc47) ?_
        refine TL.gd Pu.mv ?_
        refine TL.cr rfl (enters Tryd.func78 rfl rfl) (fun w hw => by
            first | exact refRising_any (v := v i 0) (by omega) (hI0.sat hw Apart.nil) (by omega) (by omega) | exact refRising_any (v := v i 1) (by omega) (hI1.sat hw Apart.nil) (by omega) (by omega) | exact refRising_any (v := v i 2) (by omega) (hI2.sat hw Apart.nil) (by omega) (by omega)) ?_
        refine TL.gd Pu.no ?_
        refine TL.p Pu.kf ?_
        refine TL.p Pu.mv ?_
        refine TL.guard (t := 37) rfl (fun hg2 => ?_) (fun hg2 => ?_)
        · refine TL.gs ?_
          refine TL.gs ?_
          refine TL.gs ?_
          refine TL.gs ?_
          refine TL.gs ?_
          refine TL.p Pu.kt ?_
          refine TL.nil ?_
          exact TQ.sub (by repeat (first | exact trivial | refine ⟨rfl, ?_⟩ | refine ⟨trivial, ?_⟩ | refine ⟨(by show some (Value.bool _) = some (Value.bool _); simp [hg1, hg2, allB3]), ?_⟩)) (by repeat (first | exact KSub.nil | refine KSub.cons (by repeat (first | exact Pick.hd | apply Pick.tl)) ?_)) hJ1
        · refine TL.gd (by first | exact Pu.fb ty_fa59_2 | exact Pu.fe ty_fa59_2) ?_
          refine TL.gd (Pu.ld ty_sc47) ?_
          refine TL.gd Pu.mv ?_
          refine TL.cr rfl (enters Tryd.func78 rfl rfl) (fun w hw => by
              first | exact refRising_any (v := v i 0) (by omega) (hI0.sat hw Apart.nil) (by omega) (by omega) | exact refRising_any (v := v i 1) (by omega) (hI1.sat hw Apart.nil) (by omega) (by omega) | exact refRising_any (v := v i 2) (by omega) (hI2.sat hw Apart.nil) (by omega) (by omega)) ?_
          refine TL.gd Pu.no ?_
          refine TL.p Pu.kf ?_
          refine TL.nil ?_
          exact TQ.sub (by repeat (first | exact trivial | refine ⟨rfl, ?_⟩ | refine ⟨trivial, ?_⟩ | refine ⟨(by show some (Value.bool _) = some (Value.bool _); simp [hg1, hg2, allB3]), ?_⟩)) (by repeat (first | exact KSub.nil | refine KSub.cons (by repeat (first | exact Pick.hd | apply Pick.tl)) ?_)) hJ1
    · try simp only [decide_eq_true_eq, decide_eq_false_iff_not, Bool.not_eq_true', Bool.not_eq_false', Bool.and_eq_true, Bool.or_eq_true, Bool.and_eq_false_iff, Bool.or_eq_false_iff, Int.not_lt, Int.not_le] at hc1
      refine TW.exit ?_
      refine TQ.thenX ?_
      refine TQ.thenX ?_
      refine TQ.blkX ?_
      refine TQ.thenN (hY6 _ _ ?_)
      refine TW.seq fun Y26 hY26 => ?_
      refine TW.region ?_
      refine TL.p Pu.as ?_
      refine TL.nil ?_
      refine TQ.thenN (hY26 _ _ ?_)
      refine TW.ret ?_
      refine TQ.ret Tryd.results43 rfl ((.tmp rfl .nil)) ?_
      exact fun w hw => ⟨ret_bool (by
        obtain rfl : i = m := by omega
        unfold dupOk
        rw [allB_iff.2 hoks, show decide ((i : Int) ≤ 8) = true by simp; omega]
        simp [hnd]), Chg.ext hw.chg⟩
theorem refCheck_any {A A2 : Option Addr} {np m cp cp2 : Nat} {pk : Nat → Nat → Int} {a : Nat → Nat → Option Addr} {l c : Nat → Nat → Nat} {v : Nat → Nat → Nat → Int} {w : World} (h : Lay w A A2 np m pk a l c v) :
    Calls Tryd.prog 14 #[.slice A np cp, .slice A2 m cp2] w (Ret w (.int .i64 (checkV np pk m l v))) := by
  have hnp := h.hnp
  refine K_enter (S := []) (K := []) Tryd.func14 rfl Tryd.ntmps14 rfl (Sat.start _) ?_
  refine TW.seq fun Y1 hY1 => ?_
  refine TW.region ?_
  refine TL.p Pu.as ?_
  refine TL.nil ?_
  refine TQ.thenN (hY1 _ _ ?_)
  refine TW.seq fun Y2 hY2 => ?_
  refine TW.seq fun Y3 hY3 => ?_
  refine TW.region ?_
  refine TL.p Pu.mv ?_
  refine TL.cr rfl (enters Tryd.func42 rfl rfl) (fun w hw => by
      exact refPacks_any hnp (h.sat hw).hR) ?_
  refine TL.p Pu.no ?_
  refine TL.nil ?_
  refine TQ.thenN (hY3 _ _ ?_)
  refine TW.cond rfl (fun hc0 => ?_) (fun hc0 => ?_)
  · try simp only [decide_eq_true_eq, decide_eq_false_iff_not, Bool.not_eq_true', Bool.not_eq_false', Bool.and_eq_true, Bool.or_eq_true, Bool.and_eq_false_iff, Bool.or_eq_false_iff, Int.not_lt, Int.not_le] at hc0
    have hno : packsOk np pk = false := hc0
    refine TW.seq fun Y4 hY4 => ?_
    refine TW.region ?_
    refine TL.p Pu.as ?_
    refine TL.nil ?_
    refine TQ.thenN (hY4 _ _ ?_)
    refine TW.ret ?_
    refine TQ.thenR ?_
    refine TQ.ret Tryd.results14 rfl ((.tmp rfl .nil)) ?_
    exact fun w hw => ⟨by unfold checkV; rw [hno]; rfl, Chg.ext hw.chg⟩
  · try simp only [decide_eq_true_eq, decide_eq_false_iff_not, Bool.not_eq_true', Bool.not_eq_false', Bool.and_eq_true, Bool.or_eq_true, Bool.and_eq_false_iff, Bool.or_eq_false_iff, Int.not_lt, Int.not_le] at hc0
    have hyes : packsOk np pk = true := hc0
    have hnp30 : np ≤ 30 := by
      have h1 := hyes
      simp only [packsOk, Bool.and_eq_true, decide_eq_true_eq] at h1
      omega
    refine TW.skip ?_
    refine TQ.thenN (hY2 _ _ ?_)
    refine TW.seq fun Y5 hY5 => ?_
    refine TW.seq fun Y6 hY6 => ?_
    refine TW.region ?_
    refine TL.p Pu.mv ?_
    refine TL.p (Pu.ln Tryd.underlying26) ?_
    refine TL.p Pu.mv ?_
    refine TL.cr rfl (enters Tryd.func43 rfl rfl) (fun w hw => by
        exact refTies_any (by omega) h.hm (h.sat hw).hT (h.sat hw).hI h.hL) ?_
    refine TL.p Pu.no ?_
    refine TL.nil ?_
    refine TQ.thenN (hY6 _ _ ?_)
    refine TW.cond rfl (fun hc1 => ?_) (fun hc1 => ?_)
    · try simp only [decide_eq_true_eq, decide_eq_false_iff_not, Bool.not_eq_true', Bool.not_eq_false', Bool.and_eq_true, Bool.or_eq_true, Bool.and_eq_false_iff, Bool.or_eq_false_iff, Int.not_lt, Int.not_le] at hc1
      have hn1 : dupOk np m l v = false := hc1
      refine TW.seq fun Y7 hY7 => ?_
      refine TW.region ?_
      refine TL.p Pu.as ?_
      refine TL.nil ?_
      refine TQ.thenN (hY7 _ _ ?_)
      refine TW.ret ?_
      refine TQ.thenR ?_
      refine TQ.ret Tryd.results14 rfl ((.tmp rfl .nil)) ?_
      exact fun w hw => ⟨by unfold checkV; rw [hyes, ties_dup, hn1]; rfl, Chg.ext hw.chg⟩
    · try simp only [decide_eq_true_eq, decide_eq_false_iff_not, Bool.not_eq_true', Bool.not_eq_false', Bool.and_eq_true, Bool.or_eq_true, Bool.and_eq_false_iff, Bool.or_eq_false_iff, Int.not_lt, Int.not_le] at hc1
      have hy1 : dupOk np m l v = true := hc1
      refine TW.skip ?_
      refine TQ.thenN (hY5 _ _ ?_)
      refine TW.seq fun Y8 hY8 => ?_
      refine TW.region ?_
      refine TL.p Pu.as ?_
      refine TL.nil ?_
      refine TQ.thenN (hY8 _ _ ?_)
      refine TW.ret ?_
      refine TQ.ret Tryd.results14 rfl ((.tmp rfl .nil)) ?_
      exact fun w hw => ⟨by unfold checkV; rw [hyes, ties_dup, hy1]; rfl, Chg.ext hw.chg⟩
end Go.Proofs.YtagcnokaajinlaaDoor
