/-
  Part 7 of the proof of loadExamples_holds: declarations of several texts, in build order. No condition on a program.
-/
import Derived.Test.YtjephihlkjpohaaGreatDoorExam06
import Derived.Test.YtjephihlkjpohaaGreatDoorExam01
namespace Go.Proofs.YtjephihlkjpohaaGreatDoor
set_option linter.all false
set_option linter.unusedVariables false
set_option linter.unusedSimpArgs false
open Go.RowKit
theorem Sat.own1 {w : World} {A : Option Addr} {n cp : Nat} {E : TypeId} {sz : Nat} {r : Nat → List Value} (h : OwnR w A n cp E sz r) : Sat (feet [.own A n cp E sz r]) w [.own A n cp E sz r] w :=
  ⟨Chg.refl _ _, by cases A <;> simp [feet, Fact.foot], fun b hb => .inl hb, by intro φ hφ; obtain rfl := List.mem_singleton.1 hφ; exact h⟩
theorem own_putRow {w : World} {G cp : Nat} {E : TypeId} {L M : List Int} (os : Array Obj) (n : Nat) (hl : M.length = L.length) (h : OwnR w (some ⟨G, 0, none⟩) L.length cp E 1 (iL L)) :
    Sat [G] w [.own (some ⟨G, 0, none⟩) L.length cp E 1 (iL M)] (Sort.grow (Sort.putRow (Value.int .i64) (Sort.ahead w n) G 0 M.toArray) os) := by
  rcases h.own.2 with ⟨e, _⟩ | ⟨g, cap, cur, e, hg, hh, hnc, hcm, hcs, ht⟩
  · cases e
  · simp only [Value.slice.injEq, Option.some.injEq, Addr.mk.injEq, and_true, true_and] at e
    obtain ⟨rfl, rfl⟩ := e
    have hlt := lt_of_get hh
    have hsz : L.length * 1 ≤ cur.size := by rw [hcs]; exact Nat.mul_le_mul_right _ hnc
    have hheap : (Sort.putRow (Value.int .i64) (Sort.ahead w n) G 0 M.toArray).heap = w.heap.modify G (Sort.onCells (Sort.putCells (Value.int .i64) 0 M.toArray)) := rfl
    have hget : (Sort.grow (Sort.putRow (Value.int .i64) (Sort.ahead w n) G 0 M.toArray) os).heap[G]? = some (.cells (Sort.putCells (Value.int .i64) 0 M.toArray cur) E (0, 0)) := by
      show ((Sort.putRow (Value.int .i64) (Sort.ahead w n) G 0 M.toArray).heap ++ os)[G]? = _
      rw [hheap, Array.getElem?_append_left (by simpa using hlt), Array.getElem?_modify, if_pos rfl, hh]
      rfl
    have hps : (Sort.putCells (Value.int .i64) 0 M.toArray cur).size = cur.size := by simp [Sort.putCells]
    refine Sat.one ⟨rfl, rfl, rfl, ?_, fun k hk hS => ?_⟩ (by simp [Fact.foot]) (fun q hq => .inl hq) ⟨⟨by rw [flat_length], .inr ⟨G, cp, _, rfl, hg, hget, hnc, hcm, by rw [hps, hcs], ?_⟩⟩, fun i hi => rfl⟩
    · show w.heap.size ≤ ((Sort.putRow (Value.int .i64) (Sort.ahead w n) G 0 M.toArray).heap ++ os).size
      rw [hheap]
      simp
    · show ((Sort.putRow (Value.int .i64) (Sort.ahead w n) G 0 M.toArray).heap ++ os)[k]? = _
      rw [hheap, Array.getElem?_append_left (by simpa using hk), Array.getElem?_modify, if_neg (fun e => hS (by simp [e]))]
    · apply List.ext_getElem?
      intro k
      by_cases hk : k < L.length * 1
      · have h1 := flat_get (f := rowF (iL M)) (n := L.length) (sz := 1) (i := k) (j := 0) (by omega) (by omega)
        rw [Nat.mul_one, Nat.add_zero] at h1
        rw [h1, List.getElem?_take, if_pos hk]
        simp only [Sort.putCells, Array.getElem?_toList, Array.getElem?_mapIdx, Array.getElem?_eq_getElem (show k < cur.size by omega), Option.map_some]
        have hk2 : k < M.length := by omega
        rw [if_pos ⟨Nat.zero_le _, by simpa using hk2⟩]
        simp [rowF, iL, List.getD_eq_getElem?_getD, hk2]
      · rw [List.getElem?_eq_none (by rw [List.length_take]; omega), List.getElem?_eq_none (by rw [flat_length]; omega)]
theorem sortI_any {w : World} {A : Option Addr} {n cp : Nat} {L : List Int} (hn : n = L.length) (h1 : n ≤ 1000000) (h : OwnR w A n cp 3 1 (iL L)) :
    CallsK Tryz.prog 54 #[.slice A n cp] [.own A n cp 3 1 (iL L)] w Unit (fun _ => .tuple #[]) (fun _ => [.own A n cp 3 1 (iL (srt L))]) := by
  subst hn
  rcases h.own.2 with ⟨e, h0⟩ | ⟨g, cap, cur, e, hg, hh, hnc, hcm, hcs, ht⟩
  · have hL : L = [] := List.length_eq_zero_iff.1 h0
    subst hL
    refine (Tryz.slices_Sort_int_none A cp w).mono ?_
    rintro e' w' ⟨rfl, rfl⟩
    refine ⟨(), rfl, ?_⟩
    rw [srt_nil]
    exact Sat.own1 h
  · simp only [Value.slice.injEq] at e
    obtain ⟨rfl, _, rfl⟩ := e
    have hlt := lt_of_get hh
    have hH : Sort.Holds (Value.int .i64) w g 0 L.toArray := fun j hj => by
      have hj' : j < L.length := by simpa using hj
      have hrd := h.own.form1 (by omega)
      obtain ⟨g', c', e, _, _, _, hcell, hfr⟩ := hrd
      cases e
      refine ⟨?_, hfr _⟩
      have := hcell j 0 hj' (by omega)
      rw [Nat.mul_one, Nat.add_zero] at this
      rw [Nat.zero_add, this]
      simp [rowF, iL, List.getD_eq_getElem?_getD, hj']
    refine (Tryz.slices_Sort_int g 0 cp L w hH hlt (by omega)).mono ?_
    rintro e' w' ⟨rfl, n, os, rfl⟩
    rw [ms_srt]
    exact ⟨(), rfl, own_putRow os n (srt_len L) h⟩
theorem indexI_any {w : World} {A : Option Addr} {n cp : Nat} {L : List Int} (x : Int) (hn : n = L.length) (h1 : n ≤ 1000000) (hR : RdR w 1 A n (iL L)) :
    Calls Tryz.prog 127 #[.slice A n cp, .int .i64 x] w fun e w' => ∃ k : Int, Ret w (.int .i64 k) e w' ∧ decide (0 ≤ k) = L.contains x := by
  subst hn
  refine K_enter (S := []) (K := []) Tryz.func127 rfl Tryz.ntmps127 rfl (Sat.start _) ?_
  refine TW.seq fun Y1 hY1 => ?_
  refine TW.region ?_
  refine TL.p Pu.as ?_
  refine TL.nil ?_
  refine TQ.thenN (hY1 _ _ ?_)
  refine TW.seq fun Y2 hY2 => ?_
  refine TW.seq fun Y3 hY3 => ?_
  refine TW.region ?_
  refine TL.p Pu.mv ?_
  refine TL.p (Pu.ln Tryz.underlying24) ?_
  refine TL.p Pu.mv ?_
  refine TL.nil ?_
  refine TQ.thenN (hY3 _ _ ?_)
  refine TW.block ?_
  refine TW.loop1 (fun (k : Nat) => [(8, .int .i64 (k : Int)), (7, .int .i64 (L.length : Int)), (0, .slice A L.length cp), (1, .int .i64 x)]) (fun k => []) (fun k => k ≤ L.length ∧ ∀ j, j < k → L.getD j 0 ≠ x) (fun k => L.length - k) 0 (by repeat (first | exact trivial | refine ⟨rfl, ?_⟩ | refine ⟨trivial, ?_⟩)) ?_ ?_ ?_
  · exact (by repeat (first | exact KSub.nil | refine KSub.cons (by repeat (first | exact Pick.hd | apply Pick.tl)) ?_))
  · exact ⟨Nat.zero_le _, fun j hj => by omega⟩
  rintro k ⟨hk, hall⟩ Z0 hZ0
  refine TW.seq fun Y4 hY4 => ?_
  refine TW.region ?_
  refine TL.p Pu.lt ?_
  refine TL.nil ?_
  refine TQ.thenN (hY4 _ _ ?_)
  refine TW.seq fun Y5 hY5 => ?_
  refine TW.cond rfl (fun hc0 => ?_) (fun hc0 => ?_)
  · try simp only [decide_eq_true_eq, decide_eq_false_iff_not, Bool.not_eq_true', Bool.not_eq_false', Bool.and_eq_true, Bool.or_eq_true, Bool.and_eq_false_iff, Bool.or_eq_false_iff, Int.not_lt, Int.not_le] at hc0
    have hkn : k < L.length := by omega
    refine TW.skip ?_
    refine TQ.thenN (hY5 _ _ ?_)
    refine TW.seq fun Y6 hY6 => ?_
    refine TW.block ?_
    refine TW.seq fun Y7 hY7 => ?_
    refine TW.region ?_
    refine TL.p Pu.mv ?_
    refine TL.p Pu.as ?_
    refine TL.nil ?_
    refine TQ.thenN (hY7 _ _ ?_)
    refine TW.seq fun Y8 hY8 => ?_
    refine TW.region ?_
    refine TL.p Pu.mv ?_
    refine TL.p Pu.mv ?_
    refine TL.p Pu.mv ?_
    refine TL.p (Pu.el ty_et24) ?_
    refine TL.p (Pu.ld ty_sc3) ?_
    refine TL.p Pu.eq ?_
    refine TL.nil ?_
    refine TQ.thenN (hY8 _ _ ?_)
    refine TW.cond rfl (fun hc1 => ?_) (fun hc1 => ?_)
    · try simp only [decide_eq_true_eq, decide_eq_false_iff_not, Bool.not_eq_true', Bool.not_eq_false', Bool.and_eq_true, Bool.or_eq_true, Bool.and_eq_false_iff, Bool.or_eq_false_iff, Int.not_lt, Int.not_le] at hc1
      have hx : L.getD k 0 = x := hc1.symm
      refine TW.seq fun Y9 hY9 => ?_
      refine TW.region ?_
      refine TL.p Pu.mv ?_
      refine TL.p Pu.as ?_
      refine TL.nil ?_
      refine TQ.thenN (hY9 _ _ ?_)
      refine TW.ret ?_
      refine TQ.blkR ?_
      refine TQ.thenR ?_
      refine TQ.thenR ?_
      refine TQ.blkR ?_
      refine TQ.thenR ?_
      refine TQ.ret Tryz.results127 rfl ((.tmp rfl .nil)) ?_
      exact fun w hw => ⟨_, Ret.of hw, by rw [List.contains_iff_mem.2 (hx ▸ mem_getD hkn)]; simp⟩
    · try simp only [decide_eq_true_eq, decide_eq_false_iff_not, Bool.not_eq_true', Bool.not_eq_false', Bool.and_eq_true, Bool.or_eq_true, Bool.and_eq_false_iff, Bool.or_eq_false_iff, Int.not_lt, Int.not_le] at hc1
      have hx : L.getD k 0 ≠ x := fun h => hc1 h.symm
      refine TW.skip ?_
      refine TQ.blkN ?_
      refine TQ.thenN (hY6 _ _ ?_)
      refine TW.region ?_
      refine TL.p Pu.ad ?_
      refine TL.p Pu.mv ?_
      refine TL.nil ?_
      refine TQ.thenN (hZ0 (k + 1) _ _ ?_ ?_ (by repeat (first | exact trivial | refine ⟨rfl, ?_⟩ | refine ⟨trivial, ?_⟩)) ?_)
      · refine ⟨by omega, fun j hj => ?_⟩
        by_cases h : j = k
        · subst h; exact hx
        · exact hall j (by omega)
      · exact (by first | omega | (simp only []; omega) | (simp; omega))
      · exact (by repeat (first | exact KSub.nil | refine KSub.cons (by repeat (first | exact Pick.hd | apply Pick.tl)) ?_))
  · try simp only [decide_eq_true_eq, decide_eq_false_iff_not, Bool.not_eq_true', Bool.not_eq_false', Bool.and_eq_true, Bool.or_eq_true, Bool.and_eq_false_iff, Bool.or_eq_false_iff, Int.not_lt, Int.not_le] at hc0
    have hkn : k = L.length := by omega
    refine TW.exit ?_
    refine TQ.thenX ?_
    refine TQ.thenX ?_
    refine TQ.blkX ?_
    refine TQ.thenN (hY2 _ _ ?_)
    refine TW.seq fun Y10 hY10 => ?_
    refine TW.region ?_
    refine TL.p Pu.as ?_
    refine TL.nil ?_
    refine TQ.thenN (hY10 _ _ ?_)
    refine TW.ret ?_
    refine TQ.ret Tryz.results127 rfl ((.tmp rfl .nil)) ?_
    exact fun w hw => ⟨_, Ret.of hw, by
      have : L.contains x = false := by
        rw [Bool.eq_false_iff]
        intro h
        obtain ⟨j, hj, e⟩ := List.getElem_of_mem (List.contains_iff_mem.1 h)
        exact hall j (by omega) (by simp [List.getD_eq_getElem?_getD, hj, e])
      rw [this]
      rfl⟩
theorem CallsK.some {P : Program} {f : FuncId} {args : Array Value} {w : World} {X : Type} {v : X → Value} (h : Calls P f args w fun e w' => ∃ x, Ret w (v x) e w') : CallsK P f args [] w X v (fun _ => []) := h.mono fun e w' ⟨x, h1, h2⟩ => ⟨x, h1, Sat.nil (Chg.of_ext h2)⟩
theorem hasI_any {w : World} {A : Option Addr} {n cp : Nat} {L : List Int} (x : Int) (hn : n = L.length) (h1 : n ≤ 1000000) (hR : RdR w 1 A n (iL L)) :
    Calls Tryz.prog 91 #[.slice A n cp, .int .i64 x] w (Ret w (.bool (L.contains x))) := by
  refine K_enter (S := []) (K := []) Tryz.func91 rfl Tryz.ntmps91 rfl (Sat.start _) ?_
  refine TW.seq fun Y1 hY1 => ?_
  refine TW.region ?_
  refine TL.p Pu.as ?_
  refine TL.nil ?_
  refine TQ.thenN (hY1 _ _ ?_)
  refine TW.seq fun Y2 hY2 => ?_
  refine TW.region ?_
  refine TL.p Pu.mv ?_
  refine TL.p Pu.mv ?_
  refine TL.call (M := []) rfl (enters Tryz.func127 rfl rfl) (List.Perm.refl _) rfl (fun w hw => by
      exact CallsK.some (X := { k : Int // decide (0 ≤ k) = L.contains x }) (v := fun k => .int .i64 k.1) ((indexI_any x hn h1 (hR.sat hw Apart.nil)).mono fun e w' ⟨k, h2, h3⟩ => ⟨⟨k, h3⟩, h2⟩)) ?_
  rintro ⟨k, hk⟩
  refine TL.p Pu.ge ?_
  refine TL.p Pu.as ?_
  refine TL.nil ?_
  refine TQ.thenN (hY2 _ _ ?_)
  refine TW.ret ?_
  refine TQ.ret Tryz.results91 rfl ((.tmp rfl .nil)) ?_
  exact fun w hw => ⟨ret_bool hk.symm, Chg.ext hw.chg⟩
theorem isNaN_any (a : Int) (w : World) : Calls Tryz.prog 155 #[.int .i64 a] w (Ret w (.bool false)) := by
  refine K_enter (S := []) (K := []) Tryz.func155 rfl Tryz.ntmps155 rfl (Sat.start _) ?_
  refine TW.seq fun Y1 hY1 => ?_
  refine TW.region ?_
  refine TL.p Pu.as ?_
  refine TL.nil ?_
  refine TQ.thenN (hY1 _ _ ?_)
  refine TW.seq fun Y2 hY2 => ?_
  refine TW.region ?_
  refine TL.p Pu.mv ?_
  refine TL.p Pu.mv ?_
  refine TL.p Pu.ne ?_
  refine TL.p Pu.as ?_
  refine TL.nil ?_
  refine TQ.thenN (hY2 _ _ ?_)
  refine TW.ret ?_
  refine TQ.ret Tryz.results155 rfl ((.tmp rfl .nil)) ?_
  exact fun w hw => ⟨ret_bool (by simp), Chg.ext hw.chg⟩
theorem compare_any (a b : Int) (w : World) : Calls Tryz.prog 132 #[.int .i64 a, .int .i64 b] w (Ret w (.int .i64 (cmpV a b))) := by
  refine K_enter (S := []) (K := []) Tryz.func132 rfl Tryz.ntmps132 rfl (Sat.start _) ?_
  refine TW.seq fun Y1 hY1 => ?_
  refine TW.region ?_
  refine TL.p Pu.as ?_
  refine TL.nil ?_
  refine TQ.thenN (hY1 _ _ ?_)
  refine TW.seq fun Y2 hY2 => ?_
  refine TW.region ?_
  refine TL.p Pu.mv ?_
  refine TL.cr rfl (enters Tryz.func155 rfl rfl) (fun w hw => by
      exact isNaN_any _ _) ?_
  refine TL.p Pu.as ?_
  refine TL.nil ?_
  refine TQ.thenN (hY2 _ _ ?_)
  refine TW.seq fun Y3 hY3 => ?_
  refine TW.region ?_
  refine TL.p Pu.mv ?_
  refine TL.cr rfl (enters Tryz.func155 rfl rfl) (fun w hw => by
      exact isNaN_any _ _) ?_
  refine TL.p Pu.as ?_
  refine TL.nil ?_
  refine TQ.thenN (hY3 _ _ ?_)
  refine TW.seq fun Y4 hY4 => ?_
  refine TW.seq fun Y5 hY5 => ?_
  refine TW.region ?_
  refine TL.p Pu.mv ?_
  refine TL.nil ?_
  refine TQ.thenN (hY5 _ _ ?_)
  refine TW.condF rfl rfl ?_
  refine TW.skip ?_
  refine TQ.thenN (hY4 _ _ ?_)
  refine TW.seq fun Y6 hY6 => ?_
  refine TW.seq fun Y7 hY7 => ?_
  refine TW.region ?_
  refine TL.p Pu.mv ?_
  refine TL.nil ?_
  refine TQ.thenN (hY7 _ _ ?_)
  refine TW.condF rfl rfl ?_
  refine TW.skip ?_
  refine TQ.thenN (hY6 _ _ ?_)
  refine TW.seq fun Y8 hY8 => ?_
  refine TW.seq fun Y9 hY9 => ?_
  refine TW.region ?_
  refine TL.p Pu.mv ?_
  refine TL.p Pu.mv ?_
  refine TL.p Pu.lt ?_
  refine TL.nil ?_
  refine TQ.thenN (hY9 _ _ ?_)
  refine TW.cond rfl (fun hc3 => ?_) (fun hc3 => ?_)
  · try simp only [decide_eq_true_eq, decide_eq_false_iff_not, Bool.not_eq_true', Bool.not_eq_false', Bool.and_eq_true, Bool.or_eq_true, Bool.and_eq_false_iff, Bool.or_eq_false_iff, Int.not_lt, Int.not_le] at hc3
    have h1 : a < b := by omega
    refine TW.seq fun Y10 hY10 => ?_
    refine TW.region ?_
    refine TL.p Pu.as ?_
    refine TL.nil ?_
    refine TQ.thenN (hY10 _ _ ?_)
    refine TW.ret ?_
    refine TQ.thenR ?_
    refine TQ.ret Tryz.results132 rfl ((.tmp rfl .nil)) ?_
    exact fun w hw => ⟨ret_int (by unfold cmpV; rw [if_pos h1]), Chg.ext hw.chg⟩
  · try simp only [decide_eq_true_eq, decide_eq_false_iff_not, Bool.not_eq_true', Bool.not_eq_false', Bool.and_eq_true, Bool.or_eq_true, Bool.and_eq_false_iff, Bool.or_eq_false_iff, Int.not_lt, Int.not_le] at hc3
    have h1 : ¬ a < b := by omega
    refine TW.skip ?_
    refine TQ.thenN (hY8 _ _ ?_)
    refine TW.seq fun Y11 hY11 => ?_
    refine TW.seq fun Y12 hY12 => ?_
    refine TW.region ?_
    refine TL.p Pu.mv ?_
    refine TL.p Pu.mv ?_
    refine TL.p Pu.gt ?_
    refine TL.nil ?_
    refine TQ.thenN (hY12 _ _ ?_)
    refine TW.cond rfl (fun hc4 => ?_) (fun hc4 => ?_)
    · try simp only [decide_eq_true_eq, decide_eq_false_iff_not, Bool.not_eq_true', Bool.not_eq_false', Bool.and_eq_true, Bool.or_eq_true, Bool.and_eq_false_iff, Bool.or_eq_false_iff, Int.not_lt, Int.not_le] at hc4
      have h2 : b < a := by omega
      refine TW.seq fun Y13 hY13 => ?_
      refine TW.region ?_
      refine TL.p Pu.as ?_
      refine TL.nil ?_
      refine TQ.thenN (hY13 _ _ ?_)
      refine TW.ret ?_
      refine TQ.thenR ?_
      refine TQ.ret Tryz.results132 rfl ((.tmp rfl .nil)) ?_
      exact fun w hw => ⟨ret_int (by unfold cmpV; rw [if_neg h1, if_pos h2]), Chg.ext hw.chg⟩
    · try simp only [decide_eq_true_eq, decide_eq_false_iff_not, Bool.not_eq_true', Bool.not_eq_false', Bool.and_eq_true, Bool.or_eq_true, Bool.and_eq_false_iff, Bool.or_eq_false_iff, Int.not_lt, Int.not_le] at hc4
      have h2 : ¬ b < a := by omega
      refine TW.skip ?_
      refine TQ.thenN (hY11 _ _ ?_)
      refine TW.seq fun Y14 hY14 => ?_
      refine TW.region ?_
      refine TL.p Pu.as ?_
      refine TL.nil ?_
      refine TQ.thenN (hY14 _ _ ?_)
      refine TW.ret ?_
      refine TQ.ret Tryz.results132 rfl ((.tmp rfl .nil)) ?_
      exact fun w hw => ⟨ret_int (by unfold cmpV; rw [if_neg h1, if_neg h2]), Chg.ext hw.chg⟩
theorem drop_getD {L : List Int} {k : Nat} (h : k < L.length) : L.drop k = L.getD k 0 :: L.drop (k + 1) := by
  rw [List.drop_eq_getElem_cons h]
  simp [List.getD_eq_getElem?_getD, h]
theorem compareI_any {w : World} {A B : Option Addr} {n m cp cq : Nat} {L M : List Int} (hn : n = L.length) (hm : m = M.length) (h1 : n ≤ 1000000) (h2 : m ≤ 1000000) (hR : RdR w 1 A n (iL L)) (hS : RdR w 1 B m (iL M)) :
    Calls Tryz.prog 96 #[.slice A n cp, .slice B m cq] w (Ret w (.int .i64 (cmpI L M))) := by
  subst hn hm
  refine K_enter (S := []) (K := []) Tryz.func96 rfl Tryz.ntmps96 rfl (Sat.start _) ?_
  refine TW.seq fun Y1 hY1 => ?_
  refine TW.region ?_
  refine TL.p Pu.as ?_
  refine TL.nil ?_
  refine TQ.thenN (hY1 _ _ ?_)
  refine TW.seq fun Y2 hY2 => ?_
  refine TW.seq fun Y3 hY3 => ?_
  refine TW.region ?_
  refine TL.p Pu.mv ?_
  refine TL.p (Pu.ln Tryz.underlying24) ?_
  refine TL.p Pu.mv ?_
  refine TL.nil ?_
  refine TQ.thenN (hY3 _ _ ?_)
  refine TW.block ?_
  refine TW.loop1 (fun (k : Nat) => [(11, .int .i64 (k : Int)), (10, .int .i64 (L.length : Int)), (9, .slice A L.length cp), (0, .slice A L.length cp), (1, .slice B M.length cq)]) (fun k => []) (fun k => k ≤ L.length ∧ k ≤ M.length ∧ cmpI L M = cmpI (L.drop k) (M.drop k)) (fun k => L.length - k) 0 (by repeat (first | exact trivial | refine ⟨rfl, ?_⟩ | refine ⟨trivial, ?_⟩)) ?_ ?_ ?_
  · exact (by repeat (first | exact KSub.nil | refine KSub.cons (by repeat (first | exact Pick.hd | apply Pick.tl)) ?_))
  · exact ⟨Nat.zero_le _, Nat.zero_le _, rfl⟩
  rintro k ⟨hk, hkm, he⟩ Z0 hZ0
  refine TW.seq fun Y4 hY4 => ?_
  refine TW.region ?_
  refine TL.p Pu.lt ?_
  refine TL.nil ?_
  refine TQ.thenN (hY4 _ _ ?_)
  refine TW.seq fun Y5 hY5 => ?_
  refine TW.cond rfl (fun hc0 => ?_) (fun hc0 => ?_)
  · try simp only [decide_eq_true_eq, decide_eq_false_iff_not, Bool.not_eq_true', Bool.not_eq_false', Bool.and_eq_true, Bool.or_eq_true, Bool.and_eq_false_iff, Bool.or_eq_false_iff, Int.not_lt, Int.not_le] at hc0
    have hkn : k < L.length := by omega
    have dL := drop_getD hkn
    refine TW.skip ?_
    refine TQ.thenN (hY5 _ _ ?_)
    refine TW.seq fun Y6 hY6 => ?_
    refine TW.block ?_
    refine TW.seq fun Y7 hY7 => ?_
    refine TW.region ?_
    refine TL.p Pu.mv ?_
    refine TL.p (Pu.el ty_et24) ?_
    refine TL.p (Pu.ld ty_sc3) ?_
    refine TL.p Pu.as ?_
    refine TL.p Pu.as ?_
    refine TL.nil ?_
    refine TQ.thenN (hY7 _ _ ?_)
    refine TW.seq fun Y8 hY8 => ?_
    refine TW.seq fun Y9 hY9 => ?_
    refine TW.region ?_
    refine TL.p Pu.mv ?_
    refine TL.p Pu.mv ?_
    refine TL.p (Pu.ln Tryz.underlying24) ?_
    refine TL.p Pu.ge ?_
    refine TL.nil ?_
    refine TQ.thenN (hY9 _ _ ?_)
    refine TW.cond rfl (fun hc1 => ?_) (fun hc1 => ?_)
    · try simp only [decide_eq_true_eq, decide_eq_false_iff_not, Bool.not_eq_true', Bool.not_eq_false', Bool.and_eq_true, Bool.or_eq_true, Bool.and_eq_false_iff, Bool.or_eq_false_iff, Int.not_lt, Int.not_le] at hc1
      have dM : M.drop k = [] := List.drop_eq_nil_of_le (by omega)
      refine TW.seq fun Y10 hY10 => ?_
      refine TW.region ?_
      refine TL.p Pu.as ?_
      refine TL.nil ?_
      refine TQ.thenN (hY10 _ _ ?_)
      refine TW.ret ?_
      refine TQ.thenR ?_
      refine TQ.blkR ?_
      refine TQ.thenR ?_
      refine TQ.thenR ?_
      refine TQ.blkR ?_
      refine TQ.thenR ?_
      refine TQ.ret Tryz.results96 rfl ((.tmp rfl .nil)) ?_
      exact fun w hw => ⟨ret_int (by rw [he, dL, dM]; rfl), Chg.ext hw.chg⟩
    · try simp only [decide_eq_true_eq, decide_eq_false_iff_not, Bool.not_eq_true', Bool.not_eq_false', Bool.and_eq_true, Bool.or_eq_true, Bool.and_eq_false_iff, Bool.or_eq_false_iff, Int.not_lt, Int.not_le] at hc1
      have hkm2 : k < M.length := by omega
      have dM := drop_getD hkm2
      refine TW.skip ?_
      refine TQ.thenN (hY8 _ _ ?_)
      refine TW.seq fun Y11 hY11 => ?_
      refine TW.region ?_
      refine TL.p Pu.mv ?_
      refine TL.p Pu.mv ?_
      refine TL.p (Pu.el ty_et24) ?_
      refine TL.p (Pu.ld ty_sc3) ?_
      refine TL.p Pu.as ?_
      refine TL.nil ?_
      refine TQ.thenN (hY11 _ _ ?_)
      refine TW.seq fun Y12 hY12 => ?_
      refine TW.region ?_
      refine TL.p Pu.mv ?_
      refine TL.p Pu.mv ?_
      refine TL.cr rfl (enters Tryz.func132 rfl rfl) (fun w hw => by
          exact compare_any _ _ _) ?_
      refine TL.p Pu.as ?_
      refine TL.nil ?_
      refine TQ.thenN (hY12 _ _ ?_)
      refine TW.seq fun Y13 hY13 => ?_
      refine TW.region ?_
      refine TL.p Pu.mv ?_
      refine TL.p Pu.ne ?_
      refine TL.nil ?_
      refine TQ.thenN (hY13 _ _ ?_)
      refine TW.cond rfl (fun hc2 => ?_) (fun hc2 => ?_)
      · try simp only [decide_eq_true_eq, decide_eq_false_iff_not, Bool.not_eq_true', Bool.not_eq_false', Bool.and_eq_true, Bool.or_eq_true, Bool.and_eq_false_iff, Bool.or_eq_false_iff, Int.not_lt, Int.not_le] at hc2
        have hv : cmpV (L.getD k 0) (M.getD k 0) ≠ 0 := by simpa using hc2
        refine TW.seq fun Y14 hY14 => ?_
        refine TW.region ?_
        refine TL.p Pu.mv ?_
        refine TL.p Pu.as ?_
        refine TL.nil ?_
        refine TQ.thenN (hY14 _ _ ?_)
        refine TW.ret ?_
        refine TQ.blkR ?_
        refine TQ.thenR ?_
        refine TQ.thenR ?_
        refine TQ.blkR ?_
        refine TQ.thenR ?_
        refine TQ.ret Tryz.results96 rfl ((.tmp rfl .nil)) ?_
        exact fun w hw => ⟨ret_int (by rw [he, dL, dM]; simp only [cmpI, if_neg hv]), Chg.ext hw.chg⟩
      · try simp only [decide_eq_true_eq, decide_eq_false_iff_not, Bool.not_eq_true', Bool.not_eq_false', Bool.and_eq_true, Bool.or_eq_true, Bool.and_eq_false_iff, Bool.or_eq_false_iff, Int.not_lt, Int.not_le] at hc2
        have hv : cmpV (L.getD k 0) (M.getD k 0) = 0 := by simpa using hc2
        refine TW.skip ?_
        refine TQ.blkN ?_
        refine TQ.thenN (hY6 _ _ ?_)
        refine TW.region ?_
        refine TL.p Pu.ad ?_
        refine TL.p Pu.mv ?_
        refine TL.nil ?_
        refine TQ.thenN (hZ0 (k + 1) _ _ ?_ ?_ (by repeat (first | exact trivial | refine ⟨rfl, ?_⟩ | refine ⟨trivial, ?_⟩)) ?_)
        · exact ⟨by omega, by omega, by rw [he, dL, dM]; simp only [cmpI, if_pos hv]⟩
        · exact (by first | omega | (simp only []; omega) | (simp; omega))
        · exact (by repeat (first | exact KSub.nil | refine KSub.cons (by repeat (first | exact Pick.hd | apply Pick.tl)) ?_))
  · try simp only [decide_eq_true_eq, decide_eq_false_iff_not, Bool.not_eq_true', Bool.not_eq_false', Bool.and_eq_true, Bool.or_eq_true, Bool.and_eq_false_iff, Bool.or_eq_false_iff, Int.not_lt, Int.not_le] at hc0
    have hkn : k = L.length := by omega
    refine TW.exit ?_
    refine TQ.thenX ?_
    refine TQ.thenX ?_
    refine TQ.blkX ?_
    refine TQ.thenN (hY2 _ _ ?_)
    refine TW.seq fun Y15 hY15 => ?_
    refine TW.seq fun Y16 hY16 => ?_
    refine TW.region ?_
    refine TL.p Pu.mv ?_
    refine TL.p (Pu.ln Tryz.underlying24) ?_
    refine TL.p Pu.mv ?_
    refine TL.p (Pu.ln Tryz.underlying24) ?_
    refine TL.p Pu.lt ?_
    refine TL.nil ?_
    refine TQ.thenN (hY16 _ _ ?_)
    refine TW.cond rfl (fun hc3 => ?_) (fun hc3 => ?_)
    · try simp only [decide_eq_true_eq, decide_eq_false_iff_not, Bool.not_eq_true', Bool.not_eq_false', Bool.and_eq_true, Bool.or_eq_true, Bool.and_eq_false_iff, Bool.or_eq_false_iff, Int.not_lt, Int.not_le] at hc3
      have hlt : L.length < M.length := by omega
      refine TW.seq fun Y17 hY17 => ?_
      refine TW.region ?_
      refine TL.p Pu.as ?_
      refine TL.nil ?_
      refine TQ.thenN (hY17 _ _ ?_)
      refine TW.ret ?_
      refine TQ.thenR ?_
      refine TQ.ret Tryz.results96 rfl ((.tmp rfl .nil)) ?_
      exact fun w hw => ⟨ret_int (by rw [he, List.drop_eq_nil_of_le (by omega : L.length ≤ k), drop_getD (L := M) (by omega)]; rfl), Chg.ext hw.chg⟩
    · try simp only [decide_eq_true_eq, decide_eq_false_iff_not, Bool.not_eq_true', Bool.not_eq_false', Bool.and_eq_true, Bool.or_eq_true, Bool.and_eq_false_iff, Bool.or_eq_false_iff, Int.not_lt, Int.not_le] at hc3
      have hlt : ¬ L.length < M.length := by omega
      refine TW.skip ?_
      refine TQ.thenN (hY15 _ _ ?_)
      refine TW.seq fun Y18 hY18 => ?_
      refine TW.region ?_
      refine TL.p Pu.as ?_
      refine TL.nil ?_
      refine TQ.thenN (hY18 _ _ ?_)
      refine TW.ret ?_
      refine TQ.ret Tryz.results96 rfl ((.tmp rfl .nil)) ?_
      exact fun w hw => ⟨ret_int (by rw [he, List.drop_eq_nil_of_le (by omega : L.length ≤ k), List.drop_eq_nil_of_le (by omega : M.length ≤ k)]; rfl), Chg.ext hw.chg⟩
end Go.Proofs.YtjephihlkjpohaaGreatDoor
namespace Go.Proofs.YtjephihlkjpohaaGreatDoor
set_option linter.all false
set_option linter.unusedVariables false
set_option linter.unusedSimpArgs false
open Go.RowKit
theorem Chg.mono {S T : List Nat} {w w' : World} (h : Chg S w w') (hS : ∀ b ∈ S, b ∈ T) : Chg T w w' := ⟨h.os, h.tape, h.output, h.size, fun k hk hT => h.block k hk fun hm => hT (hS k hm)⟩
theorem filter_take {L : List Int} {p : Int → Bool} {k : Nat} (h : k < L.length) : (L.take (k + 1)).filter p = if p (L.getD k 0) = true then (L.take k).filter p ++ [L.getD k 0] else (L.take k).filter p := by
  rw [take_succ h, List.filter_append]
  by_cases hp : p (L.getD k 0) = true
  · rw [if_pos hp]; simp only [List.filter_cons, hp, if_true, List.filter_nil]
  · rw [if_neg hp]; simp only [List.filter_cons, hp, Bool.false_eq_true, if_false, List.filter_nil, List.append_nil]
theorem filter_all {L : List Int} {p : Int → Bool} : ∀ k, k ≤ L.length → (∀ j, j < k → p (L.getD j 0) = true) → (L.take k).filter p = L.take k
  | 0, _, _ => by simp
  | k + 1, h, hp => by rw [filter_take (by omega), if_pos (hp k (by omega)), filter_all k (by omega) fun j hj => hp j (by omega), ← take_succ (by omega)]
set_option maxRecDepth 100000 in
theorem deleteI_any {w : World} {A : Option Addr} {n cp : Nat} {L : List Int} {g : FuncId} {fs cs : List Value} {p : Int → Bool} (hn : n = L.length) (h1 : n ≤ 1000000) (hen : Enters Tryz.prog g) (h : OwnR w A n cp 3 1 (iL L))
    (hg : ∀ (x : Int) (w' : World), Chg (feet [.own A n cp 3 1 (iL L)]) w w' → Calls Tryz.prog g (fs ++ [Value.int .i64 x] ++ cs).toArray w' (Ret w' (.bool (p x)))) :
    CallsK Tryz.prog 89 #[.slice A n cp, .func (.func g) fs.toArray cs.toArray] [.own A n cp 3 1 (iL L)] w Unit (fun _ => .slice A (L.filter fun x => !p x).length cp) (fun _ => [.own A (L.filter fun x => !p x).length cp 3 1 (iL (L.filter fun x => !p x))]) := by
  subst hn
  have hcp : L.length ≤ cp := by
    obtain ⟨A', c', e, h2, _⟩ := h.own.form
    cases e
    exact h2
  refine K_enter (S := feet [.own A L.length cp 3 1 (iL L)]) (K := [.own A L.length cp 3 1 (iL L)]) Tryz.func89 rfl Tryz.ntmps89 rfl (Sat.own1 h) ?_
  refine TW.seq fun Y1 hY1 => ?_
  refine TW.region ?_
  refine TL.p Pu.as ?_
  refine TL.nil ?_
  refine TQ.thenN (hY1 _ _ ?_)
  refine TW.seq fun Y2 hY2 => ?_
  refine TW.region ?_
  refine TL.p Pu.mv ?_
  refine TL.p Pu.mv ?_
  refine TL.call (M := []) rfl (enters Tryz.func126 rfl rfl) (List.Perm.refl _) rfl (fun w hw => by
      exact indexInt_any (M := fun _ => []) (p := fun k => p (L.getD k 0)) hen (by omega) (OwnR.rdr (hw.holds (.own A L.length cp 3 1 (iL L)) (by simp))) (fun _ => Apart.nil) (Sat.start _) (fun _ => rfl) (fun k hk _ w' hw' => CallsK.ret (hg _ _ (hw.chg.trans (Chg.mono hw'.chg (fun b hb => by cases hb)))))) ?_
  rintro ⟨k, hk, hno, hyes⟩
  refine TL.p Pu.as ?_
  refine TL.nil ?_
  refine TQ.thenN (hY2 _ _ ?_)
  refine TW.seq fun Y3 hY3 => ?_
  refine TW.seq fun Y4 hY4 => ?_
  refine TW.region ?_
  refine TL.p Pu.mv ?_
  refine TL.p Pu.eq ?_
  refine TL.nil ?_
  refine TQ.thenN (hY4 _ _ ?_)
  refine TW.cond rfl (fun hc0 => ?_) (fun hc0 => ?_)
  · try simp only [decide_eq_true_eq, decide_eq_false_iff_not, Bool.not_eq_true', Bool.not_eq_false', Bool.and_eq_true, Bool.or_eq_true, Bool.and_eq_false_iff, Bool.or_eq_false_iff, Int.not_lt, Int.not_le] at hc0
    have hkn : k = L.length := by
      by_cases h9 : k < L.length
      · rw [if_pos h9] at hc0; omega
      · omega
    have hall : L.filter (fun x => !p x) = L := by
      have := filter_all (L := L) (p := fun x => !p x) L.length (Nat.le_refl _) (fun j hj => by have h9 : p (L.getD j 0) = false := hno j (by omega); rw [h9]; rfl)
      rwa [List.take_length] at this
    refine TW.seq fun Y5 hY5 => ?_
    refine TW.region ?_
    refine TL.p Pu.mv ?_
    refine TL.p Pu.as ?_
    refine TL.nil ?_
    refine TQ.thenN (hY5 _ _ ?_)
    refine TW.ret ?_
    refine TQ.thenR ?_
    refine TQ.ret Tryz.results89 rfl ((.tmp rfl .nil)) ?_
    exact fun w hw => ⟨(), by rw [hall]; rfl, by rw [hall]; exact hw.sub (by repeat (first | exact KSub.nil | refine KSub.cons (by repeat (first | exact Pick.hd | apply Pick.tl)) ?_))⟩
  · try simp only [decide_eq_true_eq, decide_eq_false_iff_not, Bool.not_eq_true', Bool.not_eq_false', Bool.and_eq_true, Bool.or_eq_true, Bool.and_eq_false_iff, Bool.or_eq_false_iff, Int.not_lt, Int.not_le] at hc0
    have hkn : k < L.length := by
      by_cases h9 : k < L.length
      · exact h9
      · rw [if_neg h9] at hc0; omega
    have hpk : p (L.getD k 0) = true := hyes hkn
    have hpre : (L.take (k + 1)).filter (fun x => !p x) = L.take k := by
      rw [filter_take hkn, if_neg (by rw [hpk]; decide)]
      exact filter_all k (by omega) fun j hj => by have h9 : p (L.getD j 0) = false := hno j hj; rw [h9]; rfl
    refine TW.skip ?_
    refine TQ.thenN (hY3 _ _ ?_)
    refine TW.seq fun Y6 hY6 => ?_
    refine TW.seq fun Y7 hY7 => ?_
    refine TW.region ?_
    refine TL.p Pu.mv ?_
    refine TL.p Pu.ad ?_
    refine TL.p Pu.as ?_
    refine TL.nil ?_
    refine TQ.thenN (hY7 _ _ ?_)
    refine TW.block ?_
    refine TW.loop3 (fun (j : Nat) (i : Nat) (u : Nat → Int) => [(6, .int .i64 (j : Int)), (5, .int .i64 (i : Int)), (0, .slice A L.length cp), (1, .func (.func g) fs.toArray cs.toArray)]) (fun j i u => [.own A L.length cp 3 1 (fun q => [.int .i64 (u q)])]) (fun j i u => j ≤ L.length ∧ i < j ∧ i = ((L.take j).filter fun x => !p x).length ∧ (∀ q, q < i → u q = ((L.take j).filter fun x => !p x).getD q 0) ∧ ∀ q, j ≤ q → q < L.length → u q = L.getD q 0) (fun j i u => L.length - j) (k + 1) k (fun q => L.getD q 0) (by refine ⟨congrArg (fun z => some (Value.int .i64 z)) (by rw [if_pos hkn]; exact (Int.natCast_succ k).symm), ⟨congrArg (fun z => some (Value.int .i64 z)) (by rw [if_pos hkn]), ?_⟩⟩; repeat (first | exact trivial | refine ⟨rfl, ?_⟩ | refine ⟨trivial, ?_⟩)) ?_ ?_ ?_
    · exact (by repeat (first | exact KSub.nil | refine KSub.cons (by repeat (first | exact Pick.hd | apply Pick.tl)) ?_))
    · exact ⟨by omega, by omega, by rw [hpre, List.length_take]; omega, fun q hq => by rw [hpre]; simp [List.getD_eq_getElem?_getD, hq], fun q _ _ => rfl⟩
    rintro j i u ⟨hj, hij, hi, hu1, hu2⟩ Z0 hZ0
    refine TW.seq fun Y8 hY8 => ?_
    refine TW.seq fun Y9 hY9 => ?_
    refine TW.region ?_
    refine TL.p Pu.mv ?_
    refine TL.p Pu.mv ?_
    refine TL.p (Pu.ln Tryz.underlying24) ?_
    refine TL.p Pu.lt ?_
    refine TL.nil ?_
    refine TQ.thenN (hY9 _ _ ?_)
    refine TW.cond rfl (fun hc1 => ?_) (fun hc1 => ?_)
    · try simp only [decide_eq_true_eq, decide_eq_false_iff_not, Bool.not_eq_true', Bool.not_eq_false', Bool.and_eq_true, Bool.or_eq_true, Bool.and_eq_false_iff, Bool.or_eq_false_iff, Int.not_lt, Int.not_le] at hc1
      have hjn : j < L.length := by omega
      have huj := hu2 j (Nat.le_refl _) hjn
      have hft : (L.take (j + 1)).filter (fun x => !p x) = if (!p (L.getD j 0)) = true then (L.take j).filter (fun x => !p x) ++ [L.getD j 0] else (L.take j).filter (fun x => !p x) := filter_take hjn
      refine TW.skip ?_
      refine TQ.thenN (hY8 _ _ ?_)
      refine TW.seq fun Y10 hY10 => ?_
      refine TW.block ?_
      refine TW.seq fun Y11 hY11 => ?_
      refine TW.region ?_
      refine TL.p Pu.mv ?_
      refine TL.p Pu.mv ?_
      refine TL.p (Pu.el ty_et24) ?_
      refine TL.p (Pu.ld ty_sc3) ?_
      refine TL.p Pu.as ?_
      refine TL.nil ?_
      refine TQ.thenN (hY11 _ _ ?_)
      refine TW.seq fun Y12 hY12 => ?_
      refine TW.region ?_
      refine TL.p Pu.mv ?_
      refine TL.p Pu.mv ?_
      refine TL.cv rfl rfl hen (fun w hw => by
          exact hg _ _ hw.chg) ?_
      refine TL.p Pu.no ?_
      refine TL.nil ?_
      refine TQ.thenN (hY12 _ _ ?_)
      refine TW.cond rfl (fun hc2 => ?_) (fun hc2 => ?_)
      · try simp only [decide_eq_true_eq, decide_eq_false_iff_not, Bool.not_eq_true', Bool.not_eq_false', Bool.and_eq_true, Bool.or_eq_true, Bool.and_eq_false_iff, Bool.or_eq_false_iff, Int.not_lt, Int.not_le] at hc2
        have hp : p (L.getD j 0) = false := huj ▸ hc2
        simp only [hp, Bool.not_false, if_true] at hft
        obtain ⟨i', hi'⟩ : ∃ y : Nat, y = i + 1 := ⟨_, rfl⟩
        obtain ⟨u', hu'⟩ : ∃ y : Nat → Int, y = fun q => if q = i then u j else u q := ⟨_, rfl⟩
        have s1 : i' = ((L.take (j + 1)).filter fun x => !p x).length := by rw [hft, List.length_append, ← hi, hi']; rfl
        have s2 : ∀ q, q < i' → u' q = ((L.take (j + 1)).filter fun x => !p x).getD q 0 := fun q hq => by
          rw [hft, getD_app, ← hi, hu']
          by_cases h9 : q = i
          · subst h9; simp [huj]
          · simp only [if_neg h9]; rw [if_pos (by omega)]; exact hu1 q (by omega)
        have s3 : ∀ q, j + 1 ≤ q → q < L.length → u' q = L.getD q 0 := fun q h7 h8 => by
          rw [hu']; simp only []; rw [if_neg (by omega)]; exact hu2 q (by omega) h8
        refine TW.seq fun Y13 hY13 => ?_
        refine TW.region ?_
        refine TL.p Pu.mv ?_
        refine TL.p Pu.mv ?_
        refine TL.p Pu.mv ?_
        refine TL.p (Pu.el ty_et24) ?_
        first | refine TL.st ty_sz3 ?_ | refine TL.se ty_sz3 ?_
        refine TL.nil ?_
        refine TQ.thenN (hY13 _ _ ?_)
        refine TW.region ?_
        refine TL.p Pu.mv ?_
        refine TL.p Pu.ad ?_
        refine TL.p Pu.as ?_
        refine TL.nil ?_
        refine TQ.blkN ?_
        refine TQ.thenN (hY10 _ _ ?_)
        refine TW.region ?_
        refine TL.p Pu.mv ?_
        refine TL.p Pu.ad ?_
        refine TL.p Pu.as ?_
        refine TL.nil ?_
        refine TQ.thenN (hZ0 (j + 1) i' u' _ _ ?_ ?_ (by refine ⟨rfl, ⟨congrArg (fun z => some (Value.int .i64 z)) (by omega), ?_⟩⟩; repeat (first | exact trivial | refine ⟨rfl, ?_⟩ | refine ⟨trivial, ?_⟩)) ?_)
        · exact ⟨by omega, by omega, s1, s2, s3⟩
        · exact (by first | omega | (simp only []; omega) | (simp; omega))
        · refine KSub.own Pick.hd (fun q _ => ?_) KSub.nil
          subst hu'
          first
            | rfl
            | (simp only [updR]; by_cases h9 : q = i <;> simp [h9])
      · try simp only [decide_eq_true_eq, decide_eq_false_iff_not, Bool.not_eq_true', Bool.not_eq_false', Bool.and_eq_true, Bool.or_eq_true, Bool.and_eq_false_iff, Bool.or_eq_false_iff, Int.not_lt, Int.not_le] at hc2
        have hp : p (L.getD j 0) = true := huj ▸ hc2
        simp only [hp, Bool.not_true, Bool.false_eq_true, if_false] at hft
        obtain ⟨i', hi'⟩ : ∃ y : Nat, y = i := ⟨_, rfl⟩
        obtain ⟨u', hu'⟩ : ∃ y : Nat → Int, y = u := ⟨_, rfl⟩
        have s1 : i' = ((L.take (j + 1)).filter fun x => !p x).length := by rw [hft, ← hi, hi']
        have s2 : ∀ q, q < i' → u' q = ((L.take (j + 1)).filter fun x => !p x).getD q 0 := fun q hq => by rw [hft, hu']; exact hu1 q (by omega)
        have s3 : ∀ q, j + 1 ≤ q → q < L.length → u' q = L.getD q 0 := fun q h7 h8 => by rw [hu']; exact hu2 q (by omega) h8
        refine TW.skip ?_
        refine TQ.blkN ?_
        refine TQ.thenN (hY10 _ _ ?_)
        refine TW.region ?_
        refine TL.p Pu.mv ?_
        refine TL.p Pu.ad ?_
        refine TL.p Pu.as ?_
        refine TL.nil ?_
        refine TQ.thenN (hZ0 (j + 1) i' u' _ _ ?_ ?_ (by refine ⟨rfl, ⟨congrArg (fun z => some (Value.int .i64 z)) (by omega), ?_⟩⟩; repeat (first | exact trivial | refine ⟨rfl, ?_⟩ | refine ⟨trivial, ?_⟩)) ?_)
        · exact ⟨by omega, by omega, s1, s2, s3⟩
        · exact (by first | omega | (simp only []; omega) | (simp; omega))
        · refine KSub.own Pick.hd (fun q _ => ?_) KSub.nil
          subst hu'
          first
            | rfl
            | (simp only [updR]; by_cases h9 : q = i <;> simp [h9])
    · try simp only [decide_eq_true_eq, decide_eq_false_iff_not, Bool.not_eq_true', Bool.not_eq_false', Bool.and_eq_true, Bool.or_eq_true, Bool.and_eq_false_iff, Bool.or_eq_false_iff, Int.not_lt, Int.not_le] at hc1
      have hfin : (L.take j).filter (fun x => !p x) = L.filter fun x => !p x := by rw [show j = L.length by omega, List.take_length]
      rw [hfin] at hi hu1
      refine TW.exit ?_
      refine TQ.thenX ?_
      refine TQ.thenX ?_
      refine TQ.blkX ?_
      refine TQ.thenN (hY6 _ _ ?_)
      refine TW.seq fun Y14 hY14 => ?_
      refine TW.region ?_
      refine TL.p Pu.mv ?_
      refine TL.p Pu.mv ?_
      refine TL.p (Pu.sf ty_et24) ?_
      refine TL.clr (q := i) (z := .int .i64 0) ty_et24 Tryz.zeroValue3 rfl rfl ?_
      refine TL.nil ?_
      refine TQ.thenN (hY14 _ _ ?_)
      refine TW.seq fun Y15 hY15 => ?_
      refine TW.region ?_
      refine TL.p Pu.mv ?_
      refine TL.p Pu.mv ?_
      refine TL.p (Pu.sh ty_et24) ?_
      refine TL.take (m := i) Pick.hd (by omega) ?_
      refine TL.p Pu.as ?_
      refine TL.nil ?_
      refine TQ.thenN (hY15 _ _ ?_)
      refine TW.ret ?_
      refine TQ.ret Tryz.results89 rfl ((.tmp rfl .nil)) ?_
      exact fun w hw => ⟨(), by rw [← hi]; rfl, by
        rw [← hi]
        exact hw.sub (KSub.own Pick.hd (fun q hq => by rw [if_pos hq, hu1 q hq]; rfl) KSub.nil)⟩
end Go.Proofs.YtjephihlkjpohaaGreatDoor
namespace Go.Proofs.YtjephihlkjpohaaGreatDoor
set_option linter.all false
set_option linter.unusedVariables false
set_option linter.unusedSimpArgs false
open Go.RowKit
theorem OldB.chg {w w' : World} {S : List Nat} {b : Nat} {cs : List Value} (h : OldB w b cs) (hc : Chg S w w') (hb : b ∉ S) : OldB w' b cs := ⟨Nat.lt_of_lt_of_le h.1 hc.size, fun j v hv => by rw [hc.cell h.1 hb]; exact h.2 j v hv⟩
theorem RdR.chg0 {w w' : World} {S : List Nat} {sz n : Nat} {A : Option Addr} {r : Nat → List Value} (h : RdR w sz A n r) (hc : Chg S w w') (hA : 0 < n → Apart S A) : RdR w' sz A n r := ⟨fun hn => h.rd.chg hc (hA hn) hn, h.len⟩
theorem moved11_any {w : World} {bx m cm : Nat} {B : Option Addr} {M : List Int} (x : Int) (hm : m = M.length) (h1 : m ≤ 1000000) (hb : OldB w bx [.slice B m cm]) (hM : RdR w 1 B m (iL M)) :
    Calls Tryz.prog 98 #[.int .i64 x, .pointer (some ⟨bx, 0, none⟩)] w (Ret w (.bool (M.contains x))) := by
  refine K_enter (S := []) (K := []) Tryz.func98 rfl Tryz.ntmps98 rfl (Sat.start _) ?_
  refine TW.seq fun Y1 hY1 => ?_
  refine TW.region ?_
  refine TL.p Pu.as ?_
  refine TL.nil ?_
  refine TQ.thenN (hY1 _ _ ?_)
  refine TW.seq fun Y2 hY2 => ?_
  refine TW.region ?_
  refine TL.p (by first | exact (Pu.ld ty_sc24) | exact (Pu.ldo ty_sc24)) ?_
  refine TL.p Pu.mv ?_
  refine TL.cr rfl (enters Tryz.func91 rfl rfl) (fun w hw => by
      exact hasI_any x hm h1 (hM.sat hw Apart.nil)) ?_
  refine TL.p Pu.as ?_
  refine TL.nil ?_
  refine TQ.thenN (hY2 _ _ ?_)
  refine TW.ret ?_
  refine TQ.ret Tryz.results98 rfl ((.tmp rfl .nil)) ?_
  exact fun w hw => Ret.of hw
set_option maxRecDepth 100000 in
theorem moved1_any {W : World} {bx n n2 m cp cq cm : Nat} {A C B : Option Addr} {L L2 M : List Int} (hn : n = L.length) (hn2 : n2 = L2.length) (hm : m = M.length) (h1 : n ≤ 1000) (h2 : n2 ≤ 1000) (h3 : m ≤ 1000) (hL : RdR W 1 A n (iL L)) (hL2 : RdR W 1 C n2 (iL L2)) (hb : OldB W bx [.slice B m cm]) (hM : RdR W 1 B m (iL M)) :
    CallsK Tryz.prog 97 #[.slice A n cp, .slice C n2 cq, .pointer (some ⟨bx, 0, none⟩)] [] W (Option Addr × Nat) (fun x => .slice x.1 (mvd L L2 M).length x.2) (fun x => [.own x.1 (mvd L L2 M).length x.2 3 1 (iL (mvd L L2 M))]) := by
  refine K_enter (S := []) (K := []) Tryz.func97 rfl Tryz.ntmps97 rfl (Sat.start _) ?_
  refine TW.seq fun Y1 hY1 => ?_
  refine TW.region ?_
  refine TL.p Pu.as ?_
  refine TL.nil ?_
  refine TQ.thenN (hY1 _ _ ?_)
  refine TW.seq fun Y2 hY2 => ?_
  refine TW.region ?_
  refine TL.p Pu.mv ?_
  refine TL.call (M := []) rfl (enters Tryz.func80 rfl rfl) (List.Perm.refl _) rfl (fun w hw => by
      exact cloneI_any (v := fun k => L.getD k 0) (by omega) (hL.sat hw Apart.nil)) ?_
  rintro ⟨A1, c1⟩
  refine TL.p Pu.fn ?_
  refine TL.call rfl (enters Tryz.func89 rfl rfl) (List.Perm.refl _) rfl (fun w hw => by
      have hO : OwnR w A1 n c1 3 1 (iL L) := hw.holds (.own A1 n c1 3 1 (fun k => [.int .i64 (L.getD k 0)])) (List.mem_cons_self ..)
      have hge := hw.ge
      refine deleteI_any (fs := []) (cs := [.pointer (some ⟨bx, 0, none⟩)]) (p := fun x => M.contains x) hn (by omega) (enters Tryz.func98 rfl rfl) hO fun x w' hc => ?_
      have hap : ∀ b ∈ feet [Fact.own A1 n c1 3 1 (iL L)], W.heap.size ≤ b := fun b hb9 => by
        rcases hge b hb9 with h | h
        · cases h
        · exact h
      exact moved11_any x hm (by omega) ((hb.sat hw (by simp)).chg hc (fun h => by have := hap bx h; have := hb.1; omega)) ((hM.sat hw Apart.nil).chg0 hc (hM.apart hap))) ?_
  intro _
  refine TL.p Pu.as ?_
  refine TL.nil ?_
  refine TQ.thenN (hY2 _ _ ?_)
  refine TW.seq fun Y3 hY3 => ?_
  refine TW.seq fun Y4 hY4 => ?_
  refine TW.region ?_
  refine TL.p Pu.mv ?_
  refine TL.p (Pu.ln Tryz.underlying24) ?_
  refine TL.p Pu.mv ?_
  refine TL.nil ?_
  refine TQ.thenN (hY4 _ _ ?_)
  refine TW.block ?_
  refine TW.loop5 (fun (k : Nat) (A2 : Option Addr) (c2 : Nat) (T : List Int) (t : Nat) => [(15, .int .i64 (k : Int)), (14, .int .i64 (n2 : Int)), (13, .slice C n2 cq), (6, .slice A2 t c2), (2, .pointer (some ⟨bx, 0, none⟩))]) (fun k A2 c2 T t => [.own A2 t c2 3 1 (iL T)]) (fun k A2 c2 T t => k ≤ n2 ∧ t = T.length ∧ T = L.filter (fun x => !M.contains x) ++ (L2.take k).filter (fun x => M.contains x)) (fun k A2 c2 T t => n2 - k) 0 _ _ (L.filter fun x => !M.contains x) _ (by repeat (first | exact trivial | refine ⟨rfl, ?_⟩ | refine ⟨trivial, ?_⟩)) ?_ ?_ ?_
  · exact (by repeat (first | exact KSub.nil | refine KSub.cons (by repeat (first | exact Pick.hd | apply Pick.tl)) ?_))
  · exact ⟨Nat.zero_le _, rfl, by simp⟩
  rintro k A2 c2 T t ⟨hk, ht, hT⟩ Z0 hZ0
  have htl : t ≤ 2000 := by
    have h4 := List.length_filter_le (fun x => !M.contains x) L
    have h5 := List.length_filter_le (fun x => M.contains x) (L2.take k)
    rw [ht, hT, List.length_append]
    rw [List.length_take] at h5
    omega
  refine TW.seq fun Y5 hY5 => ?_
  refine TW.region ?_
  refine TL.p Pu.lt ?_
  refine TL.nil ?_
  refine TQ.thenN (hY5 _ _ ?_)
  refine TW.seq fun Y6 hY6 => ?_
  refine TW.cond rfl (fun hc0 => ?_) (fun hc0 => ?_)
  · try simp only [decide_eq_true_eq, decide_eq_false_iff_not, Bool.not_eq_true', Bool.not_eq_false', Bool.and_eq_true, Bool.or_eq_true, Bool.and_eq_false_iff, Bool.or_eq_false_iff, Int.not_lt, Int.not_le] at hc0
    have hkn : k < n2 := by omega
    have hft : (L2.take (k + 1)).filter (fun x => M.contains x) = if M.contains (L2.getD k 0) = true then (L2.take k).filter (fun x => M.contains x) ++ [L2.getD k 0] else (L2.take k).filter (fun x => M.contains x) := filter_take (by omega)
    refine TW.skip ?_
    refine TQ.thenN (hY6 _ _ ?_)
    refine TW.seq fun Y7 hY7 => ?_
    refine TW.block ?_
    refine TW.seq fun Y8 hY8 => ?_
    refine TW.region ?_
    refine TL.p (Pu.el ty_et24) ?_
    refine TL.p (by first | exact (Pu.ld ty_sc3) | exact (Pu.ldo ty_sc3)) ?_
    refine TL.p Pu.as ?_
    refine TL.nil ?_
    refine TQ.thenN (hY8 _ _ ?_)
    refine TW.seq fun Y9 hY9 => ?_
    refine TW.region ?_
    refine TL.p (by first | exact (Pu.ld ty_sc24) | exact (Pu.ldo ty_sc24)) ?_
    refine TL.p Pu.mv ?_
    refine TL.cr rfl (enters Tryz.func91 rfl rfl) (fun w hw => by
        exact hasI_any _ hm (by omega) (hM.sat hw Apart.nil)) ?_
    refine TL.nil ?_
    refine TQ.thenN (hY9 _ _ ?_)
    refine TW.cond rfl (fun hc1 => ?_) (fun hc1 => ?_)
    · try simp only [decide_eq_true_eq, decide_eq_false_iff_not, Bool.not_eq_true', Bool.not_eq_false', Bool.and_eq_true, Bool.or_eq_true, Bool.and_eq_false_iff, Bool.or_eq_false_iff, Int.not_lt, Int.not_le] at hc1
      obtain ⟨T', hT'⟩ : ∃ y, y = T ++ [L2.getD k 0] := ⟨_, rfl⟩
      have s1 : t + 1 = T'.length := by rw [hT', List.length_append, ← ht]; rfl
      have s2 : T' = L.filter (fun x => !M.contains x) ++ (L2.take (k + 1)).filter (fun x => M.contains x) := by rw [hT', hT, hft, if_pos hc1, List.append_assoc]
      refine TW.region ?_
      refine TL.p Pu.mv ?_
      refine TL.p Pu.mv ?_
      refine TL.m Mk.bl ?_
      intro b1
      first | refine TL.a0 ty_et24 ?_ | refine TL.ap ty_et24 ?_
      intro A2 c2
      refine TL.p Pu.as ?_
      refine TL.nil ?_
      refine TQ.blkN ?_
      refine TQ.thenN (hY7 _ _ ?_)
      refine TW.region ?_
      refine TL.p Pu.ad ?_
      refine TL.p Pu.mv ?_
      refine TL.nil ?_
      refine TQ.thenN (hZ0 (k + 1) _ _ T' _ _ _ ?_ ?_ (by repeat (first | exact trivial | refine ⟨rfl, ?_⟩ | refine ⟨trivial, ?_⟩)) ?_)
      · exact ⟨by omega, s1, s2⟩
      · exact (by first | omega | (simp only []; omega) | (simp; omega))
      · first
          | exact KSub.own Pick.hd (iL_app ht hT' rfl) KSub.nil
          | exact KSub.own Pick.hd (fun i _ => by rw [hT']) KSub.nil
    · try simp only [decide_eq_true_eq, decide_eq_false_iff_not, Bool.not_eq_true', Bool.not_eq_false', Bool.and_eq_true, Bool.or_eq_true, Bool.and_eq_false_iff, Bool.or_eq_false_iff, Int.not_lt, Int.not_le] at hc1
      obtain ⟨T', hT'⟩ : ∃ y, y = T := ⟨_, rfl⟩
      have s1 : t = T'.length := by rw [hT', ← ht]
      have s2 : T' = L.filter (fun x => !M.contains x) ++ (L2.take (k + 1)).filter (fun x => M.contains x) := by rw [hT', hT, hft, if_neg (by rw [hc1]; decide)]
      refine TW.skip ?_
      refine TQ.blkN ?_
      refine TQ.thenN (hY7 _ _ ?_)
      refine TW.region ?_
      refine TL.p Pu.ad ?_
      refine TL.p Pu.mv ?_
      refine TL.nil ?_
      refine TQ.thenN (hZ0 (k + 1) _ _ T' _ _ _ ?_ ?_ (by repeat (first | exact trivial | refine ⟨rfl, ?_⟩ | refine ⟨trivial, ?_⟩)) ?_)
      · exact ⟨by omega, s1, s2⟩
      · exact (by first | omega | (simp only []; omega) | (simp; omega))
      · first
          | exact KSub.own Pick.hd (iL_app ht hT' rfl) KSub.nil
          | exact KSub.own Pick.hd (fun i _ => by rw [hT']) KSub.nil
  · try simp only [decide_eq_true_eq, decide_eq_false_iff_not, Bool.not_eq_true', Bool.not_eq_false', Bool.and_eq_true, Bool.or_eq_true, Bool.and_eq_false_iff, Bool.or_eq_false_iff, Int.not_lt, Int.not_le] at hc0
    obtain rfl : k = n2 := by omega
    have hT2 : srt T = mvd L L2 M := by rw [hT, hn2, List.take_length]; rfl
    refine TW.exit ?_
    refine TQ.thenX ?_
    refine TQ.thenX ?_
    refine TQ.blkX ?_
    refine TQ.thenN (hY3 _ _ ?_)
    refine TW.seq fun Y10 hY10 => ?_
    refine TW.region ?_
    refine TL.p Pu.mv ?_
    refine TL.call rfl (enters Tryz.func54 rfl rfl) (List.Perm.refl _) rfl (fun w hw => by
        exact sortI_any ht (by omega) (hw.holds (.own A2 t c2 3 1 (iL T)) (List.mem_cons_self ..))) ?_
    intro _
    refine TL.nil ?_
    refine TQ.thenN (hY10 _ _ ?_)
    refine TW.seq fun Y11 hY11 => ?_
    refine TW.region ?_
    refine TL.p Pu.mv ?_
    refine TL.p Pu.as ?_
    refine TL.nil ?_
    refine TQ.thenN (hY11 _ _ ?_)
    refine TW.ret ?_
    refine TQ.ret Tryz.results97 rfl ((.tmp rfl .nil)) ?_
    exact fun w hw => ⟨(A2, c2), by rw [← hT2, srt_len, ← ht]; rfl, by
      rw [← hT2, srt_len, ← ht]
      exact hw.sub (by repeat (first | exact KSub.nil | refine KSub.cons (by repeat (first | exact Pick.hd | apply Pick.tl)) ?_))⟩
abbrev MVx := (Option Addr × Nat) × (Option Addr × Nat)
def mvT (a : Nat → Option Addr) (l c : Nat → Nat) (L0 L1 M : List Int) (x : MVx) : List Value := [.slice x.1.1 (mvd L0 L1 M).length x.1.2, .slice x.2.1 (mvd L1 L0 M).length x.2.2, .slice (a 2) (l 2) (c 2)]
def mvK (L0 L1 M : List Int) (x : MVx) : List Fact := [.own x.1.1 (mvd L0 L1 M).length x.1.2 3 1 (iL (mvd L0 L1 M)), .own x.2.1 (mvd L1 L0 M).length x.2.2 3 1 (iL (mvd L1 L0 M))]
set_option maxRecDepth 100000 in
set_option maxHeartbeats 1000000 in
theorem moved_any {W : World} {m cm nr cr : Nat} {a : Nat → Option Addr} {l c : Nat → Nat} {Ar B : Option Addr} {L0 L1 M : List Int} (h0 : l 0 = L0.length) (h1 : l 1 = L1.length) (hm : m = M.length) (h2 : l 0 ≤ 1000) (h3 : l 1 ≤ 1000) (h4 : m ≤ 1000) (hL0 : RdR W 1 (a 0) (l 0) (iL L0)) (hL1 : RdR W 1 (a 1) (l 1) (iL L1)) (hM : RdR W 1 B m (iL M)) :
    CallsK Tryz.prog 53 #[.agg (tiedL a l c Ar nr cr).toArray, .slice B m cm] [] W MVx (fun x => .agg (mvT a l c L0 L1 M x ++ [Value.slice Ar nr cr]).toArray) (mvK L0 L1 M) := by
  unfold tiedL
  refine K_enter (S := []) (K := []) Tryz.func53 rfl Tryz.ntmps53 rfl (Sat.start _) ?_
  refine TW.seq fun Y1 hY1 => ?_
  refine TW.region ?_
  refine TL.m Mk.bx ?_
  intro b1
  refine TL.m Mk.bx ?_
  intro b2
  refine TL.m (Mk.al ty_zr112) ?_
  intro b3
  refine TL.nil ?_
  refine TQ.thenN (hY1 _ _ ?_)
  refine TW.seq fun Y2 hY2 => ?_
  refine TW.region ?_
  refine TL.p Pu.fn ?_
  refine TL.p Pu.as ?_
  refine TL.nil ?_
  refine TQ.thenN (hY2 _ _ ?_)
  refine TW.seq fun Y3 hY3 => ?_
  refine TW.ex0k [.blk b1 112 [.slice (a 0) (l 0) (c 0), .slice (a 1) (l 1) (c 1), .slice (a 2) (l 2) (c 2), .slice Ar nr cr], .blk b2 24 [.slice B m cm]] ?_
  refine RG.tk 0 rfl Pu.mv ?_
  refine RG.tk 1 rfl (by first | exact Pu.fb ty_fa112_0 | exact Pu.fe ty_fa112_0) ?_
  refine RG.tk 2 rfl (by first | exact Pu.fb ty_fa36_0 | exact Pu.fe ty_fa36_0) ?_
  refine RG.tk 3 rfl (Pu.ld ty_sc24) ?_
  refine RG.tk 4 rfl (by first | exact Pu.fb ty_fa112_0 | exact Pu.fe ty_fa112_0) ?_
  refine RG.tk 5 rfl (by first | exact Pu.fb ty_fa36_1 | exact Pu.fe ty_fa36_1) ?_
  refine RG.tk 6 rfl (Pu.ld ty_sc24) ?_
  refine RG.tk 8 rfl Pu.mv ?_
  refine RG.tk 9 rfl (by first | exact Pu.fb ty_fa112_0 | exact Pu.fe ty_fa112_0) ?_
  refine RG.tk 10 rfl (by first | exact Pu.fb ty_fa36_1 | exact Pu.fe ty_fa36_1) ?_
  refine RG.tk 11 rfl (Pu.ld ty_sc24) ?_
  refine RG.tk 12 rfl (by first | exact Pu.fb ty_fa112_0 | exact Pu.fe ty_fa112_0) ?_
  refine RG.tk 13 rfl (by first | exact Pu.fb ty_fa36_0 | exact Pu.fe ty_fa36_0) ?_
  refine RG.tk 14 rfl (Pu.ld ty_sc24) ?_
  refine RG.tk 16 rfl (by first | exact Pu.fb ty_fa112_0 | exact Pu.fe ty_fa112_0) ?_
  refine RG.tk 17 rfl (by first | exact Pu.fb ty_fa36_2 | exact Pu.fe ty_fa36_2) ?_
  refine RG.tk 18 rfl (Pu.ld ty_sc24) ?_
  refine RG.tk 20 rfl (by first | exact Pu.fb ty_fa112_1 | exact Pu.fe ty_fa112_1) ?_
  refine RG.tk 21 rfl (Pu.ld ty_sc109) ?_
  refine RG.a1 7 rfl (fun X7 hX7 => ?_)
  refine TL.cvk rfl rfl (enters Tryz.func97 rfl rfl) (M := []) (List.Perm.refl _) (fun w hw => by
      exact moved1_any h0 h1 hm (by omega) (by omega) (by omega) (hL0.sat hw Apart.nil) (hL1.sat hw Apart.nil) (OldB.of_blk (hw.holds (.blk b2 24 [.slice B m cm]) (by simp))) (hM.sat hw Apart.nil)) ?_
  rintro ⟨A1, c1⟩
  refine TL.nil ?_
  refine TQ.nxt (hX7 _ _ (by repeat (first | exact HasL.nil | refine HasL.cons (by repeat (first | exact Pick.hd | apply Pick.tl)) ?_)) ?_)
  refine RG.a1 15 rfl (fun X15 hX15 => ?_)
  refine TL.cvk rfl rfl (enters Tryz.func97 rfl rfl) (M := []) (List.Perm.refl _) (fun w hw => by
      exact moved1_any h1 h0 hm (by omega) (by omega) (by omega) (hL1.sat hw Apart.nil) (hL0.sat hw Apart.nil) (OldB.of_blk (hw.holds (.blk b2 24 [.slice B m cm]) (by simp))) (hM.sat hw Apart.nil)) ?_
  rintro ⟨A2, c2⟩
  refine TL.nil ?_
  refine TQ.nxt (hX15 _ _ (by repeat (first | exact HasL.nil | refine HasL.cons (by repeat (first | exact Pick.hd | apply Pick.tl)) ?_)) ?_)
  refine RG.a1 19 rfl (fun X19 hX19 => ?_)
  refine TL.p Pu.bd ?_
  refine TL.nil ?_
  refine TQ.nxt (hX19 _ _ (by repeat (first | exact HasL.nil | refine HasL.cons (by repeat (first | exact Pick.hd | apply Pick.tl)) ?_)) ?_)
  refine RG.a1 22 rfl (fun X22 hX22 => ?_)
  refine TL.p Pu.bd ?_
  refine TL.nil ?_
  refine TQ.nxt (hX22 _ _ (by repeat (first | exact HasL.nil | refine HasL.cons (by repeat (first | exact Pick.hd | apply Pick.tl)) ?_)) ?_)
  refine RG.a1 23 rfl (fun X23 hX23 => ?_)
  first | refine TL.st ty_sz112 ?_ | refine TL.se ty_sz112 ?_
  refine TL.nil ?_
  refine TQ.nxt (hX23 _ _ (by repeat (first | exact HasL.nil | refine HasL.cons (by repeat (first | exact Pick.hd | apply Pick.tl)) ?_)) ?_)
  refine RG.nil ?_ (by kernel_rfl)
  refine TQ.thenN (hY3 _ _ ?_)
  refine TW.ret ?_
  refine TQ.ret Tryz.results53 rfl ((RV.cs ty_ag112 .nil)) ?_
  exact fun w hw => ⟨((A1, c1), (A2, c2)), rfl, hw.sub (by unfold mvK; repeat (first | exact KSub.nil | refine KSub.cons (by repeat (first | exact Pick.hd | apply Pick.tl)) ?_))⟩
end Go.Proofs.YtjephihlkjpohaaGreatDoor
namespace Go.Proofs.YtjephihlkjpohaaGreatDoor
set_option linter.all false
set_option linter.unusedVariables false
set_option linter.unusedSimpArgs false
open Go.RowKit
def TWi (l : Nat) (c : Cx) (code : Code) (Q : Exit → Act → World → Prop) (F : Fr) (K : List Fact) : Prop := ∀ a w, FS c.n c.D F a → Sat c.S c.w0 K w → code.wpIn (Fence.wide.inRound l) 0 c.P Q a w
theorem operIn {P : Program} {l m : Nat} {o : Oper} {a : Act} {w : World} {K K' : Act → World → Prop} {Q : Exit → Act → World → Prop} (hK : ∀ a w, K a w → K' a w) (hnd : ∀ c, o.op ≠ .defer c) (h : o.wp P a w K Q) : o.wpIn (Fence.wide.inRound l) m P a w K' Q := by
  refine ⟨fun _ _ => trivial, ?_⟩
  rw [Fence.inRound_round, Oper.semAt_some l a.eval o hnd]
  unfold Oper.wp at h
  generalize (execOp a.eval o).run P w = r at *
  cases r with
  | ok x w' =>
    cases x <;> simp only [Oper.upon] at h <;> simp only [Oper.uponIn]
    case value u => exact hK _ _ h
    case skip => exact hK _ _ h
    case defer d => exact hK _ _ h
    case enter f args =>
      refine ⟨fun h9 => (by simp [Fence.wide] at h9), CallsIn.inRound l (callsIn_wide.2 (Calls.mono h fun e w'' he => ?_))⟩
      cases e with
      | returned u => exact hK _ _ he
      | panicked ch => exact he
      | outgrown => exact he
    case row row args =>
      refine ⟨fun h9 => (by simp [Fence.wide] at h9), fun c cs _ => ?_⟩
      obtain ⟨v, w'', r1, s1⟩ := h c cs
      exact ⟨v, w'', hK _ _ r1, stepsIn_wide.2 s1⟩
  | halt x w' => cases x <;> simp only [Oper.upon] at h <;> exact h
theorem operWide {P : Program} {m : Nat} {o : Oper} {a : Act} {w : World} {Z K' : Act → World → Prop} {Q : Exit → Act → World → Prop} (hK : ∀ a w, Z a w → K' a w) (h : o.wp P a w Z (nxt Z Q)) : o.wpIn Fence.wide m P a w K' Q := by
  refine ⟨fun _ _ => trivial, ?_⟩
  rw [Fence.wide_round, Oper.semAt_none]
  unfold Oper.wp at h
  generalize (execOp a.eval o).run P w = r at *
  cases r with
  | ok x w' =>
    cases x <;> simp only [Oper.upon] at h <;> simp only [Oper.uponIn]
    case value u => exact hK _ _ h
    case skip => exact hK _ _ h
    case defer d => exact hK _ _ h
    case enter f args =>
      refine ⟨fun h9 => (by simp [Fence.wide] at h9), callsIn_wide.2 (Calls.mono h fun e w'' he => ?_)⟩
      cases e with
      | returned u => exact hK _ _ he
      | panicked ch => exact he
      | outgrown => obtain ⟨x, y, z⟩ := he; exact ⟨x, y, z⟩
    case row row args =>
      refine ⟨fun h9 => (by simp [Fence.wide] at h9), fun c cs _ => ?_⟩
      obtain ⟨v, w'', r1, s1⟩ := h c cs
      exact ⟨v, w'', hK _ _ r1, stepsIn_wide.2 s1⟩
  | halt x w' => cases x <;> simp only [Oper.upon] at h <;> exact h
def noDeferL (l : List Oper) : Bool := l.all fun o => match o.op with | .defer _ => false | _ => true
theorem listIn {P : Program} {ops : Array Oper} {Q : Exit → Act → World → Prop} {l m : Nat} (hL : ¬ LetsOut Q) : ∀ (rest : List Oper), noDeferL rest = true → ∀ a w, wpList P ops Q rest a w → wpListIn (Fence.wide.inRound l) m P ops Q rest a w
  | [], _, _, _, h => h
  | o :: rest, hn, a, w, h => by
    simp only [noDeferL, List.all_cons, Bool.and_eq_true] at hn
    unfold wpList at h
    unfold wpListIn
    split
    · rename_i hw
      rw [if_pos hw] at h
      rcases h with h | ⟨_, h⟩
      · exact operIn (fun a w h => listIn hL rest hn.2 a w h) (fun c e => by rw [e] at hn; simp at hn) h
      · exact absurd h hL
    · rename_i hw
      rw [if_neg hw] at h
      exact ⟨fun _ _ => trivial, listIn hL rest hn.2 _ _ h⟩
theorem rounds_mono {F : Fence} {n : Nat} {P : Program} {x : Code} {Q : Exit → Act → World → Prop} : ∀ {m m' : Nat} {a : Act} {w : World}, m ≤ m' → Code.roundsIn F n P x Q m a w → Code.roundsIn F n P x Q m' a w
  | 0, _, _, _, _, h => h.elim
  | m + 1, 0, _, _, hm, _ => by omega
  | m + 1, m' + 1, a, w, hm, h => by
    refine wpIn_mono h fun e a w he => ?_
    cases e with
    | normal => exact rounds_mono (by omega) he
    | _ => exact he
section
variable {l : Nat} {c : Cx} {Q : Exit → Act → World → Prop} {F F' : Fr} {K K' K0 : List Fact} {ops : Array Oper} {rest : List Oper} {d : Option Tmp} {ty : TypeId} {pos : String} {af : Array Edge} {g : Option (Nat × Bool)}
theorem TWi.seq {x y : Code} (h : ∀ Y : Act → World → Prop, (∀ F K, TWi l c y Q F K → TQ c (fun _ => Y) .normal F K) → TWi l c x (Exit.then Y Q) F K) : TWi l c (.seq x y) Q F K := fun a w hF hK =>
  wpIn_seq (h (y.wpIn (Fence.wide.inRound l) 0 c.P Q) (fun _ _ h => h) a w hF hK)
theorem TWi.block {i : Nat} {x : Code} (h : TWi l c x (Exit.inBlock i Q) F K) : TWi l c (.block i x) Q F K := fun a w hF hK => wpIn_block (h a w hF hK)
theorem TWi.ret (h : TQ c Q .ret F K) : TWi l c .ret Q F K := fun a w hF hK => wpIn_ret (h a w hF hK)
theorem TWi.exit {i : Nat} (h : TQ c Q (.exit i) F K) : TWi l c (.exit i) Q F K := fun a w hF hK => wpIn_exit (h a w hF hK)
theorem TWi.skip (h : TQ c Q .normal F K) : TWi l c .skip Q F K := fun a w hF hK => wpIn_skip (h a w hF hK)
theorem TWi.cond {x : Operand} {s t : Code} {b : Bool} (hx : ev F x = some (.bool b)) (ht : b = true → TWi l c s Q F K) (hf : b = false → TWi l c t Q F K) : TWi l c (.cond x s t) Q F K := fun a w hF hK =>
  wpIn_cond_split (hF.evl hx) (fun e => ht e a w hF hK) (fun e => hf e a w hF hK)
theorem TWi.condT {x : Operand} {s t : Code} {b : Bool} (hx : ev F x = some (.bool b)) (hb : b = true) (h : TWi l c s Q F K) : TWi l c (.cond x s t) Q F K := TWi.cond hx (fun _ => h) (fun e => by rw [hb] at e; cases e)
theorem TWi.condF {x : Operand} {s t : Code} {b : Bool} (hx : ev F x = some (.bool b)) (hb : b = false) (h : TWi l c t Q F K) : TWi l c (.cond x s t) Q F K := TWi.cond hx (fun e => by rw [hb] at e; cases e) (fun _ => h)
theorem TWi.sub {x : Code} (hF : fsub F F') (hK : KSub K K') (h : TWi l c x Q F' K') : TWi l c x Q F K := fun a w hf hk => h a w (hf.sub (fsub_spec hF)) (hk.sub hK)
theorem TWi.subK {x : Code} (hK : KSub K K') (h : TWi l c x Q F K') : TWi l c x Q F K := fun a w hf hk => h a w hf (hk.sub hK)
theorem TWi.join {x : Code} (E : Fr) (h : TQ c Q .normal (E ++ F) K) (r : TQ c Q .normal (E ++ F) K → TWi l c x Q F K) : TWi l c x Q F K := r h
theorem TWi.region {id : Nat} {os : List Oper} (h : TL c os.toArray Q os F K) (hnd : noDeferL os = true := by rfl) (hL : ¬ LetsOut Q := by (rintro ⟨_, _, h⟩; exact h)) : TWi l c (.region id os.toArray false) Q F K := fun a w hF hK => wpIn_region_lit (listIn hL os hnd a w (h a w hF hK))
theorem TWi.dw {id : Nat} {os : List Oper} (nf : Nat) (h : RK c os.toArray Q nf 0 (os.take nf) [] [] (Array.replicate nf false) nf F K) (hm : c.P.follows .mixedOrders = true := by rfl) (hT : tailOk os.toArray nf = true := by kernel_rfl) (hp : Pan Q := by (intro d _ _ _ _; cases d <;> exact Iff.rfl)) (hnd : noDefer os.toArray = true := by kernel_rfl) (hL : ¬ LetsOut Q := by (rintro ⟨_, _, h⟩; exact h)) : TWi l c (.region id os.toArray true) Q F K := fun a w hF hK =>
  RW.beginIn hm hT hp hnd hL fun hb => h a w _ hF hK hb
theorem TWi.any {id : Nat} {os : List Oper} (hm : c.P.follows .mixedOrders = true) (hnd : noDefer os.toArray = true) (hL : ¬ LetsOut Q) (h : ∀ a w, FS c.n c.D F a → Sat c.S c.w0 K w → wpAnyH c.P .any os.toArray Q (Sat c.S c.w0 K0) os.length (Array.replicate os.length false) a w) : TWi l c (.region id os.toArray true) Q F K := fun a w hF hK => by
  refine wpIn_region_any hm (anyIn hnd hL _ _ _ _ (wpAny_of_held (S := Sat c.S c.w0 K0) _ _ _ _ ?_))
  rw [List.size_toArray]
  exact h a w.drew hF (hK.ext (keep_drew w))
theorem TWi.rf {id : Nat} {os : List Oper} (hd : Drop F K K0) (h : RF c os.toArray Q K0 0 os [] (Array.replicate os.length false) os.length F K) (hm : c.P.follows .mixedOrders = true := by rfl) (hp : Pan Q := by (intro d _ _ _ _; cases d <;> exact Iff.rfl)) (hnd : noDefer os.toArray = true := by kernel_rfl) (hL : ¬ LetsOut Q := by (rintro ⟨_, _, h⟩; exact h)) : TWi l c (.region id os.toArray true) Q F K :=
  TWi.any (K0 := K0) hm hnd hL fun a w hF hK => h rfl (fun p hp => by cases hp) hp a w hF hK
theorem TWi.ex0k {id : Nat} {os : List Oper} (K0 : List Fact) (h2 : RG c os.toArray Q K0 [] (Array.replicate os.length false) os.length F K) (hm : c.P.follows .mixedOrders = true := by rfl) (hnd : noDefer os.toArray = true := by kernel_rfl) (hL : ¬ LetsOut Q := by (rintro ⟨_, _, h⟩; exact h)) : TWi l c (.region id os.toArray true) Q F K :=
  TWi.any (K0 := K0) hm hnd hL fun a w hF hK => h2 (fun p hp => by cases hp) a w hF hK
theorem TWi.ex0 {id : Nat} {os : List Oper} (hd : Drop F K K0) (h2 : RG c os.toArray Q K0 [] (Array.replicate os.length false) os.length F K) (hm : c.P.follows .mixedOrders = true := by rfl) (hnd : noDefer os.toArray = true := by kernel_rfl) (hL : ¬ LetsOut Q := by (rintro ⟨_, _, h⟩; exact h)) : TWi l c (.region id os.toArray true) Q F K := TWi.ex0k K0 h2 hm hnd hL
theorem TWi.expl {id : Nat} {os : List Oper} {X : Type} (Fj : X → Fr) (Kj : X → List Fact) (hd : Drop F K K0) (h1 : ∀ x, TQ c Q .normal (Fj x) (Kj x)) (h2 : (∀ x, TQ c Q .normal (Fj x) (Kj x)) → RG c os.toArray Q K0 [] (Array.replicate os.length false) os.length F K) (hm : c.P.follows .mixedOrders = true := by rfl) (hnd : noDefer os.toArray = true := by kernel_rfl) (hL : ¬ LetsOut Q := by (rintro ⟨_, _, h⟩; exact h)) : TWi l c (.region id os.toArray true) Q F K := TWi.ex0k K0 (h2 h1) hm hnd hL
theorem TWi.expk {id : Nat} {os : List Oper} {X : Type} (K0 : List Fact) (Fj : X → Fr) (Kj : X → List Fact) (h1 : ∀ x, TQ c Q .normal (Fj x) (Kj x)) (h2 : (∀ x, TQ c Q .normal (Fj x) (Kj x)) → RG c os.toArray Q K0 [] (Array.replicate os.length false) os.length F K) (hm : c.P.follows .mixedOrders = true := by rfl) (hnd : noDefer os.toArray = true := by kernel_rfl) (hL : ¬ LetsOut Q := by (rintro ⟨_, _, h⟩; exact h)) : TWi l c (.region id os.toArray true) Q F K := TWi.ex0k K0 (h2 h1) hm hnd hL
theorem TWi.loop {ι : Type} {x : Code} (FI : ι → Fr) (KI : ι → List Fact) (μ : ι → Nat) (i0 : ι) (hF : fsub F (FI i0)) (hK : KSub K (KI i0))
    (round : ∀ i, ∀ Y : Act → World → Prop, (∀ j F K, μ j < μ i → fsub F (FI j) → KSub K (KI j) → TQ c (fun _ => Y) .normal F K) → TWi l c x (Exit.then Y Q) (FI i) (KI i)) : TWi l c (.loop x) Q F K := fun a w hf hk => by
  have key : ∀ (k : Nat) (i : ι) (a : Act) (w : World), μ i = k → FS c.n c.D (FI i) a → Sat c.S c.w0 (KI i) w → Code.roundsIn (Fence.wide.inRound l) 0 c.P x Q (k + 1) a w := by
    intro k
    induction k using Nat.strongRecOn with
    | _ k ih =>
      rintro i a w rfl hf hk
      rw [roundsIn_succ]
      refine round i _ (fun j F K hj hF hK a w h1 h2 => ?_) a w hf hk
      exact rounds_mono (by omega) (ih (μ j) hj j a w rfl (h1.sub (fsub_spec hF)) (h2.sub hK))
  exact wpIn_loop_rounds _ (key _ i0 a w rfl (hf.sub (fsub_spec hF)) (hk.sub hK))
theorem TWi.loop1 {ι1 : Type} {x : Code} (FI : ι1 → Fr) (KI : ι1 → List Fact) (p : ι1 → Prop) (μ : ι1 → Nat) (i1 : ι1) (hF : fsub F (FI i1)) (hK : KSub K (KI i1)) (hp : p i1)
    (round : ∀ i1, p i1 → ∀ Y : Act → World → Prop, (∀ j1 F K, p j1 → μ j1 < μ i1 → fsub F (FI j1) → KSub K (KI j1) → TQ c (fun _ => Y) .normal F K) → TWi l c x (Exit.then Y Q) (FI i1) (KI i1)) : TWi l c (.loop x) Q F K :=
  TWi.loop (ι := { t : ι1 // p t }) (fun t => FI t.1) (fun t => KI t.1) (fun t => μ t.1) ⟨i1, hp⟩ hF hK fun t Y hY => round t.1 t.2 Y fun j1 F K h1 h2 h3 h4 => hY ⟨j1, h1⟩ F K h2 h3 h4
theorem TWi.loop2 {ι1 ι2 : Type} {x : Code} (FI : ι1 → ι2 → Fr) (KI : ι1 → ι2 → List Fact) (p : ι1 → ι2 → Prop) (μ : ι1 → ι2 → Nat) (i1 : ι1) (i2 : ι2) (hF : fsub F (FI i1 i2)) (hK : KSub K (KI i1 i2)) (hp : p i1 i2)
    (round : ∀ i1 i2, p i1 i2 → ∀ Y : Act → World → Prop, (∀ j1 j2 F K, p j1 j2 → μ j1 j2 < μ i1 i2 → fsub F (FI j1 j2) → KSub K (KI j1 j2) → TQ c (fun _ => Y) .normal F K) → TWi l c x (Exit.then Y Q) (FI i1 i2) (KI i1 i2)) : TWi l c (.loop x) Q F K :=
  TWi.loop (ι := { t : ι1 × ι2 // p t.1 t.2 }) (fun t => FI t.1.1 t.1.2) (fun t => KI t.1.1 t.1.2) (fun t => μ t.1.1 t.1.2) ⟨(i1, i2), hp⟩ hF hK fun t Y hY => round t.1.1 t.1.2 t.2 Y fun j1 j2 F K h1 h2 h3 h4 => hY ⟨(j1, j2), h1⟩ F K h2 h3 h4
theorem TWi.loop3 {ι1 ι2 ι3 : Type} {x : Code} (FI : ι1 → ι2 → ι3 → Fr) (KI : ι1 → ι2 → ι3 → List Fact) (p : ι1 → ι2 → ι3 → Prop) (μ : ι1 → ι2 → ι3 → Nat) (i1 : ι1) (i2 : ι2) (i3 : ι3) (hF : fsub F (FI i1 i2 i3)) (hK : KSub K (KI i1 i2 i3)) (hp : p i1 i2 i3)
    (round : ∀ i1 i2 i3, p i1 i2 i3 → ∀ Y : Act → World → Prop, (∀ j1 j2 j3 F K, p j1 j2 j3 → μ j1 j2 j3 < μ i1 i2 i3 → fsub F (FI j1 j2 j3) → KSub K (KI j1 j2 j3) → TQ c (fun _ => Y) .normal F K) → TWi l c x (Exit.then Y Q) (FI i1 i2 i3) (KI i1 i2 i3)) : TWi l c (.loop x) Q F K :=
  TWi.loop (ι := { t : ι1 × ι2 × ι3 // p t.1 t.2.1 t.2.2 }) (fun t => FI t.1.1 t.1.2.1 t.1.2.2) (fun t => KI t.1.1 t.1.2.1 t.1.2.2) (fun t => μ t.1.1 t.1.2.1 t.1.2.2) ⟨(i1, i2, i3), hp⟩ hF hK fun t Y hY => round t.1.1 t.1.2.1 t.1.2.2 t.2 Y fun j1 j2 j3 F K h1 h2 h3 h4 => hY ⟨(j1, j2, j3), h1⟩ F K h2 h3 h4
theorem TWi.loop4 {ι1 ι2 ι3 ι4 : Type} {x : Code} (FI : ι1 → ι2 → ι3 → ι4 → Fr) (KI : ι1 → ι2 → ι3 → ι4 → List Fact) (p : ι1 → ι2 → ι3 → ι4 → Prop) (μ : ι1 → ι2 → ι3 → ι4 → Nat) (i1 : ι1) (i2 : ι2) (i3 : ι3) (i4 : ι4) (hF : fsub F (FI i1 i2 i3 i4)) (hK : KSub K (KI i1 i2 i3 i4)) (hp : p i1 i2 i3 i4)
    (round : ∀ i1 i2 i3 i4, p i1 i2 i3 i4 → ∀ Y : Act → World → Prop, (∀ j1 j2 j3 j4 F K, p j1 j2 j3 j4 → μ j1 j2 j3 j4 < μ i1 i2 i3 i4 → fsub F (FI j1 j2 j3 j4) → KSub K (KI j1 j2 j3 j4) → TQ c (fun _ => Y) .normal F K) → TWi l c x (Exit.then Y Q) (FI i1 i2 i3 i4) (KI i1 i2 i3 i4)) : TWi l c (.loop x) Q F K :=
  TWi.loop (ι := { t : ι1 × ι2 × ι3 × ι4 // p t.1 t.2.1 t.2.2.1 t.2.2.2 }) (fun t => FI t.1.1 t.1.2.1 t.1.2.2.1 t.1.2.2.2) (fun t => KI t.1.1 t.1.2.1 t.1.2.2.1 t.1.2.2.2) (fun t => μ t.1.1 t.1.2.1 t.1.2.2.1 t.1.2.2.2) ⟨(i1, i2, i3, i4), hp⟩ hF hK fun t Y hY => round t.1.1 t.1.2.1 t.1.2.2.1 t.1.2.2.2 t.2 Y fun j1 j2 j3 j4 F K h1 h2 h3 h4 => hY ⟨(j1, j2, j3, j4), h1⟩ F K h2 h3 h4
theorem TWi.loop5 {ι1 ι2 ι3 ι4 ι5 : Type} {x : Code} (FI : ι1 → ι2 → ι3 → ι4 → ι5 → Fr) (KI : ι1 → ι2 → ι3 → ι4 → ι5 → List Fact) (p : ι1 → ι2 → ι3 → ι4 → ι5 → Prop) (μ : ι1 → ι2 → ι3 → ι4 → ι5 → Nat) (i1 : ι1) (i2 : ι2) (i3 : ι3) (i4 : ι4) (i5 : ι5) (hF : fsub F (FI i1 i2 i3 i4 i5)) (hK : KSub K (KI i1 i2 i3 i4 i5)) (hp : p i1 i2 i3 i4 i5)
    (round : ∀ i1 i2 i3 i4 i5, p i1 i2 i3 i4 i5 → ∀ Y : Act → World → Prop, (∀ j1 j2 j3 j4 j5 F K, p j1 j2 j3 j4 j5 → μ j1 j2 j3 j4 j5 < μ i1 i2 i3 i4 i5 → fsub F (FI j1 j2 j3 j4 j5) → KSub K (KI j1 j2 j3 j4 j5) → TQ c (fun _ => Y) .normal F K) → TWi l c x (Exit.then Y Q) (FI i1 i2 i3 i4 i5) (KI i1 i2 i3 i4 i5)) : TWi l c (.loop x) Q F K :=
  TWi.loop (ι := { t : ι1 × ι2 × ι3 × ι4 × ι5 // p t.1 t.2.1 t.2.2.1 t.2.2.2.1 t.2.2.2.2 }) (fun t => FI t.1.1 t.1.2.1 t.1.2.2.1 t.1.2.2.2.1 t.1.2.2.2.2) (fun t => KI t.1.1 t.1.2.1 t.1.2.2.1 t.1.2.2.2.1 t.1.2.2.2.2) (fun t => μ t.1.1 t.1.2.1 t.1.2.2.1 t.1.2.2.2.1 t.1.2.2.2.2) ⟨(i1, i2, i3, i4, i5), hp⟩ hF hK fun t Y hY => round t.1.1 t.1.2.1 t.1.2.2.1 t.1.2.2.2.1 t.1.2.2.2.2 t.2 Y fun j1 j2 j3 j4 j5 F K h1 h2 h3 h4 => hY ⟨(j1, j2, j3, j4, j5), h1⟩ F K h2 h3 h4
theorem TWi.loop6 {ι1 ι2 ι3 ι4 ι5 ι6 : Type} {x : Code} (FI : ι1 → ι2 → ι3 → ι4 → ι5 → ι6 → Fr) (KI : ι1 → ι2 → ι3 → ι4 → ι5 → ι6 → List Fact) (p : ι1 → ι2 → ι3 → ι4 → ι5 → ι6 → Prop) (μ : ι1 → ι2 → ι3 → ι4 → ι5 → ι6 → Nat) (i1 : ι1) (i2 : ι2) (i3 : ι3) (i4 : ι4) (i5 : ι5) (i6 : ι6) (hF : fsub F (FI i1 i2 i3 i4 i5 i6)) (hK : KSub K (KI i1 i2 i3 i4 i5 i6)) (hp : p i1 i2 i3 i4 i5 i6)
    (round : ∀ i1 i2 i3 i4 i5 i6, p i1 i2 i3 i4 i5 i6 → ∀ Y : Act → World → Prop, (∀ j1 j2 j3 j4 j5 j6 F K, p j1 j2 j3 j4 j5 j6 → μ j1 j2 j3 j4 j5 j6 < μ i1 i2 i3 i4 i5 i6 → fsub F (FI j1 j2 j3 j4 j5 j6) → KSub K (KI j1 j2 j3 j4 j5 j6) → TQ c (fun _ => Y) .normal F K) → TWi l c x (Exit.then Y Q) (FI i1 i2 i3 i4 i5 i6) (KI i1 i2 i3 i4 i5 i6)) : TWi l c (.loop x) Q F K :=
  TWi.loop (ι := { t : ι1 × ι2 × ι3 × ι4 × ι5 × ι6 // p t.1 t.2.1 t.2.2.1 t.2.2.2.1 t.2.2.2.2.1 t.2.2.2.2.2 }) (fun t => FI t.1.1 t.1.2.1 t.1.2.2.1 t.1.2.2.2.1 t.1.2.2.2.2.1 t.1.2.2.2.2.2) (fun t => KI t.1.1 t.1.2.1 t.1.2.2.1 t.1.2.2.2.1 t.1.2.2.2.2.1 t.1.2.2.2.2.2) (fun t => μ t.1.1 t.1.2.1 t.1.2.2.1 t.1.2.2.2.1 t.1.2.2.2.2.1 t.1.2.2.2.2.2) ⟨(i1, i2, i3, i4, i5, i6), hp⟩ hF hK fun t Y hY => round t.1.1 t.1.2.1 t.1.2.2.1 t.1.2.2.2.1 t.1.2.2.2.2.1 t.1.2.2.2.2.2 t.2 Y fun j1 j2 j3 j4 j5 j6 F K h1 h2 h3 h4 => hY ⟨(j1, j2, j3, j4, j5, j6), h1⟩ F K h2 h3 h4
def TLi (c : Cx) (ops : Array Oper) (Q : Exit → Act → World → Prop) (rest : List Oper) (F : Fr) (K : List Fact) : Prop := ∀ a w, FS c.n c.D F a → Sat c.S c.w0 K w → wpListIn Fence.wide 1 c.P ops Q rest a w
theorem TW.regionI {id : Nat} {os : List Oper} (h : TLi c os.toArray Q os F K) : TW c (.region id os.toArray false) Q F K := fun a w hF hK => (wpIn_wide (n := 1)).1 (wpIn_region_lit (h a w hF hK))
theorem TLi.nil (h : TQ c Q .normal F K) : TLi c ops Q [] F K := fun a w hF hK => h a w hF hK
theorem TLi.op {o : Oper} (h : ∀ Z : Act → World → Prop, (∀ F2 K2, TLi c ops Q rest F2 K2 → TQ c (fun _ => Z) .normal F2 K2) → TL c ops (nxt Z Q) [o] F K) (hL : ¬ LetsOut Q := by (rintro ⟨_, _, h⟩; exact h)) : TLi c ops Q (o :: rest) F K := fun a w hF hK => by
  have h1 := h (wpListIn Fence.wide 1 c.P ops Q rest) (fun F2 K2 h2 a w h3 h4 => h2 a w h3 h4) a w hF hK
  unfold wpList at h1
  unfold wpListIn
  split
  · rename_i hw
    rw [if_pos hw] at h1
    rcases h1 with h1 | ⟨_, h2⟩
    · exact operWide (fun _ _ h => h) h1
    · obtain ⟨x, y, z⟩ := h2
      exact absurd ⟨x, y, z⟩ hL
  · rename_i hw
    rw [if_neg hw] at h1
    exact ⟨fun _ _ => trivial, h1⟩
theorem TLi.guard {t : Nat} {b : Bool} (ht : fget F t = some (.bool b)) (h1 : b = true → TLi c ops Q rest ((t, .bool true) :: F) K) (h2 : b = false → TLi c ops Q rest ((t, .bool false) :: F) K) : TLi c ops Q rest F K := fun a w hF hK => by
  have key : ∀ b', b = b' → FS c.n c.D ((t, .bool b') :: F) a := fun b' e => ⟨hF.size, hF.dfs, fun u v hv => by
    subst e
    simp only [fget] at hv
    cases hb : Nat.beq t u with
    | true => rw [hb] at hv; have := beq_iff.1 hb; subst this; injection hv with hv; subst hv; exact hF.get _ _ ht
    | false => rw [hb] at hv; exact hF.get _ _ hv⟩
  cases hb : b
  · exact h2 hb a w (key _ hb) hK
  · exact h1 hb a w (key _ hb) hK
theorem TLi.yi {l : Nat} {x : Operand} {xs : List Operand} {ts : Array TypeId} {us : List Value} {R1 R2 : Type} {K1 : R1 → List Fact} {K2 : R2 → List Fact} (hf : ev F x = some (.func (.yield l) #[] #[])) (hx : evs F xs = some us)
    (hy : ∀ w, Sat c.S c.w0 K w → YieldAt Fence.wide 0 c.P l us.toArray w fun e w' => (e = .returned (.bool true) ∧ ∃ r, Sat c.S c.w0 (K1 r) w') ∨ (e = .returned (.bool false) ∧ ∃ r, Sat c.S c.w0 (K2 r) w'))
    (h1 : ∀ r, TLi c ops Q rest (fput F d (.bool true)) (K1 r)) (h2 : ∀ r, TLi c ops Q rest (fput F d (.bool false)) (K2 r)) (hg : gdB F ops g = some true := by rfl) (hd : dok d c.n = true := by rfl) :
    TLi c ops Q (⟨d, .call { callee := .value x, args := xs.toArray, argTypes := ts }, ty, pos, af, g⟩ :: rest) F K := fun a w hF hK => by
  unfold wpListIn
  rw [if_pos (hF.wanted hg)]
  obtain ⟨fn, tmps, assign, body, hy1, hy2⟩ := hy w hK
  have e1 := hF.evl hf
  have e2 := hF.evsl hx
  have hr : (execOp a.eval ⟨d, .call { callee := .value x, args := xs.toArray, argTypes := ts }, ty, pos, af, g⟩).run c.P w = .ok (.round l fn tmps assign body) w := by
    simp only [execOp, resolve, e1, Deferred.ofValue, List.map_toArray, e2, Sem.run_bind, Sem.run_pure, Result.andThen_ok, invoke]
    simpa using hy1
  refine ⟨fun _ _ => trivial, ?_⟩
  rw [Fence.wide_round, Oper.semAt_none, hr, Oper.uponIn_round]
  refine ⟨fun h9 => (by simp [Fence.wide] at h9), hy2.mono ?_⟩
  rintro e w' (⟨rfl, r, hs⟩ | ⟨rfl, r, hs⟩)
  · exact h1 r _ _ (hF.fput hd _) hs
  · exact h2 r _ _ (hF.fput hd _) hs
theorem Sat.newO {S : List Nat} {w0 w : World} (h : Sat S w0 K w) (o : Obj) (ho : o.isCells = false) : Sat S w0 (.obj w.heap.size o :: K) (w.alloc o) :=
  h.add (L := [_]) (Sat.one (Chg.of_ext ((Below.refl _ _).alloc (Nat.le_refl _) _)) (by simp [Fact.foot]) (fun b hb => by simp [Fact.foot] at hb; subst hb; exact .inr (Nat.le_refl _)) ⟨World.alloc_heap_new w o, ho⟩)
theorem Sat.putO {S : List Nat} {w0 w : World} {b : Nat} {o o' : Obj} (h : Sat S w0 (.obj b o :: K) w) (ho : o'.isCells = false) : Sat S w0 (.obj b o' :: K) (w.putObj b o') :=
  h.turn (φ' := .obj b o') (Chg.grown (grownBy_putObj' w b o')) (by simp [Fact.foot]) (fun x hx => .inl hx) ⟨World.putObj_heap_same (lt_of_get (h.holds (.obj b o) (by simp)).1), ho⟩
def putF : List Tmp → List Value → Fr → Fr
  | p :: ps, v :: vs, F => putF ps vs ((p, v) :: F)
  | _, _, F => F
theorem FS.putF {n : Nat} : ∀ {ps : List Tmp} {vs : List Value} {F : Fr} {t : Array Value}, FS n [] F { tmps := t, defers := [] } → (ps.all fun p => Nat.blt p n) = true → FS n [] (Go.Proofs.YtjephihlkjpohaaGreatDoor.putF ps vs F) { tmps := (ps.zip vs).foldl (fun t (p, v) => t.setIfInBounds p v) t, defers := [] }
  | [], _, _, _, h, _ => by simpa [Go.Proofs.YtjephihlkjpohaaGreatDoor.putF] using h
  | _ :: _, [], _, _, h, _ => by simpa [Go.Proofs.YtjephihlkjpohaaGreatDoor.putF] using h
  | p :: ps, v :: vs, F, t, h, hp => by
    simp only [List.all_cons, Bool.and_eq_true] at hp
    have := FS.putF (ps := ps) (vs := vs) (h.put hp.1 v) hp.2
    simpa [Go.Proofs.YtjephihlkjpohaaGreatDoor.putF, Act.put] using this
def RB (c : Cx) {R Rx : Type} (KN : R → List Fact) (jx : Rx → Code) (KX : Rx → List Fact) : Exit → Act → World → Prop
  | .normal, _, w => ∃ r, Sat c.S c.w0 (KN r) w
  | .ret, _, w => ∃ x, jx x = .ret ∧ Sat c.S c.w0 (KX x) w
  | .exit i, _, w => ∃ x, jx x = .exit i ∧ Sat c.S c.w0 (KX x) w
  | _, _, _ => False
theorem TQ.rbN {R Rx : Type} {KN : R → List Fact} {jx : Rx → Code} {KX : Rx → List Fact} (r : R) (hK : KSub K (KN r)) : TQ c (RB c KN jx KX) .normal F K := fun _ _ _ h => ⟨r, h.sub hK⟩
def IterK (P : Program) (gf : FuncId) (lb : List Value) (M : List Fact) (G : Type) (enc : Nat → G → List Value) (Y Y' : Nat → G → List Fact) (N : Nat) (L : List Fact) (S : List Nat) (w0 : World) : Prop :=
  ∀ (l : Nat) (R Rx : Type) (J : Nat → R → List Fact) (Jx : Rx → List Fact) (r0 : R) (w : World), Sat S w0 (M ++ J 0 r0) w →
    (∀ q g r w', q < N → Sat S w0 (Y q g ++ J q r) w' → YieldAt Fence.wide 0 P l (enc q g).toArray w' fun e w'' => (e = .returned (.bool true) ∧ ∃ r', Sat S w0 (Y' q g ++ J (q + 1) r') w'') ∨ (e = .returned (.bool false) ∧ ∃ x, Sat S w0 (Y' q g ++ Jx x) w'')) →
    Calls P gf (.func (.yield l) #[] #[] :: lb).toArray w fun e w' => (∃ v, e = .returned v) ∧ ((∃ r, Sat S w0 (L ++ J N r) w') ∨ ∃ x, Sat S w0 (Jx x) w')
theorem perm_objs (A B : List Fact) (x y : Fact) : (A ++ (x :: y :: B)).Perm (x :: y :: (A ++ B)) := List.perm_middle.trans (List.Perm.cons _ List.perm_middle)
theorem TW.range {g : Operand} {ps : List Tmp} {assign body : Code} {gf : Nat} {lb : List Value} {M L : List Fact} {G R Rx : Type} {enc : Nat → G → List Value} {Y Y' : Nat → G → List Fact} {N : Nat} (J : Nat → R → List Fact) (jx : Rx → Code) (Jx : Rx → List Fact) (r0 : R)
    (it : IterK c.P gf lb M G enc Y Y' N L c.S c.w0) (hKs : KSub K (M ++ J 0 r0))
    (round : ∀ (l D : Nat) (o1 o1' o2 : Obj) (q : Nat) (g : G) (r : R), q < N → ∀ Z : Act → World → Prop,
      (∀ F2 K1 K2, Pick K1 (.obj l o1) K2 → TWi l { c with D := [] } body (RB { c with D := [] } (fun r' => .obj l o1' :: .obj D o2 :: (Y' q g ++ J (q + 1) r')) jx (fun x => .obj l o1' :: .obj D o2 :: (Y' q g ++ Jx x))) F2 (.obj l o1' :: K2) → TQ { c with D := [] } (fun _ => Z) .normal F2 K1) →
      TWi l { c with D := [] } assign (Exit.then Z (fun _ _ _ => False)) (putF ps (enc q g) F) (.obj l o1 :: .obj D o2 :: (Y q g ++ J q r)))
    (done : ∀ (D : Nat) (r : R), TQ { c with D := { target := .collected D, args := #[] } :: c.D } Q .normal F (.obj D (.deferred (some [])) :: (L ++ J N r)))
    (stop : ∀ (D : Nat) (x : Rx), TW { c with D := { target := .collected D, args := #[] } :: c.D } (jx x) Q F (.obj D (.deferred (some [])) :: Jx x))
    (hg : ev F g = some (.func (.func gf) #[] lb.toArray) := by rfl) (eg : Enters c.P gf) (hps : ∀ q g, (enc q g).length = ps.length := by (intro _ _; rfl)) (hpn : (ps.all fun p => Nat.blt p c.n) = true := by rfl) :
    TW c (.rangeFunc g ps.toArray assign body) Q F K := fun a w hF hK => by
  refine (wpIn_wide (n := 2)).1 (wpIn_rangeFunc fun fn _ => ?_)
  obtain ⟨rc, hrc⟩ : ∃ rc : LoopState → Option Code → Loop, rc = fun st pe => { state := st, pending := pe, fn, tmps := a.tmps, params := ps.toArray, assign, body, defers := w.heap.size } := ⟨_, rfl⟩
  obtain ⟨W1, hW1⟩ : ∃ W1, (w.alloc (.deferred (some []))).alloc (.loop (rc .ready none)) = W1 := ⟨_, rfl⟩
  have hs := ((hK.sub hKs).newO (.deferred (some [])) rfl).newO (.loop (rc .ready none)) rfl
  rw [World.size_alloc, hW1] at hs
  have hFr : FS c.n ({ target := .collected w.heap.size, args := #[] } :: c.D) F { a with defers := [{ target := .collected w.heap.size, args := #[] }] ++ a.defers } := ⟨hF.size, by rw [hF.dfs]; rfl, hF.get⟩
  refine ⟨w.heap.size + 1, [{ target := .collected w.heap.size, args := #[] }], W1, { target := .fn (.func gf) lb.toArray, args := #[.func (.yield (w.heap.size + 1)) #[] #[]] }, W1, gf, (.func (.yield (w.heap.size + 1)) #[] #[] :: lb).toArray, W1, ?_, ?_, fun _ _ => trivial, ?_, fun _ => by decide, ?_⟩
  · rw [← hW1, hrc]; exact run_enterLoop_outer _ _ _ _ _
  · have := hF.evl hg
    simp only [resolve, this]
    simp [go_sem]
  · have := eg (.func (.yield (w.heap.size + 1)) #[] #[] :: lb).toArray W1
    have e : #[Value.func (.yield (w.heap.size + 1)) #[] #[]] ++ lb.toArray = (.func (.yield (w.heap.size + 1)) #[] #[] :: lb).toArray := by simp
    simp only [invoke, e]
    exact this
  · refine callsIn_wide.2 (Calls.mono (it (w.heap.size + 1) R Rx (fun q r => .obj (w.heap.size + 1) (.loop (rc .ready none)) :: .obj w.heap.size (.deferred (some [])) :: J q r) (fun x => .obj (w.heap.size + 1) (.loop (rc .done (some (jx x)))) :: .obj w.heap.size (.deferred (some [])) :: Jx x) r0 W1 (hs.perm (perm_objs M _ _ _).symm) ?_) ?_)
    · intro q g r w' hq hw'
      replace hw' := hw'.perm (perm_objs _ _ _ _)
      have hl : w'.heap[w.heap.size + 1]? = some (.loop (rc .ready none)) := (hw'.holds (.obj _ _) (by simp)).1
      have hy := run_yield (P := c.P) (args := (enc q g).toArray) hl (by rw [hrc]; simp [hps q g])
      rw [hrc] at hy
      refine ⟨fn, _, assign, body, hy, roundIn_of_wpIn trivial ?_⟩
      have hF0 : FS c.n [] F { tmps := a.tmps, defers := [] } := ⟨hF.size, rfl, hF.get⟩
      have hF1 := hF0.putF (vs := enc q g) hpn
      simp only [List.zip_toArray, List.foldl_toArray]
      refine round (w.heap.size + 1) w.heap.size (.loop (rc .ready none)) (.loop { rc .ready none with state := .busy }) (.deferred (some [])) q g r hq _ ?_ _ w' hF1 hw'
      intro F2 K1 K2 hp hb a1 w1 hF2 hK1
      have h1 := hK1.pick hp
      have hl1 : w1.heap[w.heap.size + 1]? = some (.loop (rc .ready none)) := (h1.holds (.obj _ _) (by simp)).1
      refine ⟨_, run_beginRound hl1 (by rw [hrc]), wpIn_mono (hb a1 _ hF2 (h1.putO rfl)) ?_⟩
      have fin : ∀ (jump : Option Code) (w3 : World), w3.heap[w.heap.size + 1]? = some (.loop { rc .ready none with state := .busy }) → (Instr.endRound (w.heap.size + 1) jump).run c.P w3 = .ok (.bool jump.isNone) (w3.putObj (w.heap.size + 1) (.loop (rc (if jump.isNone then .ready else .done) jump))) := fun jump w3 h3 => by
        have := run_endRound (P := c.P) jump h3
        rw [hrc] at this ⊢
        exact this
      rintro e a3 w3 he
      cases e with
      | normal =>
        obtain ⟨r', h3⟩ := he
        exact ⟨_, _, fin none w3 (h3.holds (.obj _ _) (by simp)).1, .inl ⟨rfl, r', (h3.putO rfl).perm (perm_objs _ _ _ _).symm⟩⟩
      | ret =>
        obtain ⟨x, hx, h3⟩ := he
        exact ⟨_, _, fin (some .ret) w3 (h3.holds (.obj _ _) (by simp)).1, .inr ⟨rfl, x, by rw [hx]; exact (h3.putO rfl).perm (perm_objs _ _ _ _).symm⟩⟩
      | exit i =>
        obtain ⟨x, hx, h3⟩ := he
        exact ⟨_, _, fin (some (.exit i)) w3 (h3.holds (.obj _ _) (by simp)).1, .inr ⟨rfl, x, by rw [hx]; exact (h3.putO rfl).perm (perm_objs _ _ _ _).symm⟩⟩
      | goto t => exact he.elim
      | panic ch => exact he.elim
      | outgrown => exact he.elim
    · rintro e w2 ⟨⟨v, rfl⟩, ⟨r, h2⟩ | ⟨x, h2⟩⟩
      · replace h2 := h2.perm (perm_objs _ _ _ _)
        have hl : w2.heap[w.heap.size + 1]? = some (.loop (rc .ready none)) := (h2.holds (.obj _ _) (by simp)).1
        refine ⟨none, _, by have := run_endLoop (P := c.P) hl (by rw [hrc]; simp); rw [hrc] at this; exact this, ?_⟩
        exact done w.heap.size r _ _ hFr ((h2.putO rfl).sub (KSub.drop (KSub.refl _)))
      · have hl : w2.heap[w.heap.size + 1]? = some (.loop (rc .done (some (jx x)))) := (h2.holds (.obj _ _) (by simp)).1
        refine ⟨some (jx x), _, by have := run_endLoop (P := c.P) hl (by rw [hrc]; simp); rw [hrc] at this; exact this, ?_⟩
        exact (wpIn_wide (n := 2)).2 (stop w.heap.size x _ _ hFr ((h2.putO rfl).sub (KSub.drop (KSub.refl _))))
theorem K_enterM {P : Program} {f : FuncId} {fn : Func} {code : Code} {n : Nat} {args : List Value} {R : Ending → World → Prop} {w w0 : World} {S : List Nat} {K : List Fact} (hf : P.funcs[f]? = some fn) (hb : fn.body = some code) (hn : fn.ntmps = n) (hl : Nat.ble args.length n = true) (hS : Sat S w0 K w)
    (h : TW ⟨P, n, [], S, w0⟩ code (bodyPostM Fence.wide 2 P fn R) (zipF 0 args) K) : Calls P f args.toArray w R := by
  refine calls_of_marks hf hb ?_
  rw [hn]
  exact h _ _ (FS.start (Nat.le_of_ble_eq_true hl)) hS
theorem K_enterW {P : Program} {f : FuncId} {fn : Func} {code : Code} {n : Nat} {args : List Value} {R : Ending → World → Prop} {w w0 : World} {S : List Nat} {K : List Fact} (hf : P.funcs[f]? = some fn) (hb : fn.body = some code) (hn : fn.ntmps = n) (hl : Nat.ble args.length n = true) (hS : Sat S w0 K w)
    (h : TW ⟨P, n, [], S, w0⟩ code (bodyPost P fn R) (zipF 0 args) K) : Calls P f args.toArray w R := by
  refine calls_of_wp hf hb ?_
  rw [hn]
  exact h _ _ (FS.start (Nat.le_of_ble_eq_true hl)) hS
theorem TQ.retM {fn : Func} {R : Ending → World → Prop} {rs : List ResultVar} {vs : List Value} {D : Nat} (hr : fn.results = rs.toArray) (hp : Pick K (.obj D (.deferred (some []))) K') (hv : RV c F K' rs vs) (h : ∀ w, Sat c.S c.w0 K' w → R (.returned (retV vs)) w) (hD : c.D = [{ target := .collected D, args := #[] }] := by rfl) : TQ c (bodyPostM Fence.wide 2 c.P fn R) .ret F K := fun a w hF hK => by
  have h1 := hK.pick hp
  have hd : w.heap[D]? = some (.deferred (some [])) := (h1.holds (.obj _ _) (by simp)).1
  have h2 : Sat c.S c.w0 K' (w.putObj D (.deferred none)) := (h1.putO (o' := .deferred none) rfl).sub (KSub.drop (KSub.refl _))
  obtain ⟨t, ds⟩ := a
  have e : ds = [{ target := .collected D, args := #[] }] := hF.dfs.trans hD
  subst e
  exact ret_marks hd (hv.results hr hF h2) (h _ h2)
end
end Go.Proofs.YtjephihlkjpohaaGreatDoor
namespace Go.Proofs.YtjephihlkjpohaaGreatDoor
set_option linter.all false
set_option linter.unusedVariables false
set_option linter.unusedSimpArgs false
open Go.RowKit
section
variable {c : Cx} {F : Fr} {K K' : List Fact}
theorem TW.seqD {Q : Exit → Act → World → Prop} {x y : Code} (h : ∀ Y : Act → World → Prop, (∀ D F K, TW { c with D := D } y Q F K → TQ { c with D := D } (fun _ => Y) .normal F K) → TW c x (Exit.then Y Q) F K) : TW c (.seq x y) Q F K := fun a w hF hK =>
  wp_seq (h (y.wp c.P Q) (fun _ _ _ h => h) a w hF hK)
theorem TQ.panM {fn : Func} {R : Ending → World → Prop} {ch : List PanicEntry} {D : Nat} (hp : Pick K (.obj D (.deferred (some []))) K') (h : ∀ w, Sat c.S c.w0 K' w → R (.panicked ch) w) (hD : c.D = [{ target := .collected D, args := #[] }] := by rfl) : TQ c (bodyPostM Fence.wide 2 c.P fn R) (.panic ch) F K := fun a w hF hK => by
  have h1 := hK.pick hp
  have hd : w.heap[D]? = some (.deferred (some [])) := (h1.holds (.obj _ _) (by simp)).1
  have h2 : Sat c.S c.w0 K' (w.putObj D (.deferred none)) := (h1.putO (o' := .deferred none) rfl).sub (KSub.drop (KSub.refl _))
  obtain ⟨t, ds⟩ := a
  have e : ds = [{ target := .collected D, args := #[] }] := hF.dfs.trans hD
  subst e
  exact ⟨by simp, .inl ⟨D, _, rfl, run_takeDeferred hd, h _ h2⟩⟩
end
end Go.Proofs.YtjephihlkjpohaaGreatDoor
namespace Go.Proofs.YtjephihlkjpohaaGreatDoor
set_option linter.all false
set_option linter.unusedVariables false
set_option linter.unusedSimpArgs false
open Go.RowKit
theorem sets_any {w : World} {A : Option Addr} {n cp : Nat} : CallsK Tryz.prog 95 #[.slice A n cp] [] w Nat (fun b => .func (.func 131) #[] #[.pointer (some ⟨b, 0, none⟩)]) (fun b => [.blk b 24 [.slice A n cp]]) := by
  refine K_enter (S := []) (K := []) Tryz.func95 rfl Tryz.ntmps95 rfl (Sat.start _) ?_
  refine TW.seq fun Y1 hY1 => ?_
  refine TW.region ?_
  refine TL.m Mk.bx ?_
  intro b1
  refine TL.p Pu.as ?_
  refine TL.nil ?_
  refine TQ.thenN (hY1 _ _ ?_)
  refine TW.seq fun Y2 hY2 => ?_
  refine TW.region ?_
  refine TL.p Pu.fn ?_
  refine TL.p Pu.as ?_
  refine TL.nil ?_
  refine TQ.thenN (hY2 _ _ ?_)
  refine TW.ret ?_
  refine TQ.ret Tryz.results95 rfl ((.tmp rfl .nil)) ?_
  exact fun w hw => ⟨b1, rfl, hw.sub (by repeat (first | exact KSub.nil | refine KSub.cons (by repeat (first | exact Pick.hd | apply Pick.tl)) ?_))⟩
def setsM (A : Option Addr) (n cp b : Nat) (L : List Int) : List Fact := [.blk b 24 [.slice A n cp], .own A n cp 3 1 (iL L)]
def setsY (A : Option Addr) (n cp b : Nat) (L : List Int) (q : Nat) (g : Option Addr × Nat) : List Fact := .own g.1 (sel L q n).length g.2 3 1 (iL (sel L q n)) :: setsM A n cp b L
set_option maxRecDepth 100000 in
set_option maxHeartbeats 1000000 in
theorem sets1_iter {A : Option Addr} {n cp b : Nat} {L : List Int} {S : List Nat} {W0 : World} (hn : n = L.length) (h1 : n ≤ 30) :
    IterK Tryz.prog 131 [.pointer (some ⟨b, 0, none⟩)] (setsM A n cp b L) (Option Addr × Nat) (fun q g => [.slice g.1 (sel L q n).length g.2]) (setsY A n cp b L) (fun _ _ => setsM A n cp b L) (2 ^ n) (setsM A n cp b L) S W0 := by
  intro lY R Rx J Jx r0 W hS hround
  have hpow : 2 ^ n ≤ 1073741824 := Nat.le_trans (Nat.pow_le_pow_right (by omega) h1) (by decide)
  refine K_enterW (S := S) (K := .blk b 24 [.slice A n cp] :: .own A n cp 3 1 (iL L) :: J 0 r0) Tryz.func131 rfl Tryz.ntmps131 rfl hS ?_
  refine TW.seq fun Y1 hY1 => ?_
  refine TW.region ?_
  refine TL.p (by first | exact (Pu.ld ty_sc24) | exact (Pu.ldo ty_sc24)) ?_
  refine TL.p (Pu.ln Tryz.underlying24) ?_
  refine TL.p Pu.sl1 ?_
  refine TL.p Pu.mv ?_
  refine TL.nil ?_
  refine TQ.thenN (hY1 _ _ ?_)
  refine TW.block ?_
  refine TW.loop2 (fun (q : Nat) (r : R) => [(10, .int .i64 (q : Int)), (9, .int .i64 ((2 ^ n : Nat) : Int)), (0, .func (.yield lY) #[] #[]), (1, .pointer (some ⟨b, 0, none⟩))]) (fun q r => .blk b 24 [.slice A n cp] :: .own A n cp 3 1 (iL L) :: J q r) (fun q r => q ≤ 2 ^ n) (fun q r => 2 ^ n - q) 0 r0 (by repeat (first | exact trivial | refine ⟨rfl, ?_⟩ | refine ⟨trivial, ?_⟩)) ?_ ?_ ?_
  · exact (by repeat (first | exact KSub.nil | refine KSub.cons (by repeat (first | exact Pick.hd | apply Pick.tl)) ?_ | exact KSub.refl _ | refine KSub.drop ?_))
  · exact Nat.zero_le _
  rintro q r hq Z0 hZ0
  refine TW.seq fun Y2 hY2 => ?_
  refine TW.region ?_
  refine TL.p Pu.lt ?_
  refine TL.nil ?_
  refine TQ.thenN (hY2 _ _ ?_)
  refine TW.seq fun Y3 hY3 => ?_
  refine TW.cond rfl (fun hc0 => ?_) (fun hc0 => ?_)
  · try simp only [decide_eq_true_eq, decide_eq_false_iff_not, Bool.not_eq_true', Bool.not_eq_false', Bool.and_eq_true, Bool.or_eq_true, Bool.and_eq_false_iff, Bool.or_eq_false_iff, Int.not_lt, Int.not_le] at hc0
    have hqn : q < 2 ^ n := by omega
    refine TW.skip ?_
    refine TQ.thenN (hY3 _ _ ?_)
    refine TW.seq fun Y4 hY4 => ?_
    refine TW.block ?_
    refine TW.seq fun Y5 hY5 => ?_
    refine TW.region ?_
    refine TL.p Pu.mv ?_
    refine TL.p Pu.as ?_
    refine TL.nil ?_
    refine TQ.thenN (hY5 _ _ ?_)
    refine TW.seq fun Y6 hY6 => ?_
    refine TW.region ?_
    refine TL.p Pu.as ?_
    refine TL.nil ?_
    refine TQ.thenN (hY6 _ _ ?_)
    refine TW.seq fun Y7 hY7 => ?_
    refine TW.seq fun Y8 hY8 => ?_
    refine TW.region ?_
    refine TL.p (by first | exact (Pu.ld ty_sc24) | exact (Pu.ldo ty_sc24)) ?_
    refine TL.p (Pu.ln Tryz.underlying24) ?_
    refine TL.p Pu.mv ?_
    refine TL.nil ?_
    refine TQ.thenN (hY8 _ _ ?_)
    refine TW.block ?_
    refine TW.loop5 (fun (i : Nat) (B : Option Addr) (cb : Nat) (T : List Int) (t : Nat) => [(15, .int .i64 (i : Int)), (14, .int .i64 (n : Int)), (13, .slice A n cp), (4, .slice B t cb), (3, .int .i64 (q : Int)), (10, .int .i64 (q : Int)), (9, .int .i64 ((2 ^ n : Nat) : Int)), (0, .func (.yield lY) #[] #[]), (1, .pointer (some ⟨b, 0, none⟩))]) (fun i B cb T t => .own B t cb 3 1 (iL T) :: .blk b 24 [.slice A n cp] :: .own A n cp 3 1 (iL L) :: J q r) (fun i B cb T t => i ≤ n ∧ t = T.length ∧ T = sel L q i) (fun i B cb T t => n - i) 0 none 0 [] 0 (by repeat (first | exact trivial | refine ⟨rfl, ?_⟩ | refine ⟨trivial, ?_⟩)) ?_ ?_ ?_
    · exact KSub.nilOwn (KSub.refl _)
    · exact ⟨Nat.zero_le _, rfl, rfl⟩
    rintro i B cb T t ⟨hi, ht, hT⟩ Z1 hZ1
    have htl : t ≤ i := by rw [ht, hT]; exact sel_len i
    refine TW.seq fun Y9 hY9 => ?_
    refine TW.region ?_
    refine TL.p Pu.lt ?_
    refine TL.nil ?_
    refine TQ.thenN (hY9 _ _ ?_)
    refine TW.seq fun Y10 hY10 => ?_
    refine TW.cond rfl (fun hc1 => ?_) (fun hc1 => ?_)
    · try simp only [decide_eq_true_eq, decide_eq_false_iff_not, Bool.not_eq_true', Bool.not_eq_false', Bool.and_eq_true, Bool.or_eq_true, Bool.and_eq_false_iff, Bool.or_eq_false_iff, Int.not_lt, Int.not_le] at hc1
      have hin : i < n := by omega
      refine TW.skip ?_
      refine TQ.thenN (hY10 _ _ ?_)
      refine TW.seq fun Y11 hY11 => ?_
      refine TW.block ?_
      refine TW.seq fun Y12 hY12 => ?_
      refine TW.region ?_
      refine TL.p Pu.mv ?_
      refine TL.p (Pu.el ty_et24) ?_
      refine TL.p (by first | exact (Pu.ld ty_sc3) | exact (Pu.ldo ty_sc3)) ?_
      refine TL.p Pu.as ?_
      refine TL.p Pu.as ?_
      refine TL.nil ?_
      refine TQ.thenN (hY12 _ _ ?_)
      refine TW.seq fun Y13 hY13 => ?_
      refine TW.region ?_
      refine TL.p Pu.mv ?_
      refine TL.p Pu.mv ?_
      refine TL.p Pu.srN ?_
      refine TL.p (Pu.an1 (hm := by have := Nat.div_le_self q (2 ^ i); omega)) ?_
      refine TL.p Pu.eq ?_
      refine TL.nil ?_
      refine TQ.thenN (hY13 _ _ ?_)
      refine TW.cond rfl (fun hc2 => ?_) (fun hc2 => ?_)
      · try simp only [decide_eq_true_eq, decide_eq_false_iff_not, Bool.not_eq_true', Bool.not_eq_false', Bool.and_eq_true, Bool.or_eq_true, Bool.and_eq_false_iff, Bool.or_eq_false_iff, Int.not_lt, Int.not_le] at hc2
        have hbit : q / 2 ^ i % 2 = 1 := by omega
        obtain ⟨T', hT'⟩ : ∃ y, y = T ++ [L.getD i 0] := ⟨_, rfl⟩
        have s1 : t + 1 = T'.length := by rw [hT', List.length_append, ← ht]; rfl
        have s2 : T' = sel L q (i + 1) := by rw [hT', hT]; simp only [sel]; rw [if_pos hbit]
        refine TW.region ?_
        refine TL.p Pu.mv ?_
        refine TL.p Pu.mv ?_
        refine TL.m Mk.bl ?_
        intro b1
        first | refine TL.a0 ty_et24 ?_ | refine TL.ap ty_et24 ?_
        intro A2 c2
        refine TL.p Pu.as ?_
        refine TL.nil ?_
        refine TQ.blkN ?_
        refine TQ.thenN (hY11 _ _ ?_)
        refine TW.region ?_
        refine TL.p Pu.ad ?_
        refine TL.p Pu.mv ?_
        refine TL.nil ?_
        refine TQ.thenN (hZ1 (i + 1) _ _ T' _ _ _ ?_ ?_ (by repeat (first | exact trivial | refine ⟨rfl, ?_⟩ | refine ⟨trivial, ?_⟩)) ?_)
        · exact ⟨by omega, s1, s2⟩
        · exact (by first | omega | (simp only []; omega) | (simp; omega))
        · first
            | exact KSub.own Pick.hd (iL_app ht hT' rfl) (KSub.drop (KSub.refl _))
            | exact KSub.own Pick.hd (iL_app ht hT' rfl) (KSub.refl _)
            | exact KSub.own Pick.hd (fun i _ => by rw [hT']) (KSub.refl _)
      · try simp only [decide_eq_true_eq, decide_eq_false_iff_not, Bool.not_eq_true', Bool.not_eq_false', Bool.and_eq_true, Bool.or_eq_true, Bool.and_eq_false_iff, Bool.or_eq_false_iff, Int.not_lt, Int.not_le] at hc2
        have hbit : ¬ q / 2 ^ i % 2 = 1 := by omega
        obtain ⟨T', hT'⟩ : ∃ y, y = T := ⟨_, rfl⟩
        have s1 : t = T'.length := by rw [hT', ← ht]
        have s2 : T' = sel L q (i + 1) := by rw [hT', hT]; simp only [sel]; rw [if_neg hbit]
        refine TW.skip ?_
        refine TQ.blkN ?_
        refine TQ.thenN (hY11 _ _ ?_)
        refine TW.region ?_
        refine TL.p Pu.ad ?_
        refine TL.p Pu.mv ?_
        refine TL.nil ?_
        refine TQ.thenN (hZ1 (i + 1) _ _ T' _ _ _ ?_ ?_ (by repeat (first | exact trivial | refine ⟨rfl, ?_⟩ | refine ⟨trivial, ?_⟩)) ?_)
        · exact ⟨by omega, s1, s2⟩
        · exact (by first | omega | (simp only []; omega) | (simp; omega))
        · first
            | exact KSub.own Pick.hd (iL_app ht hT' rfl) (KSub.drop (KSub.refl _))
            | exact KSub.own Pick.hd (iL_app ht hT' rfl) (KSub.refl _)
            | exact KSub.own Pick.hd (fun i _ => by rw [hT']) (KSub.refl _)
    · try simp only [decide_eq_true_eq, decide_eq_false_iff_not, Bool.not_eq_true', Bool.not_eq_false', Bool.and_eq_true, Bool.or_eq_true, Bool.and_eq_false_iff, Bool.or_eq_false_iff, Int.not_lt, Int.not_le] at hc1
      obtain rfl : i = n := by omega
      subst hT ht
      refine TW.exit ?_
      refine TQ.thenX ?_
      refine TQ.thenX ?_
      refine TQ.blkX ?_
      refine TQ.thenN (hY7 _ _ ?_)
      refine TW.seq fun Y14 hY14 => ?_
      refine TW.regionI ?_
      refine TLi.op (fun U1 hU1 => ?_) (by rintro ⟨_, _, h⟩; first | exact h | (obtain ⟨⟨_, h⟩, _⟩ := h; cases h) | cases h)
      refine TL.p Pu.mv ?_
      refine TL.nil ?_
      refine TQ.nxt (hU1 _ _ ?_)
      refine TLi.op (fun U2 hU2 => ?_) (by rintro ⟨_, _, h⟩; first | exact h | (obtain ⟨⟨_, h⟩, _⟩ := h; cases h) | cases h)
      refine TL.p Pu.mv ?_
      refine TL.nil ?_
      refine TQ.nxt (hU2 _ _ ?_)
      refine TLi.yi rfl rfl (fun w hw => by
          exact hround q (B, cb) r w hqn hw) ?_ ?_
      · intro r'
        refine TLi.op (fun U3 hU3 => ?_) (by rintro ⟨_, _, h⟩; first | exact h | (obtain ⟨⟨_, h⟩, _⟩ := h; cases h) | cases h)
        refine TL.p Pu.no ?_
        refine TL.nil ?_
        refine TQ.nxt (hU3 _ _ ?_)
        refine TLi.nil ?_
        refine TQ.thenN (hY14 _ _ ?_)
        refine TW.condF rfl rfl ?_
        refine TW.skip ?_
        refine TQ.blkN ?_
        refine TQ.thenN (hY4 _ _ ?_)
        refine TW.region ?_
        refine TL.p Pu.ad ?_
        refine TL.p Pu.mv ?_
        refine TL.nil ?_
        refine TQ.thenN (hZ0 (q + 1) r' _ _ ?_ ?_ (by repeat (first | exact trivial | refine ⟨rfl, ?_⟩ | refine ⟨trivial, ?_⟩)) ?_)
        · exact (by omega)
        · exact (by first | omega | (simp only []; omega) | (simp; omega))
        · exact KSub.refl _
      · intro x
        refine TLi.op (fun U4 hU4 => ?_) (by rintro ⟨_, _, h⟩; first | exact h | (obtain ⟨⟨_, h⟩, _⟩ := h; cases h) | cases h)
        refine TL.p Pu.no ?_
        refine TL.nil ?_
        refine TQ.nxt (hU4 _ _ ?_)
        refine TLi.nil ?_
        refine TQ.thenN (hY14 _ _ ?_)
        refine TW.condT rfl rfl ?_
        refine TW.ret ?_
        refine TQ.blkR ?_
        refine TQ.thenR ?_
        refine TQ.thenR ?_
        refine TQ.blkR ?_
        refine TQ.ret Tryz.results131 rfl (.nil) ?_
        exact fun w hw => ⟨⟨_, rfl⟩, .inr ⟨x, hw.sub (KSub.dropL _ (KSub.refl _))⟩⟩
  · try simp only [decide_eq_true_eq, decide_eq_false_iff_not, Bool.not_eq_true', Bool.not_eq_false', Bool.and_eq_true, Bool.or_eq_true, Bool.and_eq_false_iff, Bool.or_eq_false_iff, Int.not_lt, Int.not_le] at hc0
    obtain rfl : q = 2 ^ n := by omega
    refine TW.exit ?_
    refine TQ.thenX ?_
    refine TQ.thenX ?_
    refine TQ.blkX ?_
    refine TQ.end Tryz.results131 rfl (.nil) ?_
    exact fun w hw => ⟨⟨_, rfl⟩, .inl ⟨r, hw⟩⟩
end Go.Proofs.YtjephihlkjpohaaGreatDoor
