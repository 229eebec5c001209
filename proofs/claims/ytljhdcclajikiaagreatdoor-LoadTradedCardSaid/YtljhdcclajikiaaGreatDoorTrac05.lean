/-
  Part 5 of the proof of loadTraded_holds: declarations of several texts, in build order. No condition on a program.
-/
import Derived.Test.YtljhdcclajikiaaGreatDoorTrac04
namespace Go.Proofs.YtljhdcclajikiaaGreatDoor
set_option linter.all false
set_option linter.unusedVariables false
set_option linter.unusedSimpArgs false
open Go.RowKit
theorem everyPack_any {g : FuncId} {fs cs : List Value} {A : Option Addr} {n cp : Nat} {v : Nat → Nat → Int} {p : Nat → Bool} {w : World} (hen : Enters Tryz.prog g) (hn : n ≤ 9223372036854775807)
    (hR : RdR w 11 A n (fun k => packL (v k))) (hg : ∀ k, k < n → ∀ w', Below w.heap.size w w' → Calls Tryz.prog g (fs ++ [Value.agg (packL (v k)).toArray] ++ cs).toArray w' (Ret w' (.bool (p k)))) :
    Calls Tryz.prog 55 #[.slice A n cp, .func (.func g) fs.toArray cs.toArray] w (Ret w (.bool (allB n p))) :=
  CallsK.retOf (everyPack_st (M := fun _ => []) hen hn hR (fun _ => Apart.nil) (Sat.start w) (fun _ => rfl) fun k hk _ w' hw' => CallsK.ret (hg k hk w' (Chg.ext hw'.chg))) fun x => by
    rw [x.any]
    show Value.bool (!anyB n fun k => !p k) = _
    rw [not_anyB]
    simp
def lst (l : Nat → Nat) (v : Nat → Nat → Int) (j : Nat) : List Int := (List.range (l j)).map (v j)
def lsts (l : Nat → Nat) (v : Nat → Nat → Int) : Nat → List Int
  | 0 => []
  | j + 1 => lsts l v j ++ lst l v j
def held (l : Nat → Nat → Nat) (v : Nat → Nat → Nat → Int) : Nat → List Int
  | 0 => []
  | i + 1 => held l v i ++ lsts (l i) (v i) 3
theorem lsts_length (l : Nat → Nat) (v : Nat → Nat → Int) : ∀ j, (lsts l v j).length = tot l j
  | 0 => rfl
  | j + 1 => by simp [lsts, tot, lst, lsts_length l v j]
def markAll (xs : List Int) : List (Int × Value) := xs.foldl (fun m x => mput x (.bool true) m) []
theorem markAll_snoc (xs : List Int) (x : Int) : markAll (xs ++ [x]) = mput x (.bool true) (markAll xs) := by simp [markAll]
def tieOk (np : Nat) (l : Nat → Nat) (v : Nat → Nat → Int) : Bool := allB 3 (fun j => allB (l j) (riseP (v j) np)) && decide (tot l 3 ≤ 10)
def packsOk (np : Nat) (pk : Nat → Nat → Int) : Bool := decide ((np : Int) ≤ 30) && allB np fun k => packOk (pk k)
def tiesOk (np m : Nat) (l : Nat → Nat → Nat) (v : Nat → Nat → Nat → Int) : Bool := allB m (fun i => tieOk np (l i) (v i)) && (decide ((m : Int) ≤ 8) && decide (((markAll (held l v m)).length : Int) = ((held l v m).length : Int)))
def checkV (np : Nat) (pk : Nat → Nat → Int) (m : Nat) (l : Nat → Nat → Nat) (v : Nat → Nat → Nat → Int) : Int := if packsOk np pk then (if tiesOk np m l v then 0 else 51) else 50
theorem Try.bad {w w' : World} {code code' : Int} {v : Value} {S : List Nat} {L : List Fact} (e : code' ≠ 0) (h : code = code') (hS : S = []) (hs : Sat S w L w') : Try w errs code v (.panicked (errs code')) w' := by
  subst h hS
  exact Try.no e hs
theorem need_no {b : Bool} {e : Int} (h : (if b then (0 : Int) else e) ≠ 0) : b = false ∧ (if b then (0 : Int) else e) = e := by
  cases b with
  | true => exact absurd rfl h
  | false => exact ⟨rfl, rfl⟩
theorem need_yes {b : Bool} {e : Int} (he : e ≠ 0) (h : (if b then (0 : Int) else e) = 0) : b = true := by
  cases b with
  | true => rfl
  | false => exact absurd h he
section
variable {np m i j : Nat} {pk : Nat → Nat → Int} {l : Nat → Nat → Nat} {v : Nat → Nat → Nat → Int} {w w' : World} {L : List Fact}
theorem check_p1 (h : (if (decide ((np : Int) ≤ 30) && allB np fun k => packOk (pk k)) then (0 : Int) else 50) ≠ 0) (hw : Sat [] w L w') : Try w errs (checkV np pk m l v) (.tuple #[]) (.panicked (errs (if (decide ((np : Int) ≤ 30) && allB np fun k => packOk (pk k)) then (0 : Int) else 50))) w' := by
  obtain ⟨h1, h2⟩ := need_no h
  have h3 : packsOk np pk = false := h1
  exact Try.bad h (by unfold checkV; rw [h2, h3]; rfl) rfl hw
theorem check_p {b : Bool} (hp : packsOk np pk = true) (h : (if b then (0 : Int) else 51) ≠ 0) (ht : b = false → tiesOk np m l v = false) (hw : Sat [] w L w') : Try w errs (checkV np pk m l v) (.tuple #[]) (.panicked (errs (if b then (0 : Int) else 51))) w' := by
  obtain ⟨h1, h2⟩ := need_no h
  exact Try.bad h (by unfold checkV; rw [h2, hp, ht h1]; rfl) rfl hw
theorem ties_no (hi : i < m) (h : tieOk np (l i) (v i) = false) : tiesOk np m l v = false := by
  cases hb : allB m (fun i => tieOk np (l i) (v i)) with
  | false => unfold tiesOk; rw [hb]; rfl
  | true =>
    have := allB_iff.1 hb i hi
    rw [h] at this
    cases this
theorem ties_no2 (hi : i < m) (hj : j < 3) (h : allB (l i j) (riseP (v i j) np) = false) : tiesOk np m l v = false := by
  refine ties_no hi ?_
  cases hb : allB 3 (fun j => allB (l i j) (riseP (v i j) np)) with
  | false => unfold tieOk; rw [hb]; rfl
  | true =>
    have := allB_iff.1 hb j hj
    rw [h] at this
    cases this
theorem ties_no3 (hi : i < m) (h : decide ((tot (l i) 3 : Int) ≤ 10) = false) : tiesOk np m l v = false := by
  refine ties_no hi ?_
  have h' : ¬ (tot (l i) 3 : Int) ≤ 10 := by simpa using h
  have h'' : decide (tot (l i) 3 ≤ 10) = false := by simp; omega
  unfold tieOk
  rw [h'', Bool.and_false]
end
set_option maxRecDepth 100000 in
theorem index_tie (a : Nat → Option Addr) (l c : Nat → Nat) (j : Nat) (hj : j < 3) (w : World) : (Instr.index 35 (.agg (tieL a l c).toArray) (.int .i64 (j : Int))).run Tryz.prog w = .ok (.slice (a j) (l j) (c j)) w := by
  have h : j = 0 ∨ j = 1 ∨ j = 2 := by omega
  rcases h with rfl | rfl | rfl
  · unfold tieL; go_simp; rfl
  · unfold tieL; go_simp; rfl
  · unfold tieL; go_simp; rfl
set_option maxRecDepth 100000 in
theorem check_any {A A2 : Option Addr} {np cp m cp2 : Nat} {pk : Nat → Nat → Int} {a : Nat → Nat → Option Addr} {l c : Nat → Nat → Nat} {v : Nat → Nat → Nat → Int} {w : World} (hG : None0 w) (hnp : np ≤ 1000000000) (hm : m ≤ 1000)
    (hR : RdR w 11 A np (fun k => packL (pk k))) (hT : RdR w 3 A2 m (fun i => tieL (a i) (l i) (c i))) (hI : ∀ i, i < m → ∀ j, j < 3 → RdR w 1 (a i j) (l i j) (fun k => [.int .i64 (v i j k)])) (hL : ∀ i, i < m → tot (l i) 3 ≤ 1000) :
    Calls Tryz.prog 29 #[.slice A np cp, .slice A2 m cp2] w (Try w errs (checkV np pk m l v) (.tuple #[])) := by
  refine K_enter (S := []) (K := []) Tryz.func29 rfl Tryz.ntmps29 rfl (Sat.start _) ?_
  refine TW.seq fun Y1 hY1 => ?_
  refine TW.region ?_
  refine TL.p Pu.mv ?_
  refine TL.p (Pu.ln Tryz.underlying22) ?_
  refine TL.p Pu.le ?_
  refine TL.p Pu.mv ?_
  refine TL.mid 7 [(18, .bool (decide ((np : Int) ≤ 30) && allB np fun k => packOk (pk k)))] ?_ (fun hM1 => ?_)
  · simp only [List.toList_toArray, List.drop_succ_cons, List.drop_zero]
    refine TL.ct rfl (enters Tryz.func40 rfl rfl) (fun w hw => by
        exact need_any _ _ _ (by decide)) (fun hp1 => ?_) (fun hp1 => ?_)
    rotate_left
    · refine TQ.thenP ?_
      refine TQ.pan rfl ?_
      first
        | exact fun w hw => check_p1 hp1 hw
        | exact fun w hw => check_p hp1 hp2 (fun h => ties_no2 him hj3 h) hw
        | exact fun w hw => check_p hp1 hp3 (fun h => ties_no3 him h) hw
        | exact fun w hw => check_p hp1 hp4 (fun h => by unfold tiesOk; rw [← hz, h, Bool.and_false]) hw
    refine TL.nil ?_
    refine TQ.thenN (hY1 _ _ ?_)
    refine TW.seq fun Y2 hY2 => ?_
    refine TW.region ?_
    refine TL.mm (kk := .i64) ?_
    intro b1
    refine TL.p Pu.as ?_
    refine TL.nil ?_
    refine TQ.thenN (hY2 _ _ ?_)
    refine TW.seq fun Y3 hY3 => ?_
    refine TW.region ?_
    refine TL.p Pu.as ?_
    refine TL.nil ?_
    refine TQ.thenN (hY3 _ _ ?_)
    refine TW.seq fun Y4 hY4 => ?_
    refine TW.seq fun Y5 hY5 => ?_
    refine TW.region ?_
    refine TL.p Pu.mv ?_
    refine TL.p (Pu.ln Tryz.underlying23) ?_
    refine TL.p Pu.mv ?_
    refine TL.nil ?_
    refine TQ.thenN (hY5 _ _ ?_)
    refine TW.block ?_
    have hp1 : packsOk np pk = true := by
      exact need_yes (by decide) hp1
    have hnp30 : np ≤ 30 := by
      simp only [packsOk, Bool.and_eq_true, decide_eq_true_eq] at hp1
      omega
    refine TW.loop2 (fun (i : Nat) (z : Int) => [(23, .int .i64 (i : Int)), (22, .int .i64 (m : Int)), (21, .slice A2 m cp2), (0, .slice A np cp), (1, .slice A2 m cp2), (4, .map (some b1)), (5, .int .i64 z)]) (fun i z => [.obj b1 (mapO .i64 (markAll (held l v i)))]) (fun i z => i ≤ m ∧ z = ((held l v i).length : Int) ∧ z ≤ 1000 * i ∧ ∀ i', i' < i → tieOk np (l i') (v i') = true) (fun i z => m - i) 0 _ (by repeat (first | exact trivial | refine ⟨rfl, ?_⟩ | refine ⟨trivial, ?_⟩)) ?_ ?_ ?_
    · exact (by repeat (first | exact KSub.nil | refine KSub.cons (by repeat (first | exact Pick.hd | apply Pick.tl)) ?_))
    · exact ⟨by omega, rfl, by decide, fun i' h => by omega⟩
    rintro i z ⟨hi, hz, hzb, hoks⟩ Z0 hZ0
    refine TW.seq fun Y6 hY6 => ?_
    refine TW.region ?_
    refine TL.p Pu.lt ?_
    refine TL.nil ?_
    refine TQ.thenN (hY6 _ _ ?_)
    refine TW.seq fun Y7 hY7 => ?_
    refine TW.cond rfl (fun hc0 => ?_) (fun hc0 => ?_)
    · try simp only [decide_eq_true_eq, decide_eq_false_iff_not, Bool.not_eq_true', Bool.not_eq_false', Bool.and_eq_true, Bool.or_eq_true, Bool.and_eq_false_iff, Bool.or_eq_false_iff, Int.not_lt, Int.not_le] at hc0
      have him : i < m := by omega
      have hLi := hL i him
      have hIi := hI i him
      refine TW.skip ?_
      refine TQ.thenN (hY7 _ _ ?_)
      refine TW.seq fun Y8 hY8 => ?_
      refine TW.block ?_
      refine TW.seq fun Y9 hY9 => ?_
      refine TW.region ?_
      refine TL.p (Pu.el ty_et23) ?_
      refine TL.p (Pu.lds ty_ag34) ?_
      refine TL.m (Mk.al ty_zr34) ?_
      intro b2
      first | refine TL.st ty_sz34 ?_ | refine TL.se ty_sz34 ?_
      refine TL.nil ?_
      refine TQ.thenN (hY9 _ _ ?_)
      refine TW.seq fun Y10 hY10 => ?_
      refine TW.seq fun Y11 hY11 => ?_
      refine TW.region ?_
      refine TL.p (Pu.lds ty_ag34) ?_
      refine TL.cr rfl (enters Tryz.func56 rfl rfl) (fun w hw => by
          exact lists_any _ _ _ _) ?_
      refine TL.p Pu.mv ?_
      refine TL.nil ?_
      refine TQ.thenN (hY11 _ _ ?_)
      refine TW.block ?_
      refine TW.loop2 (fun (j : Nat) (y : Int) => [(29, .int .i64 (j : Int)), (28, .agg (tieL (a i) (l i) (c i)).toArray), (7, .pointer (some ⟨b2, 0, none⟩)), (23, .int .i64 (i : Int)), (22, .int .i64 (m : Int)), (21, .slice A2 m cp2), (0, .slice A np cp), (1, .slice A2 m cp2), (4, .map (some b1)), (5, .int .i64 y)]) (fun j y => [.obj b1 (mapO .i64 (markAll (held l v i ++ lsts (l i) (v i) j))), .blk b2 34 (tieL (a i) (l i) (c i))]) (fun j y => j ≤ 3 ∧ y = z + (tot (l i) j : Int) ∧ ∀ j', j' < j → allB (l i j') (riseP (v i j') np) = true) (fun j y => 3 - j) 0 _ (by repeat (first | exact trivial | refine ⟨rfl, ?_⟩ | refine ⟨trivial, ?_⟩)) ?_ ?_ ?_
      · simp only [lsts, List.append_nil]
        exact KSub.cons (by repeat (first | exact Pick.hd | apply Pick.tl)) (KSub.cons (by repeat (first | exact Pick.hd | apply Pick.tl)) KSub.nil)
      · exact ⟨by omega, by simp [tot], fun j' h => by omega⟩
      rintro j y ⟨hj, hy, hrs⟩ Z1 hZ1
      refine TW.seq fun Y12 hY12 => ?_
      refine TW.region ?_
      refine TL.p Pu.lt ?_
      refine TL.nil ?_
      refine TQ.thenN (hY12 _ _ ?_)
      refine TW.seq fun Y13 hY13 => ?_
      refine TW.cond rfl (fun hc1 => ?_) (fun hc1 => ?_)
      · try simp only [decide_eq_true_eq, decide_eq_false_iff_not, Bool.not_eq_true', Bool.not_eq_false', Bool.and_eq_true, Bool.or_eq_true, Bool.and_eq_false_iff, Bool.or_eq_false_iff, Int.not_lt, Int.not_le] at hc1
        have hj3 : j < 3 := by omega
        have hIj := hIi j hj3
        have htj : tot (l i) j + l i j ≤ tot (l i) 3 := tot_mono (l := l i) (show j + 1 ≤ 3 by omega)
        refine TW.skip ?_
        refine TQ.thenN (hY13 _ _ ?_)
        refine TW.seq fun Y14 hY14 => ?_
        refine TW.block ?_
        refine TW.seq fun Y15 hY15 => ?_
        refine TW.region ?_
        refine TL.p (Pu.ix rfl rfl (fun w => index_tie _ _ _ j (by omega) w)) ?_
        refine TL.p Pu.as ?_
        refine TL.nil ?_
        refine TQ.thenN (hY15 _ _ ?_)
        refine TW.seq fun Y16 hY16 => ?_
        refine TW.region ?_
        refine TL.p Pu.mv ?_
        refine TL.p Pu.mv ?_
        refine TL.p (Pu.ln Tryz.underlying22) ?_
        refine TL.cr rfl (enters Tryz.func57 rfl rfl) (fun w hw => by
            exact rising_any (v := v i j) (by omega) (hIj.sat hw Apart.nil) (by omega) (by omega)) ?_
        refine TL.ct rfl (enters Tryz.func40 rfl rfl) (fun w hw => by
            exact need_any _ _ _ (by decide)) (fun hp2 => ?_) (fun hp2 => ?_)
        rotate_left
        · refine TQ.thenP ?_
          refine TQ.blkP ?_
          refine TQ.thenP ?_
          refine TQ.thenP ?_
          refine TQ.blkP ?_
          refine TQ.thenP ?_
          refine TQ.blkP ?_
          refine TQ.thenP ?_
          refine TQ.thenP ?_
          refine TQ.blkP ?_
          refine TQ.thenP ?_
          refine TQ.pan rfl ?_
          first
            | exact fun w hw => check_p1 hp1 hw
            | exact fun w hw => check_p hp1 hp2 (fun h => ties_no2 him hj3 h) hw
            | exact fun w hw => check_p hp1 hp3 (fun h => ties_no3 him h) hw
            | exact fun w hw => check_p hp1 hp4 (fun h => by unfold tiesOk; rw [← hz, h, Bool.and_false]) hw
        refine TL.nil ?_
        refine TQ.thenN (hY16 _ _ ?_)
        refine TW.seq fun Y17 hY17 => ?_
        refine TW.seq fun Y18 hY18 => ?_
        refine TW.region ?_
        refine TL.p Pu.mv ?_
        refine TL.p (Pu.ln Tryz.underlying24) ?_
        refine TL.p Pu.mv ?_
        refine TL.nil ?_
        refine TQ.thenN (hY18 _ _ ?_)
        refine TW.block ?_
        have hrise : allB (l i j) (riseP (v i j) np) = true := by
          cases h : allB (l i j) (riseP (v i j) np) with
          | true => rfl
          | false => rw [h] at hp2; exact absurd hp2 (by decide)
        refine TW.loop1 (fun (k : Nat) => [(39, .int .i64 (k : Int)), (38, .int .i64 (l i j : Int)), (37, .slice (a i j) (l i j) (c i j)), (9, .slice (a i j) (l i j) (c i j)), (29, .int .i64 (j : Int)), (28, .agg (tieL (a i) (l i) (c i)).toArray), (7, .pointer (some ⟨b2, 0, none⟩)), (23, .int .i64 (i : Int)), (22, .int .i64 (m : Int)), (21, .slice A2 m cp2), (0, .slice A np cp), (1, .slice A2 m cp2), (4, .map (some b1)), (5, .int .i64 y)]) (fun k => [.obj b1 (mapO .i64 (markAll (held l v i ++ lsts (l i) (v i) j ++ (List.range k).map (v i j)))), .blk b2 34 (tieL (a i) (l i) (c i))]) (fun k => k ≤ l i j) (fun k => l i j - k) 0 (by repeat (first | exact trivial | refine ⟨rfl, ?_⟩ | refine ⟨trivial, ?_⟩)) ?_ ?_ ?_
        · simp only [List.range_zero, List.map_nil, List.append_nil]
          exact KSub.cons (by repeat (first | exact Pick.hd | apply Pick.tl)) (KSub.cons (by repeat (first | exact Pick.hd | apply Pick.tl)) KSub.nil)
        · exact Nat.zero_le _
        rintro k hk Z2 hZ2
        refine TW.seq fun Y19 hY19 => ?_
        refine TW.region ?_
        refine TL.p Pu.lt ?_
        refine TL.nil ?_
        refine TQ.thenN (hY19 _ _ ?_)
        refine TW.seq fun Y20 hY20 => ?_
        refine TW.cond rfl (fun hc2 => ?_) (fun hc2 => ?_)
        · try simp only [decide_eq_true_eq, decide_eq_false_iff_not, Bool.not_eq_true', Bool.not_eq_false', Bool.and_eq_true, Bool.or_eq_true, Bool.and_eq_false_iff, Bool.or_eq_false_iff, Int.not_lt, Int.not_le] at hc2
          refine TW.skip ?_
          refine TQ.thenN (hY20 _ _ ?_)
          refine TW.seq fun Y21 hY21 => ?_
          refine TW.block ?_
          refine TW.seq fun Y22 hY22 => ?_
          refine TW.region ?_
          refine TL.p (Pu.el ty_et24) ?_
          refine TL.p (Pu.ld ty_sc3) ?_
          refine TL.p Pu.as ?_
          refine TL.nil ?_
          refine TQ.thenN (hY22 _ _ ?_)
          refine TW.region ?_
          refine TL.p Pu.mv ?_
          refine TL.p Pu.mv ?_
          refine TL.mu ty_mp108 ?_
          refine TL.nil ?_
          refine TQ.blkN ?_
          refine TQ.thenN (hY21 _ _ ?_)
          refine TW.region ?_
          refine TL.p Pu.ad ?_
          refine TL.p Pu.mv ?_
          refine TL.nil ?_
          refine TQ.thenN (hZ2 (k + 1) _ _ ?_ ?_ (by repeat (first | exact trivial | refine ⟨rfl, ?_⟩ | refine ⟨trivial, ?_⟩)) ?_)
          · exact (by omega)
          · exact (by first | omega | (simp only []; omega) | (simp; omega))
          · rw [List.range_succ, List.map_append, ← List.append_assoc, show [k].map (v i j) = [v i j k] from rfl, markAll_snoc]
            exact KSub.cons (by repeat (first | exact Pick.hd | apply Pick.tl)) (KSub.cons (by repeat (first | exact Pick.hd | apply Pick.tl)) KSub.nil)
        · try simp only [decide_eq_true_eq, decide_eq_false_iff_not, Bool.not_eq_true', Bool.not_eq_false', Bool.and_eq_true, Bool.or_eq_true, Bool.and_eq_false_iff, Bool.or_eq_false_iff, Int.not_lt, Int.not_le] at hc2
          have hke : k = l i j := by omega
          refine TW.exit ?_
          refine TQ.thenX ?_
          refine TQ.thenX ?_
          refine TQ.blkX ?_
          refine TQ.thenN (hY17 _ _ ?_)
          refine TW.region ?_
          refine TL.p Pu.mv ?_
          refine TL.p Pu.mv ?_
          refine TL.p (Pu.ln Tryz.underlying24) ?_
          refine TL.p Pu.ad ?_
          refine TL.p Pu.as ?_
          refine TL.nil ?_
          refine TQ.blkN ?_
          refine TQ.thenN (hY14 _ _ ?_)
          refine TW.region ?_
          refine TL.p Pu.ad ?_
          refine TL.p Pu.mv ?_
          refine TL.nil ?_
          subst hke
          refine TQ.thenN (hZ1 (j + 1) _ _ _ ?_ ?_ (by repeat (first | exact trivial | refine ⟨rfl, ?_⟩ | refine ⟨trivial, ?_⟩)) ?_)
          · refine ⟨by omega, by simp only [tot]; omega, fun j' h => ?_⟩
            by_cases he : j' = j
            · subst he; exact hrise
            · exact hrs j' (by omega)
          · exact (by first | omega | (simp only []; omega) | (simp; omega))
          · rw [lsts, ← List.append_assoc]
            exact KSub.cons (by repeat (first | exact Pick.hd | apply Pick.tl)) (KSub.cons (by repeat (first | exact Pick.hd | apply Pick.tl)) KSub.nil)
      · try simp only [decide_eq_true_eq, decide_eq_false_iff_not, Bool.not_eq_true', Bool.not_eq_false', Bool.and_eq_true, Bool.or_eq_true, Bool.and_eq_false_iff, Bool.or_eq_false_iff, Int.not_lt, Int.not_le] at hc1
        obtain rfl : j = 3 := by omega
        refine TW.exit ?_
        refine TQ.thenX ?_
        refine TQ.thenX ?_
        refine TQ.blkX ?_
        refine TQ.thenN (hY10 _ _ ?_)
        refine TW.region ?_
        refine TL.p (Pu.lds ty_ag34) ?_
        refine TL.call (M := []) rfl (enters Tryz.func44 rfl rfl) (List.Perm.refl _) rfl (fun w hw => by
            exact all_any (v := v i) (by omega) (fun j hj => (hIi j hj).sat hw Apart.nil)) ?_
        rintro ⟨Aq, cq⟩
        refine TL.p (Pu.ln Tryz.underlying24) ?_
        refine TL.p Pu.le ?_
        refine TL.ct rfl (enters Tryz.func40 rfl rfl) (fun w hw => by
            exact need_any _ _ _ (by decide)) (fun hp3 => ?_) (fun hp3 => ?_)
        rotate_left
        · refine TQ.blkP ?_
          refine TQ.thenP ?_
          refine TQ.thenP ?_
          refine TQ.blkP ?_
          refine TQ.thenP ?_
          refine TQ.pan rfl ?_
          first
            | exact fun w hw => check_p1 hp1 hw
            | exact fun w hw => check_p hp1 hp2 (fun h => ties_no2 him hj3 h) hw
            | exact fun w hw => check_p hp1 hp3 (fun h => ties_no3 him h) hw
            | exact fun w hw => check_p hp1 hp4 (fun h => by unfold tiesOk; rw [← hz, h, Bool.and_false]) hw
        refine TL.nil ?_
        refine TQ.blkN ?_
        refine TQ.thenN (hY8 _ _ ?_)
        refine TW.region ?_
        refine TL.p Pu.ad ?_
        refine TL.p Pu.mv ?_
        refine TL.nil ?_
        have ht10 : tot (l i) 3 ≤ 10 := by
          by_cases h : tot (l i) 3 ≤ 10
          · exact h
          · exfalso; simp [show ¬ ((tot (l i) 3 : Int) ≤ 10) by omega] at hp3
        refine TQ.thenN (hZ0 (i + 1) _ _ _ ?_ ?_ (by repeat (first | exact trivial | refine ⟨rfl, ?_⟩ | refine ⟨trivial, ?_⟩)) ?_)
        · refine ⟨by omega, ?_, by omega, fun i' h => ?_⟩
          · rw [held, List.length_append, lsts_length]; omega
          · by_cases he : i' = i
            · subst he
              simp only [tieOk, Bool.and_eq_true, decide_eq_true_eq]
              exact ⟨allB_iff.2 hrs, ht10⟩
            · exact hoks i' (by omega)
        · exact (by first | omega | (simp only []; omega) | (simp; omega))
        · rw [held]
          exact KSub.cons (by repeat (first | exact Pick.hd | apply Pick.tl)) KSub.nil
    · try simp only [decide_eq_true_eq, decide_eq_false_iff_not, Bool.not_eq_true', Bool.not_eq_false', Bool.and_eq_true, Bool.or_eq_true, Bool.and_eq_false_iff, Bool.or_eq_false_iff, Int.not_lt, Int.not_le] at hc0
      obtain rfl : m = i := by omega
      refine TW.exit ?_
      refine TQ.thenX ?_
      refine TQ.thenX ?_
      refine TQ.blkX ?_
      refine TQ.thenN (hY4 _ _ ?_)
      refine TW.region ?_
      refine TL.p Pu.mv ?_
      refine TL.p (Pu.ln Tryz.underlying23) ?_
      refine TL.p Pu.le ?_
      refine TL.p Pu.mv ?_
      refine TL.mid 9 [(65, .bool (decide ((m : Int) ≤ 8) && decide (((markAll (held l v m)).length : Int) = z)))] ?_ (fun hM2 => ?_)
      · simp only [List.toList_toArray, List.drop_succ_cons, List.drop_zero]
        refine TL.ct rfl (enters Tryz.func40 rfl rfl) (fun w hw => by
            exact need_any _ _ _ (by decide)) (fun hp4 => ?_) (fun hp4 => ?_)
        rotate_left
        · refine TQ.pan rfl ?_
          first
            | exact fun w hw => check_p1 hp1 hw
            | exact fun w hw => check_p hp1 hp2 (fun h => ties_no2 him hj3 h) hw
            | exact fun w hw => check_p hp1 hp3 (fun h => ties_no3 him h) hw
            | exact fun w hw => check_p hp1 hp4 (fun h => by unfold tiesOk; rw [← hz, h, Bool.and_false]) hw
        refine TL.nil ?_
        refine TQ.end Tryz.results29 rfl (.nil) ?_
        exact fun w hw => Try.ok (by
          have h4 := need_yes (by decide) hp4
          rw [hz] at h4
          unfold checkV
          rw [hp1, if_pos rfl]
          unfold tiesOk
          rw [h4, allB_iff.2 hoks]
          rfl) hw
      refine TL.guard (t := 60) rfl (fun hg1 => ?_) (fun hg1 => ?_)
      · refine TL.gd Pu.mv ?_
        refine TL.gd (Pu.ml' ty_mp108) ?_
        refine TL.gd Pu.mv ?_
        refine TL.gd Pu.eq ?_
        refine TL.p Pu.kt ?_
        exact TL.sub (by repeat (first | exact trivial | refine ⟨rfl, ?_⟩ | refine ⟨trivial, ?_⟩ | refine ⟨(by show some (Value.bool _) = some (Value.bool _); simp [hg1]), ?_⟩)) (by repeat (first | exact KSub.nil | refine KSub.cons (by repeat (first | exact Pick.hd | apply Pick.tl)) ?_)) hM2
      · refine TL.gs ?_
        refine TL.gs ?_
        refine TL.gs ?_
        refine TL.gs ?_
        refine TL.p Pu.kf ?_
        exact TL.sub (by repeat (first | exact trivial | refine ⟨rfl, ?_⟩ | refine ⟨trivial, ?_⟩ | refine ⟨(by show some (Value.bool _) = some (Value.bool _); simp [hg1]), ?_⟩)) (by repeat (first | exact KSub.nil | refine KSub.cons (by repeat (first | exact Pick.hd | apply Pick.tl)) ?_)) hM2
  refine TL.guard (t := 15) rfl (fun hg2 => ?_) (fun hg2 => ?_)
  · refine TL.gd Pu.mv ?_
    refine TL.cr rfl (enters Tryz.func55 rfl rfl) (fun w hw => by
        exact everyPack_any (fs := []) (cs := []) (p := fun k => packOk (pk k)) (enters Tryz.func47 rfl rfl) (by omega) (hR.sat hw Apart.nil) fun k hk w' hb => by simpa using valid_any (pk k) w' ((hG.sat hw (by simp)).ext hb)) ?_
    refine TL.p Pu.kt ?_
    exact TL.sub (by repeat (first | exact trivial | refine ⟨rfl, ?_⟩ | refine ⟨trivial, ?_⟩ | refine ⟨(by show some (Value.bool _) = some (Value.bool _); simp [hg2]), ?_⟩)) (by repeat (first | exact KSub.nil | refine KSub.cons (by repeat (first | exact Pick.hd | apply Pick.tl)) ?_)) hM1
  · refine TL.gs ?_
    refine TL.gs ?_
    refine TL.p Pu.kf ?_
    exact TL.sub (by repeat (first | exact trivial | refine ⟨rfl, ?_⟩ | refine ⟨trivial, ?_⟩ | refine ⟨(by show some (Value.bool _) = some (Value.bool _); simp [hg2]), ?_⟩)) (by repeat (first | exact KSub.nil | refine KSub.cons (by repeat (first | exact Pick.hd | apply Pick.tl)) ?_)) hM1
end Go.Proofs.YtljhdcclajikiaaGreatDoor
namespace Go.Proofs.YtljhdcclajikiaaGreatDoor
set_option linter.all false
set_option linter.unusedVariables false
set_option linter.unusedSimpArgs false
open Go.RowKit
structure Lay (w : World) (A A2 : Option Addr) (np m : Nat) (pk : Nat → Nat → Int) (a : Nat → Nat → Option Addr) (l c : Nat → Nat → Nat) (v : Nat → Nat → Nat → Int) : Prop where
  hG : None0 w
  hnp : np ≤ 1000000000
  hm : m ≤ 1000
  hR : RdR w 11 A np (fun k => packL (pk k))
  hT : RdR w 3 A2 m (fun i => tieL (a i) (l i) (c i))
  hI : ∀ i, i < m → ∀ j, j < 3 → RdR w 1 (a i j) (l i j) (fun k => [.int .i64 (v i j k)])
  hL : ∀ i, i < m → tot (l i) 3 ≤ 1000
section
variable {w w' : World} {A A2 : Option Addr} {np m : Nat} {pk : Nat → Nat → Int} {a : Nat → Nat → Option Addr} {l c : Nat → Nat → Nat} {v : Nat → Nat → Nat → Int}
theorem Lay.sat {K : List Fact} (h : Lay w A A2 np m pk a l c v) (hs : Sat [] w K w') : Lay w' A A2 np m pk a l c v :=
  ⟨h.hG.sat hs (by simp), h.hnp, h.hm, h.hR.sat hs Apart.nil, h.hT.sat hs Apart.nil, fun i hi j hj => (h.hI i hi j hj).sat hs Apart.nil, h.hL⟩
theorem Lay.ext (h : Lay w A A2 np m pk a l c v) (hb : Below w.heap.size w w') : Lay w' A A2 np m pk a l c v := h.sat (Sat.nil (Chg.of_ext hb))
theorem Lay.check {cp cp2 : Nat} (h : Lay w A A2 np m pk a l c v) : Calls Tryz.prog 29 #[.slice A np cp, .slice A2 m cp2] w (Try w errs (checkV np pk m l v) (.tuple #[])) :=
  check_any h.hG h.hnp h.hm h.hR h.hT h.hI h.hL
end
theorem within5_any (x lo hi : Int) (w : World) : Calls Tryz.prog 83 #[.int .i64 x, .int .i64 lo, .int .i64 hi] w (Ret w (.bool (inB5 lo hi x))) := refWithin_any x lo hi w
theorem refPacks_any {A : Option Addr} {np cp : Nat} {pk : Nat → Nat → Int} {w : World} (hnp : np ≤ 1000000000) (hR : RdR w 11 A np (fun k => packL (pk k))) :
    Calls Tryz.prog 25 #[.slice A np cp] w (Ret w (.bool (packsOk np pk))) := by
  refine K_enter (S := []) (K := []) Tryz.func25 rfl Tryz.ntmps25 rfl (Sat.start _) ?_
  refine TW.seq fun Y1 hY1 => ?_
  refine TW.region ?_
  refine TL.p Pu.as ?_
  refine TL.nil ?_
  refine TQ.thenN (hY1 _ _ ?_)
  refine TW.seq fun Y2 hY2 => ?_
  refine TW.seq fun Y3 hY3 => ?_
  refine TW.region ?_
  refine TL.p Pu.mv ?_
  refine TL.p (Pu.ln Tryz.underlying22) ?_
  refine TL.p Pu.gt ?_
  refine TL.nil ?_
  refine TQ.thenN (hY3 _ _ ?_)
  refine TW.cond rfl (fun hc0 => ?_) (fun hc0 => ?_)
  · try simp only [decide_eq_true_eq, decide_eq_false_iff_not, Bool.not_eq_true', Bool.not_eq_false', Bool.and_eq_true, Bool.or_eq_true, Bool.and_eq_false_iff, Bool.or_eq_false_iff, Int.not_lt, Int.not_le] at hc0
    refine TW.seq fun Y4 hY4 => ?_
    refine TW.region ?_
    refine TL.p Pu.as ?_
    refine TL.nil ?_
    refine TQ.thenN (hY4 _ _ ?_)
    refine TW.ret ?_
    refine TQ.thenR ?_
    refine TQ.ret Tryz.results25 rfl ((.tmp rfl .nil)) ?_
    exact fun w hw => ⟨ret_bool (by unfold packsOk; rw [show decide ((np : Int) ≤ 30) = false by simp; omega]; rfl), Chg.ext hw.chg⟩
  · try simp only [decide_eq_true_eq, decide_eq_false_iff_not, Bool.not_eq_true', Bool.not_eq_false', Bool.and_eq_true, Bool.or_eq_true, Bool.and_eq_false_iff, Bool.or_eq_false_iff, Int.not_lt, Int.not_le] at hc0
    refine TW.skip ?_
    refine TQ.thenN (hY2 _ _ ?_)
    refine TW.seq fun Y5 hY5 => ?_
    refine TW.seq fun Y6 hY6 => ?_
    refine TW.region ?_
    refine TL.p Pu.as ?_
    refine TL.nil ?_
    refine TQ.thenN (hY6 _ _ ?_)
    refine TW.block ?_
    refine TW.loop1 (fun (k : Nat) => [(3, .int .i64 (k : Int)), (0, .slice A np cp)]) (fun k => []) (fun k => k ≤ np ∧ ∀ j, j < k → packOk (pk j) = true) (fun k => np - k) 0 (by repeat (first | exact trivial | refine ⟨rfl, ?_⟩ | refine ⟨trivial, ?_⟩)) ?_ ?_ ?_
    · exact (by repeat (first | exact KSub.nil | refine KSub.cons (by repeat (first | exact Pick.hd | apply Pick.tl)) ?_))
    · exact ⟨by omega, fun j hj => by omega⟩
    rintro k ⟨hk, hall⟩ Z0 hZ0
    refine TW.seq fun Y7 hY7 => ?_
    refine TW.seq fun Y8 hY8 => ?_
    refine TW.region ?_
    refine TL.p Pu.mv ?_
    refine TL.p Pu.mv ?_
    refine TL.p (Pu.ln Tryz.underlying22) ?_
    refine TL.p Pu.lt ?_
    refine TL.nil ?_
    refine TQ.thenN (hY8 _ _ ?_)
    refine TW.cond rfl (fun hc1 => ?_) (fun hc1 => ?_)
    · try simp only [decide_eq_true_eq, decide_eq_false_iff_not, Bool.not_eq_true', Bool.not_eq_false', Bool.and_eq_true, Bool.or_eq_true, Bool.and_eq_false_iff, Bool.or_eq_false_iff, Int.not_lt, Int.not_le] at hc1
      refine TW.skip ?_
      refine TQ.thenN (hY7 _ _ ?_)
      refine TW.seq fun Y9 hY9 => ?_
      refine TW.block ?_
      refine TW.seq fun Y10 hY10 => ?_
      refine TW.region ?_
      refine TL.p Pu.mv ?_
      refine TL.p Pu.mv ?_
      refine TL.p (Pu.el ty_et22) ?_
      refine TL.p (Pu.lds ty_ag58) ?_
      refine TL.cr rfl (enters Tryz.func52 rfl rfl) (fun w hw => by
          exact refPack_any (pk k) _) ?_
      refine TL.p Pu.no ?_
      refine TL.nil ?_
      refine TQ.thenN (hY10 _ _ ?_)
      refine TW.cond rfl (fun hc2 => ?_) (fun hc2 => ?_)
      · try simp only [decide_eq_true_eq, decide_eq_false_iff_not, Bool.not_eq_true', Bool.not_eq_false', Bool.and_eq_true, Bool.or_eq_true, Bool.and_eq_false_iff, Bool.or_eq_false_iff, Int.not_lt, Int.not_le] at hc2
        have hbad : packOk (pk k) = false := hc2
        refine TW.seq fun Y11 hY11 => ?_
        refine TW.region ?_
        refine TL.p Pu.as ?_
        refine TL.nil ?_
        refine TQ.thenN (hY11 _ _ ?_)
        refine TW.ret ?_
        refine TQ.blkR ?_
        refine TQ.thenR ?_
        refine TQ.thenR ?_
        refine TQ.blkR ?_
        refine TQ.thenR ?_
        refine TQ.ret Tryz.results25 rfl ((.tmp rfl .nil)) ?_
        exact fun w hw => ⟨ret_bool (by
          have : allB np (fun k => packOk (pk k)) = false := by
            cases h : allB np (fun k => packOk (pk k)) with
            | false => rfl
            | true => have := allB_iff.1 h k (by omega); rw [hbad] at this; cases this
          unfold packsOk; rw [this, Bool.and_false]), Chg.ext hw.chg⟩
      · try simp only [decide_eq_true_eq, decide_eq_false_iff_not, Bool.not_eq_true', Bool.not_eq_false', Bool.and_eq_true, Bool.or_eq_true, Bool.and_eq_false_iff, Bool.or_eq_false_iff, Int.not_lt, Int.not_le] at hc2
        have hgood : packOk (pk k) = true := hc2
        refine TW.skip ?_
        refine TQ.blkN ?_
        refine TQ.thenN (hY9 _ _ ?_)
        refine TW.region ?_
        refine TL.p Pu.mv ?_
        refine TL.p Pu.ad ?_
        refine TL.p Pu.as ?_
        refine TL.nil ?_
        refine TQ.thenN (hZ0 (k + 1) _ _ ?_ ?_ (by repeat (first | exact trivial | refine ⟨rfl, ?_⟩ | refine ⟨trivial, ?_⟩)) ?_)
        · refine ⟨by omega, fun j hj => ?_⟩
          by_cases h : j = k
          · subst h; exact hgood
          · exact hall j (by omega)
        · exact (by first | omega | (simp only []; omega) | (simp; omega))
        · exact (by repeat (first | exact KSub.nil | refine KSub.cons (by repeat (first | exact Pick.hd | apply Pick.tl)) ?_))
    · try simp only [decide_eq_true_eq, decide_eq_false_iff_not, Bool.not_eq_true', Bool.not_eq_false', Bool.and_eq_true, Bool.or_eq_true, Bool.and_eq_false_iff, Bool.or_eq_false_iff, Int.not_lt, Int.not_le] at hc1
      refine TW.exit ?_
      refine TQ.thenX ?_
      refine TQ.thenX ?_
      refine TQ.blkX ?_
      refine TQ.thenN (hY5 _ _ ?_)
      refine TW.seq fun Y12 hY12 => ?_
      refine TW.region ?_
      refine TL.p Pu.as ?_
      refine TL.nil ?_
      refine TQ.thenN (hY12 _ _ ?_)
      refine TW.ret ?_
      refine TQ.ret Tryz.results25 rfl ((.tmp rfl .nil)) ?_
      exact fun w hw => ⟨ret_bool (by
        obtain rfl : k = np := by omega
        unfold packsOk; rw [allB_iff.2 hall, show decide ((k : Int) ≤ 30) = true by simp; omega]; rfl), Chg.ext hw.chg⟩
theorem tot3 (l : Nat → Nat) : tot l 3 = l 0 + l 1 + l 2 := by simp [tot]
theorem cat3 (l : Nat → Nat) (s : Nat → Nat → List Value) : catN l s 3 = catR (l 0 + l 1) (catR (l 0) (s 0) (s 1)) (s 2) := by
  have e : catR 0 (fun _ => []) (s 0) = s 0 := by funext i; simp [catR]
  simp [catN, tot, e]
theorem refList_any {a : Nat → Option Addr} {l c : Nat → Nat} {v : Nat → Nat → Int} {w : World} (ht : tot l 3 ≤ 1000000000) (hI : ∀ i, i < 3 → RdR w 1 (a i) (l i) (fun k => [.int .i64 (v i k)])) :
    CallsK Tryz.prog 13 #[.agg (tieL a l c).toArray] [] w (Option Addr × Nat) (fun x => .slice x.1 (tot l 3) x.2) (fun x => [.own x.1 (tot l 3) x.2 3 1 (catN l (fun i k => [.int .i64 (v i k)]) 3)]) := by
  rw [tot3] at ht
  have h0 := hI 0 (by omega)
  have h1 := hI 1 (by omega)
  have h2 := hI 2 (by omega)
  rw [tot3, cat3]
  refine K_enter (S := []) (K := []) Tryz.func13 rfl Tryz.ntmps13 rfl (Sat.start _) ?_
  refine TW.seq fun Y1 hY1 => ?_
  refine TW.region ?_
  refine TL.m Mk.bx ?_
  intro b1
  refine TL.p Pu.as ?_
  refine TL.nil ?_
  refine TQ.thenN (hY1 _ _ ?_)
  refine TW.seq fun Y2 hY2 => ?_
  refine TW.region ?_
  refine TL.m Mk.bl ?_
  intro b2
  refine TL.p (by first | exact Pu.fb ty_fa34_0 | exact Pu.fe ty_fa34_0) ?_
  refine TL.p (Pu.ld ty_sc24) ?_
  refine TL.subK (KSub.ofBlk (n := 0) (sz := 1) (r := fun _ => []) Pick.hd rfl (fun _ h => by omega) rfl rfl (KSub.cons Pick.hd KSub.nil)) ?_
  first | refine TL.a0 ty_et24 ?_ | refine TL.ap ty_et24 ?_
  intro A3 c3
  refine TL.p Pu.as ?_
  refine TL.nil ?_
  refine TQ.thenN (hY2 _ _ ?_)
  refine TW.seq fun Y3 hY3 => ?_
  refine TW.region ?_
  refine TL.p Pu.mv ?_
  refine TL.p (by first | exact Pu.fb ty_fa34_1 | exact Pu.fe ty_fa34_1) ?_
  refine TL.p (Pu.ld ty_sc24) ?_
  first | refine TL.a0 ty_et24 ?_ | refine TL.ap ty_et24 ?_
  intro A4 c4
  refine TL.p Pu.as ?_
  refine TL.nil ?_
  refine TQ.thenN (hY3 _ _ ?_)
  refine TW.seq fun Y4 hY4 => ?_
  refine TW.region ?_
  refine TL.p Pu.mv ?_
  refine TL.p (by first | exact Pu.fb ty_fa34_2 | exact Pu.fe ty_fa34_2) ?_
  refine TL.p (Pu.ld ty_sc24) ?_
  first | refine TL.a0 ty_et24 ?_ | refine TL.ap ty_et24 ?_
  intro A5 c5
  refine TL.p Pu.as ?_
  refine TL.nil ?_
  refine TQ.thenN (hY4 _ _ ?_)
  refine TW.ret ?_
  refine TQ.ret Tryz.results13 rfl ((.tmp rfl .nil)) ?_
  exact fun w hw => ⟨(A5, c5), rfl, hw.sub (KSub.cons Pick.hd KSub.nil)⟩
def refP (v : Nat → Int) (N : Int) (k : Nat) : Bool := inB5 0 (N - 1) (v k) && !(decide (0 < k) && decide (v k ≤ v (k - 1)))
theorem tnP (k : Nat) : ((k : Int) - 1).toNat = k - 1 := by omega
theorem rise_ref (v : Nat → Int) (N : Int) (n : Nat) : allB n (refP v N) = allB n (riseP v N) := by
  rw [Bool.eq_iff_iff, allB_iff, allB_iff]
  constructor
  · intro h k hk
    have h1 := h k hk
    simp only [refP, riseP, inB5, Bool.and_eq_true, decide_eq_true_eq, Bool.not_eq_true', Bool.and_eq_false_iff, decide_eq_false_iff_not] at h1 ⊢
    cases k with
    | zero => simp only [lastV]; omega
    | succ k => simp only [lastV, Nat.add_sub_cancel] at h1 ⊢; omega
  · intro h k hk
    have hlo : ∀ q, q < n → -1 ≤ lastV v q := fun q => by
      induction q with
      | zero => intro _; simp only [lastV]; omega
      | succ q ih =>
        intro hq
        have h1 := h q (by omega)
        have h2 := ih (by omega)
        simp only [riseP, inB5, Bool.and_eq_true, decide_eq_true_eq] at h1
        simp only [lastV]
        omega
    have h1 := h k hk
    have h2 := hlo k hk
    simp only [refP, riseP, inB5, Bool.and_eq_true, decide_eq_true_eq, Bool.not_eq_true', Bool.and_eq_false_iff, decide_eq_false_iff_not] at h1 ⊢
    cases k with
    | zero => simp only [lastV] at h1; omega
    | succ k => simp only [lastV, Nat.add_sub_cancel] at h1 h2 ⊢; omega
theorem refRising_any {A : Option Addr} {n cp : Nat} {v : Nat → Int} {N : Int} {w : World} (hn : n ≤ 1000000000) (hR : RdR w 1 A n (fun k => [.int .i64 (v k)])) (h3 : 0 ≤ N) (h4 : N ≤ 1000000000) :
    Calls Tryz.prog 53 #[.slice A n cp, .int .i64 N] w (Ret w (.bool (allB n (riseP v N)))) := by
  rw [← rise_ref]
  refine K_enter (S := []) (K := []) Tryz.func53 rfl Tryz.ntmps53 rfl (Sat.start _) ?_
  refine TW.seq fun Y1 hY1 => ?_
  refine TW.region ?_
  refine TL.p Pu.as ?_
  refine TL.nil ?_
  refine TQ.thenN (hY1 _ _ ?_)
  refine TW.seq fun Y2 hY2 => ?_
  refine TW.seq fun Y3 hY3 => ?_
  refine TW.region ?_
  refine TL.p Pu.as ?_
  refine TL.nil ?_
  refine TQ.thenN (hY3 _ _ ?_)
  refine TW.block ?_
  refine TW.loop1 (fun (k : Nat) => [(5, .int .i64 (k : Int)), (0, .slice A n cp), (1, .int .i64 N)]) (fun k => []) (fun k => k ≤ n ∧ ∀ j, j < k → refP v N j = true) (fun k => n - k) 0 (by repeat (first | exact trivial | refine ⟨rfl, ?_⟩ | refine ⟨trivial, ?_⟩)) ?_ ?_ ?_
  · exact (by repeat (first | exact KSub.nil | refine KSub.cons (by repeat (first | exact Pick.hd | apply Pick.tl)) ?_))
  · exact ⟨by omega, fun j hj => by omega⟩
  rintro k ⟨hk, hall⟩ Z0 hZ0
  refine TW.seq fun Y4 hY4 => ?_
  refine TW.seq fun Y5 hY5 => ?_
  refine TW.region ?_
  refine TL.p Pu.mv ?_
  refine TL.p Pu.mv ?_
  refine TL.p (Pu.ln Tryz.underlying24) ?_
  refine TL.p Pu.lt ?_
  refine TL.nil ?_
  refine TQ.thenN (hY5 _ _ ?_)
  refine TW.cond rfl (fun hc0 => ?_) (fun hc0 => ?_)
  · try simp only [decide_eq_true_eq, decide_eq_false_iff_not, Bool.not_eq_true', Bool.not_eq_false', Bool.and_eq_true, Bool.or_eq_true, Bool.and_eq_false_iff, Bool.or_eq_false_iff, Int.not_lt, Int.not_le] at hc0
    refine TW.skip ?_
    refine TQ.thenN (hY4 _ _ ?_)
    refine TW.seq fun Y6 hY6 => ?_
    refine TW.block ?_
    refine TW.seq fun Y7 hY7 => ?_
    refine TW.join [(35, .bool (!refP v N k))] ?_ (fun hJ1 => ?_)
    · refine TQ.thenN (hY7 _ _ ?_)
      refine TW.cond rfl (fun hc1 => ?_) (fun hc1 => ?_)
      · try simp only [decide_eq_true_eq, decide_eq_false_iff_not, Bool.not_eq_true', Bool.not_eq_false', Bool.and_eq_true, Bool.or_eq_true, Bool.and_eq_false_iff, Bool.or_eq_false_iff, Int.not_lt, Int.not_le] at hc1
        have hbad : refP v N k = false := by simpa using hc1
        refine TW.seq fun Y8 hY8 => ?_
        refine TW.region ?_
        refine TL.p Pu.as ?_
        refine TL.nil ?_
        refine TQ.thenN (hY8 _ _ ?_)
        refine TW.ret ?_
        refine TQ.blkR ?_
        refine TQ.thenR ?_
        refine TQ.thenR ?_
        refine TQ.blkR ?_
        refine TQ.thenR ?_
        refine TQ.ret Tryz.results53 rfl ((.tmp rfl .nil)) ?_
        exact fun w hw => ⟨ret_bool (by
          cases h : allB n (refP v N) with
          | false => rfl
          | true => have := allB_iff.1 h k (by omega); rw [hbad] at this; cases this), Chg.ext hw.chg⟩
      · try simp only [decide_eq_true_eq, decide_eq_false_iff_not, Bool.not_eq_true', Bool.not_eq_false', Bool.and_eq_true, Bool.or_eq_true, Bool.and_eq_false_iff, Bool.or_eq_false_iff, Int.not_lt, Int.not_le] at hc1
        have hgood : refP v N k = true := by simpa using hc1
        refine TW.skip ?_
        refine TQ.blkN ?_
        refine TQ.thenN (hY6 _ _ ?_)
        refine TW.region ?_
        refine TL.p Pu.mv ?_
        refine TL.p Pu.ad ?_
        refine TL.p Pu.as ?_
        refine TL.nil ?_
        refine TQ.thenN (hZ0 (k + 1) _ _ ?_ ?_ (by repeat (first | exact trivial | refine ⟨rfl, ?_⟩ | refine ⟨trivial, ?_⟩)) ?_)
        · refine ⟨by omega, fun j hj => ?_⟩
          by_cases h : j = k
          · subst h; exact hgood
          · exact hall j (by omega)
        · exact (by first | omega | (simp only []; omega) | (simp; omega))
        · exact (by repeat (first | exact KSub.nil | refine KSub.cons (by repeat (first | exact Pick.hd | apply Pick.tl)) ?_))
    refine TW.dw 24 ?_
    refine RK.tk Pu.mv ?_
    refine RK.tk Pu.mv ?_
    refine RK.tk (Pu.el ty_et24) ?_
    refine RK.tk (Pu.ld ty_sc3) ?_
    refine RK.tk Pu.mv ?_
    refine RK.tk Pu.sb ?_
    refine RK.keep ?_
    refine RK.keep ?_
    refine RK.keep ?_
    refine RK.keep ?_
    refine RK.keep ?_
    refine RK.keep ?_
    refine RK.keep ?_
    refine RK.keep ?_
    refine RK.keep ?_
    refine RK.keep ?_
    refine RK.keep ?_
    refine RK.keep ?_
    refine RK.keep ?_
    refine RK.keep ?_
    refine RK.keep ?_
    refine RK.keep ?_
    refine RK.keep ?_
    refine RK.keep ?_
    refine RK.ch [false, true, true, true, true, true, true, true, true, true, true, true, true, true, true, true, true, true] ?_ trivial
    refine WK.cr rfl (enters Tryz.func83 rfl rfl) (fun w hw => by
        exact within5_any _ _ _ _) ?_
    refine WK.p Pu.no ?_
    refine WK.p Pu.mv ?_
    refine WK.guard (t := 20) rfl (fun hg1 => ?_) (fun hg1 => ?_)
    · try simp only [decide_eq_true_eq, decide_eq_false_iff_not, Bool.not_eq_true', Bool.not_eq_false', Int.natCast_pos] at hg1
      refine WK.ps ?_
      refine WK.ps ?_
      refine WK.ps ?_
      refine WK.ps ?_
      refine WK.ps ?_
      refine WK.ps ?_
      refine WK.ps ?_
      refine WK.ps ?_
      refine WK.ps ?_
      refine WK.ps ?_
      refine WK.ps ?_
      refine WK.ps ?_
      refine WK.ps ?_
      refine WK.ps ?_
      refine WK.p Pu.kt ?_
      refine WK.n ?_
      refine TL.nil ?_
      exact TQ.sub (by repeat (first | exact trivial | refine ⟨rfl, ?_⟩ | refine ⟨trivial, ?_⟩ | refine ⟨(by show some (Value.bool _) = some (Value.bool _); simp [hg1, refP, tnP]), ?_⟩)) (by repeat (first | exact KSub.nil | refine KSub.cons (by repeat (first | exact Pick.hd | apply Pick.tl)) ?_)) hJ1
    · try simp only [decide_eq_true_eq, decide_eq_false_iff_not, Bool.not_eq_true', Bool.not_eq_false', Int.natCast_pos] at hg1
      refine WK.p Pu.mv ?_
      refine WK.p Pu.gt ?_
      refine WK.p Pu.mv ?_
      refine WK.guard (t := 23) rfl (fun hg2 => ?_) (fun hg2 => ?_)
      · try simp only [decide_eq_true_eq, decide_eq_false_iff_not, Bool.not_eq_true', Bool.not_eq_false', Int.natCast_pos] at hg2
        refine WK.p Pu.mv ?_
        refine WK.p Pu.mv ?_
        refine WK.p (Pu.el ty_et24) ?_
        refine WK.p (Pu.ld ty_sc3) ?_
        refine WK.p Pu.mv ?_
        refine WK.p Pu.mv ?_
        refine WK.p Pu.sb ?_
        refine WK.p (Pu.el (q := k - 1) ty_et24 (hk := tnP k)) ?_
        refine WK.p (Pu.ld ty_sc3) ?_
        refine WK.p Pu.le ?_
        refine WK.p Pu.kt ?_
        refine WK.p Pu.kf ?_
        refine WK.n ?_
        refine TL.nil ?_
        exact TQ.sub (by repeat (first | exact trivial | refine ⟨rfl, ?_⟩ | refine ⟨trivial, ?_⟩ | refine ⟨(by show some (Value.bool _) = some (Value.bool _); simp [hg1, hg2, refP, tnP]), ?_⟩)) (by repeat (first | exact KSub.nil | refine KSub.cons (by repeat (first | exact Pick.hd | apply Pick.tl)) ?_)) hJ1
      · try simp only [decide_eq_true_eq, decide_eq_false_iff_not, Bool.not_eq_true', Bool.not_eq_false', Int.natCast_pos] at hg2
        refine WK.ps ?_
        refine WK.ps ?_
        refine WK.ps ?_
        refine WK.ps ?_
        refine WK.ps ?_
        refine WK.ps ?_
        refine WK.ps ?_
        refine WK.ps ?_
        refine WK.ps ?_
        refine WK.ps ?_
        refine WK.p Pu.kf ?_
        refine WK.p Pu.kf ?_
        refine WK.n ?_
        refine TL.nil ?_
        exact TQ.sub (by repeat (first | exact trivial | refine ⟨rfl, ?_⟩ | refine ⟨trivial, ?_⟩ | refine ⟨(by show some (Value.bool _) = some (Value.bool _); simp [hg1, hg2, refP, tnP]), ?_⟩)) (by repeat (first | exact KSub.nil | refine KSub.cons (by repeat (first | exact Pick.hd | apply Pick.tl)) ?_)) hJ1
  · try simp only [decide_eq_true_eq, decide_eq_false_iff_not, Bool.not_eq_true', Bool.not_eq_false', Bool.and_eq_true, Bool.or_eq_true, Bool.and_eq_false_iff, Bool.or_eq_false_iff, Int.not_lt, Int.not_le] at hc0
    refine TW.exit ?_
    refine TQ.thenX ?_
    refine TQ.thenX ?_
    refine TQ.blkX ?_
    refine TQ.thenN (hY2 _ _ ?_)
    refine TW.seq fun Y9 hY9 => ?_
    refine TW.region ?_
    refine TL.p Pu.as ?_
    refine TL.nil ?_
    refine TQ.thenN (hY9 _ _ ?_)
    refine TW.ret ?_
    refine TQ.ret Tryz.results53 rfl ((.tmp rfl .nil)) ?_
    exact fun w hw => ⟨ret_bool (by
      obtain rfl : k = n := by omega
      exact allB_iff.2 hall), Chg.ext hw.chg⟩
end Go.Proofs.YtljhdcclajikiaaGreatDoor
namespace Go.Proofs.YtljhdcclajikiaaGreatDoor
set_option linter.all false
set_option linter.unusedVariables false
set_option linter.unusedSimpArgs false
open Go.RowKit
theorem mlook_mput (i j : Int) (v : Value) : ∀ l : List (Int × Value), mlook j (mput i v l) = if j = i then some v else mlook j l
  | [] => by by_cases h : j = i <;> simp [mput, mlook, h]
  | (k, u) :: l => by
    by_cases hk : i = k
    · subst hk; by_cases h : j = i <;> simp [mput, mlook, h]
    · by_cases h : j = i
      · subst h; simp [mput, mlook, hk, mlook_mput j j v l]
      · by_cases h2 : j = k
        · subst h2; simp [mput, mlook, hk, h]
        · simp [mput, mlook, hk, h, h2, mlook_mput i j v l]
theorem mput_len (i : Int) (v : Value) : ∀ l : List (Int × Value), (mput i v l).length = l.length + if (mlook i l).isSome then 0 else 1
  | [] => rfl
  | (k, u) :: l => by
    by_cases hk : i = k
    · simp [mput, mlook, hk]
    · simp [mput, mlook, hk, mput_len i v l]; omega
theorem mark_look (x : Int) : ∀ (xs : List Int) (m : List (Int × Value)), (mlook x (xs.foldl (fun m x => mput x (.bool true) m) m)).isSome = (decide (x ∈ xs) || (mlook x m).isSome)
  | [], m => by simp
  | y :: xs, m => by
    rw [List.foldl_cons, mark_look x xs, mlook_mput]
    by_cases h : x = y <;> by_cases h2 : x ∈ xs <;> simp [h, h2]
theorem mark_len : ∀ (n : Nat) (xs : List Int), xs.length = n → (markAll xs).length ≤ n ∧ ((markAll xs).length = n ↔ xs.Nodup)
  | 0, xs, h => by
    have : xs = [] := List.length_eq_zero_iff.1 h
    subst this
    simp [markAll]
  | n + 1, xs, h => by
    rcases List.eq_nil_or_concat xs with rfl | ⟨ys, y, rfl⟩
    · simp at h
    · have hl : ys.length = n := by simpa using h
      obtain ⟨h1, h2⟩ := mark_len n ys hl
      have hk := mark_look y ys []
      have hk' : (mlook y (markAll ys)).isSome = decide (y ∈ ys) := by
        unfold markAll; rw [hk]; simp [mlook]
      rw [List.concat_eq_append, markAll_snoc, mput_len, hk']
      by_cases hm : y ∈ ys
      · simp only [hm, decide_true, if_true]
        refine ⟨by omega, ⟨fun h => by omega, fun h => ?_⟩⟩
        exfalso
        have := List.nodup_append.1 h
        exact this.2.2 y hm y (by simp) rfl
      · simp only [hm, decide_false, Bool.false_eq_true, if_false]
        refine ⟨by omega, ⟨fun h => ?_, fun h => ?_⟩⟩
        · have h3 : ys.Nodup := h2.1 (by omega)
          exact List.nodup_append.2 ⟨h3, by simp, fun a ha b hb e => by
            simp at hb; subst hb; subst e; exact hm ha⟩
        · have := h2.2 (List.nodup_append.1 h).1
          omega
theorem marks_nodup (xs : List Int) : decide (((markAll xs).length : Int) = (xs.length : Int)) = decide xs.Nodup := by
  have h := (mark_len xs.length xs rfl).2
  by_cases hn : xs.Nodup
  · have := h.2 hn; simp [hn, this]
  · have : ¬ (markAll xs).length = xs.length := fun e => hn (h.1 e)
    simp only [hn, decide_false, decide_eq_false_iff_not]
    omega
theorem lsts_get (l : Nat → Nat) (v : Nat → Nat → Int) : ∀ (j k : Nat), k < tot l j → catN l (fun i k => [.int .i64 (v i k)]) j k = [Value.int .i64 ((lsts l v j).getD k 0)]
  | 0, k, h => by simp [tot] at h
  | j + 1, k, h => by
    simp only [catN, catR, lsts]
    have hl := lsts_length l v j
    by_cases hk : k < tot l j
    · rw [if_pos hk, lsts_get l v j k hk, List.getD_eq_getElem?_getD, List.getD_eq_getElem?_getD, List.getElem?_append_left (by omega)]
    · rw [if_neg hk, List.getD_eq_getElem?_getD, List.getElem?_append_right (by omega), hl]
      simp only [tot] at h
      have h2 : k - tot l j < l j := by omega
      simp [lst, List.getD_eq_getElem?_getD, h2]
theorem rise_bound {v : Nat → Int} {N : Int} {n : Nat} (h3 : 0 ≤ N) (h : allB n (riseP v N) = true) : ∀ k, k < n → 0 ≤ v k ∧ v k ≤ N - 1 := fun k hk => by
  have h1 := allB_iff.1 h
  have h2 := rise_lo h3 k fun j hj => h1 j (by omega)
  have h4 := h1 k hk
  simp only [riseP, inB5, Bool.and_eq_true, decide_eq_true_eq] at h4
  omega
theorem lsts_bound {l : Nat → Nat} {v : Nat → Nat → Int} {N : Int} (h3 : 0 ≤ N) : ∀ j, (∀ j', j' < j → allB (l j') (riseP (v j') N) = true) → ∀ x ∈ lsts l v j, 0 ≤ x ∧ x ≤ N - 1
  | 0, _, x, hx => by simp [lsts] at hx
  | j + 1, h, x, hx => by
    simp only [lsts, List.mem_append] at hx
    rcases hx with hx | hx
    · exact lsts_bound h3 j (fun j' hj => h j' (by omega)) x hx
    · simp only [lst, List.mem_map, List.mem_range] at hx
      obtain ⟨k, hk, rfl⟩ := hx
      exact rise_bound h3 (h j (by omega)) k hk
theorem take_next {ys : List Int} {k : Nat} (hk : k < ys.length) : ys.take (k + 1) = ys.take k ++ [ys.getD k 0] := by
  rw [List.take_succ, List.getD_eq_getElem?_getD, List.getElem?_eq_getElem hk]
  rfl
theorem refList3 {a : Nat → Option Addr} {l c : Nat → Nat} {v : Nat → Nat → Int} {w : World} (ht : tot l 3 ≤ 1000000000) (hI : ∀ i, i < 3 → RdR w 1 (a i) (l i) (fun k => [.int .i64 (v i k)])) :
    CallsK Tryz.prog 13 #[.agg (tieL a l c).toArray] [] w (Option Addr × Nat) (fun x => .slice x.1 (tot l 3) x.2) (fun x => [.own x.1 (tot l 3) x.2 3 1 (fun k => [.int .i64 ((lsts l v 3).getD k 0)])]) :=
  Calls.mono (refList_any ht hI) fun e w' ⟨x, h1, h2⟩ => ⟨x, h1, h2.sub (KSub.own Pick.hd (fun k hk => lsts_get l v 3 k hk) KSub.nil)⟩
theorem allB3 (p : Nat → Bool) : allB 3 p = (p 0 && p 1 && p 2) := by simp [allB, List.range_succ, Bool.and_assoc]
def usedR (xs : List Int) : Nat → List Value := fun q => [.bool (decide ((q : Int) ∈ xs))]
theorem usedR_put {xs : List Int} {x : Int} (h0 : 0 ≤ x) : ∀ q, updR (usedR xs) x.toNat [.bool true] q = usedR (xs ++ [x]) q := fun q => by
  unfold updR usedR
  by_cases h : q = x.toNat
  · subst h
    have : ((x.toNat : Nat) : Int) = x := by omega
    simp [this]
  · have : ¬ ((q : Int) = x) := by omega
    simp [h, this]
def dupOk (np m : Nat) (l : Nat → Nat → Nat) (v : Nat → Nat → Nat → Int) : Bool := allB m (fun i => tieOk np (l i) (v i)) && (decide ((m : Int) ≤ 8) && decide (held l v m).Nodup)
theorem ties_dup (np m : Nat) (l : Nat → Nat → Nat) (v : Nat → Nat → Nat → Int) : tiesOk np m l v = dupOk np m l v := by
  unfold tiesOk dupOk
  rw [marks_nodup]
theorem held_pre {l : Nat → Nat → Nat} {v : Nat → Nat → Nat → Int} {i m : Nat} (h : i ≤ m) : ∃ r, held l v m = held l v i ++ r := by
  induction m with
  | zero => have : i = 0 := by omega
            subst this; exact ⟨[], by simp⟩
  | succ m ih =>
    by_cases he : i = m + 1
    · subst he; exact ⟨[], by simp⟩
    · obtain ⟨r, hr⟩ := ih (by omega)
      exact ⟨r ++ lsts (l m) (v m) 3, by simp [held, hr]⟩
theorem dup_no {np m i k : Nat} {l : Nat → Nat → Nat} {v : Nat → Nat → Nat → Int} (hi : i < m) (hk : k < tot (l i) 3) (h : (lsts (l i) (v i) 3).getD k 0 ∈ held l v i ++ (lsts (l i) (v i) 3).take k) : dupOk np m l v = false := by
  have h1 : ¬ (held l v m).Nodup := fun hn => by
    obtain ⟨r, hr⟩ := held_pre (l := l) (v := v) (show i + 1 ≤ m by omega)
    rw [hr] at hn
    have h2 := (List.nodup_append.1 hn).1
    rw [held] at h2
    have h3 : (held l v i ++ (lsts (l i) (v i) 3).take (k + 1)).Nodup := by
      have h4 : (held l v i ++ (lsts (l i) (v i) 3)) = (held l v i ++ (lsts (l i) (v i) 3).take (k + 1)) ++ (lsts (l i) (v i) 3).drop (k + 1) := by rw [List.append_assoc, List.take_append_drop]
      rw [h4] at h2
      exact (List.nodup_append.1 h2).1
    rw [take_next (by rw [lsts_length]; exact hk), ← List.append_assoc] at h3
    exact (List.nodup_append.1 h3).2.2 _ h _ (by simp) rfl
  unfold dupOk
  simp [h1]
theorem dup_tie {np m i : Nat} {l : Nat → Nat → Nat} {v : Nat → Nat → Nat → Int} (hi : i < m) (h : tieOk np (l i) (v i) = false) : dupOk np m l v = false := by
  rw [← ties_dup]; exact ties_no hi h
set_option maxRecDepth 100000 in
theorem refTies_any {A2 : Option Addr} {np m cp2 : Nat} {a : Nat → Nat → Option Addr} {l c : Nat → Nat → Nat} {v : Nat → Nat → Nat → Int} {w : World} (hnp : np ≤ 1000000) (hm : m ≤ 1000)
    (hT : RdR w 3 A2 m (fun i => tieL (a i) (l i) (c i))) (hI : ∀ i, i < m → ∀ j, j < 3 → RdR w 1 (a i j) (l i j) (fun k => [.int .i64 (v i j k)])) (hL : ∀ i, i < m → tot (l i) 3 ≤ 1000) :
    Calls Tryz.prog 26 #[.int .i64 np, .slice A2 m cp2] w (Ret w (.bool (dupOk np m l v))) := by
  refine K_enter (S := []) (K := []) Tryz.func26 rfl Tryz.ntmps26 rfl (Sat.start _) ?_
  refine TW.seq fun Y1 hY1 => ?_
  refine TW.region ?_
  refine TL.p Pu.as ?_
  refine TL.nil ?_
  refine TQ.thenN (hY1 _ _ ?_)
  refine TW.seq fun Y2 hY2 => ?_
  refine TW.seq fun Y3 hY3 => ?_
  refine TW.region ?_
  refine TL.p Pu.mv ?_
  refine TL.p (Pu.ln Tryz.underlying23) ?_
  refine TL.p Pu.gt ?_
  refine TL.nil ?_
  refine TQ.thenN (hY3 _ _ ?_)
  refine TW.cond rfl (fun hc0 => ?_) (fun hc0 => ?_)
  · try simp only [decide_eq_true_eq, decide_eq_false_iff_not, Bool.not_eq_true', Bool.not_eq_false', Bool.and_eq_true, Bool.or_eq_true, Bool.and_eq_false_iff, Bool.or_eq_false_iff, Int.not_lt, Int.not_le] at hc0
    refine TW.seq fun Y4 hY4 => ?_
    refine TW.region ?_
    refine TL.p Pu.as ?_
    refine TL.nil ?_
    refine TQ.thenN (hY4 _ _ ?_)
    refine TW.ret ?_
    refine TQ.thenR ?_
    refine TQ.ret Tryz.results26 rfl ((.tmp rfl .nil)) ?_
    exact fun w hw => ⟨ret_bool (by unfold dupOk; rw [show decide ((m : Int) ≤ 8) = false by simp; omega]; simp), Chg.ext hw.chg⟩
  · try simp only [decide_eq_true_eq, decide_eq_false_iff_not, Bool.not_eq_true', Bool.not_eq_false', Bool.and_eq_true, Bool.or_eq_true, Bool.and_eq_false_iff, Bool.or_eq_false_iff, Int.not_lt, Int.not_le] at hc0
    refine TW.skip ?_
    refine TQ.thenN (hY2 _ _ ?_)
    refine TW.seq fun Y5 hY5 => ?_
    refine TW.region ?_
    refine TL.p Pu.mv ?_
    refine TL.ms ty_et104 ty_zr4 ?_
    intro b1
    refine TL.p Pu.as ?_
    refine TL.nil ?_
    refine TQ.thenN (hY5 _ _ ?_)
    refine TW.seq fun Y6 hY6 => ?_
    refine TW.seq fun Y7 hY7 => ?_
    refine TW.region ?_
    refine TL.p Pu.as ?_
    refine TL.nil ?_
    refine TQ.thenN (hY7 _ _ ?_)
    refine TW.block ?_
    refine TW.loop1 (fun (i : Nat) => [(6, .int .i64 (i : Int)), (0, .int .i64 (np : Int)), (1, .slice A2 m cp2), (5, .slice (some ⟨b1, 0, none⟩) np np)]) (fun i => [.own (some ⟨b1, 0, none⟩) np np 4 1 (usedR (held l v i))]) (fun i => i ≤ m ∧ (held l v i).Nodup ∧ ∀ i', i' < i → tieOk np (l i') (v i') = true) (fun i => m - i) 0 (by repeat (first | exact trivial | refine ⟨rfl, ?_⟩ | refine ⟨trivial, ?_⟩)) ?_ ?_ ?_
    · exact KSub.own Pick.hd (fun q _ => by simp [usedR, held]) KSub.nil
    · exact ⟨by omega, by simp [held], fun i' h => by omega⟩
    rintro i ⟨hi, hnd, hoks⟩ Z0 hZ0
    refine TW.seq fun Y8 hY8 => ?_
    refine TW.seq fun Y9 hY9 => ?_
    refine TW.region ?_
    refine TL.p Pu.mv ?_
    refine TL.p Pu.mv ?_
    refine TL.p (Pu.ln Tryz.underlying23) ?_
    refine TL.p Pu.lt ?_
    refine TL.nil ?_
    refine TQ.thenN (hY9 _ _ ?_)
    refine TW.cond rfl (fun hc1 => ?_) (fun hc1 => ?_)
    · try simp only [decide_eq_true_eq, decide_eq_false_iff_not, Bool.not_eq_true', Bool.not_eq_false', Bool.and_eq_true, Bool.or_eq_true, Bool.and_eq_false_iff, Bool.or_eq_false_iff, Int.not_lt, Int.not_le] at hc1
      have him : i < m := by omega
      have hLi := hL i him
      have hIi := hI i him
      have hI0 := hIi 0 (by omega)
      have hI1 := hIi 1 (by omega)
      have hI2 := hIi 2 (by omega)
      have hl0 : l i 0 + l i 1 + l i 2 ≤ 1000 := by rw [← tot3]; exact hLi
      refine TW.skip ?_
      refine TQ.thenN (hY8 _ _ ?_)
      refine TW.seq fun Y10 hY10 => ?_
      refine TW.block ?_
      refine TW.seq fun Y11 hY11 => ?_
      refine TW.region ?_
      refine TL.p Pu.mv ?_
      refine TL.p Pu.mv ?_
      refine TL.p (Pu.el ty_et23) ?_
      refine TL.p (Pu.lds ty_ag34) ?_
      refine TL.m (Mk.al ty_zr34) ?_
      intro b2
      first | refine TL.st ty_sz34 ?_ | refine TL.se ty_sz34 ?_
      refine TL.nil ?_
      refine TQ.thenN (hY11 _ _ ?_)
      refine TW.seq fun Y12 hY12 => ?_
      refine TW.seq fun Y13 hY13 => ?_
      refine TW.join [(43, .bool (!allB 3 (fun j => allB (l i j) (riseP (v i j) np))))] ?_ (fun hJ1 => ?_)
      · refine TQ.thenN (hY13 _ _ ?_)
        refine TW.cond rfl (fun hc2 => ?_) (fun hc2 => ?_)
        · try simp only [decide_eq_true_eq, decide_eq_false_iff_not, Bool.not_eq_true', Bool.not_eq_false', Bool.and_eq_true, Bool.or_eq_true, Bool.and_eq_false_iff, Bool.or_eq_false_iff, Int.not_lt, Int.not_le] at hc2
          have hbad : allB 3 (fun j => allB (l i j) (riseP (v i j) np)) = false := by simpa using hc2
          refine TW.seq fun Y14 hY14 => ?_
          refine TW.region ?_
          refine TL.p Pu.as ?_
          refine TL.nil ?_
          refine TQ.thenN (hY14 _ _ ?_)
          refine TW.ret ?_
          refine TQ.thenR ?_
          refine TQ.blkR ?_
          refine TQ.thenR ?_
          refine TQ.thenR ?_
          refine TQ.blkR ?_
          refine TQ.thenR ?_
          refine TQ.ret Tryz.results26 rfl ((.tmp rfl .nil)) ?_
          exact fun w hw => ⟨ret_bool (by rw [dup_tie him (by unfold tieOk; rw [hbad]; rfl)]), Chg.ext hw.chg⟩
        · try simp only [decide_eq_true_eq, decide_eq_false_iff_not, Bool.not_eq_true', Bool.not_eq_false', Bool.and_eq_true, Bool.or_eq_true, Bool.and_eq_false_iff, Bool.or_eq_false_iff, Int.not_lt, Int.not_le] at hc2
          have hgood : allB 3 (fun j => allB (l i j) (riseP (v i j) np)) = true := by simpa using hc2
          have hbd := lsts_bound (N := (np : Int)) (by omega) 3 (fun j' hj => allB_iff.1 hgood j' hj)
          refine TW.skip ?_
          refine TQ.thenN (hY12 _ _ ?_)
          refine TW.seq fun Y15 hY15 => ?_
          refine TW.region ?_
          refine TL.p (Pu.lds ty_ag34) ?_
          refine TL.call (M := []) rfl (enters Tryz.func13 rfl rfl) (List.Perm.refl _) rfl (fun w hw => by
              exact refList3 (v := v i) (by omega) (fun j hj => (hIi j hj).sat hw Apart.nil)) ?_
          rintro ⟨A8, c8⟩
          refine TL.p Pu.as ?_
          refine TL.nil ?_
          refine TQ.thenN (hY15 _ _ ?_)
          refine TW.seq fun Y16 hY16 => ?_
          refine TW.seq fun Y17 hY17 => ?_
          refine TW.region ?_
          refine TL.p Pu.mv ?_
          refine TL.p (Pu.ln Tryz.underlying24) ?_
          refine TL.p Pu.gt ?_
          refine TL.nil ?_
          refine TQ.thenN (hY17 _ _ ?_)
          refine TW.cond rfl (fun hc3 => ?_) (fun hc3 => ?_)
          · try simp only [decide_eq_true_eq, decide_eq_false_iff_not, Bool.not_eq_true', Bool.not_eq_false', Bool.and_eq_true, Bool.or_eq_true, Bool.and_eq_false_iff, Bool.or_eq_false_iff, Int.not_lt, Int.not_le] at hc3
            refine TW.seq fun Y18 hY18 => ?_
            refine TW.region ?_
            refine TL.p Pu.as ?_
            refine TL.nil ?_
            refine TQ.thenN (hY18 _ _ ?_)
            refine TW.ret ?_
            refine TQ.thenR ?_
            refine TQ.blkR ?_
            refine TQ.thenR ?_
            refine TQ.thenR ?_
            refine TQ.blkR ?_
            refine TQ.thenR ?_
            refine TQ.ret Tryz.results26 rfl ((.tmp rfl .nil)) ?_
            exact fun w hw => ⟨ret_bool (by rw [dup_tie him (by unfold tieOk; rw [show decide (tot (l i) 3 ≤ 10) = false by simp; omega, Bool.and_false])]), Chg.ext hw.chg⟩
          · try simp only [decide_eq_true_eq, decide_eq_false_iff_not, Bool.not_eq_true', Bool.not_eq_false', Bool.and_eq_true, Bool.or_eq_true, Bool.and_eq_false_iff, Bool.or_eq_false_iff, Int.not_lt, Int.not_le] at hc3
            refine TW.skip ?_
            refine TQ.thenN (hY16 _ _ ?_)
            refine TW.seq fun Y19 hY19 => ?_
            refine TW.region ?_
            refine TL.p Pu.as ?_
            refine TL.nil ?_
            refine TQ.thenN (hY19 _ _ ?_)
            refine TW.block ?_
            refine TW.loop1 (fun (k : Nat) => [(9, .int .i64 (k : Int)), (8, .slice A8 (tot (l i) 3) c8), (6, .int .i64 (i : Int)), (0, .int .i64 (np : Int)), (1, .slice A2 m cp2), (5, .slice (some ⟨b1, 0, none⟩) np np)]) (fun k => [.own (some ⟨b1, 0, none⟩) np np 4 1 (usedR (held l v i ++ (lsts (l i) (v i) 3).take k)), .own A8 (tot (l i) 3) c8 3 1 (fun k => [.int .i64 ((lsts (l i) (v i) 3).getD k 0)])]) (fun k => k ≤ tot (l i) 3 ∧ (held l v i ++ (lsts (l i) (v i) 3).take k).Nodup) (fun k => tot (l i) 3 - k) 0 (by repeat (first | exact trivial | refine ⟨rfl, ?_⟩ | refine ⟨trivial, ?_⟩)) ?_ ?_ ?_
            · rw [List.take_zero, List.append_nil]
              exact KSub.cons (by repeat (first | exact Pick.hd | apply Pick.tl)) (KSub.cons (by repeat (first | exact Pick.hd | apply Pick.tl)) KSub.nil)
            · exact ⟨Nat.zero_le _, by simpa using hnd⟩
            rintro k ⟨hk, hndk⟩ Z1 hZ1
            refine TW.seq fun Y20 hY20 => ?_
            refine TW.seq fun Y21 hY21 => ?_
            refine TW.region ?_
            refine TL.p Pu.mv ?_
            refine TL.p Pu.mv ?_
            refine TL.p (Pu.ln Tryz.underlying24) ?_
            refine TL.p Pu.lt ?_
            refine TL.nil ?_
            refine TQ.thenN (hY21 _ _ ?_)
            refine TW.cond rfl (fun hc4 => ?_) (fun hc4 => ?_)
            · try simp only [decide_eq_true_eq, decide_eq_false_iff_not, Bool.not_eq_true', Bool.not_eq_false', Bool.and_eq_true, Bool.or_eq_true, Bool.and_eq_false_iff, Bool.or_eq_false_iff, Int.not_lt, Int.not_le] at hc4
              have hkt : k < tot (l i) 3 := by omega
              have hx : 0 ≤ (lsts (l i) (v i) 3).getD k 0 ∧ (lsts (l i) (v i) 3).getD k 0 ≤ (np : Int) - 1 := by
                refine hbd _ ?_
                rw [List.getD_eq_getElem?_getD, List.getElem?_eq_getElem (by rw [lsts_length]; exact hkt)]
                exact List.getElem_mem _
              obtain ⟨hx0, hx1⟩ := hx
              have hxn : (((lsts (l i) (v i) 3).getD k 0).toNat : Int) = (lsts (l i) (v i) 3).getD k 0 := by omega
              refine TW.skip ?_
              refine TQ.thenN (hY20 _ _ ?_)
              refine TW.seq fun Y22 hY22 => ?_
              refine TW.block ?_
              refine TW.seq fun Y23 hY23 => ?_
              refine TW.seq fun Y24 hY24 => ?_
              refine TW.region ?_
              refine TL.p Pu.mv ?_
              refine TL.p Pu.mv ?_
              refine TL.p Pu.mv ?_
              refine TL.p (Pu.el ty_et24) ?_
              refine TL.p (Pu.ld ty_sc3) ?_
              refine TL.p (Pu.el (q := ((lsts (l i) (v i) 3).getD k 0).toNat) ty_et104 (hk := rfl)) ?_
              refine TL.p (Pu.ld ty_sc4) ?_
              refine TL.nil ?_
              refine TQ.thenN (hY24 _ _ ?_)
              refine TW.cond rfl (fun hc5 => ?_) (fun hc5 => ?_)
              · try simp only [decide_eq_true_eq, decide_eq_false_iff_not, Bool.not_eq_true', Bool.not_eq_false', Bool.and_eq_true, Bool.or_eq_true, Bool.and_eq_false_iff, Bool.or_eq_false_iff, Int.not_lt, Int.not_le] at hc5
                have hdup : (lsts (l i) (v i) 3).getD k 0 ∈ held l v i ++ (lsts (l i) (v i) 3).take k := by rw [← hxn]; simpa using hc5
                refine TW.seq fun Y25 hY25 => ?_
                refine TW.region ?_
                refine TL.p Pu.as ?_
                refine TL.nil ?_
                refine TQ.thenN (hY25 _ _ ?_)
                refine TW.ret ?_
                refine TQ.thenR ?_
                refine TQ.blkR ?_
                refine TQ.thenR ?_
                refine TQ.thenR ?_
                refine TQ.blkR ?_
                refine TQ.blkR ?_
                refine TQ.thenR ?_
                refine TQ.thenR ?_
                refine TQ.blkR ?_
                refine TQ.thenR ?_
                refine TQ.ret Tryz.results26 rfl ((.tmp rfl .nil)) ?_
                exact fun w hw => ⟨ret_bool (by rw [dup_no him hkt hdup]), Chg.ext hw.chg⟩
              · try simp only [decide_eq_true_eq, decide_eq_false_iff_not, Bool.not_eq_true', Bool.not_eq_false', Bool.and_eq_true, Bool.or_eq_true, Bool.and_eq_false_iff, Bool.or_eq_false_iff, Int.not_lt, Int.not_le] at hc5
                have hnew : ¬ (lsts (l i) (v i) 3).getD k 0 ∈ held l v i ++ (lsts (l i) (v i) 3).take k := by rw [← hxn]; simpa using hc5
                refine TW.skip ?_
                refine TQ.thenN (hY23 _ _ ?_)
                refine TW.region ?_
                refine TL.p Pu.mv ?_
                refine TL.p Pu.mv ?_
                refine TL.p Pu.mv ?_
                refine TL.p (Pu.el ty_et24) ?_
                refine TL.p (Pu.ld ty_sc3) ?_
                refine TL.p (Pu.el (q := ((lsts (l i) (v i) 3).getD k 0).toNat) ty_et104 (hk := rfl)) ?_
                first | refine TL.st ty_sz4 ?_ | refine TL.se ty_sz4 ?_
                refine TL.nil ?_
                refine TQ.blkN ?_
                refine TQ.thenN (hY22 _ _ ?_)
                refine TW.region ?_
                refine TL.p Pu.mv ?_
                refine TL.p Pu.ad ?_
                refine TL.p Pu.as ?_
                refine TL.nil ?_
                refine TQ.thenN (hZ1 (k + 1) _ _ ?_ ?_ (by repeat (first | exact trivial | refine ⟨rfl, ?_⟩ | refine ⟨trivial, ?_⟩)) ?_)
                · refine ⟨by omega, ?_⟩
                  rw [take_next (by rw [lsts_length]; exact hkt), ← List.append_assoc]
                  exact List.nodup_append.2 ⟨hndk, by simp, fun a ha b hb e => by
                    rw [List.mem_singleton] at hb
                    subst hb; subst e; exact hnew ha⟩
                · exact (by first | omega | (simp only []; omega) | (simp; omega))
                · rw [take_next (by rw [lsts_length]; exact hkt), ← List.append_assoc]
                  exact KSub.own Pick.hd (fun q _ => usedR_put hx0 q) (KSub.cons (by repeat (first | exact Pick.hd | apply Pick.tl)) KSub.nil)
            · try simp only [decide_eq_true_eq, decide_eq_false_iff_not, Bool.not_eq_true', Bool.not_eq_false', Bool.and_eq_true, Bool.or_eq_true, Bool.and_eq_false_iff, Bool.or_eq_false_iff, Int.not_lt, Int.not_le] at hc4
              obtain rfl : tot (l i) 3 = k := by omega
              refine TW.exit ?_
              refine TQ.thenX ?_
              refine TQ.thenX ?_
              refine TQ.blkX ?_
              refine TQ.blkN ?_
              refine TQ.thenN (hY10 _ _ ?_)
              refine TW.region ?_
              refine TL.p Pu.mv ?_
              refine TL.p Pu.ad ?_
              refine TL.p Pu.as ?_
              refine TL.nil ?_
              rw [List.take_of_length_le (by rw [lsts_length]; exact Nat.le_refl _)] at hndk
              refine TQ.thenN (hZ0 (i + 1) _ _ ?_ ?_ (by repeat (first | exact trivial | refine ⟨rfl, ?_⟩ | refine ⟨trivial, ?_⟩)) ?_)
              · refine ⟨by omega, hndk, fun i' h => ?_⟩
                by_cases he : i' = i
                · subst he
                  simp only [tieOk, Bool.and_eq_true, decide_eq_true_eq]
                  exact ⟨hgood, by omega⟩
                · exact hoks i' (by omega)
              · exact (by first | omega | (simp only []; omega) | (simp; omega))
              · rw [List.take_of_length_le (by rw [lsts_length]; exact Nat.le_refl _)]
                exact KSub.cons (by repeat (first | exact Pick.hd | apply Pick.tl)) KSub.nil
      refine TW.region ?_
      refine TL.p (by first | exact Pu.fb ty_fa34_0 | exact Pu.fe ty_fa34_0) ?_
      refine TL.p (Pu.ld ty_sc24) ?_
      refine TL.p Pu.mv ?_
      refine TL.cr rfl (enters Tryz.func53 rfl rfl) (fun w hw => by
          first | exact refRising_any (v := v i 0) (by omega) (hI0.sat hw Apart.nil) (by omega) (by omega) | exact refRising_any (v := v i 1) (by omega) (hI1.sat hw Apart.nil) (by omega) (by omega) | exact refRising_any (v := v i 2) (by omega) (hI2.sat hw Apart.nil) (by omega) (by omega)) ?_
      refine TL.p Pu.no ?_
      refine TL.p Pu.mv ?_
      refine TL.guard (t := 30) rfl (fun hg1 => ?_) (fun hg1 => ?_)
      · refine TL.gs ?_
        refine TL.gs ?_
        refine TL.gs ?_
        refine TL.gs ?_
        refine TL.gs ?_
        refine TL.p Pu.kt ?_
        refine TL.p Pu.mv ?_
        refine TL.gs ?_
        refine TL.gs ?_
        refine TL.gs ?_
        refine TL.gs ?_
        refine TL.gs ?_
        refine TL.p Pu.kt ?_
        refine TL.nil ?_
        exact TQ.sub (by repeat (first | exact trivial | refine ⟨rfl, ?_⟩ | refine ⟨trivial, ?_⟩ | refine ⟨(by show some (Value.bool _) = some (Value.bool _); simp [hg1, allB3]), ?_⟩)) (by repeat (first | exact KSub.nil | refine KSub.cons (by repeat (first | exact Pick.hd | apply Pick.tl)) ?_)) hJ1
      · refine TL.gd (by first | exact Pu.fb ty_fa34_1 | exact Pu.fe ty_fa34_1) ?_
        refine TL.gd (Pu.ld ty_sc24) ?_
        refine TL.gd Pu.mv ?_
        refine TL.cr rfl (enters Tryz.func53 rfl rfl) (fun w hw => by
            first | exact refRising_any (v := v i 0) (by omega) (hI0.sat hw Apart.nil) (by omega) (by omega) | exact refRising_any (v := v i 1) (by omega) (hI1.sat hw Apart.nil) (by omega) (by omega) | exact refRising_any (v := v i 2) (by omega) (hI2.sat hw Apart.nil) (by omega) (by omega)) ?_
        refine TL.gd Pu.no ?_
        refine TL.p Pu.kf ?_
        refine TL.p Pu.mv ?_
        refine TL.guard (t := 37) rfl (fun hg2 => ?_) (fun hg2 => ?_)
        · refine TL.gs ?_
          refine TL.gs ?_
          refine TL.gs ?_
          refine TL.gs ?_
          refine TL.gs ?_
          refine TL.p Pu.kt ?_
          refine TL.nil ?_
          exact TQ.sub (by repeat (first | exact trivial | refine ⟨rfl, ?_⟩ | refine ⟨trivial, ?_⟩ | refine ⟨(by show some (Value.bool _) = some (Value.bool _); simp [hg1, hg2, allB3]), ?_⟩)) (by repeat (first | exact KSub.nil | refine KSub.cons (by repeat (first | exact Pick.hd | apply Pick.tl)) ?_)) hJ1
        · refine TL.gd (by first | exact Pu.fb ty_fa34_2 | exact Pu.fe ty_fa34_2) ?_
          refine TL.gd (Pu.ld ty_sc24) ?_
          refine TL.gd Pu.mv ?_
          refine TL.cr rfl (enters Tryz.func53 rfl rfl) (fun w hw => by
              first | exact refRising_any (v := v i 0) (by omega) (hI0.sat hw Apart.nil) (by omega) (by omega) | exact refRising_any (v := v i 1) (by omega) (hI1.sat hw Apart.nil) (by omega) (by omega) | exact refRising_any (v := v i 2) (by omega) (hI2.sat hw Apart.nil) (by omega) (by omega)) ?_
          refine TL.gd Pu.no ?_
          refine TL.p Pu.kf ?_
          refine TL.nil ?_
          exact TQ.sub (by repeat (first | exact trivial | refine ⟨rfl, ?_⟩ | refine ⟨trivial, ?_⟩ | refine ⟨(by show some (Value.bool _) = some (Value.bool _); simp [hg1, hg2, allB3]), ?_⟩)) (by repeat (first | exact KSub.nil | refine KSub.cons (by repeat (first | exact Pick.hd | apply Pick.tl)) ?_)) hJ1
    · try simp only [decide_eq_true_eq, decide_eq_false_iff_not, Bool.not_eq_true', Bool.not_eq_false', Bool.and_eq_true, Bool.or_eq_true, Bool.and_eq_false_iff, Bool.or_eq_false_iff, Int.not_lt, Int.not_le] at hc1
      refine TW.exit ?_
      refine TQ.thenX ?_
      refine TQ.thenX ?_
      refine TQ.blkX ?_
      refine TQ.thenN (hY6 _ _ ?_)
      refine TW.seq fun Y26 hY26 => ?_
      refine TW.region ?_
      refine TL.p Pu.as ?_
      refine TL.nil ?_
      refine TQ.thenN (hY26 _ _ ?_)
      refine TW.ret ?_
      refine TQ.ret Tryz.results26 rfl ((.tmp rfl .nil)) ?_
      exact fun w hw => ⟨ret_bool (by
        obtain rfl : i = m := by omega
        unfold dupOk
        rw [allB_iff.2 hoks, show decide ((i : Int) ≤ 8) = true by simp; omega]
        simp [hnd]), Chg.ext hw.chg⟩
theorem refCheck_any {A A2 : Option Addr} {np m cp cp2 : Nat} {pk : Nat → Nat → Int} {a : Nat → Nat → Option Addr} {l c : Nat → Nat → Nat} {v : Nat → Nat → Nat → Int} {w : World} (h : Lay w A A2 np m pk a l c v) :
    Calls Tryz.prog 7 #[.slice A np cp, .slice A2 m cp2] w (Ret w (.int .i64 (checkV np pk m l v))) := by
  have hnp := h.hnp
  refine K_enter (S := []) (K := []) Tryz.func7 rfl Tryz.ntmps7 rfl (Sat.start _) ?_
  refine TW.seq fun Y1 hY1 => ?_
  refine TW.region ?_
  refine TL.p Pu.as ?_
  refine TL.nil ?_
  refine TQ.thenN (hY1 _ _ ?_)
  refine TW.seq fun Y2 hY2 => ?_
  refine TW.seq fun Y3 hY3 => ?_
  refine TW.region ?_
  refine TL.p Pu.mv ?_
  refine TL.cr rfl (enters Tryz.func25 rfl rfl) (fun w hw => by
      exact refPacks_any hnp (h.sat hw).hR) ?_
  refine TL.p Pu.no ?_
  refine TL.nil ?_
  refine TQ.thenN (hY3 _ _ ?_)
  refine TW.cond rfl (fun hc0 => ?_) (fun hc0 => ?_)
  · try simp only [decide_eq_true_eq, decide_eq_false_iff_not, Bool.not_eq_true', Bool.not_eq_false', Bool.and_eq_true, Bool.or_eq_true, Bool.and_eq_false_iff, Bool.or_eq_false_iff, Int.not_lt, Int.not_le] at hc0
    have hno : packsOk np pk = false := hc0
    refine TW.seq fun Y4 hY4 => ?_
    refine TW.region ?_
    refine TL.p Pu.as ?_
    refine TL.nil ?_
    refine TQ.thenN (hY4 _ _ ?_)
    refine TW.ret ?_
    refine TQ.thenR ?_
    refine TQ.ret Tryz.results7 rfl ((.tmp rfl .nil)) ?_
    exact fun w hw => ⟨by unfold checkV; rw [hno]; rfl, Chg.ext hw.chg⟩
  · try simp only [decide_eq_true_eq, decide_eq_false_iff_not, Bool.not_eq_true', Bool.not_eq_false', Bool.and_eq_true, Bool.or_eq_true, Bool.and_eq_false_iff, Bool.or_eq_false_iff, Int.not_lt, Int.not_le] at hc0
    have hyes : packsOk np pk = true := hc0
    have hnp30 : np ≤ 30 := by
      have h1 := hyes
      simp only [packsOk, Bool.and_eq_true, decide_eq_true_eq] at h1
      omega
    refine TW.skip ?_
    refine TQ.thenN (hY2 _ _ ?_)
    refine TW.seq fun Y5 hY5 => ?_
    refine TW.seq fun Y6 hY6 => ?_
    refine TW.region ?_
    refine TL.p Pu.mv ?_
    refine TL.p (Pu.ln Tryz.underlying22) ?_
    refine TL.p Pu.mv ?_
    refine TL.cr rfl (enters Tryz.func26 rfl rfl) (fun w hw => by
        exact refTies_any (by omega) h.hm (h.sat hw).hT (h.sat hw).hI h.hL) ?_
    refine TL.p Pu.no ?_
    refine TL.nil ?_
    refine TQ.thenN (hY6 _ _ ?_)
    refine TW.cond rfl (fun hc1 => ?_) (fun hc1 => ?_)
    · try simp only [decide_eq_true_eq, decide_eq_false_iff_not, Bool.not_eq_true', Bool.not_eq_false', Bool.and_eq_true, Bool.or_eq_true, Bool.and_eq_false_iff, Bool.or_eq_false_iff, Int.not_lt, Int.not_le] at hc1
      have hn1 : dupOk np m l v = false := hc1
      refine TW.seq fun Y7 hY7 => ?_
      refine TW.region ?_
      refine TL.p Pu.as ?_
      refine TL.nil ?_
      refine TQ.thenN (hY7 _ _ ?_)
      refine TW.ret ?_
      refine TQ.thenR ?_
      refine TQ.ret Tryz.results7 rfl ((.tmp rfl .nil)) ?_
      exact fun w hw => ⟨by unfold checkV; rw [hyes, ties_dup, hn1]; rfl, Chg.ext hw.chg⟩
    · try simp only [decide_eq_true_eq, decide_eq_false_iff_not, Bool.not_eq_true', Bool.not_eq_false', Bool.and_eq_true, Bool.or_eq_true, Bool.and_eq_false_iff, Bool.or_eq_false_iff, Int.not_lt, Int.not_le] at hc1
      have hy1 : dupOk np m l v = true := hc1
      refine TW.skip ?_
      refine TQ.thenN (hY5 _ _ ?_)
      refine TW.seq fun Y8 hY8 => ?_
      refine TW.region ?_
      refine TL.p Pu.as ?_
      refine TL.nil ?_
      refine TQ.thenN (hY8 _ _ ?_)
      refine TW.ret ?_
      refine TQ.ret Tryz.results7 rfl ((.tmp rfl .nil)) ?_
      exact fun w hw => ⟨by unfold checkV; rw [hyes, ties_dup, hy1]; rfl, Chg.ext hw.chg⟩
end Go.Proofs.YtljhdcclajikiaaGreatDoor
namespace Go.Proofs.YtljhdcclajikiaaGreatDoor
set_option linter.all false
set_option linter.unusedVariables false
set_option linter.unusedSimpArgs false
open Go.RowKit
def Bd (f : Nat → Nat → Int) (np : Nat) (B : Int) : Prop := ∀ q, q < np → 0 ≤ f q 9 ∧ f q 9 ≤ B ∧ 0 ≤ f q 10 ∧ f q 10 ≤ 100000
theorem Bd.mono {f : Nat → Nat → Int} {np : Nat} {B D : Int} (h : Bd f np B) (h1 : B ≤ D) : Bd f np D := fun q hq => by
  obtain ⟨a, b, c, e⟩ := h q hq
  exact ⟨a, by omega, c, e⟩
end Go.Proofs.YtljhdcclajikiaaGreatDoor
namespace Go.Proofs.YtljhdcclajikiaaGreatDoor
set_option linter.all false
set_option linter.unusedVariables false
set_option linter.unusedSimpArgs false
open Go.RowKit
theorem old_below {W0 w w2 : World} {S : List Nat} {K : List Fact} (hb : Below W0.heap.size W0 w) (hs : Sat S w K w2) (hS : ∀ b ∈ S, W0.heap.size ≤ b) : Below W0.heap.size W0 w2 :=
  ⟨hs.chg.os.trans hb.os, hs.chg.tape.trans hb.tape, hs.chg.output.trans hb.output, Nat.le_trans hb.size hs.chg.size, fun k hk => (hs.chg.block k (Nat.lt_of_lt_of_le hk hb.size) (fun hm => by have := hS k hm; omega)).trans (hb.block k hk)⟩
theorem check_ok {np m : Nat} {pk : Nat → Nat → Int} {l : Nat → Nat → Nat} {v : Nat → Nat → Nat → Int} (h : checkV np pk m l v = 0) : np ≤ 30 ∧ (∀ q, q < np → packOk (pk q) = true) ∧ ∀ i, i < m → (∀ j, j < 3 → allB (l i j) (riseP (v i j) np) = true) ∧ tot (l i) 3 ≤ 10 := by
  unfold checkV at h
  split at h
  · rename_i hp
    split at h
    · rename_i ht
      simp only [packsOk, tiesOk, Bool.and_eq_true, decide_eq_true_eq] at hp ht
      refine ⟨by omega, allB_iff.1 hp.2, fun i hi => ?_⟩
      have := allB_iff.1 ht.1 i hi
      simp only [tieOk, Bool.and_eq_true, decide_eq_true_eq] at this
      exact ⟨allB_iff.1 this.1, this.2⟩
    · simp at h
  · simp at h
section
variable {np m nj : Nat} {pk jt : Nat → Nat → Int} {l : Nat → Nat → Nat} {v : Nat → Nat → Nat → Int} {days : Int}
end
end Go.Proofs.YtljhdcclajikiaaGreatDoor
namespace Go.Proofs.YtljhdcclajikiaaGreatDoor
set_option linter.all false
set_option linter.unusedVariables false
set_option linter.unusedSimpArgs false
open Go.RowKit
def sumF (g : Nat → Int) : Nat → Int
  | 0 => 0
  | n + 1 => sumF g n + g n
theorem sumF_bd {g : Nat → Int} {B : Int} : ∀ {n : Nat}, (∀ k, k < n → 0 ≤ g k ∧ g k ≤ B) → 0 ≤ sumF g n ∧ sumF g n ≤ n * B
  | 0, _ => by simp [sumF]
  | n + 1, h => by
    have h1 := sumF_bd (n := n) fun k hk => h k (by omega)
    have h2 := h n (by omega)
    simp only [sumF]
    have e : ((n + 1 : Nat) : Int) * B = n * B + B := by rw [Int.natCast_add, Int.add_mul]; simp
    omega
theorem sumF_le {g : Nat → Int} {n : Nat} (h : ∀ k, k < n → 0 ≤ g k ∧ g k ≤ 1000000) (hn : n ≤ 1000) : ∀ q, q ≤ n → 0 ≤ sumF g q ∧ sumF g q ≤ 1000000000 := fun q hq => by
  have h1 := sumF_bd (g := g) (n := q) fun k hk => h k (by omega)
  have : (q : Int) * 1000000 ≤ 1000 * 1000000 := by omega
  omega
theorem KSub.app {K K' L : List Fact} {A : Option Addr} {k c sz : Nat} {E : TypeId} {g : Nat → List Value} {x : List Value} (hp : Pick K (.own A (k + 1) c E sz (catR k g (fun _ => x))) K') (hx : x = g k) (h : KSub K' L) : KSub K (.own A (k + 1) c E sz g :: L) :=
  KSub.own hp (fun i hi => by
    simp only [catR]
    by_cases h : i < k
    · rw [if_pos h]
    · obtain rfl : i = k := by omega
      rw [if_neg h, hx]) h
theorem sum_any {A : Option Addr} {n cp : Nat} {x y : Nat → Int} {w : World} (hn : n ≤ 1000) (hx : ∀ k, k < n → 0 ≤ x k ∧ x k ≤ 1000000) (hy : ∀ k, k < n → 0 ≤ y k ∧ y k ≤ 1000000) (hR : RdR w 2 A n (fun k => spL (x k) (y k))) :
    Calls Tryz.prog 72 #[.slice A n cp] w (Ret w (.agg #[.int .i64 (sumF x n), .int .i64 (sumF y n)])) := by
  have sx := sumF_le hx hn
  have sy := sumF_le hy hn
  refine K_enter (S := []) (K := []) Tryz.func72 rfl Tryz.ntmps72 rfl (Sat.start _) ?_
  refine TW.seq fun Y1 hY1 => ?_
  refine TW.region ?_
  refine TL.m (Mk.al ty_zr47) ?_
  intro b1
  refine TL.nil ?_
  refine TQ.thenN (hY1 _ _ ?_)
  refine TW.seq fun Y2 hY2 => ?_
  refine TW.seq fun Y3 hY3 => ?_
  refine TW.region ?_
  refine TL.p Pu.mv ?_
  refine TL.p (Pu.ln Tryz.underlying81) ?_
  refine TL.p Pu.mv ?_
  refine TL.nil ?_
  refine TQ.thenN (hY3 _ _ ?_)
  refine TW.block ?_
  refine TW.loop1 (fun (k : Nat) => [(7, .int .i64 (k : Int)), (6, .int .i64 (n : Int)), (5, .slice A n cp), (2, .pointer (some ⟨b1, 0, none⟩))]) (fun k => [.blk b1 47 (spL (sumF x k) (sumF y k))]) (fun k => k ≤ n) (fun k => n - k) 0 (by repeat (first | exact trivial | refine ⟨rfl, ?_⟩ | refine ⟨trivial, ?_⟩)) ?_ ?_ ?_
  · exact (by repeat (first | exact KSub.nil | refine KSub.cons (by repeat (first | exact Pick.hd | apply Pick.tl)) ?_))
  · exact Nat.zero_le _
  rintro k hk Z0 hZ0
  refine TW.seq fun Y4 hY4 => ?_
  refine TW.region ?_
  refine TL.p Pu.lt ?_
  refine TL.nil ?_
  refine TQ.thenN (hY4 _ _ ?_)
  refine TW.seq fun Y5 hY5 => ?_
  refine TW.cond rfl (fun hc0 => ?_) (fun hc0 => ?_)
  · try simp only [decide_eq_true_eq, decide_eq_false_iff_not, Bool.not_eq_true', Bool.not_eq_false', Bool.and_eq_true, Bool.or_eq_true, Bool.and_eq_false_iff, Bool.or_eq_false_iff, Int.not_lt, Int.not_le] at hc0
    have hkn : k < n := by omega
    have hxk := hx k hkn
    have hyk := hy k hkn
    have sxk := sx k hk
    have syk := sy k hk
    refine TW.skip ?_
    refine TQ.thenN (hY5 _ _ ?_)
    refine TW.seq fun Y6 hY6 => ?_
    refine TW.block ?_
    refine TW.seq fun Y7 hY7 => ?_
    refine TW.region ?_
    refine TL.p (Pu.el ty_et81) ?_
    refine TL.p (Pu.lds ty_ag47) ?_
    refine TL.m (Mk.al ty_zr47) ?_
    intro b2
    first | refine TL.st ty_sz47 ?_ | refine TL.se ty_sz47 ?_
    refine TL.nil ?_
    refine TQ.thenN (hY7 _ _ ?_)
    refine TW.ex0 (Drop.blk 2 rfl (by repeat (first | exact Pick.hd | apply Pick.tl)) Drop.done) ?_
    refine RG.tk 0 rfl (by first | exact Pu.fb ty_fa47_0 | exact Pu.fe ty_fa47_0) ?_
    refine RG.tk 2 rfl (by first | exact Pu.fb ty_fa47_0 | exact Pu.fe ty_fa47_0) ?_
    refine RG.tk 3 rfl (Pu.ld ty_sc3) ?_
    refine RG.tk 5 rfl (by first | exact Pu.fb ty_fa47_1 | exact Pu.fe ty_fa47_1) ?_
    refine RG.tk 7 rfl (by first | exact Pu.fb ty_fa47_1 | exact Pu.fe ty_fa47_1) ?_
    refine RG.tk 8 rfl (Pu.ld ty_sc3) ?_
    refine RG.a2 1 6 rfl rfl (fun X1 hX1 => ?_) (fun X6 hX6 => ?_)
    · refine TL.p (Pu.ld ty_sc3) ?_
      refine TL.nil ?_
      refine TQ.nxt (hX1 _ _ (by repeat (first | exact HasL.nil | refine HasL.cons (by repeat (first | exact Pick.hd | apply Pick.tl)) ?_)) ?_)
      refine RG.tk 4 rfl Pu.ad ?_
      refine RG.a1 6 rfl (fun X6 hX6 => ?_)
      refine TL.p (Pu.ld ty_sc3) ?_
      refine TL.nil ?_
      refine TQ.nxt (hX6 _ _ (by repeat (first | exact HasL.nil | refine HasL.cons (by repeat (first | exact Pick.hd | apply Pick.tl)) ?_)) ?_)
      refine RG.tk 9 rfl Pu.ad ?_
      refine RG.tk 10 rfl (by first | exact Pu.fb ty_fa47_0 | exact Pu.fe ty_fa47_0) ?_
      refine RG.a1 11 rfl (fun X11 hX11 => ?_)
      first | refine TL.st ty_sz3 ?_ | refine TL.se ty_sz3 ?_
      refine TL.nil ?_
      refine TQ.nxt (hX11 _ _ (by repeat (first | exact HasL.nil | refine HasL.cons (by repeat (first | exact Pick.hd | apply Pick.tl)) ?_)) ?_)
      refine RG.tk 12 rfl (by first | exact Pu.fb ty_fa47_1 | exact Pu.fe ty_fa47_1) ?_
      refine RG.a1 13 rfl (fun X13 hX13 => ?_)
      first | refine TL.st ty_sz3 ?_ | refine TL.se ty_sz3 ?_
      refine TL.nil ?_
      refine TQ.nxt (hX13 _ _ (by repeat (first | exact HasL.nil | refine HasL.cons (by repeat (first | exact Pick.hd | apply Pick.tl)) ?_)) ?_)
      refine RG.nil ?_ (by kernel_rfl)
      refine TQ.blkN ?_
      refine TQ.thenN (hY6 _ _ ?_)
      refine TW.region ?_
      refine TL.p Pu.ad ?_
      refine TL.p Pu.mv ?_
      refine TL.nil ?_
      refine TQ.thenN (hZ0 (k + 1) _ _ ?_ ?_ (by repeat (first | exact trivial | refine ⟨rfl, ?_⟩ | refine ⟨trivial, ?_⟩)) ?_)
      · exact (by omega)
      · exact (by first | omega | (simp only []; omega) | (simp; omega))
      · exact (by repeat (first | exact KSub.nil | refine KSub.cons (by repeat (first | exact Pick.hd | apply Pick.tl)) ?_))
    · refine TL.p (Pu.ld ty_sc3) ?_
      refine TL.nil ?_
      refine TQ.nxt (hX6 _ _ (by repeat (first | exact HasL.nil | refine HasL.cons (by repeat (first | exact Pick.hd | apply Pick.tl)) ?_)) ?_)
      refine RG.tk 9 rfl Pu.ad ?_
      refine RG.a1 1 rfl (fun X1 hX1 => ?_)
      refine TL.p (Pu.ld ty_sc3) ?_
      refine TL.nil ?_
      refine TQ.nxt (hX1 _ _ (by repeat (first | exact HasL.nil | refine HasL.cons (by repeat (first | exact Pick.hd | apply Pick.tl)) ?_)) ?_)
      refine RG.tk 4 rfl Pu.ad ?_
      refine RG.tk 10 rfl (by first | exact Pu.fb ty_fa47_0 | exact Pu.fe ty_fa47_0) ?_
      refine RG.a1 11 rfl (fun X11 hX11 => ?_)
      first | refine TL.st ty_sz3 ?_ | refine TL.se ty_sz3 ?_
      refine TL.nil ?_
      refine TQ.nxt (hX11 _ _ (by repeat (first | exact HasL.nil | refine HasL.cons (by repeat (first | exact Pick.hd | apply Pick.tl)) ?_)) ?_)
      refine RG.tk 12 rfl (by first | exact Pu.fb ty_fa47_1 | exact Pu.fe ty_fa47_1) ?_
      refine RG.a1 13 rfl (fun X13 hX13 => ?_)
      first | refine TL.st ty_sz3 ?_ | refine TL.se ty_sz3 ?_
      refine TL.nil ?_
      refine TQ.nxt (hX13 _ _ (by repeat (first | exact HasL.nil | refine HasL.cons (by repeat (first | exact Pick.hd | apply Pick.tl)) ?_)) ?_)
      refine RG.nil ?_ (by kernel_rfl)
      refine TQ.blkN ?_
      refine TQ.thenN (hY6 _ _ ?_)
      refine TW.region ?_
      refine TL.p Pu.ad ?_
      refine TL.p Pu.mv ?_
      refine TL.nil ?_
      refine TQ.thenN (hZ0 (k + 1) _ _ ?_ ?_ (by repeat (first | exact trivial | refine ⟨rfl, ?_⟩ | refine ⟨trivial, ?_⟩)) ?_)
      · exact (by omega)
      · exact (by first | omega | (simp only []; omega) | (simp; omega))
      · exact (by repeat (first | exact KSub.nil | refine KSub.cons (by repeat (first | exact Pick.hd | apply Pick.tl)) ?_))
  · try simp only [decide_eq_true_eq, decide_eq_false_iff_not, Bool.not_eq_true', Bool.not_eq_false', Bool.and_eq_true, Bool.or_eq_true, Bool.and_eq_false_iff, Bool.or_eq_false_iff, Int.not_lt, Int.not_le] at hc0
    obtain rfl : k = n := by omega
    refine TW.exit ?_
    refine TQ.thenX ?_
    refine TQ.thenX ?_
    refine TQ.blkX ?_
    refine TQ.thenN (hY2 _ _ ?_)
    refine TW.seq fun Y8 hY8 => ?_
    refine TW.region ?_
    refine TL.p (Pu.lds ty_ag47) ?_
    first | refine TL.st ty_sz47 ?_ | refine TL.se ty_sz47 ?_
    refine TL.nil ?_
    refine TQ.thenN (hY8 _ _ ?_)
    refine TW.ret ?_
    refine TQ.ret Tryz.results72 rfl ((RV.cs ty_ag47 .nil)) ?_
    exact fun w hw => Ret.of hw
theorem bounded_any (bound : Int) (w : World) : Calls Tryz.prog 30 #[.int .i64 bound] w (Try w errs (if inB5 0 1000000000 bound then 0 else 2) (.tuple #[])) := by
  refine K_enter (S := []) (K := []) Tryz.func30 rfl Tryz.ntmps30 rfl (Sat.start _) ?_
  refine TW.region ?_
  refine TL.p Pu.mv ?_
  refine TL.m Mk.bl ?_
  intro b1
  refine TL.cr rfl (enters Tryz.func41 rfl rfl) (fun w hw => by
      exact inOne_any _ _ _ (hw.holds _ (List.mem_cons_self ..))) ?_
  refine TL.ct rfl (enters Tryz.func40 rfl rfl) (fun w hw => by
      exact need_any _ _ _ (by decide)) (fun hp1 => ?_) (fun hp1 => ?_)
  rotate_left
  · refine TQ.pan rfl ?_
    exact fun w hw => Try.no hp1 hw
  refine TL.nil ?_
  refine TQ.end Tryz.results30 rfl (.nil) ?_
  exact fun w hw => Try.ok hp1 hw
end Go.Proofs.YtljhdcclajikiaaGreatDoor
namespace Go.Proofs.YtljhdcclajikiaaGreatDoor
set_option linter.all false
set_option linter.unusedVariables false
set_option linter.unusedSimpArgs false
open Go.RowKit
def rl (f : Nat → Int) : Int := (restV f).getD 0 0
def rh (f : Nat → Int) : Int := (restV f).getD 1 0
theorem rest_bd {f : Nat → Int} (h : packOk f = true) : 0 ≤ rl f ∧ rl f ≤ rh f ∧ rh f ≤ 1000000 := by
  obtain ⟨⟨h1, h2, h3, h4, h5, h6, h7⟩, hkind⟩ := (packOk_iff f).1 h
  have m1 : f 7 * f 10 ≤ f 8 * f 10 ∨ f 8 < f 7 := by
    by_cases hh : f 7 ≤ f 8
    · exact .inl (Int.mul_le_mul_of_nonneg_right hh h6)
    · exact .inr (by omega)
  unfold rl rh restV
  split
  · simp only [List.getD_cons_zero, List.getD_cons_succ]
    have : 0 ≤ f 7 * f 10 := Int.mul_nonneg (by omega) h6
    omega
  · split
    · simp only [List.getD_cons_zero, List.getD_cons_succ]; omega
    · have hk : f 0 = 1 := by omega
      have h8 : 0 ≤ f 5 ∧ f 5 ≤ f 6 ∧ f 6 ≤ 1000 := by omega
      have m3 : 0 ≤ f 1 * (1000 - f 6) ∧ f 1 * (1000 - f 6) ≤ f 1 * 1000 := ⟨Int.mul_nonneg h1 (by omega), Int.mul_le_mul_of_nonneg_left (by omega) h1⟩
      have m4 : f 1 * (1000 - f 6) ≤ f 2 * (1000 - f 5) := Int.mul_le_mul h2 (by omega) (by omega) (by omega)
      have m5 : f 2 * (1000 - f 5) ≤ f 2 * 1000 := Int.mul_le_mul_of_nonneg_left (by omega) (by omega)
      split <;> simp only [List.getD_cons_zero, List.getD_cons_succ] <;> omega
theorem restK_ok {f : Nat → Int} (h : packOk f = true) : restK f = [.agg #[.int .i64 (rl f), .int .i64 (rh f)], .agg #[.int .i64 ((restV f).getD 2 0), .int .i64 ((restV f).getD 3 0)], .int .u8 ((restV f).getD 4 0), .int .i64 0] := by
  unfold restK
  rw [if_pos h]
  rfl
theorem rests_any {A : Option Addr} {np cp : Nat} {pk : Nat → Nat → Int} {w : World} (hG : None0 w) (hn : np ≤ 1000000000) (hP : ∀ q, q < np → packOk (pk q) = true) (hR : RdR w 11 A np (fun k => packL (pk k))) :
    CallsK Tryz.prog 33 #[.slice A np cp] [] w (Option Addr × Nat) (fun x => .slice x.1 np x.2) (fun x => [.own x.1 np x.2 47 2 (fun q => spL (rl (pk q)) (rh (pk q)))]) := by
  refine K_enter (S := []) (K := []) Tryz.func33 rfl Tryz.ntmps33 rfl (Sat.start _) ?_
  refine TW.seq fun Y1 hY1 => ?_
  refine TW.region ?_
  refine TL.p Pu.as ?_
  refine TL.nil ?_
  refine TQ.thenN (hY1 _ _ ?_)
  refine TW.seq fun Y2 hY2 => ?_
  refine TW.region ?_
  refine TL.p Pu.as ?_
  refine TL.nil ?_
  refine TQ.thenN (hY2 _ _ ?_)
  refine TW.seq fun Y3 hY3 => ?_
  refine TW.seq fun Y4 hY4 => ?_
  refine TW.region ?_
  refine TL.p Pu.mv ?_
  refine TL.p (Pu.ln Tryz.underlying22) ?_
  refine TL.p Pu.mv ?_
  refine TL.nil ?_
  refine TQ.thenN (hY4 _ _ ?_)
  refine TW.block ?_
  refine TW.loop3 (fun (k : Nat) (Ao : Option Addr) (co : Nat) => [(12, .int .i64 (k : Int)), (11, .int .i64 (np : Int)), (10, .slice A np cp), (3, .slice Ao k co)]) (fun k Ao co => [.own Ao k co 47 2 (fun q => spL (rl (pk q)) (rh (pk q)))]) (fun k Ao co => k ≤ np) (fun k Ao co => np - k) 0 none 0 (by repeat (first | exact trivial | refine ⟨rfl, ?_⟩ | refine ⟨trivial, ?_⟩)) ?_ ?_ ?_
  · exact KSub.nilOwn KSub.nil
  · exact Nat.zero_le _
  rintro k Ao co hk Z0 hZ0
  refine TW.seq fun Y5 hY5 => ?_
  refine TW.region ?_
  refine TL.p Pu.lt ?_
  refine TL.nil ?_
  refine TQ.thenN (hY5 _ _ ?_)
  refine TW.seq fun Y6 hY6 => ?_
  refine TW.cond rfl (fun hc0 => ?_) (fun hc0 => ?_)
  · try simp only [decide_eq_true_eq, decide_eq_false_iff_not, Bool.not_eq_true', Bool.not_eq_false', Bool.and_eq_true, Bool.or_eq_true, Bool.and_eq_false_iff, Bool.or_eq_false_iff, Int.not_lt, Int.not_le] at hc0
    have hkn : k < np := by omega
    refine TW.skip ?_
    refine TQ.thenN (hY6 _ _ ?_)
    refine TW.seq fun Y7 hY7 => ?_
    refine TW.block ?_
    refine TW.seq fun Y8 hY8 => ?_
    refine TW.region ?_
    refine TL.p (Pu.el ty_et22) ?_
    refine TL.p (Pu.lds ty_ag58) ?_
    refine TL.m (Mk.al ty_zr58) ?_
    intro b1
    first | refine TL.st ty_sz58 ?_ | refine TL.se ty_sz58 ?_
    refine TL.nil ?_
    refine TQ.thenN (hY8 _ _ ?_)
    refine TW.seq fun Y9 hY9 => ?_
    refine TW.region ?_
    refine TL.p (Pu.lds ty_ag58) ?_
    refine TL.cr rfl (enters Tryz.func14 rfl rfl) (fun w hw => by
        have h9 := rest_any (pk k) w (hG.sat hw (by simp))
        rw [restK_ok (hP k hkn)] at h9
        exact h9) ?_
    refine TL.p Pu.mv ?_
    refine TL.p Pu.ex ?_
    refine TL.p Pu.ex ?_
    refine TL.p Pu.ex ?_
    refine TL.p Pu.ex ?_
    refine TL.m (Mk.al ty_zr47) ?_
    intro b2
    refine TL.m (Mk.al ty_zr47) ?_
    intro b3
    first | refine TL.st ty_sz47 ?_ | refine TL.se ty_sz47 ?_
    first | refine TL.st ty_sz47 ?_ | refine TL.se ty_sz47 ?_
    refine TL.p Pu.as ?_
    refine TL.p Pu.as ?_
    refine TL.nil ?_
    refine TQ.thenN (hY9 _ _ ?_)
    refine TW.region ?_
    refine TL.p Pu.mv ?_
    refine TL.p (Pu.lds ty_ag47) ?_
    refine TL.m Mk.bl ?_
    intro b4
    first | refine TL.a0 ty_et81 ?_ | refine TL.ap ty_et81 ?_
    intro A5 c5
    refine TL.p Pu.as ?_
    refine TL.nil ?_
    refine TQ.blkN ?_
    refine TQ.thenN (hY7 _ _ ?_)
    refine TW.region ?_
    refine TL.p Pu.ad ?_
    refine TL.p Pu.mv ?_
    refine TL.nil ?_
    refine TQ.thenN (hZ0 (k + 1) _ _ _ _ ?_ ?_ (by repeat (first | exact trivial | refine ⟨rfl, ?_⟩ | refine ⟨trivial, ?_⟩)) ?_)
    · exact (by omega)
    · exact (by first | omega | (simp only []; omega) | (simp; omega))
    · exact KSub.app (by repeat (first | exact Pick.hd | apply Pick.tl)) rfl KSub.nil
  · try simp only [decide_eq_true_eq, decide_eq_false_iff_not, Bool.not_eq_true', Bool.not_eq_false', Bool.and_eq_true, Bool.or_eq_true, Bool.and_eq_false_iff, Bool.or_eq_false_iff, Int.not_lt, Int.not_le] at hc0
    obtain rfl : k = np := by omega
    refine TW.exit ?_
    refine TQ.thenX ?_
    refine TQ.thenX ?_
    refine TQ.blkX ?_
    refine TQ.thenN (hY3 _ _ ?_)
    refine TW.seq fun Y10 hY10 => ?_
    refine TW.region ?_
    refine TL.p Pu.mv ?_
    refine TL.p Pu.as ?_
    refine TL.nil ?_
    refine TQ.thenN (hY10 _ _ ?_)
    refine TW.ret ?_
    refine TQ.ret Tryz.results33 rfl ((.tmp rfl .nil)) ?_
    exact fun w hw => ⟨(Ao, co), rfl, hw⟩
def wS (r : Nat → Int) (v : Nat → Int) (n : Nat) : Int := sumF (fun k => r (v k).toNat) n
def Inx (v : Nat → Int) (n nr : Nat) : Prop := ∀ k, k < n → 0 ≤ v k ∧ v k < nr
def tiedL (a : Nat → Option Addr) (l c : Nat → Nat) (Ar : Option Addr) (nr cr : Nat) : List Value := [.slice (a 0) (l 0) (c 0), .slice (a 1) (l 1) (c 1), .slice (a 2) (l 2) (c 2), .slice Ar nr cr]
structure RestOk (r0 r1 : Nat → Int) (nr : Nat) : Prop where
  lo : ∀ q, q < nr → 0 ≤ r0 q
  le : ∀ q, q < nr → r0 q ≤ r1 q
  hi : ∀ q, q < nr → r1 q ≤ 1000000
theorem RestOk.bd0 {r0 r1 : Nat → Int} {nr n : Nat} {v : Nat → Int} (h : RestOk r0 r1 nr) (hv : Inx v n nr) : ∀ k, k < n → 0 ≤ r0 (v k).toNat ∧ r0 (v k).toNat ≤ 1000000 := fun k hk => by
  have := hv k hk
  have a := h.lo (v k).toNat (by omega); have b := h.le (v k).toNat (by omega); have c := h.hi (v k).toNat (by omega)
  omega
theorem RestOk.bd1 {r0 r1 : Nat → Int} {nr n : Nat} {v : Nat → Int} (h : RestOk r0 r1 nr) (hv : Inx v n nr) : ∀ k, k < n → 0 ≤ r1 (v k).toNat ∧ r1 (v k).toNat ≤ 1000000 := fun k hk => by
  have := hv k hk
  have a := h.lo (v k).toNat (by omega); have b := h.le (v k).toNat (by omega); have c := h.hi (v k).toNat (by omega)
  omega
theorem sumF_mono {g h : Nat → Int} : ∀ {n : Nat}, (∀ k, k < n → g k ≤ h k) → sumF g n ≤ sumF h n
  | 0, _ => by simp [sumF]
  | n + 1, e => by
    have h1 := sumF_mono (n := n) fun k hk => e k (by omega)
    have h2 := e n (by omega)
    simp only [sumF]; omega
theorem RestOk.wS {r0 r1 : Nat → Int} {nr n : Nat} {v : Nat → Int} (h : RestOk r0 r1 nr) (hv : Inx v n nr) (hn : n ≤ 1000) : 0 ≤ wS r0 v n ∧ wS r0 v n ≤ wS r1 v n ∧ wS r1 v n ≤ 1000000000 := by
  have h0 := sumF_le (h.bd0 hv) hn n (Nat.le_refl _)
  have h1 := sumF_le (h.bd1 hv) hn n (Nat.le_refl _)
  have h2 := sumF_mono (n := n) (g := fun k => r0 (v k).toNat) (h := fun k => r1 (v k).toNat) fun k hk => by
    have := hv k hk
    exact h.le _ (by omega)
  exact ⟨h0.1, h2, h1.2⟩
theorem weight_any {a : Nat → Option Addr} {l c : Nat → Nat} {Ar A : Option Addr} {nr cr n cp : Nat} {r0 r1 v : Nat → Int} {w : World} (hr : RestOk r0 r1 nr) (hn : n ≤ 1000) (hv : Inx v n nr)
    (hR : RdR w 2 Ar nr (fun q => spL (r0 q) (r1 q))) (hI : RdR w 1 A n (fun k => [.int .i64 (v k)])) :
    Calls Tryz.prog 43 #[.agg (tiedL a l c Ar nr cr).toArray, .slice A n cp] w (Ret w (.agg #[.int .i64 (wS r0 v n), .int .i64 (wS r1 v n)])) := by
  refine K_enter (S := []) (K := []) Tryz.func43 rfl Tryz.ntmps43 rfl (Sat.start _) ?_
  refine TW.seq fun Y1 hY1 => ?_
  refine TW.region ?_
  refine TL.m Mk.bx ?_
  intro b1
  refine TL.m (Mk.al ty_zr47) ?_
  intro b2
  refine TL.nil ?_
  refine TQ.thenN (hY1 _ _ ?_)
  refine TW.seq fun Y2 hY2 => ?_
  refine TW.region ?_
  refine TL.p Pu.as ?_
  refine TL.nil ?_
  refine TQ.thenN (hY2 _ _ ?_)
  refine TW.seq fun Y3 hY3 => ?_
  refine TW.seq fun Y4 hY4 => ?_
  refine TW.region ?_
  refine TL.p Pu.mv ?_
  refine TL.p (Pu.ln Tryz.underlying24) ?_
  refine TL.p Pu.mv ?_
  refine TL.nil ?_
  refine TQ.thenN (hY4 _ _ ?_)
  refine TW.block ?_
  refine TW.loop3 (fun (k : Nat) (Ao : Option Addr) (co : Nat) => [(10, .int .i64 (k : Int)), (9, .int .i64 (n : Int)), (8, .slice A n cp), (5, .slice Ao k co), (2, .pointer (some ⟨b1, 0, none⟩)), (4, .pointer (some ⟨b2, 0, none⟩))]) (fun k Ao co => [.own Ao k co 47 2 (fun q => spL (r0 (v q).toNat) (r1 (v q).toNat)), .blk b1 84 (tiedL a l c Ar nr cr), .blk b2 47 (spL 0 0)]) (fun k Ao co => k ≤ n) (fun k Ao co => n - k) 0 none 0 (by repeat (first | exact trivial | refine ⟨rfl, ?_⟩ | refine ⟨trivial, ?_⟩)) ?_ ?_ ?_
  · exact KSub.nilOwn (KSub.cons (Pick.tl Pick.hd) (KSub.cons Pick.hd KSub.nil))
  · exact Nat.zero_le _
  rintro k Ao co hk Z0 hZ0
  refine TW.seq fun Y5 hY5 => ?_
  refine TW.region ?_
  refine TL.p Pu.lt ?_
  refine TL.nil ?_
  refine TQ.thenN (hY5 _ _ ?_)
  refine TW.seq fun Y6 hY6 => ?_
  refine TW.cond rfl (fun hc0 => ?_) (fun hc0 => ?_)
  · try simp only [decide_eq_true_eq, decide_eq_false_iff_not, Bool.not_eq_true', Bool.not_eq_false', Bool.and_eq_true, Bool.or_eq_true, Bool.and_eq_false_iff, Bool.or_eq_false_iff, Int.not_lt, Int.not_le] at hc0
    have hkn : k < n := by omega
    have hvk := hv k hkn
    refine TW.skip ?_
    refine TQ.thenN (hY6 _ _ ?_)
    refine TW.seq fun Y7 hY7 => ?_
    refine TW.block ?_
    refine TW.seq fun Y8 hY8 => ?_
    refine TW.region ?_
    refine TL.p (Pu.el ty_et24) ?_
    refine TL.p (Pu.ld ty_sc3) ?_
    refine TL.p Pu.as ?_
    refine TL.nil ?_
    refine TQ.thenN (hY8 _ _ ?_)
    refine TW.region ?_
    refine TL.p Pu.mv ?_
    refine TL.p (by first | exact Pu.fb ty_fa84_1 | exact Pu.fe ty_fa84_1) ?_
    refine TL.p (Pu.ld ty_sc81) ?_
    refine TL.p Pu.mv ?_
    refine TL.p (Pu.el (q := (v k).toNat) ty_et81 (hk := rfl)) ?_
    refine TL.p (Pu.lds ty_ag47) ?_
    refine TL.m Mk.bl ?_
    intro b3
    first | refine TL.a0 ty_et81 ?_ | refine TL.ap ty_et81 ?_
    intro A4 c4
    refine TL.p Pu.as ?_
    refine TL.nil ?_
    refine TQ.blkN ?_
    refine TQ.thenN (hY7 _ _ ?_)
    refine TW.region ?_
    refine TL.p Pu.ad ?_
    refine TL.p Pu.mv ?_
    refine TL.nil ?_
    refine TQ.thenN (hZ0 (k + 1) _ _ _ _ ?_ ?_ (by repeat (first | exact trivial | refine ⟨rfl, ?_⟩ | refine ⟨trivial, ?_⟩)) ?_)
    · exact (by omega)
    · exact (by first | omega | (simp only []; omega) | (simp; omega))
    · exact KSub.app (by repeat (first | exact Pick.hd | apply Pick.tl)) rfl (by repeat (first | exact KSub.nil | refine KSub.cons (by repeat (first | exact Pick.hd | apply Pick.tl)) ?_))
  · try simp only [decide_eq_true_eq, decide_eq_false_iff_not, Bool.not_eq_true', Bool.not_eq_false', Bool.and_eq_true, Bool.or_eq_true, Bool.and_eq_false_iff, Bool.or_eq_false_iff, Int.not_lt, Int.not_le] at hc0
    obtain rfl : k = n := by omega
    refine TW.exit ?_
    refine TQ.thenX ?_
    refine TQ.thenX ?_
    refine TQ.blkX ?_
    refine TQ.thenN (hY3 _ _ ?_)
    refine TW.seq fun Y9 hY9 => ?_
    refine TW.region ?_
    refine TL.p Pu.mv ?_
    refine TL.cr rfl (enters Tryz.func72 rfl rfl) (fun w hw => by
        exact sum_any hn (hr.bd0 hv) (hr.bd1 hv) (OwnR.rdr (hw.holds (.own Ao k co 47 2 (fun q => spL (r0 (v q).toNat) (r1 (v q).toNat))) (by simp)))) ?_
    first | refine TL.st ty_sz47 ?_ | refine TL.se ty_sz47 ?_
    refine TL.nil ?_
    refine TQ.thenN (hY9 _ _ ?_)
    refine TW.ret ?_
    refine TQ.ret Tryz.results43 rfl ((RV.cs ty_ag47 .nil)) ?_
    exact fun w hw => Ret.of hw
end Go.Proofs.YtljhdcclajikiaaGreatDoor
namespace Go.Proofs.YtljhdcclajikiaaGreatDoor
set_option linter.all false
set_option linter.unusedVariables false
set_option linter.unusedSimpArgs false
open Go.RowKit
def balV (l0 l1 r0 r1 b : Int) : Int := if -b ≤ l0 - r1 ∧ l1 - r0 ≤ b then 2 else if b < l0 - r1 ∨ l1 - r0 < -b then 0 else 1
set_option maxRecDepth 100000 in
theorem balance_any {a : Nat → Option Addr} {l c : Nat → Nat} {Ar : Option Addr} {nr cr : Nat} {r0 r1 : Nat → Int} {v : Nat → Nat → Int} {b : Int} {w : World} (hr : RestOk r0 r1 nr) (hb : 0 ≤ b ∧ b ≤ 1000000000000) (hl : ∀ j, j < 2 → l j ≤ 1000) (hv : ∀ j, j < 2 → Inx (v j) (l j) nr)
    (hR : RdR w 2 Ar nr (fun q => spL (r0 q) (r1 q))) (hI : ∀ j, j < 2 → RdR w 1 (a j) (l j) (fun k => [.int .i64 (v j k)])) :
    Calls Tryz.prog 38 #[.agg (tiedL a l c Ar nr cr).toArray, .int .i64 b] w (Ret w (.int .u8 (balV (wS r0 (v 0) (l 0)) (wS r1 (v 0) (l 0)) (wS r0 (v 1) (l 1)) (wS r1 (v 1) (l 1)) b))) := by
  have e0 := hr.wS (hv 0 (by omega)) (hl 0 (by omega))
  have e1 := hr.wS (hv 1 (by omega)) (hl 1 (by omega))
  generalize hq0 : wS r0 (v 0) (l 0) = l0 at *
  generalize hq1 : wS r1 (v 0) (l 0) = l1 at *
  generalize hq2 : wS r0 (v 1) (l 1) = s0 at *
  generalize hq3 : wS r1 (v 1) (l 1) = s1 at *
  refine K_enter (S := []) (K := []) Tryz.func38 rfl Tryz.ntmps38 rfl (Sat.start _) ?_
  refine TW.seq fun Y1 hY1 => ?_
  refine TW.region ?_
  refine TL.m Mk.bx ?_
  intro b1
  refine TL.p Pu.as ?_
  refine TL.nil ?_
  refine TQ.thenN (hY1 _ _ ?_)
  refine TW.seq fun Y2 hY2 => ?_
  refine TW.dw 12 ?_
  refine RK.tk (Pu.lds ty_ag84) ?_
  refine RK.tk (by first | exact Pu.fb ty_fa84_0 | exact Pu.fe ty_fa84_0) ?_
  refine RK.tk (by first | exact Pu.fb ty_fa34_0 | exact Pu.fe ty_fa34_0) ?_
  refine RK.tk (Pu.ld ty_sc24) ?_
  refine RK.keep ?_
  refine RK.tk (Pu.lds ty_ag84) ?_
  refine RK.tk (by first | exact Pu.fb ty_fa84_0 | exact Pu.fe ty_fa84_0) ?_
  refine RK.tk (by first | exact Pu.fb ty_fa34_1 | exact Pu.fe ty_fa34_1) ?_
  refine RK.tk (Pu.ld ty_sc24) ?_
  refine RK.keep ?_
  refine RK.float [.int .i64 0, .int .i64 0] ?_
  refine RK.float [.int .i64 0, .int .i64 0] ?_
  refine RK.ch [false, false] ?_ ⟨ty_zr47, ty_zr47, trivial⟩
  refine WK.cr rfl (enters Tryz.func43 rfl rfl) (fun w hw => by
      have h9 := weight_any (a := a) (l := l) (c := c) (Ar := Ar) (cr := cr) (cp := c 0) hr (hl 0 (by omega)) (hv 0 (by omega)) (hR.sat hw Apart.nil) ((hI 0 (by omega)).sat hw Apart.nil)
      rw [hq0, hq1] at h9
      exact h9) ?_
  refine WK.cr rfl (enters Tryz.func43 rfl rfl) (fun w hw => by
      have h9 := weight_any (a := a) (l := l) (c := c) (Ar := Ar) (cr := cr) (cp := c 1) hr (hl 1 (by omega)) (hv 1 (by omega)) (hR.sat hw Apart.nil) ((hI 1 (by omega)).sat hw Apart.nil)
      rw [hq2, hq3] at h9
      exact h9) ?_
  refine WK.n ?_
  intro b2
  intro b3
  first | refine TL.st ty_sz47 ?_ | refine TL.se ty_sz47 ?_
  first | refine TL.st ty_sz47 ?_ | refine TL.se ty_sz47 ?_
  refine TL.nil ?_
  refine TQ.thenN (hY2 _ _ ?_)
  refine TW.seq fun Y3 hY3 => ?_
  refine TW.seq fun Y4 hY4 => ?_
  refine TW.dw 12 ?_
  refine RK.tk (by first | exact Pu.fb ty_fa47_0 | exact Pu.fe ty_fa47_0) ?_
  refine RK.tk (Pu.ld ty_sc3) ?_
  refine RK.tk (by first | exact Pu.fb ty_fa47_1 | exact Pu.fe ty_fa47_1) ?_
  refine RK.tk (Pu.ld ty_sc3) ?_
  refine RK.tk Pu.sb ?_
  refine RK.tk (by first | exact Pu.fb ty_fa47_1 | exact Pu.fe ty_fa47_1) ?_
  refine RK.tk (Pu.ld ty_sc3) ?_
  refine RK.tk (by first | exact Pu.fb ty_fa47_0 | exact Pu.fe ty_fa47_0) ?_
  refine RK.tk (Pu.ld ty_sc3) ?_
  refine RK.tk Pu.sb ?_
  refine RK.tk Pu.as ?_
  refine RK.tk Pu.as ?_
  refine RK.ch [] ?_ trivial
  refine WK.n ?_
  refine TL.nil ?_
  refine TQ.thenN (hY4 _ _ ?_)
  refine TW.block ?_
  refine TW.seq fun Y5 hY5 => ?_
  refine TW.region ?_
  refine TL.p Pu.mv ?_
  refine TL.p Pu.ng ?_
  refine TL.p Pu.mv ?_
  refine TL.p Pu.mv ?_
  refine TL.p Pu.mv ?_
  refine TL.m Mk.bl ?_
  intro b4
  refine TL.cr rfl (enters Tryz.func41 rfl rfl) (fun w hw => by
      exact inTwo_any _ _ _ _ (hw.holds _ (List.mem_cons_self ..))) ?_
  refine TL.p Pu.as ?_
  refine TL.nil ?_
  refine TQ.thenN (hY5 _ _ ?_)
  refine TW.cond rfl (fun hc0 => ?_) (fun hc0 => ?_)
  · try simp only [decide_eq_true_eq, decide_eq_false_iff_not, Bool.not_eq_true', Bool.not_eq_false', Bool.and_eq_true, Bool.or_eq_true, Bool.and_eq_false_iff, Bool.or_eq_false_iff, Int.not_lt, Int.not_le] at hc0
    have h7 : -b ≤ l0 - s1 ∧ l1 - s0 ≤ b := by
      simp only [inB5, Bool.and_eq_true, decide_eq_true_eq] at hc0
      omega
    refine TW.seq fun Y6 hY6 => ?_
    refine TW.region ?_
    refine TL.p Pu.as ?_
    refine TL.nil ?_
    refine TQ.thenN (hY6 _ _ ?_)
    refine TW.ret ?_
    refine TQ.blkR ?_
    refine TQ.thenR ?_
    refine TQ.ret Tryz.results38 rfl ((.tmp rfl .nil)) ?_
    exact fun w hw => ⟨ret_int (by unfold balV; rw [if_pos h7]), Chg.ext hw.chg⟩
  · try simp only [decide_eq_true_eq, decide_eq_false_iff_not, Bool.not_eq_true', Bool.not_eq_false', Bool.and_eq_true, Bool.or_eq_true, Bool.and_eq_false_iff, Bool.or_eq_false_iff, Int.not_lt, Int.not_le] at hc0
    have h7 : ¬ (-b ≤ l0 - s1 ∧ l1 - s0 ≤ b) := by
      intro h
      simp only [inB5, Bool.and_eq_false_iff, decide_eq_false_iff_not] at hc0
      omega
    refine TW.seq fun Y7 hY7 => ?_
    refine TW.join [(37, .bool (decide (b < l0 - s1) || decide (l1 - s0 < -b)))] ?_ (fun hJ1 => ?_)
    · refine TQ.thenN (hY7 _ _ ?_)
      refine TW.cond rfl (fun hc1 => ?_) (fun hc1 => ?_)
      · try simp only [decide_eq_true_eq, decide_eq_false_iff_not, Bool.not_eq_true', Bool.not_eq_false', Bool.and_eq_true, Bool.or_eq_true, Bool.and_eq_false_iff, Bool.or_eq_false_iff, Int.not_lt, Int.not_le] at hc1
        refine TW.seq fun Y8 hY8 => ?_
        refine TW.region ?_
        refine TL.p Pu.as ?_
        refine TL.nil ?_
        refine TQ.thenN (hY8 _ _ ?_)
        refine TW.ret ?_
        refine TQ.blkR ?_
        refine TQ.thenR ?_
        refine TQ.ret Tryz.results38 rfl ((.tmp rfl .nil)) ?_
        exact fun w hw => ⟨ret_int (by unfold balV; rw [if_neg h7, if_pos hc1]), Chg.ext hw.chg⟩
      · try simp only [decide_eq_true_eq, decide_eq_false_iff_not, Bool.not_eq_true', Bool.not_eq_false', Bool.and_eq_true, Bool.or_eq_true, Bool.and_eq_false_iff, Bool.or_eq_false_iff, Int.not_lt, Int.not_le] at hc1
        refine TW.skip ?_
        refine TQ.blkN ?_
        refine TQ.thenN (hY3 _ _ ?_)
        refine TW.seq fun Y9 hY9 => ?_
        refine TW.region ?_
        refine TL.p Pu.as ?_
        refine TL.nil ?_
        refine TQ.thenN (hY9 _ _ ?_)
        refine TW.ret ?_
        refine TQ.ret Tryz.results38 rfl ((.tmp rfl .nil)) ?_
        exact fun w hw => ⟨ret_int (by unfold balV; rw [if_neg h7, if_neg (by omega)]), Chg.ext hw.chg⟩
    refine TW.region ?_
    refine TL.p Pu.mv ?_
    refine TL.p Pu.mv ?_
    refine TL.p Pu.gt ?_
    refine TL.p Pu.mv ?_
    refine TL.guard (t := 41) rfl (fun hg1 => ?_) (fun hg1 => ?_)
    · refine TL.gs ?_
      refine TL.gs ?_
      refine TL.gs ?_
      refine TL.gs ?_
      refine TL.p Pu.kt ?_
      refine TL.p Pu.as ?_
      refine TL.nil ?_
      exact TQ.sub (by repeat (first | exact trivial | refine ⟨rfl, ?_⟩ | refine ⟨trivial, ?_⟩ | refine ⟨(by show some (Value.bool _) = some (Value.bool _); simp [hg1]), ?_⟩)) (by repeat (first | exact KSub.nil | refine KSub.cons (by repeat (first | exact Pick.hd | apply Pick.tl)) ?_)) hJ1
    · refine TL.gd Pu.mv ?_
      refine TL.gd Pu.mv ?_
      refine TL.gd Pu.ng ?_
      refine TL.gd Pu.lt ?_
      refine TL.p Pu.kf ?_
      refine TL.p Pu.as ?_
      refine TL.nil ?_
      exact TQ.sub (by repeat (first | exact trivial | refine ⟨rfl, ?_⟩ | refine ⟨trivial, ?_⟩ | refine ⟨(by show some (Value.bool _) = some (Value.bool _); simp [hg1]), ?_⟩)) (by repeat (first | exact KSub.nil | refine KSub.cons (by repeat (first | exact Pick.hd | apply Pick.tl)) ?_)) hJ1
theorem RestOk.of_packs {pk : Nat → Nat → Int} {np : Nat} (hP : ∀ q, q < np → packOk (pk q) = true) : RestOk (fun q => rl (pk q)) (fun q => rh (pk q)) np :=
  ⟨fun q hq => (rest_bd (hP q hq)).1, fun q hq => (rest_bd (hP q hq)).2.1, fun q hq => (rest_bd (hP q hq)).2.2⟩
end Go.Proofs.YtljhdcclajikiaaGreatDoor
