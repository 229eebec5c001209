/-
  load: check: the error of packs and loads.
-/
import Derived.Test.YtagcnokaajinlaaDoorLoadJ
namespace Go.Proofs.YtagcnokaajinlaaDoor
set_option linter.all false
set_option linter.unusedVariables false
set_option linter.unusedSimpArgs false
open Go.RowKit
theorem everyPack_any {g : FuncId} {fs cs : List Value} {A : Option Addr} {n cp : Nat} {v : Nat → Nat → Int} {p : Nat → Bool} {w : World} (hen : Enters Tryd.prog g) (hn : n ≤ 9223372036854775807)
    (hR : RdR w 11 A n (fun k => packL (v k))) (hg : ∀ k, k < n → ∀ w', Below w.heap.size w w' → Calls Tryd.prog g (fs ++ [Value.agg (packL (v k)).toArray] ++ cs).toArray w' (Ret w' (.bool (p k)))) :
    Calls Tryd.prog 38 #[.slice A n cp, .func (.func g) fs.toArray cs.toArray] w (Ret w (.bool (allB n p))) :=
  CallsK.retOf (everyPack_st (M := fun _ => []) hen hn hR (fun _ => Apart.nil) (Sat.start w) (fun _ => rfl) fun k hk _ w' hw' => CallsK.ret (hg k hk w' (Chg.ext hw'.chg))) fun x => by
    rw [x.any]
    show Value.bool (!anyB n fun k => !p k) = _
    rw [not_anyB]
    simp
/-- What a load holds: list j's numbers; the first lists; all loads ahead. -/
def lst (l : Nat → Nat) (v : Nat → Nat → Int) (j : Nat) : List Int := (List.range (l j)).map (v j)
def lsts (l : Nat → Nat) (v : Nat → Nat → Int) : Nat → List Int
  | 0 => []
  | j + 1 => lsts l v j ++ lst l v j
def held (l : Nat → Nat → Nat) (v : Nat → Nat → Nat → Int) : Nat → List Int
  | 0 => []
  | i + 1 => held l v i ++ lsts (l i) (v i) 3
theorem lsts_length (l : Nat → Nat) (v : Nat → Nat → Int) : ∀ j, (lsts l v j).length = tot l j
  | 0 => rfl
  | j + 1 => by simp [lsts, tot, lst, lsts_length l v j]
def markAll (xs : List Int) : List (Int × Value) := xs.foldl (fun m x => mput x (.bool true) m) []
theorem markAll_snoc (xs : List Int) (x : Int) : markAll (xs ++ [x]) = mput x (.bool true) (markAll xs) := by simp [markAll]
def tieOk (np : Nat) (l : Nat → Nat) (v : Nat → Nat → Int) : Bool := allB 3 (fun j => allB (l j) (riseP (v j) np)) && decide (tot l 3 ≤ 10)
def packsOk (np : Nat) (pk : Nat → Nat → Int) : Bool := decide ((np : Int) ≤ 30) && allB np fun k => packOk (pk k)
def tiesOk (np m : Nat) (l : Nat → Nat → Nat) (v : Nat → Nat → Nat → Int) : Bool := allB m (fun i => tieOk np (l i) (v i)) && (decide ((m : Int) ≤ 8) && decide (((markAll (held l v m)).length : Int) = ((held l v m).length : Int)))
def checkV (np : Nat) (pk : Nat → Nat → Int) (m : Nat) (l : Nat → Nat → Nat) (v : Nat → Nat → Nat → Int) : Int := if packsOk np pk then (if tiesOk np m l v then 0 else 51) else 50
theorem Try.bad {w w' : World} {code code' : Int} {v : Value} {S : List Nat} {L : List Fact} (e : code' ≠ 0) (h : code = code') (hS : S = []) (hs : Sat S w L w') : Try w errs code v (.panicked (errs code')) w' := by
  subst h hS
  exact Try.no e hs
theorem need_no {b : Bool} {e : Int} (h : (if b then (0 : Int) else e) ≠ 0) : b = false ∧ (if b then (0 : Int) else e) = e := by
  cases b with
  | true => exact absurd rfl h
  | false => exact ⟨rfl, rfl⟩
theorem need_yes {b : Bool} {e : Int} (he : e ≠ 0) (h : (if b then (0 : Int) else e) = 0) : b = true := by
  cases b with
  | true => rfl
  | false => exact absurd h he
section
variable {np m i j : Nat} {pk : Nat → Nat → Int} {l : Nat → Nat → Nat} {v : Nat → Nat → Nat → Int} {w w' : World} {L : List Fact}
theorem check_p1 (h : (if (decide ((np : Int) ≤ 30) && allB np fun k => packOk (pk k)) then (0 : Int) else 50) ≠ 0) (hw : Sat [] w L w') : Try w errs (checkV np pk m l v) (.tuple #[]) (.panicked (errs (if (decide ((np : Int) ≤ 30) && allB np fun k => packOk (pk k)) then (0 : Int) else 50))) w' := by
  obtain ⟨h1, h2⟩ := need_no h
  have h3 : packsOk np pk = false := h1
  exact Try.bad h (by unfold checkV; rw [h2, h3]; rfl) rfl hw
theorem check_p {b : Bool} (hp : packsOk np pk = true) (h : (if b then (0 : Int) else 51) ≠ 0) (ht : b = false → tiesOk np m l v = false) (hw : Sat [] w L w') : Try w errs (checkV np pk m l v) (.tuple #[]) (.panicked (errs (if b then (0 : Int) else 51))) w' := by
  obtain ⟨h1, h2⟩ := need_no h
  exact Try.bad h (by unfold checkV; rw [h2, hp, ht h1]; rfl) rfl hw
theorem ties_no (hi : i < m) (h : tieOk np (l i) (v i) = false) : tiesOk np m l v = false := by
  cases hb : allB m (fun i => tieOk np (l i) (v i)) with
  | false => unfold tiesOk; rw [hb]; rfl
  | true =>
    have := allB_iff.1 hb i hi
    rw [h] at this
    cases this
theorem ties_no2 (hi : i < m) (hj : j < 3) (h : allB (l i j) (riseP (v i j) np) = false) : tiesOk np m l v = false := by
  refine ties_no hi ?_
  cases hb : allB 3 (fun j => allB (l i j) (riseP (v i j) np)) with
  | false => unfold tieOk; rw [hb]; rfl
  | true =>
    have := allB_iff.1 hb j hj
    rw [h] at this
    cases this
theorem ties_no3 (hi : i < m) (h : decide ((tot (l i) 3 : Int) ≤ 10) = false) : tiesOk np m l v = false := by
  refine ties_no hi ?_
  have h' : ¬ (tot (l i) 3 : Int) ≤ 10 := by simpa using h
  have h'' : decide (tot (l i) 3 ≤ 10) = false := by simp; omega
  unfold tieOk
  rw [h'', Bool.and_false]
end
set_option maxRecDepth 100000 in
theorem index_tie (a : Nat → Option Addr) (l c : Nat → Nat) (j : Nat) (hj : j < 3) (w : World) : (Instr.index 85 (.agg (tieL a l c).toArray) (.int .i64 (j : Int))).run Tryd.prog w = .ok (.slice (a j) (l j) (c j)) w := by
  have h : j = 0 ∨ j = 1 ∨ j = 2 := by omega
  rcases h with rfl | rfl | rfl
  · unfold tieL; go_simp; rfl
  · unfold tieL; go_simp; rfl
  · unfold tieL; go_simp; rfl
set_option maxRecDepth 100000 in
theorem check_any {A A2 : Option Addr} {np cp m cp2 : Nat} {pk : Nat → Nat → Int} {a : Nat → Nat → Option Addr} {l c : Nat → Nat → Nat} {v : Nat → Nat → Nat → Int} {w : World} (hG : None0 w) (hnp : np ≤ 1000000000) (hm : m ≤ 1000)
    (hR : RdR w 11 A np (fun k => packL (pk k))) (hT : RdR w 3 A2 m (fun i => tieL (a i) (l i) (c i))) (hI : ∀ i, i < m → ∀ j, j < 3 → RdR w 1 (a i j) (l i j) (fun k => [.int .i64 (v i j k)])) (hL : ∀ i, i < m → tot (l i) 3 ≤ 1000) :
    Calls Tryd.prog 31 #[.slice A np cp, .slice A2 m cp2] w (Try w errs (checkV np pk m l v) (.tuple #[])) := by
  refine K_enter (S := []) (K := []) Tryd.func31 rfl Tryd.ntmps31 rfl (Sat.start _) ?_
  refine TW.seq fun Y1 hY1 => ?_
  refine TW.region ?_
  refine TL.p Pu.mv ?_
  refine TL.p (Pu.ln Tryd.underlying26) ?_
  refine TL.p Pu.le ?_
  refine TL.p Pu.mv ?_
  refine TL.mid 7 [(18, .bool (decide ((np : Int) ≤ 30) && allB np fun k => packOk (pk k)))] ?_ (fun hM1 => ?_)
  · simp only [List.toList_toArray, List.drop_succ_cons, List.drop_zero]
    refine TL.ct rfl (enters Tryd.func32 rfl rfl) (fun w hw => by
        exact need_any _ _ _ (by decide)) (fun hp1 => ?_) (fun hp1 => ?_)
    rotate_left
    · refine TQ.thenP ?_
      refine TQ.pan rfl ?_
      first
        | exact fun w hw => check_p1 hp1 hw
        | exact fun w hw => check_p hp1 hp2 (fun h => ties_no2 him hj3 h) hw
        | exact fun w hw => check_p hp1 hp3 (fun h => ties_no3 him h) hw
        | exact fun w hw => check_p hp1 hp4 (fun h => by unfold tiesOk; rw [← hz, h, Bool.and_false]) hw
    refine TL.nil ?_
    refine TQ.thenN (hY1 _ _ ?_)
    refine TW.seq fun Y2 hY2 => ?_
    refine TW.region ?_
    refine TL.mm (kk := .i64) ?_
    intro b1
    refine TL.p Pu.as ?_
    refine TL.nil ?_
    refine TQ.thenN (hY2 _ _ ?_)
    refine TW.seq fun Y3 hY3 => ?_
    refine TW.region ?_
    refine TL.p Pu.as ?_
    refine TL.nil ?_
    refine TQ.thenN (hY3 _ _ ?_)
    refine TW.seq fun Y4 hY4 => ?_
    refine TW.seq fun Y5 hY5 => ?_
    refine TW.region ?_
    refine TL.p Pu.mv ?_
    refine TL.p (Pu.ln Tryd.underlying27) ?_
    refine TL.p Pu.mv ?_
    refine TL.nil ?_
    refine TQ.thenN (hY5 _ _ ?_)
    refine TW.block ?_
    have hp1 : packsOk np pk = true := by
      exact need_yes (by decide) hp1
    have hnp30 : np ≤ 30 := by
      simp only [packsOk, Bool.and_eq_true, decide_eq_true_eq] at hp1
      omega
    refine TW.loop2 (fun (i : Nat) (z : Int) => [(23, .int .i64 (i : Int)), (22, .int .i64 (m : Int)), (21, .slice A2 m cp2), (0, .slice A np cp), (1, .slice A2 m cp2), (4, .map (some b1)), (5, .int .i64 z)]) (fun i z => [.obj b1 (mapO .i64 (markAll (held l v i)))]) (fun i z => i ≤ m ∧ z = ((held l v i).length : Int) ∧ z ≤ 1000 * i ∧ ∀ i', i' < i → tieOk np (l i') (v i') = true) (fun i z => m - i) 0 _ (by repeat (first | exact trivial | refine ⟨rfl, ?_⟩ | refine ⟨trivial, ?_⟩)) ?_ ?_ ?_
    · exact (by repeat (first | exact KSub.nil | refine KSub.cons (by repeat (first | exact Pick.hd | apply Pick.tl)) ?_))
    · exact ⟨by omega, rfl, by decide, fun i' h => by omega⟩
    rintro i z ⟨hi, hz, hzb, hoks⟩ Z0 hZ0
    refine TW.seq fun Y6 hY6 => ?_
    refine TW.region ?_
    refine TL.p Pu.lt ?_
    refine TL.nil ?_
    refine TQ.thenN (hY6 _ _ ?_)
    refine TW.seq fun Y7 hY7 => ?_
    refine TW.cond rfl (fun hc0 => ?_) (fun hc0 => ?_)
    · try simp only [decide_eq_true_eq, decide_eq_false_iff_not, Bool.not_eq_true', Bool.not_eq_false', Bool.and_eq_true, Bool.or_eq_true, Bool.and_eq_false_iff, Bool.or_eq_false_iff, Int.not_lt, Int.not_le] at hc0
      have him : i < m := by omega
      have hLi := hL i him
      have hIi := hI i him
      refine TW.skip ?_
      refine TQ.thenN (hY7 _ _ ?_)
      refine TW.seq fun Y8 hY8 => ?_
      refine TW.block ?_
      refine TW.seq fun Y9 hY9 => ?_
      refine TW.region ?_
      refine TL.p (Pu.el ty_et27) ?_
      refine TL.p (Pu.lds ty_ag59) ?_
      refine TL.m (Mk.al ty_zr59) ?_
      intro b2
      first | refine TL.st ty_sz59 ?_ | refine TL.se ty_sz59 ?_
      refine TL.nil ?_
      refine TQ.thenN (hY9 _ _ ?_)
      refine TW.seq fun Y10 hY10 => ?_
      refine TW.seq fun Y11 hY11 => ?_
      refine TW.region ?_
      refine TL.p (Pu.lds ty_ag59) ?_
      refine TL.cr rfl (enters Tryd.func37 rfl rfl) (fun w hw => by
          exact lists_any _ _ _ _) ?_
      refine TL.p Pu.mv ?_
      refine TL.nil ?_
      refine TQ.thenN (hY11 _ _ ?_)
      refine TW.block ?_
      refine TW.loop2 (fun (j : Nat) (y : Int) => [(29, .int .i64 (j : Int)), (28, .agg (tieL (a i) (l i) (c i)).toArray), (7, .pointer (some ⟨b2, 0, none⟩)), (23, .int .i64 (i : Int)), (22, .int .i64 (m : Int)), (21, .slice A2 m cp2), (0, .slice A np cp), (1, .slice A2 m cp2), (4, .map (some b1)), (5, .int .i64 y)]) (fun j y => [.obj b1 (mapO .i64 (markAll (held l v i ++ lsts (l i) (v i) j))), .blk b2 59 (tieL (a i) (l i) (c i))]) (fun j y => j ≤ 3 ∧ y = z + (tot (l i) j : Int) ∧ ∀ j', j' < j → allB (l i j') (riseP (v i j') np) = true) (fun j y => 3 - j) 0 _ (by repeat (first | exact trivial | refine ⟨rfl, ?_⟩ | refine ⟨trivial, ?_⟩)) ?_ ?_ ?_
      · simp only [lsts, List.append_nil]
        exact KSub.cons (by repeat (first | exact Pick.hd | apply Pick.tl)) (KSub.cons (by repeat (first | exact Pick.hd | apply Pick.tl)) KSub.nil)
      · exact ⟨by omega, by simp [tot], fun j' h => by omega⟩
      rintro j y ⟨hj, hy, hrs⟩ Z1 hZ1
      refine TW.seq fun Y12 hY12 => ?_
      refine TW.region ?_
      refine TL.p Pu.lt ?_
      refine TL.nil ?_
      refine TQ.thenN (hY12 _ _ ?_)
      refine TW.seq fun Y13 hY13 => ?_
      refine TW.cond rfl (fun hc1 => ?_) (fun hc1 => ?_)
      · try simp only [decide_eq_true_eq, decide_eq_false_iff_not, Bool.not_eq_true', Bool.not_eq_false', Bool.and_eq_true, Bool.or_eq_true, Bool.and_eq_false_iff, Bool.or_eq_false_iff, Int.not_lt, Int.not_le] at hc1
        have hj3 : j < 3 := by omega
        have hIj := hIi j hj3
        have htj : tot (l i) j + l i j ≤ tot (l i) 3 := tot_mono (l := l i) (show j + 1 ≤ 3 by omega)
        refine TW.skip ?_
        refine TQ.thenN (hY13 _ _ ?_)
        refine TW.seq fun Y14 hY14 => ?_
        refine TW.block ?_
        refine TW.seq fun Y15 hY15 => ?_
        refine TW.region ?_
        refine TL.p (Pu.ix rfl rfl (fun w => index_tie _ _ _ j (by omega) w)) ?_
        refine TL.p Pu.as ?_
        refine TL.nil ?_
        refine TQ.thenN (hY15 _ _ ?_)
        refine TW.seq fun Y16 hY16 => ?_
        refine TW.region ?_
        refine TL.p Pu.mv ?_
        refine TL.p Pu.mv ?_
        refine TL.p (Pu.ln Tryd.underlying26) ?_
        refine TL.cr rfl (enters Tryd.func71 rfl rfl) (fun w hw => by
            exact rising_any (v := v i j) (by omega) (hIj.sat hw Apart.nil) (by omega) (by omega)) ?_
        refine TL.ct rfl (enters Tryd.func32 rfl rfl) (fun w hw => by
            exact need_any _ _ _ (by decide)) (fun hp2 => ?_) (fun hp2 => ?_)
        rotate_left
        · refine TQ.thenP ?_
          refine TQ.blkP ?_
          refine TQ.thenP ?_
          refine TQ.thenP ?_
          refine TQ.blkP ?_
          refine TQ.thenP ?_
          refine TQ.blkP ?_
          refine TQ.thenP ?_
          refine TQ.thenP ?_
          refine TQ.blkP ?_
          refine TQ.thenP ?_
          refine TQ.pan rfl ?_
          first
            | exact fun w hw => check_p1 hp1 hw
            | exact fun w hw => check_p hp1 hp2 (fun h => ties_no2 him hj3 h) hw
            | exact fun w hw => check_p hp1 hp3 (fun h => ties_no3 him h) hw
            | exact fun w hw => check_p hp1 hp4 (fun h => by unfold tiesOk; rw [← hz, h, Bool.and_false]) hw
        refine TL.nil ?_
        refine TQ.thenN (hY16 _ _ ?_)
        refine TW.seq fun Y17 hY17 => ?_
        refine TW.seq fun Y18 hY18 => ?_
        refine TW.region ?_
        refine TL.p Pu.mv ?_
        refine TL.p (Pu.ln Tryd.underlying47) ?_
        refine TL.p Pu.mv ?_
        refine TL.nil ?_
        refine TQ.thenN (hY18 _ _ ?_)
        refine TW.block ?_
        have hrise : allB (l i j) (riseP (v i j) np) = true := by
          cases h : allB (l i j) (riseP (v i j) np) with
          | true => rfl
          | false => rw [h] at hp2; exact absurd hp2 (by decide)
        refine TW.loop1 (fun (k : Nat) => [(39, .int .i64 (k : Int)), (38, .int .i64 (l i j : Int)), (37, .slice (a i j) (l i j) (c i j)), (9, .slice (a i j) (l i j) (c i j)), (29, .int .i64 (j : Int)), (28, .agg (tieL (a i) (l i) (c i)).toArray), (7, .pointer (some ⟨b2, 0, none⟩)), (23, .int .i64 (i : Int)), (22, .int .i64 (m : Int)), (21, .slice A2 m cp2), (0, .slice A np cp), (1, .slice A2 m cp2), (4, .map (some b1)), (5, .int .i64 y)]) (fun k => [.obj b1 (mapO .i64 (markAll (held l v i ++ lsts (l i) (v i) j ++ (List.range k).map (v i j)))), .blk b2 59 (tieL (a i) (l i) (c i))]) (fun k => k ≤ l i j) (fun k => l i j - k) 0 (by repeat (first | exact trivial | refine ⟨rfl, ?_⟩ | refine ⟨trivial, ?_⟩)) ?_ ?_ ?_
        · simp only [List.range_zero, List.map_nil, List.append_nil]
          exact KSub.cons (by repeat (first | exact Pick.hd | apply Pick.tl)) (KSub.cons (by repeat (first | exact Pick.hd | apply Pick.tl)) KSub.nil)
        · exact Nat.zero_le _
        rintro k hk Z2 hZ2
        refine TW.seq fun Y19 hY19 => ?_
        refine TW.region ?_
        refine TL.p Pu.lt ?_
        refine TL.nil ?_
        refine TQ.thenN (hY19 _ _ ?_)
        refine TW.seq fun Y20 hY20 => ?_
        refine TW.cond rfl (fun hc2 => ?_) (fun hc2 => ?_)
        · try simp only [decide_eq_true_eq, decide_eq_false_iff_not, Bool.not_eq_true', Bool.not_eq_false', Bool.and_eq_true, Bool.or_eq_true, Bool.and_eq_false_iff, Bool.or_eq_false_iff, Int.not_lt, Int.not_le] at hc2
          refine TW.skip ?_
          refine TQ.thenN (hY20 _ _ ?_)
          refine TW.seq fun Y21 hY21 => ?_
          refine TW.block ?_
          refine TW.seq fun Y22 hY22 => ?_
          refine TW.region ?_
          refine TL.p (Pu.el ty_et47) ?_
          refine TL.p (Pu.ld ty_sc3) ?_
          refine TL.p Pu.as ?_
          refine TL.nil ?_
          refine TQ.thenN (hY22 _ _ ?_)
          refine TW.region ?_
          refine TL.p Pu.mv ?_
          refine TL.p Pu.mv ?_
          refine TL.mu ty_mp115 ?_
          refine TL.nil ?_
          refine TQ.blkN ?_
          refine TQ.thenN (hY21 _ _ ?_)
          refine TW.region ?_
          refine TL.p Pu.ad ?_
          refine TL.p Pu.mv ?_
          refine TL.nil ?_
          refine TQ.thenN (hZ2 (k + 1) _ _ ?_ ?_ (by repeat (first | exact trivial | refine ⟨rfl, ?_⟩ | refine ⟨trivial, ?_⟩)) ?_)
          · exact (by omega)
          · exact (by first | omega | (simp only []; omega) | (simp; omega))
          · rw [List.range_succ, List.map_append, ← List.append_assoc, show [k].map (v i j) = [v i j k] from rfl, markAll_snoc]
            exact KSub.cons (by repeat (first | exact Pick.hd | apply Pick.tl)) (KSub.cons (by repeat (first | exact Pick.hd | apply Pick.tl)) KSub.nil)
        · try simp only [decide_eq_true_eq, decide_eq_false_iff_not, Bool.not_eq_true', Bool.not_eq_false', Bool.and_eq_true, Bool.or_eq_true, Bool.and_eq_false_iff, Bool.or_eq_false_iff, Int.not_lt, Int.not_le] at hc2
          have hke : k = l i j := by omega
          refine TW.exit ?_
          refine TQ.thenX ?_
          refine TQ.thenX ?_
          refine TQ.blkX ?_
          refine TQ.thenN (hY17 _ _ ?_)
          refine TW.region ?_
          refine TL.p Pu.mv ?_
          refine TL.p Pu.mv ?_
          refine TL.p (Pu.ln Tryd.underlying47) ?_
          refine TL.p Pu.ad ?_
          refine TL.p Pu.as ?_
          refine TL.nil ?_
          refine TQ.blkN ?_
          refine TQ.thenN (hY14 _ _ ?_)
          refine TW.region ?_
          refine TL.p Pu.ad ?_
          refine TL.p Pu.mv ?_
          refine TL.nil ?_
          subst hke
          refine TQ.thenN (hZ1 (j + 1) _ _ _ ?_ ?_ (by repeat (first | exact trivial | refine ⟨rfl, ?_⟩ | refine ⟨trivial, ?_⟩)) ?_)
          · refine ⟨by omega, by simp only [tot]; omega, fun j' h => ?_⟩
            by_cases he : j' = j
            · subst he; exact hrise
            · exact hrs j' (by omega)
          · exact (by first | omega | (simp only []; omega) | (simp; omega))
          · rw [lsts, ← List.append_assoc]
            exact KSub.cons (by repeat (first | exact Pick.hd | apply Pick.tl)) (KSub.cons (by repeat (first | exact Pick.hd | apply Pick.tl)) KSub.nil)
      · try simp only [decide_eq_true_eq, decide_eq_false_iff_not, Bool.not_eq_true', Bool.not_eq_false', Bool.and_eq_true, Bool.or_eq_true, Bool.and_eq_false_iff, Bool.or_eq_false_iff, Int.not_lt, Int.not_le] at hc1
        obtain rfl : j = 3 := by omega
        refine TW.exit ?_
        refine TQ.thenX ?_
        refine TQ.thenX ?_
        refine TQ.blkX ?_
        refine TQ.thenN (hY10 _ _ ?_)
        refine TW.region ?_
        refine TL.p (Pu.lds ty_ag59) ?_
        refine TL.call (M := []) rfl (enters Tryd.func50 rfl rfl) (List.Perm.refl _) rfl (fun w hw => by
            exact all_any (v := v i) (by omega) (fun j hj => (hIi j hj).sat hw Apart.nil)) ?_
        rintro ⟨Aq, cq⟩
        refine TL.p (Pu.ln Tryd.underlying47) ?_
        refine TL.p Pu.le ?_
        refine TL.ct rfl (enters Tryd.func32 rfl rfl) (fun w hw => by
            exact need_any _ _ _ (by decide)) (fun hp3 => ?_) (fun hp3 => ?_)
        rotate_left
        · refine TQ.blkP ?_
          refine TQ.thenP ?_
          refine TQ.thenP ?_
          refine TQ.blkP ?_
          refine TQ.thenP ?_
          refine TQ.pan rfl ?_
          first
            | exact fun w hw => check_p1 hp1 hw
            | exact fun w hw => check_p hp1 hp2 (fun h => ties_no2 him hj3 h) hw
            | exact fun w hw => check_p hp1 hp3 (fun h => ties_no3 him h) hw
            | exact fun w hw => check_p hp1 hp4 (fun h => by unfold tiesOk; rw [← hz, h, Bool.and_false]) hw
        refine TL.nil ?_
        refine TQ.blkN ?_
        refine TQ.thenN (hY8 _ _ ?_)
        refine TW.region ?_
        refine TL.p Pu.ad ?_
        refine TL.p Pu.mv ?_
        refine TL.nil ?_
        have ht10 : tot (l i) 3 ≤ 10 := by
          by_cases h : tot (l i) 3 ≤ 10
          · exact h
          · exfalso; simp [show ¬ ((tot (l i) 3 : Int) ≤ 10) by omega] at hp3
        refine TQ.thenN (hZ0 (i + 1) _ _ _ ?_ ?_ (by repeat (first | exact trivial | refine ⟨rfl, ?_⟩ | refine ⟨trivial, ?_⟩)) ?_)
        · refine ⟨by omega, ?_, by omega, fun i' h => ?_⟩
          · rw [held, List.length_append, lsts_length]; omega
          · by_cases he : i' = i
            · subst he
              simp only [tieOk, Bool.and_eq_true, decide_eq_true_eq]
              exact ⟨allB_iff.2 hrs, ht10⟩
            · exact hoks i' (by omega)
        · exact (by first | omega | (simp only []; omega) | (simp; omega))
        · rw [held]
          exact KSub.cons (by repeat (first | exact Pick.hd | apply Pick.tl)) KSub.nil
    · try simp only [decide_eq_true_eq, decide_eq_false_iff_not, Bool.not_eq_true', Bool.not_eq_false', Bool.and_eq_true, Bool.or_eq_true, Bool.and_eq_false_iff, Bool.or_eq_false_iff, Int.not_lt, Int.not_le] at hc0
      obtain rfl : m = i := by omega
      refine TW.exit ?_
      refine TQ.thenX ?_
      refine TQ.thenX ?_
      refine TQ.blkX ?_
      refine TQ.thenN (hY4 _ _ ?_)
      refine TW.region ?_
      refine TL.p Pu.mv ?_
      refine TL.p (Pu.ln Tryd.underlying27) ?_
      refine TL.p Pu.le ?_
      refine TL.p Pu.mv ?_
      refine TL.mid 9 [(65, .bool (decide ((m : Int) ≤ 8) && decide (((markAll (held l v m)).length : Int) = z)))] ?_ (fun hM2 => ?_)
      · simp only [List.toList_toArray, List.drop_succ_cons, List.drop_zero]
        refine TL.ct rfl (enters Tryd.func32 rfl rfl) (fun w hw => by
            exact need_any _ _ _ (by decide)) (fun hp4 => ?_) (fun hp4 => ?_)
        rotate_left
        · refine TQ.pan rfl ?_
          first
            | exact fun w hw => check_p1 hp1 hw
            | exact fun w hw => check_p hp1 hp2 (fun h => ties_no2 him hj3 h) hw
            | exact fun w hw => check_p hp1 hp3 (fun h => ties_no3 him h) hw
            | exact fun w hw => check_p hp1 hp4 (fun h => by unfold tiesOk; rw [← hz, h, Bool.and_false]) hw
        refine TL.nil ?_
        refine TQ.end Tryd.results31 rfl (.nil) ?_
        exact fun w hw => Try.ok (by
          have h4 := need_yes (by decide) hp4
          rw [hz] at h4
          unfold checkV
          rw [hp1, if_pos rfl]
          unfold tiesOk
          rw [h4, allB_iff.2 hoks]
          rfl) hw
      refine TL.guard (t := 60) rfl (fun hg1 => ?_) (fun hg1 => ?_)
      · refine TL.gd Pu.mv ?_
        refine TL.gd (Pu.ml' ty_mp115) ?_
        refine TL.gd Pu.mv ?_
        refine TL.gd Pu.eq ?_
        refine TL.p Pu.kt ?_
        exact TL.sub (by repeat (first | exact trivial | refine ⟨rfl, ?_⟩ | refine ⟨trivial, ?_⟩ | refine ⟨(by show some (Value.bool _) = some (Value.bool _); simp [hg1]), ?_⟩)) (by repeat (first | exact KSub.nil | refine KSub.cons (by repeat (first | exact Pick.hd | apply Pick.tl)) ?_)) hM2
      · refine TL.gs ?_
        refine TL.gs ?_
        refine TL.gs ?_
        refine TL.gs ?_
        refine TL.p Pu.kf ?_
        exact TL.sub (by repeat (first | exact trivial | refine ⟨rfl, ?_⟩ | refine ⟨trivial, ?_⟩ | refine ⟨(by show some (Value.bool _) = some (Value.bool _); simp [hg1]), ?_⟩)) (by repeat (first | exact KSub.nil | refine KSub.cons (by repeat (first | exact Pick.hd | apply Pick.tl)) ?_)) hM2
  refine TL.guard (t := 15) rfl (fun hg2 => ?_) (fun hg2 => ?_)
  · refine TL.gd Pu.mv ?_
    refine TL.cr rfl (enters Tryd.func38 rfl rfl) (fun w hw => by
        exact everyPack_any (fs := []) (cs := []) (p := fun k => packOk (pk k)) (enters Tryd.func25 rfl rfl) (by omega) (hR.sat hw Apart.nil) fun k hk w' hb => by simpa using valid_any (pk k) w' ((hG.sat hw (by simp)).ext hb)) ?_
    refine TL.p Pu.kt ?_
    exact TL.sub (by repeat (first | exact trivial | refine ⟨rfl, ?_⟩ | refine ⟨trivial, ?_⟩ | refine ⟨(by show some (Value.bool _) = some (Value.bool _); simp [hg2]), ?_⟩)) (by repeat (first | exact KSub.nil | refine KSub.cons (by repeat (first | exact Pick.hd | apply Pick.tl)) ?_)) hM1
  · refine TL.gs ?_
    refine TL.gs ?_
    refine TL.p Pu.kf ?_
    exact TL.sub (by repeat (first | exact trivial | refine ⟨rfl, ?_⟩ | refine ⟨trivial, ?_⟩ | refine ⟨(by show some (Value.bool _) = some (Value.bool _); simp [hg2]), ?_⟩)) (by repeat (first | exact KSub.nil | refine KSub.cons (by repeat (first | exact Pick.hd | apply Pick.tl)) ?_)) hM1
end Go.Proofs.YtagcnokaajinlaaDoor
