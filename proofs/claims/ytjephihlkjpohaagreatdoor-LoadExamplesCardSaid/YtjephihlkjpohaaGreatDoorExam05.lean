/-
  Part 5 of the proof of loadExamples_holds: declarations of several texts, in build order. No condition on a program.
-/
import Derived.Test.YtjephihlkjpohaaGreatDoorExam04
namespace Go.Proofs.YtjephihlkjpohaaGreatDoor
set_option linter.all false
set_option linter.unusedVariables false
set_option linter.unusedSimpArgs false
open Go.RowKit
def tieL (a : Nat → Option Addr) (l c : Nat → Nat) : List Value := [.slice (a 0) (l 0) (c 0), .slice (a 1) (l 1) (c 1), .slice (a 2) (l 2) (c 2)]
theorem need_any (b : Bool) (e : Int) (w : World) (he : e ≠ 0) :
    Calls Tryz.prog 76 #[.bool b, .int .i64 e] w (Try w errs (if b then 0 else e) (.tuple #[])) := by
  refine K_enter (S := []) (K := []) Tryz.func76 rfl Tryz.ntmps76 rfl (Sat.start _) ?_
  refine TW.seq fun Y1 hY1 => ?_
  refine TW.region ?_
  refine TL.p Pu.mv ?_
  refine TL.p Pu.no ?_
  refine TL.nil ?_
  refine TQ.thenN (hY1 _ _ ?_)
  refine TW.cond rfl (fun hc0 => ?_) (fun hc0 => ?_)
  · try simp only [decide_eq_true_eq, decide_eq_false_iff_not, Bool.not_eq_true', Bool.not_eq_false', Bool.and_eq_true, Bool.or_eq_true, Bool.and_eq_false_iff, Bool.or_eq_false_iff, Int.not_lt, Int.not_le] at hc0
    have hb : b = false := by simpa using hc0
    refine TW.region ?_
    refine TL.p Pu.mv ?_
    refine TL.p Pu.fc ?_
    refine TL.pn rfl (by intro w; first | (go_simp; done) | (go_simp; rfl)) ?_
    refine TQ.pan rfl ?_
    exact fun w hw => by subst hb; exact Try.no (L := []) (by simp [he]) hw
  · try simp only [decide_eq_true_eq, decide_eq_false_iff_not, Bool.not_eq_true', Bool.not_eq_false', Bool.and_eq_true, Bool.or_eq_true, Bool.and_eq_false_iff, Bool.or_eq_false_iff, Int.not_lt, Int.not_le] at hc0
    refine TW.skip ?_
    refine TQ.end Tryz.results76 rfl (.nil) ?_
    exact fun w hw => by
      have hb : b = true := by simpa using hc0
      subst hb
      exact Try.ok (L := []) rfl hw
theorem all_any {a : Nat → Option Addr} {l c : Nat → Nat} {v : Nat → Nat → Int} {w : World} (ht : tot l 3 ≤ 1000000000) (hI : ∀ i, i < 3 → RdR w 1 (a i) (l i) (fun k => [.int .i64 (v i k)])) :
    CallsK Tryz.prog 72 #[.agg (tieL a l c).toArray] [] w (Option Addr × Nat) (fun x => .slice x.1 (tot l 3) x.2) (fun x => [.own x.1 (tot l 3) x.2 3 1 (catN l (fun i k => [.int .i64 (v i k)]) 3)]) := by
  refine K_enter (S := []) (K := []) Tryz.func72 rfl Tryz.ntmps72 rfl (Sat.start _) ?_
  refine TW.seq fun Y1 hY1 => ?_
  refine TW.region ?_
  refine TL.m Mk.bx ?_
  intro b1
  refine TL.p Pu.as ?_
  refine TL.nil ?_
  refine TQ.thenN (hY1 _ _ ?_)
  refine TW.seq fun Y2 hY2 => ?_
  refine TW.region ?_
  refine TL.p (by first | exact Pu.fb ty_fa36_0 | exact Pu.fe ty_fa36_0) ?_
  refine TL.p (Pu.ld ty_sc24) ?_
  refine TL.p (by first | exact Pu.fb ty_fa36_1 | exact Pu.fe ty_fa36_1) ?_
  refine TL.p (Pu.ld ty_sc24) ?_
  refine TL.p (by first | exact Pu.fb ty_fa36_2 | exact Pu.fe ty_fa36_2) ?_
  refine TL.p (Pu.ld ty_sc24) ?_
  refine TL.m Mk.bl ?_
  intro b2
  refine TL.call (M := []) rfl (enters Tryz.func94 rfl rfl) (List.Perm.refl _) rfl (fun w hw => by
      have hB : Blk w b2 _ (tieL a l c).toArray := hw.holds _ (List.mem_cons_self ..)
      exact concat_any (a := a) (l := l) (c := c) (v := v) (by decide) ht (RdR.blk (n := 3) (cs := tieL a l c) hB rfl (fun i _ => rfl)) (fun i hi => (hI i hi).sat hw Apart.nil)) ?_
  intro x
  refine TL.p Pu.as ?_
  refine TL.nil ?_
  refine TQ.thenN (hY2 _ _ ?_)
  refine TW.ret ?_
  refine TQ.ret Tryz.results72 rfl ((.tmp rfl .nil)) ?_
  exact fun w hw => ⟨x, rfl, hw.sub (KSub.cons Pick.hd KSub.nil)⟩
theorem lists_any (a : Nat → Option Addr) (l c : Nat → Nat) (w : World) :
    Calls Tryz.prog 85 #[.agg (tieL a l c).toArray] w (Ret w (.agg (tieL a l c).toArray)) := by
  refine K_enter (S := []) (K := []) Tryz.func85 rfl Tryz.ntmps85 rfl (Sat.start _) ?_
  refine TW.seq fun Y1 hY1 => ?_
  refine TW.region ?_
  refine TL.m Mk.bx ?_
  intro b1
  refine TL.m (Mk.al ty_zr64) ?_
  intro b2
  refine TL.nil ?_
  refine TQ.thenN (hY1 _ _ ?_)
  refine TW.seq fun Y2 hY2 => ?_
  refine TW.region ?_
  refine TL.p (by first | exact Pu.fb ty_fa36_0 | exact Pu.fe ty_fa36_0) ?_
  refine TL.p (Pu.ld ty_sc24) ?_
  refine TL.p (by first | exact Pu.fb ty_fa36_1 | exact Pu.fe ty_fa36_1) ?_
  refine TL.p (Pu.ld ty_sc24) ?_
  refine TL.p (by first | exact Pu.fb ty_fa36_2 | exact Pu.fe ty_fa36_2) ?_
  refine TL.p (Pu.ld ty_sc24) ?_
  refine TL.p Pu.bd ?_
  first | refine TL.st ty_sz64 ?_ | refine TL.se ty_sz64 ?_
  refine TL.nil ?_
  refine TQ.thenN (hY2 _ _ ?_)
  refine TW.ret ?_
  refine TQ.ret Tryz.results85 rfl ((RV.cs ty_ag64 .nil)) ?_
  exact fun w hw => Ret.of hw
def lastV (v : Nat → Int) : Nat → Int
  | 0 => -1
  | k + 1 => v k
def riseP (v : Nat → Int) (N : Int) (k : Nat) : Bool := inB5 (lastV v k + 1) (N - 1) (v k)
theorem rise_lo {v : Nat → Int} {N : Int} (h3 : 0 ≤ N) : ∀ k, (∀ j, j < k → riseP v N j = true) → -1 ≤ lastV v k ∧ lastV v k ≤ N - 1
  | 0, _ => by simp only [lastV]; omega
  | k + 1, h => by
    have h1 := rise_lo h3 k fun j hj => h j (by omega)
    have h2 := h k (by omega)
    simp only [riseP, inB5, Bool.and_eq_true, decide_eq_true_eq] at h2
    simp only [lastV]
    omega
theorem rising1_any (x last N : Int) (bl bn : Nat) (w : World) (hM : Sat [bl] w [.blk bl 3 [.int .i64 last]] w) (hn : OldB w bn [.int .i64 N]) (hne : bn ≠ bl) (h1 : -1 ≤ last) (h2 : last ≤ 1000000000) (h3 : 0 ≤ N) (h4 : N ≤ 1000000000000) :
    CallsK Tryz.prog 125 #[.int .i64 x, .pointer (some ⟨bl, 0, none⟩), .pointer (some ⟨bn, 0, none⟩)] [.blk bl 3 [.int .i64 last]] w Unit (fun _ => .bool (inB5 (last + 1) (N - 1) x)) (fun _ => [.blk bl 3 [.int .i64 x]]) := by
  have hAp : Apart [bl] (some ⟨bn, 0, none⟩) := fun q hq => by cases hq; simpa using hne
  refine K_enter (args := [.int .i64 x, .pointer (some ⟨bl, 0, none⟩), .pointer (some ⟨bn, 0, none⟩)]) (S := [bl]) (K := [.blk bl 3 [.int .i64 last]]) Tryz.func125 rfl Tryz.ntmps125 rfl hM ?_
  refine TW.seq fun Y1 hY1 => ?_
  refine TW.region ?_
  refine TL.p Pu.as ?_
  refine TL.nil ?_
  refine TQ.thenN (hY1 _ _ ?_)
  refine TW.seq fun Y2 hY2 => ?_
  refine TW.region ?_
  refine TL.p (by first | exact (Pu.ld ty_sc3) | exact (Pu.ldo ty_sc3)) ?_
  refine TL.p Pu.ad ?_
  refine TL.p (by first | exact (Pu.ld ty_sc3) | exact (Pu.ldo ty_sc3)) ?_
  refine TL.p Pu.sb ?_
  refine TL.p Pu.mv ?_
  refine TL.m Mk.bl ?_
  intro b1
  refine TL.cr rfl (enters Tryz.func78 rfl rfl) (fun w hw => by
      exact inOne_any _ _ _ (hw.holds _ (List.mem_cons_self ..))) ?_
  refine TL.p Pu.as ?_
  refine TL.nil ?_
  refine TQ.thenN (hY2 _ _ ?_)
  refine TW.seq fun Y3 hY3 => ?_
  refine TW.region ?_
  refine TL.p Pu.mv ?_
  first | refine TL.st ty_sz3 ?_ | refine TL.se ty_sz3 ?_
  refine TL.nil ?_
  refine TQ.thenN (hY3 _ _ ?_)
  refine TW.seq fun Y4 hY4 => ?_
  refine TW.region ?_
  refine TL.p Pu.mv ?_
  refine TL.p Pu.as ?_
  refine TL.nil ?_
  refine TQ.thenN (hY4 _ _ ?_)
  refine TW.ret ?_
  refine TQ.ret Tryz.results125 rfl ((.tmp rfl .nil)) ?_
  exact fun w hw => ⟨(), rfl, hw.sub (KSub.cons Pick.hd KSub.nil)⟩
theorem rising_any {A : Option Addr} {n cp : Nat} {v : Nat → Int} {N : Int} {w : World} (hn : n ≤ 9223372036854775807) (hR : RdR w 1 A n (fun k => [.int .i64 (v k)])) (h3 : 0 ≤ N) (h4 : N ≤ 1000000000) :
    Calls Tryz.prog 88 #[.slice A n cp, .int .i64 N] w (Ret w (.bool (allB n (riseP v N)))) := by
  refine K_enter (S := []) (K := []) Tryz.func88 rfl Tryz.ntmps88 rfl (Sat.start _) ?_
  refine TW.seq fun Y1 hY1 => ?_
  refine TW.region ?_
  refine TL.m Mk.bx ?_
  intro b1
  refine TL.p Pu.as ?_
  refine TL.nil ?_
  refine TQ.thenN (hY1 _ _ ?_)
  refine TW.seq fun Y2 hY2 => ?_
  refine TW.region ?_
  refine TL.m (Mk.al ty_zr3) ?_
  intro b2
  first | refine TL.st ty_sz3 ?_ | refine TL.se ty_sz3 ?_
  refine TL.nil ?_
  refine TQ.thenN (hY2 _ _ ?_)
  refine TW.seq fun Y3 hY3 => ?_
  refine TW.region ?_
  refine TL.p Pu.mv ?_
  refine TL.p Pu.fn ?_
  refine TL.call rfl (enters Tryz.func124 rfl rfl) (List.Perm.refl _) rfl (fun w hw => by
      have hw2 : Sat [] _ [.blk b2 3 [.int .i64 (-1)]] w := hw.sub (KSub.cons Pick.hd KSub.nil)
      have hB : Blk w b1 3 #[.int .i64 N] := hw.holds (.blk b1 3 [.int .i64 N]) (by simp)
      have hne : b1 ≠ b2 := fun e => by
        have := hw.nd
        simp [feet, Fact.foot, e] at this
      refine everyInt_st (p := riseP v N) (M := fun k => [.blk b2 3 [.int .i64 (lastV v k)]]) (fs := []) (cs := [.pointer (some ⟨b2, 0, none⟩), .pointer (some ⟨b1, 0, none⟩)]) (enters Tryz.func125 rfl rfl) hn (hR.sat hw Apart.nil) (hR.apart fun q hq => (hw2.ge q hq).resolve_left (by simp)) hw2.self (fun _ => rfl) (fun k hk hp w' hw' => ?_)
      · have hlo := rise_lo (N := N) h3 k hp
        refine rising1_any _ _ _ b2 b1 w' hw'.self ((OldB.of_blk (cs := [_]) hB).sat hw' (by simp [feet, Fact.foot, hne])) hne (by omega) (by omega) h3 (by omega)) ?_
  intro x
  refine TL.p Pu.as ?_
  refine TL.nil ?_
  refine TQ.thenN (hY3 _ _ ?_)
  refine TW.ret ?_
  refine TQ.ret Tryz.results88 rfl ((.tmp rfl .nil)) ?_
  exact fun w hw => ⟨ret_bool (by rw [x.any]; show allB n (riseP v N) = !anyB n _; rw [not_anyB]; simp), Chg.ext hw.chg⟩
end Go.Proofs.YtjephihlkjpohaaGreatDoor
namespace Go.Proofs.YtjephihlkjpohaaGreatDoor
set_option linter.all false
set_option linter.unusedVariables false
set_option linter.unusedSimpArgs false
open Go.RowKit
theorem everyPack_any {g : FuncId} {fs cs : List Value} {A : Option Addr} {n cp : Nat} {v : Nat → Nat → Int} {p : Nat → Bool} {w : World} (hen : Enters Tryz.prog g) (hn : n ≤ 9223372036854775807)
    (hR : RdR w 11 A n (fun k => packL (v k))) (hg : ∀ k, k < n → ∀ w', Below w.heap.size w w' → Calls Tryz.prog g (fs ++ [Value.agg (packL (v k)).toArray] ++ cs).toArray w' (Ret w' (.bool (p k)))) :
    Calls Tryz.prog 86 #[.slice A n cp, .func (.func g) fs.toArray cs.toArray] w (Ret w (.bool (allB n p))) :=
  CallsK.retOf (everyPack_st (M := fun _ => []) hen hn hR (fun _ => Apart.nil) (Sat.start w) (fun _ => rfl) fun k hk _ w' hw' => CallsK.ret (hg k hk w' (Chg.ext hw'.chg))) fun x => by
    rw [x.any]
    show Value.bool (!anyB n fun k => !p k) = _
    rw [not_anyB]
    simp
def lst (l : Nat → Nat) (v : Nat → Nat → Int) (j : Nat) : List Int := (List.range (l j)).map (v j)
def lsts (l : Nat → Nat) (v : Nat → Nat → Int) : Nat → List Int
  | 0 => []
  | j + 1 => lsts l v j ++ lst l v j
def held (l : Nat → Nat → Nat) (v : Nat → Nat → Nat → Int) : Nat → List Int
  | 0 => []
  | i + 1 => held l v i ++ lsts (l i) (v i) 3
theorem lsts_length (l : Nat → Nat) (v : Nat → Nat → Int) : ∀ j, (lsts l v j).length = tot l j
  | 0 => rfl
  | j + 1 => by simp [lsts, tot, lst, lsts_length l v j]
def markAll (xs : List Int) : List (Int × Value) := xs.foldl (fun m x => mput x (.bool true) m) []
theorem markAll_snoc (xs : List Int) (x : Int) : markAll (xs ++ [x]) = mput x (.bool true) (markAll xs) := by simp [markAll]
def tieOk (np : Nat) (l : Nat → Nat) (v : Nat → Nat → Int) : Bool := allB 3 (fun j => allB (l j) (riseP (v j) np)) && decide (tot l 3 ≤ 10)
def packsOk (np : Nat) (pk : Nat → Nat → Int) : Bool := decide ((np : Int) ≤ 30) && allB np fun k => packOk (pk k)
def tiesOk (np m : Nat) (l : Nat → Nat → Nat) (v : Nat → Nat → Nat → Int) : Bool := allB m (fun i => tieOk np (l i) (v i)) && (decide ((m : Int) ≤ 8) && decide (((markAll (held l v m)).length : Int) = ((held l v m).length : Int)))
def checkV (np : Nat) (pk : Nat → Nat → Int) (m : Nat) (l : Nat → Nat → Nat) (v : Nat → Nat → Nat → Int) : Int := if packsOk np pk then (if tiesOk np m l v then 0 else 51) else 50
theorem Try.bad {w w' : World} {code code' : Int} {v : Value} {S : List Nat} {L : List Fact} (e : code' ≠ 0) (h : code = code') (hS : S = []) (hs : Sat S w L w') : Try w errs code v (.panicked (errs code')) w' := by
  subst h hS
  exact Try.no e hs
theorem need_no {b : Bool} {e : Int} (h : (if b then (0 : Int) else e) ≠ 0) : b = false ∧ (if b then (0 : Int) else e) = e := by
  cases b with
  | true => exact absurd rfl h
  | false => exact ⟨rfl, rfl⟩
theorem need_yes {b : Bool} {e : Int} (he : e ≠ 0) (h : (if b then (0 : Int) else e) = 0) : b = true := by
  cases b with
  | true => rfl
  | false => exact absurd h he
section
variable {np m i j : Nat} {pk : Nat → Nat → Int} {l : Nat → Nat → Nat} {v : Nat → Nat → Nat → Int} {w w' : World} {L : List Fact}
theorem check_p1 (h : (if (decide ((np : Int) ≤ 30) && allB np fun k => packOk (pk k)) then (0 : Int) else 50) ≠ 0) (hw : Sat [] w L w') : Try w errs (checkV np pk m l v) (.tuple #[]) (.panicked (errs (if (decide ((np : Int) ≤ 30) && allB np fun k => packOk (pk k)) then (0 : Int) else 50))) w' := by
  obtain ⟨h1, h2⟩ := need_no h
  have h3 : packsOk np pk = false := h1
  exact Try.bad h (by unfold checkV; rw [h2, h3]; rfl) rfl hw
theorem check_p {b : Bool} (hp : packsOk np pk = true) (h : (if b then (0 : Int) else 51) ≠ 0) (ht : b = false → tiesOk np m l v = false) (hw : Sat [] w L w') : Try w errs (checkV np pk m l v) (.tuple #[]) (.panicked (errs (if b then (0 : Int) else 51))) w' := by
  obtain ⟨h1, h2⟩ := need_no h
  exact Try.bad h (by unfold checkV; rw [h2, hp, ht h1]; rfl) rfl hw
theorem ties_no (hi : i < m) (h : tieOk np (l i) (v i) = false) : tiesOk np m l v = false := by
  cases hb : allB m (fun i => tieOk np (l i) (v i)) with
  | false => unfold tiesOk; rw [hb]; rfl
  | true =>
    have := allB_iff.1 hb i hi
    rw [h] at this
    cases this
theorem ties_no2 (hi : i < m) (hj : j < 3) (h : allB (l i j) (riseP (v i j) np) = false) : tiesOk np m l v = false := by
  refine ties_no hi ?_
  cases hb : allB 3 (fun j => allB (l i j) (riseP (v i j) np)) with
  | false => unfold tieOk; rw [hb]; rfl
  | true =>
    have := allB_iff.1 hb j hj
    rw [h] at this
    cases this
theorem ties_no3 (hi : i < m) (h : decide ((tot (l i) 3 : Int) ≤ 10) = false) : tiesOk np m l v = false := by
  refine ties_no hi ?_
  have h' : ¬ (tot (l i) 3 : Int) ≤ 10 := by simpa using h
  have h'' : decide (tot (l i) 3 ≤ 10) = false := by simp; omega
  unfold tieOk
  rw [h'', Bool.and_false]
end
set_option maxRecDepth 100000 in
theorem index_tie (a : Nat → Option Addr) (l c : Nat → Nat) (j : Nat) (hj : j < 3) (w : World) : (Instr.index 64 (.agg (tieL a l c).toArray) (.int .i64 (j : Int))).run Tryz.prog w = .ok (.slice (a j) (l j) (c j)) w := by
  have h : j = 0 ∨ j = 1 ∨ j = 2 := by omega
  rcases h with rfl | rfl | rfl
  · unfold tieL; go_simp; rfl
  · unfold tieL; go_simp; rfl
  · unfold tieL; go_simp; rfl
set_option maxRecDepth 100000 in
theorem check_any {A A2 : Option Addr} {np cp m cp2 : Nat} {pk : Nat → Nat → Int} {a : Nat → Nat → Option Addr} {l c : Nat → Nat → Nat} {v : Nat → Nat → Nat → Int} {w : World} (hG : None0 w) (hnp : np ≤ 1000000000) (hm : m ≤ 1000)
    (hR : RdR w 11 A np (fun k => packL (pk k))) (hT : RdR w 3 A2 m (fun i => tieL (a i) (l i) (c i))) (hI : ∀ i, i < m → ∀ j, j < 3 → RdR w 1 (a i j) (l i j) (fun k => [.int .i64 (v i j k)])) (hL : ∀ i, i < m → tot (l i) 3 ≤ 1000) :
    Calls Tryz.prog 47 #[.slice A np cp, .slice A2 m cp2] w (Try w errs (checkV np pk m l v) (.tuple #[])) := by
  refine K_enter (S := []) (K := []) Tryz.func47 rfl Tryz.ntmps47 rfl (Sat.start _) ?_
  refine TW.seq fun Y1 hY1 => ?_
  refine TW.region ?_
  refine TL.p Pu.mv ?_
  refine TL.p (Pu.ln Tryz.underlying22) ?_
  refine TL.p Pu.le ?_
  refine TL.p Pu.mv ?_
  refine TL.mid 7 [(18, .bool (decide ((np : Int) ≤ 30) && allB np fun k => packOk (pk k)))] ?_ (fun hM1 => ?_)
  · simp only [List.toList_toArray, List.drop_succ_cons, List.drop_zero]
    refine TL.ct rfl (enters Tryz.func76 rfl rfl) (fun w hw => by
        exact need_any _ _ _ (by decide)) (fun hp1 => ?_) (fun hp1 => ?_)
    rotate_left
    · refine TQ.thenP ?_
      refine TQ.pan rfl ?_
      first
        | exact fun w hw => check_p1 hp1 hw
        | exact fun w hw => check_p hp1 hp2 (fun h => ties_no2 him hj3 h) hw
        | exact fun w hw => check_p hp1 hp3 (fun h => ties_no3 him h) hw
        | exact fun w hw => check_p hp1 hp4 (fun h => by unfold tiesOk; rw [← hz, h, Bool.and_false]) hw
    refine TL.nil ?_
    refine TQ.thenN (hY1 _ _ ?_)
    refine TW.seq fun Y2 hY2 => ?_
    refine TW.region ?_
    refine TL.mm (kk := .i64) ?_
    intro b1
    refine TL.p Pu.as ?_
    refine TL.nil ?_
    refine TQ.thenN (hY2 _ _ ?_)
    refine TW.seq fun Y3 hY3 => ?_
    refine TW.region ?_
    refine TL.p Pu.as ?_
    refine TL.nil ?_
    refine TQ.thenN (hY3 _ _ ?_)
    refine TW.seq fun Y4 hY4 => ?_
    refine TW.seq fun Y5 hY5 => ?_
    refine TW.region ?_
    refine TL.p Pu.mv ?_
    refine TL.p (Pu.ln Tryz.underlying23) ?_
    refine TL.p Pu.mv ?_
    refine TL.nil ?_
    refine TQ.thenN (hY5 _ _ ?_)
    refine TW.block ?_
    have hp1 : packsOk np pk = true := by
      exact need_yes (by decide) hp1
    have hnp30 : np ≤ 30 := by
      simp only [packsOk, Bool.and_eq_true, decide_eq_true_eq] at hp1
      omega
    refine TW.loop2 (fun (i : Nat) (z : Int) => [(23, .int .i64 (i : Int)), (22, .int .i64 (m : Int)), (21, .slice A2 m cp2), (0, .slice A np cp), (1, .slice A2 m cp2), (4, .map (some b1)), (5, .int .i64 z)]) (fun i z => [.obj b1 (mapO .i64 (markAll (held l v i)))]) (fun i z => i ≤ m ∧ z = ((held l v i).length : Int) ∧ z ≤ 1000 * i ∧ ∀ i', i' < i → tieOk np (l i') (v i') = true) (fun i z => m - i) 0 _ (by repeat (first | exact trivial | refine ⟨rfl, ?_⟩ | refine ⟨trivial, ?_⟩)) ?_ ?_ ?_
    · exact (by repeat (first | exact KSub.nil | refine KSub.cons (by repeat (first | exact Pick.hd | apply Pick.tl)) ?_))
    · exact ⟨by omega, rfl, by decide, fun i' h => by omega⟩
    rintro i z ⟨hi, hz, hzb, hoks⟩ Z0 hZ0
    refine TW.seq fun Y6 hY6 => ?_
    refine TW.region ?_
    refine TL.p Pu.lt ?_
    refine TL.nil ?_
    refine TQ.thenN (hY6 _ _ ?_)
    refine TW.seq fun Y7 hY7 => ?_
    refine TW.cond rfl (fun hc0 => ?_) (fun hc0 => ?_)
    · try simp only [decide_eq_true_eq, decide_eq_false_iff_not, Bool.not_eq_true', Bool.not_eq_false', Bool.and_eq_true, Bool.or_eq_true, Bool.and_eq_false_iff, Bool.or_eq_false_iff, Int.not_lt, Int.not_le] at hc0
      have him : i < m := by omega
      have hLi := hL i him
      have hIi := hI i him
      refine TW.skip ?_
      refine TQ.thenN (hY7 _ _ ?_)
      refine TW.seq fun Y8 hY8 => ?_
      refine TW.block ?_
      refine TW.seq fun Y9 hY9 => ?_
      refine TW.region ?_
      refine TL.p (Pu.el ty_et23) ?_
      refine TL.p (Pu.lds ty_ag36) ?_
      refine TL.m (Mk.al ty_zr36) ?_
      intro b2
      first | refine TL.st ty_sz36 ?_ | refine TL.se ty_sz36 ?_
      refine TL.nil ?_
      refine TQ.thenN (hY9 _ _ ?_)
      refine TW.seq fun Y10 hY10 => ?_
      refine TW.seq fun Y11 hY11 => ?_
      refine TW.region ?_
      refine TL.p (Pu.lds ty_ag36) ?_
      refine TL.cr rfl (enters Tryz.func85 rfl rfl) (fun w hw => by
          exact lists_any _ _ _ _) ?_
      refine TL.p Pu.mv ?_
      refine TL.nil ?_
      refine TQ.thenN (hY11 _ _ ?_)
      refine TW.block ?_
      refine TW.loop2 (fun (j : Nat) (y : Int) => [(29, .int .i64 (j : Int)), (28, .agg (tieL (a i) (l i) (c i)).toArray), (7, .pointer (some ⟨b2, 0, none⟩)), (23, .int .i64 (i : Int)), (22, .int .i64 (m : Int)), (21, .slice A2 m cp2), (0, .slice A np cp), (1, .slice A2 m cp2), (4, .map (some b1)), (5, .int .i64 y)]) (fun j y => [.obj b1 (mapO .i64 (markAll (held l v i ++ lsts (l i) (v i) j))), .blk b2 36 (tieL (a i) (l i) (c i))]) (fun j y => j ≤ 3 ∧ y = z + (tot (l i) j : Int) ∧ ∀ j', j' < j → allB (l i j') (riseP (v i j') np) = true) (fun j y => 3 - j) 0 _ (by repeat (first | exact trivial | refine ⟨rfl, ?_⟩ | refine ⟨trivial, ?_⟩)) ?_ ?_ ?_
      · simp only [lsts, List.append_nil]
        exact KSub.cons (by repeat (first | exact Pick.hd | apply Pick.tl)) (KSub.cons (by repeat (first | exact Pick.hd | apply Pick.tl)) KSub.nil)
      · exact ⟨by omega, by simp [tot], fun j' h => by omega⟩
      rintro j y ⟨hj, hy, hrs⟩ Z1 hZ1
      refine TW.seq fun Y12 hY12 => ?_
      refine TW.region ?_
      refine TL.p Pu.lt ?_
      refine TL.nil ?_
      refine TQ.thenN (hY12 _ _ ?_)
      refine TW.seq fun Y13 hY13 => ?_
      refine TW.cond rfl (fun hc1 => ?_) (fun hc1 => ?_)
      · try simp only [decide_eq_true_eq, decide_eq_false_iff_not, Bool.not_eq_true', Bool.not_eq_false', Bool.and_eq_true, Bool.or_eq_true, Bool.and_eq_false_iff, Bool.or_eq_false_iff, Int.not_lt, Int.not_le] at hc1
        have hj3 : j < 3 := by omega
        have hIj := hIi j hj3
        have htj : tot (l i) j + l i j ≤ tot (l i) 3 := tot_mono (l := l i) (show j + 1 ≤ 3 by omega)
        refine TW.skip ?_
        refine TQ.thenN (hY13 _ _ ?_)
        refine TW.seq fun Y14 hY14 => ?_
        refine TW.block ?_
        refine TW.seq fun Y15 hY15 => ?_
        refine TW.region ?_
        refine TL.p (Pu.ix rfl rfl (fun w => index_tie _ _ _ j (by omega) w)) ?_
        refine TL.p Pu.as ?_
        refine TL.nil ?_
        refine TQ.thenN (hY15 _ _ ?_)
        refine TW.seq fun Y16 hY16 => ?_
        refine TW.region ?_
        refine TL.p Pu.mv ?_
        refine TL.p Pu.mv ?_
        refine TL.p (Pu.ln Tryz.underlying22) ?_
        refine TL.cr rfl (enters Tryz.func88 rfl rfl) (fun w hw => by
            exact rising_any (v := v i j) (by omega) (hIj.sat hw Apart.nil) (by omega) (by omega)) ?_
        refine TL.ct rfl (enters Tryz.func76 rfl rfl) (fun w hw => by
            exact need_any _ _ _ (by decide)) (fun hp2 => ?_) (fun hp2 => ?_)
        rotate_left
        · refine TQ.thenP ?_
          refine TQ.blkP ?_
          refine TQ.thenP ?_
          refine TQ.thenP ?_
          refine TQ.blkP ?_
          refine TQ.thenP ?_
          refine TQ.blkP ?_
          refine TQ.thenP ?_
          refine TQ.thenP ?_
          refine TQ.blkP ?_
          refine TQ.thenP ?_
          refine TQ.pan rfl ?_
          first
            | exact fun w hw => check_p1 hp1 hw
            | exact fun w hw => check_p hp1 hp2 (fun h => ties_no2 him hj3 h) hw
            | exact fun w hw => check_p hp1 hp3 (fun h => ties_no3 him h) hw
            | exact fun w hw => check_p hp1 hp4 (fun h => by unfold tiesOk; rw [← hz, h, Bool.and_false]) hw
        refine TL.nil ?_
        refine TQ.thenN (hY16 _ _ ?_)
        refine TW.seq fun Y17 hY17 => ?_
        refine TW.seq fun Y18 hY18 => ?_
        refine TW.region ?_
        refine TL.p Pu.mv ?_
        refine TL.p (Pu.ln Tryz.underlying24) ?_
        refine TL.p Pu.mv ?_
        refine TL.nil ?_
        refine TQ.thenN (hY18 _ _ ?_)
        refine TW.block ?_
        have hrise : allB (l i j) (riseP (v i j) np) = true := by
          cases h : allB (l i j) (riseP (v i j) np) with
          | true => rfl
          | false => rw [h] at hp2; exact absurd hp2 (by decide)
        refine TW.loop1 (fun (k : Nat) => [(39, .int .i64 (k : Int)), (38, .int .i64 (l i j : Int)), (37, .slice (a i j) (l i j) (c i j)), (9, .slice (a i j) (l i j) (c i j)), (29, .int .i64 (j : Int)), (28, .agg (tieL (a i) (l i) (c i)).toArray), (7, .pointer (some ⟨b2, 0, none⟩)), (23, .int .i64 (i : Int)), (22, .int .i64 (m : Int)), (21, .slice A2 m cp2), (0, .slice A np cp), (1, .slice A2 m cp2), (4, .map (some b1)), (5, .int .i64 y)]) (fun k => [.obj b1 (mapO .i64 (markAll (held l v i ++ lsts (l i) (v i) j ++ (List.range k).map (v i j)))), .blk b2 36 (tieL (a i) (l i) (c i))]) (fun k => k ≤ l i j) (fun k => l i j - k) 0 (by repeat (first | exact trivial | refine ⟨rfl, ?_⟩ | refine ⟨trivial, ?_⟩)) ?_ ?_ ?_
        · simp only [List.range_zero, List.map_nil, List.append_nil]
          exact KSub.cons (by repeat (first | exact Pick.hd | apply Pick.tl)) (KSub.cons (by repeat (first | exact Pick.hd | apply Pick.tl)) KSub.nil)
        · exact Nat.zero_le _
        rintro k hk Z2 hZ2
        refine TW.seq fun Y19 hY19 => ?_
        refine TW.region ?_
        refine TL.p Pu.lt ?_
        refine TL.nil ?_
        refine TQ.thenN (hY19 _ _ ?_)
        refine TW.seq fun Y20 hY20 => ?_
        refine TW.cond rfl (fun hc2 => ?_) (fun hc2 => ?_)
        · try simp only [decide_eq_true_eq, decide_eq_false_iff_not, Bool.not_eq_true', Bool.not_eq_false', Bool.and_eq_true, Bool.or_eq_true, Bool.and_eq_false_iff, Bool.or_eq_false_iff, Int.not_lt, Int.not_le] at hc2
          refine TW.skip ?_
          refine TQ.thenN (hY20 _ _ ?_)
          refine TW.seq fun Y21 hY21 => ?_
          refine TW.block ?_
          refine TW.seq fun Y22 hY22 => ?_
          refine TW.region ?_
          refine TL.p (Pu.el ty_et24) ?_
          refine TL.p (Pu.ld ty_sc3) ?_
          refine TL.p Pu.as ?_
          refine TL.nil ?_
          refine TQ.thenN (hY22 _ _ ?_)
          refine TW.region ?_
          refine TL.p Pu.mv ?_
          refine TL.p Pu.mv ?_
          refine TL.mu ty_mp151 ?_
          refine TL.nil ?_
          refine TQ.blkN ?_
          refine TQ.thenN (hY21 _ _ ?_)
          refine TW.region ?_
          refine TL.p Pu.ad ?_
          refine TL.p Pu.mv ?_
          refine TL.nil ?_
          refine TQ.thenN (hZ2 (k + 1) _ _ ?_ ?_ (by repeat (first | exact trivial | refine ⟨rfl, ?_⟩ | refine ⟨trivial, ?_⟩)) ?_)
          · exact (by omega)
          · exact (by first | omega | (simp only []; omega) | (simp; omega))
          · rw [List.range_succ, List.map_append, ← List.append_assoc, show [k].map (v i j) = [v i j k] from rfl, markAll_snoc]
            exact KSub.cons (by repeat (first | exact Pick.hd | apply Pick.tl)) (KSub.cons (by repeat (first | exact Pick.hd | apply Pick.tl)) KSub.nil)
        · try simp only [decide_eq_true_eq, decide_eq_false_iff_not, Bool.not_eq_true', Bool.not_eq_false', Bool.and_eq_true, Bool.or_eq_true, Bool.and_eq_false_iff, Bool.or_eq_false_iff, Int.not_lt, Int.not_le] at hc2
          have hke : k = l i j := by omega
          refine TW.exit ?_
          refine TQ.thenX ?_
          refine TQ.thenX ?_
          refine TQ.blkX ?_
          refine TQ.thenN (hY17 _ _ ?_)
          refine TW.region ?_
          refine TL.p Pu.mv ?_
          refine TL.p Pu.mv ?_
          refine TL.p (Pu.ln Tryz.underlying24) ?_
          refine TL.p Pu.ad ?_
          refine TL.p Pu.as ?_
          refine TL.nil ?_
          refine TQ.blkN ?_
          refine TQ.thenN (hY14 _ _ ?_)
          refine TW.region ?_
          refine TL.p Pu.ad ?_
          refine TL.p Pu.mv ?_
          refine TL.nil ?_
          subst hke
          refine TQ.thenN (hZ1 (j + 1) _ _ _ ?_ ?_ (by repeat (first | exact trivial | refine ⟨rfl, ?_⟩ | refine ⟨trivial, ?_⟩)) ?_)
          · refine ⟨by omega, by simp only [tot]; omega, fun j' h => ?_⟩
            by_cases he : j' = j
            · subst he; exact hrise
            · exact hrs j' (by omega)
          · exact (by first | omega | (simp only []; omega) | (simp; omega))
          · rw [lsts, ← List.append_assoc]
            exact KSub.cons (by repeat (first | exact Pick.hd | apply Pick.tl)) (KSub.cons (by repeat (first | exact Pick.hd | apply Pick.tl)) KSub.nil)
      · try simp only [decide_eq_true_eq, decide_eq_false_iff_not, Bool.not_eq_true', Bool.not_eq_false', Bool.and_eq_true, Bool.or_eq_true, Bool.and_eq_false_iff, Bool.or_eq_false_iff, Int.not_lt, Int.not_le] at hc1
        obtain rfl : j = 3 := by omega
        refine TW.exit ?_
        refine TQ.thenX ?_
        refine TQ.thenX ?_
        refine TQ.blkX ?_
        refine TQ.thenN (hY10 _ _ ?_)
        refine TW.region ?_
        refine TL.p (Pu.lds ty_ag36) ?_
        refine TL.call (M := []) rfl (enters Tryz.func72 rfl rfl) (List.Perm.refl _) rfl (fun w hw => by
            exact all_any (v := v i) (by omega) (fun j hj => (hIi j hj).sat hw Apart.nil)) ?_
        rintro ⟨Aq, cq⟩
        refine TL.p (Pu.ln Tryz.underlying24) ?_
        refine TL.p Pu.le ?_
        refine TL.ct rfl (enters Tryz.func76 rfl rfl) (fun w hw => by
            exact need_any _ _ _ (by decide)) (fun hp3 => ?_) (fun hp3 => ?_)
        rotate_left
        · refine TQ.blkP ?_
          refine TQ.thenP ?_
          refine TQ.thenP ?_
          refine TQ.blkP ?_
          refine TQ.thenP ?_
          refine TQ.pan rfl ?_
          first
            | exact fun w hw => check_p1 hp1 hw
            | exact fun w hw => check_p hp1 hp2 (fun h => ties_no2 him hj3 h) hw
            | exact fun w hw => check_p hp1 hp3 (fun h => ties_no3 him h) hw
            | exact fun w hw => check_p hp1 hp4 (fun h => by unfold tiesOk; rw [← hz, h, Bool.and_false]) hw
        refine TL.nil ?_
        refine TQ.blkN ?_
        refine TQ.thenN (hY8 _ _ ?_)
        refine TW.region ?_
        refine TL.p Pu.ad ?_
        refine TL.p Pu.mv ?_
        refine TL.nil ?_
        have ht10 : tot (l i) 3 ≤ 10 := by
          by_cases h : tot (l i) 3 ≤ 10
          · exact h
          · exfalso; simp [show ¬ ((tot (l i) 3 : Int) ≤ 10) by omega] at hp3
        refine TQ.thenN (hZ0 (i + 1) _ _ _ ?_ ?_ (by repeat (first | exact trivial | refine ⟨rfl, ?_⟩ | refine ⟨trivial, ?_⟩)) ?_)
        · refine ⟨by omega, ?_, by omega, fun i' h => ?_⟩
          · rw [held, List.length_append, lsts_length]; omega
          · by_cases he : i' = i
            · subst he
              simp only [tieOk, Bool.and_eq_true, decide_eq_true_eq]
              exact ⟨allB_iff.2 hrs, ht10⟩
            · exact hoks i' (by omega)
        · exact (by first | omega | (simp only []; omega) | (simp; omega))
        · rw [held]
          exact KSub.cons (by repeat (first | exact Pick.hd | apply Pick.tl)) KSub.nil
    · try simp only [decide_eq_true_eq, decide_eq_false_iff_not, Bool.not_eq_true', Bool.not_eq_false', Bool.and_eq_true, Bool.or_eq_true, Bool.and_eq_false_iff, Bool.or_eq_false_iff, Int.not_lt, Int.not_le] at hc0
      obtain rfl : m = i := by omega
      refine TW.exit ?_
      refine TQ.thenX ?_
      refine TQ.thenX ?_
      refine TQ.blkX ?_
      refine TQ.thenN (hY4 _ _ ?_)
      refine TW.region ?_
      refine TL.p Pu.mv ?_
      refine TL.p (Pu.ln Tryz.underlying23) ?_
      refine TL.p Pu.le ?_
      refine TL.p Pu.mv ?_
      refine TL.mid 9 [(65, .bool (decide ((m : Int) ≤ 8) && decide (((markAll (held l v m)).length : Int) = z)))] ?_ (fun hM2 => ?_)
      · simp only [List.toList_toArray, List.drop_succ_cons, List.drop_zero]
        refine TL.ct rfl (enters Tryz.func76 rfl rfl) (fun w hw => by
            exact need_any _ _ _ (by decide)) (fun hp4 => ?_) (fun hp4 => ?_)
        rotate_left
        · refine TQ.pan rfl ?_
          first
            | exact fun w hw => check_p1 hp1 hw
            | exact fun w hw => check_p hp1 hp2 (fun h => ties_no2 him hj3 h) hw
            | exact fun w hw => check_p hp1 hp3 (fun h => ties_no3 him h) hw
            | exact fun w hw => check_p hp1 hp4 (fun h => by unfold tiesOk; rw [← hz, h, Bool.and_false]) hw
        refine TL.nil ?_
        refine TQ.end Tryz.results47 rfl (.nil) ?_
        exact fun w hw => Try.ok (by
          have h4 := need_yes (by decide) hp4
          rw [hz] at h4
          unfold checkV
          rw [hp1, if_pos rfl]
          unfold tiesOk
          rw [h4, allB_iff.2 hoks]
          rfl) hw
      refine TL.guard (t := 60) rfl (fun hg1 => ?_) (fun hg1 => ?_)
      · refine TL.gd Pu.mv ?_
        refine TL.gd (Pu.ml' ty_mp151) ?_
        refine TL.gd Pu.mv ?_
        refine TL.gd Pu.eq ?_
        refine TL.p Pu.kt ?_
        exact TL.sub (by repeat (first | exact trivial | refine ⟨rfl, ?_⟩ | refine ⟨trivial, ?_⟩ | refine ⟨(by show some (Value.bool _) = some (Value.bool _); simp [hg1]), ?_⟩)) (by repeat (first | exact KSub.nil | refine KSub.cons (by repeat (first | exact Pick.hd | apply Pick.tl)) ?_)) hM2
      · refine TL.gs ?_
        refine TL.gs ?_
        refine TL.gs ?_
        refine TL.gs ?_
        refine TL.p Pu.kf ?_
        exact TL.sub (by repeat (first | exact trivial | refine ⟨rfl, ?_⟩ | refine ⟨trivial, ?_⟩ | refine ⟨(by show some (Value.bool _) = some (Value.bool _); simp [hg1]), ?_⟩)) (by repeat (first | exact KSub.nil | refine KSub.cons (by repeat (first | exact Pick.hd | apply Pick.tl)) ?_)) hM2
  refine TL.guard (t := 15) rfl (fun hg2 => ?_) (fun hg2 => ?_)
  · refine TL.gd Pu.mv ?_
    refine TL.cr rfl (enters Tryz.func86 rfl rfl) (fun w hw => by
        exact everyPack_any (fs := []) (cs := []) (p := fun k => packOk (pk k)) (enters Tryz.func63 rfl rfl) (by omega) (hR.sat hw Apart.nil) fun k hk w' hb => by simpa using valid_any (pk k) w' ((hG.sat hw (by simp)).ext hb)) ?_
    refine TL.p Pu.kt ?_
    exact TL.sub (by repeat (first | exact trivial | refine ⟨rfl, ?_⟩ | refine ⟨trivial, ?_⟩ | refine ⟨(by show some (Value.bool _) = some (Value.bool _); simp [hg2]), ?_⟩)) (by repeat (first | exact KSub.nil | refine KSub.cons (by repeat (first | exact Pick.hd | apply Pick.tl)) ?_)) hM1
  · refine TL.gs ?_
    refine TL.gs ?_
    refine TL.p Pu.kf ?_
    exact TL.sub (by repeat (first | exact trivial | refine ⟨rfl, ?_⟩ | refine ⟨trivial, ?_⟩ | refine ⟨(by show some (Value.bool _) = some (Value.bool _); simp [hg2]), ?_⟩)) (by repeat (first | exact KSub.nil | refine KSub.cons (by repeat (first | exact Pick.hd | apply Pick.tl)) ?_)) hM1
end Go.Proofs.YtjephihlkjpohaaGreatDoor
namespace Go.Proofs.YtjephihlkjpohaaGreatDoor
set_option linter.all false
set_option linter.unusedVariables false
set_option linter.unusedSimpArgs false
open Go.RowKit
structure Lay (w : World) (A A2 : Option Addr) (np m : Nat) (pk : Nat → Nat → Int) (a : Nat → Nat → Option Addr) (l c : Nat → Nat → Nat) (v : Nat → Nat → Nat → Int) : Prop where
  hG : None0 w
  hnp : np ≤ 1000000000
  hm : m ≤ 1000
  hR : RdR w 11 A np (fun k => packL (pk k))
  hT : RdR w 3 A2 m (fun i => tieL (a i) (l i) (c i))
  hI : ∀ i, i < m → ∀ j, j < 3 → RdR w 1 (a i j) (l i j) (fun k => [.int .i64 (v i j k)])
  hL : ∀ i, i < m → tot (l i) 3 ≤ 1000
section
variable {w w' : World} {A A2 : Option Addr} {np m : Nat} {pk : Nat → Nat → Int} {a : Nat → Nat → Option Addr} {l c : Nat → Nat → Nat} {v : Nat → Nat → Nat → Int}
theorem Lay.sat {K : List Fact} (h : Lay w A A2 np m pk a l c v) (hs : Sat [] w K w') : Lay w' A A2 np m pk a l c v :=
  ⟨h.hG.sat hs (by simp), h.hnp, h.hm, h.hR.sat hs Apart.nil, h.hT.sat hs Apart.nil, fun i hi j hj => (h.hI i hi j hj).sat hs Apart.nil, h.hL⟩
theorem Lay.ext (h : Lay w A A2 np m pk a l c v) (hb : Below w.heap.size w w') : Lay w' A A2 np m pk a l c v := h.sat (Sat.nil (Chg.of_ext hb))
theorem Lay.check {cp cp2 : Nat} (h : Lay w A A2 np m pk a l c v) : Calls Tryz.prog 47 #[.slice A np cp, .slice A2 m cp2] w (Try w errs (checkV np pk m l v) (.tuple #[])) :=
  check_any h.hG h.hnp h.hm h.hR h.hT h.hI h.hL
end
theorem tot3 (l : Nat → Nat) : tot l 3 = l 0 + l 1 + l 2 := by simp [tot]
theorem cat3 (l : Nat → Nat) (s : Nat → Nat → List Value) : catN l s 3 = catR (l 0 + l 1) (catR (l 0) (s 0) (s 1)) (s 2) := by
  have e : catR 0 (fun _ => []) (s 0) = s 0 := by funext i; simp [catR]
  simp [catN, tot, e]
end Go.Proofs.YtjephihlkjpohaaGreatDoor
namespace Go.Proofs.YtjephihlkjpohaaGreatDoor
set_option linter.all false
set_option linter.unusedVariables false
set_option linter.unusedSimpArgs false
open Go.RowKit
theorem mlook_mput (i j : Int) (v : Value) : ∀ l : List (Int × Value), mlook j (mput i v l) = if j = i then some v else mlook j l
  | [] => by by_cases h : j = i <;> simp [mput, mlook, h]
  | (k, u) :: l => by
    by_cases hk : i = k
    · subst hk; by_cases h : j = i <;> simp [mput, mlook, h]
    · by_cases h : j = i
      · subst h; simp [mput, mlook, hk, mlook_mput j j v l]
      · by_cases h2 : j = k
        · subst h2; simp [mput, mlook, hk, h]
        · simp [mput, mlook, hk, h, h2, mlook_mput i j v l]
theorem mark_look (x : Int) : ∀ (xs : List Int) (m : List (Int × Value)), (mlook x (xs.foldl (fun m x => mput x (.bool true) m) m)).isSome = (decide (x ∈ xs) || (mlook x m).isSome)
  | [], m => by simp
  | y :: xs, m => by
    rw [List.foldl_cons, mark_look x xs, mlook_mput]
    by_cases h : x = y <;> by_cases h2 : x ∈ xs <;> simp [h, h2]
theorem rise_bound {v : Nat → Int} {N : Int} {n : Nat} (h3 : 0 ≤ N) (h : allB n (riseP v N) = true) : ∀ k, k < n → 0 ≤ v k ∧ v k ≤ N - 1 := fun k hk => by
  have h1 := allB_iff.1 h
  have h2 := rise_lo h3 k fun j hj => h1 j (by omega)
  have h4 := h1 k hk
  simp only [riseP, inB5, Bool.and_eq_true, decide_eq_true_eq] at h4
  omega
end Go.Proofs.YtjephihlkjpohaaGreatDoor
namespace Go.Proofs.YtjephihlkjpohaaGreatDoor
set_option linter.all false
set_option linter.unusedVariables false
set_option linter.unusedSimpArgs false
open Go.RowKit
def bump (f : Nat → Nat → Int) (x d : Int) : Nat → Nat → Int := fun q j => if (q : Int) = x ∧ j = 9 then f q j + d else f q j
def hit (f : Nat → Nat → Int) (h : Int) (top : Bool) (x : Int) : Nat → Nat → Int := if top then bump (bump f x h) x h else bump f x h
def hitL (f : Nat → Nat → Int) (h : Int) (top : Bool) (xs : List Int) : Nat → Nat → Int := xs.foldl (fun f x => hit f h top x) f
def hitJ (f : Nat → Nat → Int) (h : Int) (l : Nat → Nat) (v : Nat → Nat → Int) : Nat → Nat → Nat → Int
  | 0 => f
  | j + 1 => hitL (hitJ f h l v j) h (j == 2) (lst l v j)
def hitAll (f : Nat → Nat → Int) (jt : Nat → Nat → Int) (l : Nat → Nat → Nat) (v : Nat → Nat → Nat → Int) : Nat → Nat → Nat → Int
  | 0 => f
  | n + 1 => hitJ (hitAll f jt l v n) (jt n 1) (l (jt n 0).toNat) (v (jt n 0).toNat) 3
def aged (f : Nat → Nat → Int) (days : Int) (k : Nat) : Nat → Nat → Int := fun q j => if q < k ∧ j = 10 then f q j + days else f q j
def joltP (m : Nat) (j : Nat → Int) : Bool := inB5 0 ((m : Int) - 1) (j 0) && inB5 0 100000 (j 1)
def Bd (f : Nat → Nat → Int) (np : Nat) (B : Int) : Prop := ∀ q, q < np → 0 ≤ f q 9 ∧ f q 9 ≤ B ∧ 0 ≤ f q 10 ∧ f q 10 ≤ 100000
theorem Bd.bump {f : Nat → Nat → Int} {np : Nat} {B x d D : Int} (h : Bd f np B) (h0 : 0 ≤ d) (h1 : d ≤ D) : Bd (bump f x d) np (B + D) := fun q hq => by
  obtain ⟨a, b, c, e⟩ := h q hq
  simp only [Go.Proofs.YtjephihlkjpohaaGreatDoor.bump]
  split <;> simp <;> omega
theorem Bd.mono {f : Nat → Nat → Int} {np : Nat} {B D : Int} (h : Bd f np B) (h1 : B ≤ D) : Bd f np D := fun q hq => by
  obtain ⟨a, b, c, e⟩ := h q hq
  exact ⟨a, by omega, c, e⟩
theorem Bd.hit {f : Nat → Nat → Int} {np : Nat} {B x h : Int} {top : Bool} (hb : Bd f np B) (h0 : 0 ≤ h) (h1 : h ≤ 100000) : Bd (hit f h top x) np (B + 200000) := by
  unfold Go.Proofs.YtjephihlkjpohaaGreatDoor.hit
  split
  · exact ((hb.bump h0 h1).bump h0 h1).mono (by omega)
  · exact (hb.bump h0 h1).mono (by omega)
set_option maxRecDepth 100000 in
theorem clone_any {A : Option Addr} {n cp : Nat} {pk : Nat → Nat → Int} {w : World} (hn : n ≤ 1000000000) (hR : RdR w 11 A n (fun k => packL (pk k))) :
    CallsK Tryz.prog 84 #[.slice A n cp] [] w (Option Addr × Nat) (fun x => .slice x.1 n x.2) (fun x => [.own x.1 n x.2 45 11 (fun k => packL (pk k))]) := by
  cases A with
  | none =>
    have h0 : n = 0 := by
      rcases Nat.eq_zero_or_pos n with h | h
      · exact h
      · obtain ⟨b, o, e, _⟩ := hR.rd h
        cases e
    subst h0
    refine K_enter (S := []) (K := []) Tryz.func84 rfl Tryz.ntmps84 rfl (Sat.start _) ?_
    refine TW.seq fun Y1 hY1 => ?_
    refine TW.region ?_
    refine TL.p Pu.as ?_
    refine TL.nil ?_
    refine TQ.thenN (hY1 _ _ ?_)
    refine TW.seq fun Y2 hY2 => ?_
    refine TW.seq fun Y3 hY3 => ?_
    refine TW.region ?_
    refine TL.p Pu.mv ?_
    refine TL.p Pu.bn ?_
    refine TL.nil ?_
    refine TQ.thenN (hY3 _ _ ?_)
    refine TW.condT rfl (rfl) ?_
    refine TW.seq fun Y4 hY4 => ?_
    refine TW.region ?_
    refine TL.p Pu.as ?_
    refine TL.nil ?_
    refine TQ.thenN (hY4 _ _ ?_)
    refine TW.ret ?_
    refine TQ.thenR ?_
    refine TQ.ret Tryz.results84 rfl ((.tmp rfl .nil)) ?_
    exact fun w hw => ⟨(none, 0), rfl, hw.sub (KSub.nilOwn KSub.nil)⟩
  | some p =>
    refine K_enter (S := []) (K := []) Tryz.func84 rfl Tryz.ntmps84 rfl (Sat.start _) ?_
    refine TW.seq fun Y1 hY1 => ?_
    refine TW.region ?_
    refine TL.p Pu.as ?_
    refine TL.nil ?_
    refine TQ.thenN (hY1 _ _ ?_)
    refine TW.seq fun Y2 hY2 => ?_
    refine TW.seq fun Y3 hY3 => ?_
    refine TW.region ?_
    refine TL.p Pu.mv ?_
    refine TL.p Pu.bn ?_
    refine TL.nil ?_
    refine TQ.thenN (hY3 _ _ ?_)
    refine TW.condF rfl (rfl) ?_
    refine TW.skip ?_
    refine TQ.thenN (hY2 _ _ ?_)
    refine TW.seq fun Y4 hY4 => ?_
    refine TW.region ?_
    refine TL.m Mk.bl ?_
    intro b1
    refine TL.p Pu.mv ?_
    refine TL.subK (KSub.ofBlk (n := 0) (sz := 11) (r := fun _ => []) Pick.hd rfl (fun _ h => by omega) rfl rfl KSub.nil) ?_
    first | refine TL.a0 ty_et22 ?_ | refine TL.ap ty_et22 ?_
    intro A2 c2
    refine TL.p Pu.as ?_
    refine TL.nil ?_
    refine TQ.thenN (hY4 _ _ ?_)
    refine TW.ret ?_
    refine TQ.ret Tryz.results84 rfl ((.tmp rfl .nil)) ?_
    exact fun w hw => ⟨(A2, c2), rfl, hw⟩
theorem jolt1_any (m : Nat) (j : Nat → Int) (b : Nat) {A2 : Option Addr} {cp2 : Nat} (w : World) (hm : m ≤ 1000000000) (h1 : OldB w b [.slice A2 m cp2]) :
    Calls Tryz.prog 83 #[.agg (spL (j 0) (j 1)).toArray, .pointer (some ⟨b, 0, none⟩)] w (Ret w (.bool (joltP m j))) := by
  refine K_enter (S := []) (K := []) Tryz.func83 rfl Tryz.ntmps83 rfl (Sat.start _) ?_
  refine TW.seq fun Y1 hY1 => ?_
  refine TW.region ?_
  refine TL.m Mk.bx ?_
  intro b1
  refine TL.p Pu.as ?_
  refine TL.nil ?_
  refine TQ.thenN (hY1 _ _ ?_)
  refine TW.seq fun Y2 hY2 => ?_
  refine TW.join [(3, .bool (joltP m j))] ?_ (fun hJ1 => ?_)
  · refine TQ.thenN (hY2 _ _ ?_)
    refine TW.ret ?_
    refine TQ.ret Tryz.results83 rfl ((.tmp rfl .nil)) ?_
    exact fun w hw => Ret.of hw
  refine TW.region ?_
  refine TL.p (by first | exact (Pu.ld ty_sc23) | exact (Pu.ldo ty_sc23)) ?_
  refine TL.p (Pu.ln Tryz.underlying23) ?_
  refine TL.p Pu.sb ?_
  refine TL.p (by first | exact Pu.fb ty_fa103_0 | exact Pu.fe ty_fa103_0) ?_
  refine TL.p (by first | exact (Pu.ld ty_sc3) | exact (Pu.ldo ty_sc3)) ?_
  refine TL.m Mk.bl ?_
  intro b2
  refine TL.cr rfl (enters Tryz.func78 rfl rfl) (fun w hw => by
      exact inOne_any _ _ _ (hw.holds _ (List.mem_cons_self ..))) ?_
  refine TL.p Pu.mv ?_
  refine TL.guard (t := 11) rfl (fun hg1 => ?_) (fun hg1 => ?_)
  · refine TL.gd (by first | exact Pu.fb ty_fa103_1 | exact Pu.fe ty_fa103_1) ?_
    refine TL.gd (by first | exact (Pu.ld ty_sc3) | exact (Pu.ldo ty_sc3)) ?_
    refine TL.gm Mk.bl ?_
    intro b3
    refine TL.cr rfl (enters Tryz.func78 rfl rfl) (fun w hw => by
        exact inOne_any _ _ _ (hw.holds _ (List.mem_cons_self ..))) ?_
    refine TL.p Pu.kt ?_
    refine TL.p Pu.as ?_
    refine TL.nil ?_
    exact TQ.sub (by repeat (first | exact trivial | refine ⟨rfl, ?_⟩ | refine ⟨trivial, ?_⟩ | refine ⟨(by show some (Value.bool _) = some (Value.bool _); simp [hg1, joltP]), ?_⟩)) (by repeat (first | exact KSub.nil | refine KSub.cons (by repeat (first | exact Pick.hd | apply Pick.tl)) ?_)) hJ1
  · refine TL.gs ?_
    refine TL.gs ?_
    refine TL.gs ?_
    refine TL.gs ?_
    refine TL.p Pu.kf ?_
    refine TL.p Pu.as ?_
    refine TL.nil ?_
    exact TQ.sub (by repeat (first | exact trivial | refine ⟨rfl, ?_⟩ | refine ⟨trivial, ?_⟩ | refine ⟨(by show some (Value.bool _) = some (Value.bool _); simp [hg1, joltP]), ?_⟩)) (by repeat (first | exact KSub.nil | refine KSub.cons (by repeat (first | exact Pick.hd | apply Pick.tl)) ?_)) hJ1
theorem everyJolt_any {g : FuncId} {fs cs : List Value} {A : Option Addr} {n cp : Nat} {v : Nat → Nat → Int} {p : Nat → Bool} {w : World} (hen : Enters Tryz.prog g) (hn : n ≤ 9223372036854775807)
    (hR : RdR w 2 A n (fun k => spL (v k 0) (v k 1))) (hg : ∀ k, k < n → ∀ w', Below w.heap.size w w' → Calls Tryz.prog g (fs ++ [Value.agg (spL (v k 0) (v k 1)).toArray] ++ cs).toArray w' (Ret w' (.bool (p k)))) :
    Calls Tryz.prog 82 #[.slice A n cp, .func (.func g) fs.toArray cs.toArray] w (Ret w (.bool (allB n p))) :=
  CallsK.retOf (everyJolt_st (M := fun _ => []) hen hn hR (fun _ => Apart.nil) (Sat.start w) (fun _ => rfl) fun k hk _ w' hw' => CallsK.ret (hg k hk w' (Chg.ext hw'.chg))) fun x => by
    rw [x.any]
    show Value.bool (!anyB n fun k => !p k) = _
    rw [not_anyB]
    simp
end Go.Proofs.YtjephihlkjpohaaGreatDoor
namespace Go.Proofs.YtjephihlkjpohaaGreatDoor
set_option linter.all false
set_option linter.unusedVariables false
set_option linter.unusedSimpArgs false
open Go.RowKit
theorem bump_row {f : Nat → Nat → Int} {x h : Int} (h0 : 0 ≤ x) (q : Nat) :
    updR (fun q => packL (f q)) x.toNat [.int .u8 (f x.toNat 0), .int .i64 (f x.toNat 1), .int .i64 (f x.toNat 2), .int .i64 (f x.toNat 3), .int .i64 (f x.toNat 4), .int .i64 (f x.toNat 5), .int .i64 (f x.toNat 6), .int .i64 (f x.toNat 7), .int .i64 (f x.toNat 8), .int .i64 (f x.toNat 9 + h), .int .i64 (f x.toNat 10)] q = packL (bump f x h q) := by
  unfold updR
  by_cases hq : q = x.toNat
  · subst hq
    have : ((x.toNat : Nat) : Int) = x := by omega
    simp [packL, bump, this]
  · have : ¬ (q : Int) = x := by omega
    simp [hq, packL, bump, this]
theorem aged_row {f : Nat → Nat → Int} {d : Int} {k : Nat} (q : Nat) :
    updR (fun q => packL (aged f d k q)) k [.int .u8 (aged f d k k 0), .int .i64 (aged f d k k 1), .int .i64 (aged f d k k 2), .int .i64 (aged f d k k 3), .int .i64 (aged f d k k 4), .int .i64 (aged f d k k 5), .int .i64 (aged f d k k 6), .int .i64 (aged f d k k 7), .int .i64 (aged f d k k 8), .int .i64 (aged f d k k 9), .int .i64 (aged f d k k 10 + d)] q = packL (aged f d (k + 1) q) := by
  unfold updR
  by_cases hq : q = k
  · subst hq
    simp [packL, aged]
  · by_cases h2 : q < k
    · have : q < k + 1 := by omega
      simp [hq, packL, aged, h2, this]
    · have : ¬ q < k + 1 := by omega
      simp [hq, packL, aged, h2, this]
def finF (pk : Nat → Nat → Int) (jt : Nat → Nat → Int) (l : Nat → Nat → Nat) (v : Nat → Nat → Nat → Int) (np nj : Nat) (days : Int) : Nat → Nat → Int := aged (hitAll pk jt l v nj) days np
def jcode (np : Nat) (pk : Nat → Nat → Int) (m : Nat) (l : Nat → Nat → Nat) (v : Nat → Nat → Nat → Int) (nj : Nat) (jt : Nat → Nat → Int) (days : Int) : Int :=
  if checkV np pk m l v = 0 then
    if inB5 0 100000 days then if decide ((nj : Int) ≤ 60) then if allB nj (fun k => joltP m (jt k)) then if allB np (fun q => packOk (finF pk jt l v np nj days q)) then 0 else 9 else 53 else 4 else 2
  else checkV np pk m l v
theorem old_below {W0 w w2 : World} {S : List Nat} {K : List Fact} (hb : Below W0.heap.size W0 w) (hs : Sat S w K w2) (hS : ∀ b ∈ S, W0.heap.size ≤ b) : Below W0.heap.size W0 w2 :=
  ⟨hs.chg.os.trans hb.os, hs.chg.tape.trans hb.tape, hs.chg.output.trans hb.output, Nat.le_trans hb.size hs.chg.size, fun k hk => (hs.chg.block k (Nat.lt_of_lt_of_le hk hb.size) (fun hm => by have := hS k hm; omega)).trans (hb.block k hk)⟩
theorem check_ok {np m : Nat} {pk : Nat → Nat → Int} {l : Nat → Nat → Nat} {v : Nat → Nat → Nat → Int} (h : checkV np pk m l v = 0) : np ≤ 30 ∧ (∀ q, q < np → packOk (pk q) = true) ∧ ∀ i, i < m → (∀ j, j < 3 → allB (l i j) (riseP (v i j) np) = true) ∧ tot (l i) 3 ≤ 10 := by
  unfold checkV at h
  split at h
  · rename_i hp
    split at h
    · rename_i ht
      simp only [packsOk, tiesOk, Bool.and_eq_true, decide_eq_true_eq] at hp ht
      refine ⟨by omega, allB_iff.1 hp.2, fun i hi => ?_⟩
      have := allB_iff.1 ht.1 i hi
      simp only [tieOk, Bool.and_eq_true, decide_eq_true_eq] at this
      exact ⟨allB_iff.1 this.1, this.2⟩
    · simp at h
  · simp at h
theorem hitL_snoc (f : Nat → Nat → Int) (h : Int) (top : Bool) (xs : List Int) (x : Int) : hitL f h top (xs ++ [x]) = hit (hitL f h top xs) h top x := by simp [hitL]
section
variable {np m nj : Nat} {pk jt : Nat → Nat → Int} {l : Nat → Nat → Nat} {v : Nat → Nat → Nat → Int} {days : Int}
theorem jc1 (h1 : checkV np pk m l v ≠ 0) : jcode np pk m l v nj jt days = checkV np pk m l v := by simp [jcode, h1]
theorem jc2 (h1 : checkV np pk m l v = 0) (h2 : (if inB5 0 100000 days then (0 : Int) else 2) ≠ 0) : jcode np pk m l v nj jt days = (if inB5 0 100000 days then (0 : Int) else 2) := by
  obtain ⟨hb, he⟩ := need_no h2
  simp [jcode, h1, hb]
theorem jc3 (h1 : checkV np pk m l v = 0) (h2 : (if inB5 0 100000 days then (0 : Int) else 2) = 0) (h3 : (if decide ((nj : Int) ≤ 60) then (0 : Int) else 4) ≠ 0) : jcode np pk m l v nj jt days = (if decide ((nj : Int) ≤ 60) then (0 : Int) else 4) := by
  obtain ⟨hb, he⟩ := need_no h3
  have hb2 := need_yes (by decide) h2
  rw [he]
  unfold jcode
  rw [if_pos h1, hb2, hb]
  rfl
theorem jc4 (h1 : checkV np pk m l v = 0) (h2 : (if inB5 0 100000 days then (0 : Int) else 2) = 0) (h3 : (if decide ((nj : Int) ≤ 60) then (0 : Int) else 4) = 0) (h4 : (if allB nj (fun k => joltP m (jt k)) then (0 : Int) else 53) ≠ 0) : jcode np pk m l v nj jt days = (if allB nj (fun k => joltP m (jt k)) then (0 : Int) else 53) := by
  obtain ⟨hb, he⟩ := need_no h4
  have hb2 := need_yes (by decide) h2
  have hb3 := need_yes (by decide) h3
  rw [he]
  unfold jcode
  rw [if_pos h1, hb2, hb3, hb]
  rfl
theorem jc5 (h1 : checkV np pk m l v = 0) (h2 : (if inB5 0 100000 days then (0 : Int) else 2) = 0) (h3 : (if decide ((nj : Int) ≤ 60) then (0 : Int) else 4) = 0) (h4 : (if allB nj (fun k => joltP m (jt k)) then (0 : Int) else 53) = 0) (h5 : (if allB np (fun q => packOk (finF pk jt l v np nj days q)) then (0 : Int) else 9) ≠ 0) : jcode np pk m l v nj jt days = (if allB np (fun q => packOk (finF pk jt l v np nj days q)) then (0 : Int) else 9) := by
  obtain ⟨hb, he⟩ := need_no h5
  have hb2 := need_yes (by decide) h2
  have hb3 := need_yes (by decide) h3
  have hb4 := need_yes (by decide) h4
  rw [he]
  unfold jcode
  rw [if_pos h1, hb2, hb3, hb4, hb]
  rfl
theorem jc0 (h1 : checkV np pk m l v = 0) (h2 : (if inB5 0 100000 days then (0 : Int) else 2) = 0) (h3 : (if decide ((nj : Int) ≤ 60) then (0 : Int) else 4) = 0) (h4 : (if allB nj (fun k => joltP m (jt k)) then (0 : Int) else 53) = 0) (h5 : (if allB np (fun q => packOk (finF pk jt l v np nj days q)) then (0 : Int) else 9) = 0) : jcode np pk m l v nj jt days = 0 := by
  have hb2 := need_yes (by decide) h2
  have hb3 := need_yes (by decide) h3
  have hb4 := need_yes (by decide) h4
  have hb5 := need_yes (by decide) h5
  unfold jcode
  rw [if_pos h1, hb2, hb3, hb4, hb5]
  rfl
theorem doing_bad {w w' : World} {bn : Nat} {code code' : Int} {Lx : Option Addr × Nat → List Fact} (hc : code' ≠ 0) (e : code = code') (hs : Sat [bn] w [.blk bn 22 [.slice none 0 0]] w') :
    ∃ x : Option Addr × Nat, Sat (feet [.blk bn 22 [.slice none 0 0]]) w (if code = 0 then Lx x else [.blk bn 22 [.slice none 0 0]]) w' ∧ Ending.panicked (errs code') = if code = 0 then .returned (.tuple #[]) else .panicked (errs code) := by
  subst e
  exact ⟨(none, 0), by rw [if_neg hc]; exact hs, by rw [if_neg hc]⟩
end
set_option maxRecDepth 100000 in
set_option maxHeartbeats 1000000 in
theorem jolted1_any {W0 w : World} {A A2 A3 : Option Addr} {np m cp cp2 nj cp3 bp bt bd bj bn : Nat} {pk jt : Nat → Nat → Int} {a : Nat → Nat → Option Addr} {l c : Nat → Nat → Nat} {v : Nat → Nat → Nat → Int} {days : Int}
    (hLay : Lay W0 A A2 np m pk a l c v) (hJ : RdR W0 2 A3 nj (fun k => spL (jt k 0) (jt k 1))) (hnj : nj ≤ 1000000) (hb : Below W0.heap.size W0 w) (hbn : W0.heap.size ≤ bn)
    (h1 : OldB w bp [.slice A np cp]) (h2 : OldB w bt [.slice A2 m cp2]) (h3 : OldB w bd [.int .i64 days]) (h4 : OldB w bj [.slice A3 nj cp3]) (n1 : bp ≠ bn) (n2 : bt ≠ bn) (n3 : bd ≠ bn) (n4 : bj ≠ bn)
    (hM : Sat [bn] w [.blk bn 22 [.slice none 0 0]] w) :
    Doing Tryz.prog 81 #[.pointer (some ⟨bp, 0, none⟩), .pointer (some ⟨bt, 0, none⟩), .pointer (some ⟨bd, 0, none⟩), .pointer (some ⟨bj, 0, none⟩), .pointer (some ⟨bn, 0, none⟩)] [.blk bn 22 [.slice none 0 0]] (Option Addr × Nat)
      (fun x => if jcode np pk m l v nj jt days = 0 then [.blk bn 22 [.slice x.1 np x.2], .own x.1 np x.2 45 11 (fun q => packL (finF pk jt l v np nj days q))] else [.blk bn 22 [.slice none 0 0]]) (jcode np pk m l v nj jt days) w := by
  have hS : ∀ b ∈ [bn], W0.heap.size ≤ b := fun b h => by rw [List.mem_singleton] at h; omega
  have hnp := hLay.hnp
  have hm := hLay.hm
  have ap1 : Apart [bn] (some ⟨bp, 0, none⟩) := fun q hq => by cases hq; simpa using n1
  have ap2 : Apart [bn] (some ⟨bt, 0, none⟩) := fun q hq => by cases hq; simpa using n2
  have ap3 : Apart [bn] (some ⟨bd, 0, none⟩) := fun q hq => by cases hq; simpa using n3
  have ap4 : Apart [bn] (some ⟨bj, 0, none⟩) := fun q hq => by cases hq; simpa using n4
  have hL1 := hLay.ext hb
  have hJ1 : RdR w 2 A3 nj (fun k => spL (jt k 0) (jt k 1)) := hJ.sat (Sat.nil (Chg.of_ext hb)) Apart.nil
  have hG1 := hL1.hG
  refine K_enter (args := [.pointer (some ⟨bp, 0, none⟩), .pointer (some ⟨bt, 0, none⟩), .pointer (some ⟨bd, 0, none⟩), .pointer (some ⟨bj, 0, none⟩), .pointer (some ⟨bn, 0, none⟩)]) (S := [bn]) (K := [.blk bn 22 [.slice none 0 0]]) Tryz.func81 rfl Tryz.ntmps81 rfl hM ?_
  refine TW.seq fun Y1 hY1 => ?_
  refine TW.region ?_
  refine TL.p (by first | exact (Pu.ld ty_sc22) | exact (Pu.ldo ty_sc22)) ?_
  refine TL.p (by first | exact (Pu.ld ty_sc23) | exact (Pu.ldo ty_sc23)) ?_
  refine TL.ct rfl (enters Tryz.func47 rfl rfl) (fun w hw => by
      exact (hLay.ext (old_below hb hw hS)).check) (fun hp1 => ?_) (fun hp1 => ?_)
  rotate_left
  · refine TQ.thenP ?_
    refine TQ.pan rfl ?_
    first
      | exact fun w hw => doing_bad hp1 (jc1 hp1) hw
      | exact fun w hw => doing_bad hp2 (jc2 hp1 hp2) hw
      | exact fun w hw => doing_bad hp3 (jc3 hp1 hp2 hp3) hw
      | exact fun w hw => doing_bad hp4 (jc4 hp1 hp2 hp3 hp4) hw
      | exact fun w hw => doing_bad hp5 (jc5 hp1 hp2 hp3 hp4 hp5) hw
      | exact fun w hw => doing_bad hp5 (jc5 hp1 hp2 hp3 hp4 hp5) (hw.sub (KSub.cons (by repeat (first | exact Pick.hd | apply Pick.tl)) KSub.nil))
      | exact fun w hw => doing_bad hp2 (jc2 hp1 hp2) (hw.sub (KSub.cons (by repeat (first | exact Pick.hd | apply Pick.tl)) KSub.nil))
      | exact fun w hw => doing_bad hp3 (jc3 hp1 hp2 hp3) (hw.sub (KSub.cons (by repeat (first | exact Pick.hd | apply Pick.tl)) KSub.nil))
      | exact fun w hw => doing_bad hp4 (jc4 hp1 hp2 hp3 hp4) (hw.sub (KSub.cons (by repeat (first | exact Pick.hd | apply Pick.tl)) KSub.nil))
  refine TL.nil ?_
  refine TQ.thenN (hY1 _ _ ?_)
  refine TW.seq fun Y2 hY2 => ?_
  refine TW.region ?_
  refine TL.p (by first | exact (Pu.ld ty_sc3) | exact (Pu.ldo ty_sc3)) ?_
  refine TL.m Mk.bl ?_
  intro b1
  refine TL.cr rfl (enters Tryz.func78 rfl rfl) (fun w hw => by
      exact inOne_any _ _ _ (hw.holds _ (List.mem_cons_self ..))) ?_
  refine TL.ct rfl (enters Tryz.func76 rfl rfl) (fun w hw => by
      exact need_any _ _ _ (by decide)) (fun hp2 => ?_) (fun hp2 => ?_)
  rotate_left
  · refine TQ.thenP ?_
    refine TQ.pan rfl ?_
    first
      | exact fun w hw => doing_bad hp1 (jc1 hp1) hw
      | exact fun w hw => doing_bad hp2 (jc2 hp1 hp2) hw
      | exact fun w hw => doing_bad hp3 (jc3 hp1 hp2 hp3) hw
      | exact fun w hw => doing_bad hp4 (jc4 hp1 hp2 hp3 hp4) hw
      | exact fun w hw => doing_bad hp5 (jc5 hp1 hp2 hp3 hp4 hp5) hw
      | exact fun w hw => doing_bad hp5 (jc5 hp1 hp2 hp3 hp4 hp5) (hw.sub (KSub.cons (by repeat (first | exact Pick.hd | apply Pick.tl)) KSub.nil))
      | exact fun w hw => doing_bad hp2 (jc2 hp1 hp2) (hw.sub (KSub.cons (by repeat (first | exact Pick.hd | apply Pick.tl)) KSub.nil))
      | exact fun w hw => doing_bad hp3 (jc3 hp1 hp2 hp3) (hw.sub (KSub.cons (by repeat (first | exact Pick.hd | apply Pick.tl)) KSub.nil))
      | exact fun w hw => doing_bad hp4 (jc4 hp1 hp2 hp3 hp4) (hw.sub (KSub.cons (by repeat (first | exact Pick.hd | apply Pick.tl)) KSub.nil))
  refine TL.nil ?_
  refine TQ.thenN (hY2 _ _ ?_)
  refine TW.seq fun Y3 hY3 => ?_
  refine TW.region ?_
  refine TL.p (by first | exact (Pu.ld ty_sc94) | exact (Pu.ldo ty_sc94)) ?_
  refine TL.p (Pu.ln Tryz.underlying94) ?_
  refine TL.p Pu.le ?_
  refine TL.ct rfl (enters Tryz.func76 rfl rfl) (fun w hw => by
      exact need_any _ _ _ (by decide)) (fun hp3 => ?_) (fun hp3 => ?_)
  rotate_left
  · refine TQ.thenP ?_
    refine TQ.pan rfl ?_
    first
      | exact fun w hw => doing_bad hp1 (jc1 hp1) hw
      | exact fun w hw => doing_bad hp2 (jc2 hp1 hp2) hw
      | exact fun w hw => doing_bad hp3 (jc3 hp1 hp2 hp3) hw
      | exact fun w hw => doing_bad hp4 (jc4 hp1 hp2 hp3 hp4) hw
      | exact fun w hw => doing_bad hp5 (jc5 hp1 hp2 hp3 hp4 hp5) hw
      | exact fun w hw => doing_bad hp5 (jc5 hp1 hp2 hp3 hp4 hp5) (hw.sub (KSub.cons (by repeat (first | exact Pick.hd | apply Pick.tl)) KSub.nil))
      | exact fun w hw => doing_bad hp2 (jc2 hp1 hp2) (hw.sub (KSub.cons (by repeat (first | exact Pick.hd | apply Pick.tl)) KSub.nil))
      | exact fun w hw => doing_bad hp3 (jc3 hp1 hp2 hp3) (hw.sub (KSub.cons (by repeat (first | exact Pick.hd | apply Pick.tl)) KSub.nil))
      | exact fun w hw => doing_bad hp4 (jc4 hp1 hp2 hp3 hp4) (hw.sub (KSub.cons (by repeat (first | exact Pick.hd | apply Pick.tl)) KSub.nil))
  refine TL.nil ?_
  refine TQ.thenN (hY3 _ _ ?_)
  refine TW.seq fun Y4 hY4 => ?_
  refine TW.region ?_
  refine TL.p (by first | exact (Pu.ld ty_sc94) | exact (Pu.ldo ty_sc94)) ?_
  refine TL.p Pu.fn ?_
  refine TL.cr rfl (enters Tryz.func82 rfl rfl) (fun w hw => by
      exact everyJolt_any (fs := []) (cs := [.pointer (some ⟨bt, 0, none⟩)]) (p := fun k => joltP m (jt k)) (enters Tryz.func83 rfl rfl) (by omega) (hJ.sat (Sat.nil (Chg.of_ext (old_below hb hw hS))) Apart.nil) fun k hk w' hb' => jolt1_any m (jt k) bt w' (by omega) ((h2.sat hw (by simpa using n2)).ext hb')) ?_
  refine TL.ct rfl (enters Tryz.func76 rfl rfl) (fun w hw => by
      exact need_any _ _ _ (by decide)) (fun hp4 => ?_) (fun hp4 => ?_)
  rotate_left
  · refine TQ.thenP ?_
    refine TQ.pan rfl ?_
    first
      | exact fun w hw => doing_bad hp1 (jc1 hp1) hw
      | exact fun w hw => doing_bad hp2 (jc2 hp1 hp2) hw
      | exact fun w hw => doing_bad hp3 (jc3 hp1 hp2 hp3) hw
      | exact fun w hw => doing_bad hp4 (jc4 hp1 hp2 hp3 hp4) hw
      | exact fun w hw => doing_bad hp5 (jc5 hp1 hp2 hp3 hp4 hp5) hw
      | exact fun w hw => doing_bad hp5 (jc5 hp1 hp2 hp3 hp4 hp5) (hw.sub (KSub.cons (by repeat (first | exact Pick.hd | apply Pick.tl)) KSub.nil))
      | exact fun w hw => doing_bad hp2 (jc2 hp1 hp2) (hw.sub (KSub.cons (by repeat (first | exact Pick.hd | apply Pick.tl)) KSub.nil))
      | exact fun w hw => doing_bad hp3 (jc3 hp1 hp2 hp3) (hw.sub (KSub.cons (by repeat (first | exact Pick.hd | apply Pick.tl)) KSub.nil))
      | exact fun w hw => doing_bad hp4 (jc4 hp1 hp2 hp3 hp4) (hw.sub (KSub.cons (by repeat (first | exact Pick.hd | apply Pick.tl)) KSub.nil))
  refine TL.nil ?_
  refine TQ.thenN (hY4 _ _ ?_)
  refine TW.seq fun Y5 hY5 => ?_
  refine TW.region ?_
  refine TL.p (by first | exact (Pu.ld ty_sc22) | exact (Pu.ldo ty_sc22)) ?_
  refine TL.call (M := []) rfl (enters Tryz.func84 rfl rfl) (List.Perm.refl _) rfl (fun w hw => by
      exact clone_any hnp (hLay.ext (old_below hb hw hS)).hR) ?_
  rintro ⟨Ac, cc⟩
  refine TL.p Pu.as ?_
  refine TL.nil ?_
  refine TQ.thenN (hY5 _ _ ?_)
  refine TW.seq fun Y6 hY6 => ?_
  refine TW.seq fun Y7 hY7 => ?_
  refine TW.region ?_
  refine TL.p (by first | exact (Pu.ld ty_sc94) | exact (Pu.ldo ty_sc94)) ?_
  refine TL.p (Pu.ln Tryz.underlying94) ?_
  refine TL.p Pu.mv ?_
  refine TL.nil ?_
  refine TQ.thenN (hY7 _ _ ?_)
  refine TW.block ?_
  obtain ⟨hnp30, hpk, hties⟩ := check_ok hp1
  have hdays : inB5 0 100000 days = true := need_yes (by decide) hp2
  have hnj60 : decide ((nj : Int) ≤ 60) = true := need_yes (by decide) hp3
  have hjs : allB nj (fun k => joltP m (jt k)) = true := need_yes (by decide) hp4
  have hnj6 : (nj : Int) ≤ 60 := by simpa using hnj60
  have hBd0 : Bd pk np 6000000 := fun q hq => by
    have := ((packOk_iff (pk q)).1 (hpk q hq)).1
    unfold okF at this
    omega
  refine TW.loop1 (fun (n : Nat) => [(32, .int .i64 (n : Int)), (31, .int .i64 (nj : Int)), (30, .slice A3 nj cp3), (5, .slice Ac np cc), (0, .pointer (some ⟨bp, 0, none⟩)), (1, .pointer (some ⟨bt, 0, none⟩)), (2, .pointer (some ⟨bd, 0, none⟩)), (3, .pointer (some ⟨bj, 0, none⟩)), (4, .pointer (some ⟨bn, 0, none⟩))]) (fun n => [.own Ac np cc 45 11 (fun q => packL (hitAll pk jt l v n q)), .blk bn 22 [.slice none 0 0]]) (fun n => n ≤ nj ∧ Bd (hitAll pk jt l v n) np (6000000 + 2000000 * (n : Int))) (fun n => nj - n) 0 (by repeat (first | exact trivial | refine ⟨rfl, ?_⟩ | refine ⟨trivial, ?_⟩)) ?_ ?_ ?_
  · exact (by repeat (first | exact KSub.nil | refine KSub.cons (by repeat (first | exact Pick.hd | apply Pick.tl)) ?_))
  · exact ⟨by omega, by show Bd pk np _; exact hBd0.mono (by omega)⟩
  rintro n ⟨hn, hBn⟩ Z0 hZ0
  refine TW.seq fun Y8 hY8 => ?_
  refine TW.region ?_
  refine TL.p Pu.lt ?_
  refine TL.nil ?_
  refine TQ.thenN (hY8 _ _ ?_)
  refine TW.seq fun Y9 hY9 => ?_
  refine TW.cond rfl (fun hc0 => ?_) (fun hc0 => ?_)
  · try simp only [decide_eq_true_eq, decide_eq_false_iff_not, Bool.not_eq_true', Bool.not_eq_false', Bool.and_eq_true, Bool.or_eq_true, Bool.and_eq_false_iff, Bool.or_eq_false_iff, Int.not_lt, Int.not_le] at hc0
    have hnj1 : n < nj := by omega
    have apJ : Apart [bn] A3 := hJ.apart hS (by omega)
    have hjn := allB_iff.1 hjs n hnj1
    simp only [joltP, inB5, Bool.and_eq_true, decide_eq_true_eq] at hjn
    have htl : (jt n 0).toNat < m := by omega
    have apT : Apart [bn] A2 := hLay.hT.apart hS (by omega)
    have hT1 := hL1.hT
    have hti := hties _ htl
    refine TW.skip ?_
    refine TQ.thenN (hY9 _ _ ?_)
    refine TW.seq fun Y10 hY10 => ?_
    refine TW.block ?_
    refine TW.seq fun Y11 hY11 => ?_
    refine TW.region ?_
    refine TL.p (Pu.el ty_et94) ?_
    refine TL.p (by first | exact (Pu.lds ty_ag103) | exact (Pu.ldso ty_ag103)) ?_
    refine TL.m (Mk.al ty_zr103) ?_
    intro b2
    first | refine TL.st ty_sz103 ?_ | refine TL.se ty_sz103 ?_
    refine TL.nil ?_
    refine TQ.thenN (hY11 _ _ ?_)
    refine TW.seq fun Y12 hY12 => ?_
    refine TW.region ?_
    refine TL.p (by first | exact (Pu.ld ty_sc23) | exact (Pu.ldo ty_sc23)) ?_
    refine TL.p (by first | exact Pu.fb ty_fa103_0 | exact Pu.fe ty_fa103_0) ?_
    refine TL.p (by first | exact (Pu.ld ty_sc3) | exact (Pu.ldo ty_sc3)) ?_
    refine TL.p (Pu.el (q := (jt n 0).toNat) ty_et23 (hk := rfl)) ?_
    refine TL.p (by first | exact (Pu.lds ty_ag36) | exact (Pu.ldso ty_ag36)) ?_
    refine TL.cr rfl (enters Tryz.func85 rfl rfl) (fun w hw => by
        exact lists_any _ _ _ _) ?_
    refine TL.p Pu.mv ?_
    refine TL.nil ?_
    refine TQ.thenN (hY12 _ _ ?_)
    refine TW.block ?_
    refine TW.loop1 (fun (j : Nat) => [(42, .int .i64 (j : Int)), (41, .agg (tieL (a (jt n 0).toNat) (l (jt n 0).toNat) (c (jt n 0).toNat)).toArray), (7, .pointer (some ⟨b2, 0, none⟩)), (32, .int .i64 (n : Int)), (31, .int .i64 (nj : Int)), (30, .slice A3 nj cp3), (5, .slice Ac np cc), (0, .pointer (some ⟨bp, 0, none⟩)), (1, .pointer (some ⟨bt, 0, none⟩)), (2, .pointer (some ⟨bd, 0, none⟩)), (3, .pointer (some ⟨bj, 0, none⟩)), (4, .pointer (some ⟨bn, 0, none⟩))]) (fun j => [.own Ac np cc 45 11 (fun q => packL (hitJ (hitAll pk jt l v n) (jt n 1) (l (jt n 0).toNat) (v (jt n 0).toNat) j q)), .blk b2 103 (spL (jt n 0) (jt n 1)), .blk bn 22 [.slice none 0 0]]) (fun j => j ≤ 3 ∧ Bd (hitJ (hitAll pk jt l v n) (jt n 1) (l (jt n 0).toNat) (v (jt n 0).toNat) j) np (6000000 + 2000000 * (n : Int) + 200000 * (tot (l (jt n 0).toNat) j : Int))) (fun j => 3 - j) 0 (by repeat (first | exact trivial | refine ⟨rfl, ?_⟩ | refine ⟨trivial, ?_⟩)) ?_ ?_ ?_
    · exact (by repeat (first | exact KSub.nil | refine KSub.cons (by repeat (first | exact Pick.hd | apply Pick.tl)) ?_))
    · exact ⟨by omega, by show Bd (hitAll pk jt l v n) np _; exact hBn.mono (by simp only [tot]; omega)⟩
    rintro j ⟨hj, hBj⟩ Z1 hZ1
    refine TW.seq fun Y13 hY13 => ?_
    refine TW.region ?_
    refine TL.p Pu.lt ?_
    refine TL.nil ?_
    refine TQ.thenN (hY13 _ _ ?_)
    refine TW.seq fun Y14 hY14 => ?_
    refine TW.cond rfl (fun hc1 => ?_) (fun hc1 => ?_)
    · try simp only [decide_eq_true_eq, decide_eq_false_iff_not, Bool.not_eq_true', Bool.not_eq_false', Bool.and_eq_true, Bool.or_eq_true, Bool.and_eq_false_iff, Bool.or_eq_false_iff, Int.not_lt, Int.not_le] at hc1
      have hj3 : j < 3 := by omega
      have hIj0 := hLay.hI _ htl j hj3
      have hIj := hL1.hI _ htl j hj3
      have hrise := hti.1 j hj3
      have htj : tot (l (jt n 0).toNat) j + l (jt n 0).toNat j ≤ tot (l (jt n 0).toNat) 3 := tot_mono (l := l (jt n 0).toNat) (show j + 1 ≤ 3 by omega)
      refine TW.skip ?_
      refine TQ.thenN (hY14 _ _ ?_)
      refine TW.seq fun Y15 hY15 => ?_
      refine TW.block ?_
      refine TW.seq fun Y16 hY16 => ?_
      refine TW.region ?_
      refine TL.p Pu.mv ?_
      refine TL.p (Pu.ix rfl rfl (fun w => index_tie _ _ _ j (by omega) w)) ?_
      refine TL.p Pu.as ?_
      refine TL.p Pu.as ?_
      refine TL.nil ?_
      refine TQ.thenN (hY16 _ _ ?_)
      refine TW.seq fun Y17 hY17 => ?_
      refine TW.region ?_
      refine TL.p Pu.mv ?_
      refine TL.p (Pu.ln Tryz.underlying24) ?_
      refine TL.p Pu.mv ?_
      refine TL.nil ?_
      refine TQ.thenN (hY17 _ _ ?_)
      refine TW.block ?_
      refine TW.loop1 (fun (k : Nat) => [(48, .int .i64 (k : Int)), (47, .int .i64 (l (jt n 0).toNat j : Int)), (46, .slice (a (jt n 0).toNat j) (l (jt n 0).toNat j) (c (jt n 0).toNat j)), (8, .int .i64 (j : Int)), (42, .int .i64 (j : Int)), (41, .agg (tieL (a (jt n 0).toNat) (l (jt n 0).toNat) (c (jt n 0).toNat)).toArray), (7, .pointer (some ⟨b2, 0, none⟩)), (32, .int .i64 (n : Int)), (31, .int .i64 (nj : Int)), (30, .slice A3 nj cp3), (5, .slice Ac np cc), (0, .pointer (some ⟨bp, 0, none⟩)), (1, .pointer (some ⟨bt, 0, none⟩)), (2, .pointer (some ⟨bd, 0, none⟩)), (3, .pointer (some ⟨bj, 0, none⟩)), (4, .pointer (some ⟨bn, 0, none⟩))]) (fun k => [.own Ac np cc 45 11 (fun q => packL (hitL (hitJ (hitAll pk jt l v n) (jt n 1) (l (jt n 0).toNat) (v (jt n 0).toNat) j) (jt n 1) (j == 2) ((List.range k).map (v (jt n 0).toNat j)) q)), .blk b2 103 (spL (jt n 0) (jt n 1)), .blk bn 22 [.slice none 0 0]]) (fun k => k ≤ l (jt n 0).toNat j ∧ Bd (hitL (hitJ (hitAll pk jt l v n) (jt n 1) (l (jt n 0).toNat) (v (jt n 0).toNat) j) (jt n 1) (j == 2) ((List.range k).map (v (jt n 0).toNat j))) np (6000000 + 2000000 * (n : Int) + 200000 * (tot (l (jt n 0).toNat) j : Int) + 200000 * (k : Int))) (fun k => l (jt n 0).toNat j - k) 0 (by repeat (first | exact trivial | refine ⟨rfl, ?_⟩ | refine ⟨trivial, ?_⟩)) ?_ ?_ ?_
      · exact (by repeat (first | exact KSub.nil | refine KSub.cons (by repeat (first | exact Pick.hd | apply Pick.tl)) ?_))
      · exact ⟨Nat.zero_le _, hBj.mono (by omega)⟩
      rintro k ⟨hk, hBk⟩ Z2 hZ2
      refine TW.seq fun Y18 hY18 => ?_
      refine TW.region ?_
      refine TL.p Pu.lt ?_
      refine TL.nil ?_
      refine TQ.thenN (hY18 _ _ ?_)
      refine TW.seq fun Y19 hY19 => ?_
      refine TW.cond rfl (fun hc2 => ?_) (fun hc2 => ?_)
      · try simp only [decide_eq_true_eq, decide_eq_false_iff_not, Bool.not_eq_true', Bool.not_eq_false', Bool.and_eq_true, Bool.or_eq_true, Bool.and_eq_false_iff, Bool.or_eq_false_iff, Int.not_lt, Int.not_le] at hc2
        have hkl : k < l (jt n 0).toNat j := by omega
        have apI : Apart [bn] (a (jt n 0).toNat j) := hIj0.apart hS (by omega)
        have hx := rise_bound (by omega) hrise k hkl
        generalize hfe : hitL (hitJ (hitAll pk jt l v n) (jt n 1) (l (jt n 0).toNat) (v (jt n 0).toNat) j) (jt n 1) (j == 2) ((List.range k).map (v (jt n 0).toNat j)) = f at *
        have hBq := hBk (v (jt n 0).toNat j k).toNat (by omega)
        refine TW.skip ?_
        refine TQ.thenN (hY19 _ _ ?_)
        refine TW.seq fun Y20 hY20 => ?_
        refine TW.block ?_
        refine TW.seq fun Y21 hY21 => ?_
        refine TW.region ?_
        refine TL.p (Pu.el ty_et24) ?_
        refine TL.p (by first | exact (Pu.ld ty_sc3) | exact (Pu.ldo ty_sc3)) ?_
        refine TL.p Pu.as ?_
        refine TL.nil ?_
        refine TQ.thenN (hY21 _ _ ?_)
        refine TW.seq fun Y22 hY22 => ?_
        refine TW.dw 10 ?_
        refine RK.tk Pu.mv ?_
        refine RK.tk Pu.mv ?_
        refine RK.tk (Pu.el (q := (v (jt n 0).toNat j k).toNat) ty_et22 (hk := rfl)) ?_
        refine RK.tk (by first | exact Pu.fb ty_fa45_5 | exact Pu.fe ty_fa45_5) ?_
        refine RK.tk (by first | exact (Pu.ld ty_sc3) | exact (Pu.ldo ty_sc3)) ?_
        refine RK.tk (by first | exact Pu.fb ty_fa103_1 | exact Pu.fe ty_fa103_1) ?_
        refine RK.tk (by first | exact (Pu.ld ty_sc3) | exact (Pu.ldo ty_sc3)) ?_
        refine RK.tk Pu.ad ?_
        refine RK.tk (Pu.el (q := (v (jt n 0).toNat j k).toNat) ty_et22 (hk := rfl)) ?_
        refine RK.tk (by first | exact Pu.fb ty_fa45_5 | exact Pu.fe ty_fa45_5) ?_
        refine RK.ch [] ?_ trivial
        refine WK.n ?_
        first | refine TL.st ty_sz3 ?_ | refine TL.se ty_sz3 ?_
        refine TL.nil ?_
        refine TQ.thenN (hY22 _ _ ?_)
        refine TW.seq fun Y23 hY23 => ?_
        refine TW.region ?_
        refine TL.subK (KSub.own Pick.hd (fun q _ => bump_row (h := jt n 1) hx.1 q) (KSub.cons Pick.hd (KSub.cons Pick.hd KSub.nil))) ?_
        refine TL.p Pu.mv ?_
        refine TL.p Pu.eq ?_
        refine TL.nil ?_
        refine TQ.thenN (hY23 _ _ ?_)
        refine TW.cond rfl (fun hc3 => ?_) (fun hc3 => ?_)
        · try simp only [decide_eq_true_eq, decide_eq_false_iff_not, Bool.not_eq_true', Bool.not_eq_false', Bool.and_eq_true, Bool.or_eq_true, Bool.and_eq_false_iff, Bool.or_eq_false_iff, Int.not_lt, Int.not_le] at hc3
          have hBq2 := (hBk.bump (x := v (jt n 0).toNat j k) hjn.2.1 hjn.2.2) (v (jt n 0).toNat j k).toNat (by omega)
          have hhit : hit f (jt n 1) (j == 2) (v (jt n 0).toNat j k) = bump (bump f (v (jt n 0).toNat j k) (jt n 1)) (v (jt n 0).toNat j k) (jt n 1) := by
            have : j = 2 := by omega
            subst this
            rfl
          refine TW.dw 10 ?_
          refine RK.tk Pu.mv ?_
          refine RK.tk Pu.mv ?_
          refine RK.tk (Pu.el (q := (v (jt n 0).toNat j k).toNat) ty_et22 (hk := rfl)) ?_
          refine RK.tk (by first | exact Pu.fb ty_fa45_5 | exact Pu.fe ty_fa45_5) ?_
          refine RK.tk (by first | exact (Pu.ld ty_sc3) | exact (Pu.ldo ty_sc3)) ?_
          refine RK.tk (by first | exact Pu.fb ty_fa103_1 | exact Pu.fe ty_fa103_1) ?_
          refine RK.tk (by first | exact (Pu.ld ty_sc3) | exact (Pu.ldo ty_sc3)) ?_
          refine RK.tk Pu.ad ?_
          refine RK.tk (Pu.el (q := (v (jt n 0).toNat j k).toNat) ty_et22 (hk := rfl)) ?_
          refine RK.tk (by first | exact Pu.fb ty_fa45_5 | exact Pu.fe ty_fa45_5) ?_
          refine RK.ch [] ?_ trivial
          refine WK.n ?_
          first | refine TL.st ty_sz3 ?_ | refine TL.se ty_sz3 ?_
          refine TL.nil ?_
          refine TQ.blkN ?_
          refine TQ.thenN (hY20 _ _ ?_)
          refine TW.region ?_
          refine TL.p Pu.ad ?_
          refine TL.p Pu.mv ?_
          refine TL.nil ?_
          refine TQ.thenN (hZ2 (k + 1) _ _ ?_ ?_ (by repeat (first | exact trivial | refine ⟨rfl, ?_⟩ | refine ⟨trivial, ?_⟩)) ?_)
          · refine ⟨by omega, ?_⟩
            rw [List.range_succ, List.map_append, show [k].map (v (jt n 0).toNat j) = [v (jt n 0).toNat j k] from rfl, hitL_snoc, hfe]
            exact (hBk.hit hjn.2.1 hjn.2.2).mono (by omega)
          · exact (by first | omega | (simp only []; omega) | (simp; omega))
          · rw [List.range_succ, List.map_append, show [k].map (v (jt n 0).toNat j) = [v (jt n 0).toNat j k] from rfl]
            simp only [hitL_snoc, hfe, hhit]
            first
              | exact KSub.own Pick.hd (fun q _ => bump_row (f := bump f (v (jt n 0).toNat j k) (jt n 1)) (h := jt n 1) hx.1 q) (KSub.cons Pick.hd (KSub.cons Pick.hd KSub.nil))
              | exact KSub.cons Pick.hd (KSub.cons Pick.hd (KSub.cons Pick.hd KSub.nil))
        · try simp only [decide_eq_true_eq, decide_eq_false_iff_not, Bool.not_eq_true', Bool.not_eq_false', Bool.and_eq_true, Bool.or_eq_true, Bool.and_eq_false_iff, Bool.or_eq_false_iff, Int.not_lt, Int.not_le] at hc3
          have hhit : hit f (jt n 1) (j == 2) (v (jt n 0).toNat j k) = bump f (v (jt n 0).toNat j k) (jt n 1) := by
            have : (j == 2) = false := by simp; omega
            rw [this]; rfl
          refine TW.skip ?_
          refine TQ.blkN ?_
          refine TQ.thenN (hY20 _ _ ?_)
          refine TW.region ?_
          refine TL.p Pu.ad ?_
          refine TL.p Pu.mv ?_
          refine TL.nil ?_
          refine TQ.thenN (hZ2 (k + 1) _ _ ?_ ?_ (by repeat (first | exact trivial | refine ⟨rfl, ?_⟩ | refine ⟨trivial, ?_⟩)) ?_)
          · refine ⟨by omega, ?_⟩
            rw [List.range_succ, List.map_append, show [k].map (v (jt n 0).toNat j) = [v (jt n 0).toNat j k] from rfl, hitL_snoc, hfe]
            exact (hBk.hit hjn.2.1 hjn.2.2).mono (by omega)
          · exact (by first | omega | (simp only []; omega) | (simp; omega))
          · rw [List.range_succ, List.map_append, show [k].map (v (jt n 0).toNat j) = [v (jt n 0).toNat j k] from rfl]
            simp only [hitL_snoc, hfe, hhit]
            first
              | exact KSub.own Pick.hd (fun q _ => bump_row (f := bump f (v (jt n 0).toNat j k) (jt n 1)) (h := jt n 1) hx.1 q) (KSub.cons Pick.hd (KSub.cons Pick.hd KSub.nil))
              | exact KSub.cons Pick.hd (KSub.cons Pick.hd (KSub.cons Pick.hd KSub.nil))
      · try simp only [decide_eq_true_eq, decide_eq_false_iff_not, Bool.not_eq_true', Bool.not_eq_false', Bool.and_eq_true, Bool.or_eq_true, Bool.and_eq_false_iff, Bool.or_eq_false_iff, Int.not_lt, Int.not_le] at hc2
        refine TW.exit ?_
        refine TQ.thenX ?_
        refine TQ.thenX ?_
        refine TQ.blkX ?_
        refine TQ.blkN ?_
        refine TQ.thenN (hY15 _ _ ?_)
        refine TW.region ?_
        refine TL.p Pu.ad ?_
        refine TL.p Pu.mv ?_
        refine TL.nil ?_
        obtain rfl : k = l (jt n 0).toNat j := by omega
        refine TQ.thenN (hZ1 (j + 1) _ _ ?_ ?_ (by repeat (first | exact trivial | refine ⟨rfl, ?_⟩ | refine ⟨trivial, ?_⟩)) ?_)
        · refine ⟨by omega, ?_⟩
          simp only [hitJ, lst, tot]
          exact hBk.mono (by omega)
        · exact (by first | omega | (simp only []; omega) | (simp; omega))
        · simp only [hitJ, lst]
          exact KSub.cons (by repeat (first | exact Pick.hd | apply Pick.tl)) (KSub.cons (by repeat (first | exact Pick.hd | apply Pick.tl)) (KSub.cons (by repeat (first | exact Pick.hd | apply Pick.tl)) KSub.nil))
    · try simp only [decide_eq_true_eq, decide_eq_false_iff_not, Bool.not_eq_true', Bool.not_eq_false', Bool.and_eq_true, Bool.or_eq_true, Bool.and_eq_false_iff, Bool.or_eq_false_iff, Int.not_lt, Int.not_le] at hc1
      obtain rfl : 3 = j := by omega
      refine TW.exit ?_
      refine TQ.thenX ?_
      refine TQ.thenX ?_
      refine TQ.blkX ?_
      refine TQ.blkN ?_
      refine TQ.thenN (hY10 _ _ ?_)
      refine TW.region ?_
      refine TL.p Pu.ad ?_
      refine TL.p Pu.mv ?_
      refine TL.nil ?_
      refine TQ.thenN (hZ0 (n + 1) _ _ ?_ ?_ (by repeat (first | exact trivial | refine ⟨rfl, ?_⟩ | refine ⟨trivial, ?_⟩)) ?_)
      · refine ⟨by omega, ?_⟩
        simp only [hitAll]
        exact hBj.mono (by omega)
      · exact (by first | omega | (simp only []; omega) | (simp; omega))
      · simp only [hitAll]
        exact KSub.cons (by repeat (first | exact Pick.hd | apply Pick.tl)) (KSub.cons (by repeat (first | exact Pick.hd | apply Pick.tl)) KSub.nil)
  · try simp only [decide_eq_true_eq, decide_eq_false_iff_not, Bool.not_eq_true', Bool.not_eq_false', Bool.and_eq_true, Bool.or_eq_true, Bool.and_eq_false_iff, Bool.or_eq_false_iff, Int.not_lt, Int.not_le] at hc0
    obtain rfl : nj = n := by omega
    refine TW.exit ?_
    refine TQ.thenX ?_
    refine TQ.thenX ?_
    refine TQ.blkX ?_
    refine TQ.thenN (hY6 _ _ ?_)
    refine TW.seq fun Y24 hY24 => ?_
    refine TW.seq fun Y25 hY25 => ?_
    refine TW.region ?_
    refine TL.p Pu.mv ?_
    refine TL.p (Pu.ln Tryz.underlying22) ?_
    refine TL.p Pu.mv ?_
    refine TL.nil ?_
    refine TQ.thenN (hY25 _ _ ?_)
    refine TW.block ?_
    have hdd : 0 ≤ days ∧ days ≤ 100000 := by simpa [inB5] using hdays
    refine TW.loop1 (fun (k : Nat) => [(79, .int .i64 (k : Int)), (78, .int .i64 (np : Int)), (5, .slice Ac np cc), (0, .pointer (some ⟨bp, 0, none⟩)), (1, .pointer (some ⟨bt, 0, none⟩)), (2, .pointer (some ⟨bd, 0, none⟩)), (3, .pointer (some ⟨bj, 0, none⟩)), (4, .pointer (some ⟨bn, 0, none⟩))]) (fun k => [.own Ac np cc 45 11 (fun q => packL (aged (hitAll pk jt l v nj) days k q)), .blk bn 22 [.slice none 0 0]]) (fun k => k ≤ np) (fun k => np - k) 0 (by repeat (first | exact trivial | refine ⟨rfl, ?_⟩ | refine ⟨trivial, ?_⟩)) ?_ ?_ ?_
    · have e0 : aged (hitAll pk jt l v nj) days 0 = hitAll pk jt l v nj := by funext q j; simp [aged]
      rw [e0]
      exact KSub.cons (by repeat (first | exact Pick.hd | apply Pick.tl)) (KSub.cons (by repeat (first | exact Pick.hd | apply Pick.tl)) KSub.nil)
    · exact Nat.zero_le _
    rintro k hk Z3 hZ3
    refine TW.seq fun Y26 hY26 => ?_
    refine TW.region ?_
    refine TL.p Pu.lt ?_
    refine TL.nil ?_
    refine TQ.thenN (hY26 _ _ ?_)
    refine TW.seq fun Y27 hY27 => ?_
    refine TW.cond rfl (fun hc4 => ?_) (fun hc4 => ?_)
    · try simp only [decide_eq_true_eq, decide_eq_false_iff_not, Bool.not_eq_true', Bool.not_eq_false', Bool.and_eq_true, Bool.or_eq_true, Bool.and_eq_false_iff, Bool.or_eq_false_iff, Int.not_lt, Int.not_le] at hc4
      have hkn : k < np := by omega
      have hBk := hBn k hkn
      have hag : aged (hitAll pk jt l v nj) days k k 10 = hitAll pk jt l v nj k 10 := by simp [aged]
      refine TW.skip ?_
      refine TQ.thenN (hY27 _ _ ?_)
      refine TW.seq fun Y28 hY28 => ?_
      refine TW.block ?_
      refine TW.seq fun Y29 hY29 => ?_
      refine TW.region ?_
      refine TL.p Pu.mv ?_
      refine TL.p Pu.as ?_
      refine TL.nil ?_
      refine TQ.thenN (hY29 _ _ ?_)
      refine TW.dw 9 ?_
      refine RK.tk Pu.mv ?_
      refine RK.tk Pu.mv ?_
      refine RK.tk (Pu.el ty_et22) ?_
      refine RK.tk (by first | exact Pu.fb ty_fa45_6 | exact Pu.fe ty_fa45_6) ?_
      refine RK.tk (by first | exact (Pu.ld ty_sc3) | exact (Pu.ldo ty_sc3)) ?_
      refine RK.tk (by first | exact (Pu.ld ty_sc3) | exact (Pu.ldo ty_sc3)) ?_
      refine RK.tk Pu.ad ?_
      refine RK.tk (Pu.el ty_et22) ?_
      refine RK.tk (by first | exact Pu.fb ty_fa45_6 | exact Pu.fe ty_fa45_6) ?_
      refine RK.ch [] ?_ trivial
      refine WK.n ?_
      first | refine TL.st ty_sz3 ?_ | refine TL.se ty_sz3 ?_
      refine TL.nil ?_
      refine TQ.blkN ?_
      refine TQ.thenN (hY28 _ _ ?_)
      refine TW.region ?_
      refine TL.p Pu.ad ?_
      refine TL.p Pu.mv ?_
      refine TL.nil ?_
      refine TQ.thenN (hZ3 (k + 1) _ _ ?_ ?_ (by repeat (first | exact trivial | refine ⟨rfl, ?_⟩ | refine ⟨trivial, ?_⟩)) ?_)
      · exact (by omega)
      · exact (by first | omega | (simp only []; omega) | (simp; omega))
      · exact KSub.own Pick.hd (fun q _ => aged_row q) (KSub.cons (by repeat (first | exact Pick.hd | apply Pick.tl)) KSub.nil)
    · try simp only [decide_eq_true_eq, decide_eq_false_iff_not, Bool.not_eq_true', Bool.not_eq_false', Bool.and_eq_true, Bool.or_eq_true, Bool.and_eq_false_iff, Bool.or_eq_false_iff, Int.not_lt, Int.not_le] at hc4
      obtain rfl : np = k := by omega
      refine TW.exit ?_
      refine TQ.thenX ?_
      refine TQ.thenX ?_
      refine TQ.blkX ?_
      refine TQ.thenN (hY24 _ _ ?_)
      refine TW.seq fun Y30 hY30 => ?_
      refine TW.region ?_
      refine TL.p Pu.mv ?_
      refine TL.cr rfl (enters Tryz.func86 rfl rfl) (fun w hw => by
          have h0n : (0 : Nat) ∉ [bn] := by
            have := hLay.hG.1
            simp only [List.mem_singleton]
            omega
          exact everyPack_any (v := finF pk jt l v np nj days) (fs := []) (cs := []) (p := fun q => packOk (finF pk jt l v np nj days q)) (enters Tryz.func63 rfl rfl) (by omega) (hw.own Pick.hd).rdr fun k hk w' hb' => by simpa using valid_any (finF pk jt l v np nj days k) w' ((hG1.sat hw h0n).ext hb')) ?_
      refine TL.ct rfl (enters Tryz.func76 rfl rfl) (fun w hw => by
          exact need_any _ _ _ (by decide)) (fun hp5 => ?_) (fun hp5 => ?_)
      rotate_left
      · refine TQ.thenP ?_
        refine TQ.pan rfl ?_
        first
          | exact fun w hw => doing_bad hp1 (jc1 hp1) hw
          | exact fun w hw => doing_bad hp2 (jc2 hp1 hp2) hw
          | exact fun w hw => doing_bad hp3 (jc3 hp1 hp2 hp3) hw
          | exact fun w hw => doing_bad hp4 (jc4 hp1 hp2 hp3 hp4) hw
          | exact fun w hw => doing_bad hp5 (jc5 hp1 hp2 hp3 hp4 hp5) hw
          | exact fun w hw => doing_bad hp5 (jc5 hp1 hp2 hp3 hp4 hp5) (hw.sub (KSub.cons (by repeat (first | exact Pick.hd | apply Pick.tl)) KSub.nil))
          | exact fun w hw => doing_bad hp2 (jc2 hp1 hp2) (hw.sub (KSub.cons (by repeat (first | exact Pick.hd | apply Pick.tl)) KSub.nil))
          | exact fun w hw => doing_bad hp3 (jc3 hp1 hp2 hp3) (hw.sub (KSub.cons (by repeat (first | exact Pick.hd | apply Pick.tl)) KSub.nil))
          | exact fun w hw => doing_bad hp4 (jc4 hp1 hp2 hp3 hp4) (hw.sub (KSub.cons (by repeat (first | exact Pick.hd | apply Pick.tl)) KSub.nil))
      refine TL.nil ?_
      refine TQ.thenN (hY30 _ _ ?_)
      refine TW.region ?_
      refine TL.p Pu.mv ?_
      first | refine TL.st ty_sz22 ?_ | refine TL.se ty_sz22 ?_
      refine TL.nil ?_
      refine TQ.end Tryz.results81 rfl (.nil) ?_
      exact fun w hw => ⟨(Ac, cc), by
        show Sat _ _ (if jcode np pk m l v nj jt days = 0 then _ else _) _
        rw [if_pos (jc0 hp1 hp2 hp3 hp4 hp5)]
        exact hw.sub (KSub.cons (by repeat (first | exact Pick.hd | apply Pick.tl)) (KSub.cons (by repeat (first | exact Pick.hd | apply Pick.tl)) KSub.nil)), by rw [if_pos (jc0 hp1 hp2 hp3 hp4 hp5)]; rfl⟩
end Go.Proofs.YtjephihlkjpohaaGreatDoor
namespace Go.Proofs.YtjephihlkjpohaaGreatDoor
set_option linter.all false
set_option linter.unusedVariables false
set_option linter.unusedSimpArgs false
open Go.RowKit
def sumF (g : Nat → Int) : Nat → Int
  | 0 => 0
  | n + 1 => sumF g n + g n
theorem sumF_bd {g : Nat → Int} {B : Int} : ∀ {n : Nat}, (∀ k, k < n → 0 ≤ g k ∧ g k ≤ B) → 0 ≤ sumF g n ∧ sumF g n ≤ n * B
  | 0, _ => by simp [sumF]
  | n + 1, h => by
    have h1 := sumF_bd (n := n) fun k hk => h k (by omega)
    have h2 := h n (by omega)
    simp only [sumF]
    have e : ((n + 1 : Nat) : Int) * B = n * B + B := by rw [Int.natCast_add, Int.add_mul]; simp
    omega
theorem sumF_le {g : Nat → Int} {n : Nat} (h : ∀ k, k < n → 0 ≤ g k ∧ g k ≤ 1000000) (hn : n ≤ 1000) : ∀ q, q ≤ n → 0 ≤ sumF g q ∧ sumF g q ≤ 1000000000 := fun q hq => by
  have h1 := sumF_bd (g := g) (n := q) fun k hk => h k (by omega)
  have : (q : Int) * 1000000 ≤ 1000 * 1000000 := by omega
  omega
theorem KSub.app {K K' L : List Fact} {A : Option Addr} {k c sz : Nat} {E : TypeId} {g : Nat → List Value} {x : List Value} (hp : Pick K (.own A (k + 1) c E sz (catR k g (fun _ => x))) K') (hx : x = g k) (h : KSub K' L) : KSub K (.own A (k + 1) c E sz g :: L) :=
  KSub.own hp (fun i hi => by
    simp only [catR]
    by_cases h : i < k
    · rw [if_pos h]
    · obtain rfl : i = k := by omega
      rw [if_neg h, hx]) h
theorem sum_any {A : Option Addr} {n cp : Nat} {x y : Nat → Int} {w : World} (hn : n ≤ 1000) (hx : ∀ k, k < n → 0 ≤ x k ∧ x k ≤ 1000000) (hy : ∀ k, k < n → 0 ≤ y k ∧ y k ≤ 1000000) (hR : RdR w 2 A n (fun k => spL (x k) (y k))) :
    Calls Tryz.prog 113 #[.slice A n cp] w (Ret w (.agg #[.int .i64 (sumF x n), .int .i64 (sumF y n)])) := by
  have sx := sumF_le hx hn
  have sy := sumF_le hy hn
  refine K_enter (S := []) (K := []) Tryz.func113 rfl Tryz.ntmps113 rfl (Sat.start _) ?_
  refine TW.seq fun Y1 hY1 => ?_
  refine TW.region ?_
  refine TL.m (Mk.al ty_zr43) ?_
  intro b1
  refine TL.nil ?_
  refine TQ.thenN (hY1 _ _ ?_)
  refine TW.seq fun Y2 hY2 => ?_
  refine TW.seq fun Y3 hY3 => ?_
  refine TW.region ?_
  refine TL.p Pu.mv ?_
  refine TL.p (Pu.ln Tryz.underlying109) ?_
  refine TL.p Pu.mv ?_
  refine TL.nil ?_
  refine TQ.thenN (hY3 _ _ ?_)
  refine TW.block ?_
  refine TW.loop1 (fun (k : Nat) => [(7, .int .i64 (k : Int)), (6, .int .i64 (n : Int)), (5, .slice A n cp), (2, .pointer (some ⟨b1, 0, none⟩))]) (fun k => [.blk b1 43 (spL (sumF x k) (sumF y k))]) (fun k => k ≤ n) (fun k => n - k) 0 (by repeat (first | exact trivial | refine ⟨rfl, ?_⟩ | refine ⟨trivial, ?_⟩)) ?_ ?_ ?_
  · exact (by repeat (first | exact KSub.nil | refine KSub.cons (by repeat (first | exact Pick.hd | apply Pick.tl)) ?_))
  · exact Nat.zero_le _
  rintro k hk Z0 hZ0
  refine TW.seq fun Y4 hY4 => ?_
  refine TW.region ?_
  refine TL.p Pu.lt ?_
  refine TL.nil ?_
  refine TQ.thenN (hY4 _ _ ?_)
  refine TW.seq fun Y5 hY5 => ?_
  refine TW.cond rfl (fun hc0 => ?_) (fun hc0 => ?_)
  · try simp only [decide_eq_true_eq, decide_eq_false_iff_not, Bool.not_eq_true', Bool.not_eq_false', Bool.and_eq_true, Bool.or_eq_true, Bool.and_eq_false_iff, Bool.or_eq_false_iff, Int.not_lt, Int.not_le] at hc0
    have hkn : k < n := by omega
    have hxk := hx k hkn
    have hyk := hy k hkn
    have sxk := sx k hk
    have syk := sy k hk
    refine TW.skip ?_
    refine TQ.thenN (hY5 _ _ ?_)
    refine TW.seq fun Y6 hY6 => ?_
    refine TW.block ?_
    refine TW.seq fun Y7 hY7 => ?_
    refine TW.region ?_
    refine TL.p (Pu.el ty_et109) ?_
    refine TL.p (Pu.lds ty_ag43) ?_
    refine TL.m (Mk.al ty_zr43) ?_
    intro b2
    first | refine TL.st ty_sz43 ?_ | refine TL.se ty_sz43 ?_
    refine TL.nil ?_
    refine TQ.thenN (hY7 _ _ ?_)
    refine TW.ex0 (Drop.blk 2 rfl (by repeat (first | exact Pick.hd | apply Pick.tl)) Drop.done) ?_
    refine RG.tk 0 rfl (by first | exact Pu.fb ty_fa43_0 | exact Pu.fe ty_fa43_0) ?_
    refine RG.tk 2 rfl (by first | exact Pu.fb ty_fa43_0 | exact Pu.fe ty_fa43_0) ?_
    refine RG.tk 3 rfl (Pu.ld ty_sc3) ?_
    refine RG.tk 5 rfl (by first | exact Pu.fb ty_fa43_1 | exact Pu.fe ty_fa43_1) ?_
    refine RG.tk 7 rfl (by first | exact Pu.fb ty_fa43_1 | exact Pu.fe ty_fa43_1) ?_
    refine RG.tk 8 rfl (Pu.ld ty_sc3) ?_
    refine RG.a2 1 6 rfl rfl (fun X1 hX1 => ?_) (fun X6 hX6 => ?_)
    · refine TL.p (Pu.ld ty_sc3) ?_
      refine TL.nil ?_
      refine TQ.nxt (hX1 _ _ (by repeat (first | exact HasL.nil | refine HasL.cons (by repeat (first | exact Pick.hd | apply Pick.tl)) ?_)) ?_)
      refine RG.tk 4 rfl Pu.ad ?_
      refine RG.a1 6 rfl (fun X6 hX6 => ?_)
      refine TL.p (Pu.ld ty_sc3) ?_
      refine TL.nil ?_
      refine TQ.nxt (hX6 _ _ (by repeat (first | exact HasL.nil | refine HasL.cons (by repeat (first | exact Pick.hd | apply Pick.tl)) ?_)) ?_)
      refine RG.tk 9 rfl Pu.ad ?_
      refine RG.tk 10 rfl (by first | exact Pu.fb ty_fa43_0 | exact Pu.fe ty_fa43_0) ?_
      refine RG.a1 11 rfl (fun X11 hX11 => ?_)
      first | refine TL.st ty_sz3 ?_ | refine TL.se ty_sz3 ?_
      refine TL.nil ?_
      refine TQ.nxt (hX11 _ _ (by repeat (first | exact HasL.nil | refine HasL.cons (by repeat (first | exact Pick.hd | apply Pick.tl)) ?_)) ?_)
      refine RG.tk 12 rfl (by first | exact Pu.fb ty_fa43_1 | exact Pu.fe ty_fa43_1) ?_
      refine RG.a1 13 rfl (fun X13 hX13 => ?_)
      first | refine TL.st ty_sz3 ?_ | refine TL.se ty_sz3 ?_
      refine TL.nil ?_
      refine TQ.nxt (hX13 _ _ (by repeat (first | exact HasL.nil | refine HasL.cons (by repeat (first | exact Pick.hd | apply Pick.tl)) ?_)) ?_)
      refine RG.nil ?_ (by kernel_rfl)
      refine TQ.blkN ?_
      refine TQ.thenN (hY6 _ _ ?_)
      refine TW.region ?_
      refine TL.p Pu.ad ?_
      refine TL.p Pu.mv ?_
      refine TL.nil ?_
      refine TQ.thenN (hZ0 (k + 1) _ _ ?_ ?_ (by repeat (first | exact trivial | refine ⟨rfl, ?_⟩ | refine ⟨trivial, ?_⟩)) ?_)
      · exact (by omega)
      · exact (by first | omega | (simp only []; omega) | (simp; omega))
      · exact (by repeat (first | exact KSub.nil | refine KSub.cons (by repeat (first | exact Pick.hd | apply Pick.tl)) ?_))
    · refine TL.p (Pu.ld ty_sc3) ?_
      refine TL.nil ?_
      refine TQ.nxt (hX6 _ _ (by repeat (first | exact HasL.nil | refine HasL.cons (by repeat (first | exact Pick.hd | apply Pick.tl)) ?_)) ?_)
      refine RG.tk 9 rfl Pu.ad ?_
      refine RG.a1 1 rfl (fun X1 hX1 => ?_)
      refine TL.p (Pu.ld ty_sc3) ?_
      refine TL.nil ?_
      refine TQ.nxt (hX1 _ _ (by repeat (first | exact HasL.nil | refine HasL.cons (by repeat (first | exact Pick.hd | apply Pick.tl)) ?_)) ?_)
      refine RG.tk 4 rfl Pu.ad ?_
      refine RG.tk 10 rfl (by first | exact Pu.fb ty_fa43_0 | exact Pu.fe ty_fa43_0) ?_
      refine RG.a1 11 rfl (fun X11 hX11 => ?_)
      first | refine TL.st ty_sz3 ?_ | refine TL.se ty_sz3 ?_
      refine TL.nil ?_
      refine TQ.nxt (hX11 _ _ (by repeat (first | exact HasL.nil | refine HasL.cons (by repeat (first | exact Pick.hd | apply Pick.tl)) ?_)) ?_)
      refine RG.tk 12 rfl (by first | exact Pu.fb ty_fa43_1 | exact Pu.fe ty_fa43_1) ?_
      refine RG.a1 13 rfl (fun X13 hX13 => ?_)
      first | refine TL.st ty_sz3 ?_ | refine TL.se ty_sz3 ?_
      refine TL.nil ?_
      refine TQ.nxt (hX13 _ _ (by repeat (first | exact HasL.nil | refine HasL.cons (by repeat (first | exact Pick.hd | apply Pick.tl)) ?_)) ?_)
      refine RG.nil ?_ (by kernel_rfl)
      refine TQ.blkN ?_
      refine TQ.thenN (hY6 _ _ ?_)
      refine TW.region ?_
      refine TL.p Pu.ad ?_
      refine TL.p Pu.mv ?_
      refine TL.nil ?_
      refine TQ.thenN (hZ0 (k + 1) _ _ ?_ ?_ (by repeat (first | exact trivial | refine ⟨rfl, ?_⟩ | refine ⟨trivial, ?_⟩)) ?_)
      · exact (by omega)
      · exact (by first | omega | (simp only []; omega) | (simp; omega))
      · exact (by repeat (first | exact KSub.nil | refine KSub.cons (by repeat (first | exact Pick.hd | apply Pick.tl)) ?_))
  · try simp only [decide_eq_true_eq, decide_eq_false_iff_not, Bool.not_eq_true', Bool.not_eq_false', Bool.and_eq_true, Bool.or_eq_true, Bool.and_eq_false_iff, Bool.or_eq_false_iff, Int.not_lt, Int.not_le] at hc0
    obtain rfl : k = n := by omega
    refine TW.exit ?_
    refine TQ.thenX ?_
    refine TQ.thenX ?_
    refine TQ.blkX ?_
    refine TQ.thenN (hY2 _ _ ?_)
    refine TW.seq fun Y8 hY8 => ?_
    refine TW.region ?_
    refine TL.p (Pu.lds ty_ag43) ?_
    first | refine TL.st ty_sz43 ?_ | refine TL.se ty_sz43 ?_
    refine TL.nil ?_
    refine TQ.thenN (hY8 _ _ ?_)
    refine TW.ret ?_
    refine TQ.ret Tryz.results113 rfl ((RV.cs ty_ag43 .nil)) ?_
    exact fun w hw => Ret.of hw
theorem bounded_any (bound : Int) (w : World) : Calls Tryz.prog 48 #[.int .i64 bound] w (Try w errs (if inB5 0 1000000000 bound then 0 else 2) (.tuple #[])) := by
  refine K_enter (S := []) (K := []) Tryz.func48 rfl Tryz.ntmps48 rfl (Sat.start _) ?_
  refine TW.region ?_
  refine TL.p Pu.mv ?_
  refine TL.m Mk.bl ?_
  intro b1
  refine TL.cr rfl (enters Tryz.func78 rfl rfl) (fun w hw => by
      exact inOne_any _ _ _ (hw.holds _ (List.mem_cons_self ..))) ?_
  refine TL.ct rfl (enters Tryz.func76 rfl rfl) (fun w hw => by
      exact need_any _ _ _ (by decide)) (fun hp1 => ?_) (fun hp1 => ?_)
  rotate_left
  · refine TQ.pan rfl ?_
    exact fun w hw => Try.no hp1 hw
  refine TL.nil ?_
  refine TQ.end Tryz.results48 rfl (.nil) ?_
  exact fun w hw => Try.ok hp1 hw
end Go.Proofs.YtjephihlkjpohaaGreatDoor
namespace Go.Proofs.YtjephihlkjpohaaGreatDoor
set_option linter.all false
set_option linter.unusedVariables false
set_option linter.unusedSimpArgs false
open Go.RowKit
def rl (f : Nat → Int) : Int := (restV f).getD 0 0
def rh (f : Nat → Int) : Int := (restV f).getD 1 0
theorem rest_bd {f : Nat → Int} (h : packOk f = true) : 0 ≤ rl f ∧ rl f ≤ rh f ∧ rh f ≤ 1000000 := by
  obtain ⟨⟨h1, h2, h3, h4, h5, h6, h7⟩, hkind⟩ := (packOk_iff f).1 h
  have m1 : f 7 * f 10 ≤ f 8 * f 10 ∨ f 8 < f 7 := by
    by_cases hh : f 7 ≤ f 8
    · exact .inl (Int.mul_le_mul_of_nonneg_right hh h6)
    · exact .inr (by omega)
  unfold rl rh restV
  split
  · simp only [List.getD_cons_zero, List.getD_cons_succ]
    have : 0 ≤ f 7 * f 10 := Int.mul_nonneg (by omega) h6
    omega
  · split
    · simp only [List.getD_cons_zero, List.getD_cons_succ]; omega
    · have hk : f 0 = 1 := by omega
      have h8 : 0 ≤ f 5 ∧ f 5 ≤ f 6 ∧ f 6 ≤ 1000 := by omega
      have m3 : 0 ≤ f 1 * (1000 - f 6) ∧ f 1 * (1000 - f 6) ≤ f 1 * 1000 := ⟨Int.mul_nonneg h1 (by omega), Int.mul_le_mul_of_nonneg_left (by omega) h1⟩
      have m4 : f 1 * (1000 - f 6) ≤ f 2 * (1000 - f 5) := Int.mul_le_mul h2 (by omega) (by omega) (by omega)
      have m5 : f 2 * (1000 - f 5) ≤ f 2 * 1000 := Int.mul_le_mul_of_nonneg_left (by omega) (by omega)
      split <;> simp only [List.getD_cons_zero, List.getD_cons_succ] <;> omega
theorem restK_ok {f : Nat → Int} (h : packOk f = true) : restK f = [.agg #[.int .i64 (rl f), .int .i64 (rh f)], .agg #[.int .i64 ((restV f).getD 2 0), .int .i64 ((restV f).getD 3 0)], .int .u8 ((restV f).getD 4 0), .int .i64 0] := by
  unfold restK
  rw [if_pos h]
  rfl
theorem rests_any {A : Option Addr} {np cp : Nat} {pk : Nat → Nat → Int} {w : World} (hG : None0 w) (hn : np ≤ 1000000000) (hP : ∀ q, q < np → packOk (pk q) = true) (hR : RdR w 11 A np (fun k => packL (pk k))) :
    CallsK Tryz.prog 51 #[.slice A np cp] [] w (Option Addr × Nat) (fun x => .slice x.1 np x.2) (fun x => [.own x.1 np x.2 43 2 (fun q => spL (rl (pk q)) (rh (pk q)))]) := by
  refine K_enter (S := []) (K := []) Tryz.func51 rfl Tryz.ntmps51 rfl (Sat.start _) ?_
  refine TW.seq fun Y1 hY1 => ?_
  refine TW.region ?_
  refine TL.p Pu.as ?_
  refine TL.nil ?_
  refine TQ.thenN (hY1 _ _ ?_)
  refine TW.seq fun Y2 hY2 => ?_
  refine TW.region ?_
  refine TL.p Pu.as ?_
  refine TL.nil ?_
  refine TQ.thenN (hY2 _ _ ?_)
  refine TW.seq fun Y3 hY3 => ?_
  refine TW.seq fun Y4 hY4 => ?_
  refine TW.region ?_
  refine TL.p Pu.mv ?_
  refine TL.p (Pu.ln Tryz.underlying22) ?_
  refine TL.p Pu.mv ?_
  refine TL.nil ?_
  refine TQ.thenN (hY4 _ _ ?_)
  refine TW.block ?_
  refine TW.loop3 (fun (k : Nat) (Ao : Option Addr) (co : Nat) => [(12, .int .i64 (k : Int)), (11, .int .i64 (np : Int)), (10, .slice A np cp), (3, .slice Ao k co)]) (fun k Ao co => [.own Ao k co 43 2 (fun q => spL (rl (pk q)) (rh (pk q)))]) (fun k Ao co => k ≤ np) (fun k Ao co => np - k) 0 none 0 (by repeat (first | exact trivial | refine ⟨rfl, ?_⟩ | refine ⟨trivial, ?_⟩)) ?_ ?_ ?_
  · exact KSub.nilOwn KSub.nil
  · exact Nat.zero_le _
  rintro k Ao co hk Z0 hZ0
  refine TW.seq fun Y5 hY5 => ?_
  refine TW.region ?_
  refine TL.p Pu.lt ?_
  refine TL.nil ?_
  refine TQ.thenN (hY5 _ _ ?_)
  refine TW.seq fun Y6 hY6 => ?_
  refine TW.cond rfl (fun hc0 => ?_) (fun hc0 => ?_)
  · try simp only [decide_eq_true_eq, decide_eq_false_iff_not, Bool.not_eq_true', Bool.not_eq_false', Bool.and_eq_true, Bool.or_eq_true, Bool.and_eq_false_iff, Bool.or_eq_false_iff, Int.not_lt, Int.not_le] at hc0
    have hkn : k < np := by omega
    refine TW.skip ?_
    refine TQ.thenN (hY6 _ _ ?_)
    refine TW.seq fun Y7 hY7 => ?_
    refine TW.block ?_
    refine TW.seq fun Y8 hY8 => ?_
    refine TW.region ?_
    refine TL.p (Pu.el ty_et22) ?_
    refine TL.p (Pu.lds ty_ag45) ?_
    refine TL.m (Mk.al ty_zr45) ?_
    intro b1
    first | refine TL.st ty_sz45 ?_ | refine TL.se ty_sz45 ?_
    refine TL.nil ?_
    refine TQ.thenN (hY8 _ _ ?_)
    refine TW.seq fun Y9 hY9 => ?_
    refine TW.region ?_
    refine TL.p (Pu.lds ty_ag45) ?_
    refine TL.cr rfl (enters Tryz.func23 rfl rfl) (fun w hw => by
        have h9 := rest_any (pk k) w (hG.sat hw (by simp))
        rw [restK_ok (hP k hkn)] at h9
        exact h9) ?_
    refine TL.p Pu.mv ?_
    refine TL.p Pu.ex ?_
    refine TL.p Pu.ex ?_
    refine TL.p Pu.ex ?_
    refine TL.p Pu.ex ?_
    refine TL.m (Mk.al ty_zr43) ?_
    intro b2
    refine TL.m (Mk.al ty_zr43) ?_
    intro b3
    first | refine TL.st ty_sz43 ?_ | refine TL.se ty_sz43 ?_
    first | refine TL.st ty_sz43 ?_ | refine TL.se ty_sz43 ?_
    refine TL.p Pu.as ?_
    refine TL.p Pu.as ?_
    refine TL.nil ?_
    refine TQ.thenN (hY9 _ _ ?_)
    refine TW.region ?_
    refine TL.p Pu.mv ?_
    refine TL.p (Pu.lds ty_ag43) ?_
    refine TL.m Mk.bl ?_
    intro b4
    first | refine TL.a0 ty_et109 ?_ | refine TL.ap ty_et109 ?_
    intro A5 c5
    refine TL.p Pu.as ?_
    refine TL.nil ?_
    refine TQ.blkN ?_
    refine TQ.thenN (hY7 _ _ ?_)
    refine TW.region ?_
    refine TL.p Pu.ad ?_
    refine TL.p Pu.mv ?_
    refine TL.nil ?_
    refine TQ.thenN (hZ0 (k + 1) _ _ _ _ ?_ ?_ (by repeat (first | exact trivial | refine ⟨rfl, ?_⟩ | refine ⟨trivial, ?_⟩)) ?_)
    · exact (by omega)
    · exact (by first | omega | (simp only []; omega) | (simp; omega))
    · exact KSub.app (by repeat (first | exact Pick.hd | apply Pick.tl)) rfl KSub.nil
  · try simp only [decide_eq_true_eq, decide_eq_false_iff_not, Bool.not_eq_true', Bool.not_eq_false', Bool.and_eq_true, Bool.or_eq_true, Bool.and_eq_false_iff, Bool.or_eq_false_iff, Int.not_lt, Int.not_le] at hc0
    obtain rfl : k = np := by omega
    refine TW.exit ?_
    refine TQ.thenX ?_
    refine TQ.thenX ?_
    refine TQ.blkX ?_
    refine TQ.thenN (hY3 _ _ ?_)
    refine TW.seq fun Y10 hY10 => ?_
    refine TW.region ?_
    refine TL.p Pu.mv ?_
    refine TL.p Pu.as ?_
    refine TL.nil ?_
    refine TQ.thenN (hY10 _ _ ?_)
    refine TW.ret ?_
    refine TQ.ret Tryz.results51 rfl ((.tmp rfl .nil)) ?_
    exact fun w hw => ⟨(Ao, co), rfl, hw⟩
def wS (r : Nat → Int) (v : Nat → Int) (n : Nat) : Int := sumF (fun k => r (v k).toNat) n
def Inx (v : Nat → Int) (n nr : Nat) : Prop := ∀ k, k < n → 0 ≤ v k ∧ v k < nr
def tiedL (a : Nat → Option Addr) (l c : Nat → Nat) (Ar : Option Addr) (nr cr : Nat) : List Value := [.slice (a 0) (l 0) (c 0), .slice (a 1) (l 1) (c 1), .slice (a 2) (l 2) (c 2), .slice Ar nr cr]
structure RestOk (r0 r1 : Nat → Int) (nr : Nat) : Prop where
  lo : ∀ q, q < nr → 0 ≤ r0 q
  le : ∀ q, q < nr → r0 q ≤ r1 q
  hi : ∀ q, q < nr → r1 q ≤ 1000000
theorem RestOk.bd0 {r0 r1 : Nat → Int} {nr n : Nat} {v : Nat → Int} (h : RestOk r0 r1 nr) (hv : Inx v n nr) : ∀ k, k < n → 0 ≤ r0 (v k).toNat ∧ r0 (v k).toNat ≤ 1000000 := fun k hk => by
  have := hv k hk
  have a := h.lo (v k).toNat (by omega); have b := h.le (v k).toNat (by omega); have c := h.hi (v k).toNat (by omega)
  omega
theorem RestOk.bd1 {r0 r1 : Nat → Int} {nr n : Nat} {v : Nat → Int} (h : RestOk r0 r1 nr) (hv : Inx v n nr) : ∀ k, k < n → 0 ≤ r1 (v k).toNat ∧ r1 (v k).toNat ≤ 1000000 := fun k hk => by
  have := hv k hk
  have a := h.lo (v k).toNat (by omega); have b := h.le (v k).toNat (by omega); have c := h.hi (v k).toNat (by omega)
  omega
theorem sumF_mono {g h : Nat → Int} : ∀ {n : Nat}, (∀ k, k < n → g k ≤ h k) → sumF g n ≤ sumF h n
  | 0, _ => by simp [sumF]
  | n + 1, e => by
    have h1 := sumF_mono (n := n) fun k hk => e k (by omega)
    have h2 := e n (by omega)
    simp only [sumF]; omega
theorem RestOk.wS {r0 r1 : Nat → Int} {nr n : Nat} {v : Nat → Int} (h : RestOk r0 r1 nr) (hv : Inx v n nr) (hn : n ≤ 1000) : 0 ≤ wS r0 v n ∧ wS r0 v n ≤ wS r1 v n ∧ wS r1 v n ≤ 1000000000 := by
  have h0 := sumF_le (h.bd0 hv) hn n (Nat.le_refl _)
  have h1 := sumF_le (h.bd1 hv) hn n (Nat.le_refl _)
  have h2 := sumF_mono (n := n) (g := fun k => r0 (v k).toNat) (h := fun k => r1 (v k).toNat) fun k hk => by
    have := hv k hk
    exact h.le _ (by omega)
  exact ⟨h0.1, h2, h1.2⟩
theorem weight_any {a : Nat → Option Addr} {l c : Nat → Nat} {Ar A : Option Addr} {nr cr n cp : Nat} {r0 r1 v : Nat → Int} {w : World} (hr : RestOk r0 r1 nr) (hn : n ≤ 1000) (hv : Inx v n nr)
    (hR : RdR w 2 Ar nr (fun q => spL (r0 q) (r1 q))) (hI : RdR w 1 A n (fun k => [.int .i64 (v k)])) :
    Calls Tryz.prog 71 #[.agg (tiedL a l c Ar nr cr).toArray, .slice A n cp] w (Ret w (.agg #[.int .i64 (wS r0 v n), .int .i64 (wS r1 v n)])) := by
  refine K_enter (S := []) (K := []) Tryz.func71 rfl Tryz.ntmps71 rfl (Sat.start _) ?_
  refine TW.seq fun Y1 hY1 => ?_
  refine TW.region ?_
  refine TL.m Mk.bx ?_
  intro b1
  refine TL.m (Mk.al ty_zr43) ?_
  intro b2
  refine TL.nil ?_
  refine TQ.thenN (hY1 _ _ ?_)
  refine TW.seq fun Y2 hY2 => ?_
  refine TW.region ?_
  refine TL.p Pu.as ?_
  refine TL.nil ?_
  refine TQ.thenN (hY2 _ _ ?_)
  refine TW.seq fun Y3 hY3 => ?_
  refine TW.seq fun Y4 hY4 => ?_
  refine TW.region ?_
  refine TL.p Pu.mv ?_
  refine TL.p (Pu.ln Tryz.underlying24) ?_
  refine TL.p Pu.mv ?_
  refine TL.nil ?_
  refine TQ.thenN (hY4 _ _ ?_)
  refine TW.block ?_
  refine TW.loop3 (fun (k : Nat) (Ao : Option Addr) (co : Nat) => [(10, .int .i64 (k : Int)), (9, .int .i64 (n : Int)), (8, .slice A n cp), (5, .slice Ao k co), (2, .pointer (some ⟨b1, 0, none⟩)), (4, .pointer (some ⟨b2, 0, none⟩))]) (fun k Ao co => [.own Ao k co 43 2 (fun q => spL (r0 (v q).toNat) (r1 (v q).toNat)), .blk b1 112 (tiedL a l c Ar nr cr), .blk b2 43 (spL 0 0)]) (fun k Ao co => k ≤ n) (fun k Ao co => n - k) 0 none 0 (by repeat (first | exact trivial | refine ⟨rfl, ?_⟩ | refine ⟨trivial, ?_⟩)) ?_ ?_ ?_
  · exact KSub.nilOwn (KSub.cons (Pick.tl Pick.hd) (KSub.cons Pick.hd KSub.nil))
  · exact Nat.zero_le _
  rintro k Ao co hk Z0 hZ0
  refine TW.seq fun Y5 hY5 => ?_
  refine TW.region ?_
  refine TL.p Pu.lt ?_
  refine TL.nil ?_
  refine TQ.thenN (hY5 _ _ ?_)
  refine TW.seq fun Y6 hY6 => ?_
  refine TW.cond rfl (fun hc0 => ?_) (fun hc0 => ?_)
  · try simp only [decide_eq_true_eq, decide_eq_false_iff_not, Bool.not_eq_true', Bool.not_eq_false', Bool.and_eq_true, Bool.or_eq_true, Bool.and_eq_false_iff, Bool.or_eq_false_iff, Int.not_lt, Int.not_le] at hc0
    have hkn : k < n := by omega
    have hvk := hv k hkn
    refine TW.skip ?_
    refine TQ.thenN (hY6 _ _ ?_)
    refine TW.seq fun Y7 hY7 => ?_
    refine TW.block ?_
    refine TW.seq fun Y8 hY8 => ?_
    refine TW.region ?_
    refine TL.p (Pu.el ty_et24) ?_
    refine TL.p (Pu.ld ty_sc3) ?_
    refine TL.p Pu.as ?_
    refine TL.nil ?_
    refine TQ.thenN (hY8 _ _ ?_)
    refine TW.region ?_
    refine TL.p Pu.mv ?_
    refine TL.p (by first | exact Pu.fb ty_fa112_1 | exact Pu.fe ty_fa112_1) ?_
    refine TL.p (Pu.ld ty_sc109) ?_
    refine TL.p Pu.mv ?_
    refine TL.p (Pu.el (q := (v k).toNat) ty_et109 (hk := rfl)) ?_
    refine TL.p (Pu.lds ty_ag43) ?_
    refine TL.m Mk.bl ?_
    intro b3
    first | refine TL.a0 ty_et109 ?_ | refine TL.ap ty_et109 ?_
    intro A4 c4
    refine TL.p Pu.as ?_
    refine TL.nil ?_
    refine TQ.blkN ?_
    refine TQ.thenN (hY7 _ _ ?_)
    refine TW.region ?_
    refine TL.p Pu.ad ?_
    refine TL.p Pu.mv ?_
    refine TL.nil ?_
    refine TQ.thenN (hZ0 (k + 1) _ _ _ _ ?_ ?_ (by repeat (first | exact trivial | refine ⟨rfl, ?_⟩ | refine ⟨trivial, ?_⟩)) ?_)
    · exact (by omega)
    · exact (by first | omega | (simp only []; omega) | (simp; omega))
    · exact KSub.app (by repeat (first | exact Pick.hd | apply Pick.tl)) rfl (by repeat (first | exact KSub.nil | refine KSub.cons (by repeat (first | exact Pick.hd | apply Pick.tl)) ?_))
  · try simp only [decide_eq_true_eq, decide_eq_false_iff_not, Bool.not_eq_true', Bool.not_eq_false', Bool.and_eq_true, Bool.or_eq_true, Bool.and_eq_false_iff, Bool.or_eq_false_iff, Int.not_lt, Int.not_le] at hc0
    obtain rfl : k = n := by omega
    refine TW.exit ?_
    refine TQ.thenX ?_
    refine TQ.thenX ?_
    refine TQ.blkX ?_
    refine TQ.thenN (hY3 _ _ ?_)
    refine TW.seq fun Y9 hY9 => ?_
    refine TW.region ?_
    refine TL.p Pu.mv ?_
    refine TL.cr rfl (enters Tryz.func113 rfl rfl) (fun w hw => by
        exact sum_any hn (hr.bd0 hv) (hr.bd1 hv) (OwnR.rdr (hw.holds (.own Ao k co 43 2 (fun q => spL (r0 (v q).toNat) (r1 (v q).toNat))) (by simp)))) ?_
    first | refine TL.st ty_sz43 ?_ | refine TL.se ty_sz43 ?_
    refine TL.nil ?_
    refine TQ.thenN (hY9 _ _ ?_)
    refine TW.ret ?_
    refine TQ.ret Tryz.results71 rfl ((RV.cs ty_ag43 .nil)) ?_
    exact fun w hw => Ret.of hw
end Go.Proofs.YtjephihlkjpohaaGreatDoor
