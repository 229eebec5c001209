/-
  Part 6 of the proof of loadTraded_holds: declarations of several texts, in build order. No condition on a program.
-/
import Derived.Test.YtljhdcclajikiaaGreatDoorTrac05
import Derived.Test.YtljhdcclajikiaaGreatDoorTrac03
import Derived.Lib.SliceRun
import Derived.Ground.SlgmProg
import Derived.Shelf.SortM.Plain
import Derived.Shelf.SortM.SortNone
import Derived.Test.YtljhdcclajikiaaGreatDoorProg
namespace Go.Proofs.YtljhdcclajikiaaGreatDoor
set_option linter.all false
set_option linter.unusedVariables false
set_option linter.unusedSimpArgs false
open Go.RowKit
def iL (L : List Int) : Nat → List Value := fun k => [.int .i64 (L.getD k 0)]
theorem iL_lt {L : List Int} {k : Nat} (h : k < L.length) : L[k]? = some (L.getD k 0) := by
  rw [List.getD_eq_getElem?_getD, List.getElem?_eq_getElem h]
  rfl
theorem getD_app {L M : List Int} {k : Nat} : (L ++ M).getD k 0 = if k < L.length then L.getD k 0 else M.getD (k - L.length) 0 := by
  simp only [List.getD_eq_getElem?_getD]
  by_cases h : k < L.length
  · rw [if_pos h, List.getElem?_append_left h]
  · rw [if_neg h, List.getElem?_append_right (by omega)]
theorem iL_app {L L' : List Int} {m : Nat} {x : Int} {s : Nat → List Value} (hm : m = L.length) (hL : L' = L ++ [x]) (hs : s 0 = [.int .i64 x]) : ∀ i, i < m + 1 → catR m (iL L) s i = iL L' i := fun i hi => by
  subst hL
  simp only [catR, iL]
  rw [getD_app]
  by_cases h : i < m
  · rw [if_pos h, if_pos (by omega)]
  · obtain rfl : i = m := by omega
    rw [if_neg h, Nat.sub_self, hs, if_neg (by omega), hm, Nat.sub_self]
    rfl
theorem iL_cat {L M : List Int} {n : Nat} (hn : n = L.length) : ∀ i, catR n (iL L) (iL M) i = iL (L ++ M) i := fun i => by
  subst hn
  simp only [catR, iL]
  rw [getD_app]
  split <;> rfl
def toI (v : Nat → Int) (n : Nat) : List Int := (List.range n).map v
theorem toI_len {v : Nat → Int} {n : Nat} : (toI v n).length = n := by simp [toI]
theorem toI_get {v : Nat → Int} {n k : Nat} (h : k < n) : (toI v n).getD k 0 = v k := by
  simp [toI, List.getD_eq_getElem?_getD, h]
theorem toI_getD (L : List Int) : toI (fun k => L.getD k 0) L.length = L := by
  apply List.ext_getElem
  · simp [toI]
  · intro i h1 h2
    simp [toI, List.getD_eq_getElem?_getD, h2]
theorem toI_succ {v : Nat → Int} {n : Nat} : toI v (n + 1) = toI v n ++ [v n] := by simp [toI, List.range_succ]
theorem RdR.toI {w : World} {A : Option Addr} {n : Nat} {v : Nat → Int} (h : RdR w 1 A n (fun k => [.int .i64 (v k)])) : RdR w 1 A (toI v n).length (iL (toI v n)) := by
  rw [toI_len]
  exact ⟨h.rd.congr fun i j hi hj => by simp only [rowF, iL, toI_get hi], fun i hi => rfl⟩
theorem mem_getD {L : List Int} {k : Nat} (h : k < L.length) : L.getD k 0 ∈ L := by
  have := iL_lt h
  exact List.mem_of_getElem? this
theorem take_succ {L : List Int} {k : Nat} (h : k < L.length) : L.take (k + 1) = L.take k ++ [L.getD k 0] := by
  rw [List.take_succ, iL_lt h]
  rfl
def ins (x : Int) : List Int → List Int
  | [] => [x]
  | y :: ys => if x ≤ y then x :: y :: ys else y :: ins x ys
def srt : List Int → List Int
  | [] => []
  | x :: xs => ins x (srt xs)
theorem ins_perm (x : Int) : ∀ L : List Int, (ins x L).Perm (x :: L)
  | [] => List.Perm.refl _
  | y :: ys => by
    simp only [ins]
    split
    · exact List.Perm.refl _
    · exact ((ins_perm x ys).cons y).trans (List.Perm.swap _ _ _)
theorem srt_perm : ∀ L : List Int, (srt L).Perm L
  | [] => List.Perm.refl _
  | x :: xs => (ins_perm x (srt xs)).trans ((srt_perm xs).cons x)
theorem srt_len (L : List Int) : (srt L).length = L.length := (srt_perm L).length_eq
theorem ins_mono (x : Int) : ∀ L : List Int, L.Pairwise (· ≤ ·) → (ins x L).Pairwise (· ≤ ·)
  | [], _ => by simp [ins]
  | y :: ys, h => by
    have h1 := List.pairwise_cons.1 h
    simp only [ins]
    split
    · rename_i hxy
      refine List.pairwise_cons.2 ⟨fun z hz => ?_, h⟩
      rcases List.mem_cons.1 hz with rfl | hz
      · exact hxy
      · exact Int.le_trans hxy (h1.1 z hz)
    · refine List.pairwise_cons.2 ⟨fun z hz => ?_, ins_mono x ys h1.2⟩
      rcases List.mem_cons.1 ((ins_perm x ys).mem_iff.1 hz) with rfl | hz
      · omega
      · exact h1.1 z hz
theorem srt_mono : ∀ L : List Int, (srt L).Pairwise (· ≤ ·)
  | [] => List.Pairwise.nil
  | x :: xs => ins_mono x _ (srt_mono xs)
theorem ms_mono (L : List Int) : (L.mergeSort fun x y => decide (x ≤ y)).Pairwise (· ≤ ·) :=
  (List.pairwise_mergeSort (le := fun x y : Int => decide (x ≤ y)) (fun a b c h1 h2 => by simp only [decide_eq_true_eq] at *; omega) (fun a b => by simp only [Bool.or_eq_true, decide_eq_true_eq]; omega) L).imp (by intro a b h; simpa using h)
theorem ms_srt (L : List Int) : (L.mergeSort fun x y => decide (x ≤ y)) = srt L :=
  List.Perm.eq_of_pairwise (le := (· ≤ ·)) (fun a b _ _ h1 h2 => Int.le_antisymm h1 h2) (ms_mono L) (srt_mono L) ((List.mergeSort_perm L _).trans (srt_perm L).symm)
theorem srt_uniq {L M : List Int} (h : L.Perm M) (hM : M.Pairwise (· ≤ ·)) : srt L = M :=
  List.Perm.eq_of_pairwise (le := (· ≤ ·)) (fun a b _ _ h1 h2 => Int.le_antisymm h1 h2) (srt_mono L) hM ((srt_perm L).trans h)
theorem srt_nil : srt [] = [] := rfl
theorem mem_srt {L : List Int} {x : Int} : x ∈ srt L ↔ x ∈ L := (srt_perm L).mem_iff
def sel (L : List Int) (b : Nat) : Nat → List Int
  | 0 => []
  | i + 1 => if b / 2 ^ i % 2 = 1 then sel L b i ++ [L.getD i 0] else sel L b i
theorem sel_len {L : List Int} {b : Nat} : ∀ i, (sel L b i).length ≤ i
  | 0 => Nat.le_refl _
  | i + 1 => by
    have := sel_len (L := L) (b := b) i
    simp only [sel]
    split
    · simp; omega
    · omega
theorem sel_mem {L : List Int} {b : Nat} {x : Int} : ∀ {i}, i ≤ L.length → x ∈ sel L b i → x ∈ L
  | 0, _, h => by cases h
  | i + 1, hi, h => by
    simp only [sel] at h
    split at h
    · rcases List.mem_append.1 h with h | h
      · exact sel_mem (by omega) h
      · obtain rfl := List.mem_singleton.1 h
        exact mem_getD (by omega)
    · exact sel_mem (by omega) h
def mvd (S C M : List Int) : List Int := srt (S.filter (fun x => !M.contains x) ++ C.filter (fun x => M.contains x))
def cmpV (a b : Int) : Int := if a < b then -1 else if b < a then 1 else 0
def cmpI : List Int → List Int → Int
  | [], [] => 0
  | [], _ :: _ => -1
  | _ :: _, [] => 1
  | x :: xs, y :: ys => if cmpV x y = 0 then cmpI xs ys else cmpV x y
def setStep (ok : List Int → Bool) (s : List Int × Nat) (l : List Int) : List Int × Nat :=
  if (l.length < s.2 ∨ l.length = s.2 ∧ cmpI l s.1 < 0) ∧ ok l = true then (l, l.length) else s
def setRun (L : List Int) (ok : List Int → Bool) : Nat → List Int × Nat
  | 0 => ([], L.length + 1)
  | q + 1 => setStep ok (setRun L ok q) (sel L q L.length)
theorem setRun_le {L : List Int} {ok : List Int → Bool} : ∀ q, (setRun L ok q).2 ≤ L.length + 1 ∧ (setRun L ok q).1.length ≤ L.length
  | 0 => by simp [setRun]
  | q + 1 => by
    have h := setRun_le (L := L) (ok := ok) q
    have h2 := sel_len (L := L) (b := q) L.length
    simp only [setRun, setStep]
    split
    · simp; omega
    · exact h
end Go.Proofs.YtljhdcclajikiaaGreatDoor
namespace Go.Proofs.YtljhdcclajikiaaGreatDoor
set_option linter.all false
set_option linter.unusedVariables false
set_option linter.unusedSimpArgs false
open Go.RowKit
def catI (l : Nat → Nat) (v : Nat → Nat → Int) (k : Nat) : Int := if k < l 0 + l 1 then (if k < l 0 then v 0 k else v 1 (k - l 0)) else v 2 (k - (l 0 + l 1))
theorem catN_catI (l : Nat → Nat) (v : Nat → Nat → Int) : catN l (fun i k => [.int .i64 (v i k)]) 3 = fun k => [.int .i64 (catI l v k)] := by
  rw [cat3]
  funext k
  simp only [catR, catI]
  split
  · split <;> rfl
  · rfl
structure Lay1 (w : World) (A : Option Addr) (np : Nat) (pk : Nat → Nat → Int) (a : Nat → Option Addr) (l : Nat → Nat) (v : Nat → Nat → Int) : Prop where
  hG : None0 w
  hnp : np ≤ 1000000000
  hR : RdR w 11 A np (fun k => packL (pk k))
  hI : ∀ j, j < 3 → RdR w 1 (a j) (l j) (fun k => [.int .i64 (v j k)])
  hL : tot l 3 ≤ 1000
def check1 (np : Nat) (pk : Nat → Nat → Int) (l : Nat → Nat) (v : Nat → Nat → Int) : Int := checkV np pk 1 (fun _ => l) (fun _ => v)
section
variable {w w' : World} {A : Option Addr} {np : Nat} {pk : Nat → Nat → Int} {a : Nat → Option Addr} {l c : Nat → Nat} {v : Nat → Nat → Int}
theorem Lay1.sat {K : List Fact} (h : Lay1 w A np pk a l v) (hs : Sat [] w K w') : Lay1 w' A np pk a l v :=
  ⟨h.hG.sat hs (by simp), h.hnp, h.hR.sat hs Apart.nil, fun j hj => (h.hI j hj).sat hs Apart.nil, h.hL⟩
theorem Lay1.ext (h : Lay1 w A np pk a l v) (hb : Below w.heap.size w w') : Lay1 w' A np pk a l v := h.sat (Sat.nil (Chg.of_ext hb))
theorem Lay1.lay {b : Nat} {E : TypeId} (h : Lay1 w A np pk a l v) (hB : Blk w b E (tieL a l c).toArray) : Lay w A (some ⟨b, 0, none⟩) np 1 pk (fun _ => a) (fun _ => l) (fun _ => c) (fun _ => v) :=
  ⟨h.hG, h.hnp, by decide, h.hR, RdR.blk (n := 1) (cs := tieL a l c) hB rfl (fun i _ => rfl), fun i _ j hj => h.hI j hj, fun i _ => h.hL⟩
theorem rise_inx {u : Nat → Int} {n N : Nat} (h : allB n (riseP u N) = true) : Inx u n N := fun k hk => by
  have h1 := rise_lo (v := u) (N := N) (by omega) k fun j hj => allB_iff.1 h j (by omega)
  have h2 := allB_iff.1 h k hk
  simp only [riseP, inB5, Bool.and_eq_true, decide_eq_true_eq] at h2
  omega
theorem check1_ok (h : check1 np pk l v = 0) : np ≤ 30 ∧ (∀ q, q < np → packOk (pk q) = true) ∧ (∀ j, j < 3 → Inx (v j) (l j) np) ∧ tot l 3 ≤ 10 := by
  obtain ⟨h1, h2, h3⟩ := check_ok h
  obtain ⟨h4, h5⟩ := h3 0 (by omega)
  exact ⟨h1, h2, fun j hj => rise_inx (h4 j hj), h5⟩
theorem inx_cat (h : ∀ j, j < 3 → Inx (v j) (l j) np) : Inx (catI l v) (tot l 3) np := fun k hk => by
  rw [tot3] at hk
  unfold catI
  split
  · split
    · exact h 0 (by omega) k (by omega)
    · exact h 1 (by omega) _ (by omega)
  · exact h 2 (by omega) _ (by omega)
end
def wlo (pk : Nat → Nat → Int) (v : Nat → Int) (n : Nat) : Int := wS (fun q => rl (pk q)) v n
def whi (pk : Nat → Nat → Int) (v : Nat → Int) (n : Nat) : Int := wS (fun q => rh (pk q)) v n
theorem apart_of {S : List Nat} {b : Nat} (h : b ∉ S) : Apart S (some ⟨b, 0, none⟩) := fun q hq => by cases hq; exact h
theorem Doing.no {M K : List Fact} {X : Type} {L : X → List Fact} {code code' : Int} {w w' : World} (x : X) (hc : code' ≠ 0) (e : code = code') (hL : code ≠ 0 → L x = M) (hs : Sat (feet M) w K w') (hK : KSub K M) :
    ∃ x : X, Sat (feet M) w (L x) w' ∧ Ending.panicked (errs code') = if code = 0 then .returned (.tuple #[]) else .panicked (errs code) := by
  subst e
  exact ⟨x, by rw [hL hc]; exact hs.sub hK, by rw [if_neg hc]⟩
theorem Doing.yes {M K N : List Fact} {X : Type} {L : X → List Fact} {code : Int} {w w' : World} (x : X) (hc : code = 0) (hL : code = 0 → L x = N) (hs : Sat (feet M) w K w') (hK : KSub K N) :
    ∃ x : X, Sat (feet M) w (L x) w' ∧ Ending.returned (.tuple #[]) = if code = 0 then .returned (.tuple #[]) else .panicked (errs code) :=
  ⟨x, by rw [hL hc]; exact hs.sub hK, by rw [if_pos hc]⟩
theorem feet_new {w0 w : World} {K M : List Fact} {R : List Fact} (hs : Sat [] w0 K w) (hp : K.Perm (M ++ R)) : Sat (feet M) w M w ∧ ∀ b ∈ feet M, w0.heap.size ≤ b := by
  have h1 := hs.perm hp
  refine ⟨(Has.sat ⟨R, List.Perm.refl _⟩ h1).self, fun b hb => (h1.ge b (by rw [feet_append]; simp [hb])).resolve_left (by simp)⟩
end Go.Proofs.YtljhdcclajikiaaGreatDoor
namespace Go.Proofs.YtljhdcclajikiaaGreatDoor
set_option linter.all false
set_option linter.unusedVariables false
set_option linter.unusedSimpArgs false
open Go.RowKit
def sameI (n1 : Nat) (v1 : Nat → Int) (n2 : Nat) (v2 : Nat → Int) : Bool := decide (n1 = n2) && allB n1 (fun k => decide (v1 k = v2 k))
theorem sameInts_any {A B : Option Addr} {n1 n2 c1 c2 : Nat} {v1 v2 : Nat → Int} {w : World} (hn : n1 ≤ 1000000000) (hA : RdR w 1 A n1 (fun k => [.int .i64 (v1 k)])) (hB : RdR w 1 B n2 (fun k => [.int .i64 (v2 k)])) :
    Calls Tryz.prog 23 #[.slice A n1 c1, .slice B n2 c2] w (Ret w (.bool (sameI n1 v1 n2 v2))) := by
  refine K_enter (S := []) (K := []) Tryz.func23 rfl Tryz.ntmps23 rfl (Sat.start _) ?_
  refine TW.seq fun Y1 hY1 => ?_
  refine TW.region ?_
  refine TL.p Pu.as ?_
  refine TL.nil ?_
  refine TQ.thenN (hY1 _ _ ?_)
  refine TW.seq fun Y2 hY2 => ?_
  refine TW.seq fun Y3 hY3 => ?_
  refine TW.region ?_
  refine TL.p Pu.mv ?_
  refine TL.p (Pu.ln Tryz.underlying24) ?_
  refine TL.p Pu.mv ?_
  refine TL.p (Pu.ln Tryz.underlying24) ?_
  refine TL.p Pu.ne ?_
  refine TL.nil ?_
  refine TQ.thenN (hY3 _ _ ?_)
  refine TW.cond rfl (fun hc0 => ?_) (fun hc0 => ?_)
  · try simp only [decide_eq_true_eq, decide_eq_false_iff_not, Bool.not_eq_true', Bool.not_eq_false', Bool.and_eq_true, Bool.or_eq_true, Bool.and_eq_false_iff, Bool.or_eq_false_iff, Int.not_lt, Int.not_le] at hc0
    refine TW.seq fun Y4 hY4 => ?_
    refine TW.region ?_
    refine TL.p Pu.as ?_
    refine TL.nil ?_
    refine TQ.thenN (hY4 _ _ ?_)
    refine TW.ret ?_
    refine TQ.thenR ?_
    refine TQ.ret Tryz.results23 rfl ((.tmp rfl .nil)) ?_
    exact fun w hw => ⟨ret_bool (by
      have : ¬ n1 = n2 := fun e => by subst e; simp at hc0
      simp [sameI, this]), Chg.ext hw.chg⟩
  · try simp only [decide_eq_true_eq, decide_eq_false_iff_not, Bool.not_eq_true', Bool.not_eq_false', Bool.and_eq_true, Bool.or_eq_true, Bool.and_eq_false_iff, Bool.or_eq_false_iff, Int.not_lt, Int.not_le] at hc0
    have hnn : n1 = n2 := by
      have : ¬ ¬ ((n1 : Int) = (n2 : Int)) := by simpa using hc0
      omega
    refine TW.skip ?_
    refine TQ.thenN (hY2 _ _ ?_)
    refine TW.seq fun Y5 hY5 => ?_
    refine TW.seq fun Y6 hY6 => ?_
    refine TW.region ?_
    refine TL.p Pu.as ?_
    refine TL.nil ?_
    refine TQ.thenN (hY6 _ _ ?_)
    refine TW.block ?_
    refine TW.loop1 (fun (k : Nat) => [(5, .int .i64 (k : Int)), (0, .slice A n1 c1), (1, .slice B n2 c2)]) (fun k => []) (fun k => k ≤ n1 ∧ ∀ j, j < k → v1 j = v2 j) (fun k => n1 - k) 0 (by repeat (first | exact trivial | refine ⟨rfl, ?_⟩ | refine ⟨trivial, ?_⟩)) ?_ ?_ ?_
    · exact (by repeat (first | exact KSub.nil | refine KSub.cons (by repeat (first | exact Pick.hd | apply Pick.tl)) ?_))
    · exact ⟨by omega, fun j hj => by omega⟩
    rintro k ⟨hk, hall⟩ Z0 hZ0
    refine TW.seq fun Y7 hY7 => ?_
    refine TW.seq fun Y8 hY8 => ?_
    refine TW.region ?_
    refine TL.p Pu.mv ?_
    refine TL.p Pu.mv ?_
    refine TL.p (Pu.ln Tryz.underlying24) ?_
    refine TL.p Pu.lt ?_
    refine TL.nil ?_
    refine TQ.thenN (hY8 _ _ ?_)
    refine TW.cond rfl (fun hc1 => ?_) (fun hc1 => ?_)
    · try simp only [decide_eq_true_eq, decide_eq_false_iff_not, Bool.not_eq_true', Bool.not_eq_false', Bool.and_eq_true, Bool.or_eq_true, Bool.and_eq_false_iff, Bool.or_eq_false_iff, Int.not_lt, Int.not_le] at hc1
      refine TW.skip ?_
      refine TQ.thenN (hY7 _ _ ?_)
      refine TW.seq fun Y9 hY9 => ?_
      refine TW.block ?_
      refine TW.seq fun Y10 hY10 => ?_
      refine TW.dw 9 ?_
      refine RK.tk Pu.mv ?_
      refine RK.tk Pu.mv ?_
      refine RK.tk (Pu.el ty_et24) ?_
      refine RK.tk (Pu.ld ty_sc3) ?_
      refine RK.tk Pu.mv ?_
      refine RK.tk Pu.mv ?_
      refine RK.tk (Pu.el ty_et24) ?_
      refine RK.tk (Pu.ld ty_sc3) ?_
      refine RK.tk Pu.ne ?_
      refine RK.ch [] ?_ trivial
      refine WK.n ?_
      refine TL.nil ?_
      refine TQ.thenN (hY10 _ _ ?_)
      refine TW.cond rfl (fun hc2 => ?_) (fun hc2 => ?_)
      · try simp only [decide_eq_true_eq, decide_eq_false_iff_not, Bool.not_eq_true', Bool.not_eq_false', Bool.and_eq_true, Bool.or_eq_true, Bool.and_eq_false_iff, Bool.or_eq_false_iff, Int.not_lt, Int.not_le] at hc2
        have hbad : ¬ v1 k = v2 k := by simpa using hc2
        refine TW.seq fun Y11 hY11 => ?_
        refine TW.region ?_
        refine TL.p Pu.as ?_
        refine TL.nil ?_
        refine TQ.thenN (hY11 _ _ ?_)
        refine TW.ret ?_
        refine TQ.blkR ?_
        refine TQ.thenR ?_
        refine TQ.thenR ?_
        refine TQ.blkR ?_
        refine TQ.thenR ?_
        refine TQ.ret Tryz.results23 rfl ((.tmp rfl .nil)) ?_
        exact fun w hw => ⟨ret_bool (by
          cases h : sameI n1 v1 n2 v2 with
          | false => rfl
          | true =>
            simp only [sameI, Bool.and_eq_true, allB_iff, decide_eq_true_eq] at h
            exact absurd (h.2 k (by omega)) hbad), Chg.ext hw.chg⟩
      · try simp only [decide_eq_true_eq, decide_eq_false_iff_not, Bool.not_eq_true', Bool.not_eq_false', Bool.and_eq_true, Bool.or_eq_true, Bool.and_eq_false_iff, Bool.or_eq_false_iff, Int.not_lt, Int.not_le] at hc2
        have hgood : v1 k = v2 k := by simpa using hc2
        refine TW.skip ?_
        refine TQ.blkN ?_
        refine TQ.thenN (hY9 _ _ ?_)
        refine TW.region ?_
        refine TL.p Pu.mv ?_
        refine TL.p Pu.ad ?_
        refine TL.p Pu.as ?_
        refine TL.nil ?_
        refine TQ.thenN (hZ0 (k + 1) _ _ ?_ ?_ (by repeat (first | exact trivial | refine ⟨rfl, ?_⟩ | refine ⟨trivial, ?_⟩)) ?_)
        · refine ⟨by omega, fun j hj => ?_⟩
          by_cases h : j = k
          · subst h; exact hgood
          · exact hall j (by omega)
        · exact (by first | omega | (simp only []; omega) | (simp; omega))
        · exact (by repeat (first | exact KSub.nil | refine KSub.cons (by repeat (first | exact Pick.hd | apply Pick.tl)) ?_))
    · try simp only [decide_eq_true_eq, decide_eq_false_iff_not, Bool.not_eq_true', Bool.not_eq_false', Bool.and_eq_true, Bool.or_eq_true, Bool.and_eq_false_iff, Bool.or_eq_false_iff, Int.not_lt, Int.not_le] at hc1
      refine TW.exit ?_
      refine TQ.thenX ?_
      refine TQ.thenX ?_
      refine TQ.blkX ?_
      refine TQ.thenN (hY5 _ _ ?_)
      refine TW.seq fun Y12 hY12 => ?_
      refine TW.region ?_
      refine TL.p Pu.as ?_
      refine TL.nil ?_
      refine TQ.thenN (hY12 _ _ ?_)
      refine TW.ret ?_
      refine TQ.ret Tryz.results23 rfl ((.tmp rfl .nil)) ?_
      exact fun w hw => ⟨ret_bool (by
        obtain rfl : k = n1 := by omega
        simp only [sameI, Bool.and_eq_true, allB_iff, decide_eq_true_eq]
        exact ⟨hnn, hall⟩), Chg.ext hw.chg⟩
end Go.Proofs.YtljhdcclajikiaaGreatDoor
namespace Go.Proofs.YtljhdcclajikiaaGreatDoor
set_option linter.all false
set_option linter.unusedVariables false
set_option linter.unusedSimpArgs false
open Go.RowKit
def bigT (l : Nat → Nat) : Bool := decide ((16 : Int) < (l 0 : Int)) || decide ((16 : Int) < (l 1 : Int)) || decide ((16 : Int) < (l 2 : Int))
def greatB (np m : Nat) (l : Nat → Nat → Nat) : Bool := decide ((40 : Int) < (np : Int)) || decide ((12 : Int) < (m : Int)) || anyB m (fun i => bigT (l i))
theorem great_any {A AT : Option Addr} {np m cp cpT : Nat} {a : Nat → Nat → Option Addr} {l c : Nat → Nat → Nat} {w : World} (hT : RdR w 3 AT m (fun i => tieL (a i) (l i) (c i))) :
    Calls Tryz.prog 6 #[.slice A np cp, .slice AT m cpT] w (Ret w (.bool (greatB np m l))) := by
  refine K_enter (S := []) (K := []) Tryz.func6 rfl Tryz.ntmps6 rfl (Sat.start _) ?_
  refine TW.seq fun Y1 hY1 => ?_
  refine TW.region ?_
  refine TL.p Pu.as ?_
  refine TL.nil ?_
  refine TQ.thenN (hY1 _ _ ?_)
  refine TW.seq fun Y2 hY2 => ?_
  refine TW.seq fun Y3 hY3 => ?_
  refine TW.join [(13, .bool (decide ((40 : Int) < (np : Int)) || decide ((12 : Int) < (m : Int))))] ?_ (fun hJ1 => ?_)
  · refine TQ.thenN (hY3 _ _ ?_)
    refine TW.cond rfl (fun hc0 => ?_) (fun hc0 => ?_)
    · try simp only [decide_eq_true_eq, decide_eq_false_iff_not, Bool.not_eq_true', Bool.not_eq_false', Bool.and_eq_true, Bool.or_eq_true, Bool.and_eq_false_iff, Bool.or_eq_false_iff, Int.not_lt, Int.not_le] at hc0
      have hbig : (decide ((40 : Int) < (np : Int)) || decide ((12 : Int) < (m : Int))) = true := by simpa using hc0
      refine TW.seq fun Y4 hY4 => ?_
      refine TW.region ?_
      refine TL.p Pu.as ?_
      refine TL.nil ?_
      refine TQ.thenN (hY4 _ _ ?_)
      refine TW.ret ?_
      refine TQ.thenR ?_
      refine TQ.ret Tryz.results6 rfl ((.tmp rfl .nil)) ?_
      exact fun w hw => ⟨ret_bool (by unfold greatB; rw [hbig]; rfl), Chg.ext hw.chg⟩
    · try simp only [decide_eq_true_eq, decide_eq_false_iff_not, Bool.not_eq_true', Bool.not_eq_false', Bool.and_eq_true, Bool.or_eq_true, Bool.and_eq_false_iff, Bool.or_eq_false_iff, Int.not_lt, Int.not_le] at hc0
      have hsm : (decide ((40 : Int) < (np : Int)) || decide ((12 : Int) < (m : Int))) = false := by simpa using hc0
      have hm : m ≤ 12 := by
        simp only [Bool.or_eq_false_iff, decide_eq_false_iff_not] at hsm
        omega
      refine TW.skip ?_
      refine TQ.thenN (hY2 _ _ ?_)
      refine TW.seq fun Y5 hY5 => ?_
      refine TW.seq fun Y6 hY6 => ?_
      refine TW.region ?_
      refine TL.p Pu.as ?_
      refine TL.nil ?_
      refine TQ.thenN (hY6 _ _ ?_)
      refine TW.block ?_
      refine TW.loop1 (fun (k : Nat) => [(5, .int .i64 (k : Int)), (1, .slice AT m cpT)]) (fun k => []) (fun k => k ≤ m ∧ ∀ j, j < k → bigT (l j) = false) (fun k => m - k) 0 (by repeat (first | exact trivial | refine ⟨rfl, ?_⟩ | refine ⟨trivial, ?_⟩)) ?_ ?_ ?_
      · exact (by repeat (first | exact KSub.nil | refine KSub.cons (by repeat (first | exact Pick.hd | apply Pick.tl)) ?_))
      · exact ⟨by omega, fun j hj => by omega⟩
      rintro k ⟨hk, hall⟩ Z0 hZ0
      refine TW.seq fun Y7 hY7 => ?_
      refine TW.seq fun Y8 hY8 => ?_
      refine TW.region ?_
      refine TL.p Pu.mv ?_
      refine TL.p Pu.mv ?_
      refine TL.p (Pu.ln Tryz.underlying23) ?_
      refine TL.p Pu.lt ?_
      refine TL.nil ?_
      refine TQ.thenN (hY8 _ _ ?_)
      refine TW.cond rfl (fun hc1 => ?_) (fun hc1 => ?_)
      · try simp only [decide_eq_true_eq, decide_eq_false_iff_not, Bool.not_eq_true', Bool.not_eq_false', Bool.and_eq_true, Bool.or_eq_true, Bool.and_eq_false_iff, Bool.or_eq_false_iff, Int.not_lt, Int.not_le] at hc1
        refine TW.skip ?_
        refine TQ.thenN (hY7 _ _ ?_)
        refine TW.seq fun Y9 hY9 => ?_
        refine TW.block ?_
        refine TW.seq fun Y10 hY10 => ?_
        refine TW.join [(44, .bool (bigT (l k)))] ?_ (fun hJ2 => ?_)
        · refine TQ.thenN (hY10 _ _ ?_)
          refine TW.cond rfl (fun hc2 => ?_) (fun hc2 => ?_)
          · try simp only [decide_eq_true_eq, decide_eq_false_iff_not, Bool.not_eq_true', Bool.not_eq_false', Bool.and_eq_true, Bool.or_eq_true, Bool.and_eq_false_iff, Bool.or_eq_false_iff, Int.not_lt, Int.not_le] at hc2
            have hbad : bigT (l k) = true := hc2
            refine TW.seq fun Y11 hY11 => ?_
            refine TW.region ?_
            refine TL.p Pu.as ?_
            refine TL.nil ?_
            refine TQ.thenN (hY11 _ _ ?_)
            refine TW.ret ?_
            refine TQ.blkR ?_
            refine TQ.thenR ?_
            refine TQ.thenR ?_
            refine TQ.blkR ?_
            refine TQ.thenR ?_
            refine TQ.ret Tryz.results6 rfl ((.tmp rfl .nil)) ?_
            exact fun w hw => ⟨ret_bool (by
              have : anyB m (fun i => bigT (l i)) = true := anyB_iff.2 ⟨k, by omega, hbad⟩
              unfold greatB; rw [this, Bool.or_true]), Chg.ext hw.chg⟩
          · try simp only [decide_eq_true_eq, decide_eq_false_iff_not, Bool.not_eq_true', Bool.not_eq_false', Bool.and_eq_true, Bool.or_eq_true, Bool.and_eq_false_iff, Bool.or_eq_false_iff, Int.not_lt, Int.not_le] at hc2
            have hgood : bigT (l k) = false := hc2
            refine TW.skip ?_
            refine TQ.blkN ?_
            refine TQ.thenN (hY9 _ _ ?_)
            refine TW.region ?_
            refine TL.p Pu.mv ?_
            refine TL.p Pu.ad ?_
            refine TL.p Pu.as ?_
            refine TL.nil ?_
            refine TQ.thenN (hZ0 (k + 1) _ _ ?_ ?_ (by repeat (first | exact trivial | refine ⟨rfl, ?_⟩ | refine ⟨trivial, ?_⟩)) ?_)
            · refine ⟨by omega, fun j hj => ?_⟩
              by_cases h : j = k
              · subst h; exact hgood
              · exact hall j (by omega)
            · exact (by first | omega | (simp only []; omega) | (simp; omega))
            · exact (by repeat (first | exact KSub.nil | refine KSub.cons (by repeat (first | exact Pick.hd | apply Pick.tl)) ?_))
        refine TW.region ?_
        refine TL.p Pu.mv ?_
        refine TL.p Pu.mv ?_
        refine TL.p (Pu.el ty_et23) ?_
        refine TL.p (by first | exact Pu.fb ty_fa34_0 | exact Pu.fe ty_fa34_0) ?_
        refine TL.p (Pu.ld ty_sc24) ?_
        refine TL.p (Pu.ln Tryz.underlying24) ?_
        refine TL.p Pu.gt ?_
        refine TL.p Pu.mv ?_
        refine TL.guard (t := 27) rfl (fun hg1 => ?_) (fun hg1 => ?_)
        · refine TL.gs ?_
          refine TL.gs ?_
          refine TL.gs ?_
          refine TL.gs ?_
          refine TL.gs ?_
          refine TL.gs ?_
          refine TL.gs ?_
          refine TL.p Pu.kt ?_
          refine TL.p Pu.mv ?_
          refine TL.gs ?_
          refine TL.gs ?_
          refine TL.gs ?_
          refine TL.gs ?_
          refine TL.gs ?_
          refine TL.gs ?_
          refine TL.gs ?_
          refine TL.p Pu.kt ?_
          refine TL.nil ?_
          exact TQ.sub (by repeat (first | exact trivial | refine ⟨rfl, ?_⟩ | refine ⟨trivial, ?_⟩ | refine ⟨(by show some (Value.bool _) = some (Value.bool _); simp [hg1, bigT]), ?_⟩)) (by repeat (first | exact KSub.nil | refine KSub.cons (by repeat (first | exact Pick.hd | apply Pick.tl)) ?_)) hJ2
        · refine TL.gd Pu.mv ?_
          refine TL.gd Pu.mv ?_
          refine TL.gd (Pu.el ty_et23) ?_
          refine TL.gd (by first | exact Pu.fb ty_fa34_1 | exact Pu.fe ty_fa34_1) ?_
          refine TL.gd (Pu.ld ty_sc24) ?_
          refine TL.gd (Pu.ln Tryz.underlying24) ?_
          refine TL.gd Pu.gt ?_
          refine TL.p Pu.kf ?_
          refine TL.p Pu.mv ?_
          refine TL.guard (t := 36) rfl (fun hg2 => ?_) (fun hg2 => ?_)
          · refine TL.gs ?_
            refine TL.gs ?_
            refine TL.gs ?_
            refine TL.gs ?_
            refine TL.gs ?_
            refine TL.gs ?_
            refine TL.gs ?_
            refine TL.p Pu.kt ?_
            refine TL.nil ?_
            exact TQ.sub (by repeat (first | exact trivial | refine ⟨rfl, ?_⟩ | refine ⟨trivial, ?_⟩ | refine ⟨(by show some (Value.bool _) = some (Value.bool _); simp [hg1, hg2, bigT]), ?_⟩)) (by repeat (first | exact KSub.nil | refine KSub.cons (by repeat (first | exact Pick.hd | apply Pick.tl)) ?_)) hJ2
          · refine TL.gd Pu.mv ?_
            refine TL.gd Pu.mv ?_
            refine TL.gd (Pu.el ty_et23) ?_
            refine TL.gd (by first | exact Pu.fb ty_fa34_2 | exact Pu.fe ty_fa34_2) ?_
            refine TL.gd (Pu.ld ty_sc24) ?_
            refine TL.gd (Pu.ln Tryz.underlying24) ?_
            refine TL.gd Pu.gt ?_
            refine TL.p Pu.kf ?_
            refine TL.nil ?_
            exact TQ.sub (by repeat (first | exact trivial | refine ⟨rfl, ?_⟩ | refine ⟨trivial, ?_⟩ | refine ⟨(by show some (Value.bool _) = some (Value.bool _); simp [hg1, hg2, bigT]), ?_⟩)) (by repeat (first | exact KSub.nil | refine KSub.cons (by repeat (first | exact Pick.hd | apply Pick.tl)) ?_)) hJ2
      · try simp only [decide_eq_true_eq, decide_eq_false_iff_not, Bool.not_eq_true', Bool.not_eq_false', Bool.and_eq_true, Bool.or_eq_true, Bool.and_eq_false_iff, Bool.or_eq_false_iff, Int.not_lt, Int.not_le] at hc1
        refine TW.exit ?_
        refine TQ.thenX ?_
        refine TQ.thenX ?_
        refine TQ.blkX ?_
        refine TQ.thenN (hY5 _ _ ?_)
        refine TW.seq fun Y12 hY12 => ?_
        refine TW.region ?_
        refine TL.p Pu.as ?_
        refine TL.nil ?_
        refine TQ.thenN (hY12 _ _ ?_)
        refine TW.ret ?_
        refine TQ.ret Tryz.results6 rfl ((.tmp rfl .nil)) ?_
        exact fun w hw => ⟨ret_bool (by
          obtain rfl : k = m := by omega
          unfold greatB; rw [hsm, anyB_false.2 hall]; rfl), Chg.ext hw.chg⟩
  refine TW.region ?_
  refine TL.p Pu.mv ?_
  refine TL.p (Pu.ln Tryz.underlying22) ?_
  refine TL.p Pu.gt ?_
  refine TL.p Pu.mv ?_
  refine TL.guard (t := 9) rfl (fun hg3 => ?_) (fun hg3 => ?_)
  · refine TL.gs ?_
    refine TL.gs ?_
    refine TL.gs ?_
    refine TL.p Pu.kt ?_
    refine TL.nil ?_
    exact TQ.sub (by repeat (first | exact trivial | refine ⟨rfl, ?_⟩ | refine ⟨trivial, ?_⟩ | refine ⟨(by show some (Value.bool _) = some (Value.bool _); simp [hg3]), ?_⟩)) (by repeat (first | exact KSub.nil | refine KSub.cons (by repeat (first | exact Pick.hd | apply Pick.tl)) ?_)) hJ1
  · refine TL.gd Pu.mv ?_
    refine TL.gd (Pu.ln Tryz.underlying23) ?_
    refine TL.gd Pu.gt ?_
    refine TL.p Pu.kf ?_
    refine TL.nil ?_
    exact TQ.sub (by repeat (first | exact trivial | refine ⟨rfl, ?_⟩ | refine ⟨trivial, ?_⟩ | refine ⟨(by show some (Value.bool _) = some (Value.bool _); simp [hg3]), ?_⟩)) (by repeat (first | exact KSub.nil | refine KSub.cons (by repeat (first | exact Pick.hd | apply Pick.tl)) ?_)) hJ1
theorem sameI_self (n : Nat) (v : Nat → Int) : sameI n v n v = true := by simp [sameI, allB]
set_option maxRecDepth 100000 in
theorem sameTies_any {A B : Option Addr} {m c1 c2 : Nat} {a b : Nat → Nat → Option Addr} {l c d : Nat → Nat → Nat} {v : Nat → Nat → Nat → Int} {w : World} (hm : m ≤ 1000000000) (hl : ∀ i, i < m → tot (l i) 3 ≤ 1000)
    (hA : RdR w 3 A m (fun i => tieL (a i) (l i) (c i))) (hB : RdR w 3 B m (fun i => tieL (b i) (l i) (d i)))
    (hI : ∀ i, i < m → ∀ j, j < 3 → RdR w 1 (a i j) (l i j) (fun k => [.int .i64 (v i j k)])) (hJ : ∀ i, i < m → ∀ j, j < 3 → RdR w 1 (b i j) (l i j) (fun k => [.int .i64 (v i j k)])) :
    Calls Tryz.prog 24 #[.slice A m c1, .slice B m c2] w (Ret w (.bool true)) := by
  refine K_enter (S := []) (K := []) Tryz.func24 rfl Tryz.ntmps24 rfl (Sat.start _) ?_
  refine TW.seq fun Y1 hY1 => ?_
  refine TW.region ?_
  refine TL.p Pu.as ?_
  refine TL.nil ?_
  refine TQ.thenN (hY1 _ _ ?_)
  refine TW.seq fun Y2 hY2 => ?_
  refine TW.seq fun Y3 hY3 => ?_
  refine TW.region ?_
  refine TL.p Pu.mv ?_
  refine TL.p (Pu.ln Tryz.underlying23) ?_
  refine TL.p Pu.mv ?_
  refine TL.p (Pu.ln Tryz.underlying23) ?_
  refine TL.p Pu.ne ?_
  refine TL.nil ?_
  refine TQ.thenN (hY3 _ _ ?_)
  refine TW.condF rfl ((by simp)) ?_
  refine TW.skip ?_
  refine TQ.thenN (hY2 _ _ ?_)
  refine TW.seq fun Y4 hY4 => ?_
  refine TW.seq fun Y5 hY5 => ?_
  refine TW.region ?_
  refine TL.p Pu.as ?_
  refine TL.nil ?_
  refine TQ.thenN (hY5 _ _ ?_)
  refine TW.block ?_
  refine TW.loop1 (fun (i : Nat) => [(5, .int .i64 (i : Int)), (0, .slice A m c1), (1, .slice B m c2)]) (fun i => []) (fun i => i ≤ m) (fun i => m - i) 0 (by repeat (first | exact trivial | refine ⟨rfl, ?_⟩ | refine ⟨trivial, ?_⟩)) ?_ ?_ ?_
  · exact (by repeat (first | exact KSub.nil | refine KSub.cons (by repeat (first | exact Pick.hd | apply Pick.tl)) ?_))
  · exact Nat.zero_le _
  rintro i hi Z0 hZ0
  refine TW.seq fun Y6 hY6 => ?_
  refine TW.seq fun Y7 hY7 => ?_
  refine TW.region ?_
  refine TL.p Pu.mv ?_
  refine TL.p Pu.mv ?_
  refine TL.p (Pu.ln Tryz.underlying23) ?_
  refine TL.p Pu.lt ?_
  refine TL.nil ?_
  refine TQ.thenN (hY7 _ _ ?_)
  refine TW.cond rfl (fun hc1 => ?_) (fun hc1 => ?_)
  · try simp only [decide_eq_true_eq, decide_eq_false_iff_not, Bool.not_eq_true', Bool.not_eq_false', Bool.and_eq_true, Bool.or_eq_true, Bool.and_eq_false_iff, Bool.or_eq_false_iff, Int.not_lt, Int.not_le] at hc1
    have him : i < m := by omega
    have hli := hl i him
    rw [tot3] at hli
    have hIi := hI i him
    have hJi := hJ i him
    refine TW.skip ?_
    refine TQ.thenN (hY6 _ _ ?_)
    refine TW.seq fun Y8 hY8 => ?_
    refine TW.block ?_
    refine TW.seq fun Y9 hY9 => ?_
    refine TW.join [(56, .bool (!(sameI (l i 0) (v i 0) (l i 0) (v i 0) && sameI (l i 1) (v i 1) (l i 1) (v i 1) && sameI (l i 2) (v i 2) (l i 2) (v i 2))))] ?_ (fun hJ1 => ?_)
    · refine TQ.thenN (hY9 _ _ ?_)
      refine TW.condF rfl ((by simp [sameI_self])) ?_
      refine TW.skip ?_
      refine TQ.blkN ?_
      refine TQ.thenN (hY8 _ _ ?_)
      refine TW.region ?_
      refine TL.p Pu.mv ?_
      refine TL.p Pu.ad ?_
      refine TL.p Pu.as ?_
      refine TL.nil ?_
      refine TQ.thenN (hZ0 (i + 1) _ _ ?_ ?_ (by repeat (first | exact trivial | refine ⟨rfl, ?_⟩ | refine ⟨trivial, ?_⟩)) ?_)
      · exact (by omega)
      · exact (by first | omega | (simp only []; omega) | (simp; omega))
      · exact (by repeat (first | exact KSub.nil | refine KSub.cons (by repeat (first | exact Pick.hd | apply Pick.tl)) ?_))
    refine TW.dw 40 ?_
    refine RK.tk Pu.mv ?_
    refine RK.tk Pu.mv ?_
    refine RK.tk (Pu.el ty_et23) ?_
    refine RK.tk (by first | exact Pu.fb ty_fa34_0 | exact Pu.fe ty_fa34_0) ?_
    refine RK.tk (Pu.ld ty_sc24) ?_
    refine RK.tk Pu.mv ?_
    refine RK.tk Pu.mv ?_
    refine RK.tk (Pu.el ty_et23) ?_
    refine RK.tk (by first | exact Pu.fb ty_fa34_0 | exact Pu.fe ty_fa34_0) ?_
    refine RK.tk (Pu.ld ty_sc24) ?_
    refine RK.keep ?_
    refine RK.keep ?_
    refine RK.keep ?_
    refine RK.keep ?_
    refine RK.keep ?_
    refine RK.keep ?_
    refine RK.keep ?_
    refine RK.keep ?_
    refine RK.keep ?_
    refine RK.keep ?_
    refine RK.keep ?_
    refine RK.keep ?_
    refine RK.keep ?_
    refine RK.keep ?_
    refine RK.keep ?_
    refine RK.keep ?_
    refine RK.keep ?_
    refine RK.keep ?_
    refine RK.keep ?_
    refine RK.keep ?_
    refine RK.keep ?_
    refine RK.keep ?_
    refine RK.keep ?_
    refine RK.keep ?_
    refine RK.keep ?_
    refine RK.keep ?_
    refine RK.keep ?_
    refine RK.keep ?_
    refine RK.keep ?_
    refine RK.keep ?_
    refine RK.ch [false, true, true, true, true, true, true, true, true, true, true, true, true, false, true, true, true, true, true, true, true, true, true, true, true, true, true, false, true, true] ?_ trivial
    refine WK.cr rfl (enters Tryz.func23 rfl rfl) (fun w hw => by
        first | exact sameInts_any (v1 := v i 0) (v2 := v i 0) (by omega) ((hIi 0 (by omega)).sat hw Apart.nil) ((hJi 0 (by omega)).sat hw Apart.nil) | exact sameInts_any (v1 := v i 1) (v2 := v i 1) (by omega) ((hIi 1 (by omega)).sat hw Apart.nil) ((hJi 1 (by omega)).sat hw Apart.nil) | exact sameInts_any (v1 := v i 2) (v2 := v i 2) (by omega) ((hIi 2 (by omega)).sat hw Apart.nil) ((hJi 2 (by omega)).sat hw Apart.nil)) ?_
    refine WK.p Pu.no ?_
    refine WK.p Pu.mv ?_
    refine WK.guard (t := 29) rfl (fun hg1 => ?_) (fun hg1 => ?_)
    · refine WK.ps ?_
      refine WK.ps ?_
      refine WK.ps ?_
      refine WK.ps ?_
      refine WK.ps ?_
      refine WK.ps ?_
      refine WK.ps ?_
      refine WK.ps ?_
      refine WK.ps ?_
      refine WK.ps ?_
      refine WK.gs ?_
      refine WK.ps ?_
      refine WK.p Pu.kt ?_
      refine WK.p Pu.mv ?_
      refine WK.ps ?_
      refine WK.ps ?_
      refine WK.ps ?_
      refine WK.ps ?_
      refine WK.ps ?_
      refine WK.ps ?_
      refine WK.ps ?_
      refine WK.ps ?_
      refine WK.ps ?_
      refine WK.ps ?_
      refine WK.gs ?_
      refine WK.ps ?_
      refine WK.p Pu.kt ?_
      refine WK.n ?_
      refine TL.nil ?_
      exact TQ.sub (by repeat (first | exact trivial | refine ⟨rfl, ?_⟩ | refine ⟨trivial, ?_⟩ | refine ⟨(by show some (Value.bool _) = some (Value.bool _); simp [hg1]), ?_⟩)) (by repeat (first | exact KSub.nil | refine KSub.cons (by repeat (first | exact Pick.hd | apply Pick.tl)) ?_)) hJ1
    · refine WK.p Pu.mv ?_
      refine WK.p Pu.mv ?_
      refine WK.p (Pu.el ty_et23) ?_
      refine WK.p (by first | exact Pu.fb ty_fa34_1 | exact Pu.fe ty_fa34_1) ?_
      refine WK.p (Pu.ld ty_sc24) ?_
      refine WK.p Pu.mv ?_
      refine WK.p Pu.mv ?_
      refine WK.p (Pu.el ty_et23) ?_
      refine WK.p (by first | exact Pu.fb ty_fa34_1 | exact Pu.fe ty_fa34_1) ?_
      refine WK.p (Pu.ld ty_sc24) ?_
      refine WK.cr rfl (enters Tryz.func23 rfl rfl) (fun w hw => by
          first | exact sameInts_any (v1 := v i 0) (v2 := v i 0) (by omega) ((hIi 0 (by omega)).sat hw Apart.nil) ((hJi 0 (by omega)).sat hw Apart.nil) | exact sameInts_any (v1 := v i 1) (v2 := v i 1) (by omega) ((hIi 1 (by omega)).sat hw Apart.nil) ((hJi 1 (by omega)).sat hw Apart.nil) | exact sameInts_any (v1 := v i 2) (v2 := v i 2) (by omega) ((hIi 2 (by omega)).sat hw Apart.nil) ((hJi 2 (by omega)).sat hw Apart.nil)) ?_
      refine WK.p Pu.no ?_
      refine WK.p Pu.kf ?_
      refine WK.p Pu.mv ?_
      refine WK.guard (t := 43) rfl (fun hg2 => ?_) (fun hg2 => ?_)
      · refine WK.ps ?_
        refine WK.ps ?_
        refine WK.ps ?_
        refine WK.ps ?_
        refine WK.ps ?_
        refine WK.ps ?_
        refine WK.ps ?_
        refine WK.ps ?_
        refine WK.ps ?_
        refine WK.ps ?_
        refine WK.gs ?_
        refine WK.ps ?_
        refine WK.p Pu.kt ?_
        refine WK.n ?_
        refine TL.nil ?_
        exact TQ.sub (by repeat (first | exact trivial | refine ⟨rfl, ?_⟩ | refine ⟨trivial, ?_⟩ | refine ⟨(by show some (Value.bool _) = some (Value.bool _); simp [hg1, hg2]), ?_⟩)) (by repeat (first | exact KSub.nil | refine KSub.cons (by repeat (first | exact Pick.hd | apply Pick.tl)) ?_)) hJ1
      · refine WK.p Pu.mv ?_
        refine WK.p Pu.mv ?_
        refine WK.p (Pu.el ty_et23) ?_
        refine WK.p (by first | exact Pu.fb ty_fa34_2 | exact Pu.fe ty_fa34_2) ?_
        refine WK.p (Pu.ld ty_sc24) ?_
        refine WK.p Pu.mv ?_
        refine WK.p Pu.mv ?_
        refine WK.p (Pu.el ty_et23) ?_
        refine WK.p (by first | exact Pu.fb ty_fa34_2 | exact Pu.fe ty_fa34_2) ?_
        refine WK.p (Pu.ld ty_sc24) ?_
        refine WK.cr rfl (enters Tryz.func23 rfl rfl) (fun w hw => by
            first | exact sameInts_any (v1 := v i 0) (v2 := v i 0) (by omega) ((hIi 0 (by omega)).sat hw Apart.nil) ((hJi 0 (by omega)).sat hw Apart.nil) | exact sameInts_any (v1 := v i 1) (v2 := v i 1) (by omega) ((hIi 1 (by omega)).sat hw Apart.nil) ((hJi 1 (by omega)).sat hw Apart.nil) | exact sameInts_any (v1 := v i 2) (v2 := v i 2) (by omega) ((hIi 2 (by omega)).sat hw Apart.nil) ((hJi 2 (by omega)).sat hw Apart.nil)) ?_
        refine WK.p Pu.no ?_
        refine WK.p Pu.kf ?_
        refine WK.n ?_
        refine TL.nil ?_
        exact TQ.sub (by repeat (first | exact trivial | refine ⟨rfl, ?_⟩ | refine ⟨trivial, ?_⟩ | refine ⟨(by show some (Value.bool _) = some (Value.bool _); simp [hg1, hg2]), ?_⟩)) (by repeat (first | exact KSub.nil | refine KSub.cons (by repeat (first | exact Pick.hd | apply Pick.tl)) ?_)) hJ1
  · try simp only [decide_eq_true_eq, decide_eq_false_iff_not, Bool.not_eq_true', Bool.not_eq_false', Bool.and_eq_true, Bool.or_eq_true, Bool.and_eq_false_iff, Bool.or_eq_false_iff, Int.not_lt, Int.not_le] at hc1
    refine TW.exit ?_
    refine TQ.thenX ?_
    refine TQ.thenX ?_
    refine TQ.blkX ?_
    refine TQ.thenN (hY4 _ _ ?_)
    refine TW.seq fun Y10 hY10 => ?_
    refine TW.region ?_
    refine TL.p Pu.as ?_
    refine TL.nil ?_
    refine TQ.thenN (hY10 _ _ ?_)
    refine TW.ret ?_
    refine TQ.ret Tryz.results24 rfl ((.tmp rfl .nil)) ?_
    exact fun w hw => Ret.of hw
end Go.Proofs.YtljhdcclajikiaaGreatDoor
namespace Go.Proofs.YtljhdcclajikiaaGreatDoor
set_option linter.all false
set_option linter.unusedVariables false
set_option linter.unusedSimpArgs false
open Go.RowKit
theorem TL.perm {c : Cx} {Q : Exit → Act → World → Prop} {F : Fr} {K K2 : List Fact} {ops : Array Oper} {rest : List Oper} (hp : K.Perm K2) (h : TL c ops Q rest F K2) : TL c ops Q rest F K := fun a w hF hK => h a w hF (hK.perm hp)
theorem KSub.perm : ∀ {L K : List Fact}, K.Perm L → KSub K L
  | [], K, _ => .nil
  | φ :: L, K, h => by
    have hm : φ ∈ K := h.mem_iff.2 (by simp)
    obtain ⟨K1, hp⟩ : ∃ K1, Pick K φ K1 := by
      clear h
      induction K with
      | nil => cases hm
      | cons ψ K ih =>
        rcases List.mem_cons.1 hm with rfl | hm
        · exact ⟨K, .hd⟩
        · obtain ⟨K1, h1⟩ := ih hm
          exact ⟨ψ :: K1, .tl h1⟩
    exact .cons hp (KSub.perm ((hp.perm.symm.trans h).cons_inv))
theorem KSub.dropL : ∀ (X : List Fact) {Y L : List Fact}, KSub Y L → KSub (X ++ Y) L
  | [], _, _, h => h
  | _ :: X, _, _, h => KSub.drop (KSub.dropL X h)
section
variable {c : Cx} {Q : Exit → Act → World → Prop} {F F' : Fr} {K K' : List Fact} {ops : Array Oper} {rest : List Oper} {d : Option Tmp} {ty : TypeId} {pos : String} {af : Array Edge} {g : Option (Nat × Bool)} {nf : Nat} {pend : List (Nat × Oper)} {fl : List Fl} {bs : List Bool}
theorem TW.expk {id : Nat} {l : List Oper} {X : Type} (K0 : List Fact) (Fj : X → Fr) (Kj : X → List Fact) (h1 : ∀ x, TQ c Q .normal (Fj x) (Kj x)) (h2 : (∀ x, TQ c Q .normal (Fj x) (Kj x)) → RG c l.toArray Q K0 [] (Array.replicate l.length false) l.length F K) (hm : c.P.follows .mixedOrders = true := by rfl) : TW c (.region id l.toArray true) Q F K := fun a w hF hK => by
  refine wp_region_any hm (wpAny_of_held (S := Sat c.S c.w0 K0) _ _ _ _ ?_)
  rw [List.size_toArray]
  exact h2 h1 (fun p hp => by cases hp) a w.drew hF (hK.ext (keep_drew w))
theorem WK.gck {i : Nat} {f : FuncId} {xs : List Operand} {ts : Array TypeId} {us : List Value} {X : Type} {val : X → Value} {L : X → List Fact} (hx : evs F xs = some us) (hen : Enters c.P f)
    (hc : ∀ w, Sat c.S c.w0 K w → CallsK c.P f us.toArray [] w X val L) (h : ∀ x, WK c ops Q nf fl bs pend (fput F d (val x)) (L x ++ K)) (hg : gdB F (frontOf ops nf) g = some true := by rfl) (hd : dok d c.n = true := by rfl) :
    WK c ops Q nf fl (false :: bs) ((i, ⟨d, .call { callee := .value (.func f), args := xs.toArray, argTypes := ts }, ty, pos, af, g⟩) :: pend) F K :=
  WK.act fun a w' K' hF hK ho hK' => by
    refine wpOp_of ho (hF.wanted hg) ?_
    have hr : (execOp a.eval ⟨d, .call { callee := .value (.func f), args := xs.toArray, argTypes := ts }, ty, pos, af, g⟩).run c.P w' = .ok (.enter f us.toArray) w' := by
      have := hF.evsl hx
      have h9 := hen us.toArray w'
      simp [execOp, resolve, invoke, Deferred.ofValue, Act.eval, this, h9]
    unfold Oper.wp
    rw [hr]
    refine Calls.mono (hc w' hK) ?_
    rintro e w'' ⟨x, rfl, hs⟩
    exact hK' _ _ _ _ hs (hF.fput hd _) (h x)
theorem TL.gck {f : FuncId} {xs : List Operand} {ts : Array TypeId} {us : List Value} {X : Type} {val : X → Value} {L : X → List Fact} (hx : evs F xs = some us) (hen : Enters c.P f)
    (hc : ∀ w, Sat c.S c.w0 K w → CallsK c.P f us.toArray [] w X val L) (h : ∀ x, TL c ops Q rest (fput F d (val x)) (L x ++ K)) (hg : gdB F ops g = some true := by rfl) (hd : dok d c.n = true := by rfl) :
    TL c ops Q (⟨d, .call { callee := .value (.func f), args := xs.toArray, argTypes := ts }, ty, pos, af, g⟩ :: rest) F K := fun a w hF hK => by
  unfold wpList
  rw [if_pos (hF.wanted hg)]
  refine .inl ?_
  have hr : (execOp a.eval ⟨d, .call { callee := .value (.func f), args := xs.toArray, argTypes := ts }, ty, pos, af, g⟩).run c.P w = .ok (.enter f us.toArray) w := by
    have := hF.evsl hx
    have h9 := hen us.toArray w
    simp [execOp, resolve, invoke, Deferred.ofValue, Act.eval, this, h9]
  unfold Oper.wp
  rw [hr]
  refine Calls.mono (hc w hK) ?_
  rintro e w' ⟨x, rfl, hs⟩
  exact h x _ _ (hF.fput hd _) (hK.add hs)
variable {K0 : List Fact} {listed : Array Bool} {fuel : Nat} {op : Op} {t : Nat}
theorem TW.ex0k {id : Nat} {l : List Oper} (K0 : List Fact) (h2 : RG c l.toArray Q K0 [] (Array.replicate l.length false) l.length F K) (hm : c.P.follows .mixedOrders = true := by rfl) : TW c (.region id l.toArray true) Q F K := fun a w hF hK => by
  refine wp_region_any hm (wpAny_of_held (S := Sat c.S c.w0 K0) _ _ _ _ ?_)
  rw [List.size_toArray]
  exact h2 (fun p hp => by cases hp) a w.drew hF (hK.ext (keep_drew w))
theorem RG.guard {b : Bool} (ht : fget F t = some (.bool b)) (h1 : b = true → RG c ops Q K0 [] listed fuel ((t, .bool true) :: F) K) (h2 : b = false → RG c ops Q K0 [] listed fuel ((t, .bool false) :: F) K) : RG c ops Q K0 [] listed fuel F K := fun hp a w hF hK => by
  have key : ∀ b', b = b' → FS c.n c.D ((t, .bool b') :: F) a := fun b' e => ⟨hF.size, hF.dfs, fun u v hv => by
    subst e
    simp only [fget] at hv
    cases hb : Nat.beq t u with
    | true => rw [hb] at hv; have := beq_iff.1 hb; subst this; injection hv with hv; subst hv; exact hF.get _ _ ht
    | false => rw [hb] at hv; exact hF.get _ _ hv⟩
  cases hb : b
  · exact h2 hb hp a w (key _ hb) hK
  · exact h1 hb hp a w (key _ hb) hK
theorem RG.ts (i : Nat) (ho : ops[i]? = some ⟨some t, op, ty, pos, af, g⟩) (h : RG c ops Q K0 [] (listed.setIfInBounds i true) fuel ((t, undef) :: F) K) (hh : HasL K K0 := by repeat (first | exact HasL.nil | refine HasL.cons (by repeat (first | exact Pick.hd | apply Pick.tl)) ?_)) (hk : takeA ops listed i = true := by kernel_rfl) (hg : gdB F ops g = some false := by rfl) (hd : Nat.blt t c.n = true := by rfl) (hpan : Pan Q := by (intro d _ _ _ _; cases d <;> exact Iff.rfl)) :
    RG c ops Q K0 [] listed (fuel + 1) F K := fun h1 a w hF hK => by
  simp only [takeA, Bool.and_eq_true] at hk
  exact wpAnyH_take ho hk.1.1 hk.1.2 hk.2 (fun ch a w h => (hpan _ undef ch a w).1 h) (.inr ⟨hF.wanted hg, rfl⟩) (hh.has.sat hK) (h h1 _ w (hF.put hd undef) hK)
end
end Go.Proofs.YtljhdcclajikiaaGreatDoor
namespace Go.Proofs.YtljhdcclajikiaaGreatDoor
set_option linter.all false
set_option linter.unusedVariables false
set_option linter.unusedSimpArgs false
open Go.RowKit
def side (P : Nat) : Nat → Nat → Nat → List Nat
  | 0, _, _ => []
  | i + 1, w, s => side P i (w / P) s ++ (if w % P = s + 1 then [i] else [])
def sln (P i w s : Nat) : Nat := (side P i w s).length
def svl (P i w s k : Nat) : Int := ((side P i w s).getD k 0 : Nat)
def wsum (P : Nat) (wv : Nat → Int) : Nat → Nat → Int
  | 0, _ => 0
  | i + 1, w => wsum P wv i (w / P) + (if w % P = 0 then 0 else wv i)
theorem side_child {P i w q s : Nat} (hq : q < P) : side P (i + 1) (w * P + q) s = side P i w s ++ (if q = s + 1 then [i] else []) := by
  have h1 : (w * P + q) / P = w := by
    rw [Nat.mul_comm, Nat.mul_add_div (by omega), Nat.div_eq_of_lt hq, Nat.add_zero]
  have h2 : (w * P + q) % P = q := by
    rw [Nat.mul_comm, Nat.mul_add_mod, Nat.mod_eq_of_lt hq]
  simp only [side, h1, h2]
theorem wsum_child {P i w q : Nat} {wv : Nat → Int} (hq : q < P) : wsum P wv (i + 1) (w * P + q) = wsum P wv i w + (if q = 0 then 0 else wv i) := by
  have h1 : (w * P + q) / P = w := by
    rw [Nat.mul_comm, Nat.mul_add_div (by omega), Nat.div_eq_of_lt hq, Nat.add_zero]
  have h2 : (w * P + q) % P = q := by
    rw [Nat.mul_comm, Nat.mul_add_mod, Nat.mod_eq_of_lt hq]
  simp only [wsum, h1, h2]
theorem side_lt {P : Nat} : ∀ {i w s x : Nat}, x ∈ side P i w s → x < i
  | 0, _, _, _, h => by cases h
  | i + 1, w, s, x, h => by
    simp only [side, List.mem_append] at h
    rcases h with h | h
    · have := side_lt h; omega
    · split at h
      · simp at h; omega
      · cases h
theorem side_len {P : Nat} : ∀ {i w s : Nat}, (side P i w s).length ≤ i
  | 0, _, _ => by simp [side]
  | i + 1, w, s => by
    have := side_len (P := P) (i := i) (w := w / P) (s := s)
    simp only [side, List.length_append]
    split <;> simp <;> omega
theorem sln_le (P i w s : Nat) : sln P i w s ≤ i := side_len
theorem svl_bd {P i w s k : Nat} (h : k < sln P i w s) : 0 ≤ svl P i w s k ∧ svl P i w s k < i := by
  unfold svl
  unfold sln at h
  rw [List.getD_eq_getElem?_getD, List.getElem?_eq_getElem h]
  have := side_lt (List.getElem_mem h)
  simp only [Option.getD_some]
  omega
theorem svl_inx (P np w s : Nat) : Inx (svl P np w s) (sln P np w s) np := fun _ hk => svl_bd hk
section
variable {P i w q : Nat}
theorem sln_same {s : Nat} (hq : q < P) (h : q ≠ s + 1) : sln P (i + 1) (w * P + q) s = sln P i w s := by
  unfold sln; rw [side_child hq, if_neg h, List.append_nil]
theorem svl_same {s : Nat} (hq : q < P) (h : q ≠ s + 1) : svl P (i + 1) (w * P + q) s = svl P i w s := by
  funext k; unfold svl; rw [side_child hq, if_neg h, List.append_nil]
theorem sln_put {s : Nat} (hq : s + 1 < P) : sln P (i + 1) (w * P + (s + 1)) s = sln P i w s + 1 := by
  unfold sln; rw [side_child hq, if_pos rfl, List.length_append]; rfl
theorem svl_put {s k : Nat} (hq : s + 1 < P) (hk : k < sln P i w s) : svl P (i + 1) (w * P + (s + 1)) s k = svl P i w s k := by
  unfold svl; rw [side_child hq, if_pos rfl]
  unfold sln at hk
  rw [List.getD_eq_getElem?_getD, List.getD_eq_getElem?_getD, List.getElem?_append_left hk]
theorem svl_last {s : Nat} (hq : s + 1 < P) : svl P (i + 1) (w * P + (s + 1)) s (sln P i w s) = i := by
  unfold svl; rw [side_child hq, if_pos rfl]
  unfold sln
  rw [List.getD_eq_getElem?_getD, List.getElem?_append_right (Nat.le_refl _)]
  simp
end
structure St where
  worth : Int
  way : Nat
  n : Nat
def iter {α : Type} (f : Nat → α → α) : Nat → α → α
  | 0, s => s
  | n + 1, s => f n (iter f n s)
def dfs (P : Nat) (leaf : Nat → St → St) : Nat → Nat → St → St
  | 0, w, st => leaf w st
  | r + 1, w, st => iter (fun q st => dfs P leaf r (w * P + q) st) P st
def tln (P np w k j : Nat) : Nat := if j = 2 then 0 else sln P np w (2 * k + j)
def tvl (P np w k j : Nat) : Nat → Int := if j = 2 then fun _ => 0 else svl P np w (2 * k + j)
def okT (P np : Nat) (r0 r1 : Nat → Int) (cans : Nat → Int) (b : Int) (w k : Nat) : Bool :=
  decide (balV (wS r0 (svl P np w (2 * k)) (sln P np w (2 * k))) (wS r1 (svl P np w (2 * k)) (sln P np w (2 * k))) (wS r0 (svl P np w (2 * k + 1)) (sln P np w (2 * k + 1))) (wS r1 (svl P np w (2 * k + 1)) (sln P np w (2 * k + 1))) b = 2) &&
    decide (wS r1 (catI (tln P np w k) (tvl P np w k)) (tot (tln P np w k) 3) ≤ cans k)
def leafS (P np nc : Nat) (r0 r1 cans wv : Nat → Int) (b : Int) (w : Nat) (st : St) : St :=
  if wsum P wv np w ≤ st.worth then st else if allB nc (okT P np r0 r1 cans b w) then ⟨wsum P wv np w, w, nc⟩ else st
end Go.Proofs.YtljhdcclajikiaaGreatDoor
namespace Go.Proofs.YtljhdcclajikiaaGreatDoor
set_option linter.all false
set_option linter.unusedVariables false
set_option linter.unusedSimpArgs false
open Go.RowKit
def ownsK (A : Nat → Option Addr) (l c : Nat → Nat) (v : Nat → Nat → Int) : Nat → List Fact
  | 0 => []
  | n + 1 => .own (A n) (l n) (c n) 3 1 (fun k => [.int .i64 (v n k)]) :: ownsK A l c v n
def ownsX (A : Nat → Option Addr) (l c : Nat → Nat) (v : Nat → Nat → Int) (s : Nat) : Nat → List Fact
  | 0 => []
  | n + 1 => if n = s then ownsK A l c v n else .own (A n) (l n) (c n) 3 1 (fun k => [.int .i64 (v n k)]) :: ownsX A l c v s n
section
variable {A A2 : Nat → Option Addr} {l l2 c c2 : Nat → Nat} {v v2 : Nat → Nat → Int} {s : Nat}
theorem ownsK_congr : ∀ {n : Nat}, (∀ i, i < n → A i = A2 i ∧ l i = l2 i ∧ c i = c2 i ∧ v i = v2 i) → ownsK A l c v n = ownsK A2 l2 c2 v2 n
  | 0, _ => rfl
  | n + 1, h => by
    obtain ⟨h1, h2, h3, h4⟩ := h n (by omega)
    simp only [ownsK, h1, h2, h3, h4, ownsK_congr (n := n) fun i hi => h i (by omega)]
theorem ownsK_perm : ∀ {n : Nat}, s < n → (ownsK A l c v n).Perm (.own (A s) (l s) (c s) 3 1 (fun k => [.int .i64 (v s k)]) :: ownsX A l c v s n)
  | n + 1, h => by
    by_cases hs : n = s
    · subst hs
      simp only [ownsK, ownsX, if_true]
      exact List.Perm.refl _
    · simp only [ownsK, ownsX, if_neg hs]
      exact ((ownsK_perm (n := n) (by omega)).cons _).trans (List.Perm.swap _ _ _)
theorem ownsK_mem {n : Nat} (h : s < n) : Fact.own (A s) (l s) (c s) 3 1 (fun k => [.int .i64 (v s k)]) ∈ ownsK A l c v n := (ownsK_perm h).mem_iff.2 (by simp)
theorem ownsK_rd {S : List Nat} {w0 w : World} {K : List Fact} {n : Nat} (hs : Sat S w0 K w) (hK : ∀ φ ∈ ownsK A l c v n, φ ∈ K) : ∀ i, i < n → RdR w 1 (A i) (l i) (fun k => [.int .i64 (v i k)]) := fun i hi => OwnR.rdr (hs.holds _ (hK _ (ownsK_mem hi)))
end
def updN {α : Type} (f : Nat → α) (s : Nat) (x : α) : Nat → α := fun i => if i = s then x else f i
def tieS (A : Nat → Option Addr) (l c : Nat → Nat) (k : Nat) : List Value := [.slice (A (2 * k)) (l (2 * k)) (c (2 * k)), .slice (A (2 * k + 1)) (l (2 * k + 1)) (c (2 * k + 1)), .slice none 0 0]
set_option maxRecDepth 100000 in
theorem cloneI_any {A : Option Addr} {n cp : Nat} {v : Nat → Int} {w : World} (hn : n ≤ 1000000000) (hR : RdR w 1 A n (fun k => [.int .i64 (v k)])) :
    CallsK Tryz.prog 45 #[.slice A n cp] [] w (Option Addr × Nat) (fun x => .slice x.1 n x.2) (fun x => [.own x.1 n x.2 3 1 (fun k => [.int .i64 (v k)])]) := by
  cases A with
  | none =>
    have h0 : n = 0 := by
      rcases Nat.eq_zero_or_pos n with h | h
      · exact h
      · obtain ⟨b, o, e, _⟩ := hR.rd h
        cases e
    subst h0
    refine K_enter (S := []) (K := []) Tryz.func45 rfl Tryz.ntmps45 rfl (Sat.start _) ?_
    refine TW.seq fun Y1 hY1 => ?_
    refine TW.region ?_
    refine TL.p Pu.as ?_
    refine TL.nil ?_
    refine TQ.thenN (hY1 _ _ ?_)
    refine TW.seq fun Y2 hY2 => ?_
    refine TW.seq fun Y3 hY3 => ?_
    refine TW.region ?_
    refine TL.p Pu.mv ?_
    refine TL.p Pu.bn ?_
    refine TL.nil ?_
    refine TQ.thenN (hY3 _ _ ?_)
    refine TW.condT rfl (rfl) ?_
    refine TW.seq fun Y4 hY4 => ?_
    refine TW.region ?_
    refine TL.p Pu.as ?_
    refine TL.nil ?_
    refine TQ.thenN (hY4 _ _ ?_)
    refine TW.ret ?_
    refine TQ.thenR ?_
    refine TQ.ret Tryz.results45 rfl ((.tmp rfl .nil)) ?_
    exact fun w hw => ⟨(none, 0), rfl, hw.sub (KSub.nilOwn KSub.nil)⟩
  | some p =>
    refine K_enter (S := []) (K := []) Tryz.func45 rfl Tryz.ntmps45 rfl (Sat.start _) ?_
    refine TW.seq fun Y1 hY1 => ?_
    refine TW.region ?_
    refine TL.p Pu.as ?_
    refine TL.nil ?_
    refine TQ.thenN (hY1 _ _ ?_)
    refine TW.seq fun Y2 hY2 => ?_
    refine TW.seq fun Y3 hY3 => ?_
    refine TW.region ?_
    refine TL.p Pu.mv ?_
    refine TL.p Pu.bn ?_
    refine TL.nil ?_
    refine TQ.thenN (hY3 _ _ ?_)
    refine TW.condF rfl (rfl) ?_
    refine TW.skip ?_
    refine TQ.thenN (hY2 _ _ ?_)
    refine TW.seq fun Y4 hY4 => ?_
    refine TW.region ?_
    refine TL.m Mk.bl ?_
    intro b1
    refine TL.p Pu.mv ?_
    refine TL.subK (KSub.ofBlk (n := 0) (sz := 1) (r := fun _ => []) Pick.hd rfl (fun _ h => by omega) rfl rfl KSub.nil) ?_
    first | refine TL.a0 ty_et24 ?_ | refine TL.ap ty_et24 ?_
    intro A2 c2
    refine TL.p Pu.as ?_
    refine TL.nil ?_
    refine TQ.thenN (hY4 _ _ ?_)
    refine TW.ret ?_
    refine TQ.ret Tryz.results45 rfl ((.tmp rfl .nil)) ?_
    exact fun w hw => ⟨(A2, c2), rfl, hw⟩
end Go.Proofs.YtljhdcclajikiaaGreatDoor
namespace Go.Proofs.YtljhdcclajikiaaGreatDoor
set_option linter.all false
set_option linter.unusedVariables false
set_option linter.unusedSimpArgs false
open Go.RowKit
section
variable {c : Cx} {Q : Exit → Act → World → Prop} {F : Fr} {K K' : List Fact} {ops : Array Oper} {rest : List Oper} {d : Option Tmp} {ty : TypeId} {pos : String} {af : Array Edge} {g : Option (Nat × Bool)} {nf : Nat} {fl : List Fl} {bs : List Bool} {pend : List (Nat × Oper)}
def slA (A : Option Addr) (cp sz q : Nat) : Option Addr := if cp = q then A else A.map fun a => a.add (q * sz)
theorem Pu.sf {T E : TypeId} {sz bytes : Nat} {x y : Operand} {A : Option Addr} {n cp q : Nat} {i : Int} (hT : ElemT c.P T E sz bytes) (hx : ev F x = some (.slice A n cp) := by rfl) (hy : ev F y = some (.int .i64 i) := by rfl) (hk : i.toNat = q := by first | exact tnS _ | exact Int.toNat_natCast _ | rfl) (h0 : 0 ≤ i := by omega) (h1 : i ≤ n := by omega) : Pu c F K ⟨d, .slice T x (some y) none none, ty, pos, af, g⟩ (.slice (slA A cp sz q) (n - q) (cp - q)) := fun a w hF _ => by
  obtain ⟨i', z, hi, hz, hs, hb, hzs⟩ := hT.hi
  have hsz : (sizeOf E).run c.P w = .ok sz w := by simp [sizeOf, typeInfo, hi, hs]
  subst hk
  simp [execOp, Instr.sliceAt, Instr.slice, hF.evl hx, hF.evl hy, run_underlying hT.ht, Instr.sliceBounds, Instr.sliceBound, asIntOf, h0, h1, hsz, slA]
end
end Go.Proofs.YtljhdcclajikiaaGreatDoor
namespace Go.Proofs.YtljhdcclajikiaaGreatDoor
set_option linter.all false
set_option linter.unusedVariables false
set_option linter.unusedSimpArgs false
open Go.RowKit
section
variable {c : Cx} {Q : Exit → Act → World → Prop} {F : Fr} {K K' : List Fact} {ops : Array Oper} {rest : List Oper} {d : Option Tmp} {ty : TypeId} {pos : String} {af : Array Edge} {g : Option (Nat × Bool)} {x y : Operand} {xt yt : TypeId}
theorem Pu.sl1 {j : Nat} (hx : ev F x = some (.int .i64 1) := by rfl) (hy : ev F y = some (.int .i64 (j : Int)) := by rfl) (hj : j ≤ 62 := by omega) : Pu c F K ⟨d, .binOp .shl xt x y yt, ty, pos, af, g⟩ (.int .i64 ((2 ^ j : Nat) : Int)) := Pu.bin hx hy fun w => by
  have h1 : (2 : Nat) ^ j ≤ 4611686018427387904 := Nat.le_trans (Nat.pow_le_pow_right (by omega) hj) (by decide)
  have h2 : ((2 ^ j : Nat) : Int) = 2 ^ j := by simp
  have h3 : Nat.min j 64 = j := by rw [show Nat.min j 64 = Min.min j 64 from rfl]; omega
  go_simp
  have h4 : (0 : Int) ≤ ((2 ^ j : Nat) : Int) := Int.natCast_nonneg _
  have h5 : ((2 ^ j : Nat) : Int) ≤ 4611686018427387904 := Int.ofNat_le.2 h1
  rw [← h2]
  generalize ((2 ^ j : Nat) : Int) = X at *
  exact IntWalk.i64_in _ (by omega)
theorem Pu.srN {b i : Nat} (hx : ev F x = some (.int .i64 (b : Int)) := by rfl) (hy : ev F y = some (.int .i64 (i : Int)) := by rfl) (hj : i ≤ 62 := by omega) : Pu c F K ⟨d, .binOp .shr xt x y yt, ty, pos, af, g⟩ (.int .i64 ((b / 2 ^ i : Nat) : Int)) := Pu.bin hx hy fun w => by
  go_simp
theorem bits_and1 {m : Nat} (hm : m ≤ 9223372036854775807) : bits .and .i64 (m : Int) 1 = ((m % 2 : Nat) : Int) := by
  have h1 : (BitVec.ofInt 64 (m : Int) &&& BitVec.ofInt 64 1).toNat = m % 2 := by
    rw [BitVec.toNat_and, BitVec.toNat_ofInt, BitVec.toNat_ofInt]
    have e1 : ((m : Int) % (2 ^ 64 : Nat)).toNat = m := by omega
    have e2 : ((1 : Int) % (2 ^ 64 : Nat)).toNat = 1 := by decide
    rw [e1, e2, Nat.and_one_is_mod]
  have h2 : bits .and .i64 (m : Int) 1 = IntKind.i64.wrap ((BitVec.ofInt 64 (m : Int) &&& BitVec.ofInt 64 1).toNat : Int) := rfl
  rw [h2, h1]
  exact IntWalk.i64_in _ (by omega)
theorem Pu.an1 {m : Nat} (hx : ev F x = some (.int .i64 (m : Int)) := by rfl) (hy : ev F y = some (.int .i64 1) := by rfl) (hm : m ≤ 9223372036854775807 := by omega) : Pu c F K ⟨d, .binOp .and xt x y yt, ty, pos, af, g⟩ (.int .i64 ((m % 2 : Nat) : Int)) := Pu.bin hx hy fun w => by
  have h := bits_and1 hm
  go_simp
theorem own_clear {z : Value} {E : TypeId} {G n cp : Nat} : ∀ (m q : Nat) (r : Nat → List Value) (w : World), q + m = n → OwnR w (some ⟨G, 0, none⟩) n cp E 1 r → OwnR (w.setCells G q (List.replicate m z)) (some ⟨G, 0, none⟩) n cp E 1 (fun k => if k < q then r k else [z]) ∧ Chg [G] w (w.setCells G q (List.replicate m z))
  | 0, q, r, w, hq, h => ⟨⟨h.own.congr fun i j hi hj => by simp only [rowF]; rw [if_pos (by omega)], fun i hi => by rw [if_pos (by omega)]; exact h.len i hi⟩, Chg.refl _ _⟩
  | m + 1, q, r, w, hq, h => by
    have hl := h.len q (by omega)
    have hset := h.own.set q 0 (by omega) (by omega) z
    rw [Nat.mul_one, Nat.add_zero] at hset
    have h2 : OwnR (w.setCell ⟨G, q, none⟩ z) (some ⟨G, 0, none⟩) n cp E 1 (updR r q [z]) := by
      refine ⟨hset.congr fun i j hi hj => ?_, fun i hi => ?_⟩
      · obtain rfl : j = 0 := by omega
        simp only [rowF, updR]
        by_cases h1 : i = q
        · subst h1; simp
        · simp [h1]
      · simp only [updR]; split
        · rfl
        · exact h.len i hi
    obtain ⟨h3, h4⟩ := own_clear m (q + 1) (updR r q [z]) _ (by omega) h2
    refine ⟨⟨h3.own.congr fun i j hi hj => ?_, fun i hi => ?_⟩, (Chg.setCell w ⟨G, q, none⟩ z).trans h4⟩
    · simp only [rowF, updR]
      by_cases h1 : i < q
      · rw [if_pos (by omega), if_neg (by omega), if_pos h1]
      · by_cases h5 : i = q
        · subst h5; rw [if_pos (by omega), if_pos rfl, if_neg h1]
        · rw [if_neg (by omega), if_neg h1]
    · have := h3.len i hi
      by_cases h1 : i < q
      · rw [if_pos h1]; exact h.len i hi
      · rw [if_neg h1]; rfl
theorem TL.clr {T E : TypeId} {A : Option Addr} {n cp q m cp2 : Nat} {r : Nat → List Value} {z : Value} {bytes : Nat} {dd : Option Tmp} (hT : ElemT c.P T E 1 bytes) (hz : ∀ w, (zeroValue E).run c.P w = .ok z w) (hzc : z.cells = #[z]) (h1 : z.oneCell' = true) (h : TL c ops Q rest (fput F dd (.tuple #[])) (.own A n cp E 1 (fun k => if k < q then r k else [z]) :: K'))
    (hx : ev F x = some (.slice (slA A cp 1 q) m cp2) := by rfl) (hp : Pick K (.own A n cp E 1 r) K' := by repeat (first | exact Pick.hd | apply Pick.tl)) (hq : q + m = n := by omega) (hd : dok dd c.n = true := by rfl) :
    TL c ops Q (⟨dd, .call { callee := .builtin .clear, args := #[x], argTypes := #[T] }, ty, pos, af, none⟩ :: rest) F K := fun a w hF hK => by
  have hs := hK.pick hp
  have hb : OwnR w A n cp E 1 r := hs.holds (.own A n cp E 1 r) (by simp)
  by_cases hm : m = 0
  · subst hm
    refine wpList_eff (v := .tuple #[]) rfl (w' := w) ?_ (h _ _ (hF.fput hd _) (hs.turn (Chg.refl _ _) (by cases A <;> simp [Fact.foot]) (fun b hb => .inl (by cases A <;> exact hb)) ?_))
    · simp only [execOp, resolve, invoke, List.map_toArray, List.map_cons, List.map_nil, hF.evl hx]
      cases slA A cp 1 q <;> simp [go_sem, Builtin.clear_, run_underlying hT.ht]
    · exact ⟨hb.own.congr fun i j hi hj => by simp only [rowF]; rw [if_pos (by omega)], fun i hi => by rw [if_pos (by omega)]; exact hb.len i hi⟩
  · obtain ⟨G, c', e, _, hg, hc, hcell, hfr⟩ := hb.own.form1 (by omega)
    injection e with e1 e2 e3
    subst e1 e3
    have eA : slA (some ⟨G, 0, none⟩) cp 1 q = some ⟨G, q, none⟩ := by
      unfold slA
      rw [if_neg (by omega), Option.map_some, add_plain, Nat.zero_add, Nat.mul_one]
    rw [eA] at hx
    obtain ⟨h3, h4⟩ := own_clear m q r w hq (z := z) hb
    refine wpList_eff (v := .tuple #[]) rfl (w' := w.setCells G q (List.replicate m z)) ?_ (h _ _ (hF.fput hd _) (hs.turn h4 (by simp [Fact.foot]) (fun b hb => .inl hb) h3))
    have hr := Lib.run_clear_slice (P := c.P) w T E ty z hT.ht hz hzc h1 G q m cp2 (by omega) (fun j hj => by have := hcell (q + j) 0 (by omega) (by omega); rw [Nat.mul_one, Nat.add_zero] at this; rw [this]; rfl) (fun j hj => hfr _)
    simp only [execOp, resolve, invoke, List.map_toArray, List.map_cons, List.map_nil, hF.evl hx]
    simp only [go_sem, builtin, Sem.run_bind, hr, Result.andThen_ok, Sem.run_pure]
def TryK (P : Program) (f : FuncId) (args : Array Value) (M : List Fact) (X : Type) (val : X → Value) (L : X → List Fact) (pan : Int → List PanicEntry) (code : Int) (w : World) : Prop :=
  Calls P f args w fun e w' => (code = 0 ∧ ∃ x : X, e = .returned (val x) ∧ Sat (feet M) w (L x) w') ∨ (code ≠ 0 ∧ e = .panicked (pan code) ∧ Sat (feet M) w [] w')
theorem TL.ctk {f : FuncId} {xs : List Operand} {ts : Array TypeId} {us : List Value} {dd : Option Tmp} {M : List Fact} {X : Type} {val : X → Value} {L : X → List Fact} {pan : Int → List PanicEntry} {code : Int} (hx : evs F xs = some us) (hen : Enters c.P f) (hM : K.Perm (M ++ K'))
    (hc : ∀ w, Sat c.S c.w0 K w → TryK c.P f us.toArray M X val L pan code w) (h0 : ∀ x, code = 0 → TL c ops Q rest (fput F dd (val x)) (L x ++ K')) (h1 : code ≠ 0 → TQ c Q (.panic (pan code)) F K') (hg : gdB F ops g = some true := by rfl) (hd : dok dd c.n = true := by rfl) :
    TL c ops Q (⟨dd, .call { callee := .value (.func f), args := xs.toArray, argTypes := ts }, ty, pos, af, g⟩ :: rest) F K := fun a w hF hK => by
  unfold wpList
  rw [if_pos (hF.wanted hg)]
  refine .inl ?_
  unfold Oper.wp
  rw [run_callv (fs := []) (cs := []) (x := .func f) rfl (hF.evsl hx) hen rfl]
  rw [show ([] ++ us ++ [] : List Value) = us by simp]
  refine Calls.mono (hc w hK) ?_
  rintro e w' (⟨h, x, rfl, hs⟩ | ⟨h, rfl, hs⟩)
  · exact h0 x h _ _ (hF.fput hd _) ((hK.perm hM).step hs)
  · exact h1 h _ _ hF ((hK.perm hM).step hs)
end
end Go.Proofs.YtljhdcclajikiaaGreatDoor
namespace Go.Proofs
open Go.Shelf
def Tryz.laysSlM5_f36_ren : Go.Shelf.Ren := ⟨fun | 5 => 36 | 8 => 69 | 7 => 68 | 19 => 104 | 20 => 105 | 10 => 95 | 11 => 96 | 12 => 97 | 13 => 98 | 14 => 99 | 15 => 100 | 16 => 101 | 17 => 102 | 18 => 103 | 30 => 115 | 31 => 116 | 32 => 117 | 33 => 118 | 34 => 119 | 35 => 114 | 40 => 125 | n => n, fun | 23 => 24 | 25 => 3 | 3 => 3 | 32 => 124 | 22 => 24 | 0 => 0 | 44 => 148 | 46 => 150 | 4 => 4 | 36 => 141 | 35 => 140 | 41 => 38 | 5 => 5 | 9 => 9 | 53 => 157 | 57 => 161 | 63 => 168 | 64 => 151 | n => n, fun | n => n⟩
theorem Tryz.laysSlM5_f36 : Go.Proofs.SlLaysM.n5 Tryz.prog Tryz.laysSlM5_f36_ren := {
  mixed := by kernel_rfl
  f5 := ⟨Tryz.f36.name, by decide, Tryz.func36.trans (congrArg some (by kernel_rfl))⟩
  f7 := ⟨Tryz.f68.name, by decide, Tryz.func68.trans (congrArg some (by kernel_rfl))⟩
  f8 := Tryz.func69.trans (congrArg some (by kernel_rfl))
  f10 := ⟨Tryz.f95.name, by decide, Tryz.func95.trans (congrArg some (by kernel_rfl))⟩
  f11 := ⟨Tryz.f96.name, by decide, Tryz.func96.trans (congrArg some (by kernel_rfl))⟩
  f12 := ⟨Tryz.f97.name, by decide, Tryz.func97.trans (congrArg some (by kernel_rfl))⟩
  f13 := ⟨Tryz.f98.name, by decide, Tryz.func98.trans (congrArg some (by kernel_rfl))⟩
  f14 := ⟨Tryz.f99.name, by decide, Tryz.func99.trans (congrArg some (by kernel_rfl))⟩
  f15 := ⟨Tryz.f100.name, by decide, Tryz.func100.trans (congrArg some (by kernel_rfl))⟩
  f16 := ⟨Tryz.f101.name, by decide, Tryz.func101.trans (congrArg some (by kernel_rfl))⟩
  f17 := ⟨Tryz.f102.name, by decide, Tryz.func102.trans (congrArg some (by kernel_rfl))⟩
  f18 := ⟨Tryz.f103.name, by decide, Tryz.func103.trans (congrArg some (by kernel_rfl))⟩
  f19 := Tryz.func104.trans (congrArg some (by kernel_rfl))
  f20 := Tryz.func105.trans (congrArg some (by kernel_rfl))
  f30 := ⟨Tryz.f115.name, by decide, Tryz.func115.trans (congrArg some (by kernel_rfl))⟩
  f31 := Tryz.func116.trans (congrArg some (by kernel_rfl))
  f32 := Tryz.func117.trans (congrArg some (by kernel_rfl))
  f33 := ⟨Tryz.f118.name, by decide, Tryz.func118.trans (congrArg some (by kernel_rfl))⟩
  f34 := ⟨Tryz.f119.name, by decide, Tryz.func119.trans (congrArg some (by kernel_rfl))⟩
  f35 := ⟨Tryz.f114.name, by decide, Tryz.func114.trans (congrArg some (by kernel_rfl))⟩
  f40 := ⟨Tryz.f125.name, by decide, Tryz.func125.trans (congrArg some (by kernel_rfl))⟩
  t0 := Tryz.underlying0
  a0 := Tryz.isAgg0
  z0 := Tryz.sizeOf0
  v0 := Tryz.zeroValue0
  t3 := Tryz.underlying3
  a3 := Tryz.isAgg3
  z3 := Tryz.sizeOf3
  v3 := Tryz.zeroValue3
  t4 := Tryz.underlying4
  a4 := Tryz.isAgg4
  z4 := Tryz.sizeOf4
  v4 := Tryz.zeroValue4
  t5 := Tryz.underlying5
  a5 := Tryz.isAgg5
  z5 := Tryz.sizeOf5
  v5 := Tryz.zeroValue5
  t9 := Tryz.underlying9
  a9 := Tryz.isAgg9
  z9 := Tryz.sizeOf9
  v9 := Tryz.zeroValue9
  t22 := Tryz.underlying24
  a22 := Tryz.isAgg24
  z22 := Tryz.sizeOf24
  v22 := Tryz.zeroValue24
  t23 := Tryz.underlying24
  a23 := Tryz.isAgg24
  z23 := Tryz.sizeOf24
  v23 := Tryz.zeroValue24
  t25 := Tryz.underlying3
  a25 := Tryz.isAgg3
  z25 := Tryz.sizeOf3
  v25 := Tryz.zeroValue3
  t32 := Tryz.underlying124
  a32 := Tryz.isAgg124
  z32 := Tryz.sizeOf124
  v32 := Tryz.zeroValue124
  t35 := Tryz.underlying140
  a35 := Tryz.isAgg140
  z35 := Tryz.sizeOf140
  v35 := Tryz.zeroValue140
  t36 := Tryz.underlying141
  a36 := Tryz.isAgg141
  z36 := Tryz.sizeOf141
  v36 := Tryz.zeroValue141
  t41 := Tryz.underlying38
  a41 := Tryz.isAgg38
  z41 := Tryz.sizeOf38
  v41 := Tryz.zeroValue38
  t44 := Tryz.underlying148
  a44 := Tryz.isAgg148
  z44 := Tryz.sizeOf148
  v44 := Tryz.zeroValue148
  t46 := Tryz.underlying150
  a46 := Tryz.isAgg150
  z46 := Tryz.sizeOf150
  v46 := Tryz.zeroValue150
  t53 := Tryz.underlying157
  a53 := Tryz.isAgg157
  z53 := Tryz.sizeOf157
  v53 := Tryz.zeroValue157
  t57 := Tryz.underlying161
  a57 := Tryz.isAgg161
  z57 := Tryz.sizeOf161
  v57 := Tryz.zeroValue161
  t63 := Tryz.underlying168
  a63 := Tryz.isAgg168
  z63 := Tryz.sizeOf168
  v63 := Tryz.zeroValue168
  t64 := Tryz.underlying151
  a64 := Tryz.isAgg151
  z64 := Tryz.sizeOf151
  v64 := Tryz.zeroValue151 }
open Go.Sort Go.RowKit in
theorem Tryz.slices_Sort_int (blk off cap : Nat) (zs : List Int) (w : World) (hH : Holds (Value.int .i64) w blk off zs.toArray) (hblk : blk < w.heap.size) (hsz : zs.length < 4611686018427387904) :
    Calls Tryz.prog 36 #[.slice (some ⟨blk, off, none⟩) zs.length cap] w fun e w' =>
      e = .returned (.tuple #[]) ∧ ∃ n os, w' = grow (putRow (Value.int .i64) (Sort.ahead w n) blk off (zs.mergeSort fun x y => decide (x ≤ y)).toArray) os := AnyM.slices_Sort_int Tryz.laysSlM5_f36 blk off cap zs w hH hblk hsz
open Go.RowKit Go.Sort in
theorem Tryz.slices_Sort_int_none (p : Option Addr) (cap : Nat) (w : World) :
    Calls Tryz.prog 36 #[.slice p 0 cap] w fun e w' => e = .returned (.tuple #[]) ∧ w' = w := AnyM.slices_Sort_int_none Tryz.laysSlM5_f36 p cap w
end Go.Proofs
namespace Go.Proofs.YtljhdcclajikiaaGreatDoor
set_option linter.all false
set_option linter.unusedVariables false
set_option linter.unusedSimpArgs false
open Go.RowKit
theorem Sat.own1 {w : World} {A : Option Addr} {n cp : Nat} {E : TypeId} {sz : Nat} {r : Nat → List Value} (h : OwnR w A n cp E sz r) : Sat (feet [.own A n cp E sz r]) w [.own A n cp E sz r] w :=
  ⟨Chg.refl _ _, by cases A <;> simp [feet, Fact.foot], fun b hb => .inl hb, by intro φ hφ; obtain rfl := List.mem_singleton.1 hφ; exact h⟩
theorem own_putRow {w : World} {G cp : Nat} {E : TypeId} {L M : List Int} (os : Array Obj) (n : Nat) (hl : M.length = L.length) (h : OwnR w (some ⟨G, 0, none⟩) L.length cp E 1 (iL L)) :
    Sat [G] w [.own (some ⟨G, 0, none⟩) L.length cp E 1 (iL M)] (Sort.grow (Sort.putRow (Value.int .i64) (Sort.ahead w n) G 0 M.toArray) os) := by
  rcases h.own.2 with ⟨e, _⟩ | ⟨g, cap, cur, e, hg, hh, hnc, hcm, hcs, ht⟩
  · cases e
  · simp only [Value.slice.injEq, Option.some.injEq, Addr.mk.injEq, and_true, true_and] at e
    obtain ⟨rfl, rfl⟩ := e
    have hlt := lt_of_get hh
    have hsz : L.length * 1 ≤ cur.size := by rw [hcs]; exact Nat.mul_le_mul_right _ hnc
    have hheap : (Sort.putRow (Value.int .i64) (Sort.ahead w n) G 0 M.toArray).heap = w.heap.modify G (Sort.onCells (Sort.putCells (Value.int .i64) 0 M.toArray)) := rfl
    have hget : (Sort.grow (Sort.putRow (Value.int .i64) (Sort.ahead w n) G 0 M.toArray) os).heap[G]? = some (.cells (Sort.putCells (Value.int .i64) 0 M.toArray cur) E (0, 0)) := by
      show ((Sort.putRow (Value.int .i64) (Sort.ahead w n) G 0 M.toArray).heap ++ os)[G]? = _
      rw [hheap, Array.getElem?_append_left (by simpa using hlt), Array.getElem?_modify, if_pos rfl, hh]
      rfl
    have hps : (Sort.putCells (Value.int .i64) 0 M.toArray cur).size = cur.size := by simp [Sort.putCells]
    refine Sat.one ⟨rfl, rfl, rfl, ?_, fun k hk hS => ?_⟩ (by simp [Fact.foot]) (fun q hq => .inl hq) ⟨⟨by rw [flat_length], .inr ⟨G, cp, _, rfl, hg, hget, hnc, hcm, by rw [hps, hcs], ?_⟩⟩, fun i hi => rfl⟩
    · show w.heap.size ≤ ((Sort.putRow (Value.int .i64) (Sort.ahead w n) G 0 M.toArray).heap ++ os).size
      rw [hheap]
      simp
    · show ((Sort.putRow (Value.int .i64) (Sort.ahead w n) G 0 M.toArray).heap ++ os)[k]? = _
      rw [hheap, Array.getElem?_append_left (by simpa using hk), Array.getElem?_modify, if_neg (fun e => hS (by simp [e]))]
    · apply List.ext_getElem?
      intro k
      by_cases hk : k < L.length * 1
      · have h1 := flat_get (f := rowF (iL M)) (n := L.length) (sz := 1) (i := k) (j := 0) (by omega) (by omega)
        rw [Nat.mul_one, Nat.add_zero] at h1
        rw [h1, List.getElem?_take, if_pos hk]
        simp only [Sort.putCells, Array.getElem?_toList, Array.getElem?_mapIdx, Array.getElem?_eq_getElem (show k < cur.size by omega), Option.map_some]
        have hk2 : k < M.length := by omega
        rw [if_pos ⟨Nat.zero_le _, by simpa using hk2⟩]
        simp [rowF, iL, List.getD_eq_getElem?_getD, hk2]
      · rw [List.getElem?_eq_none (by rw [List.length_take]; omega), List.getElem?_eq_none (by rw [flat_length]; omega)]
theorem sortI_any {w : World} {A : Option Addr} {n cp : Nat} {L : List Int} (hn : n = L.length) (h1 : n ≤ 1000000) (h : OwnR w A n cp 3 1 (iL L)) :
    CallsK Tryz.prog 36 #[.slice A n cp] [.own A n cp 3 1 (iL L)] w Unit (fun _ => .tuple #[]) (fun _ => [.own A n cp 3 1 (iL (srt L))]) := by
  subst hn
  rcases h.own.2 with ⟨e, h0⟩ | ⟨g, cap, cur, e, hg, hh, hnc, hcm, hcs, ht⟩
  · have hL : L = [] := List.length_eq_zero_iff.1 h0
    subst hL
    refine (Tryz.slices_Sort_int_none A cp w).mono ?_
    rintro e' w' ⟨rfl, rfl⟩
    refine ⟨(), rfl, ?_⟩
    rw [srt_nil]
    exact Sat.own1 h
  · simp only [Value.slice.injEq] at e
    obtain ⟨rfl, _, rfl⟩ := e
    have hlt := lt_of_get hh
    have hH : Sort.Holds (Value.int .i64) w g 0 L.toArray := fun j hj => by
      have hj' : j < L.length := by simpa using hj
      have hrd := h.own.form1 (by omega)
      obtain ⟨g', c', e, _, _, _, hcell, hfr⟩ := hrd
      cases e
      refine ⟨?_, hfr _⟩
      have := hcell j 0 hj' (by omega)
      rw [Nat.mul_one, Nat.add_zero] at this
      rw [Nat.zero_add, this]
      simp [rowF, iL, List.getD_eq_getElem?_getD, hj']
    refine (Tryz.slices_Sort_int g 0 cp L w hH hlt (by omega)).mono ?_
    rintro e' w' ⟨rfl, n, os, rfl⟩
    rw [ms_srt]
    exact ⟨(), rfl, own_putRow os n (srt_len L) h⟩
theorem indexI_any {w : World} {A : Option Addr} {n cp : Nat} {L : List Int} (x : Int) (hn : n = L.length) (h1 : n ≤ 1000000) (hR : RdR w 1 A n (iL L)) :
    Calls Tryz.prog 89 #[.slice A n cp, .int .i64 x] w fun e w' => ∃ k : Int, Ret w (.int .i64 k) e w' ∧ decide (0 ≤ k) = L.contains x := by
  subst hn
  refine K_enter (S := []) (K := []) Tryz.func89 rfl Tryz.ntmps89 rfl (Sat.start _) ?_
  refine TW.seq fun Y1 hY1 => ?_
  refine TW.region ?_
  refine TL.p Pu.as ?_
  refine TL.nil ?_
  refine TQ.thenN (hY1 _ _ ?_)
  refine TW.seq fun Y2 hY2 => ?_
  refine TW.seq fun Y3 hY3 => ?_
  refine TW.region ?_
  refine TL.p Pu.mv ?_
  refine TL.p (Pu.ln Tryz.underlying24) ?_
  refine TL.p Pu.mv ?_
  refine TL.nil ?_
  refine TQ.thenN (hY3 _ _ ?_)
  refine TW.block ?_
  refine TW.loop1 (fun (k : Nat) => [(8, .int .i64 (k : Int)), (7, .int .i64 (L.length : Int)), (0, .slice A L.length cp), (1, .int .i64 x)]) (fun k => []) (fun k => k ≤ L.length ∧ ∀ j, j < k → L.getD j 0 ≠ x) (fun k => L.length - k) 0 (by repeat (first | exact trivial | refine ⟨rfl, ?_⟩ | refine ⟨trivial, ?_⟩)) ?_ ?_ ?_
  · exact (by repeat (first | exact KSub.nil | refine KSub.cons (by repeat (first | exact Pick.hd | apply Pick.tl)) ?_))
  · exact ⟨Nat.zero_le _, fun j hj => by omega⟩
  rintro k ⟨hk, hall⟩ Z0 hZ0
  refine TW.seq fun Y4 hY4 => ?_
  refine TW.region ?_
  refine TL.p Pu.lt ?_
  refine TL.nil ?_
  refine TQ.thenN (hY4 _ _ ?_)
  refine TW.seq fun Y5 hY5 => ?_
  refine TW.cond rfl (fun hc0 => ?_) (fun hc0 => ?_)
  · try simp only [decide_eq_true_eq, decide_eq_false_iff_not, Bool.not_eq_true', Bool.not_eq_false', Bool.and_eq_true, Bool.or_eq_true, Bool.and_eq_false_iff, Bool.or_eq_false_iff, Int.not_lt, Int.not_le] at hc0
    have hkn : k < L.length := by omega
    refine TW.skip ?_
    refine TQ.thenN (hY5 _ _ ?_)
    refine TW.seq fun Y6 hY6 => ?_
    refine TW.block ?_
    refine TW.seq fun Y7 hY7 => ?_
    refine TW.region ?_
    refine TL.p Pu.mv ?_
    refine TL.p Pu.as ?_
    refine TL.nil ?_
    refine TQ.thenN (hY7 _ _ ?_)
    refine TW.seq fun Y8 hY8 => ?_
    refine TW.region ?_
    refine TL.p Pu.mv ?_
    refine TL.p Pu.mv ?_
    refine TL.p Pu.mv ?_
    refine TL.p (Pu.el ty_et24) ?_
    refine TL.p (Pu.ld ty_sc3) ?_
    refine TL.p Pu.eq ?_
    refine TL.nil ?_
    refine TQ.thenN (hY8 _ _ ?_)
    refine TW.cond rfl (fun hc1 => ?_) (fun hc1 => ?_)
    · try simp only [decide_eq_true_eq, decide_eq_false_iff_not, Bool.not_eq_true', Bool.not_eq_false', Bool.and_eq_true, Bool.or_eq_true, Bool.and_eq_false_iff, Bool.or_eq_false_iff, Int.not_lt, Int.not_le] at hc1
      have hx : L.getD k 0 = x := hc1.symm
      refine TW.seq fun Y9 hY9 => ?_
      refine TW.region ?_
      refine TL.p Pu.mv ?_
      refine TL.p Pu.as ?_
      refine TL.nil ?_
      refine TQ.thenN (hY9 _ _ ?_)
      refine TW.ret ?_
      refine TQ.blkR ?_
      refine TQ.thenR ?_
      refine TQ.thenR ?_
      refine TQ.blkR ?_
      refine TQ.thenR ?_
      refine TQ.ret Tryz.results89 rfl ((.tmp rfl .nil)) ?_
      exact fun w hw => ⟨_, Ret.of hw, by rw [List.contains_iff_mem.2 (hx ▸ mem_getD hkn)]; simp⟩
    · try simp only [decide_eq_true_eq, decide_eq_false_iff_not, Bool.not_eq_true', Bool.not_eq_false', Bool.and_eq_true, Bool.or_eq_true, Bool.and_eq_false_iff, Bool.or_eq_false_iff, Int.not_lt, Int.not_le] at hc1
      have hx : L.getD k 0 ≠ x := fun h => hc1 h.symm
      refine TW.skip ?_
      refine TQ.blkN ?_
      refine TQ.thenN (hY6 _ _ ?_)
      refine TW.region ?_
      refine TL.p Pu.ad ?_
      refine TL.p Pu.mv ?_
      refine TL.nil ?_
      refine TQ.thenN (hZ0 (k + 1) _ _ ?_ ?_ (by repeat (first | exact trivial | refine ⟨rfl, ?_⟩ | refine ⟨trivial, ?_⟩)) ?_)
      · refine ⟨by omega, fun j hj => ?_⟩
        by_cases h : j = k
        · subst h; exact hx
        · exact hall j (by omega)
      · exact (by first | omega | (simp only []; omega) | (simp; omega))
      · exact (by repeat (first | exact KSub.nil | refine KSub.cons (by repeat (first | exact Pick.hd | apply Pick.tl)) ?_))
  · try simp only [decide_eq_true_eq, decide_eq_false_iff_not, Bool.not_eq_true', Bool.not_eq_false', Bool.and_eq_true, Bool.or_eq_true, Bool.and_eq_false_iff, Bool.or_eq_false_iff, Int.not_lt, Int.not_le] at hc0
    have hkn : k = L.length := by omega
    refine TW.exit ?_
    refine TQ.thenX ?_
    refine TQ.thenX ?_
    refine TQ.blkX ?_
    refine TQ.thenN (hY2 _ _ ?_)
    refine TW.seq fun Y10 hY10 => ?_
    refine TW.region ?_
    refine TL.p Pu.as ?_
    refine TL.nil ?_
    refine TQ.thenN (hY10 _ _ ?_)
    refine TW.ret ?_
    refine TQ.ret Tryz.results89 rfl ((.tmp rfl .nil)) ?_
    exact fun w hw => ⟨_, Ret.of hw, by
      have : L.contains x = false := by
        rw [Bool.eq_false_iff]
        intro h
        obtain ⟨j, hj, e⟩ := List.getElem_of_mem (List.contains_iff_mem.1 h)
        exact hall j (by omega) (by simp [List.getD_eq_getElem?_getD, hj, e])
      rw [this]
      rfl⟩
theorem CallsK.some {P : Program} {f : FuncId} {args : Array Value} {w : World} {X : Type} {v : X → Value} (h : Calls P f args w fun e w' => ∃ x, Ret w (v x) e w') : CallsK P f args [] w X v (fun _ => []) := h.mono fun e w' ⟨x, h1, h2⟩ => ⟨x, h1, Sat.nil (Chg.of_ext h2)⟩
theorem hasI_any {w : World} {A : Option Addr} {n cp : Nat} {L : List Int} (x : Int) (hn : n = L.length) (h1 : n ≤ 1000000) (hR : RdR w 1 A n (iL L)) :
    Calls Tryz.prog 60 #[.slice A n cp, .int .i64 x] w (Ret w (.bool (L.contains x))) := by
  refine K_enter (S := []) (K := []) Tryz.func60 rfl Tryz.ntmps60 rfl (Sat.start _) ?_
  refine TW.seq fun Y1 hY1 => ?_
  refine TW.region ?_
  refine TL.p Pu.as ?_
  refine TL.nil ?_
  refine TQ.thenN (hY1 _ _ ?_)
  refine TW.seq fun Y2 hY2 => ?_
  refine TW.region ?_
  refine TL.p Pu.mv ?_
  refine TL.p Pu.mv ?_
  refine TL.call (M := []) rfl (enters Tryz.func89 rfl rfl) (List.Perm.refl _) rfl (fun w hw => by
      exact CallsK.some (X := { k : Int // decide (0 ≤ k) = L.contains x }) (v := fun k => .int .i64 k.1) ((indexI_any x hn h1 (hR.sat hw Apart.nil)).mono fun e w' ⟨k, h2, h3⟩ => ⟨⟨k, h3⟩, h2⟩)) ?_
  rintro ⟨k, hk⟩
  refine TL.p Pu.ge ?_
  refine TL.p Pu.as ?_
  refine TL.nil ?_
  refine TQ.thenN (hY2 _ _ ?_)
  refine TW.ret ?_
  refine TQ.ret Tryz.results60 rfl ((.tmp rfl .nil)) ?_
  exact fun w hw => ⟨ret_bool hk.symm, Chg.ext hw.chg⟩
theorem isNaN_any (a : Int) (w : World) : Calls Tryz.prog 114 #[.int .i64 a] w (Ret w (.bool false)) := by
  refine K_enter (S := []) (K := []) Tryz.func114 rfl Tryz.ntmps114 rfl (Sat.start _) ?_
  refine TW.seq fun Y1 hY1 => ?_
  refine TW.region ?_
  refine TL.p Pu.as ?_
  refine TL.nil ?_
  refine TQ.thenN (hY1 _ _ ?_)
  refine TW.seq fun Y2 hY2 => ?_
  refine TW.region ?_
  refine TL.p Pu.mv ?_
  refine TL.p Pu.mv ?_
  refine TL.p Pu.ne ?_
  refine TL.p Pu.as ?_
  refine TL.nil ?_
  refine TQ.thenN (hY2 _ _ ?_)
  refine TW.ret ?_
  refine TQ.ret Tryz.results114 rfl ((.tmp rfl .nil)) ?_
  exact fun w hw => ⟨ret_bool (by simp), Chg.ext hw.chg⟩
theorem compare_any (a b : Int) (w : World) : Calls Tryz.prog 94 #[.int .i64 a, .int .i64 b] w (Ret w (.int .i64 (cmpV a b))) := by
  refine K_enter (S := []) (K := []) Tryz.func94 rfl Tryz.ntmps94 rfl (Sat.start _) ?_
  refine TW.seq fun Y1 hY1 => ?_
  refine TW.region ?_
  refine TL.p Pu.as ?_
  refine TL.nil ?_
  refine TQ.thenN (hY1 _ _ ?_)
  refine TW.seq fun Y2 hY2 => ?_
  refine TW.region ?_
  refine TL.p Pu.mv ?_
  refine TL.cr rfl (enters Tryz.func114 rfl rfl) (fun w hw => by
      exact isNaN_any _ _) ?_
  refine TL.p Pu.as ?_
  refine TL.nil ?_
  refine TQ.thenN (hY2 _ _ ?_)
  refine TW.seq fun Y3 hY3 => ?_
  refine TW.region ?_
  refine TL.p Pu.mv ?_
  refine TL.cr rfl (enters Tryz.func114 rfl rfl) (fun w hw => by
      exact isNaN_any _ _) ?_
  refine TL.p Pu.as ?_
  refine TL.nil ?_
  refine TQ.thenN (hY3 _ _ ?_)
  refine TW.seq fun Y4 hY4 => ?_
  refine TW.seq fun Y5 hY5 => ?_
  refine TW.region ?_
  refine TL.p Pu.mv ?_
  refine TL.nil ?_
  refine TQ.thenN (hY5 _ _ ?_)
  refine TW.condF rfl rfl ?_
  refine TW.skip ?_
  refine TQ.thenN (hY4 _ _ ?_)
  refine TW.seq fun Y6 hY6 => ?_
  refine TW.seq fun Y7 hY7 => ?_
  refine TW.region ?_
  refine TL.p Pu.mv ?_
  refine TL.nil ?_
  refine TQ.thenN (hY7 _ _ ?_)
  refine TW.condF rfl rfl ?_
  refine TW.skip ?_
  refine TQ.thenN (hY6 _ _ ?_)
  refine TW.seq fun Y8 hY8 => ?_
  refine TW.seq fun Y9 hY9 => ?_
  refine TW.region ?_
  refine TL.p Pu.mv ?_
  refine TL.p Pu.mv ?_
  refine TL.p Pu.lt ?_
  refine TL.nil ?_
  refine TQ.thenN (hY9 _ _ ?_)
  refine TW.cond rfl (fun hc3 => ?_) (fun hc3 => ?_)
  · try simp only [decide_eq_true_eq, decide_eq_false_iff_not, Bool.not_eq_true', Bool.not_eq_false', Bool.and_eq_true, Bool.or_eq_true, Bool.and_eq_false_iff, Bool.or_eq_false_iff, Int.not_lt, Int.not_le] at hc3
    have h1 : a < b := by omega
    refine TW.seq fun Y10 hY10 => ?_
    refine TW.region ?_
    refine TL.p Pu.as ?_
    refine TL.nil ?_
    refine TQ.thenN (hY10 _ _ ?_)
    refine TW.ret ?_
    refine TQ.thenR ?_
    refine TQ.ret Tryz.results94 rfl ((.tmp rfl .nil)) ?_
    exact fun w hw => ⟨ret_int (by unfold cmpV; rw [if_pos h1]), Chg.ext hw.chg⟩
  · try simp only [decide_eq_true_eq, decide_eq_false_iff_not, Bool.not_eq_true', Bool.not_eq_false', Bool.and_eq_true, Bool.or_eq_true, Bool.and_eq_false_iff, Bool.or_eq_false_iff, Int.not_lt, Int.not_le] at hc3
    have h1 : ¬ a < b := by omega
    refine TW.skip ?_
    refine TQ.thenN (hY8 _ _ ?_)
    refine TW.seq fun Y11 hY11 => ?_
    refine TW.seq fun Y12 hY12 => ?_
    refine TW.region ?_
    refine TL.p Pu.mv ?_
    refine TL.p Pu.mv ?_
    refine TL.p Pu.gt ?_
    refine TL.nil ?_
    refine TQ.thenN (hY12 _ _ ?_)
    refine TW.cond rfl (fun hc4 => ?_) (fun hc4 => ?_)
    · try simp only [decide_eq_true_eq, decide_eq_false_iff_not, Bool.not_eq_true', Bool.not_eq_false', Bool.and_eq_true, Bool.or_eq_true, Bool.and_eq_false_iff, Bool.or_eq_false_iff, Int.not_lt, Int.not_le] at hc4
      have h2 : b < a := by omega
      refine TW.seq fun Y13 hY13 => ?_
      refine TW.region ?_
      refine TL.p Pu.as ?_
      refine TL.nil ?_
      refine TQ.thenN (hY13 _ _ ?_)
      refine TW.ret ?_
      refine TQ.thenR ?_
      refine TQ.ret Tryz.results94 rfl ((.tmp rfl .nil)) ?_
      exact fun w hw => ⟨ret_int (by unfold cmpV; rw [if_neg h1, if_pos h2]), Chg.ext hw.chg⟩
    · try simp only [decide_eq_true_eq, decide_eq_false_iff_not, Bool.not_eq_true', Bool.not_eq_false', Bool.and_eq_true, Bool.or_eq_true, Bool.and_eq_false_iff, Bool.or_eq_false_iff, Int.not_lt, Int.not_le] at hc4
      have h2 : ¬ b < a := by omega
      refine TW.skip ?_
      refine TQ.thenN (hY11 _ _ ?_)
      refine TW.seq fun Y14 hY14 => ?_
      refine TW.region ?_
      refine TL.p Pu.as ?_
      refine TL.nil ?_
      refine TQ.thenN (hY14 _ _ ?_)
      refine TW.ret ?_
      refine TQ.ret Tryz.results94 rfl ((.tmp rfl .nil)) ?_
      exact fun w hw => ⟨ret_int (by unfold cmpV; rw [if_neg h1, if_neg h2]), Chg.ext hw.chg⟩
theorem drop_getD {L : List Int} {k : Nat} (h : k < L.length) : L.drop k = L.getD k 0 :: L.drop (k + 1) := by
  rw [List.drop_eq_getElem_cons h]
  simp [List.getD_eq_getElem?_getD, h]
theorem compareI_any {w : World} {A B : Option Addr} {n m cp cq : Nat} {L M : List Int} (hn : n = L.length) (hm : m = M.length) (h1 : n ≤ 1000000) (h2 : m ≤ 1000000) (hR : RdR w 1 A n (iL L)) (hS : RdR w 1 B m (iL M)) :
    Calls Tryz.prog 65 #[.slice A n cp, .slice B m cq] w (Ret w (.int .i64 (cmpI L M))) := by
  subst hn hm
  refine K_enter (S := []) (K := []) Tryz.func65 rfl Tryz.ntmps65 rfl (Sat.start _) ?_
  refine TW.seq fun Y1 hY1 => ?_
  refine TW.region ?_
  refine TL.p Pu.as ?_
  refine TL.nil ?_
  refine TQ.thenN (hY1 _ _ ?_)
  refine TW.seq fun Y2 hY2 => ?_
  refine TW.seq fun Y3 hY3 => ?_
  refine TW.region ?_
  refine TL.p Pu.mv ?_
  refine TL.p (Pu.ln Tryz.underlying24) ?_
  refine TL.p Pu.mv ?_
  refine TL.nil ?_
  refine TQ.thenN (hY3 _ _ ?_)
  refine TW.block ?_
  refine TW.loop1 (fun (k : Nat) => [(11, .int .i64 (k : Int)), (10, .int .i64 (L.length : Int)), (9, .slice A L.length cp), (0, .slice A L.length cp), (1, .slice B M.length cq)]) (fun k => []) (fun k => k ≤ L.length ∧ k ≤ M.length ∧ cmpI L M = cmpI (L.drop k) (M.drop k)) (fun k => L.length - k) 0 (by repeat (first | exact trivial | refine ⟨rfl, ?_⟩ | refine ⟨trivial, ?_⟩)) ?_ ?_ ?_
  · exact (by repeat (first | exact KSub.nil | refine KSub.cons (by repeat (first | exact Pick.hd | apply Pick.tl)) ?_))
  · exact ⟨Nat.zero_le _, Nat.zero_le _, rfl⟩
  rintro k ⟨hk, hkm, he⟩ Z0 hZ0
  refine TW.seq fun Y4 hY4 => ?_
  refine TW.region ?_
  refine TL.p Pu.lt ?_
  refine TL.nil ?_
  refine TQ.thenN (hY4 _ _ ?_)
  refine TW.seq fun Y5 hY5 => ?_
  refine TW.cond rfl (fun hc0 => ?_) (fun hc0 => ?_)
  · try simp only [decide_eq_true_eq, decide_eq_false_iff_not, Bool.not_eq_true', Bool.not_eq_false', Bool.and_eq_true, Bool.or_eq_true, Bool.and_eq_false_iff, Bool.or_eq_false_iff, Int.not_lt, Int.not_le] at hc0
    have hkn : k < L.length := by omega
    have dL := drop_getD hkn
    refine TW.skip ?_
    refine TQ.thenN (hY5 _ _ ?_)
    refine TW.seq fun Y6 hY6 => ?_
    refine TW.block ?_
    refine TW.seq fun Y7 hY7 => ?_
    refine TW.region ?_
    refine TL.p Pu.mv ?_
    refine TL.p (Pu.el ty_et24) ?_
    refine TL.p (Pu.ld ty_sc3) ?_
    refine TL.p Pu.as ?_
    refine TL.p Pu.as ?_
    refine TL.nil ?_
    refine TQ.thenN (hY7 _ _ ?_)
    refine TW.seq fun Y8 hY8 => ?_
    refine TW.seq fun Y9 hY9 => ?_
    refine TW.region ?_
    refine TL.p Pu.mv ?_
    refine TL.p Pu.mv ?_
    refine TL.p (Pu.ln Tryz.underlying24) ?_
    refine TL.p Pu.ge ?_
    refine TL.nil ?_
    refine TQ.thenN (hY9 _ _ ?_)
    refine TW.cond rfl (fun hc1 => ?_) (fun hc1 => ?_)
    · try simp only [decide_eq_true_eq, decide_eq_false_iff_not, Bool.not_eq_true', Bool.not_eq_false', Bool.and_eq_true, Bool.or_eq_true, Bool.and_eq_false_iff, Bool.or_eq_false_iff, Int.not_lt, Int.not_le] at hc1
      have dM : M.drop k = [] := List.drop_eq_nil_of_le (by omega)
      refine TW.seq fun Y10 hY10 => ?_
      refine TW.region ?_
      refine TL.p Pu.as ?_
      refine TL.nil ?_
      refine TQ.thenN (hY10 _ _ ?_)
      refine TW.ret ?_
      refine TQ.thenR ?_
      refine TQ.blkR ?_
      refine TQ.thenR ?_
      refine TQ.thenR ?_
      refine TQ.blkR ?_
      refine TQ.thenR ?_
      refine TQ.ret Tryz.results65 rfl ((.tmp rfl .nil)) ?_
      exact fun w hw => ⟨ret_int (by rw [he, dL, dM]; rfl), Chg.ext hw.chg⟩
    · try simp only [decide_eq_true_eq, decide_eq_false_iff_not, Bool.not_eq_true', Bool.not_eq_false', Bool.and_eq_true, Bool.or_eq_true, Bool.and_eq_false_iff, Bool.or_eq_false_iff, Int.not_lt, Int.not_le] at hc1
      have hkm2 : k < M.length := by omega
      have dM := drop_getD hkm2
      refine TW.skip ?_
      refine TQ.thenN (hY8 _ _ ?_)
      refine TW.seq fun Y11 hY11 => ?_
      refine TW.region ?_
      refine TL.p Pu.mv ?_
      refine TL.p Pu.mv ?_
      refine TL.p (Pu.el ty_et24) ?_
      refine TL.p (Pu.ld ty_sc3) ?_
      refine TL.p Pu.as ?_
      refine TL.nil ?_
      refine TQ.thenN (hY11 _ _ ?_)
      refine TW.seq fun Y12 hY12 => ?_
      refine TW.region ?_
      refine TL.p Pu.mv ?_
      refine TL.p Pu.mv ?_
      refine TL.cr rfl (enters Tryz.func94 rfl rfl) (fun w hw => by
          exact compare_any _ _ _) ?_
      refine TL.p Pu.as ?_
      refine TL.nil ?_
      refine TQ.thenN (hY12 _ _ ?_)
      refine TW.seq fun Y13 hY13 => ?_
      refine TW.region ?_
      refine TL.p Pu.mv ?_
      refine TL.p Pu.ne ?_
      refine TL.nil ?_
      refine TQ.thenN (hY13 _ _ ?_)
      refine TW.cond rfl (fun hc2 => ?_) (fun hc2 => ?_)
      · try simp only [decide_eq_true_eq, decide_eq_false_iff_not, Bool.not_eq_true', Bool.not_eq_false', Bool.and_eq_true, Bool.or_eq_true, Bool.and_eq_false_iff, Bool.or_eq_false_iff, Int.not_lt, Int.not_le] at hc2
        have hv : cmpV (L.getD k 0) (M.getD k 0) ≠ 0 := by simpa using hc2
        refine TW.seq fun Y14 hY14 => ?_
        refine TW.region ?_
        refine TL.p Pu.mv ?_
        refine TL.p Pu.as ?_
        refine TL.nil ?_
        refine TQ.thenN (hY14 _ _ ?_)
        refine TW.ret ?_
        refine TQ.blkR ?_
        refine TQ.thenR ?_
        refine TQ.thenR ?_
        refine TQ.blkR ?_
        refine TQ.thenR ?_
        refine TQ.ret Tryz.results65 rfl ((.tmp rfl .nil)) ?_
        exact fun w hw => ⟨ret_int (by rw [he, dL, dM]; simp only [cmpI, if_neg hv]), Chg.ext hw.chg⟩
      · try simp only [decide_eq_true_eq, decide_eq_false_iff_not, Bool.not_eq_true', Bool.not_eq_false', Bool.and_eq_true, Bool.or_eq_true, Bool.and_eq_false_iff, Bool.or_eq_false_iff, Int.not_lt, Int.not_le] at hc2
        have hv : cmpV (L.getD k 0) (M.getD k 0) = 0 := by simpa using hc2
        refine TW.skip ?_
        refine TQ.blkN ?_
        refine TQ.thenN (hY6 _ _ ?_)
        refine TW.region ?_
        refine TL.p Pu.ad ?_
        refine TL.p Pu.mv ?_
        refine TL.nil ?_
        refine TQ.thenN (hZ0 (k + 1) _ _ ?_ ?_ (by repeat (first | exact trivial | refine ⟨rfl, ?_⟩ | refine ⟨trivial, ?_⟩)) ?_)
        · exact ⟨by omega, by omega, by rw [he, dL, dM]; simp only [cmpI, if_pos hv]⟩
        · exact (by first | omega | (simp only []; omega) | (simp; omega))
        · exact (by repeat (first | exact KSub.nil | refine KSub.cons (by repeat (first | exact Pick.hd | apply Pick.tl)) ?_))
  · try simp only [decide_eq_true_eq, decide_eq_false_iff_not, Bool.not_eq_true', Bool.not_eq_false', Bool.and_eq_true, Bool.or_eq_true, Bool.and_eq_false_iff, Bool.or_eq_false_iff, Int.not_lt, Int.not_le] at hc0
    have hkn : k = L.length := by omega
    refine TW.exit ?_
    refine TQ.thenX ?_
    refine TQ.thenX ?_
    refine TQ.blkX ?_
    refine TQ.thenN (hY2 _ _ ?_)
    refine TW.seq fun Y15 hY15 => ?_
    refine TW.seq fun Y16 hY16 => ?_
    refine TW.region ?_
    refine TL.p Pu.mv ?_
    refine TL.p (Pu.ln Tryz.underlying24) ?_
    refine TL.p Pu.mv ?_
    refine TL.p (Pu.ln Tryz.underlying24) ?_
    refine TL.p Pu.lt ?_
    refine TL.nil ?_
    refine TQ.thenN (hY16 _ _ ?_)
    refine TW.cond rfl (fun hc3 => ?_) (fun hc3 => ?_)
    · try simp only [decide_eq_true_eq, decide_eq_false_iff_not, Bool.not_eq_true', Bool.not_eq_false', Bool.and_eq_true, Bool.or_eq_true, Bool.and_eq_false_iff, Bool.or_eq_false_iff, Int.not_lt, Int.not_le] at hc3
      have hlt : L.length < M.length := by omega
      refine TW.seq fun Y17 hY17 => ?_
      refine TW.region ?_
      refine TL.p Pu.as ?_
      refine TL.nil ?_
      refine TQ.thenN (hY17 _ _ ?_)
      refine TW.ret ?_
      refine TQ.thenR ?_
      refine TQ.ret Tryz.results65 rfl ((.tmp rfl .nil)) ?_
      exact fun w hw => ⟨ret_int (by rw [he, List.drop_eq_nil_of_le (by omega : L.length ≤ k), drop_getD (L := M) (by omega)]; rfl), Chg.ext hw.chg⟩
    · try simp only [decide_eq_true_eq, decide_eq_false_iff_not, Bool.not_eq_true', Bool.not_eq_false', Bool.and_eq_true, Bool.or_eq_true, Bool.and_eq_false_iff, Bool.or_eq_false_iff, Int.not_lt, Int.not_le] at hc3
      have hlt : ¬ L.length < M.length := by omega
      refine TW.skip ?_
      refine TQ.thenN (hY15 _ _ ?_)
      refine TW.seq fun Y18 hY18 => ?_
      refine TW.region ?_
      refine TL.p Pu.as ?_
      refine TL.nil ?_
      refine TQ.thenN (hY18 _ _ ?_)
      refine TW.ret ?_
      refine TQ.ret Tryz.results65 rfl ((.tmp rfl .nil)) ?_
      exact fun w hw => ⟨ret_int (by rw [he, List.drop_eq_nil_of_le (by omega : L.length ≤ k), List.drop_eq_nil_of_le (by omega : M.length ≤ k)]; rfl), Chg.ext hw.chg⟩
end Go.Proofs.YtljhdcclajikiaaGreatDoor
namespace Go.Proofs.YtljhdcclajikiaaGreatDoor
set_option linter.all false
set_option linter.unusedVariables false
set_option linter.unusedSimpArgs false
open Go.RowKit
theorem Chg.mono {S T : List Nat} {w w' : World} (h : Chg S w w') (hS : ∀ b ∈ S, b ∈ T) : Chg T w w' := ⟨h.os, h.tape, h.output, h.size, fun k hk hT => h.block k hk fun hm => hT (hS k hm)⟩
theorem filter_take {L : List Int} {p : Int → Bool} {k : Nat} (h : k < L.length) : (L.take (k + 1)).filter p = if p (L.getD k 0) = true then (L.take k).filter p ++ [L.getD k 0] else (L.take k).filter p := by
  rw [take_succ h, List.filter_append]
  by_cases hp : p (L.getD k 0) = true
  · rw [if_pos hp]; simp only [List.filter_cons, hp, if_true, List.filter_nil]
  · rw [if_neg hp]; simp only [List.filter_cons, hp, Bool.false_eq_true, if_false, List.filter_nil, List.append_nil]
theorem filter_all {L : List Int} {p : Int → Bool} : ∀ k, k ≤ L.length → (∀ j, j < k → p (L.getD j 0) = true) → (L.take k).filter p = L.take k
  | 0, _, _ => by simp
  | k + 1, h, hp => by rw [filter_take (by omega), if_pos (hp k (by omega)), filter_all k (by omega) fun j hj => hp j (by omega), ← take_succ (by omega)]
set_option maxRecDepth 100000 in
theorem deleteI_any {w : World} {A : Option Addr} {n cp : Nat} {L : List Int} {g : FuncId} {fs cs : List Value} {p : Int → Bool} (hn : n = L.length) (h1 : n ≤ 1000000) (hen : Enters Tryz.prog g) (h : OwnR w A n cp 3 1 (iL L))
    (hg : ∀ (x : Int) (w' : World), Chg (feet [.own A n cp 3 1 (iL L)]) w w' → Calls Tryz.prog g (fs ++ [Value.int .i64 x] ++ cs).toArray w' (Ret w' (.bool (p x)))) :
    CallsK Tryz.prog 58 #[.slice A n cp, .func (.func g) fs.toArray cs.toArray] [.own A n cp 3 1 (iL L)] w Unit (fun _ => .slice A (L.filter fun x => !p x).length cp) (fun _ => [.own A (L.filter fun x => !p x).length cp 3 1 (iL (L.filter fun x => !p x))]) := by
  subst hn
  have hcp : L.length ≤ cp := by
    obtain ⟨A', c', e, h2, _⟩ := h.own.form
    cases e
    exact h2
  refine K_enter (S := feet [.own A L.length cp 3 1 (iL L)]) (K := [.own A L.length cp 3 1 (iL L)]) Tryz.func58 rfl Tryz.ntmps58 rfl (Sat.own1 h) ?_
  refine TW.seq fun Y1 hY1 => ?_
  refine TW.region ?_
  refine TL.p Pu.as ?_
  refine TL.nil ?_
  refine TQ.thenN (hY1 _ _ ?_)
  refine TW.seq fun Y2 hY2 => ?_
  refine TW.region ?_
  refine TL.p Pu.mv ?_
  refine TL.p Pu.mv ?_
  refine TL.call (M := []) rfl (enters Tryz.func88 rfl rfl) (List.Perm.refl _) rfl (fun w hw => by
      exact indexInt_any (M := fun _ => []) (p := fun k => p (L.getD k 0)) hen (by omega) (OwnR.rdr (hw.holds (.own A L.length cp 3 1 (iL L)) (by simp))) (fun _ => Apart.nil) (Sat.start _) (fun _ => rfl) (fun k hk _ w' hw' => CallsK.ret (hg _ _ (hw.chg.trans (Chg.mono hw'.chg (fun b hb => by cases hb)))))) ?_
  rintro ⟨k, hk, hno, hyes⟩
  refine TL.p Pu.as ?_
  refine TL.nil ?_
  refine TQ.thenN (hY2 _ _ ?_)
  refine TW.seq fun Y3 hY3 => ?_
  refine TW.seq fun Y4 hY4 => ?_
  refine TW.region ?_
  refine TL.p Pu.mv ?_
  refine TL.p Pu.eq ?_
  refine TL.nil ?_
  refine TQ.thenN (hY4 _ _ ?_)
  refine TW.cond rfl (fun hc0 => ?_) (fun hc0 => ?_)
  · try simp only [decide_eq_true_eq, decide_eq_false_iff_not, Bool.not_eq_true', Bool.not_eq_false', Bool.and_eq_true, Bool.or_eq_true, Bool.and_eq_false_iff, Bool.or_eq_false_iff, Int.not_lt, Int.not_le] at hc0
    have hkn : k = L.length := by
      by_cases h9 : k < L.length
      · rw [if_pos h9] at hc0; omega
      · omega
    have hall : L.filter (fun x => !p x) = L := by
      have := filter_all (L := L) (p := fun x => !p x) L.length (Nat.le_refl _) (fun j hj => by have h9 : p (L.getD j 0) = false := hno j (by omega); rw [h9]; rfl)
      rwa [List.take_length] at this
    refine TW.seq fun Y5 hY5 => ?_
    refine TW.region ?_
    refine TL.p Pu.mv ?_
    refine TL.p Pu.as ?_
    refine TL.nil ?_
    refine TQ.thenN (hY5 _ _ ?_)
    refine TW.ret ?_
    refine TQ.thenR ?_
    refine TQ.ret Tryz.results58 rfl ((.tmp rfl .nil)) ?_
    exact fun w hw => ⟨(), by rw [hall]; rfl, by rw [hall]; exact hw.sub (by repeat (first | exact KSub.nil | refine KSub.cons (by repeat (first | exact Pick.hd | apply Pick.tl)) ?_))⟩
  · try simp only [decide_eq_true_eq, decide_eq_false_iff_not, Bool.not_eq_true', Bool.not_eq_false', Bool.and_eq_true, Bool.or_eq_true, Bool.and_eq_false_iff, Bool.or_eq_false_iff, Int.not_lt, Int.not_le] at hc0
    have hkn : k < L.length := by
      by_cases h9 : k < L.length
      · exact h9
      · rw [if_neg h9] at hc0; omega
    have hpk : p (L.getD k 0) = true := hyes hkn
    have hpre : (L.take (k + 1)).filter (fun x => !p x) = L.take k := by
      rw [filter_take hkn, if_neg (by rw [hpk]; decide)]
      exact filter_all k (by omega) fun j hj => by have h9 : p (L.getD j 0) = false := hno j hj; rw [h9]; rfl
    refine TW.skip ?_
    refine TQ.thenN (hY3 _ _ ?_)
    refine TW.seq fun Y6 hY6 => ?_
    refine TW.seq fun Y7 hY7 => ?_
    refine TW.region ?_
    refine TL.p Pu.mv ?_
    refine TL.p Pu.ad ?_
    refine TL.p Pu.as ?_
    refine TL.nil ?_
    refine TQ.thenN (hY7 _ _ ?_)
    refine TW.block ?_
    refine TW.loop3 (fun (j : Nat) (i : Nat) (u : Nat → Int) => [(6, .int .i64 (j : Int)), (5, .int .i64 (i : Int)), (0, .slice A L.length cp), (1, .func (.func g) fs.toArray cs.toArray)]) (fun j i u => [.own A L.length cp 3 1 (fun q => [.int .i64 (u q)])]) (fun j i u => j ≤ L.length ∧ i < j ∧ i = ((L.take j).filter fun x => !p x).length ∧ (∀ q, q < i → u q = ((L.take j).filter fun x => !p x).getD q 0) ∧ ∀ q, j ≤ q → q < L.length → u q = L.getD q 0) (fun j i u => L.length - j) (k + 1) k (fun q => L.getD q 0) (by refine ⟨congrArg (fun z => some (Value.int .i64 z)) (by rw [if_pos hkn]; exact (Int.natCast_succ k).symm), ⟨congrArg (fun z => some (Value.int .i64 z)) (by rw [if_pos hkn]), ?_⟩⟩; repeat (first | exact trivial | refine ⟨rfl, ?_⟩ | refine ⟨trivial, ?_⟩)) ?_ ?_ ?_
    · exact (by repeat (first | exact KSub.nil | refine KSub.cons (by repeat (first | exact Pick.hd | apply Pick.tl)) ?_))
    · exact ⟨by omega, by omega, by rw [hpre, List.length_take]; omega, fun q hq => by rw [hpre]; simp [List.getD_eq_getElem?_getD, hq], fun q _ _ => rfl⟩
    rintro j i u ⟨hj, hij, hi, hu1, hu2⟩ Z0 hZ0
    refine TW.seq fun Y8 hY8 => ?_
    refine TW.seq fun Y9 hY9 => ?_
    refine TW.region ?_
    refine TL.p Pu.mv ?_
    refine TL.p Pu.mv ?_
    refine TL.p (Pu.ln Tryz.underlying24) ?_
    refine TL.p Pu.lt ?_
    refine TL.nil ?_
    refine TQ.thenN (hY9 _ _ ?_)
    refine TW.cond rfl (fun hc1 => ?_) (fun hc1 => ?_)
    · try simp only [decide_eq_true_eq, decide_eq_false_iff_not, Bool.not_eq_true', Bool.not_eq_false', Bool.and_eq_true, Bool.or_eq_true, Bool.and_eq_false_iff, Bool.or_eq_false_iff, Int.not_lt, Int.not_le] at hc1
      have hjn : j < L.length := by omega
      have huj := hu2 j (Nat.le_refl _) hjn
      have hft : (L.take (j + 1)).filter (fun x => !p x) = if (!p (L.getD j 0)) = true then (L.take j).filter (fun x => !p x) ++ [L.getD j 0] else (L.take j).filter (fun x => !p x) := filter_take hjn
      refine TW.skip ?_
      refine TQ.thenN (hY8 _ _ ?_)
      refine TW.seq fun Y10 hY10 => ?_
      refine TW.block ?_
      refine TW.seq fun Y11 hY11 => ?_
      refine TW.region ?_
      refine TL.p Pu.mv ?_
      refine TL.p Pu.mv ?_
      refine TL.p (Pu.el ty_et24) ?_
      refine TL.p (Pu.ld ty_sc3) ?_
      refine TL.p Pu.as ?_
      refine TL.nil ?_
      refine TQ.thenN (hY11 _ _ ?_)
      refine TW.seq fun Y12 hY12 => ?_
      refine TW.region ?_
      refine TL.p Pu.mv ?_
      refine TL.p Pu.mv ?_
      refine TL.cv rfl rfl hen (fun w hw => by
          exact hg _ _ hw.chg) ?_
      refine TL.p Pu.no ?_
      refine TL.nil ?_
      refine TQ.thenN (hY12 _ _ ?_)
      refine TW.cond rfl (fun hc2 => ?_) (fun hc2 => ?_)
      · try simp only [decide_eq_true_eq, decide_eq_false_iff_not, Bool.not_eq_true', Bool.not_eq_false', Bool.and_eq_true, Bool.or_eq_true, Bool.and_eq_false_iff, Bool.or_eq_false_iff, Int.not_lt, Int.not_le] at hc2
        have hp : p (L.getD j 0) = false := huj ▸ hc2
        simp only [hp, Bool.not_false, if_true] at hft
        obtain ⟨i', hi'⟩ : ∃ y : Nat, y = i + 1 := ⟨_, rfl⟩
        obtain ⟨u', hu'⟩ : ∃ y : Nat → Int, y = fun q => if q = i then u j else u q := ⟨_, rfl⟩
        have s1 : i' = ((L.take (j + 1)).filter fun x => !p x).length := by rw [hft, List.length_append, ← hi, hi']; rfl
        have s2 : ∀ q, q < i' → u' q = ((L.take (j + 1)).filter fun x => !p x).getD q 0 := fun q hq => by
          rw [hft, getD_app, ← hi, hu']
          by_cases h9 : q = i
          · subst h9; simp [huj]
          · simp only [if_neg h9]; rw [if_pos (by omega)]; exact hu1 q (by omega)
        have s3 : ∀ q, j + 1 ≤ q → q < L.length → u' q = L.getD q 0 := fun q h7 h8 => by
          rw [hu']; simp only []; rw [if_neg (by omega)]; exact hu2 q (by omega) h8
        refine TW.seq fun Y13 hY13 => ?_
        refine TW.region ?_
        refine TL.p Pu.mv ?_
        refine TL.p Pu.mv ?_
        refine TL.p Pu.mv ?_
        refine TL.p (Pu.el ty_et24) ?_
        first | refine TL.st ty_sz3 ?_ | refine TL.se ty_sz3 ?_
        refine TL.nil ?_
        refine TQ.thenN (hY13 _ _ ?_)
        refine TW.region ?_
        refine TL.p Pu.mv ?_
        refine TL.p Pu.ad ?_
        refine TL.p Pu.as ?_
        refine TL.nil ?_
        refine TQ.blkN ?_
        refine TQ.thenN (hY10 _ _ ?_)
        refine TW.region ?_
        refine TL.p Pu.mv ?_
        refine TL.p Pu.ad ?_
        refine TL.p Pu.as ?_
        refine TL.nil ?_
        refine TQ.thenN (hZ0 (j + 1) i' u' _ _ ?_ ?_ (by refine ⟨rfl, ⟨congrArg (fun z => some (Value.int .i64 z)) (by omega), ?_⟩⟩; repeat (first | exact trivial | refine ⟨rfl, ?_⟩ | refine ⟨trivial, ?_⟩)) ?_)
        · exact ⟨by omega, by omega, s1, s2, s3⟩
        · exact (by first | omega | (simp only []; omega) | (simp; omega))
        · refine KSub.own Pick.hd (fun q _ => ?_) KSub.nil
          subst hu'
          first
            | rfl
            | (simp only [updR]; by_cases h9 : q = i <;> simp [h9])
      · try simp only [decide_eq_true_eq, decide_eq_false_iff_not, Bool.not_eq_true', Bool.not_eq_false', Bool.and_eq_true, Bool.or_eq_true, Bool.and_eq_false_iff, Bool.or_eq_false_iff, Int.not_lt, Int.not_le] at hc2
        have hp : p (L.getD j 0) = true := huj ▸ hc2
        simp only [hp, Bool.not_true, Bool.false_eq_true, if_false] at hft
        obtain ⟨i', hi'⟩ : ∃ y : Nat, y = i := ⟨_, rfl⟩
        obtain ⟨u', hu'⟩ : ∃ y : Nat → Int, y = u := ⟨_, rfl⟩
        have s1 : i' = ((L.take (j + 1)).filter fun x => !p x).length := by rw [hft, ← hi, hi']
        have s2 : ∀ q, q < i' → u' q = ((L.take (j + 1)).filter fun x => !p x).getD q 0 := fun q hq => by rw [hft, hu']; exact hu1 q (by omega)
        have s3 : ∀ q, j + 1 ≤ q → q < L.length → u' q = L.getD q 0 := fun q h7 h8 => by rw [hu']; exact hu2 q (by omega) h8
        refine TW.skip ?_
        refine TQ.blkN ?_
        refine TQ.thenN (hY10 _ _ ?_)
        refine TW.region ?_
        refine TL.p Pu.mv ?_
        refine TL.p Pu.ad ?_
        refine TL.p Pu.as ?_
        refine TL.nil ?_
        refine TQ.thenN (hZ0 (j + 1) i' u' _ _ ?_ ?_ (by refine ⟨rfl, ⟨congrArg (fun z => some (Value.int .i64 z)) (by omega), ?_⟩⟩; repeat (first | exact trivial | refine ⟨rfl, ?_⟩ | refine ⟨trivial, ?_⟩)) ?_)
        · exact ⟨by omega, by omega, s1, s2, s3⟩
        · exact (by first | omega | (simp only []; omega) | (simp; omega))
        · refine KSub.own Pick.hd (fun q _ => ?_) KSub.nil
          subst hu'
          first
            | rfl
            | (simp only [updR]; by_cases h9 : q = i <;> simp [h9])
    · try simp only [decide_eq_true_eq, decide_eq_false_iff_not, Bool.not_eq_true', Bool.not_eq_false', Bool.and_eq_true, Bool.or_eq_true, Bool.and_eq_false_iff, Bool.or_eq_false_iff, Int.not_lt, Int.not_le] at hc1
      have hfin : (L.take j).filter (fun x => !p x) = L.filter fun x => !p x := by rw [show j = L.length by omega, List.take_length]
      rw [hfin] at hi hu1
      refine TW.exit ?_
      refine TQ.thenX ?_
      refine TQ.thenX ?_
      refine TQ.blkX ?_
      refine TQ.thenN (hY6 _ _ ?_)
      refine TW.seq fun Y14 hY14 => ?_
      refine TW.region ?_
      refine TL.p Pu.mv ?_
      refine TL.p Pu.mv ?_
      refine TL.p (Pu.sf ty_et24) ?_
      refine TL.clr (q := i) (z := .int .i64 0) ty_et24 Tryz.zeroValue3 rfl rfl ?_
      refine TL.nil ?_
      refine TQ.thenN (hY14 _ _ ?_)
      refine TW.seq fun Y15 hY15 => ?_
      refine TW.region ?_
      refine TL.p Pu.mv ?_
      refine TL.p Pu.mv ?_
      refine TL.p (Pu.sh ty_et24) ?_
      refine TL.take (m := i) Pick.hd (by omega) ?_
      refine TL.p Pu.as ?_
      refine TL.nil ?_
      refine TQ.thenN (hY15 _ _ ?_)
      refine TW.ret ?_
      refine TQ.ret Tryz.results58 rfl ((.tmp rfl .nil)) ?_
      exact fun w hw => ⟨(), by rw [← hi]; rfl, by
        rw [← hi]
        exact hw.sub (KSub.own Pick.hd (fun q hq => by rw [if_pos hq, hu1 q hq]; rfl) KSub.nil)⟩
end Go.Proofs.YtljhdcclajikiaaGreatDoor
