/-
  Part 6 of the proof of loadLess_holds: declarations of several texts, in build order. No condition on a program.
-/
import Derived.Test.YtjephihlkjpohaaGreatDoorLess05
namespace Go.Proofs.YtjephihlkjpohaaGreatDoor
set_option linter.all false
set_option linter.unusedVariables false
set_option linter.unusedSimpArgs false
open Go.RowKit
theorem bump_row {f : Nat → Nat → Int} {x h : Int} (h0 : 0 ≤ x) (q : Nat) :
    updR (fun q => packL (f q)) x.toNat [.int .u8 (f x.toNat 0), .int .i64 (f x.toNat 1), .int .i64 (f x.toNat 2), .int .i64 (f x.toNat 3), .int .i64 (f x.toNat 4), .int .i64 (f x.toNat 5), .int .i64 (f x.toNat 6), .int .i64 (f x.toNat 7), .int .i64 (f x.toNat 8), .int .i64 (f x.toNat 9 + h), .int .i64 (f x.toNat 10)] q = packL (bump f x h q) := by
  unfold updR
  by_cases hq : q = x.toNat
  · subst hq
    have : ((x.toNat : Nat) : Int) = x := by omega
    simp [packL, bump, this]
  · have : ¬ (q : Int) = x := by omega
    simp [hq, packL, bump, this]
theorem aged_row {f : Nat → Nat → Int} {d : Int} {k : Nat} (q : Nat) :
    updR (fun q => packL (aged f d k q)) k [.int .u8 (aged f d k k 0), .int .i64 (aged f d k k 1), .int .i64 (aged f d k k 2), .int .i64 (aged f d k k 3), .int .i64 (aged f d k k 4), .int .i64 (aged f d k k 5), .int .i64 (aged f d k k 6), .int .i64 (aged f d k k 7), .int .i64 (aged f d k k 8), .int .i64 (aged f d k k 9), .int .i64 (aged f d k k 10 + d)] q = packL (aged f d (k + 1) q) := by
  unfold updR
  by_cases hq : q = k
  · subst hq
    simp [packL, aged]
  · by_cases h2 : q < k
    · have : q < k + 1 := by omega
      simp [hq, packL, aged, h2, this]
    · have : ¬ q < k + 1 := by omega
      simp [hq, packL, aged, h2, this]
def finF (pk : Nat → Nat → Int) (jt : Nat → Nat → Int) (l : Nat → Nat → Nat) (v : Nat → Nat → Nat → Int) (np nj : Nat) (days : Int) : Nat → Nat → Int := aged (hitAll pk jt l v nj) days np
def jcode (np : Nat) (pk : Nat → Nat → Int) (m : Nat) (l : Nat → Nat → Nat) (v : Nat → Nat → Nat → Int) (nj : Nat) (jt : Nat → Nat → Int) (days : Int) : Int :=
  if checkV np pk m l v = 0 then
    if inB5 0 100000 days then if decide ((nj : Int) ≤ 60) then if allB nj (fun k => joltP m (jt k)) then if allB np (fun q => packOk (finF pk jt l v np nj days q)) then 0 else 9 else 53 else 4 else 2
  else checkV np pk m l v
theorem old_below {W0 w w2 : World} {S : List Nat} {K : List Fact} (hb : Below W0.heap.size W0 w) (hs : Sat S w K w2) (hS : ∀ b ∈ S, W0.heap.size ≤ b) : Below W0.heap.size W0 w2 :=
  ⟨hs.chg.os.trans hb.os, hs.chg.tape.trans hb.tape, hs.chg.output.trans hb.output, Nat.le_trans hb.size hs.chg.size, fun k hk => (hs.chg.block k (Nat.lt_of_lt_of_le hk hb.size) (fun hm => by have := hS k hm; omega)).trans (hb.block k hk)⟩
theorem check_ok {np m : Nat} {pk : Nat → Nat → Int} {l : Nat → Nat → Nat} {v : Nat → Nat → Nat → Int} (h : checkV np pk m l v = 0) : np ≤ 30 ∧ (∀ q, q < np → packOk (pk q) = true) ∧ ∀ i, i < m → (∀ j, j < 3 → allB (l i j) (riseP (v i j) np) = true) ∧ tot (l i) 3 ≤ 10 := by
  unfold checkV at h
  split at h
  · rename_i hp
    split at h
    · rename_i ht
      simp only [packsOk, tiesOk, Bool.and_eq_true, decide_eq_true_eq] at hp ht
      refine ⟨by omega, allB_iff.1 hp.2, fun i hi => ?_⟩
      have := allB_iff.1 ht.1 i hi
      simp only [tieOk, Bool.and_eq_true, decide_eq_true_eq] at this
      exact ⟨allB_iff.1 this.1, this.2⟩
    · simp at h
  · simp at h
theorem hitL_snoc (f : Nat → Nat → Int) (h : Int) (top : Bool) (xs : List Int) (x : Int) : hitL f h top (xs ++ [x]) = hit (hitL f h top xs) h top x := by simp [hitL]
section
variable {np m nj : Nat} {pk jt : Nat → Nat → Int} {l : Nat → Nat → Nat} {v : Nat → Nat → Nat → Int} {days : Int}
theorem jc1 (h1 : checkV np pk m l v ≠ 0) : jcode np pk m l v nj jt days = checkV np pk m l v := by simp [jcode, h1]
theorem jc2 (h1 : checkV np pk m l v = 0) (h2 : (if inB5 0 100000 days then (0 : Int) else 2) ≠ 0) : jcode np pk m l v nj jt days = (if inB5 0 100000 days then (0 : Int) else 2) := by
  obtain ⟨hb, he⟩ := need_no h2
  simp [jcode, h1, hb]
theorem jc3 (h1 : checkV np pk m l v = 0) (h2 : (if inB5 0 100000 days then (0 : Int) else 2) = 0) (h3 : (if decide ((nj : Int) ≤ 60) then (0 : Int) else 4) ≠ 0) : jcode np pk m l v nj jt days = (if decide ((nj : Int) ≤ 60) then (0 : Int) else 4) := by
  obtain ⟨hb, he⟩ := need_no h3
  have hb2 := need_yes (by decide) h2
  rw [he]
  unfold jcode
  rw [if_pos h1, hb2, hb]
  rfl
theorem jc4 (h1 : checkV np pk m l v = 0) (h2 : (if inB5 0 100000 days then (0 : Int) else 2) = 0) (h3 : (if decide ((nj : Int) ≤ 60) then (0 : Int) else 4) = 0) (h4 : (if allB nj (fun k => joltP m (jt k)) then (0 : Int) else 53) ≠ 0) : jcode np pk m l v nj jt days = (if allB nj (fun k => joltP m (jt k)) then (0 : Int) else 53) := by
  obtain ⟨hb, he⟩ := need_no h4
  have hb2 := need_yes (by decide) h2
  have hb3 := need_yes (by decide) h3
  rw [he]
  unfold jcode
  rw [if_pos h1, hb2, hb3, hb]
  rfl
theorem jc5 (h1 : checkV np pk m l v = 0) (h2 : (if inB5 0 100000 days then (0 : Int) else 2) = 0) (h3 : (if decide ((nj : Int) ≤ 60) then (0 : Int) else 4) = 0) (h4 : (if allB nj (fun k => joltP m (jt k)) then (0 : Int) else 53) = 0) (h5 : (if allB np (fun q => packOk (finF pk jt l v np nj days q)) then (0 : Int) else 9) ≠ 0) : jcode np pk m l v nj jt days = (if allB np (fun q => packOk (finF pk jt l v np nj days q)) then (0 : Int) else 9) := by
  obtain ⟨hb, he⟩ := need_no h5
  have hb2 := need_yes (by decide) h2
  have hb3 := need_yes (by decide) h3
  have hb4 := need_yes (by decide) h4
  rw [he]
  unfold jcode
  rw [if_pos h1, hb2, hb3, hb4, hb]
  rfl
theorem jc0 (h1 : checkV np pk m l v = 0) (h2 : (if inB5 0 100000 days then (0 : Int) else 2) = 0) (h3 : (if decide ((nj : Int) ≤ 60) then (0 : Int) else 4) = 0) (h4 : (if allB nj (fun k => joltP m (jt k)) then (0 : Int) else 53) = 0) (h5 : (if allB np (fun q => packOk (finF pk jt l v np nj days q)) then (0 : Int) else 9) = 0) : jcode np pk m l v nj jt days = 0 := by
  have hb2 := need_yes (by decide) h2
  have hb3 := need_yes (by decide) h3
  have hb4 := need_yes (by decide) h4
  have hb5 := need_yes (by decide) h5
  unfold jcode
  rw [if_pos h1, hb2, hb3, hb4, hb5]
  rfl
theorem doing_bad {w w' : World} {bn : Nat} {code code' : Int} {Lx : Option Addr × Nat → List Fact} (hc : code' ≠ 0) (e : code = code') (hs : Sat [bn] w [.blk bn 22 [.slice none 0 0]] w') :
    ∃ x : Option Addr × Nat, Sat (feet [.blk bn 22 [.slice none 0 0]]) w (if code = 0 then Lx x else [.blk bn 22 [.slice none 0 0]]) w' ∧ Ending.panicked (errs code') = if code = 0 then .returned (.tuple #[]) else .panicked (errs code) := by
  subst e
  exact ⟨(none, 0), by rw [if_neg hc]; exact hs, by rw [if_neg hc]⟩
end
set_option maxRecDepth 100000 in
set_option maxHeartbeats 1000000 in
theorem jolted1_any {W0 w : World} {A A2 A3 : Option Addr} {np m cp cp2 nj cp3 bp bt bd bj bn : Nat} {pk jt : Nat → Nat → Int} {a : Nat → Nat → Option Addr} {l c : Nat → Nat → Nat} {v : Nat → Nat → Nat → Int} {days : Int}
    (hLay : Lay W0 A A2 np m pk a l c v) (hJ : RdR W0 2 A3 nj (fun k => spL (jt k 0) (jt k 1))) (hnj : nj ≤ 1000000) (hb : Below W0.heap.size W0 w) (hbn : W0.heap.size ≤ bn)
    (h1 : OldB w bp [.slice A np cp]) (h2 : OldB w bt [.slice A2 m cp2]) (h3 : OldB w bd [.int .i64 days]) (h4 : OldB w bj [.slice A3 nj cp3]) (n1 : bp ≠ bn) (n2 : bt ≠ bn) (n3 : bd ≠ bn) (n4 : bj ≠ bn)
    (hM : Sat [bn] w [.blk bn 22 [.slice none 0 0]] w) :
    Doing Tryz.prog 81 #[.pointer (some ⟨bp, 0, none⟩), .pointer (some ⟨bt, 0, none⟩), .pointer (some ⟨bd, 0, none⟩), .pointer (some ⟨bj, 0, none⟩), .pointer (some ⟨bn, 0, none⟩)] [.blk bn 22 [.slice none 0 0]] (Option Addr × Nat)
      (fun x => if jcode np pk m l v nj jt days = 0 then [.blk bn 22 [.slice x.1 np x.2], .own x.1 np x.2 45 11 (fun q => packL (finF pk jt l v np nj days q))] else [.blk bn 22 [.slice none 0 0]]) (jcode np pk m l v nj jt days) w := by
  have hS : ∀ b ∈ [bn], W0.heap.size ≤ b := fun b h => by rw [List.mem_singleton] at h; omega
  have hnp := hLay.hnp
  have hm := hLay.hm
  have ap1 : Apart [bn] (some ⟨bp, 0, none⟩) := fun q hq => by cases hq; simpa using n1
  have ap2 : Apart [bn] (some ⟨bt, 0, none⟩) := fun q hq => by cases hq; simpa using n2
  have ap3 : Apart [bn] (some ⟨bd, 0, none⟩) := fun q hq => by cases hq; simpa using n3
  have ap4 : Apart [bn] (some ⟨bj, 0, none⟩) := fun q hq => by cases hq; simpa using n4
  have hL1 := hLay.ext hb
  have hJ1 : RdR w 2 A3 nj (fun k => spL (jt k 0) (jt k 1)) := hJ.sat (Sat.nil (Chg.of_ext hb)) Apart.nil
  have hG1 := hL1.hG
  refine K_enter (args := [.pointer (some ⟨bp, 0, none⟩), .pointer (some ⟨bt, 0, none⟩), .pointer (some ⟨bd, 0, none⟩), .pointer (some ⟨bj, 0, none⟩), .pointer (some ⟨bn, 0, none⟩)]) (S := [bn]) (K := [.blk bn 22 [.slice none 0 0]]) Tryz.func81 rfl Tryz.ntmps81 rfl hM ?_
  refine TW.seq fun Y1 hY1 => ?_
  refine TW.region ?_
  refine TL.p (by first | exact (Pu.ld ty_sc22) | exact (Pu.ldo ty_sc22)) ?_
  refine TL.p (by first | exact (Pu.ld ty_sc23) | exact (Pu.ldo ty_sc23)) ?_
  refine TL.ct rfl (enters Tryz.func47 rfl rfl) (fun w hw => by
      exact (hLay.ext (old_below hb hw hS)).check) (fun hp1 => ?_) (fun hp1 => ?_)
  rotate_left
  · refine TQ.thenP ?_
    refine TQ.pan rfl ?_
    first
      | exact fun w hw => doing_bad hp1 (jc1 hp1) hw
      | exact fun w hw => doing_bad hp2 (jc2 hp1 hp2) hw
      | exact fun w hw => doing_bad hp3 (jc3 hp1 hp2 hp3) hw
      | exact fun w hw => doing_bad hp4 (jc4 hp1 hp2 hp3 hp4) hw
      | exact fun w hw => doing_bad hp5 (jc5 hp1 hp2 hp3 hp4 hp5) hw
      | exact fun w hw => doing_bad hp5 (jc5 hp1 hp2 hp3 hp4 hp5) (hw.sub (KSub.cons (by repeat (first | exact Pick.hd | apply Pick.tl)) KSub.nil))
      | exact fun w hw => doing_bad hp2 (jc2 hp1 hp2) (hw.sub (KSub.cons (by repeat (first | exact Pick.hd | apply Pick.tl)) KSub.nil))
      | exact fun w hw => doing_bad hp3 (jc3 hp1 hp2 hp3) (hw.sub (KSub.cons (by repeat (first | exact Pick.hd | apply Pick.tl)) KSub.nil))
      | exact fun w hw => doing_bad hp4 (jc4 hp1 hp2 hp3 hp4) (hw.sub (KSub.cons (by repeat (first | exact Pick.hd | apply Pick.tl)) KSub.nil))
  refine TL.nil ?_
  refine TQ.thenN (hY1 _ _ ?_)
  refine TW.seq fun Y2 hY2 => ?_
  refine TW.region ?_
  refine TL.p (by first | exact (Pu.ld ty_sc3) | exact (Pu.ldo ty_sc3)) ?_
  refine TL.m Mk.bl ?_
  intro b1
  refine TL.cr rfl (enters Tryz.func78 rfl rfl) (fun w hw => by
      exact inOne_any _ _ _ (hw.holds _ (List.mem_cons_self ..))) ?_
  refine TL.ct rfl (enters Tryz.func76 rfl rfl) (fun w hw => by
      exact need_any _ _ _ (by decide)) (fun hp2 => ?_) (fun hp2 => ?_)
  rotate_left
  · refine TQ.thenP ?_
    refine TQ.pan rfl ?_
    first
      | exact fun w hw => doing_bad hp1 (jc1 hp1) hw
      | exact fun w hw => doing_bad hp2 (jc2 hp1 hp2) hw
      | exact fun w hw => doing_bad hp3 (jc3 hp1 hp2 hp3) hw
      | exact fun w hw => doing_bad hp4 (jc4 hp1 hp2 hp3 hp4) hw
      | exact fun w hw => doing_bad hp5 (jc5 hp1 hp2 hp3 hp4 hp5) hw
      | exact fun w hw => doing_bad hp5 (jc5 hp1 hp2 hp3 hp4 hp5) (hw.sub (KSub.cons (by repeat (first | exact Pick.hd | apply Pick.tl)) KSub.nil))
      | exact fun w hw => doing_bad hp2 (jc2 hp1 hp2) (hw.sub (KSub.cons (by repeat (first | exact Pick.hd | apply Pick.tl)) KSub.nil))
      | exact fun w hw => doing_bad hp3 (jc3 hp1 hp2 hp3) (hw.sub (KSub.cons (by repeat (first | exact Pick.hd | apply Pick.tl)) KSub.nil))
      | exact fun w hw => doing_bad hp4 (jc4 hp1 hp2 hp3 hp4) (hw.sub (KSub.cons (by repeat (first | exact Pick.hd | apply Pick.tl)) KSub.nil))
  refine TL.nil ?_
  refine TQ.thenN (hY2 _ _ ?_)
  refine TW.seq fun Y3 hY3 => ?_
  refine TW.region ?_
  refine TL.p (by first | exact (Pu.ld ty_sc94) | exact (Pu.ldo ty_sc94)) ?_
  refine TL.p (Pu.ln Tryz.underlying94) ?_
  refine TL.p Pu.le ?_
  refine TL.ct rfl (enters Tryz.func76 rfl rfl) (fun w hw => by
      exact need_any _ _ _ (by decide)) (fun hp3 => ?_) (fun hp3 => ?_)
  rotate_left
  · refine TQ.thenP ?_
    refine TQ.pan rfl ?_
    first
      | exact fun w hw => doing_bad hp1 (jc1 hp1) hw
      | exact fun w hw => doing_bad hp2 (jc2 hp1 hp2) hw
      | exact fun w hw => doing_bad hp3 (jc3 hp1 hp2 hp3) hw
      | exact fun w hw => doing_bad hp4 (jc4 hp1 hp2 hp3 hp4) hw
      | exact fun w hw => doing_bad hp5 (jc5 hp1 hp2 hp3 hp4 hp5) hw
      | exact fun w hw => doing_bad hp5 (jc5 hp1 hp2 hp3 hp4 hp5) (hw.sub (KSub.cons (by repeat (first | exact Pick.hd | apply Pick.tl)) KSub.nil))
      | exact fun w hw => doing_bad hp2 (jc2 hp1 hp2) (hw.sub (KSub.cons (by repeat (first | exact Pick.hd | apply Pick.tl)) KSub.nil))
      | exact fun w hw => doing_bad hp3 (jc3 hp1 hp2 hp3) (hw.sub (KSub.cons (by repeat (first | exact Pick.hd | apply Pick.tl)) KSub.nil))
      | exact fun w hw => doing_bad hp4 (jc4 hp1 hp2 hp3 hp4) (hw.sub (KSub.cons (by repeat (first | exact Pick.hd | apply Pick.tl)) KSub.nil))
  refine TL.nil ?_
  refine TQ.thenN (hY3 _ _ ?_)
  refine TW.seq fun Y4 hY4 => ?_
  refine TW.region ?_
  refine TL.p (by first | exact (Pu.ld ty_sc94) | exact (Pu.ldo ty_sc94)) ?_
  refine TL.p Pu.fn ?_
  refine TL.cr rfl (enters Tryz.func82 rfl rfl) (fun w hw => by
      exact everyJolt_any (fs := []) (cs := [.pointer (some ⟨bt, 0, none⟩)]) (p := fun k => joltP m (jt k)) (enters Tryz.func83 rfl rfl) (by omega) (hJ.sat (Sat.nil (Chg.of_ext (old_below hb hw hS))) Apart.nil) fun k hk w' hb' => jolt1_any m (jt k) bt w' (by omega) ((h2.sat hw (by simpa using n2)).ext hb')) ?_
  refine TL.ct rfl (enters Tryz.func76 rfl rfl) (fun w hw => by
      exact need_any _ _ _ (by decide)) (fun hp4 => ?_) (fun hp4 => ?_)
  rotate_left
  · refine TQ.thenP ?_
    refine TQ.pan rfl ?_
    first
      | exact fun w hw => doing_bad hp1 (jc1 hp1) hw
      | exact fun w hw => doing_bad hp2 (jc2 hp1 hp2) hw
      | exact fun w hw => doing_bad hp3 (jc3 hp1 hp2 hp3) hw
      | exact fun w hw => doing_bad hp4 (jc4 hp1 hp2 hp3 hp4) hw
      | exact fun w hw => doing_bad hp5 (jc5 hp1 hp2 hp3 hp4 hp5) hw
      | exact fun w hw => doing_bad hp5 (jc5 hp1 hp2 hp3 hp4 hp5) (hw.sub (KSub.cons (by repeat (first | exact Pick.hd | apply Pick.tl)) KSub.nil))
      | exact fun w hw => doing_bad hp2 (jc2 hp1 hp2) (hw.sub (KSub.cons (by repeat (first | exact Pick.hd | apply Pick.tl)) KSub.nil))
      | exact fun w hw => doing_bad hp3 (jc3 hp1 hp2 hp3) (hw.sub (KSub.cons (by repeat (first | exact Pick.hd | apply Pick.tl)) KSub.nil))
      | exact fun w hw => doing_bad hp4 (jc4 hp1 hp2 hp3 hp4) (hw.sub (KSub.cons (by repeat (first | exact Pick.hd | apply Pick.tl)) KSub.nil))
  refine TL.nil ?_
  refine TQ.thenN (hY4 _ _ ?_)
  refine TW.seq fun Y5 hY5 => ?_
  refine TW.region ?_
  refine TL.p (by first | exact (Pu.ld ty_sc22) | exact (Pu.ldo ty_sc22)) ?_
  refine TL.call (M := []) rfl (enters Tryz.func84 rfl rfl) (List.Perm.refl _) rfl (fun w hw => by
      exact clone_any hnp (hLay.ext (old_below hb hw hS)).hR) ?_
  rintro ⟨Ac, cc⟩
  refine TL.p Pu.as ?_
  refine TL.nil ?_
  refine TQ.thenN (hY5 _ _ ?_)
  refine TW.seq fun Y6 hY6 => ?_
  refine TW.seq fun Y7 hY7 => ?_
  refine TW.region ?_
  refine TL.p (by first | exact (Pu.ld ty_sc94) | exact (Pu.ldo ty_sc94)) ?_
  refine TL.p (Pu.ln Tryz.underlying94) ?_
  refine TL.p Pu.mv ?_
  refine TL.nil ?_
  refine TQ.thenN (hY7 _ _ ?_)
  refine TW.block ?_
  obtain ⟨hnp30, hpk, hties⟩ := check_ok hp1
  have hdays : inB5 0 100000 days = true := need_yes (by decide) hp2
  have hnj60 : decide ((nj : Int) ≤ 60) = true := need_yes (by decide) hp3
  have hjs : allB nj (fun k => joltP m (jt k)) = true := need_yes (by decide) hp4
  have hnj6 : (nj : Int) ≤ 60 := by simpa using hnj60
  have hBd0 : Bd pk np 6000000 := fun q hq => by
    have := ((packOk_iff (pk q)).1 (hpk q hq)).1
    unfold okF at this
    omega
  refine TW.loop1 (fun (n : Nat) => [(32, .int .i64 (n : Int)), (31, .int .i64 (nj : Int)), (30, .slice A3 nj cp3), (5, .slice Ac np cc), (0, .pointer (some ⟨bp, 0, none⟩)), (1, .pointer (some ⟨bt, 0, none⟩)), (2, .pointer (some ⟨bd, 0, none⟩)), (3, .pointer (some ⟨bj, 0, none⟩)), (4, .pointer (some ⟨bn, 0, none⟩))]) (fun n => [.own Ac np cc 45 11 (fun q => packL (hitAll pk jt l v n q)), .blk bn 22 [.slice none 0 0]]) (fun n => n ≤ nj ∧ Bd (hitAll pk jt l v n) np (6000000 + 2000000 * (n : Int))) (fun n => nj - n) 0 (by repeat (first | exact trivial | refine ⟨rfl, ?_⟩ | refine ⟨trivial, ?_⟩)) ?_ ?_ ?_
  · exact (by repeat (first | exact KSub.nil | refine KSub.cons (by repeat (first | exact Pick.hd | apply Pick.tl)) ?_))
  · exact ⟨by omega, by show Bd pk np _; exact hBd0.mono (by omega)⟩
  rintro n ⟨hn, hBn⟩ Z0 hZ0
  refine TW.seq fun Y8 hY8 => ?_
  refine TW.region ?_
  refine TL.p Pu.lt ?_
  refine TL.nil ?_
  refine TQ.thenN (hY8 _ _ ?_)
  refine TW.seq fun Y9 hY9 => ?_
  refine TW.cond rfl (fun hc0 => ?_) (fun hc0 => ?_)
  · try simp only [decide_eq_true_eq, decide_eq_false_iff_not, Bool.not_eq_true', Bool.not_eq_false', Bool.and_eq_true, Bool.or_eq_true, Bool.and_eq_false_iff, Bool.or_eq_false_iff, Int.not_lt, Int.not_le] at hc0
    have hnj1 : n < nj := by omega
    have apJ : Apart [bn] A3 := hJ.apart hS (by omega)
    have hjn := allB_iff.1 hjs n hnj1
    simp only [joltP, inB5, Bool.and_eq_true, decide_eq_true_eq] at hjn
    have htl : (jt n 0).toNat < m := by omega
    have apT : Apart [bn] A2 := hLay.hT.apart hS (by omega)
    have hT1 := hL1.hT
    have hti := hties _ htl
    refine TW.skip ?_
    refine TQ.thenN (hY9 _ _ ?_)
    refine TW.seq fun Y10 hY10 => ?_
    refine TW.block ?_
    refine TW.seq fun Y11 hY11 => ?_
    refine TW.region ?_
    refine TL.p (Pu.el ty_et94) ?_
    refine TL.p (by first | exact (Pu.lds ty_ag103) | exact (Pu.ldso ty_ag103)) ?_
    refine TL.m (Mk.al ty_zr103) ?_
    intro b2
    first | refine TL.st ty_sz103 ?_ | refine TL.se ty_sz103 ?_
    refine TL.nil ?_
    refine TQ.thenN (hY11 _ _ ?_)
    refine TW.seq fun Y12 hY12 => ?_
    refine TW.region ?_
    refine TL.p (by first | exact (Pu.ld ty_sc23) | exact (Pu.ldo ty_sc23)) ?_
    refine TL.p (by first | exact Pu.fb ty_fa103_0 | exact Pu.fe ty_fa103_0) ?_
    refine TL.p (by first | exact (Pu.ld ty_sc3) | exact (Pu.ldo ty_sc3)) ?_
    refine TL.p (Pu.el (q := (jt n 0).toNat) ty_et23 (hk := rfl)) ?_
    refine TL.p (by first | exact (Pu.lds ty_ag36) | exact (Pu.ldso ty_ag36)) ?_
    refine TL.cr rfl (enters Tryz.func85 rfl rfl) (fun w hw => by
        exact lists_any _ _ _ _) ?_
    refine TL.p Pu.mv ?_
    refine TL.nil ?_
    refine TQ.thenN (hY12 _ _ ?_)
    refine TW.block ?_
    refine TW.loop1 (fun (j : Nat) => [(42, .int .i64 (j : Int)), (41, .agg (tieL (a (jt n 0).toNat) (l (jt n 0).toNat) (c (jt n 0).toNat)).toArray), (7, .pointer (some ⟨b2, 0, none⟩)), (32, .int .i64 (n : Int)), (31, .int .i64 (nj : Int)), (30, .slice A3 nj cp3), (5, .slice Ac np cc), (0, .pointer (some ⟨bp, 0, none⟩)), (1, .pointer (some ⟨bt, 0, none⟩)), (2, .pointer (some ⟨bd, 0, none⟩)), (3, .pointer (some ⟨bj, 0, none⟩)), (4, .pointer (some ⟨bn, 0, none⟩))]) (fun j => [.own Ac np cc 45 11 (fun q => packL (hitJ (hitAll pk jt l v n) (jt n 1) (l (jt n 0).toNat) (v (jt n 0).toNat) j q)), .blk b2 103 (spL (jt n 0) (jt n 1)), .blk bn 22 [.slice none 0 0]]) (fun j => j ≤ 3 ∧ Bd (hitJ (hitAll pk jt l v n) (jt n 1) (l (jt n 0).toNat) (v (jt n 0).toNat) j) np (6000000 + 2000000 * (n : Int) + 200000 * (tot (l (jt n 0).toNat) j : Int))) (fun j => 3 - j) 0 (by repeat (first | exact trivial | refine ⟨rfl, ?_⟩ | refine ⟨trivial, ?_⟩)) ?_ ?_ ?_
    · exact (by repeat (first | exact KSub.nil | refine KSub.cons (by repeat (first | exact Pick.hd | apply Pick.tl)) ?_))
    · exact ⟨by omega, by show Bd (hitAll pk jt l v n) np _; exact hBn.mono (by simp only [tot]; omega)⟩
    rintro j ⟨hj, hBj⟩ Z1 hZ1
    refine TW.seq fun Y13 hY13 => ?_
    refine TW.region ?_
    refine TL.p Pu.lt ?_
    refine TL.nil ?_
    refine TQ.thenN (hY13 _ _ ?_)
    refine TW.seq fun Y14 hY14 => ?_
    refine TW.cond rfl (fun hc1 => ?_) (fun hc1 => ?_)
    · try simp only [decide_eq_true_eq, decide_eq_false_iff_not, Bool.not_eq_true', Bool.not_eq_false', Bool.and_eq_true, Bool.or_eq_true, Bool.and_eq_false_iff, Bool.or_eq_false_iff, Int.not_lt, Int.not_le] at hc1
      have hj3 : j < 3 := by omega
      have hIj0 := hLay.hI _ htl j hj3
      have hIj := hL1.hI _ htl j hj3
      have hrise := hti.1 j hj3
      have htj : tot (l (jt n 0).toNat) j + l (jt n 0).toNat j ≤ tot (l (jt n 0).toNat) 3 := tot_mono (l := l (jt n 0).toNat) (show j + 1 ≤ 3 by omega)
      refine TW.skip ?_
      refine TQ.thenN (hY14 _ _ ?_)
      refine TW.seq fun Y15 hY15 => ?_
      refine TW.block ?_
      refine TW.seq fun Y16 hY16 => ?_
      refine TW.region ?_
      refine TL.p Pu.mv ?_
      refine TL.p (Pu.ix rfl rfl (fun w => index_tie _ _ _ j (by omega) w)) ?_
      refine TL.p Pu.as ?_
      refine TL.p Pu.as ?_
      refine TL.nil ?_
      refine TQ.thenN (hY16 _ _ ?_)
      refine TW.seq fun Y17 hY17 => ?_
      refine TW.region ?_
      refine TL.p Pu.mv ?_
      refine TL.p (Pu.ln Tryz.underlying24) ?_
      refine TL.p Pu.mv ?_
      refine TL.nil ?_
      refine TQ.thenN (hY17 _ _ ?_)
      refine TW.block ?_
      refine TW.loop1 (fun (k : Nat) => [(48, .int .i64 (k : Int)), (47, .int .i64 (l (jt n 0).toNat j : Int)), (46, .slice (a (jt n 0).toNat j) (l (jt n 0).toNat j) (c (jt n 0).toNat j)), (8, .int .i64 (j : Int)), (42, .int .i64 (j : Int)), (41, .agg (tieL (a (jt n 0).toNat) (l (jt n 0).toNat) (c (jt n 0).toNat)).toArray), (7, .pointer (some ⟨b2, 0, none⟩)), (32, .int .i64 (n : Int)), (31, .int .i64 (nj : Int)), (30, .slice A3 nj cp3), (5, .slice Ac np cc), (0, .pointer (some ⟨bp, 0, none⟩)), (1, .pointer (some ⟨bt, 0, none⟩)), (2, .pointer (some ⟨bd, 0, none⟩)), (3, .pointer (some ⟨bj, 0, none⟩)), (4, .pointer (some ⟨bn, 0, none⟩))]) (fun k => [.own Ac np cc 45 11 (fun q => packL (hitL (hitJ (hitAll pk jt l v n) (jt n 1) (l (jt n 0).toNat) (v (jt n 0).toNat) j) (jt n 1) (j == 2) ((List.range k).map (v (jt n 0).toNat j)) q)), .blk b2 103 (spL (jt n 0) (jt n 1)), .blk bn 22 [.slice none 0 0]]) (fun k => k ≤ l (jt n 0).toNat j ∧ Bd (hitL (hitJ (hitAll pk jt l v n) (jt n 1) (l (jt n 0).toNat) (v (jt n 0).toNat) j) (jt n 1) (j == 2) ((List.range k).map (v (jt n 0).toNat j))) np (6000000 + 2000000 * (n : Int) + 200000 * (tot (l (jt n 0).toNat) j : Int) + 200000 * (k : Int))) (fun k => l (jt n 0).toNat j - k) 0 (by repeat (first | exact trivial | refine ⟨rfl, ?_⟩ | refine ⟨trivial, ?_⟩)) ?_ ?_ ?_
      · exact (by repeat (first | exact KSub.nil | refine KSub.cons (by repeat (first | exact Pick.hd | apply Pick.tl)) ?_))
      · exact ⟨Nat.zero_le _, hBj.mono (by omega)⟩
      rintro k ⟨hk, hBk⟩ Z2 hZ2
      refine TW.seq fun Y18 hY18 => ?_
      refine TW.region ?_
      refine TL.p Pu.lt ?_
      refine TL.nil ?_
      refine TQ.thenN (hY18 _ _ ?_)
      refine TW.seq fun Y19 hY19 => ?_
      refine TW.cond rfl (fun hc2 => ?_) (fun hc2 => ?_)
      · try simp only [decide_eq_true_eq, decide_eq_false_iff_not, Bool.not_eq_true', Bool.not_eq_false', Bool.and_eq_true, Bool.or_eq_true, Bool.and_eq_false_iff, Bool.or_eq_false_iff, Int.not_lt, Int.not_le] at hc2
        have hkl : k < l (jt n 0).toNat j := by omega
        have apI : Apart [bn] (a (jt n 0).toNat j) := hIj0.apart hS (by omega)
        have hx := rise_bound (by omega) hrise k hkl
        generalize hfe : hitL (hitJ (hitAll pk jt l v n) (jt n 1) (l (jt n 0).toNat) (v (jt n 0).toNat) j) (jt n 1) (j == 2) ((List.range k).map (v (jt n 0).toNat j)) = f at *
        have hBq := hBk (v (jt n 0).toNat j k).toNat (by omega)
        refine TW.skip ?_
        refine TQ.thenN (hY19 _ _ ?_)
        refine TW.seq fun Y20 hY20 => ?_
        refine TW.block ?_
        refine TW.seq fun Y21 hY21 => ?_
        refine TW.region ?_
        refine TL.p (Pu.el ty_et24) ?_
        refine TL.p (by first | exact (Pu.ld ty_sc3) | exact (Pu.ldo ty_sc3)) ?_
        refine TL.p Pu.as ?_
        refine TL.nil ?_
        refine TQ.thenN (hY21 _ _ ?_)
        refine TW.seq fun Y22 hY22 => ?_
        refine TW.dw 10 ?_
        refine RK.tk Pu.mv ?_
        refine RK.tk Pu.mv ?_
        refine RK.tk (Pu.el (q := (v (jt n 0).toNat j k).toNat) ty_et22 (hk := rfl)) ?_
        refine RK.tk (by first | exact Pu.fb ty_fa45_5 | exact Pu.fe ty_fa45_5) ?_
        refine RK.tk (by first | exact (Pu.ld ty_sc3) | exact (Pu.ldo ty_sc3)) ?_
        refine RK.tk (by first | exact Pu.fb ty_fa103_1 | exact Pu.fe ty_fa103_1) ?_
        refine RK.tk (by first | exact (Pu.ld ty_sc3) | exact (Pu.ldo ty_sc3)) ?_
        refine RK.tk Pu.ad ?_
        refine RK.tk (Pu.el (q := (v (jt n 0).toNat j k).toNat) ty_et22 (hk := rfl)) ?_
        refine RK.tk (by first | exact Pu.fb ty_fa45_5 | exact Pu.fe ty_fa45_5) ?_
        refine RK.ch [] ?_ trivial
        refine WK.n ?_
        first | refine TL.st ty_sz3 ?_ | refine TL.se ty_sz3 ?_
        refine TL.nil ?_
        refine TQ.thenN (hY22 _ _ ?_)
        refine TW.seq fun Y23 hY23 => ?_
        refine TW.region ?_
        refine TL.subK (KSub.own Pick.hd (fun q _ => bump_row (h := jt n 1) hx.1 q) (KSub.cons Pick.hd (KSub.cons Pick.hd KSub.nil))) ?_
        refine TL.p Pu.mv ?_
        refine TL.p Pu.eq ?_
        refine TL.nil ?_
        refine TQ.thenN (hY23 _ _ ?_)
        refine TW.cond rfl (fun hc3 => ?_) (fun hc3 => ?_)
        · try simp only [decide_eq_true_eq, decide_eq_false_iff_not, Bool.not_eq_true', Bool.not_eq_false', Bool.and_eq_true, Bool.or_eq_true, Bool.and_eq_false_iff, Bool.or_eq_false_iff, Int.not_lt, Int.not_le] at hc3
          have hBq2 := (hBk.bump (x := v (jt n 0).toNat j k) hjn.2.1 hjn.2.2) (v (jt n 0).toNat j k).toNat (by omega)
          have hhit : hit f (jt n 1) (j == 2) (v (jt n 0).toNat j k) = bump (bump f (v (jt n 0).toNat j k) (jt n 1)) (v (jt n 0).toNat j k) (jt n 1) := by
            have : j = 2 := by omega
            subst this
            rfl
          refine TW.dw 10 ?_
          refine RK.tk Pu.mv ?_
          refine RK.tk Pu.mv ?_
          refine RK.tk (Pu.el (q := (v (jt n 0).toNat j k).toNat) ty_et22 (hk := rfl)) ?_
          refine RK.tk (by first | exact Pu.fb ty_fa45_5 | exact Pu.fe ty_fa45_5) ?_
          refine RK.tk (by first | exact (Pu.ld ty_sc3) | exact (Pu.ldo ty_sc3)) ?_
          refine RK.tk (by first | exact Pu.fb ty_fa103_1 | exact Pu.fe ty_fa103_1) ?_
          refine RK.tk (by first | exact (Pu.ld ty_sc3) | exact (Pu.ldo ty_sc3)) ?_
          refine RK.tk Pu.ad ?_
          refine RK.tk (Pu.el (q := (v (jt n 0).toNat j k).toNat) ty_et22 (hk := rfl)) ?_
          refine RK.tk (by first | exact Pu.fb ty_fa45_5 | exact Pu.fe ty_fa45_5) ?_
          refine RK.ch [] ?_ trivial
          refine WK.n ?_
          first | refine TL.st ty_sz3 ?_ | refine TL.se ty_sz3 ?_
          refine TL.nil ?_
          refine TQ.blkN ?_
          refine TQ.thenN (hY20 _ _ ?_)
          refine TW.region ?_
          refine TL.p Pu.ad ?_
          refine TL.p Pu.mv ?_
          refine TL.nil ?_
          refine TQ.thenN (hZ2 (k + 1) _ _ ?_ ?_ (by repeat (first | exact trivial | refine ⟨rfl, ?_⟩ | refine ⟨trivial, ?_⟩)) ?_)
          · refine ⟨by omega, ?_⟩
            rw [List.range_succ, List.map_append, show [k].map (v (jt n 0).toNat j) = [v (jt n 0).toNat j k] from rfl, hitL_snoc, hfe]
            exact (hBk.hit hjn.2.1 hjn.2.2).mono (by omega)
          · exact (by first | omega | (simp only []; omega) | (simp; omega))
          · rw [List.range_succ, List.map_append, show [k].map (v (jt n 0).toNat j) = [v (jt n 0).toNat j k] from rfl]
            simp only [hitL_snoc, hfe, hhit]
            first
              | exact KSub.own Pick.hd (fun q _ => bump_row (f := bump f (v (jt n 0).toNat j k) (jt n 1)) (h := jt n 1) hx.1 q) (KSub.cons Pick.hd (KSub.cons Pick.hd KSub.nil))
              | exact KSub.cons Pick.hd (KSub.cons Pick.hd (KSub.cons Pick.hd KSub.nil))
        · try simp only [decide_eq_true_eq, decide_eq_false_iff_not, Bool.not_eq_true', Bool.not_eq_false', Bool.and_eq_true, Bool.or_eq_true, Bool.and_eq_false_iff, Bool.or_eq_false_iff, Int.not_lt, Int.not_le] at hc3
          have hhit : hit f (jt n 1) (j == 2) (v (jt n 0).toNat j k) = bump f (v (jt n 0).toNat j k) (jt n 1) := by
            have : (j == 2) = false := by simp; omega
            rw [this]; rfl
          refine TW.skip ?_
          refine TQ.blkN ?_
          refine TQ.thenN (hY20 _ _ ?_)
          refine TW.region ?_
          refine TL.p Pu.ad ?_
          refine TL.p Pu.mv ?_
          refine TL.nil ?_
          refine TQ.thenN (hZ2 (k + 1) _ _ ?_ ?_ (by repeat (first | exact trivial | refine ⟨rfl, ?_⟩ | refine ⟨trivial, ?_⟩)) ?_)
          · refine ⟨by omega, ?_⟩
            rw [List.range_succ, List.map_append, show [k].map (v (jt n 0).toNat j) = [v (jt n 0).toNat j k] from rfl, hitL_snoc, hfe]
            exact (hBk.hit hjn.2.1 hjn.2.2).mono (by omega)
          · exact (by first | omega | (simp only []; omega) | (simp; omega))
          · rw [List.range_succ, List.map_append, show [k].map (v (jt n 0).toNat j) = [v (jt n 0).toNat j k] from rfl]
            simp only [hitL_snoc, hfe, hhit]
            first
              | exact KSub.own Pick.hd (fun q _ => bump_row (f := bump f (v (jt n 0).toNat j k) (jt n 1)) (h := jt n 1) hx.1 q) (KSub.cons Pick.hd (KSub.cons Pick.hd KSub.nil))
              | exact KSub.cons Pick.hd (KSub.cons Pick.hd (KSub.cons Pick.hd KSub.nil))
      · try simp only [decide_eq_true_eq, decide_eq_false_iff_not, Bool.not_eq_true', Bool.not_eq_false', Bool.and_eq_true, Bool.or_eq_true, Bool.and_eq_false_iff, Bool.or_eq_false_iff, Int.not_lt, Int.not_le] at hc2
        refine TW.exit ?_
        refine TQ.thenX ?_
        refine TQ.thenX ?_
        refine TQ.blkX ?_
        refine TQ.blkN ?_
        refine TQ.thenN (hY15 _ _ ?_)
        refine TW.region ?_
        refine TL.p Pu.ad ?_
        refine TL.p Pu.mv ?_
        refine TL.nil ?_
        obtain rfl : k = l (jt n 0).toNat j := by omega
        refine TQ.thenN (hZ1 (j + 1) _ _ ?_ ?_ (by repeat (first | exact trivial | refine ⟨rfl, ?_⟩ | refine ⟨trivial, ?_⟩)) ?_)
        · refine ⟨by omega, ?_⟩
          simp only [hitJ, lst, tot]
          exact hBk.mono (by omega)
        · exact (by first | omega | (simp only []; omega) | (simp; omega))
        · simp only [hitJ, lst]
          exact KSub.cons (by repeat (first | exact Pick.hd | apply Pick.tl)) (KSub.cons (by repeat (first | exact Pick.hd | apply Pick.tl)) (KSub.cons (by repeat (first | exact Pick.hd | apply Pick.tl)) KSub.nil))
    · try simp only [decide_eq_true_eq, decide_eq_false_iff_not, Bool.not_eq_true', Bool.not_eq_false', Bool.and_eq_true, Bool.or_eq_true, Bool.and_eq_false_iff, Bool.or_eq_false_iff, Int.not_lt, Int.not_le] at hc1
      obtain rfl : 3 = j := by omega
      refine TW.exit ?_
      refine TQ.thenX ?_
      refine TQ.thenX ?_
      refine TQ.blkX ?_
      refine TQ.blkN ?_
      refine TQ.thenN (hY10 _ _ ?_)
      refine TW.region ?_
      refine TL.p Pu.ad ?_
      refine TL.p Pu.mv ?_
      refine TL.nil ?_
      refine TQ.thenN (hZ0 (n + 1) _ _ ?_ ?_ (by repeat (first | exact trivial | refine ⟨rfl, ?_⟩ | refine ⟨trivial, ?_⟩)) ?_)
      · refine ⟨by omega, ?_⟩
        simp only [hitAll]
        exact hBj.mono (by omega)
      · exact (by first | omega | (simp only []; omega) | (simp; omega))
      · simp only [hitAll]
        exact KSub.cons (by repeat (first | exact Pick.hd | apply Pick.tl)) (KSub.cons (by repeat (first | exact Pick.hd | apply Pick.tl)) KSub.nil)
  · try simp only [decide_eq_true_eq, decide_eq_false_iff_not, Bool.not_eq_true', Bool.not_eq_false', Bool.and_eq_true, Bool.or_eq_true, Bool.and_eq_false_iff, Bool.or_eq_false_iff, Int.not_lt, Int.not_le] at hc0
    obtain rfl : nj = n := by omega
    refine TW.exit ?_
    refine TQ.thenX ?_
    refine TQ.thenX ?_
    refine TQ.blkX ?_
    refine TQ.thenN (hY6 _ _ ?_)
    refine TW.seq fun Y24 hY24 => ?_
    refine TW.seq fun Y25 hY25 => ?_
    refine TW.region ?_
    refine TL.p Pu.mv ?_
    refine TL.p (Pu.ln Tryz.underlying22) ?_
    refine TL.p Pu.mv ?_
    refine TL.nil ?_
    refine TQ.thenN (hY25 _ _ ?_)
    refine TW.block ?_
    have hdd : 0 ≤ days ∧ days ≤ 100000 := by simpa [inB5] using hdays
    refine TW.loop1 (fun (k : Nat) => [(79, .int .i64 (k : Int)), (78, .int .i64 (np : Int)), (5, .slice Ac np cc), (0, .pointer (some ⟨bp, 0, none⟩)), (1, .pointer (some ⟨bt, 0, none⟩)), (2, .pointer (some ⟨bd, 0, none⟩)), (3, .pointer (some ⟨bj, 0, none⟩)), (4, .pointer (some ⟨bn, 0, none⟩))]) (fun k => [.own Ac np cc 45 11 (fun q => packL (aged (hitAll pk jt l v nj) days k q)), .blk bn 22 [.slice none 0 0]]) (fun k => k ≤ np) (fun k => np - k) 0 (by repeat (first | exact trivial | refine ⟨rfl, ?_⟩ | refine ⟨trivial, ?_⟩)) ?_ ?_ ?_
    · have e0 : aged (hitAll pk jt l v nj) days 0 = hitAll pk jt l v nj := by funext q j; simp [aged]
      rw [e0]
      exact KSub.cons (by repeat (first | exact Pick.hd | apply Pick.tl)) (KSub.cons (by repeat (first | exact Pick.hd | apply Pick.tl)) KSub.nil)
    · exact Nat.zero_le _
    rintro k hk Z3 hZ3
    refine TW.seq fun Y26 hY26 => ?_
    refine TW.region ?_
    refine TL.p Pu.lt ?_
    refine TL.nil ?_
    refine TQ.thenN (hY26 _ _ ?_)
    refine TW.seq fun Y27 hY27 => ?_
    refine TW.cond rfl (fun hc4 => ?_) (fun hc4 => ?_)
    · try simp only [decide_eq_true_eq, decide_eq_false_iff_not, Bool.not_eq_true', Bool.not_eq_false', Bool.and_eq_true, Bool.or_eq_true, Bool.and_eq_false_iff, Bool.or_eq_false_iff, Int.not_lt, Int.not_le] at hc4
      have hkn : k < np := by omega
      have hBk := hBn k hkn
      have hag : aged (hitAll pk jt l v nj) days k k 10 = hitAll pk jt l v nj k 10 := by simp [aged]
      refine TW.skip ?_
      refine TQ.thenN (hY27 _ _ ?_)
      refine TW.seq fun Y28 hY28 => ?_
      refine TW.block ?_
      refine TW.seq fun Y29 hY29 => ?_
      refine TW.region ?_
      refine TL.p Pu.mv ?_
      refine TL.p Pu.as ?_
      refine TL.nil ?_
      refine TQ.thenN (hY29 _ _ ?_)
      refine TW.dw 9 ?_
      refine RK.tk Pu.mv ?_
      refine RK.tk Pu.mv ?_
      refine RK.tk (Pu.el ty_et22) ?_
      refine RK.tk (by first | exact Pu.fb ty_fa45_6 | exact Pu.fe ty_fa45_6) ?_
      refine RK.tk (by first | exact (Pu.ld ty_sc3) | exact (Pu.ldo ty_sc3)) ?_
      refine RK.tk (by first | exact (Pu.ld ty_sc3) | exact (Pu.ldo ty_sc3)) ?_
      refine RK.tk Pu.ad ?_
      refine RK.tk (Pu.el ty_et22) ?_
      refine RK.tk (by first | exact Pu.fb ty_fa45_6 | exact Pu.fe ty_fa45_6) ?_
      refine RK.ch [] ?_ trivial
      refine WK.n ?_
      first | refine TL.st ty_sz3 ?_ | refine TL.se ty_sz3 ?_
      refine TL.nil ?_
      refine TQ.blkN ?_
      refine TQ.thenN (hY28 _ _ ?_)
      refine TW.region ?_
      refine TL.p Pu.ad ?_
      refine TL.p Pu.mv ?_
      refine TL.nil ?_
      refine TQ.thenN (hZ3 (k + 1) _ _ ?_ ?_ (by repeat (first | exact trivial | refine ⟨rfl, ?_⟩ | refine ⟨trivial, ?_⟩)) ?_)
      · exact (by omega)
      · exact (by first | omega | (simp only []; omega) | (simp; omega))
      · exact KSub.own Pick.hd (fun q _ => aged_row q) (KSub.cons (by repeat (first | exact Pick.hd | apply Pick.tl)) KSub.nil)
    · try simp only [decide_eq_true_eq, decide_eq_false_iff_not, Bool.not_eq_true', Bool.not_eq_false', Bool.and_eq_true, Bool.or_eq_true, Bool.and_eq_false_iff, Bool.or_eq_false_iff, Int.not_lt, Int.not_le] at hc4
      obtain rfl : np = k := by omega
      refine TW.exit ?_
      refine TQ.thenX ?_
      refine TQ.thenX ?_
      refine TQ.blkX ?_
      refine TQ.thenN (hY24 _ _ ?_)
      refine TW.seq fun Y30 hY30 => ?_
      refine TW.region ?_
      refine TL.p Pu.mv ?_
      refine TL.cr rfl (enters Tryz.func86 rfl rfl) (fun w hw => by
          have h0n : (0 : Nat) ∉ [bn] := by
            have := hLay.hG.1
            simp only [List.mem_singleton]
            omega
          exact everyPack_any (v := finF pk jt l v np nj days) (fs := []) (cs := []) (p := fun q => packOk (finF pk jt l v np nj days q)) (enters Tryz.func63 rfl rfl) (by omega) (hw.own Pick.hd).rdr fun k hk w' hb' => by simpa using valid_any (finF pk jt l v np nj days k) w' ((hG1.sat hw h0n).ext hb')) ?_
      refine TL.ct rfl (enters Tryz.func76 rfl rfl) (fun w hw => by
          exact need_any _ _ _ (by decide)) (fun hp5 => ?_) (fun hp5 => ?_)
      rotate_left
      · refine TQ.thenP ?_
        refine TQ.pan rfl ?_
        first
          | exact fun w hw => doing_bad hp1 (jc1 hp1) hw
          | exact fun w hw => doing_bad hp2 (jc2 hp1 hp2) hw
          | exact fun w hw => doing_bad hp3 (jc3 hp1 hp2 hp3) hw
          | exact fun w hw => doing_bad hp4 (jc4 hp1 hp2 hp3 hp4) hw
          | exact fun w hw => doing_bad hp5 (jc5 hp1 hp2 hp3 hp4 hp5) hw
          | exact fun w hw => doing_bad hp5 (jc5 hp1 hp2 hp3 hp4 hp5) (hw.sub (KSub.cons (by repeat (first | exact Pick.hd | apply Pick.tl)) KSub.nil))
          | exact fun w hw => doing_bad hp2 (jc2 hp1 hp2) (hw.sub (KSub.cons (by repeat (first | exact Pick.hd | apply Pick.tl)) KSub.nil))
          | exact fun w hw => doing_bad hp3 (jc3 hp1 hp2 hp3) (hw.sub (KSub.cons (by repeat (first | exact Pick.hd | apply Pick.tl)) KSub.nil))
          | exact fun w hw => doing_bad hp4 (jc4 hp1 hp2 hp3 hp4) (hw.sub (KSub.cons (by repeat (first | exact Pick.hd | apply Pick.tl)) KSub.nil))
      refine TL.nil ?_
      refine TQ.thenN (hY30 _ _ ?_)
      refine TW.region ?_
      refine TL.p Pu.mv ?_
      first | refine TL.st ty_sz22 ?_ | refine TL.se ty_sz22 ?_
      refine TL.nil ?_
      refine TQ.end Tryz.results81 rfl (.nil) ?_
      exact fun w hw => ⟨(Ac, cc), by
        show Sat _ _ (if jcode np pk m l v nj jt days = 0 then _ else _) _
        rw [if_pos (jc0 hp1 hp2 hp3 hp4 hp5)]
        exact hw.sub (KSub.cons (by repeat (first | exact Pick.hd | apply Pick.tl)) (KSub.cons (by repeat (first | exact Pick.hd | apply Pick.tl)) KSub.nil)), by rw [if_pos (jc0 hp1 hp2 hp3 hp4 hp5)]; rfl⟩
end Go.Proofs.YtjephihlkjpohaaGreatDoor
namespace Go.Proofs.YtjephihlkjpohaaGreatDoor
set_option linter.all false
set_option linter.unusedVariables false
set_option linter.unusedSimpArgs false
open Go.RowKit
def sumF (g : Nat → Int) : Nat → Int
  | 0 => 0
  | n + 1 => sumF g n + g n
theorem sumF_bd {g : Nat → Int} {B : Int} : ∀ {n : Nat}, (∀ k, k < n → 0 ≤ g k ∧ g k ≤ B) → 0 ≤ sumF g n ∧ sumF g n ≤ n * B
  | 0, _ => by simp [sumF]
  | n + 1, h => by
    have h1 := sumF_bd (n := n) fun k hk => h k (by omega)
    have h2 := h n (by omega)
    simp only [sumF]
    have e : ((n + 1 : Nat) : Int) * B = n * B + B := by rw [Int.natCast_add, Int.add_mul]; simp
    omega
theorem sumF_le {g : Nat → Int} {n : Nat} (h : ∀ k, k < n → 0 ≤ g k ∧ g k ≤ 1000000) (hn : n ≤ 1000) : ∀ q, q ≤ n → 0 ≤ sumF g q ∧ sumF g q ≤ 1000000000 := fun q hq => by
  have h1 := sumF_bd (g := g) (n := q) fun k hk => h k (by omega)
  have : (q : Int) * 1000000 ≤ 1000 * 1000000 := by omega
  omega
theorem KSub.app {K K' L : List Fact} {A : Option Addr} {k c sz : Nat} {E : TypeId} {g : Nat → List Value} {x : List Value} (hp : Pick K (.own A (k + 1) c E sz (catR k g (fun _ => x))) K') (hx : x = g k) (h : KSub K' L) : KSub K (.own A (k + 1) c E sz g :: L) :=
  KSub.own hp (fun i hi => by
    simp only [catR]
    by_cases h : i < k
    · rw [if_pos h]
    · obtain rfl : i = k := by omega
      rw [if_neg h, hx]) h
theorem sum_any {A : Option Addr} {n cp : Nat} {x y : Nat → Int} {w : World} (hn : n ≤ 1000) (hx : ∀ k, k < n → 0 ≤ x k ∧ x k ≤ 1000000) (hy : ∀ k, k < n → 0 ≤ y k ∧ y k ≤ 1000000) (hR : RdR w 2 A n (fun k => spL (x k) (y k))) :
    Calls Tryz.prog 113 #[.slice A n cp] w (Ret w (.agg #[.int .i64 (sumF x n), .int .i64 (sumF y n)])) := by
  have sx := sumF_le hx hn
  have sy := sumF_le hy hn
  refine K_enter (S := []) (K := []) Tryz.func113 rfl Tryz.ntmps113 rfl (Sat.start _) ?_
  refine TW.seq fun Y1 hY1 => ?_
  refine TW.region ?_
  refine TL.m (Mk.al ty_zr43) ?_
  intro b1
  refine TL.nil ?_
  refine TQ.thenN (hY1 _ _ ?_)
  refine TW.seq fun Y2 hY2 => ?_
  refine TW.seq fun Y3 hY3 => ?_
  refine TW.region ?_
  refine TL.p Pu.mv ?_
  refine TL.p (Pu.ln Tryz.underlying109) ?_
  refine TL.p Pu.mv ?_
  refine TL.nil ?_
  refine TQ.thenN (hY3 _ _ ?_)
  refine TW.block ?_
  refine TW.loop1 (fun (k : Nat) => [(7, .int .i64 (k : Int)), (6, .int .i64 (n : Int)), (5, .slice A n cp), (2, .pointer (some ⟨b1, 0, none⟩))]) (fun k => [.blk b1 43 (spL (sumF x k) (sumF y k))]) (fun k => k ≤ n) (fun k => n - k) 0 (by repeat (first | exact trivial | refine ⟨rfl, ?_⟩ | refine ⟨trivial, ?_⟩)) ?_ ?_ ?_
  · exact (by repeat (first | exact KSub.nil | refine KSub.cons (by repeat (first | exact Pick.hd | apply Pick.tl)) ?_))
  · exact Nat.zero_le _
  rintro k hk Z0 hZ0
  refine TW.seq fun Y4 hY4 => ?_
  refine TW.region ?_
  refine TL.p Pu.lt ?_
  refine TL.nil ?_
  refine TQ.thenN (hY4 _ _ ?_)
  refine TW.seq fun Y5 hY5 => ?_
  refine TW.cond rfl (fun hc0 => ?_) (fun hc0 => ?_)
  · try simp only [decide_eq_true_eq, decide_eq_false_iff_not, Bool.not_eq_true', Bool.not_eq_false', Bool.and_eq_true, Bool.or_eq_true, Bool.and_eq_false_iff, Bool.or_eq_false_iff, Int.not_lt, Int.not_le] at hc0
    have hkn : k < n := by omega
    have hxk := hx k hkn
    have hyk := hy k hkn
    have sxk := sx k hk
    have syk := sy k hk
    refine TW.skip ?_
    refine TQ.thenN (hY5 _ _ ?_)
    refine TW.seq fun Y6 hY6 => ?_
    refine TW.block ?_
    refine TW.seq fun Y7 hY7 => ?_
    refine TW.region ?_
    refine TL.p (Pu.el ty_et109) ?_
    refine TL.p (Pu.lds ty_ag43) ?_
    refine TL.m (Mk.al ty_zr43) ?_
    intro b2
    first | refine TL.st ty_sz43 ?_ | refine TL.se ty_sz43 ?_
    refine TL.nil ?_
    refine TQ.thenN (hY7 _ _ ?_)
    refine TW.ex0 (Drop.blk 2 rfl (by repeat (first | exact Pick.hd | apply Pick.tl)) Drop.done) ?_
    refine RG.tk 0 rfl (by first | exact Pu.fb ty_fa43_0 | exact Pu.fe ty_fa43_0) ?_
    refine RG.tk 2 rfl (by first | exact Pu.fb ty_fa43_0 | exact Pu.fe ty_fa43_0) ?_
    refine RG.tk 3 rfl (Pu.ld ty_sc3) ?_
    refine RG.tk 5 rfl (by first | exact Pu.fb ty_fa43_1 | exact Pu.fe ty_fa43_1) ?_
    refine RG.tk 7 rfl (by first | exact Pu.fb ty_fa43_1 | exact Pu.fe ty_fa43_1) ?_
    refine RG.tk 8 rfl (Pu.ld ty_sc3) ?_
    refine RG.a2 1 6 rfl rfl (fun X1 hX1 => ?_) (fun X6 hX6 => ?_)
    · refine TL.p (Pu.ld ty_sc3) ?_
      refine TL.nil ?_
      refine TQ.nxt (hX1 _ _ (by repeat (first | exact HasL.nil | refine HasL.cons (by repeat (first | exact Pick.hd | apply Pick.tl)) ?_)) ?_)
      refine RG.tk 4 rfl Pu.ad ?_
      refine RG.a1 6 rfl (fun X6 hX6 => ?_)
      refine TL.p (Pu.ld ty_sc3) ?_
      refine TL.nil ?_
      refine TQ.nxt (hX6 _ _ (by repeat (first | exact HasL.nil | refine HasL.cons (by repeat (first | exact Pick.hd | apply Pick.tl)) ?_)) ?_)
      refine RG.tk 9 rfl Pu.ad ?_
      refine RG.tk 10 rfl (by first | exact Pu.fb ty_fa43_0 | exact Pu.fe ty_fa43_0) ?_
      refine RG.a1 11 rfl (fun X11 hX11 => ?_)
      first | refine TL.st ty_sz3 ?_ | refine TL.se ty_sz3 ?_
      refine TL.nil ?_
      refine TQ.nxt (hX11 _ _ (by repeat (first | exact HasL.nil | refine HasL.cons (by repeat (first | exact Pick.hd | apply Pick.tl)) ?_)) ?_)
      refine RG.tk 12 rfl (by first | exact Pu.fb ty_fa43_1 | exact Pu.fe ty_fa43_1) ?_
      refine RG.a1 13 rfl (fun X13 hX13 => ?_)
      first | refine TL.st ty_sz3 ?_ | refine TL.se ty_sz3 ?_
      refine TL.nil ?_
      refine TQ.nxt (hX13 _ _ (by repeat (first | exact HasL.nil | refine HasL.cons (by repeat (first | exact Pick.hd | apply Pick.tl)) ?_)) ?_)
      refine RG.nil ?_ (by kernel_rfl)
      refine TQ.blkN ?_
      refine TQ.thenN (hY6 _ _ ?_)
      refine TW.region ?_
      refine TL.p Pu.ad ?_
      refine TL.p Pu.mv ?_
      refine TL.nil ?_
      refine TQ.thenN (hZ0 (k + 1) _ _ ?_ ?_ (by repeat (first | exact trivial | refine ⟨rfl, ?_⟩ | refine ⟨trivial, ?_⟩)) ?_)
      · exact (by omega)
      · exact (by first | omega | (simp only []; omega) | (simp; omega))
      · exact (by repeat (first | exact KSub.nil | refine KSub.cons (by repeat (first | exact Pick.hd | apply Pick.tl)) ?_))
    · refine TL.p (Pu.ld ty_sc3) ?_
      refine TL.nil ?_
      refine TQ.nxt (hX6 _ _ (by repeat (first | exact HasL.nil | refine HasL.cons (by repeat (first | exact Pick.hd | apply Pick.tl)) ?_)) ?_)
      refine RG.tk 9 rfl Pu.ad ?_
      refine RG.a1 1 rfl (fun X1 hX1 => ?_)
      refine TL.p (Pu.ld ty_sc3) ?_
      refine TL.nil ?_
      refine TQ.nxt (hX1 _ _ (by repeat (first | exact HasL.nil | refine HasL.cons (by repeat (first | exact Pick.hd | apply Pick.tl)) ?_)) ?_)
      refine RG.tk 4 rfl Pu.ad ?_
      refine RG.tk 10 rfl (by first | exact Pu.fb ty_fa43_0 | exact Pu.fe ty_fa43_0) ?_
      refine RG.a1 11 rfl (fun X11 hX11 => ?_)
      first | refine TL.st ty_sz3 ?_ | refine TL.se ty_sz3 ?_
      refine TL.nil ?_
      refine TQ.nxt (hX11 _ _ (by repeat (first | exact HasL.nil | refine HasL.cons (by repeat (first | exact Pick.hd | apply Pick.tl)) ?_)) ?_)
      refine RG.tk 12 rfl (by first | exact Pu.fb ty_fa43_1 | exact Pu.fe ty_fa43_1) ?_
      refine RG.a1 13 rfl (fun X13 hX13 => ?_)
      first | refine TL.st ty_sz3 ?_ | refine TL.se ty_sz3 ?_
      refine TL.nil ?_
      refine TQ.nxt (hX13 _ _ (by repeat (first | exact HasL.nil | refine HasL.cons (by repeat (first | exact Pick.hd | apply Pick.tl)) ?_)) ?_)
      refine RG.nil ?_ (by kernel_rfl)
      refine TQ.blkN ?_
      refine TQ.thenN (hY6 _ _ ?_)
      refine TW.region ?_
      refine TL.p Pu.ad ?_
      refine TL.p Pu.mv ?_
      refine TL.nil ?_
      refine TQ.thenN (hZ0 (k + 1) _ _ ?_ ?_ (by repeat (first | exact trivial | refine ⟨rfl, ?_⟩ | refine ⟨trivial, ?_⟩)) ?_)
      · exact (by omega)
      · exact (by first | omega | (simp only []; omega) | (simp; omega))
      · exact (by repeat (first | exact KSub.nil | refine KSub.cons (by repeat (first | exact Pick.hd | apply Pick.tl)) ?_))
  · try simp only [decide_eq_true_eq, decide_eq_false_iff_not, Bool.not_eq_true', Bool.not_eq_false', Bool.and_eq_true, Bool.or_eq_true, Bool.and_eq_false_iff, Bool.or_eq_false_iff, Int.not_lt, Int.not_le] at hc0
    obtain rfl : k = n := by omega
    refine TW.exit ?_
    refine TQ.thenX ?_
    refine TQ.thenX ?_
    refine TQ.blkX ?_
    refine TQ.thenN (hY2 _ _ ?_)
    refine TW.seq fun Y8 hY8 => ?_
    refine TW.region ?_
    refine TL.p (Pu.lds ty_ag43) ?_
    first | refine TL.st ty_sz43 ?_ | refine TL.se ty_sz43 ?_
    refine TL.nil ?_
    refine TQ.thenN (hY8 _ _ ?_)
    refine TW.ret ?_
    refine TQ.ret Tryz.results113 rfl ((RV.cs ty_ag43 .nil)) ?_
    exact fun w hw => Ret.of hw
theorem bounded_any (bound : Int) (w : World) : Calls Tryz.prog 48 #[.int .i64 bound] w (Try w errs (if inB5 0 1000000000 bound then 0 else 2) (.tuple #[])) := by
  refine K_enter (S := []) (K := []) Tryz.func48 rfl Tryz.ntmps48 rfl (Sat.start _) ?_
  refine TW.region ?_
  refine TL.p Pu.mv ?_
  refine TL.m Mk.bl ?_
  intro b1
  refine TL.cr rfl (enters Tryz.func78 rfl rfl) (fun w hw => by
      exact inOne_any _ _ _ (hw.holds _ (List.mem_cons_self ..))) ?_
  refine TL.ct rfl (enters Tryz.func76 rfl rfl) (fun w hw => by
      exact need_any _ _ _ (by decide)) (fun hp1 => ?_) (fun hp1 => ?_)
  rotate_left
  · refine TQ.pan rfl ?_
    exact fun w hw => Try.no hp1 hw
  refine TL.nil ?_
  refine TQ.end Tryz.results48 rfl (.nil) ?_
  exact fun w hw => Try.ok hp1 hw
end Go.Proofs.YtjephihlkjpohaaGreatDoor
namespace Go.Proofs.YtjephihlkjpohaaGreatDoor
set_option linter.all false
set_option linter.unusedVariables false
set_option linter.unusedSimpArgs false
open Go.RowKit
def rl (f : Nat → Int) : Int := (restV f).getD 0 0
def rh (f : Nat → Int) : Int := (restV f).getD 1 0
theorem rest_bd {f : Nat → Int} (h : packOk f = true) : 0 ≤ rl f ∧ rl f ≤ rh f ∧ rh f ≤ 1000000 := by
  obtain ⟨⟨h1, h2, h3, h4, h5, h6, h7⟩, hkind⟩ := (packOk_iff f).1 h
  have m1 : f 7 * f 10 ≤ f 8 * f 10 ∨ f 8 < f 7 := by
    by_cases hh : f 7 ≤ f 8
    · exact .inl (Int.mul_le_mul_of_nonneg_right hh h6)
    · exact .inr (by omega)
  unfold rl rh restV
  split
  · simp only [List.getD_cons_zero, List.getD_cons_succ]
    have : 0 ≤ f 7 * f 10 := Int.mul_nonneg (by omega) h6
    omega
  · split
    · simp only [List.getD_cons_zero, List.getD_cons_succ]; omega
    · have hk : f 0 = 1 := by omega
      have h8 : 0 ≤ f 5 ∧ f 5 ≤ f 6 ∧ f 6 ≤ 1000 := by omega
      have m3 : 0 ≤ f 1 * (1000 - f 6) ∧ f 1 * (1000 - f 6) ≤ f 1 * 1000 := ⟨Int.mul_nonneg h1 (by omega), Int.mul_le_mul_of_nonneg_left (by omega) h1⟩
      have m4 : f 1 * (1000 - f 6) ≤ f 2 * (1000 - f 5) := Int.mul_le_mul h2 (by omega) (by omega) (by omega)
      have m5 : f 2 * (1000 - f 5) ≤ f 2 * 1000 := Int.mul_le_mul_of_nonneg_left (by omega) (by omega)
      split <;> simp only [List.getD_cons_zero, List.getD_cons_succ] <;> omega
theorem restK_ok {f : Nat → Int} (h : packOk f = true) : restK f = [.agg #[.int .i64 (rl f), .int .i64 (rh f)], .agg #[.int .i64 ((restV f).getD 2 0), .int .i64 ((restV f).getD 3 0)], .int .u8 ((restV f).getD 4 0), .int .i64 0] := by
  unfold restK
  rw [if_pos h]
  rfl
theorem rests_any {A : Option Addr} {np cp : Nat} {pk : Nat → Nat → Int} {w : World} (hG : None0 w) (hn : np ≤ 1000000000) (hP : ∀ q, q < np → packOk (pk q) = true) (hR : RdR w 11 A np (fun k => packL (pk k))) :
    CallsK Tryz.prog 51 #[.slice A np cp] [] w (Option Addr × Nat) (fun x => .slice x.1 np x.2) (fun x => [.own x.1 np x.2 43 2 (fun q => spL (rl (pk q)) (rh (pk q)))]) := by
  refine K_enter (S := []) (K := []) Tryz.func51 rfl Tryz.ntmps51 rfl (Sat.start _) ?_
  refine TW.seq fun Y1 hY1 => ?_
  refine TW.region ?_
  refine TL.p Pu.as ?_
  refine TL.nil ?_
  refine TQ.thenN (hY1 _ _ ?_)
  refine TW.seq fun Y2 hY2 => ?_
  refine TW.region ?_
  refine TL.p Pu.as ?_
  refine TL.nil ?_
  refine TQ.thenN (hY2 _ _ ?_)
  refine TW.seq fun Y3 hY3 => ?_
  refine TW.seq fun Y4 hY4 => ?_
  refine TW.region ?_
  refine TL.p Pu.mv ?_
  refine TL.p (Pu.ln Tryz.underlying22) ?_
  refine TL.p Pu.mv ?_
  refine TL.nil ?_
  refine TQ.thenN (hY4 _ _ ?_)
  refine TW.block ?_
  refine TW.loop3 (fun (k : Nat) (Ao : Option Addr) (co : Nat) => [(12, .int .i64 (k : Int)), (11, .int .i64 (np : Int)), (10, .slice A np cp), (3, .slice Ao k co)]) (fun k Ao co => [.own Ao k co 43 2 (fun q => spL (rl (pk q)) (rh (pk q)))]) (fun k Ao co => k ≤ np) (fun k Ao co => np - k) 0 none 0 (by repeat (first | exact trivial | refine ⟨rfl, ?_⟩ | refine ⟨trivial, ?_⟩)) ?_ ?_ ?_
  · exact KSub.nilOwn KSub.nil
  · exact Nat.zero_le _
  rintro k Ao co hk Z0 hZ0
  refine TW.seq fun Y5 hY5 => ?_
  refine TW.region ?_
  refine TL.p Pu.lt ?_
  refine TL.nil ?_
  refine TQ.thenN (hY5 _ _ ?_)
  refine TW.seq fun Y6 hY6 => ?_
  refine TW.cond rfl (fun hc0 => ?_) (fun hc0 => ?_)
  · try simp only [decide_eq_true_eq, decide_eq_false_iff_not, Bool.not_eq_true', Bool.not_eq_false', Bool.and_eq_true, Bool.or_eq_true, Bool.and_eq_false_iff, Bool.or_eq_false_iff, Int.not_lt, Int.not_le] at hc0
    have hkn : k < np := by omega
    refine TW.skip ?_
    refine TQ.thenN (hY6 _ _ ?_)
    refine TW.seq fun Y7 hY7 => ?_
    refine TW.block ?_
    refine TW.seq fun Y8 hY8 => ?_
    refine TW.region ?_
    refine TL.p (Pu.el ty_et22) ?_
    refine TL.p (Pu.lds ty_ag45) ?_
    refine TL.m (Mk.al ty_zr45) ?_
    intro b1
    first | refine TL.st ty_sz45 ?_ | refine TL.se ty_sz45 ?_
    refine TL.nil ?_
    refine TQ.thenN (hY8 _ _ ?_)
    refine TW.seq fun Y9 hY9 => ?_
    refine TW.region ?_
    refine TL.p (Pu.lds ty_ag45) ?_
    refine TL.cr rfl (enters Tryz.func23 rfl rfl) (fun w hw => by
        have h9 := rest_any (pk k) w (hG.sat hw (by simp))
        rw [restK_ok (hP k hkn)] at h9
        exact h9) ?_
    refine TL.p Pu.mv ?_
    refine TL.p Pu.ex ?_
    refine TL.p Pu.ex ?_
    refine TL.p Pu.ex ?_
    refine TL.p Pu.ex ?_
    refine TL.m (Mk.al ty_zr43) ?_
    intro b2
    refine TL.m (Mk.al ty_zr43) ?_
    intro b3
    first | refine TL.st ty_sz43 ?_ | refine TL.se ty_sz43 ?_
    first | refine TL.st ty_sz43 ?_ | refine TL.se ty_sz43 ?_
    refine TL.p Pu.as ?_
    refine TL.p Pu.as ?_
    refine TL.nil ?_
    refine TQ.thenN (hY9 _ _ ?_)
    refine TW.region ?_
    refine TL.p Pu.mv ?_
    refine TL.p (Pu.lds ty_ag43) ?_
    refine TL.m Mk.bl ?_
    intro b4
    first | refine TL.a0 ty_et109 ?_ | refine TL.ap ty_et109 ?_
    intro A5 c5
    refine TL.p Pu.as ?_
    refine TL.nil ?_
    refine TQ.blkN ?_
    refine TQ.thenN (hY7 _ _ ?_)
    refine TW.region ?_
    refine TL.p Pu.ad ?_
    refine TL.p Pu.mv ?_
    refine TL.nil ?_
    refine TQ.thenN (hZ0 (k + 1) _ _ _ _ ?_ ?_ (by repeat (first | exact trivial | refine ⟨rfl, ?_⟩ | refine ⟨trivial, ?_⟩)) ?_)
    · exact (by omega)
    · exact (by first | omega | (simp only []; omega) | (simp; omega))
    · exact KSub.app (by repeat (first | exact Pick.hd | apply Pick.tl)) rfl KSub.nil
  · try simp only [decide_eq_true_eq, decide_eq_false_iff_not, Bool.not_eq_true', Bool.not_eq_false', Bool.and_eq_true, Bool.or_eq_true, Bool.and_eq_false_iff, Bool.or_eq_false_iff, Int.not_lt, Int.not_le] at hc0
    obtain rfl : k = np := by omega
    refine TW.exit ?_
    refine TQ.thenX ?_
    refine TQ.thenX ?_
    refine TQ.blkX ?_
    refine TQ.thenN (hY3 _ _ ?_)
    refine TW.seq fun Y10 hY10 => ?_
    refine TW.region ?_
    refine TL.p Pu.mv ?_
    refine TL.p Pu.as ?_
    refine TL.nil ?_
    refine TQ.thenN (hY10 _ _ ?_)
    refine TW.ret ?_
    refine TQ.ret Tryz.results51 rfl ((.tmp rfl .nil)) ?_
    exact fun w hw => ⟨(Ao, co), rfl, hw⟩
def wS (r : Nat → Int) (v : Nat → Int) (n : Nat) : Int := sumF (fun k => r (v k).toNat) n
def Inx (v : Nat → Int) (n nr : Nat) : Prop := ∀ k, k < n → 0 ≤ v k ∧ v k < nr
def tiedL (a : Nat → Option Addr) (l c : Nat → Nat) (Ar : Option Addr) (nr cr : Nat) : List Value := [.slice (a 0) (l 0) (c 0), .slice (a 1) (l 1) (c 1), .slice (a 2) (l 2) (c 2), .slice Ar nr cr]
structure RestOk (r0 r1 : Nat → Int) (nr : Nat) : Prop where
  lo : ∀ q, q < nr → 0 ≤ r0 q
  le : ∀ q, q < nr → r0 q ≤ r1 q
  hi : ∀ q, q < nr → r1 q ≤ 1000000
theorem RestOk.bd0 {r0 r1 : Nat → Int} {nr n : Nat} {v : Nat → Int} (h : RestOk r0 r1 nr) (hv : Inx v n nr) : ∀ k, k < n → 0 ≤ r0 (v k).toNat ∧ r0 (v k).toNat ≤ 1000000 := fun k hk => by
  have := hv k hk
  have a := h.lo (v k).toNat (by omega); have b := h.le (v k).toNat (by omega); have c := h.hi (v k).toNat (by omega)
  omega
theorem RestOk.bd1 {r0 r1 : Nat → Int} {nr n : Nat} {v : Nat → Int} (h : RestOk r0 r1 nr) (hv : Inx v n nr) : ∀ k, k < n → 0 ≤ r1 (v k).toNat ∧ r1 (v k).toNat ≤ 1000000 := fun k hk => by
  have := hv k hk
  have a := h.lo (v k).toNat (by omega); have b := h.le (v k).toNat (by omega); have c := h.hi (v k).toNat (by omega)
  omega
theorem sumF_mono {g h : Nat → Int} : ∀ {n : Nat}, (∀ k, k < n → g k ≤ h k) → sumF g n ≤ sumF h n
  | 0, _ => by simp [sumF]
  | n + 1, e => by
    have h1 := sumF_mono (n := n) fun k hk => e k (by omega)
    have h2 := e n (by omega)
    simp only [sumF]; omega
theorem RestOk.wS {r0 r1 : Nat → Int} {nr n : Nat} {v : Nat → Int} (h : RestOk r0 r1 nr) (hv : Inx v n nr) (hn : n ≤ 1000) : 0 ≤ wS r0 v n ∧ wS r0 v n ≤ wS r1 v n ∧ wS r1 v n ≤ 1000000000 := by
  have h0 := sumF_le (h.bd0 hv) hn n (Nat.le_refl _)
  have h1 := sumF_le (h.bd1 hv) hn n (Nat.le_refl _)
  have h2 := sumF_mono (n := n) (g := fun k => r0 (v k).toNat) (h := fun k => r1 (v k).toNat) fun k hk => by
    have := hv k hk
    exact h.le _ (by omega)
  exact ⟨h0.1, h2, h1.2⟩
theorem weight_any {a : Nat → Option Addr} {l c : Nat → Nat} {Ar A : Option Addr} {nr cr n cp : Nat} {r0 r1 v : Nat → Int} {w : World} (hr : RestOk r0 r1 nr) (hn : n ≤ 1000) (hv : Inx v n nr)
    (hR : RdR w 2 Ar nr (fun q => spL (r0 q) (r1 q))) (hI : RdR w 1 A n (fun k => [.int .i64 (v k)])) :
    Calls Tryz.prog 71 #[.agg (tiedL a l c Ar nr cr).toArray, .slice A n cp] w (Ret w (.agg #[.int .i64 (wS r0 v n), .int .i64 (wS r1 v n)])) := by
  refine K_enter (S := []) (K := []) Tryz.func71 rfl Tryz.ntmps71 rfl (Sat.start _) ?_
  refine TW.seq fun Y1 hY1 => ?_
  refine TW.region ?_
  refine TL.m Mk.bx ?_
  intro b1
  refine TL.m (Mk.al ty_zr43) ?_
  intro b2
  refine TL.nil ?_
  refine TQ.thenN (hY1 _ _ ?_)
  refine TW.seq fun Y2 hY2 => ?_
  refine TW.region ?_
  refine TL.p Pu.as ?_
  refine TL.nil ?_
  refine TQ.thenN (hY2 _ _ ?_)
  refine TW.seq fun Y3 hY3 => ?_
  refine TW.seq fun Y4 hY4 => ?_
  refine TW.region ?_
  refine TL.p Pu.mv ?_
  refine TL.p (Pu.ln Tryz.underlying24) ?_
  refine TL.p Pu.mv ?_
  refine TL.nil ?_
  refine TQ.thenN (hY4 _ _ ?_)
  refine TW.block ?_
  refine TW.loop3 (fun (k : Nat) (Ao : Option Addr) (co : Nat) => [(10, .int .i64 (k : Int)), (9, .int .i64 (n : Int)), (8, .slice A n cp), (5, .slice Ao k co), (2, .pointer (some ⟨b1, 0, none⟩)), (4, .pointer (some ⟨b2, 0, none⟩))]) (fun k Ao co => [.own Ao k co 43 2 (fun q => spL (r0 (v q).toNat) (r1 (v q).toNat)), .blk b1 112 (tiedL a l c Ar nr cr), .blk b2 43 (spL 0 0)]) (fun k Ao co => k ≤ n) (fun k Ao co => n - k) 0 none 0 (by repeat (first | exact trivial | refine ⟨rfl, ?_⟩ | refine ⟨trivial, ?_⟩)) ?_ ?_ ?_
  · exact KSub.nilOwn (KSub.cons (Pick.tl Pick.hd) (KSub.cons Pick.hd KSub.nil))
  · exact Nat.zero_le _
  rintro k Ao co hk Z0 hZ0
  refine TW.seq fun Y5 hY5 => ?_
  refine TW.region ?_
  refine TL.p Pu.lt ?_
  refine TL.nil ?_
  refine TQ.thenN (hY5 _ _ ?_)
  refine TW.seq fun Y6 hY6 => ?_
  refine TW.cond rfl (fun hc0 => ?_) (fun hc0 => ?_)
  · try simp only [decide_eq_true_eq, decide_eq_false_iff_not, Bool.not_eq_true', Bool.not_eq_false', Bool.and_eq_true, Bool.or_eq_true, Bool.and_eq_false_iff, Bool.or_eq_false_iff, Int.not_lt, Int.not_le] at hc0
    have hkn : k < n := by omega
    have hvk := hv k hkn
    refine TW.skip ?_
    refine TQ.thenN (hY6 _ _ ?_)
    refine TW.seq fun Y7 hY7 => ?_
    refine TW.block ?_
    refine TW.seq fun Y8 hY8 => ?_
    refine TW.region ?_
    refine TL.p (Pu.el ty_et24) ?_
    refine TL.p (Pu.ld ty_sc3) ?_
    refine TL.p Pu.as ?_
    refine TL.nil ?_
    refine TQ.thenN (hY8 _ _ ?_)
    refine TW.region ?_
    refine TL.p Pu.mv ?_
    refine TL.p (by first | exact Pu.fb ty_fa112_1 | exact Pu.fe ty_fa112_1) ?_
    refine TL.p (Pu.ld ty_sc109) ?_
    refine TL.p Pu.mv ?_
    refine TL.p (Pu.el (q := (v k).toNat) ty_et109 (hk := rfl)) ?_
    refine TL.p (Pu.lds ty_ag43) ?_
    refine TL.m Mk.bl ?_
    intro b3
    first | refine TL.a0 ty_et109 ?_ | refine TL.ap ty_et109 ?_
    intro A4 c4
    refine TL.p Pu.as ?_
    refine TL.nil ?_
    refine TQ.blkN ?_
    refine TQ.thenN (hY7 _ _ ?_)
    refine TW.region ?_
    refine TL.p Pu.ad ?_
    refine TL.p Pu.mv ?_
    refine TL.nil ?_
    refine TQ.thenN (hZ0 (k + 1) _ _ _ _ ?_ ?_ (by repeat (first | exact trivial | refine ⟨rfl, ?_⟩ | refine ⟨trivial, ?_⟩)) ?_)
    · exact (by omega)
    · exact (by first | omega | (simp only []; omega) | (simp; omega))
    · exact KSub.app (by repeat (first | exact Pick.hd | apply Pick.tl)) rfl (by repeat (first | exact KSub.nil | refine KSub.cons (by repeat (first | exact Pick.hd | apply Pick.tl)) ?_))
  · try simp only [decide_eq_true_eq, decide_eq_false_iff_not, Bool.not_eq_true', Bool.not_eq_false', Bool.and_eq_true, Bool.or_eq_true, Bool.and_eq_false_iff, Bool.or_eq_false_iff, Int.not_lt, Int.not_le] at hc0
    obtain rfl : k = n := by omega
    refine TW.exit ?_
    refine TQ.thenX ?_
    refine TQ.thenX ?_
    refine TQ.blkX ?_
    refine TQ.thenN (hY3 _ _ ?_)
    refine TW.seq fun Y9 hY9 => ?_
    refine TW.region ?_
    refine TL.p Pu.mv ?_
    refine TL.cr rfl (enters Tryz.func113 rfl rfl) (fun w hw => by
        exact sum_any hn (hr.bd0 hv) (hr.bd1 hv) (OwnR.rdr (hw.holds (.own Ao k co 43 2 (fun q => spL (r0 (v q).toNat) (r1 (v q).toNat))) (by simp)))) ?_
    first | refine TL.st ty_sz43 ?_ | refine TL.se ty_sz43 ?_
    refine TL.nil ?_
    refine TQ.thenN (hY9 _ _ ?_)
    refine TW.ret ?_
    refine TQ.ret Tryz.results71 rfl ((RV.cs ty_ag43 .nil)) ?_
    exact fun w hw => Ret.of hw
end Go.Proofs.YtjephihlkjpohaaGreatDoor
namespace Go.Proofs.YtjephihlkjpohaaGreatDoor
set_option linter.all false
set_option linter.unusedVariables false
set_option linter.unusedSimpArgs false
open Go.RowKit
def balV (l0 l1 r0 r1 b : Int) : Int := if -b ≤ l0 - r1 ∧ l1 - r0 ≤ b then 2 else if b < l0 - r1 ∨ l1 - r0 < -b then 0 else 1
set_option maxRecDepth 100000 in
theorem balance_any {a : Nat → Option Addr} {l c : Nat → Nat} {Ar : Option Addr} {nr cr : Nat} {r0 r1 : Nat → Int} {v : Nat → Nat → Int} {b : Int} {w : World} (hr : RestOk r0 r1 nr) (hb : 0 ≤ b ∧ b ≤ 1000000000000) (hl : ∀ j, j < 2 → l j ≤ 1000) (hv : ∀ j, j < 2 → Inx (v j) (l j) nr)
    (hR : RdR w 2 Ar nr (fun q => spL (r0 q) (r1 q))) (hI : ∀ j, j < 2 → RdR w 1 (a j) (l j) (fun k => [.int .i64 (v j k)])) :
    Calls Tryz.prog 68 #[.agg (tiedL a l c Ar nr cr).toArray, .int .i64 b] w (Ret w (.int .u8 (balV (wS r0 (v 0) (l 0)) (wS r1 (v 0) (l 0)) (wS r0 (v 1) (l 1)) (wS r1 (v 1) (l 1)) b))) := by
  have e0 := hr.wS (hv 0 (by omega)) (hl 0 (by omega))
  have e1 := hr.wS (hv 1 (by omega)) (hl 1 (by omega))
  generalize hq0 : wS r0 (v 0) (l 0) = l0 at *
  generalize hq1 : wS r1 (v 0) (l 0) = l1 at *
  generalize hq2 : wS r0 (v 1) (l 1) = s0 at *
  generalize hq3 : wS r1 (v 1) (l 1) = s1 at *
  refine K_enter (S := []) (K := []) Tryz.func68 rfl Tryz.ntmps68 rfl (Sat.start _) ?_
  refine TW.seq fun Y1 hY1 => ?_
  refine TW.region ?_
  refine TL.m Mk.bx ?_
  intro b1
  refine TL.p Pu.as ?_
  refine TL.nil ?_
  refine TQ.thenN (hY1 _ _ ?_)
  refine TW.seq fun Y2 hY2 => ?_
  refine TW.dw 12 ?_
  refine RK.tk (Pu.lds ty_ag112) ?_
  refine RK.tk (by first | exact Pu.fb ty_fa112_0 | exact Pu.fe ty_fa112_0) ?_
  refine RK.tk (by first | exact Pu.fb ty_fa36_0 | exact Pu.fe ty_fa36_0) ?_
  refine RK.tk (Pu.ld ty_sc24) ?_
  refine RK.keep ?_
  refine RK.tk (Pu.lds ty_ag112) ?_
  refine RK.tk (by first | exact Pu.fb ty_fa112_0 | exact Pu.fe ty_fa112_0) ?_
  refine RK.tk (by first | exact Pu.fb ty_fa36_1 | exact Pu.fe ty_fa36_1) ?_
  refine RK.tk (Pu.ld ty_sc24) ?_
  refine RK.keep ?_
  refine RK.float [.int .i64 0, .int .i64 0] ?_
  refine RK.float [.int .i64 0, .int .i64 0] ?_
  refine RK.ch [false, false] ?_ ⟨ty_zr43, ty_zr43, trivial⟩
  refine WK.cr rfl (enters Tryz.func71 rfl rfl) (fun w hw => by
      have h9 := weight_any (a := a) (l := l) (c := c) (Ar := Ar) (cr := cr) (cp := c 0) hr (hl 0 (by omega)) (hv 0 (by omega)) (hR.sat hw Apart.nil) ((hI 0 (by omega)).sat hw Apart.nil)
      rw [hq0, hq1] at h9
      exact h9) ?_
  refine WK.cr rfl (enters Tryz.func71 rfl rfl) (fun w hw => by
      have h9 := weight_any (a := a) (l := l) (c := c) (Ar := Ar) (cr := cr) (cp := c 1) hr (hl 1 (by omega)) (hv 1 (by omega)) (hR.sat hw Apart.nil) ((hI 1 (by omega)).sat hw Apart.nil)
      rw [hq2, hq3] at h9
      exact h9) ?_
  refine WK.n ?_
  intro b2
  intro b3
  first | refine TL.st ty_sz43 ?_ | refine TL.se ty_sz43 ?_
  first | refine TL.st ty_sz43 ?_ | refine TL.se ty_sz43 ?_
  refine TL.nil ?_
  refine TQ.thenN (hY2 _ _ ?_)
  refine TW.seq fun Y3 hY3 => ?_
  refine TW.seq fun Y4 hY4 => ?_
  refine TW.dw 12 ?_
  refine RK.tk (by first | exact Pu.fb ty_fa43_0 | exact Pu.fe ty_fa43_0) ?_
  refine RK.tk (Pu.ld ty_sc3) ?_
  refine RK.tk (by first | exact Pu.fb ty_fa43_1 | exact Pu.fe ty_fa43_1) ?_
  refine RK.tk (Pu.ld ty_sc3) ?_
  refine RK.tk Pu.sb ?_
  refine RK.tk (by first | exact Pu.fb ty_fa43_1 | exact Pu.fe ty_fa43_1) ?_
  refine RK.tk (Pu.ld ty_sc3) ?_
  refine RK.tk (by first | exact Pu.fb ty_fa43_0 | exact Pu.fe ty_fa43_0) ?_
  refine RK.tk (Pu.ld ty_sc3) ?_
  refine RK.tk Pu.sb ?_
  refine RK.tk Pu.as ?_
  refine RK.tk Pu.as ?_
  refine RK.ch [] ?_ trivial
  refine WK.n ?_
  refine TL.nil ?_
  refine TQ.thenN (hY4 _ _ ?_)
  refine TW.block ?_
  refine TW.seq fun Y5 hY5 => ?_
  refine TW.region ?_
  refine TL.p Pu.mv ?_
  refine TL.p Pu.ng ?_
  refine TL.p Pu.mv ?_
  refine TL.p Pu.mv ?_
  refine TL.p Pu.mv ?_
  refine TL.m Mk.bl ?_
  intro b4
  refine TL.cr rfl (enters Tryz.func78 rfl rfl) (fun w hw => by
      exact inTwo_any _ _ _ _ (hw.holds _ (List.mem_cons_self ..))) ?_
  refine TL.p Pu.as ?_
  refine TL.nil ?_
  refine TQ.thenN (hY5 _ _ ?_)
  refine TW.cond rfl (fun hc0 => ?_) (fun hc0 => ?_)
  · try simp only [decide_eq_true_eq, decide_eq_false_iff_not, Bool.not_eq_true', Bool.not_eq_false', Bool.and_eq_true, Bool.or_eq_true, Bool.and_eq_false_iff, Bool.or_eq_false_iff, Int.not_lt, Int.not_le] at hc0
    have h7 : -b ≤ l0 - s1 ∧ l1 - s0 ≤ b := by
      simp only [inB5, Bool.and_eq_true, decide_eq_true_eq] at hc0
      omega
    refine TW.seq fun Y6 hY6 => ?_
    refine TW.region ?_
    refine TL.p Pu.as ?_
    refine TL.nil ?_
    refine TQ.thenN (hY6 _ _ ?_)
    refine TW.ret ?_
    refine TQ.blkR ?_
    refine TQ.thenR ?_
    refine TQ.ret Tryz.results68 rfl ((.tmp rfl .nil)) ?_
    exact fun w hw => ⟨ret_int (by unfold balV; rw [if_pos h7]), Chg.ext hw.chg⟩
  · try simp only [decide_eq_true_eq, decide_eq_false_iff_not, Bool.not_eq_true', Bool.not_eq_false', Bool.and_eq_true, Bool.or_eq_true, Bool.and_eq_false_iff, Bool.or_eq_false_iff, Int.not_lt, Int.not_le] at hc0
    have h7 : ¬ (-b ≤ l0 - s1 ∧ l1 - s0 ≤ b) := by
      intro h
      simp only [inB5, Bool.and_eq_false_iff, decide_eq_false_iff_not] at hc0
      omega
    refine TW.seq fun Y7 hY7 => ?_
    refine TW.join [(37, .bool (decide (b < l0 - s1) || decide (l1 - s0 < -b)))] ?_ (fun hJ1 => ?_)
    · refine TQ.thenN (hY7 _ _ ?_)
      refine TW.cond rfl (fun hc1 => ?_) (fun hc1 => ?_)
      · try simp only [decide_eq_true_eq, decide_eq_false_iff_not, Bool.not_eq_true', Bool.not_eq_false', Bool.and_eq_true, Bool.or_eq_true, Bool.and_eq_false_iff, Bool.or_eq_false_iff, Int.not_lt, Int.not_le] at hc1
        refine TW.seq fun Y8 hY8 => ?_
        refine TW.region ?_
        refine TL.p Pu.as ?_
        refine TL.nil ?_
        refine TQ.thenN (hY8 _ _ ?_)
        refine TW.ret ?_
        refine TQ.blkR ?_
        refine TQ.thenR ?_
        refine TQ.ret Tryz.results68 rfl ((.tmp rfl .nil)) ?_
        exact fun w hw => ⟨ret_int (by unfold balV; rw [if_neg h7, if_pos hc1]), Chg.ext hw.chg⟩
      · try simp only [decide_eq_true_eq, decide_eq_false_iff_not, Bool.not_eq_true', Bool.not_eq_false', Bool.and_eq_true, Bool.or_eq_true, Bool.and_eq_false_iff, Bool.or_eq_false_iff, Int.not_lt, Int.not_le] at hc1
        refine TW.skip ?_
        refine TQ.blkN ?_
        refine TQ.thenN (hY3 _ _ ?_)
        refine TW.seq fun Y9 hY9 => ?_
        refine TW.region ?_
        refine TL.p Pu.as ?_
        refine TL.nil ?_
        refine TQ.thenN (hY9 _ _ ?_)
        refine TW.ret ?_
        refine TQ.ret Tryz.results68 rfl ((.tmp rfl .nil)) ?_
        exact fun w hw => ⟨ret_int (by unfold balV; rw [if_neg h7, if_neg (by omega)]), Chg.ext hw.chg⟩
    refine TW.region ?_
    refine TL.p Pu.mv ?_
    refine TL.p Pu.mv ?_
    refine TL.p Pu.gt ?_
    refine TL.p Pu.mv ?_
    refine TL.guard (t := 41) rfl (fun hg1 => ?_) (fun hg1 => ?_)
    · refine TL.gs ?_
      refine TL.gs ?_
      refine TL.gs ?_
      refine TL.gs ?_
      refine TL.p Pu.kt ?_
      refine TL.p Pu.as ?_
      refine TL.nil ?_
      exact TQ.sub (by repeat (first | exact trivial | refine ⟨rfl, ?_⟩ | refine ⟨trivial, ?_⟩ | refine ⟨(by show some (Value.bool _) = some (Value.bool _); simp [hg1]), ?_⟩)) (by repeat (first | exact KSub.nil | refine KSub.cons (by repeat (first | exact Pick.hd | apply Pick.tl)) ?_)) hJ1
    · refine TL.gd Pu.mv ?_
      refine TL.gd Pu.mv ?_
      refine TL.gd Pu.ng ?_
      refine TL.gd Pu.lt ?_
      refine TL.p Pu.kf ?_
      refine TL.p Pu.as ?_
      refine TL.nil ?_
      exact TQ.sub (by repeat (first | exact trivial | refine ⟨rfl, ?_⟩ | refine ⟨trivial, ?_⟩ | refine ⟨(by show some (Value.bool _) = some (Value.bool _); simp [hg1]), ?_⟩)) (by repeat (first | exact KSub.nil | refine KSub.cons (by repeat (first | exact Pick.hd | apply Pick.tl)) ?_)) hJ1
theorem RestOk.of_packs {pk : Nat → Nat → Int} {np : Nat} (hP : ∀ q, q < np → packOk (pk q) = true) : RestOk (fun q => rl (pk q)) (fun q => rh (pk q)) np :=
  ⟨fun q hq => (rest_bd (hP q hq)).1, fun q hq => (rest_bd (hP q hq)).2.1, fun q hq => (rest_bd (hP q hq)).2.2⟩
end Go.Proofs.YtjephihlkjpohaaGreatDoor
namespace Go.Proofs.YtjephihlkjpohaaGreatDoor
set_option linter.all false
set_option linter.unusedVariables false
set_option linter.unusedSimpArgs false
open Go.RowKit
def iL (L : List Int) : Nat → List Value := fun k => [.int .i64 (L.getD k 0)]
theorem iL_lt {L : List Int} {k : Nat} (h : k < L.length) : L[k]? = some (L.getD k 0) := by
  rw [List.getD_eq_getElem?_getD, List.getElem?_eq_getElem h]
  rfl
theorem getD_app {L M : List Int} {k : Nat} : (L ++ M).getD k 0 = if k < L.length then L.getD k 0 else M.getD (k - L.length) 0 := by
  simp only [List.getD_eq_getElem?_getD]
  by_cases h : k < L.length
  · rw [if_pos h, List.getElem?_append_left h]
  · rw [if_neg h, List.getElem?_append_right (by omega)]
theorem iL_app {L L' : List Int} {m : Nat} {x : Int} {s : Nat → List Value} (hm : m = L.length) (hL : L' = L ++ [x]) (hs : s 0 = [.int .i64 x]) : ∀ i, i < m + 1 → catR m (iL L) s i = iL L' i := fun i hi => by
  subst hL
  simp only [catR, iL]
  rw [getD_app]
  by_cases h : i < m
  · rw [if_pos h, if_pos (by omega)]
  · obtain rfl : i = m := by omega
    rw [if_neg h, Nat.sub_self, hs, if_neg (by omega), hm, Nat.sub_self]
    rfl
theorem iL_cat {L M : List Int} {n : Nat} (hn : n = L.length) : ∀ i, catR n (iL L) (iL M) i = iL (L ++ M) i := fun i => by
  subst hn
  simp only [catR, iL]
  rw [getD_app]
  split <;> rfl
def toI (v : Nat → Int) (n : Nat) : List Int := (List.range n).map v
theorem toI_len {v : Nat → Int} {n : Nat} : (toI v n).length = n := by simp [toI]
theorem toI_get {v : Nat → Int} {n k : Nat} (h : k < n) : (toI v n).getD k 0 = v k := by
  simp [toI, List.getD_eq_getElem?_getD, h]
theorem toI_succ {v : Nat → Int} {n : Nat} : toI v (n + 1) = toI v n ++ [v n] := by simp [toI, List.range_succ]
theorem RdR.toI {w : World} {A : Option Addr} {n : Nat} {v : Nat → Int} (h : RdR w 1 A n (fun k => [.int .i64 (v k)])) : RdR w 1 A (toI v n).length (iL (toI v n)) := by
  rw [toI_len]
  exact ⟨h.rd.congr fun i j hi hj => by simp only [rowF, iL, toI_get hi], fun i hi => rfl⟩
theorem mem_getD {L : List Int} {k : Nat} (h : k < L.length) : L.getD k 0 ∈ L := by
  have := iL_lt h
  exact List.mem_of_getElem? this
theorem take_succ {L : List Int} {k : Nat} (h : k < L.length) : L.take (k + 1) = L.take k ++ [L.getD k 0] := by
  rw [List.take_succ, iL_lt h]
  rfl
def ins (x : Int) : List Int → List Int
  | [] => [x]
  | y :: ys => if x ≤ y then x :: y :: ys else y :: ins x ys
def srt : List Int → List Int
  | [] => []
  | x :: xs => ins x (srt xs)
theorem ins_perm (x : Int) : ∀ L : List Int, (ins x L).Perm (x :: L)
  | [] => List.Perm.refl _
  | y :: ys => by
    simp only [ins]
    split
    · exact List.Perm.refl _
    · exact ((ins_perm x ys).cons y).trans (List.Perm.swap _ _ _)
theorem srt_perm : ∀ L : List Int, (srt L).Perm L
  | [] => List.Perm.refl _
  | x :: xs => (ins_perm x (srt xs)).trans ((srt_perm xs).cons x)
theorem srt_len (L : List Int) : (srt L).length = L.length := (srt_perm L).length_eq
theorem ins_mono (x : Int) : ∀ L : List Int, L.Pairwise (· ≤ ·) → (ins x L).Pairwise (· ≤ ·)
  | [], _ => by simp [ins]
  | y :: ys, h => by
    have h1 := List.pairwise_cons.1 h
    simp only [ins]
    split
    · rename_i hxy
      refine List.pairwise_cons.2 ⟨fun z hz => ?_, h⟩
      rcases List.mem_cons.1 hz with rfl | hz
      · exact hxy
      · exact Int.le_trans hxy (h1.1 z hz)
    · refine List.pairwise_cons.2 ⟨fun z hz => ?_, ins_mono x ys h1.2⟩
      rcases List.mem_cons.1 ((ins_perm x ys).mem_iff.1 hz) with rfl | hz
      · omega
      · exact h1.1 z hz
theorem srt_mono : ∀ L : List Int, (srt L).Pairwise (· ≤ ·)
  | [] => List.Pairwise.nil
  | x :: xs => ins_mono x _ (srt_mono xs)
theorem ms_mono (L : List Int) : (L.mergeSort fun x y => decide (x ≤ y)).Pairwise (· ≤ ·) :=
  (List.pairwise_mergeSort (le := fun x y : Int => decide (x ≤ y)) (fun a b c h1 h2 => by simp only [decide_eq_true_eq] at *; omega) (fun a b => by simp only [Bool.or_eq_true, decide_eq_true_eq]; omega) L).imp (by intro a b h; simpa using h)
theorem ms_srt (L : List Int) : (L.mergeSort fun x y => decide (x ≤ y)) = srt L :=
  List.Perm.eq_of_pairwise (le := (· ≤ ·)) (fun a b _ _ h1 h2 => Int.le_antisymm h1 h2) (ms_mono L) (srt_mono L) ((List.mergeSort_perm L _).trans (srt_perm L).symm)
theorem srt_nil : srt [] = [] := rfl
theorem mem_srt {L : List Int} {x : Int} : x ∈ srt L ↔ x ∈ L := (srt_perm L).mem_iff
def sel (L : List Int) (b : Nat) : Nat → List Int
  | 0 => []
  | i + 1 => if b / 2 ^ i % 2 = 1 then sel L b i ++ [L.getD i 0] else sel L b i
theorem sel_len {L : List Int} {b : Nat} : ∀ i, (sel L b i).length ≤ i
  | 0 => Nat.le_refl _
  | i + 1 => by
    have := sel_len (L := L) (b := b) i
    simp only [sel]
    split
    · simp; omega
    · omega
def mvd (S C M : List Int) : List Int := srt (S.filter (fun x => !M.contains x) ++ C.filter (fun x => M.contains x))
def cmpV (a b : Int) : Int := if a < b then -1 else if b < a then 1 else 0
def cmpI : List Int → List Int → Int
  | [], [] => 0
  | [], _ :: _ => -1
  | _ :: _, [] => 1
  | x :: xs, y :: ys => if cmpV x y = 0 then cmpI xs ys else cmpV x y
def setStep (ok : List Int → Bool) (s : List Int × Nat) (l : List Int) : List Int × Nat :=
  if (l.length < s.2 ∨ l.length = s.2 ∧ cmpI l s.1 < 0) ∧ ok l = true then (l, l.length) else s
def setRun (L : List Int) (ok : List Int → Bool) : Nat → List Int × Nat
  | 0 => ([], L.length + 1)
  | q + 1 => setStep ok (setRun L ok q) (sel L q L.length)
theorem setRun_le {L : List Int} {ok : List Int → Bool} : ∀ q, (setRun L ok q).2 ≤ L.length + 1 ∧ (setRun L ok q).1.length ≤ L.length
  | 0 => by simp [setRun]
  | q + 1 => by
    have h := setRun_le (L := L) (ok := ok) q
    have h2 := sel_len (L := L) (b := q) L.length
    simp only [setRun, setStep]
    split
    · simp; omega
    · exact h
end Go.Proofs.YtjephihlkjpohaaGreatDoor
namespace Go.Proofs.YtjephihlkjpohaaGreatDoor
set_option linter.all false
set_option linter.unusedVariables false
set_option linter.unusedSimpArgs false
open Go.RowKit
def catI (l : Nat → Nat) (v : Nat → Nat → Int) (k : Nat) : Int := if k < l 0 + l 1 then (if k < l 0 then v 0 k else v 1 (k - l 0)) else v 2 (k - (l 0 + l 1))
theorem catN_catI (l : Nat → Nat) (v : Nat → Nat → Int) : catN l (fun i k => [.int .i64 (v i k)]) 3 = fun k => [.int .i64 (catI l v k)] := by
  rw [cat3]
  funext k
  simp only [catR, catI]
  split
  · split <;> rfl
  · rfl
structure Lay1 (w : World) (A : Option Addr) (np : Nat) (pk : Nat → Nat → Int) (a : Nat → Option Addr) (l : Nat → Nat) (v : Nat → Nat → Int) : Prop where
  hG : None0 w
  hnp : np ≤ 1000000000
  hR : RdR w 11 A np (fun k => packL (pk k))
  hI : ∀ j, j < 3 → RdR w 1 (a j) (l j) (fun k => [.int .i64 (v j k)])
  hL : tot l 3 ≤ 1000
def check1 (np : Nat) (pk : Nat → Nat → Int) (l : Nat → Nat) (v : Nat → Nat → Int) : Int := checkV np pk 1 (fun _ => l) (fun _ => v)
section
variable {w w' : World} {A : Option Addr} {np : Nat} {pk : Nat → Nat → Int} {a : Nat → Option Addr} {l c : Nat → Nat} {v : Nat → Nat → Int}
theorem Lay1.sat {K : List Fact} (h : Lay1 w A np pk a l v) (hs : Sat [] w K w') : Lay1 w' A np pk a l v :=
  ⟨h.hG.sat hs (by simp), h.hnp, h.hR.sat hs Apart.nil, fun j hj => (h.hI j hj).sat hs Apart.nil, h.hL⟩
theorem Lay1.ext (h : Lay1 w A np pk a l v) (hb : Below w.heap.size w w') : Lay1 w' A np pk a l v := h.sat (Sat.nil (Chg.of_ext hb))
theorem Lay1.lay {b : Nat} {E : TypeId} (h : Lay1 w A np pk a l v) (hB : Blk w b E (tieL a l c).toArray) : Lay w A (some ⟨b, 0, none⟩) np 1 pk (fun _ => a) (fun _ => l) (fun _ => c) (fun _ => v) :=
  ⟨h.hG, h.hnp, by decide, h.hR, RdR.blk (n := 1) (cs := tieL a l c) hB rfl (fun i _ => rfl), fun i _ j hj => h.hI j hj, fun i _ => h.hL⟩
theorem rise_inx {u : Nat → Int} {n N : Nat} (h : allB n (riseP u N) = true) : Inx u n N := fun k hk => by
  have h1 := rise_lo (v := u) (N := N) (by omega) k fun j hj => allB_iff.1 h j (by omega)
  have h2 := allB_iff.1 h k hk
  simp only [riseP, inB5, Bool.and_eq_true, decide_eq_true_eq] at h2
  omega
theorem check1_ok (h : check1 np pk l v = 0) : np ≤ 30 ∧ (∀ q, q < np → packOk (pk q) = true) ∧ (∀ j, j < 3 → Inx (v j) (l j) np) ∧ tot l 3 ≤ 10 := by
  obtain ⟨h1, h2, h3⟩ := check_ok h
  obtain ⟨h4, h5⟩ := h3 0 (by omega)
  exact ⟨h1, h2, fun j hj => rise_inx (h4 j hj), h5⟩
theorem inx_cat (h : ∀ j, j < 3 → Inx (v j) (l j) np) : Inx (catI l v) (tot l 3) np := fun k hk => by
  rw [tot3] at hk
  unfold catI
  split
  · split
    · exact h 0 (by omega) k (by omega)
    · exact h 1 (by omega) _ (by omega)
  · exact h 2 (by omega) _ (by omega)
end
def wlo (pk : Nat → Nat → Int) (v : Nat → Int) (n : Nat) : Int := wS (fun q => rl (pk q)) v n
def whi (pk : Nat → Nat → Int) (v : Nat → Int) (n : Nat) : Int := wS (fun q => rh (pk q)) v n
theorem apart_of {S : List Nat} {b : Nat} (h : b ∉ S) : Apart S (some ⟨b, 0, none⟩) := fun q hq => by cases hq; exact h
theorem Doing.no {M K : List Fact} {X : Type} {L : X → List Fact} {code code' : Int} {w w' : World} (x : X) (hc : code' ≠ 0) (e : code = code') (hL : code ≠ 0 → L x = M) (hs : Sat (feet M) w K w') (hK : KSub K M) :
    ∃ x : X, Sat (feet M) w (L x) w' ∧ Ending.panicked (errs code') = if code = 0 then .returned (.tuple #[]) else .panicked (errs code) := by
  subst e
  exact ⟨x, by rw [hL hc]; exact hs.sub hK, by rw [if_neg hc]⟩
theorem Doing.yes {M K N : List Fact} {X : Type} {L : X → List Fact} {code : Int} {w w' : World} (x : X) (hc : code = 0) (hL : code = 0 → L x = N) (hs : Sat (feet M) w K w') (hK : KSub K N) :
    ∃ x : X, Sat (feet M) w (L x) w' ∧ Ending.returned (.tuple #[]) = if code = 0 then .returned (.tuple #[]) else .panicked (errs code) :=
  ⟨x, by rw [hL hc]; exact hs.sub hK, by rw [if_pos hc]⟩
theorem feet_new {w0 w : World} {K M : List Fact} {R : List Fact} (hs : Sat [] w0 K w) (hp : K.Perm (M ++ R)) : Sat (feet M) w M w ∧ ∀ b ∈ feet M, w0.heap.size ≤ b := by
  have h1 := hs.perm hp
  refine ⟨(Has.sat ⟨R, List.Perm.refl _⟩ h1).self, fun b hb => (h1.ge b (by rw [feet_append]; simp [hb])).resolve_left (by simp)⟩
end Go.Proofs.YtjephihlkjpohaaGreatDoor
namespace Go.Proofs.YtjephihlkjpohaaGreatDoor
set_option linter.all false
set_option linter.unusedVariables false
set_option linter.unusedSimpArgs false
open Go.RowKit
def sameI (n1 : Nat) (v1 : Nat → Int) (n2 : Nat) (v2 : Nat → Int) : Bool := decide (n1 = n2) && allB n1 (fun k => decide (v1 k = v2 k))
theorem sameInts_any {A B : Option Addr} {n1 n2 c1 c2 : Nat} {v1 v2 : Nat → Int} {w : World} (hn : n1 ≤ 1000000000) (hA : RdR w 1 A n1 (fun k => [.int .i64 (v1 k)])) (hB : RdR w 1 B n2 (fun k => [.int .i64 (v2 k)])) :
    Calls Tryz.prog 18 #[.slice A n1 c1, .slice B n2 c2] w (Ret w (.bool (sameI n1 v1 n2 v2))) := by
  refine K_enter (S := []) (K := []) Tryz.func18 rfl Tryz.ntmps18 rfl (Sat.start _) ?_
  refine TW.seq fun Y1 hY1 => ?_
  refine TW.region ?_
  refine TL.p Pu.as ?_
  refine TL.nil ?_
  refine TQ.thenN (hY1 _ _ ?_)
  refine TW.seq fun Y2 hY2 => ?_
  refine TW.seq fun Y3 hY3 => ?_
  refine TW.region ?_
  refine TL.p Pu.mv ?_
  refine TL.p (Pu.ln Tryz.underlying24) ?_
  refine TL.p Pu.mv ?_
  refine TL.p (Pu.ln Tryz.underlying24) ?_
  refine TL.p Pu.ne ?_
  refine TL.nil ?_
  refine TQ.thenN (hY3 _ _ ?_)
  refine TW.cond rfl (fun hc0 => ?_) (fun hc0 => ?_)
  · try simp only [decide_eq_true_eq, decide_eq_false_iff_not, Bool.not_eq_true', Bool.not_eq_false', Bool.and_eq_true, Bool.or_eq_true, Bool.and_eq_false_iff, Bool.or_eq_false_iff, Int.not_lt, Int.not_le] at hc0
    refine TW.seq fun Y4 hY4 => ?_
    refine TW.region ?_
    refine TL.p Pu.as ?_
    refine TL.nil ?_
    refine TQ.thenN (hY4 _ _ ?_)
    refine TW.ret ?_
    refine TQ.thenR ?_
    refine TQ.ret Tryz.results18 rfl ((.tmp rfl .nil)) ?_
    exact fun w hw => ⟨ret_bool (by
      have : ¬ n1 = n2 := fun e => by subst e; simp at hc0
      simp [sameI, this]), Chg.ext hw.chg⟩
  · try simp only [decide_eq_true_eq, decide_eq_false_iff_not, Bool.not_eq_true', Bool.not_eq_false', Bool.and_eq_true, Bool.or_eq_true, Bool.and_eq_false_iff, Bool.or_eq_false_iff, Int.not_lt, Int.not_le] at hc0
    have hnn : n1 = n2 := by
      have : ¬ ¬ ((n1 : Int) = (n2 : Int)) := by simpa using hc0
      omega
    refine TW.skip ?_
    refine TQ.thenN (hY2 _ _ ?_)
    refine TW.seq fun Y5 hY5 => ?_
    refine TW.seq fun Y6 hY6 => ?_
    refine TW.region ?_
    refine TL.p Pu.as ?_
    refine TL.nil ?_
    refine TQ.thenN (hY6 _ _ ?_)
    refine TW.block ?_
    refine TW.loop1 (fun (k : Nat) => [(5, .int .i64 (k : Int)), (0, .slice A n1 c1), (1, .slice B n2 c2)]) (fun k => []) (fun k => k ≤ n1 ∧ ∀ j, j < k → v1 j = v2 j) (fun k => n1 - k) 0 (by repeat (first | exact trivial | refine ⟨rfl, ?_⟩ | refine ⟨trivial, ?_⟩)) ?_ ?_ ?_
    · exact (by repeat (first | exact KSub.nil | refine KSub.cons (by repeat (first | exact Pick.hd | apply Pick.tl)) ?_))
    · exact ⟨by omega, fun j hj => by omega⟩
    rintro k ⟨hk, hall⟩ Z0 hZ0
    refine TW.seq fun Y7 hY7 => ?_
    refine TW.seq fun Y8 hY8 => ?_
    refine TW.region ?_
    refine TL.p Pu.mv ?_
    refine TL.p Pu.mv ?_
    refine TL.p (Pu.ln Tryz.underlying24) ?_
    refine TL.p Pu.lt ?_
    refine TL.nil ?_
    refine TQ.thenN (hY8 _ _ ?_)
    refine TW.cond rfl (fun hc1 => ?_) (fun hc1 => ?_)
    · try simp only [decide_eq_true_eq, decide_eq_false_iff_not, Bool.not_eq_true', Bool.not_eq_false', Bool.and_eq_true, Bool.or_eq_true, Bool.and_eq_false_iff, Bool.or_eq_false_iff, Int.not_lt, Int.not_le] at hc1
      refine TW.skip ?_
      refine TQ.thenN (hY7 _ _ ?_)
      refine TW.seq fun Y9 hY9 => ?_
      refine TW.block ?_
      refine TW.seq fun Y10 hY10 => ?_
      refine TW.dw 9 ?_
      refine RK.tk Pu.mv ?_
      refine RK.tk Pu.mv ?_
      refine RK.tk (Pu.el ty_et24) ?_
      refine RK.tk (Pu.ld ty_sc3) ?_
      refine RK.tk Pu.mv ?_
      refine RK.tk Pu.mv ?_
      refine RK.tk (Pu.el ty_et24) ?_
      refine RK.tk (Pu.ld ty_sc3) ?_
      refine RK.tk Pu.ne ?_
      refine RK.ch [] ?_ trivial
      refine WK.n ?_
      refine TL.nil ?_
      refine TQ.thenN (hY10 _ _ ?_)
      refine TW.cond rfl (fun hc2 => ?_) (fun hc2 => ?_)
      · try simp only [decide_eq_true_eq, decide_eq_false_iff_not, Bool.not_eq_true', Bool.not_eq_false', Bool.and_eq_true, Bool.or_eq_true, Bool.and_eq_false_iff, Bool.or_eq_false_iff, Int.not_lt, Int.not_le] at hc2
        have hbad : ¬ v1 k = v2 k := by simpa using hc2
        refine TW.seq fun Y11 hY11 => ?_
        refine TW.region ?_
        refine TL.p Pu.as ?_
        refine TL.nil ?_
        refine TQ.thenN (hY11 _ _ ?_)
        refine TW.ret ?_
        refine TQ.blkR ?_
        refine TQ.thenR ?_
        refine TQ.thenR ?_
        refine TQ.blkR ?_
        refine TQ.thenR ?_
        refine TQ.ret Tryz.results18 rfl ((.tmp rfl .nil)) ?_
        exact fun w hw => ⟨ret_bool (by
          cases h : sameI n1 v1 n2 v2 with
          | false => rfl
          | true =>
            simp only [sameI, Bool.and_eq_true, allB_iff, decide_eq_true_eq] at h
            exact absurd (h.2 k (by omega)) hbad), Chg.ext hw.chg⟩
      · try simp only [decide_eq_true_eq, decide_eq_false_iff_not, Bool.not_eq_true', Bool.not_eq_false', Bool.and_eq_true, Bool.or_eq_true, Bool.and_eq_false_iff, Bool.or_eq_false_iff, Int.not_lt, Int.not_le] at hc2
        have hgood : v1 k = v2 k := by simpa using hc2
        refine TW.skip ?_
        refine TQ.blkN ?_
        refine TQ.thenN (hY9 _ _ ?_)
        refine TW.region ?_
        refine TL.p Pu.mv ?_
        refine TL.p Pu.ad ?_
        refine TL.p Pu.as ?_
        refine TL.nil ?_
        refine TQ.thenN (hZ0 (k + 1) _ _ ?_ ?_ (by repeat (first | exact trivial | refine ⟨rfl, ?_⟩ | refine ⟨trivial, ?_⟩)) ?_)
        · refine ⟨by omega, fun j hj => ?_⟩
          by_cases h : j = k
          · subst h; exact hgood
          · exact hall j (by omega)
        · exact (by first | omega | (simp only []; omega) | (simp; omega))
        · exact (by repeat (first | exact KSub.nil | refine KSub.cons (by repeat (first | exact Pick.hd | apply Pick.tl)) ?_))
    · try simp only [decide_eq_true_eq, decide_eq_false_iff_not, Bool.not_eq_true', Bool.not_eq_false', Bool.and_eq_true, Bool.or_eq_true, Bool.and_eq_false_iff, Bool.or_eq_false_iff, Int.not_lt, Int.not_le] at hc1
      refine TW.exit ?_
      refine TQ.thenX ?_
      refine TQ.thenX ?_
      refine TQ.blkX ?_
      refine TQ.thenN (hY5 _ _ ?_)
      refine TW.seq fun Y12 hY12 => ?_
      refine TW.region ?_
      refine TL.p Pu.as ?_
      refine TL.nil ?_
      refine TQ.thenN (hY12 _ _ ?_)
      refine TW.ret ?_
      refine TQ.ret Tryz.results18 rfl ((.tmp rfl .nil)) ?_
      exact fun w hw => ⟨ret_bool (by
        obtain rfl : k = n1 := by omega
        simp only [sameI, Bool.and_eq_true, allB_iff, decide_eq_true_eq]
        exact ⟨hnn, hall⟩), Chg.ext hw.chg⟩
set_option maxRecDepth 100000 in
theorem samePacks_any {A B : Option Addr} {n c1 c2 : Nat} {f : Nat → Nat → Int} {w : World} (hn : n ≤ 1000000000) (hA : RdR w 11 A n (fun k => packL (f k))) (hB : RdR w 11 B n (fun k => packL (f k))) :
    Calls Tryz.prog 40 #[.slice A n c1, .slice B n c2] w (Ret w (.bool true)) := by
  refine K_enter (S := []) (K := []) Tryz.func40 rfl Tryz.ntmps40 rfl (Sat.start _) ?_
  refine TW.seq fun Y1 hY1 => ?_
  refine TW.region ?_
  refine TL.p Pu.as ?_
  refine TL.nil ?_
  refine TQ.thenN (hY1 _ _ ?_)
  refine TW.seq fun Y2 hY2 => ?_
  refine TW.seq fun Y3 hY3 => ?_
  refine TW.region ?_
  refine TL.p Pu.mv ?_
  refine TL.p (Pu.ln Tryz.underlying22) ?_
  refine TL.p Pu.mv ?_
  refine TL.p (Pu.ln Tryz.underlying22) ?_
  refine TL.p Pu.ne ?_
  refine TL.nil ?_
  refine TQ.thenN (hY3 _ _ ?_)
  refine TW.condF rfl ((by simp)) ?_
  refine TW.skip ?_
  refine TQ.thenN (hY2 _ _ ?_)
  refine TW.seq fun Y4 hY4 => ?_
  refine TW.seq fun Y5 hY5 => ?_
  refine TW.region ?_
  refine TL.p Pu.as ?_
  refine TL.nil ?_
  refine TQ.thenN (hY5 _ _ ?_)
  refine TW.block ?_
  refine TW.loop1 (fun (k : Nat) => [(5, .int .i64 (k : Int)), (0, .slice A n c1), (1, .slice B n c2)]) (fun k => []) (fun k => k ≤ n) (fun k => n - k) 0 (by repeat (first | exact trivial | refine ⟨rfl, ?_⟩ | refine ⟨trivial, ?_⟩)) ?_ ?_ ?_
  · exact (by repeat (first | exact KSub.nil | refine KSub.cons (by repeat (first | exact Pick.hd | apply Pick.tl)) ?_))
  · exact Nat.zero_le _
  rintro k hk Z0 hZ0
  refine TW.seq fun Y6 hY6 => ?_
  refine TW.seq fun Y7 hY7 => ?_
  refine TW.region ?_
  refine TL.p Pu.mv ?_
  refine TL.p Pu.mv ?_
  refine TL.p (Pu.ln Tryz.underlying22) ?_
  refine TL.p Pu.lt ?_
  refine TL.nil ?_
  refine TQ.thenN (hY7 _ _ ?_)
  refine TW.cond rfl (fun hc1 => ?_) (fun hc1 => ?_)
  · try simp only [decide_eq_true_eq, decide_eq_false_iff_not, Bool.not_eq_true', Bool.not_eq_false', Bool.and_eq_true, Bool.or_eq_true, Bool.and_eq_false_iff, Bool.or_eq_false_iff, Int.not_lt, Int.not_le] at hc1
    refine TW.skip ?_
    refine TQ.thenN (hY6 _ _ ?_)
    refine TW.seq fun Y8 hY8 => ?_
    refine TW.block ?_
    refine TW.seq fun Y9 hY9 => ?_
    refine TW.dw 9 ?_
    refine RK.tk Pu.mv ?_
    refine RK.tk Pu.mv ?_
    refine RK.tk (Pu.el ty_et22) ?_
    refine RK.tk (Pu.lds ty_ag45) ?_
    refine RK.tk Pu.mv ?_
    refine RK.tk Pu.mv ?_
    refine RK.tk (Pu.el ty_et22) ?_
    refine RK.tk (Pu.lds ty_ag45) ?_
    refine RK.tk (Pu.bn (r := .bool false) rfl rfl (fun w => by go_simp)) ?_
    refine RK.ch [] ?_ trivial
    refine WK.n ?_
    refine TL.nil ?_
    refine TQ.thenN (hY9 _ _ ?_)
    refine TW.condF rfl (rfl) ?_
    refine TW.skip ?_
    refine TQ.blkN ?_
    refine TQ.thenN (hY8 _ _ ?_)
    refine TW.region ?_
    refine TL.p Pu.mv ?_
    refine TL.p Pu.ad ?_
    refine TL.p Pu.as ?_
    refine TL.nil ?_
    refine TQ.thenN (hZ0 (k + 1) _ _ ?_ ?_ (by repeat (first | exact trivial | refine ⟨rfl, ?_⟩ | refine ⟨trivial, ?_⟩)) ?_)
    · exact (by omega)
    · exact (by first | omega | (simp only []; omega) | (simp; omega))
    · exact (by repeat (first | exact KSub.nil | refine KSub.cons (by repeat (first | exact Pick.hd | apply Pick.tl)) ?_))
  · try simp only [decide_eq_true_eq, decide_eq_false_iff_not, Bool.not_eq_true', Bool.not_eq_false', Bool.and_eq_true, Bool.or_eq_true, Bool.and_eq_false_iff, Bool.or_eq_false_iff, Int.not_lt, Int.not_le] at hc1
    refine TW.exit ?_
    refine TQ.thenX ?_
    refine TQ.thenX ?_
    refine TQ.blkX ?_
    refine TQ.thenN (hY4 _ _ ?_)
    refine TW.seq fun Y10 hY10 => ?_
    refine TW.region ?_
    refine TL.p Pu.as ?_
    refine TL.nil ?_
    refine TQ.thenN (hY10 _ _ ?_)
    refine TW.ret ?_
    refine TQ.ret Tryz.results40 rfl ((.tmp rfl .nil)) ?_
    exact fun w hw => Ret.of hw
end Go.Proofs.YtjephihlkjpohaaGreatDoor
