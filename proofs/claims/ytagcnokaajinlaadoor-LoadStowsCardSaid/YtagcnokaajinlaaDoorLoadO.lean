/-
  load: what Jolted does under trying.
-/
import Derived.Test.YtagcnokaajinlaaDoorLoadN
namespace Go.Proofs.YtagcnokaajinlaaDoor
set_option linter.all false
set_option linter.unusedVariables false
set_option linter.unusedSimpArgs false
open Go.RowKit
theorem bump_row {f : Nat → Nat → Int} {x h : Int} (h0 : 0 ≤ x) (q : Nat) :
    updR (fun q => packL (f q)) x.toNat [.int .u8 (f x.toNat 0), .int .i64 (f x.toNat 1), .int .i64 (f x.toNat 2), .int .i64 (f x.toNat 3), .int .i64 (f x.toNat 4), .int .i64 (f x.toNat 5), .int .i64 (f x.toNat 6), .int .i64 (f x.toNat 7), .int .i64 (f x.toNat 8), .int .i64 (f x.toNat 9 + h), .int .i64 (f x.toNat 10)] q = packL (bump f x h q) := by
  unfold updR
  by_cases hq : q = x.toNat
  · subst hq
    have : ((x.toNat : Nat) : Int) = x := by omega
    simp [packL, bump, this]
  · have : ¬ (q : Int) = x := by omega
    simp [hq, packL, bump, this]
theorem aged_row {f : Nat → Nat → Int} {d : Int} {k : Nat} (q : Nat) :
    updR (fun q => packL (aged f d k q)) k [.int .u8 (aged f d k k 0), .int .i64 (aged f d k k 1), .int .i64 (aged f d k k 2), .int .i64 (aged f d k k 3), .int .i64 (aged f d k k 4), .int .i64 (aged f d k k 5), .int .i64 (aged f d k k 6), .int .i64 (aged f d k k 7), .int .i64 (aged f d k k 8), .int .i64 (aged f d k k 9), .int .i64 (aged f d k k 10 + d)] q = packL (aged f d (k + 1) q) := by
  unfold updR
  by_cases hq : q = k
  · subst hq
    simp [packL, aged]
  · by_cases h2 : q < k
    · have : q < k + 1 := by omega
      simp [hq, packL, aged, h2, this]
    · have : ¬ q < k + 1 := by omega
      simp [hq, packL, aged, h2, this]
def finF (pk : Nat → Nat → Int) (jt : Nat → Nat → Int) (l : Nat → Nat → Nat) (v : Nat → Nat → Nat → Int) (np nj : Nat) (days : Int) : Nat → Nat → Int := aged (hitAll pk jt l v nj) days np
def jcode (np : Nat) (pk : Nat → Nat → Int) (m : Nat) (l : Nat → Nat → Nat) (v : Nat → Nat → Nat → Int) (nj : Nat) (jt : Nat → Nat → Int) (days : Int) : Int :=
  if checkV np pk m l v = 0 then
    if inB5 0 100000 days then if decide ((nj : Int) ≤ 60) then if allB nj (fun k => joltP m (jt k)) then if allB np (fun q => packOk (finF pk jt l v np nj days q)) then 0 else 9 else 53 else 4 else 2
  else checkV np pk m l v
theorem old_below {W0 w w2 : World} {S : List Nat} {K : List Fact} (hb : Below W0.heap.size W0 w) (hs : Sat S w K w2) (hS : ∀ b ∈ S, W0.heap.size ≤ b) : Below W0.heap.size W0 w2 :=
  ⟨hs.chg.os.trans hb.os, hs.chg.tape.trans hb.tape, hs.chg.output.trans hb.output, Nat.le_trans hb.size hs.chg.size, fun k hk => (hs.chg.block k (Nat.lt_of_lt_of_le hk hb.size) (fun hm => by have := hS k hm; omega)).trans (hb.block k hk)⟩
theorem check_ok {np m : Nat} {pk : Nat → Nat → Int} {l : Nat → Nat → Nat} {v : Nat → Nat → Nat → Int} (h : checkV np pk m l v = 0) : np ≤ 30 ∧ (∀ q, q < np → packOk (pk q) = true) ∧ ∀ i, i < m → (∀ j, j < 3 → allB (l i j) (riseP (v i j) np) = true) ∧ tot (l i) 3 ≤ 10 := by
  unfold checkV at h
  split at h
  · rename_i hp
    split at h
    · rename_i ht
      simp only [packsOk, tiesOk, Bool.and_eq_true, decide_eq_true_eq] at hp ht
      refine ⟨by omega, allB_iff.1 hp.2, fun i hi => ?_⟩
      have := allB_iff.1 ht.1 i hi
      simp only [tieOk, Bool.and_eq_true, decide_eq_true_eq] at this
      exact ⟨allB_iff.1 this.1, this.2⟩
    · simp at h
  · simp at h
theorem hitL_snoc (f : Nat → Nat → Int) (h : Int) (top : Bool) (xs : List Int) (x : Int) : hitL f h top (xs ++ [x]) = hit (hitL f h top xs) h top x := by simp [hitL]
section
variable {np m nj : Nat} {pk jt : Nat → Nat → Int} {l : Nat → Nat → Nat} {v : Nat → Nat → Nat → Int} {days : Int}
theorem jc1 (h1 : checkV np pk m l v ≠ 0) : jcode np pk m l v nj jt days = checkV np pk m l v := by simp [jcode, h1]
theorem jc2 (h1 : checkV np pk m l v = 0) (h2 : (if inB5 0 100000 days then (0 : Int) else 2) ≠ 0) : jcode np pk m l v nj jt days = (if inB5 0 100000 days then (0 : Int) else 2) := by
  obtain ⟨hb, he⟩ := need_no h2
  simp [jcode, h1, hb]
theorem jc3 (h1 : checkV np pk m l v = 0) (h2 : (if inB5 0 100000 days then (0 : Int) else 2) = 0) (h3 : (if decide ((nj : Int) ≤ 60) then (0 : Int) else 4) ≠ 0) : jcode np pk m l v nj jt days = (if decide ((nj : Int) ≤ 60) then (0 : Int) else 4) := by
  obtain ⟨hb, he⟩ := need_no h3
  have hb2 := need_yes (by decide) h2
  rw [he]
  unfold jcode
  rw [if_pos h1, hb2, hb]
  rfl
theorem jc4 (h1 : checkV np pk m l v = 0) (h2 : (if inB5 0 100000 days then (0 : Int) else 2) = 0) (h3 : (if decide ((nj : Int) ≤ 60) then (0 : Int) else 4) = 0) (h4 : (if allB nj (fun k => joltP m (jt k)) then (0 : Int) else 53) ≠ 0) : jcode np pk m l v nj jt days = (if allB nj (fun k => joltP m (jt k)) then (0 : Int) else 53) := by
  obtain ⟨hb, he⟩ := need_no h4
  have hb2 := need_yes (by decide) h2
  have hb3 := need_yes (by decide) h3
  rw [he]
  unfold jcode
  rw [if_pos h1, hb2, hb3, hb]
  rfl
theorem jc5 (h1 : checkV np pk m l v = 0) (h2 : (if inB5 0 100000 days then (0 : Int) else 2) = 0) (h3 : (if decide ((nj : Int) ≤ 60) then (0 : Int) else 4) = 0) (h4 : (if allB nj (fun k => joltP m (jt k)) then (0 : Int) else 53) = 0) (h5 : (if allB np (fun q => packOk (finF pk jt l v np nj days q)) then (0 : Int) else 9) ≠ 0) : jcode np pk m l v nj jt days = (if allB np (fun q => packOk (finF pk jt l v np nj days q)) then (0 : Int) else 9) := by
  obtain ⟨hb, he⟩ := need_no h5
  have hb2 := need_yes (by decide) h2
  have hb3 := need_yes (by decide) h3
  have hb4 := need_yes (by decide) h4
  rw [he]
  unfold jcode
  rw [if_pos h1, hb2, hb3, hb4, hb]
  rfl
theorem jc0 (h1 : checkV np pk m l v = 0) (h2 : (if inB5 0 100000 days then (0 : Int) else 2) = 0) (h3 : (if decide ((nj : Int) ≤ 60) then (0 : Int) else 4) = 0) (h4 : (if allB nj (fun k => joltP m (jt k)) then (0 : Int) else 53) = 0) (h5 : (if allB np (fun q => packOk (finF pk jt l v np nj days q)) then (0 : Int) else 9) = 0) : jcode np pk m l v nj jt days = 0 := by
  have hb2 := need_yes (by decide) h2
  have hb3 := need_yes (by decide) h3
  have hb4 := need_yes (by decide) h4
  have hb5 := need_yes (by decide) h5
  unfold jcode
  rw [if_pos h1, hb2, hb3, hb4, hb5]
  rfl
theorem doing_bad {w w' : World} {bn : Nat} {code code' : Int} {Lx : Option Addr × Nat → List Fact} (hc : code' ≠ 0) (e : code = code') (hs : Sat [bn] w [.blk bn 26 [.slice none 0 0]] w') :
    ∃ x : Option Addr × Nat, Sat (feet [.blk bn 26 [.slice none 0 0]]) w (if code = 0 then Lx x else [.blk bn 26 [.slice none 0 0]]) w' ∧ Ending.panicked (errs code') = if code = 0 then .returned (.tuple #[]) else .panicked (errs code) := by
  subst e
  exact ⟨(none, 0), by rw [if_neg hc]; exact hs, by rw [if_neg hc]⟩
end
set_option maxRecDepth 100000 in
set_option maxHeartbeats 1000000 in
theorem jolted1_any {W0 w : World} {A A2 A3 : Option Addr} {np m cp cp2 nj cp3 bp bt bd bj bn : Nat} {pk jt : Nat → Nat → Int} {a : Nat → Nat → Option Addr} {l c : Nat → Nat → Nat} {v : Nat → Nat → Nat → Int} {days : Int}
    (hLay : Lay W0 A A2 np m pk a l c v) (hJ : RdR W0 2 A3 nj (fun k => spL (jt k 0) (jt k 1))) (hnj : nj ≤ 1000000) (hb : Below W0.heap.size W0 w) (hbn : W0.heap.size ≤ bn)
    (h1 : OldB w bp [.slice A np cp]) (h2 : OldB w bt [.slice A2 m cp2]) (h3 : OldB w bd [.int .i64 days]) (h4 : OldB w bj [.slice A3 nj cp3]) (n1 : bp ≠ bn) (n2 : bt ≠ bn) (n3 : bd ≠ bn) (n4 : bj ≠ bn)
    (hM : Sat [bn] w [.blk bn 26 [.slice none 0 0]] w) :
    Doing Tryd.prog 30 #[.pointer (some ⟨bp, 0, none⟩), .pointer (some ⟨bt, 0, none⟩), .pointer (some ⟨bd, 0, none⟩), .pointer (some ⟨bj, 0, none⟩), .pointer (some ⟨bn, 0, none⟩)] [.blk bn 26 [.slice none 0 0]] (Option Addr × Nat)
      (fun x => if jcode np pk m l v nj jt days = 0 then [.blk bn 26 [.slice x.1 np x.2], .own x.1 np x.2 25 11 (fun q => packL (finF pk jt l v np nj days q))] else [.blk bn 26 [.slice none 0 0]]) (jcode np pk m l v nj jt days) w := by
  have hS : ∀ b ∈ [bn], W0.heap.size ≤ b := fun b h => by rw [List.mem_singleton] at h; omega
  have hnp := hLay.hnp
  have hm := hLay.hm
  have ap1 : Apart [bn] (some ⟨bp, 0, none⟩) := fun q hq => by cases hq; simpa using n1
  have ap2 : Apart [bn] (some ⟨bt, 0, none⟩) := fun q hq => by cases hq; simpa using n2
  have ap3 : Apart [bn] (some ⟨bd, 0, none⟩) := fun q hq => by cases hq; simpa using n3
  have ap4 : Apart [bn] (some ⟨bj, 0, none⟩) := fun q hq => by cases hq; simpa using n4
  have hL1 := hLay.ext hb
  have hJ1 : RdR w 2 A3 nj (fun k => spL (jt k 0) (jt k 1)) := hJ.sat (Sat.nil (Chg.of_ext hb)) Apart.nil
  have hG1 := hL1.hG
  refine K_enter (args := [.pointer (some ⟨bp, 0, none⟩), .pointer (some ⟨bt, 0, none⟩), .pointer (some ⟨bd, 0, none⟩), .pointer (some ⟨bj, 0, none⟩), .pointer (some ⟨bn, 0, none⟩)]) (S := [bn]) (K := [.blk bn 26 [.slice none 0 0]]) Tryd.func30 rfl Tryd.ntmps30 rfl hM ?_
  refine TW.seq fun Y1 hY1 => ?_
  refine TW.region ?_
  refine TL.p (by first | exact (Pu.ld ty_sc26) | exact (Pu.ldo ty_sc26)) ?_
  refine TL.p (by first | exact (Pu.ld ty_sc27) | exact (Pu.ldo ty_sc27)) ?_
  refine TL.ct rfl (enters Tryd.func31 rfl rfl) (fun w hw => by
      exact (hLay.ext (old_below hb hw hS)).check) (fun hp1 => ?_) (fun hp1 => ?_)
  rotate_left
  · refine TQ.thenP ?_
    refine TQ.pan rfl ?_
    first
      | exact fun w hw => doing_bad hp1 (jc1 hp1) hw
      | exact fun w hw => doing_bad hp2 (jc2 hp1 hp2) hw
      | exact fun w hw => doing_bad hp3 (jc3 hp1 hp2 hp3) hw
      | exact fun w hw => doing_bad hp4 (jc4 hp1 hp2 hp3 hp4) hw
      | exact fun w hw => doing_bad hp5 (jc5 hp1 hp2 hp3 hp4 hp5) hw
      | exact fun w hw => doing_bad hp5 (jc5 hp1 hp2 hp3 hp4 hp5) (hw.sub (KSub.cons (by repeat (first | exact Pick.hd | apply Pick.tl)) KSub.nil))
      | exact fun w hw => doing_bad hp2 (jc2 hp1 hp2) (hw.sub (KSub.cons (by repeat (first | exact Pick.hd | apply Pick.tl)) KSub.nil))
      | exact fun w hw => doing_bad hp3 (jc3 hp1 hp2 hp3) (hw.sub (KSub.cons (by repeat (first | exact Pick.hd | apply Pick.tl)) KSub.nil))
      | exact fun w hw => doing_bad hp4 (jc4 hp1 hp2 hp3 hp4) (hw.sub (KSub.cons (by repeat (first | exact Pick.hd | apply Pick.tl)) KSub.nil))
  refine TL.nil ?_
  refine TQ.thenN (hY1 _ _ ?_)
  refine TW.seq fun Y2 hY2 => ?_
  refine TW.region ?_
  refine TL.p (by first | exact (Pu.ld ty_sc3) | exact (Pu.ldo ty_sc3)) ?_
  refine TL.m Mk.bl ?_
  intro b1
  refine TL.cr rfl (enters Tryd.func33 rfl rfl) (fun w hw => by
      exact inOne_any _ _ _ (hw.holds _ (List.mem_cons_self ..))) ?_
  refine TL.ct rfl (enters Tryd.func32 rfl rfl) (fun w hw => by
      exact need_any _ _ _ (by decide)) (fun hp2 => ?_) (fun hp2 => ?_)
  rotate_left
  · refine TQ.thenP ?_
    refine TQ.pan rfl ?_
    first
      | exact fun w hw => doing_bad hp1 (jc1 hp1) hw
      | exact fun w hw => doing_bad hp2 (jc2 hp1 hp2) hw
      | exact fun w hw => doing_bad hp3 (jc3 hp1 hp2 hp3) hw
      | exact fun w hw => doing_bad hp4 (jc4 hp1 hp2 hp3 hp4) hw
      | exact fun w hw => doing_bad hp5 (jc5 hp1 hp2 hp3 hp4 hp5) hw
      | exact fun w hw => doing_bad hp5 (jc5 hp1 hp2 hp3 hp4 hp5) (hw.sub (KSub.cons (by repeat (first | exact Pick.hd | apply Pick.tl)) KSub.nil))
      | exact fun w hw => doing_bad hp2 (jc2 hp1 hp2) (hw.sub (KSub.cons (by repeat (first | exact Pick.hd | apply Pick.tl)) KSub.nil))
      | exact fun w hw => doing_bad hp3 (jc3 hp1 hp2 hp3) (hw.sub (KSub.cons (by repeat (first | exact Pick.hd | apply Pick.tl)) KSub.nil))
      | exact fun w hw => doing_bad hp4 (jc4 hp1 hp2 hp3 hp4) (hw.sub (KSub.cons (by repeat (first | exact Pick.hd | apply Pick.tl)) KSub.nil))
  refine TL.nil ?_
  refine TQ.thenN (hY2 _ _ ?_)
  refine TW.seq fun Y3 hY3 => ?_
  refine TW.region ?_
  refine TL.p (by first | exact (Pu.ld ty_sc28) | exact (Pu.ldo ty_sc28)) ?_
  refine TL.p (Pu.ln Tryd.underlying28) ?_
  refine TL.p Pu.le ?_
  refine TL.ct rfl (enters Tryd.func32 rfl rfl) (fun w hw => by
      exact need_any _ _ _ (by decide)) (fun hp3 => ?_) (fun hp3 => ?_)
  rotate_left
  · refine TQ.thenP ?_
    refine TQ.pan rfl ?_
    first
      | exact fun w hw => doing_bad hp1 (jc1 hp1) hw
      | exact fun w hw => doing_bad hp2 (jc2 hp1 hp2) hw
      | exact fun w hw => doing_bad hp3 (jc3 hp1 hp2 hp3) hw
      | exact fun w hw => doing_bad hp4 (jc4 hp1 hp2 hp3 hp4) hw
      | exact fun w hw => doing_bad hp5 (jc5 hp1 hp2 hp3 hp4 hp5) hw
      | exact fun w hw => doing_bad hp5 (jc5 hp1 hp2 hp3 hp4 hp5) (hw.sub (KSub.cons (by repeat (first | exact Pick.hd | apply Pick.tl)) KSub.nil))
      | exact fun w hw => doing_bad hp2 (jc2 hp1 hp2) (hw.sub (KSub.cons (by repeat (first | exact Pick.hd | apply Pick.tl)) KSub.nil))
      | exact fun w hw => doing_bad hp3 (jc3 hp1 hp2 hp3) (hw.sub (KSub.cons (by repeat (first | exact Pick.hd | apply Pick.tl)) KSub.nil))
      | exact fun w hw => doing_bad hp4 (jc4 hp1 hp2 hp3 hp4) (hw.sub (KSub.cons (by repeat (first | exact Pick.hd | apply Pick.tl)) KSub.nil))
  refine TL.nil ?_
  refine TQ.thenN (hY3 _ _ ?_)
  refine TW.seq fun Y4 hY4 => ?_
  refine TW.region ?_
  refine TL.p (by first | exact (Pu.ld ty_sc28) | exact (Pu.ldo ty_sc28)) ?_
  refine TL.p Pu.fn ?_
  refine TL.cr rfl (enters Tryd.func34 rfl rfl) (fun w hw => by
      exact everyJolt_any (fs := []) (cs := [.pointer (some ⟨bt, 0, none⟩)]) (p := fun k => joltP m (jt k)) (enters Tryd.func35 rfl rfl) (by omega) (hJ.sat (Sat.nil (Chg.of_ext (old_below hb hw hS))) Apart.nil) fun k hk w' hb' => jolt1_any m (jt k) bt w' (by omega) ((h2.sat hw (by simpa using n2)).ext hb')) ?_
  refine TL.ct rfl (enters Tryd.func32 rfl rfl) (fun w hw => by
      exact need_any _ _ _ (by decide)) (fun hp4 => ?_) (fun hp4 => ?_)
  rotate_left
  · refine TQ.thenP ?_
    refine TQ.pan rfl ?_
    first
      | exact fun w hw => doing_bad hp1 (jc1 hp1) hw
      | exact fun w hw => doing_bad hp2 (jc2 hp1 hp2) hw
      | exact fun w hw => doing_bad hp3 (jc3 hp1 hp2 hp3) hw
      | exact fun w hw => doing_bad hp4 (jc4 hp1 hp2 hp3 hp4) hw
      | exact fun w hw => doing_bad hp5 (jc5 hp1 hp2 hp3 hp4 hp5) hw
      | exact fun w hw => doing_bad hp5 (jc5 hp1 hp2 hp3 hp4 hp5) (hw.sub (KSub.cons (by repeat (first | exact Pick.hd | apply Pick.tl)) KSub.nil))
      | exact fun w hw => doing_bad hp2 (jc2 hp1 hp2) (hw.sub (KSub.cons (by repeat (first | exact Pick.hd | apply Pick.tl)) KSub.nil))
      | exact fun w hw => doing_bad hp3 (jc3 hp1 hp2 hp3) (hw.sub (KSub.cons (by repeat (first | exact Pick.hd | apply Pick.tl)) KSub.nil))
      | exact fun w hw => doing_bad hp4 (jc4 hp1 hp2 hp3 hp4) (hw.sub (KSub.cons (by repeat (first | exact Pick.hd | apply Pick.tl)) KSub.nil))
  refine TL.nil ?_
  refine TQ.thenN (hY4 _ _ ?_)
  refine TW.seq fun Y5 hY5 => ?_
  refine TW.region ?_
  refine TL.p (by first | exact (Pu.ld ty_sc26) | exact (Pu.ldo ty_sc26)) ?_
  refine TL.call (M := []) rfl (enters Tryd.func36 rfl rfl) (List.Perm.refl _) rfl (fun w hw => by
      exact clone_any hnp (hLay.ext (old_below hb hw hS)).hR) ?_
  rintro ⟨Ac, cc⟩
  refine TL.p Pu.as ?_
  refine TL.nil ?_
  refine TQ.thenN (hY5 _ _ ?_)
  refine TW.seq fun Y6 hY6 => ?_
  refine TW.seq fun Y7 hY7 => ?_
  refine TW.region ?_
  refine TL.p (by first | exact (Pu.ld ty_sc28) | exact (Pu.ldo ty_sc28)) ?_
  refine TL.p (Pu.ln Tryd.underlying28) ?_
  refine TL.p Pu.mv ?_
  refine TL.nil ?_
  refine TQ.thenN (hY7 _ _ ?_)
  refine TW.block ?_
  obtain ⟨hnp30, hpk, hties⟩ := check_ok hp1
  have hdays : inB5 0 100000 days = true := need_yes (by decide) hp2
  have hnj60 : decide ((nj : Int) ≤ 60) = true := need_yes (by decide) hp3
  have hjs : allB nj (fun k => joltP m (jt k)) = true := need_yes (by decide) hp4
  have hnj6 : (nj : Int) ≤ 60 := by simpa using hnj60
  have hBd0 : Bd pk np 6000000 := fun q hq => by
    have := ((packOk_iff (pk q)).1 (hpk q hq)).1
    unfold okF at this
    omega
  refine TW.loop1 (fun (n : Nat) => [(32, .int .i64 (n : Int)), (31, .int .i64 (nj : Int)), (30, .slice A3 nj cp3), (5, .slice Ac np cc), (0, .pointer (some ⟨bp, 0, none⟩)), (1, .pointer (some ⟨bt, 0, none⟩)), (2, .pointer (some ⟨bd, 0, none⟩)), (3, .pointer (some ⟨bj, 0, none⟩)), (4, .pointer (some ⟨bn, 0, none⟩))]) (fun n => [.own Ac np cc 25 11 (fun q => packL (hitAll pk jt l v n q)), .blk bn 26 [.slice none 0 0]]) (fun n => n ≤ nj ∧ Bd (hitAll pk jt l v n) np (6000000 + 2000000 * (n : Int))) (fun n => nj - n) 0 (by repeat (first | exact trivial | refine ⟨rfl, ?_⟩ | refine ⟨trivial, ?_⟩)) ?_ ?_ ?_
  · exact (by repeat (first | exact KSub.nil | refine KSub.cons (by repeat (first | exact Pick.hd | apply Pick.tl)) ?_))
  · exact ⟨by omega, by show Bd pk np _; exact hBd0.mono (by omega)⟩
  rintro n ⟨hn, hBn⟩ Z0 hZ0
  refine TW.seq fun Y8 hY8 => ?_
  refine TW.region ?_
  refine TL.p Pu.lt ?_
  refine TL.nil ?_
  refine TQ.thenN (hY8 _ _ ?_)
  refine TW.seq fun Y9 hY9 => ?_
  refine TW.cond rfl (fun hc0 => ?_) (fun hc0 => ?_)
  · try simp only [decide_eq_true_eq, decide_eq_false_iff_not, Bool.not_eq_true', Bool.not_eq_false', Bool.and_eq_true, Bool.or_eq_true, Bool.and_eq_false_iff, Bool.or_eq_false_iff, Int.not_lt, Int.not_le] at hc0
    have hnj1 : n < nj := by omega
    have apJ : Apart [bn] A3 := hJ.apart hS (by omega)
    have hjn := allB_iff.1 hjs n hnj1
    simp only [joltP, inB5, Bool.and_eq_true, decide_eq_true_eq] at hjn
    have htl : (jt n 0).toNat < m := by omega
    have apT : Apart [bn] A2 := hLay.hT.apart hS (by omega)
    have hT1 := hL1.hT
    have hti := hties _ htl
    refine TW.skip ?_
    refine TQ.thenN (hY9 _ _ ?_)
    refine TW.seq fun Y10 hY10 => ?_
    refine TW.block ?_
    refine TW.seq fun Y11 hY11 => ?_
    refine TW.region ?_
    refine TL.p (Pu.el ty_et28) ?_
    refine TL.p (by first | exact (Pu.lds ty_ag44) | exact (Pu.ldso ty_ag44)) ?_
    refine TL.m (Mk.al ty_zr44) ?_
    intro b2
    first | refine TL.st ty_sz44 ?_ | refine TL.se ty_sz44 ?_
    refine TL.nil ?_
    refine TQ.thenN (hY11 _ _ ?_)
    refine TW.seq fun Y12 hY12 => ?_
    refine TW.region ?_
    refine TL.p (by first | exact (Pu.ld ty_sc27) | exact (Pu.ldo ty_sc27)) ?_
    refine TL.p (by first | exact Pu.fb ty_fa44_0 | exact Pu.fe ty_fa44_0) ?_
    refine TL.p (by first | exact (Pu.ld ty_sc3) | exact (Pu.ldo ty_sc3)) ?_
    refine TL.p (Pu.el (q := (jt n 0).toNat) ty_et27 (hk := rfl)) ?_
    refine TL.p (by first | exact (Pu.lds ty_ag59) | exact (Pu.ldso ty_ag59)) ?_
    refine TL.cr rfl (enters Tryd.func37 rfl rfl) (fun w hw => by
        exact lists_any _ _ _ _) ?_
    refine TL.p Pu.mv ?_
    refine TL.nil ?_
    refine TQ.thenN (hY12 _ _ ?_)
    refine TW.block ?_
    refine TW.loop1 (fun (j : Nat) => [(42, .int .i64 (j : Int)), (41, .agg (tieL (a (jt n 0).toNat) (l (jt n 0).toNat) (c (jt n 0).toNat)).toArray), (7, .pointer (some ⟨b2, 0, none⟩)), (32, .int .i64 (n : Int)), (31, .int .i64 (nj : Int)), (30, .slice A3 nj cp3), (5, .slice Ac np cc), (0, .pointer (some ⟨bp, 0, none⟩)), (1, .pointer (some ⟨bt, 0, none⟩)), (2, .pointer (some ⟨bd, 0, none⟩)), (3, .pointer (some ⟨bj, 0, none⟩)), (4, .pointer (some ⟨bn, 0, none⟩))]) (fun j => [.own Ac np cc 25 11 (fun q => packL (hitJ (hitAll pk jt l v n) (jt n 1) (l (jt n 0).toNat) (v (jt n 0).toNat) j q)), .blk b2 44 (spL (jt n 0) (jt n 1)), .blk bn 26 [.slice none 0 0]]) (fun j => j ≤ 3 ∧ Bd (hitJ (hitAll pk jt l v n) (jt n 1) (l (jt n 0).toNat) (v (jt n 0).toNat) j) np (6000000 + 2000000 * (n : Int) + 200000 * (tot (l (jt n 0).toNat) j : Int))) (fun j => 3 - j) 0 (by repeat (first | exact trivial | refine ⟨rfl, ?_⟩ | refine ⟨trivial, ?_⟩)) ?_ ?_ ?_
    · exact (by repeat (first | exact KSub.nil | refine KSub.cons (by repeat (first | exact Pick.hd | apply Pick.tl)) ?_))
    · exact ⟨by omega, by show Bd (hitAll pk jt l v n) np _; exact hBn.mono (by simp only [tot]; omega)⟩
    rintro j ⟨hj, hBj⟩ Z1 hZ1
    refine TW.seq fun Y13 hY13 => ?_
    refine TW.region ?_
    refine TL.p Pu.lt ?_
    refine TL.nil ?_
    refine TQ.thenN (hY13 _ _ ?_)
    refine TW.seq fun Y14 hY14 => ?_
    refine TW.cond rfl (fun hc1 => ?_) (fun hc1 => ?_)
    · try simp only [decide_eq_true_eq, decide_eq_false_iff_not, Bool.not_eq_true', Bool.not_eq_false', Bool.and_eq_true, Bool.or_eq_true, Bool.and_eq_false_iff, Bool.or_eq_false_iff, Int.not_lt, Int.not_le] at hc1
      have hj3 : j < 3 := by omega
      have hIj0 := hLay.hI _ htl j hj3
      have hIj := hL1.hI _ htl j hj3
      have hrise := hti.1 j hj3
      have htj : tot (l (jt n 0).toNat) j + l (jt n 0).toNat j ≤ tot (l (jt n 0).toNat) 3 := tot_mono (l := l (jt n 0).toNat) (show j + 1 ≤ 3 by omega)
      refine TW.skip ?_
      refine TQ.thenN (hY14 _ _ ?_)
      refine TW.seq fun Y15 hY15 => ?_
      refine TW.block ?_
      refine TW.seq fun Y16 hY16 => ?_
      refine TW.region ?_
      refine TL.p Pu.mv ?_
      refine TL.p (Pu.ix rfl rfl (fun w => index_tie _ _ _ j (by omega) w)) ?_
      refine TL.p Pu.as ?_
      refine TL.p Pu.as ?_
      refine TL.nil ?_
      refine TQ.thenN (hY16 _ _ ?_)
      refine TW.seq fun Y17 hY17 => ?_
      refine TW.region ?_
      refine TL.p Pu.mv ?_
      refine TL.p (Pu.ln Tryd.underlying47) ?_
      refine TL.p Pu.mv ?_
      refine TL.nil ?_
      refine TQ.thenN (hY17 _ _ ?_)
      refine TW.block ?_
      refine TW.loop1 (fun (k : Nat) => [(48, .int .i64 (k : Int)), (47, .int .i64 (l (jt n 0).toNat j : Int)), (46, .slice (a (jt n 0).toNat j) (l (jt n 0).toNat j) (c (jt n 0).toNat j)), (8, .int .i64 (j : Int)), (42, .int .i64 (j : Int)), (41, .agg (tieL (a (jt n 0).toNat) (l (jt n 0).toNat) (c (jt n 0).toNat)).toArray), (7, .pointer (some ⟨b2, 0, none⟩)), (32, .int .i64 (n : Int)), (31, .int .i64 (nj : Int)), (30, .slice A3 nj cp3), (5, .slice Ac np cc), (0, .pointer (some ⟨bp, 0, none⟩)), (1, .pointer (some ⟨bt, 0, none⟩)), (2, .pointer (some ⟨bd, 0, none⟩)), (3, .pointer (some ⟨bj, 0, none⟩)), (4, .pointer (some ⟨bn, 0, none⟩))]) (fun k => [.own Ac np cc 25 11 (fun q => packL (hitL (hitJ (hitAll pk jt l v n) (jt n 1) (l (jt n 0).toNat) (v (jt n 0).toNat) j) (jt n 1) (j == 2) ((List.range k).map (v (jt n 0).toNat j)) q)), .blk b2 44 (spL (jt n 0) (jt n 1)), .blk bn 26 [.slice none 0 0]]) (fun k => k ≤ l (jt n 0).toNat j ∧ Bd (hitL (hitJ (hitAll pk jt l v n) (jt n 1) (l (jt n 0).toNat) (v (jt n 0).toNat) j) (jt n 1) (j == 2) ((List.range k).map (v (jt n 0).toNat j))) np (6000000 + 2000000 * (n : Int) + 200000 * (tot (l (jt n 0).toNat) j : Int) + 200000 * (k : Int))) (fun k => l (jt n 0).toNat j - k) 0 (by repeat (first | exact trivial | refine ⟨rfl, ?_⟩ | refine ⟨trivial, ?_⟩)) ?_ ?_ ?_
      · exact (by repeat (first | exact KSub.nil | refine KSub.cons (by repeat (first | exact Pick.hd | apply Pick.tl)) ?_))
      · exact ⟨Nat.zero_le _, hBj.mono (by omega)⟩
      rintro k ⟨hk, hBk⟩ Z2 hZ2
      refine TW.seq fun Y18 hY18 => ?_
      refine TW.region ?_
      refine TL.p Pu.lt ?_
      refine TL.nil ?_
      refine TQ.thenN (hY18 _ _ ?_)
      refine TW.seq fun Y19 hY19 => ?_
      refine TW.cond rfl (fun hc2 => ?_) (fun hc2 => ?_)
      · try simp only [decide_eq_true_eq, decide_eq_false_iff_not, Bool.not_eq_true', Bool.not_eq_false', Bool.and_eq_true, Bool.or_eq_true, Bool.and_eq_false_iff, Bool.or_eq_false_iff, Int.not_lt, Int.not_le] at hc2
        have hkl : k < l (jt n 0).toNat j := by omega
        have apI : Apart [bn] (a (jt n 0).toNat j) := hIj0.apart hS (by omega)
        have hx := rise_bound (by omega) hrise k hkl
        generalize hfe : hitL (hitJ (hitAll pk jt l v n) (jt n 1) (l (jt n 0).toNat) (v (jt n 0).toNat) j) (jt n 1) (j == 2) ((List.range k).map (v (jt n 0).toNat j)) = f at *
        have hBq := hBk (v (jt n 0).toNat j k).toNat (by omega)
        refine TW.skip ?_
        refine TQ.thenN (hY19 _ _ ?_)
        refine TW.seq fun Y20 hY20 => ?_
        refine TW.block ?_
        refine TW.seq fun Y21 hY21 => ?_
        refine TW.region ?_
        refine TL.p (Pu.el ty_et47) ?_
        refine TL.p (by first | exact (Pu.ld ty_sc3) | exact (Pu.ldo ty_sc3)) ?_
        refine TL.p Pu.as ?_
        refine TL.nil ?_
        refine TQ.thenN (hY21 _ _ ?_)
        refine TW.seq fun Y22 hY22 => ?_
        refine TW.dw 10 ?_
        refine RK.tk Pu.mv ?_
        refine RK.tk Pu.mv ?_
        refine RK.tk (Pu.el (q := (v (jt n 0).toNat j k).toNat) ty_et26 (hk := rfl)) ?_
        refine RK.tk (by first | exact Pu.fb ty_fa25_5 | exact Pu.fe ty_fa25_5) ?_
        refine RK.tk (by first | exact (Pu.ld ty_sc3) | exact (Pu.ldo ty_sc3)) ?_
        refine RK.tk (by first | exact Pu.fb ty_fa44_1 | exact Pu.fe ty_fa44_1) ?_
        refine RK.tk (by first | exact (Pu.ld ty_sc3) | exact (Pu.ldo ty_sc3)) ?_
        refine RK.tk Pu.ad ?_
        refine RK.tk (Pu.el (q := (v (jt n 0).toNat j k).toNat) ty_et26 (hk := rfl)) ?_
        refine RK.tk (by first | exact Pu.fb ty_fa25_5 | exact Pu.fe ty_fa25_5) ?_
        refine RK.ch [] ?_ trivial
        refine WK.n ?_
        first | refine TL.st ty_sz3 ?_ | refine TL.se ty_sz3 ?_
        refine TL.nil ?_
        refine TQ.thenN (hY22 _ _ ?_)
        refine TW.seq fun Y23 hY23 => ?_
        refine TW.region ?_
        refine TL.subK (KSub.own Pick.hd (fun q _ => bump_row (h := jt n 1) hx.1 q) (KSub.cons Pick.hd (KSub.cons Pick.hd KSub.nil))) ?_
        refine TL.p Pu.mv ?_
        refine TL.p Pu.eq ?_
        refine TL.nil ?_
        refine TQ.thenN (hY23 _ _ ?_)
        refine TW.cond rfl (fun hc3 => ?_) (fun hc3 => ?_)
        · try simp only [decide_eq_true_eq, decide_eq_false_iff_not, Bool.not_eq_true', Bool.not_eq_false', Bool.and_eq_true, Bool.or_eq_true, Bool.and_eq_false_iff, Bool.or_eq_false_iff, Int.not_lt, Int.not_le] at hc3
          have hBq2 := (hBk.bump (x := v (jt n 0).toNat j k) hjn.2.1 hjn.2.2) (v (jt n 0).toNat j k).toNat (by omega)
          have hhit : hit f (jt n 1) (j == 2) (v (jt n 0).toNat j k) = bump (bump f (v (jt n 0).toNat j k) (jt n 1)) (v (jt n 0).toNat j k) (jt n 1) := by
            have : j = 2 := by omega
            subst this
            rfl
          refine TW.dw 10 ?_
          refine RK.tk Pu.mv ?_
          refine RK.tk Pu.mv ?_
          refine RK.tk (Pu.el (q := (v (jt n 0).toNat j k).toNat) ty_et26 (hk := rfl)) ?_
          refine RK.tk (by first | exact Pu.fb ty_fa25_5 | exact Pu.fe ty_fa25_5) ?_
          refine RK.tk (by first | exact (Pu.ld ty_sc3) | exact (Pu.ldo ty_sc3)) ?_
          refine RK.tk (by first | exact Pu.fb ty_fa44_1 | exact Pu.fe ty_fa44_1) ?_
          refine RK.tk (by first | exact (Pu.ld ty_sc3) | exact (Pu.ldo ty_sc3)) ?_
          refine RK.tk Pu.ad ?_
          refine RK.tk (Pu.el (q := (v (jt n 0).toNat j k).toNat) ty_et26 (hk := rfl)) ?_
          refine RK.tk (by first | exact Pu.fb ty_fa25_5 | exact Pu.fe ty_fa25_5) ?_
          refine RK.ch [] ?_ trivial
          refine WK.n ?_
          first | refine TL.st ty_sz3 ?_ | refine TL.se ty_sz3 ?_
          refine TL.nil ?_
          refine TQ.blkN ?_
          refine TQ.thenN (hY20 _ _ ?_)
          refine TW.region ?_
          refine TL.p Pu.ad ?_
          refine TL.p Pu.mv ?_
          refine TL.nil ?_
          refine TQ.thenN (hZ2 (k + 1) _ _ ?_ ?_ (by repeat (first | exact trivial | refine ⟨rfl, ?_⟩ | refine ⟨trivial, ?_⟩)) ?_)
          · refine ⟨by omega, ?_⟩
            rw [List.range_succ, List.map_append, show [k].map (v (jt n 0).toNat j) = [v (jt n 0).toNat j k] from rfl, hitL_snoc, hfe]
            exact (hBk.hit hjn.2.1 hjn.2.2).mono (by omega)
          · exact (by first | omega | (simp only []; omega) | (simp; omega))
          · rw [List.range_succ, List.map_append, show [k].map (v (jt n 0).toNat j) = [v (jt n 0).toNat j k] from rfl]
            simp only [hitL_snoc, hfe, hhit]
            first
              | exact KSub.own Pick.hd (fun q _ => bump_row (f := bump f (v (jt n 0).toNat j k) (jt n 1)) (h := jt n 1) hx.1 q) (KSub.cons Pick.hd (KSub.cons Pick.hd KSub.nil))
              | exact KSub.cons Pick.hd (KSub.cons Pick.hd (KSub.cons Pick.hd KSub.nil))
        · try simp only [decide_eq_true_eq, decide_eq_false_iff_not, Bool.not_eq_true', Bool.not_eq_false', Bool.and_eq_true, Bool.or_eq_true, Bool.and_eq_false_iff, Bool.or_eq_false_iff, Int.not_lt, Int.not_le] at hc3
          have hhit : hit f (jt n 1) (j == 2) (v (jt n 0).toNat j k) = bump f (v (jt n 0).toNat j k) (jt n 1) := by
            have : (j == 2) = false := by simp; omega
            rw [this]; rfl
          refine TW.skip ?_
          refine TQ.blkN ?_
          refine TQ.thenN (hY20 _ _ ?_)
          refine TW.region ?_
          refine TL.p Pu.ad ?_
          refine TL.p Pu.mv ?_
          refine TL.nil ?_
          refine TQ.thenN (hZ2 (k + 1) _ _ ?_ ?_ (by repeat (first | exact trivial | refine ⟨rfl, ?_⟩ | refine ⟨trivial, ?_⟩)) ?_)
          · refine ⟨by omega, ?_⟩
            rw [List.range_succ, List.map_append, show [k].map (v (jt n 0).toNat j) = [v (jt n 0).toNat j k] from rfl, hitL_snoc, hfe]
            exact (hBk.hit hjn.2.1 hjn.2.2).mono (by omega)
          · exact (by first | omega | (simp only []; omega) | (simp; omega))
          · rw [List.range_succ, List.map_append, show [k].map (v (jt n 0).toNat j) = [v (jt n 0).toNat j k] from rfl]
            simp only [hitL_snoc, hfe, hhit]
            first
              | exact KSub.own Pick.hd (fun q _ => bump_row (f := bump f (v (jt n 0).toNat j k) (jt n 1)) (h := jt n 1) hx.1 q) (KSub.cons Pick.hd (KSub.cons Pick.hd KSub.nil))
              | exact KSub.cons Pick.hd (KSub.cons Pick.hd (KSub.cons Pick.hd KSub.nil))
      · try simp only [decide_eq_true_eq, decide_eq_false_iff_not, Bool.not_eq_true', Bool.not_eq_false', Bool.and_eq_true, Bool.or_eq_true, Bool.and_eq_false_iff, Bool.or_eq_false_iff, Int.not_lt, Int.not_le] at hc2
        refine TW.exit ?_
        refine TQ.thenX ?_
        refine TQ.thenX ?_
        refine TQ.blkX ?_
        refine TQ.blkN ?_
        refine TQ.thenN (hY15 _ _ ?_)
        refine TW.region ?_
        refine TL.p Pu.ad ?_
        refine TL.p Pu.mv ?_
        refine TL.nil ?_
        obtain rfl : k = l (jt n 0).toNat j := by omega
        refine TQ.thenN (hZ1 (j + 1) _ _ ?_ ?_ (by repeat (first | exact trivial | refine ⟨rfl, ?_⟩ | refine ⟨trivial, ?_⟩)) ?_)
        · refine ⟨by omega, ?_⟩
          simp only [hitJ, lst, tot]
          exact hBk.mono (by omega)
        · exact (by first | omega | (simp only []; omega) | (simp; omega))
        · simp only [hitJ, lst]
          exact KSub.cons (by repeat (first | exact Pick.hd | apply Pick.tl)) (KSub.cons (by repeat (first | exact Pick.hd | apply Pick.tl)) (KSub.cons (by repeat (first | exact Pick.hd | apply Pick.tl)) KSub.nil))
    · try simp only [decide_eq_true_eq, decide_eq_false_iff_not, Bool.not_eq_true', Bool.not_eq_false', Bool.and_eq_true, Bool.or_eq_true, Bool.and_eq_false_iff, Bool.or_eq_false_iff, Int.not_lt, Int.not_le] at hc1
      obtain rfl : 3 = j := by omega
      refine TW.exit ?_
      refine TQ.thenX ?_
      refine TQ.thenX ?_
      refine TQ.blkX ?_
      refine TQ.blkN ?_
      refine TQ.thenN (hY10 _ _ ?_)
      refine TW.region ?_
      refine TL.p Pu.ad ?_
      refine TL.p Pu.mv ?_
      refine TL.nil ?_
      refine TQ.thenN (hZ0 (n + 1) _ _ ?_ ?_ (by repeat (first | exact trivial | refine ⟨rfl, ?_⟩ | refine ⟨trivial, ?_⟩)) ?_)
      · refine ⟨by omega, ?_⟩
        simp only [hitAll]
        exact hBj.mono (by omega)
      · exact (by first | omega | (simp only []; omega) | (simp; omega))
      · simp only [hitAll]
        exact KSub.cons (by repeat (first | exact Pick.hd | apply Pick.tl)) (KSub.cons (by repeat (first | exact Pick.hd | apply Pick.tl)) KSub.nil)
  · try simp only [decide_eq_true_eq, decide_eq_false_iff_not, Bool.not_eq_true', Bool.not_eq_false', Bool.and_eq_true, Bool.or_eq_true, Bool.and_eq_false_iff, Bool.or_eq_false_iff, Int.not_lt, Int.not_le] at hc0
    obtain rfl : nj = n := by omega
    refine TW.exit ?_
    refine TQ.thenX ?_
    refine TQ.thenX ?_
    refine TQ.blkX ?_
    refine TQ.thenN (hY6 _ _ ?_)
    refine TW.seq fun Y24 hY24 => ?_
    refine TW.seq fun Y25 hY25 => ?_
    refine TW.region ?_
    refine TL.p Pu.mv ?_
    refine TL.p (Pu.ln Tryd.underlying26) ?_
    refine TL.p Pu.mv ?_
    refine TL.nil ?_
    refine TQ.thenN (hY25 _ _ ?_)
    refine TW.block ?_
    have hdd : 0 ≤ days ∧ days ≤ 100000 := by simpa [inB5] using hdays
    refine TW.loop1 (fun (k : Nat) => [(79, .int .i64 (k : Int)), (78, .int .i64 (np : Int)), (5, .slice Ac np cc), (0, .pointer (some ⟨bp, 0, none⟩)), (1, .pointer (some ⟨bt, 0, none⟩)), (2, .pointer (some ⟨bd, 0, none⟩)), (3, .pointer (some ⟨bj, 0, none⟩)), (4, .pointer (some ⟨bn, 0, none⟩))]) (fun k => [.own Ac np cc 25 11 (fun q => packL (aged (hitAll pk jt l v nj) days k q)), .blk bn 26 [.slice none 0 0]]) (fun k => k ≤ np) (fun k => np - k) 0 (by repeat (first | exact trivial | refine ⟨rfl, ?_⟩ | refine ⟨trivial, ?_⟩)) ?_ ?_ ?_
    · have e0 : aged (hitAll pk jt l v nj) days 0 = hitAll pk jt l v nj := by funext q j; simp [aged]
      rw [e0]
      exact KSub.cons (by repeat (first | exact Pick.hd | apply Pick.tl)) (KSub.cons (by repeat (first | exact Pick.hd | apply Pick.tl)) KSub.nil)
    · exact Nat.zero_le _
    rintro k hk Z3 hZ3
    refine TW.seq fun Y26 hY26 => ?_
    refine TW.region ?_
    refine TL.p Pu.lt ?_
    refine TL.nil ?_
    refine TQ.thenN (hY26 _ _ ?_)
    refine TW.seq fun Y27 hY27 => ?_
    refine TW.cond rfl (fun hc4 => ?_) (fun hc4 => ?_)
    · try simp only [decide_eq_true_eq, decide_eq_false_iff_not, Bool.not_eq_true', Bool.not_eq_false', Bool.and_eq_true, Bool.or_eq_true, Bool.and_eq_false_iff, Bool.or_eq_false_iff, Int.not_lt, Int.not_le] at hc4
      have hkn : k < np := by omega
      have hBk := hBn k hkn
      have hag : aged (hitAll pk jt l v nj) days k k 10 = hitAll pk jt l v nj k 10 := by simp [aged]
      refine TW.skip ?_
      refine TQ.thenN (hY27 _ _ ?_)
      refine TW.seq fun Y28 hY28 => ?_
      refine TW.block ?_
      refine TW.seq fun Y29 hY29 => ?_
      refine TW.region ?_
      refine TL.p Pu.mv ?_
      refine TL.p Pu.as ?_
      refine TL.nil ?_
      refine TQ.thenN (hY29 _ _ ?_)
      refine TW.dw 9 ?_
      refine RK.tk Pu.mv ?_
      refine RK.tk Pu.mv ?_
      refine RK.tk (Pu.el ty_et26) ?_
      refine RK.tk (by first | exact Pu.fb ty_fa25_6 | exact Pu.fe ty_fa25_6) ?_
      refine RK.tk (by first | exact (Pu.ld ty_sc3) | exact (Pu.ldo ty_sc3)) ?_
      refine RK.tk (by first | exact (Pu.ld ty_sc3) | exact (Pu.ldo ty_sc3)) ?_
      refine RK.tk Pu.ad ?_
      refine RK.tk (Pu.el ty_et26) ?_
      refine RK.tk (by first | exact Pu.fb ty_fa25_6 | exact Pu.fe ty_fa25_6) ?_
      refine RK.ch [] ?_ trivial
      refine WK.n ?_
      first | refine TL.st ty_sz3 ?_ | refine TL.se ty_sz3 ?_
      refine TL.nil ?_
      refine TQ.blkN ?_
      refine TQ.thenN (hY28 _ _ ?_)
      refine TW.region ?_
      refine TL.p Pu.ad ?_
      refine TL.p Pu.mv ?_
      refine TL.nil ?_
      refine TQ.thenN (hZ3 (k + 1) _ _ ?_ ?_ (by repeat (first | exact trivial | refine ⟨rfl, ?_⟩ | refine ⟨trivial, ?_⟩)) ?_)
      · exact (by omega)
      · exact (by first | omega | (simp only []; omega) | (simp; omega))
      · exact KSub.own Pick.hd (fun q _ => aged_row q) (KSub.cons (by repeat (first | exact Pick.hd | apply Pick.tl)) KSub.nil)
    · try simp only [decide_eq_true_eq, decide_eq_false_iff_not, Bool.not_eq_true', Bool.not_eq_false', Bool.and_eq_true, Bool.or_eq_true, Bool.and_eq_false_iff, Bool.or_eq_false_iff, Int.not_lt, Int.not_le] at hc4
      obtain rfl : np = k := by omega
      refine TW.exit ?_
      refine TQ.thenX ?_
      refine TQ.thenX ?_
      refine TQ.blkX ?_
      refine TQ.thenN (hY24 _ _ ?_)
      refine TW.seq fun Y30 hY30 => ?_
      refine TW.region ?_
      refine TL.p Pu.mv ?_
      refine TL.cr rfl (enters Tryd.func38 rfl rfl) (fun w hw => by
          have h0n : (0 : Nat) ∉ [bn] := by
            have := hLay.hG.1
            simp only [List.mem_singleton]
            omega
          exact everyPack_any (v := finF pk jt l v np nj days) (fs := []) (cs := []) (p := fun q => packOk (finF pk jt l v np nj days q)) (enters Tryd.func25 rfl rfl) (by omega) (hw.own Pick.hd).rdr fun k hk w' hb' => by simpa using valid_any (finF pk jt l v np nj days k) w' ((hG1.sat hw h0n).ext hb')) ?_
      refine TL.ct rfl (enters Tryd.func32 rfl rfl) (fun w hw => by
          exact need_any _ _ _ (by decide)) (fun hp5 => ?_) (fun hp5 => ?_)
      rotate_left
      · refine TQ.thenP ?_
        refine TQ.pan rfl ?_
        first
          | exact fun w hw => doing_bad hp1 (jc1 hp1) hw
          | exact fun w hw => doing_bad hp2 (jc2 hp1 hp2) hw
          | exact fun w hw => doing_bad hp3 (jc3 hp1 hp2 hp3) hw
          | exact fun w hw => doing_bad hp4 (jc4 hp1 hp2 hp3 hp4) hw
          | exact fun w hw => doing_bad hp5 (jc5 hp1 hp2 hp3 hp4 hp5) hw
          | exact fun w hw => doing_bad hp5 (jc5 hp1 hp2 hp3 hp4 hp5) (hw.sub (KSub.cons (by repeat (first | exact Pick.hd | apply Pick.tl)) KSub.nil))
          | exact fun w hw => doing_bad hp2 (jc2 hp1 hp2) (hw.sub (KSub.cons (by repeat (first | exact Pick.hd | apply Pick.tl)) KSub.nil))
          | exact fun w hw => doing_bad hp3 (jc3 hp1 hp2 hp3) (hw.sub (KSub.cons (by repeat (first | exact Pick.hd | apply Pick.tl)) KSub.nil))
          | exact fun w hw => doing_bad hp4 (jc4 hp1 hp2 hp3 hp4) (hw.sub (KSub.cons (by repeat (first | exact Pick.hd | apply Pick.tl)) KSub.nil))
      refine TL.nil ?_
      refine TQ.thenN (hY30 _ _ ?_)
      refine TW.region ?_
      refine TL.p Pu.mv ?_
      first | refine TL.st ty_sz26 ?_ | refine TL.se ty_sz26 ?_
      refine TL.nil ?_
      refine TQ.end Tryd.results30 rfl (.nil) ?_
      exact fun w hw => ⟨(Ac, cc), by
        show Sat _ _ (if jcode np pk m l v nj jt days = 0 then _ else _) _
        rw [if_pos (jc0 hp1 hp2 hp3 hp4 hp5)]
        exact hw.sub (KSub.cons (by repeat (first | exact Pick.hd | apply Pick.tl)) (KSub.cons (by repeat (first | exact Pick.hd | apply Pick.tl)) KSub.nil)), by rw [if_pos (jc0 hp1 hp2 hp3 hp4 hp5)]; rfl⟩
end Go.Proofs.YtagcnokaajinlaaDoor
