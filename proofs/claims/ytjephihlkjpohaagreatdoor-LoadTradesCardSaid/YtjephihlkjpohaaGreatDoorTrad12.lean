/-
  Part 12 of the proof of loadTrades_holds: declarations of several texts, in build order. No condition on a program.
-/
import Derived.Test.YtjephihlkjpohaaGreatDoorTrad11
namespace Go.Proofs.YtjephihlkjpohaaGreatDoor
set_option linter.all false
set_option linter.unusedVariables false
set_option linter.unusedSimpArgs false
open Go.RowKit
theorem ownsT_seam {X Y : Nat → Option Addr} {R : Nat → List Int} {D E : Nat → Nat} {i : Nat} : ownsT (seam X Y i) R (seam D E i) (3 * i + 3) = .own (Y 2) (R (3 * i + 2)).length (E 2) 3 1 (iL (R (3 * i + 2))) :: .own (Y 1) (R (3 * i + 1)).length (E 1) 3 1 (iL (R (3 * i + 1))) :: .own (Y 0) (R (3 * i)).length (E 0) 3 1 (iL (R (3 * i))) :: ownsT X R D (3 * i) := by
  have a0 : seam X Y i (3 * i) = Y 0 := seam_at (j := 0)
  have d0 : seam D E i (3 * i) = E 0 := seam_at (j := 0)
  simp only [ownsT, seam_at, a0, d0]
  rw [ownsT_congr (n := 3 * i) (X2 := X) (T2 := R) (D2 := D) fun s hs => ⟨seam_lt hs, rfl, seam_lt hs⟩]
theorem tieX_seam {X Y : Nat → Option Addr} {R : Nat → List Int} {D E : Nat → Nat} {i : Nat} (q : Nat) (hq : q < i + 1) : catR i (tieX X R D) (fun _ => [.slice (Y 0) (R (3 * i)).length (E 0), .slice (Y 1) (R (3 * i + 1)).length (E 1), .slice (Y 2) (R (3 * i + 2)).length (E 2)]) q = tieX (seam X Y i) R (seam D E i) q := by
  unfold catR
  by_cases h : q < i
  · rw [if_pos h]
    exact tieX_congr fun s hs => ⟨(seam_lt (by omega)).symm, rfl, (seam_lt (by omega)).symm⟩
  · obtain rfl : q = i := by omega
    rw [if_neg h]
    have a0 : seam X Y q (3 * q) = Y 0 := seam_at (j := 0)
    have d0 : seam D E q (3 * q) = E 0 := seam_at (j := 0)
    simp only [tieX, seam_at, a0, d0]
set_option maxRecDepth 100000 in
set_option maxHeartbeats 16000000 in
theorem refTraded_any {w : World} {A AT Af AP : Option Addr} {np m cT cf nP cP : Nat} {pk : Nat → Nat → Int} {a : Nat → Nat → Option Addr} {l c : Nat → Nat → Nat} {v : Nat → Nat → Nat → Int} {F : List Int} {P : Nat → Nat → Int}
    (hL : Lay w A AT np m pk a l c v) (hck : checkV np pk m l v = 0) (hF : RdR w 1 Af F.length (iL F)) (hf : F.length ≤ 1000) (hPR : RdR w 3 AP nP (fun k => putL (P k))) (hnP : nP ≤ 1000) (hP2 : ∀ k, k < nP → 0 ≤ P k 2) :
    CallsK Tryz.prog 56 #[.int .i64 (np : Int), .slice AT m cT, .slice Af F.length cf, .slice AP nP cP] [] w TKx (fun x => .tuple #[.slice x.1.1 (trdN np m l v F P nP) x.1.2, .bool (trdOk np m l v F P nP)]) (fun x => tiesX (trdN np m l v F P nP) (tr2 l v F P nP) x) := by
  obtain ⟨hm8, hnp30, hnd, hls⟩ := trd_check hck
  have ht10 := fun i hi => ((check_ok hck).2.2 i hi).2
  have hhl := held_len (v := v) ht10
  have hT := hL.hT
  have hI := hL.hI
  refine K_enter (S := []) (K := []) Tryz.func56 rfl Tryz.ntmps56 rfl (Sat.start _) ?_
  refine TW.seq fun Y1 hY1 => ?_
  refine TW.region ?_
  refine TL.p Pu.as ?_
  refine TL.p Pu.as ?_
  refine TL.nil ?_
  refine TQ.thenN (hY1 _ _ ?_)
  refine TW.seq fun Y2 hY2 => ?_
  refine TW.seq fun Y3 hY3 => ?_
  refine TW.region ?_
  refine TL.p Pu.mv ?_
  refine TL.p Pu.mv ?_
  refine TL.cr rfl (enters Tryz.func101 rfl rfl) (fun w hw => by
      exact refRising_any (v := fun k => F.getD k 0) (by omega) (hF.sat hw Apart.nil) (by omega) (by omega)) ?_
  refine TL.p Pu.no ?_
  refine TL.nil ?_
  refine TQ.thenN (hY3 _ _ ?_)
  refine TW.cond rfl (fun hc0 => ?_) (fun hc0 => ?_)
  · try simp only [decide_eq_true_eq, decide_eq_false_iff_not, Bool.not_eq_true', Bool.not_eq_false', Bool.and_eq_true, Bool.or_eq_true, Bool.and_eq_false_iff, Bool.or_eq_false_iff, Int.not_lt, Int.not_le] at hc0
    have hno : trdOk np m l v F P nP = false := trd_rise hc0
    refine TW.seq fun Y4 hY4 => ?_
    refine TW.region ?_
    refine TL.p Pu.as ?_
    refine TL.p Pu.as ?_
    refine TL.nil ?_
    refine TQ.thenN (hY4 _ _ ?_)
    refine TW.ret ?_
    refine TQ.thenR ?_
    refine TQ.ret Tryz.results56 rfl ((.tmp rfl (.tmp rfl .nil))) ?_
    exact fun w hw => trd_none hno hw
  · try simp only [decide_eq_true_eq, decide_eq_false_iff_not, Bool.not_eq_true', Bool.not_eq_false', Bool.and_eq_true, Bool.or_eq_true, Bool.and_eq_false_iff, Bool.or_eq_false_iff, Int.not_lt, Int.not_le] at hc0
    have hr : allB F.length (riseP (fun k => F.getD k 0) np) = true := hc0
    refine TW.skip ?_
    refine TQ.thenN (hY2 _ _ ?_)
    refine TW.seq fun Y5 hY5 => ?_
    refine TW.region ?_
    refine TL.p Pu.as ?_
    refine TL.p Pu.as ?_
    refine TL.nil ?_
    refine TQ.thenN (hY5 _ _ ?_)
    refine TW.seq fun Y6 hY6 => ?_
    refine TW.seq fun Y7 hY7 => ?_
    refine TW.region ?_
    refine TL.p Pu.as ?_
    refine TL.nil ?_
    refine TQ.thenN (hY7 _ _ ?_)
    refine TW.block ?_
    refine TW.loop5 (fun (i : Nat) (G : Option Addr) (cg : Nat) (t : Nat) (U : List Int) => [(12, .int .i64 (i : Int)), (10, .slice G t cg), (11, .slice none 0 0), (0, .int .i64 (np : Int)), (1, .slice AT m cT), (2, .slice Af F.length cf), (3, .slice AP nP cP)]) (fun i G cg t U => [.own G t cg 3 1 (iL U)]) (fun i G cg t U => i ≤ m ∧ t = U.length ∧ U = held l v i) (fun i G cg t U => m - i) 0 none 0 0 [] (by repeat (first | exact trivial | refine ⟨rfl, ?_⟩ | refine ⟨trivial, ?_⟩)) ?_ ?_ ?_
    · exact KSub.nilOwn KSub.nil
    · exact ⟨Nat.zero_le _, rfl, rfl⟩
    rintro i G cg t U ⟨hi, ht, hU⟩ Z0 hZ0
    have htl : t ≤ 80 := by have := hhl i hi; rw [ht, hU]; omega
    refine TW.seq fun Y8 hY8 => ?_
    refine TW.seq fun Y9 hY9 => ?_
    refine TW.region ?_
    refine TL.p Pu.mv ?_
    refine TL.p Pu.mv ?_
    refine TL.p (Pu.ln Tryz.underlying23) ?_
    refine TL.p Pu.lt ?_
    refine TL.nil ?_
    refine TQ.thenN (hY9 _ _ ?_)
    refine TW.cond rfl (fun hc1 => ?_) (fun hc1 => ?_)
    · try simp only [decide_eq_true_eq, decide_eq_false_iff_not, Bool.not_eq_true', Bool.not_eq_false', Bool.and_eq_true, Bool.or_eq_true, Bool.and_eq_false_iff, Bool.or_eq_false_iff, Int.not_lt, Int.not_le] at hc1
      have him : i < m := by omega
      have hti := ht10 i him
      have htl2 := lsts_length (l i) (v i) 3
      refine TW.skip ?_
      refine TQ.thenN (hY8 _ _ ?_)
      refine TW.seq fun Y10 hY10 => ?_
      refine TW.block ?_
      refine TW.region ?_
      refine TL.p Pu.mv ?_
      refine TL.p Pu.mv ?_
      refine TL.p Pu.mv ?_
      refine TL.p (Pu.el ty_et23) ?_
      refine TL.p (Pu.lds ty_ag36) ?_
      refine TL.call (M := []) rfl (enters Tryz.func36 rfl rfl) (List.Perm.refl _) rfl (fun w hw => by
          exact refListT_any (by omega) fun j hj => (hI i him j hj).sat hw Apart.nil) ?_
      rintro ⟨Al, cl⟩
      first | refine TL.a0 ty_et24 ?_ | refine TL.ap ty_et24 ?_
      intro A1 c1
      refine TL.p Pu.as ?_
      refine TL.nil ?_
      refine TQ.blkN ?_
      refine TQ.thenN (hY10 _ _ ?_)
      refine TW.region ?_
      refine TL.p Pu.mv ?_
      refine TL.p Pu.ad ?_
      refine TL.p Pu.as ?_
      refine TL.nil ?_
      refine TQ.thenN (hZ0 (i + 1) _ _ _ (U ++ lsts (l i) (v i) 3) _ _ ?_ ?_ (by repeat (first | exact trivial | refine ⟨rfl, ?_⟩ | refine ⟨trivial, ?_⟩)) ?_)
      · exact ⟨by omega, by rw [List.length_append, ← ht], by rw [hU]; rfl⟩
      · exact (by first | omega | (simp only []; omega) | (simp; omega))
      · exact KSub.own Pick.hd (fun q _ => iL_cat ht q) (by repeat (first | exact KSub.nil | refine KSub.drop ?_))
    · try simp only [decide_eq_true_eq, decide_eq_false_iff_not, Bool.not_eq_true', Bool.not_eq_false', Bool.and_eq_true, Bool.or_eq_true, Bool.and_eq_false_iff, Bool.or_eq_false_iff, Int.not_lt, Int.not_le] at hc1
      obtain rfl : m = i := by omega
      have hUf : U = flatT (T0 l v) (3 * m) := by rw [hU, flatT_held]
      refine TW.exit ?_
      refine TQ.thenX ?_
      refine TQ.thenX ?_
      refine TQ.blkX ?_
      refine TQ.thenN (hY6 _ _ ?_)
      refine TW.seq fun Y11 hY11 => ?_
      refine TW.seq fun Y12 hY12 => ?_
      refine TW.region ?_
      refine TL.p Pu.as ?_
      refine TL.nil ?_
      refine TQ.thenN (hY12 _ _ ?_)
      refine TW.block ?_
      refine TW.loop1 (fun (i : Nat) => [(13, .int .i64 (i : Int)), (10, .slice G t cg), (11, .slice none 0 0), (0, .int .i64 (np : Int)), (1, .slice AT m cT), (2, .slice Af F.length cf), (3, .slice AP nP cP)]) (fun i => [.own G t cg 3 1 (iL U)]) (fun i => i ≤ F.length ∧ ∀ j, j < i → F.getD j 0 ∈ flatT (T0 l v) (3 * m)) (fun i => F.length - i) 0 (by repeat (first | exact trivial | refine ⟨rfl, ?_⟩ | refine ⟨trivial, ?_⟩)) ?_ ?_ ?_
      · exact (by repeat (first | exact KSub.nil | refine KSub.cons (by repeat (first | exact Pick.hd | apply Pick.tl)) ?_ | exact KSub.refl _ | refine KSub.drop ?_))
      · exact ⟨Nat.zero_le _, fun j hj => by omega⟩
      rintro i ⟨hi, hall⟩ Z1 hZ1
      refine TW.seq fun Y13 hY13 => ?_
      refine TW.seq fun Y14 hY14 => ?_
      refine TW.region ?_
      refine TL.p Pu.mv ?_
      refine TL.p Pu.mv ?_
      refine TL.p (Pu.ln Tryz.underlying24) ?_
      refine TL.p Pu.lt ?_
      refine TL.nil ?_
      refine TQ.thenN (hY14 _ _ ?_)
      refine TW.cond rfl (fun hc2 => ?_) (fun hc2 => ?_)
      · try simp only [decide_eq_true_eq, decide_eq_false_iff_not, Bool.not_eq_true', Bool.not_eq_false', Bool.and_eq_true, Bool.or_eq_true, Bool.and_eq_false_iff, Bool.or_eq_false_iff, Int.not_lt, Int.not_le] at hc2
        have hin : i < F.length := by omega
        refine TW.skip ?_
        refine TQ.thenN (hY13 _ _ ?_)
        refine TW.seq fun Y15 hY15 => ?_
        refine TW.block ?_
        refine TW.seq fun Y16 hY16 => ?_
        refine TW.region ?_
        refine TL.p Pu.mv ?_
        refine TL.p Pu.mv ?_
        refine TL.p Pu.mv ?_
        refine TL.p (Pu.el ty_et24) ?_
        refine TL.p (Pu.ld ty_sc3) ?_
        refine TL.cr rfl (enters Tryz.func69 rfl rfl) (fun w hw => by
            exact refHas_any _ ht (by omega) (OwnR.rdr (hw.holds (.own G t cg 3 1 (iL U)) (by simp)))) ?_
        refine TL.p Pu.no ?_
        refine TL.nil ?_
        refine TQ.thenN (hY16 _ _ ?_)
        refine TW.cond rfl (fun hc3 => ?_) (fun hc3 => ?_)
        · try simp only [decide_eq_true_eq, decide_eq_false_iff_not, Bool.not_eq_true', Bool.not_eq_false', Bool.and_eq_true, Bool.or_eq_true, Bool.and_eq_false_iff, Bool.or_eq_false_iff, Int.not_lt, Int.not_le] at hc3
          have hno : trdOk np m l v F P nP = false := trd_off hck hr hin (by rw [← hUf]; intro h; rw [List.contains_iff_mem.2 h] at hc3; cases hc3)
          refine TW.seq fun Y17 hY17 => ?_
          refine TW.region ?_
          refine TL.p Pu.as ?_
          refine TL.p Pu.as ?_
          refine TL.nil ?_
          refine TQ.thenN (hY17 _ _ ?_)
          refine TW.ret ?_
          refine TQ.blkR ?_
          refine TQ.thenR ?_
          refine TQ.thenR ?_
          refine TQ.blkR ?_
          refine TQ.thenR ?_
          refine TQ.ret Tryz.results56 rfl ((.tmp rfl (.tmp rfl .nil))) ?_
          exact fun w hw => trd_none hno hw
        · try simp only [decide_eq_true_eq, decide_eq_false_iff_not, Bool.not_eq_true', Bool.not_eq_false', Bool.and_eq_true, Bool.or_eq_true, Bool.and_eq_false_iff, Bool.or_eq_false_iff, Int.not_lt, Int.not_le] at hc3
          have hmem : F.getD i 0 ∈ flatT (T0 l v) (3 * m) := by rw [← hUf]; exact List.contains_iff_mem.1 hc3
          refine TW.skip ?_
          refine TQ.blkN ?_
          refine TQ.thenN (hY15 _ _ ?_)
          refine TW.region ?_
          refine TL.p Pu.mv ?_
          refine TL.p Pu.ad ?_
          refine TL.p Pu.as ?_
          refine TL.nil ?_
          refine TQ.thenN (hZ1 (i + 1) _ _ ?_ ?_ (by repeat (first | exact trivial | refine ⟨rfl, ?_⟩ | refine ⟨trivial, ?_⟩)) ?_)
          · refine ⟨by omega, fun j hj => ?_⟩
            by_cases h : j = i
            · subst h; exact hmem
            · exact hall j (by omega)
          · exact (by first | omega | (simp only []; omega) | (simp; omega))
          · exact (by repeat (first | exact KSub.nil | refine KSub.cons (by repeat (first | exact Pick.hd | apply Pick.tl)) ?_ | exact KSub.refl _ | refine KSub.drop ?_))
      · try simp only [decide_eq_true_eq, decide_eq_false_iff_not, Bool.not_eq_true', Bool.not_eq_false', Bool.and_eq_true, Bool.or_eq_true, Bool.and_eq_false_iff, Bool.or_eq_false_iff, Int.not_lt, Int.not_le] at hc2
        have htk : takeC np F (T0 l v) m = 0 := trd_take hck hr fun k hk => hall k (by omega)
        refine TW.exit ?_
        refine TQ.thenX ?_
        refine TQ.thenX ?_
        refine TQ.blkX ?_
        refine TQ.thenN (hY11 _ _ ?_)
        refine TW.seq fun Y18 hY18 => ?_
        refine TW.region ?_
        refine TL.p Pu.mv ?_
        refine TL.p Pu.mv ?_
        refine TL.call (M := []) rfl (enters Tryz.func102 rfl rfl) (List.Perm.refl _) rfl (fun w hw => by
            exact refWithout_any ht rfl (by omega) (by omega) (OwnR.rdr (hw.holds (.own G t cg 3 1 (iL U)) (by simp))) (hF.sat hw Apart.nil)) ?_
        rintro ⟨W, cw⟩
        have hFl : (U.filter fun x => !F.contains x).length ≤ 80 := Nat.le_trans (List.length_filter_le _ _) (by omega)
        generalize hFr : (U.filter fun x => !F.contains x) = Free at *
        have hFf : Free = flatT (takeT F (T0 l v)) (3 * m) := by rw [flatT_filter, ← hUf, hFr]
        obtain ⟨T1, hT1⟩ : ∃ y, y = takeT F (T0 l v) := ⟨_, rfl⟩
        obtain ⟨R, hR⟩ : ∃ y, y = putT T1 P nP := ⟨_, rfl⟩
        have HT1 := hid hT1
        have HR := hid hR
        clear hT1 hR
        refine TL.p Pu.as ?_
        refine TL.nil ?_
        refine TQ.thenN (hY18 _ _ ?_)
        refine TW.seq fun Y19 hY19 => ?_
        refine TW.seq fun Y20 hY20 => ?_
        refine TW.region ?_
        refine TL.p Pu.as ?_
        refine TL.nil ?_
        refine TQ.thenN (hY20 _ _ ?_)
        refine TW.block ?_
        refine TW.loop5 (fun (k : Nat) (G2 : Option Addr) (c2 : Nat) (t2 : Nat) (V : List Int) => [(15, .int .i64 (k : Int)), (11, .slice G2 t2 c2), (14, .slice W Free.length cw), (0, .int .i64 (np : Int)), (1, .slice AT m cT), (2, .slice Af F.length cf), (3, .slice AP nP cP)]) (fun k G2 c2 t2 V => [.own G2 t2 c2 3 1 (iL V), .own W Free.length cw 3 1 (iL Free)]) (fun k G2 c2 t2 V => k ≤ nP ∧ t2 = V.length ∧ V = toI (fun q => P q 0) k ∧ ∀ j, j < k → okPut np m T1 P j = true) (fun k G2 c2 t2 V => nP - k) 0 none 0 0 [] (by repeat (first | exact trivial | refine ⟨rfl, ?_⟩ | refine ⟨trivial, ?_⟩)) ?_ ?_ ?_
        · exact KSub.nilOwn (KSub.cons (by repeat (first | exact Pick.hd | apply Pick.tl)) KSub.nil)
        · exact ⟨Nat.zero_le _, rfl, rfl, fun j hj => by omega⟩
        rintro k G2 c2 t2 V ⟨hk, ht2, hV, hall2⟩ Z2 hZ2
        have htl2 : t2 = k := by rw [ht2, hV, toI_len]
        have hbad := bad_ok (np := np) (m := m) (P := P) (T := T1) (Fr := Free) (V := V) (k := k) (by rw [HT1.out]; exact hFf) hV
        refine TW.seq fun Y21 hY21 => ?_
        refine TW.seq fun Y22 hY22 => ?_
        refine TW.region ?_
        refine TL.p Pu.mv ?_
        refine TL.p Pu.mv ?_
        refine TL.p (Pu.ln Tryz.underlying25) ?_
        refine TL.p Pu.lt ?_
        refine TL.nil ?_
        refine TQ.thenN (hY22 _ _ ?_)
        refine TW.cond rfl (fun hc4 => ?_) (fun hc4 => ?_)
        · try simp only [decide_eq_true_eq, decide_eq_false_iff_not, Bool.not_eq_true', Bool.not_eq_false', Bool.and_eq_true, Bool.or_eq_true, Bool.and_eq_false_iff, Bool.or_eq_false_iff, Int.not_lt, Int.not_le] at hc4
          have hkn : k < nP := by omega
          refine TW.skip ?_
          refine TQ.thenN (hY21 _ _ ?_)
          refine TW.seq fun Y23 hY23 => ?_
          refine TW.block ?_
          refine TW.seq fun Y24 hY24 => ?_
          refine TW.region ?_
          refine TL.p Pu.mv ?_
          refine TL.p Pu.mv ?_
          refine TL.p (Pu.el ty_et25) ?_
          refine TL.p (Pu.lds ty_ag66) ?_
          refine TL.m (Mk.al ty_zr66) ?_
          intro b2
          first | refine TL.st ty_sz66 ?_ | refine TL.se ty_sz66 ?_
          refine TL.nil ?_
          refine TQ.thenN (hY24 _ _ ?_)
          refine TW.seq fun Y25 hY25 => ?_
          refine TW.seq fun Y26 hY26 => ?_
          refine TW.join [(95, .bool (badPut np m Free V P k))] ?_ (fun hJ1 => ?_)
          · refine TQ.thenN (hY26 _ _ ?_)
            refine TW.cond rfl (fun hc5 => ?_) (fun hc5 => ?_)
            · try simp only [decide_eq_true_eq, decide_eq_false_iff_not, Bool.not_eq_true', Bool.not_eq_false', Bool.and_eq_true, Bool.or_eq_true, Bool.and_eq_false_iff, Bool.or_eq_false_iff, Int.not_lt, Int.not_le] at hc5
              have hno : trdOk np m l v F P nP = false := trd_put hkn (by rw [← HT1.out, hbad, hc5]; rfl)
              refine TW.seq fun Y27 hY27 => ?_
              refine TW.region ?_
              refine TL.p Pu.as ?_
              refine TL.p Pu.as ?_
              refine TL.nil ?_
              refine TQ.thenN (hY27 _ _ ?_)
              refine TW.ret ?_
              refine TQ.thenR ?_
              refine TQ.blkR ?_
              refine TQ.thenR ?_
              refine TQ.thenR ?_
              refine TQ.blkR ?_
              refine TQ.thenR ?_
              refine TQ.ret Tryz.results56 rfl ((.tmp rfl (.tmp rfl .nil))) ?_
              exact fun w hw => trd_none hno hw
            · try simp only [decide_eq_true_eq, decide_eq_false_iff_not, Bool.not_eq_true', Bool.not_eq_false', Bool.and_eq_true, Bool.or_eq_true, Bool.and_eq_false_iff, Bool.or_eq_false_iff, Int.not_lt, Int.not_le] at hc5
              have hok : okPut np m T1 P k = true := by rw [hbad, hc5]; rfl
              obtain ⟨V', hV'⟩ : ∃ y, y = V ++ [P k 0] := ⟨_, rfl⟩
              have s1 : t2 + 1 = V'.length := by rw [hV', List.length_append, ← ht2]; rfl
              refine TW.skip ?_
              refine TQ.thenN (hY25 _ _ ?_)
              refine TW.region ?_
              refine TL.p Pu.mv ?_
              refine TL.p (by first | exact Pu.fb ty_fa66_0 | exact Pu.fe ty_fa66_0) ?_
              refine TL.p (Pu.ld ty_sc3) ?_
              refine TL.m Mk.bl ?_
              intro b3
              first | refine TL.a0 ty_et24 ?_ | refine TL.ap ty_et24 ?_
              intro A4 c4
              refine TL.p Pu.as ?_
              refine TL.nil ?_
              refine TQ.blkN ?_
              refine TQ.thenN (hY23 _ _ ?_)
              refine TW.region ?_
              refine TL.p Pu.mv ?_
              refine TL.p Pu.ad ?_
              refine TL.p Pu.as ?_
              refine TL.nil ?_
              refine TQ.thenN (hZ2 (k + 1) _ _ _ V' _ _ ?_ ?_ (by repeat (first | exact trivial | refine ⟨rfl, ?_⟩ | refine ⟨trivial, ?_⟩)) ?_)
              · refine ⟨by omega, s1, by rw [hV', hV, toI_succ], fun j hj => ?_⟩
                by_cases h : j = k
                · subst h; exact hok
                · exact hall2 j (by omega)
              · exact (by first | omega | (simp only []; omega) | (simp; omega))
              · exact KSub.own (by repeat (first | exact Pick.hd | apply Pick.tl)) (iL_app ht2 hV' rfl) (by repeat (first | exact KSub.nil | refine KSub.cons (by repeat (first | exact Pick.hd | apply Pick.tl)) ?_))
          refine TW.region ?_
          refine TL.p (by first | exact Pu.fb ty_fa66_0 | exact Pu.fe ty_fa66_0) ?_
          refine TL.p (Pu.ld ty_sc3) ?_
          refine TL.p Pu.mv ?_
          refine TL.p Pu.sb ?_
          refine TL.cr rfl (enters Tryz.func55 rfl rfl) (fun w hw => by
              exact within5_any _ _ _ _) ?_
          refine TL.p Pu.no ?_
          refine TL.p Pu.mv ?_
          refine TL.guard (t := 70) rfl (fun hg1 => ?_) (fun hg1 => ?_)
          · refine TL.gs ?_
            refine TL.gs ?_
            refine TL.gs ?_
            refine TL.gs ?_
            refine TL.p Pu.kt ?_
            refine TL.p Pu.mv ?_
            refine TL.gs ?_
            refine TL.gs ?_
            refine TL.gs ?_
            refine TL.gs ?_
            refine TL.p Pu.kt ?_
            refine TL.p Pu.mv ?_
            refine TL.gs ?_
            refine TL.gs ?_
            refine TL.gs ?_
            refine TL.gs ?_
            refine TL.gs ?_
            refine TL.gs ?_
            refine TL.gs ?_
            refine TL.p Pu.kt ?_
            refine TL.p Pu.mv ?_
            refine TL.gs ?_
            refine TL.gs ?_
            refine TL.gs ?_
            refine TL.p Pu.kt ?_
            refine TL.nil ?_
            exact TQ.sub (by repeat (first | exact trivial | refine ⟨rfl, ?_⟩ | refine ⟨trivial, ?_⟩ | refine ⟨(by show some (Value.bool _) = some (Value.bool _); simp [hg1, badPut, -List.contains_eq_mem]), ?_⟩)) (by repeat (first | exact KSub.nil | refine KSub.cons (by repeat (first | exact Pick.hd | apply Pick.tl)) ?_ | exact KSub.refl _ | refine KSub.drop ?_)) hJ1
          · refine TL.gd Pu.mv ?_
            refine TL.gd (by first | exact Pu.fb ty_fa66_0 | exact Pu.fe ty_fa66_0) ?_
            refine TL.gd (Pu.ld ty_sc3) ?_
            refine TL.cr rfl (enters Tryz.func69 rfl rfl) (fun w hw => by
                exact refHas_any _ rfl (by omega) (OwnR.rdr (hw.holds (.own W Free.length cw 3 1 (iL Free)) (by simp)))) ?_
            refine TL.p Pu.kf ?_
            refine TL.p Pu.mv ?_
            refine TL.guard (t := 76) rfl (fun hg2 => ?_) (fun hg2 => ?_)
            · refine TL.gs ?_
              refine TL.gs ?_
              refine TL.gs ?_
              refine TL.gs ?_
              refine TL.p Pu.kt ?_
              refine TL.p Pu.mv ?_
              refine TL.gs ?_
              refine TL.gs ?_
              refine TL.gs ?_
              refine TL.gs ?_
              refine TL.gs ?_
              refine TL.gs ?_
              refine TL.gs ?_
              refine TL.p Pu.kt ?_
              refine TL.p Pu.mv ?_
              refine TL.gs ?_
              refine TL.gs ?_
              refine TL.gs ?_
              refine TL.p Pu.kt ?_
              refine TL.nil ?_
              exact TQ.sub (by repeat (first | exact trivial | refine ⟨rfl, ?_⟩ | refine ⟨trivial, ?_⟩ | refine ⟨(by show some (Value.bool _) = some (Value.bool _); simp [hg1, hg2, badPut, -List.contains_eq_mem]), ?_⟩)) (by repeat (first | exact KSub.nil | refine KSub.cons (by repeat (first | exact Pick.hd | apply Pick.tl)) ?_ | exact KSub.refl _ | refine KSub.drop ?_)) hJ1
            · refine TL.gd Pu.mv ?_
              refine TL.gd (by first | exact Pu.fb ty_fa66_0 | exact Pu.fe ty_fa66_0) ?_
              refine TL.gd (Pu.ld ty_sc3) ?_
              refine TL.cr rfl (enters Tryz.func69 rfl rfl) (fun w hw => by
                  exact refHas_any _ ht2 (by omega) (OwnR.rdr (hw.holds (.own G2 t2 c2 3 1 (iL V)) (by simp)))) ?_
              refine TL.p Pu.kf ?_
              refine TL.p Pu.mv ?_
              refine TL.guard (t := 82) rfl (fun hg3 => ?_) (fun hg3 => ?_)
              · refine TL.gs ?_
                refine TL.gs ?_
                refine TL.gs ?_
                refine TL.gs ?_
                refine TL.gs ?_
                refine TL.gs ?_
                refine TL.gs ?_
                refine TL.p Pu.kt ?_
                refine TL.p Pu.mv ?_
                refine TL.gs ?_
                refine TL.gs ?_
                refine TL.gs ?_
                refine TL.p Pu.kt ?_
                refine TL.nil ?_
                exact TQ.sub (by repeat (first | exact trivial | refine ⟨rfl, ?_⟩ | refine ⟨trivial, ?_⟩ | refine ⟨(by show some (Value.bool _) = some (Value.bool _); simp [hg1, hg2, hg3, badPut, -List.contains_eq_mem]), ?_⟩)) (by repeat (first | exact KSub.nil | refine KSub.cons (by repeat (first | exact Pick.hd | apply Pick.tl)) ?_ | exact KSub.refl _ | refine KSub.drop ?_)) hJ1
              · refine TL.gd (by first | exact Pu.fb ty_fa66_1 | exact Pu.fe ty_fa66_1) ?_
                refine TL.gd (Pu.ld ty_sc3) ?_
                refine TL.gd Pu.mv ?_
                refine TL.gd (Pu.ln Tryz.underlying23) ?_
                refine TL.gd Pu.sb ?_
                refine TL.cr rfl (enters Tryz.func55 rfl rfl) (fun w hw => by
                    exact within5_any _ _ _ _) ?_
                refine TL.gd Pu.no ?_
                refine TL.p Pu.kf ?_
                refine TL.p Pu.mv ?_
                refine TL.guard (t := 91) rfl (fun hg4 => ?_) (fun hg4 => ?_)
                · refine TL.gs ?_
                  refine TL.gs ?_
                  refine TL.gs ?_
                  refine TL.p Pu.kt ?_
                  refine TL.nil ?_
                  exact TQ.sub (by repeat (first | exact trivial | refine ⟨rfl, ?_⟩ | refine ⟨trivial, ?_⟩ | refine ⟨(by show some (Value.bool _) = some (Value.bool _); simp [hg1, hg2, hg3, hg4, badPut, -List.contains_eq_mem]), ?_⟩)) (by repeat (first | exact KSub.nil | refine KSub.cons (by repeat (first | exact Pick.hd | apply Pick.tl)) ?_ | exact KSub.refl _ | refine KSub.drop ?_)) hJ1
                · refine TL.gd (by first | exact Pu.fb ty_fa66_2 | exact Pu.fe ty_fa66_2) ?_
                  refine TL.gd (Pu.ld ty_sc5) ?_
                  refine TL.gd Pu.gt ?_
                  refine TL.p Pu.kf ?_
                  refine TL.nil ?_
                  exact TQ.sub (by repeat (first | exact trivial | refine ⟨rfl, ?_⟩ | refine ⟨trivial, ?_⟩ | refine ⟨(by show some (Value.bool _) = some (Value.bool _); simp [hg1, hg2, hg3, hg4, badPut, -List.contains_eq_mem]), ?_⟩)) (by repeat (first | exact KSub.nil | refine KSub.cons (by repeat (first | exact Pick.hd | apply Pick.tl)) ?_ | exact KSub.refl _ | refine KSub.drop ?_)) hJ1
        · try simp only [decide_eq_true_eq, decide_eq_false_iff_not, Bool.not_eq_true', Bool.not_eq_false', Bool.and_eq_true, Bool.or_eq_true, Bool.and_eq_false_iff, Bool.or_eq_false_iff, Int.not_lt, Int.not_le] at hc4
          have hkn : k = nP := by omega
          refine TW.exit ?_
          refine TQ.thenX ?_
          refine TQ.thenX ?_
          refine TQ.blkX ?_
          refine TQ.thenN (hY19 _ _ ?_)
          refine TW.seq fun Y28 hY28 => ?_
          refine TW.region ?_
          refine TL.p Pu.as ?_
          refine TL.nil ?_
          refine TQ.thenN (hY28 _ _ ?_)
          refine TW.seq fun Y29 hY29 => ?_
          refine TW.seq fun Y30 hY30 => ?_
          refine TW.region ?_
          refine TL.p Pu.as ?_
          refine TL.nil ?_
          refine TQ.thenN (hY30 _ _ ?_)
          refine TW.block ?_
          have hokk : ∀ k, k < nP → okPut np m T1 P k = true := fun k hk => hall2 k (by omega)
          have hPb : ∀ k, k < nP → 0 ≤ P k 1 ∧ P k 1 < m ∧ 0 ≤ P k 2 ∧ P k 2 ≤ 2 := fun k hk => by
            have h1 := hokk k hk
            have h2 := hP2 k hk
            unfold okPut at h1
            simp only [inB5, Bool.and_eq_true, decide_eq_true_eq] at h1
            omega
          have hT1s : ∀ s, s < 3 * m → Asc (T1 s) ∧ (T1 s).length ≤ 10 := fun s hs => by
            obtain ⟨b1, _, b3⟩ := hls s hs
            rw [HT1.out]
            exact ⟨b1.filter _, Nat.le_trans takeT_len b3⟩
          refine TW.loop5 (fun (i : Nat) (Ao : Option Addr) (co : Nat) (X : Nat → Option Addr) (D : Nat → Nat) => [(18, .int .i64 (i : Int)), (17, .slice Ao i co), (0, .int .i64 (np : Int)), (1, .slice AT m cT), (2, .slice Af F.length cf), (3, .slice AP nP cP)]) (fun i Ao co X D => .own Ao i co 36 3 (tieX X R D) :: ownsT X R D (3 * i)) (fun i Ao co X D => i ≤ m ∧ ∀ j, j < i → cnt3 R j ≤ 10) (fun i Ao co X D => m - i) 0 none 0 (fun _ => none) (fun _ => 0) (by repeat (first | exact trivial | refine ⟨rfl, ?_⟩ | refine ⟨trivial, ?_⟩)) ?_ ?_ ?_
          · exact KSub.nilOwn KSub.nil
          · exact ⟨Nat.zero_le _, fun j hj => by omega⟩
          rintro i Ao co X D ⟨hi, hcnt⟩ Z3 hZ3
          refine TW.seq fun Y31 hY31 => ?_
          refine TW.seq fun Y32 hY32 => ?_
          refine TW.region ?_
          refine TL.p Pu.mv ?_
          refine TL.p Pu.mv ?_
          refine TL.p (Pu.ln Tryz.underlying23) ?_
          refine TL.p Pu.lt ?_
          refine TL.nil ?_
          refine TQ.thenN (hY32 _ _ ?_)
          refine TW.cond rfl (fun hc6 => ?_) (fun hc6 => ?_)
          · try simp only [decide_eq_true_eq, decide_eq_false_iff_not, Bool.not_eq_true', Bool.not_eq_false', Bool.and_eq_true, Bool.or_eq_true, Bool.and_eq_false_iff, Bool.or_eq_false_iff, Int.not_lt, Int.not_le] at hc6
            have him : i < m := by omega
            have g0 : ((toI (v i 0) (l i 0)).filter fun x => !F.contains x) = trU T1 P i 0 0 := by rw [HT1.out]; unfold trU takeT; rw [T0_at (by omega)]; simp [putsTo]
            have g1 : ((toI (v i 1) (l i 1)).filter fun x => !F.contains x) = trU T1 P i 0 1 := by rw [HT1.out]; unfold trU takeT; rw [T0_at (by omega)]; simp [putsTo]
            have g2 : ((toI (v i 2) (l i 2)).filter fun x => !F.contains x) = trU T1 P i 0 2 := by rw [HT1.out]; unfold trU takeT; rw [T0_at (by omega)]; simp [putsTo]
            have hI0 := (hI i him 0 (by omega)).toI
            have hI1 := (hI i him 1 (by omega)).toI
            have hI2 := (hI i him 2 (by omega)).toI
            rw [toI_len] at hI0 hI1 hI2
            have hti := ht10 i him
            rw [tot3] at hti
            have hx0 := hT1s (3 * i) (by omega)
            have hx1 := hT1s (3 * i + 1) (by omega)
            have hx2 := hT1s (3 * i + 2) (by omega)
            refine TW.skip ?_
            refine TQ.thenN (hY31 _ _ ?_)
            refine TW.seq fun Y33 hY33 => ?_
            refine TW.block ?_
            refine TW.seq fun Y34 hY34 => ?_
            refine TW.dw 23 ?_
            refine RK.tk Pu.mv ?_
            refine RK.tk Pu.mv ?_
            refine RK.tk (Pu.el ty_et23) ?_
            refine RK.tk (by first | exact Pu.fb ty_fa36_0 | exact Pu.fe ty_fa36_0) ?_
            refine RK.tk (Pu.ld ty_sc24) ?_
            refine RK.tk Pu.mv ?_
            refine RK.keep ?_
            refine RK.tk Pu.mv ?_
            refine RK.tk Pu.mv ?_
            refine RK.tk (Pu.el ty_et23) ?_
            refine RK.tk (by first | exact Pu.fb ty_fa36_1 | exact Pu.fe ty_fa36_1) ?_
            refine RK.tk (Pu.ld ty_sc24) ?_
            refine RK.tk Pu.mv ?_
            refine RK.keep ?_
            refine RK.tk Pu.mv ?_
            refine RK.tk Pu.mv ?_
            refine RK.tk (Pu.el ty_et23) ?_
            refine RK.tk (by first | exact Pu.fb ty_fa36_2 | exact Pu.fe ty_fa36_2) ?_
            refine RK.tk (Pu.ld ty_sc24) ?_
            refine RK.tk Pu.mv ?_
            refine RK.keep ?_
            refine RK.keep ?_
            refine RK.float [.slice none 0 0, .slice none 0 0, .slice none 0 0] ?_
            refine RK.ch [false, false, false, true] ?_ ⟨ty_zr36, trivial⟩
            refine WK.call rfl (enters Tryz.func102 rfl rfl) rfl (fun w hw => by
                have h9 := refWithout_any (cA := c i 0) (cB := cf) toI_len.symm rfl (by omega) (by omega) (hI0.sat hw Apart.nil) (hF.sat hw Apart.nil)
                rw [g0] at h9
                exact h9) ?_
            rintro ⟨W0, e0⟩
            refine WK.call rfl (enters Tryz.func102 rfl rfl) rfl (fun w hw => by
                have h9 := refWithout_any (cA := c i 1) (cB := cf) toI_len.symm rfl (by omega) (by omega) (hI1.sat hw Apart.nil) (hF.sat hw Apart.nil)
                rw [g1] at h9
                exact h9) ?_
            rintro ⟨W1, e1⟩
            refine WK.call rfl (enters Tryz.func102 rfl rfl) rfl (fun w hw => by
                have h9 := refWithout_any (cA := c i 2) (cB := cf) toI_len.symm rfl (by omega) (by omega) (hI2.sat hw Apart.nil) (hF.sat hw Apart.nil)
                rw [g2] at h9
                exact h9) ?_
            rintro ⟨W2, e2⟩
            refine WK.p Pu.bd ?_
            refine WK.n ?_
            intro b5
            first | refine TL.st ty_sz36 ?_ | refine TL.se ty_sz36 ?_
            refine TL.nil ?_
            refine TQ.thenN (hY34 _ _ ?_)
            refine TW.seq fun Y35 hY35 => ?_
            refine TW.seq fun Y36 hY36 => ?_
            refine TW.region ?_
            refine TL.p Pu.as ?_
            refine TL.nil ?_
            refine TQ.thenN (hY36 _ _ ?_)
            refine TW.block ?_
            refine TW.loop3 (fun (k : Nat) (Y : Nat → Option Addr) (E : Nat → Nat) => [(20, .int .i64 (k : Int)), (19, .pointer (some ⟨b5, 0, none⟩)), (18, .int .i64 (i : Int)), (17, .slice Ao i co), (0, .int .i64 (np : Int)), (1, .slice AT m cT), (2, .slice Af F.length cf), (3, .slice AP nP cP)]) (fun k Y E => .blk b5 36 [.slice (Y 0) (trU T1 P i k 0).length (E 0), .slice (Y 1) (trU T1 P i k 1).length (E 1), .slice (Y 2) (trU T1 P i k 2).length (E 2)] :: .own (Y 0) (trU T1 P i k 0).length (E 0) 3 1 (iL (trU T1 P i k 0)) :: .own (Y 1) (trU T1 P i k 1).length (E 1) 3 1 (iL (trU T1 P i k 1)) :: .own (Y 2) (trU T1 P i k 2).length (E 2) 3 1 (iL (trU T1 P i k 2)) :: .own Ao i co 36 3 (tieX X R D) :: ownsT X R D (3 * i)) (fun k Y E => k ≤ nP) (fun k Y E => nP - k) 0 (fun j => if j = 0 then W0 else if j = 1 then W1 else W2) (fun j => if j = 0 then e0 else if j = 1 then e1 else e2) (by repeat (first | exact trivial | refine ⟨rfl, ?_⟩ | refine ⟨trivial, ?_⟩)) ?_ ?_ ?_
            · show KSub _ (.blk b5 36 [.slice W0 (trU T1 P i 0 0).length e0, .slice W1 (trU T1 P i 0 1).length e1, .slice W2 (trU T1 P i 0 2).length e2] :: .own W0 (trU T1 P i 0 0).length e0 3 1 (iL (trU T1 P i 0 0)) :: .own W1 (trU T1 P i 0 1).length e1 3 1 (iL (trU T1 P i 0 1)) :: .own W2 (trU T1 P i 0 2).length e2 3 1 (iL (trU T1 P i 0 2)) :: .own Ao i co 36 3 (tieX X R D) :: ownsT X R D (3 * i))
              repeat (first | refine KSub.cons (by repeat (first | exact Pick.hd | apply Pick.tl)) ?_ | exact KSub.refl _ | refine KSub.drop ?_)
            · exact Nat.zero_le _
            rintro k Y E hk Z4 hZ4
            have hu0 := trU_len (T := T1) (P := P) (i := i) (k := k) (j := 0)
            have hu1 := trU_len (T := T1) (P := P) (i := i) (k := k) (j := 1)
            have hu2 := trU_len (T := T1) (P := P) (i := i) (k := k) (j := 2)
            have hv0 : (trU T1 P i k 0).length ≤ 1010 := Nat.le_trans hu0 (by have := hx0.2; show (T1 (3 * i)).length + k ≤ 1010; omega)
            have hv1 : (trU T1 P i k 1).length ≤ 1010 := by have := hx1.2; omega
            have hv2 : (trU T1 P i k 2).length ≤ 1010 := by have := hx2.2; omega
            refine TW.seq fun Y37 hY37 => ?_
            refine TW.seq fun Y38 hY38 => ?_
            refine TW.region ?_
            refine TL.p Pu.mv ?_
            refine TL.p Pu.mv ?_
            refine TL.p (Pu.ln Tryz.underlying25) ?_
            refine TL.p Pu.lt ?_
            refine TL.nil ?_
            refine TQ.thenN (hY38 _ _ ?_)
            refine TW.cond rfl (fun hc7 => ?_) (fun hc7 => ?_)
            · try simp only [decide_eq_true_eq, decide_eq_false_iff_not, Bool.not_eq_true', Bool.not_eq_false', Bool.and_eq_true, Bool.or_eq_true, Bool.and_eq_false_iff, Bool.or_eq_false_iff, Int.not_lt, Int.not_le] at hc7
              have hkn : k < nP := by omega
              obtain ⟨w1, w2, w3, w4⟩ := hPb k hkn
              have hS9 : putS (P k) = 3 * (P k 1).toNat + (P k 2).toNat := rfl
              refine TW.skip ?_
              refine TQ.thenN (hY37 _ _ ?_)
              refine TW.seq fun Y39 hY39 => ?_
              refine TW.block ?_
              refine TW.seq fun Y40 hY40 => ?_
              refine TW.seq fun Y41 hY41 => ?_
              refine TW.region ?_
              refine TL.p Pu.mv ?_
              refine TL.p Pu.mv ?_
              refine TL.p (Pu.el ty_et25) ?_
              refine TL.p (by first | exact Pu.fb ty_fa66_1 | exact Pu.fe ty_fa66_1) ?_
              refine TL.p (Pu.ld ty_sc3) ?_
              refine TL.p Pu.mv ?_
              refine TL.p Pu.ne ?_
              refine TL.nil ?_
              refine TQ.thenN (hY41 _ _ ?_)
              refine TW.cond rfl (fun hc8 => ?_) (fun hc8 => ?_)
              · try simp only [decide_eq_true_eq, decide_eq_false_iff_not, Bool.not_eq_true', Bool.not_eq_false', Bool.and_eq_true, Bool.or_eq_true, Bool.and_eq_false_iff, Bool.or_eq_false_iff, Int.not_lt, Int.not_le] at hc8
                have hne : P k 1 ≠ (i : Int) := hc8
                obtain ⟨Y', hY'⟩ : ∃ y, y = Y := ⟨_, rfl⟩
                obtain ⟨E', hE'⟩ : ∃ y, y = E := ⟨_, rfl⟩
                have y0 : Y' 0 = Y 0 := by rw [hY']
                have y1 : Y' 1 = Y 1 := by rw [hY']
                have y2 : Y' 2 = Y 2 := by rw [hY']
                have z0 : E' 0 = E 0 := by rw [hE']
                have z1 : E' 1 = E 1 := by rw [hE']
                have z2 : E' 2 = E 2 := by rw [hE']
                have f0 : trU T1 P i (k + 1) 0 = trU T1 P i k 0 := trU_not (by rw [hS9]; omega)
                have f1 : trU T1 P i (k + 1) 1 = trU T1 P i k 1 := trU_not (by rw [hS9]; omega)
                have f2 : trU T1 P i (k + 1) 2 = trU T1 P i k 2 := trU_not (by rw [hS9]; omega)
                refine TW.exit ?_
                refine TQ.thenX ?_
                refine TQ.blkX ?_
                refine TQ.thenN (hY39 _ _ ?_)
                refine TW.region ?_
                refine TL.p Pu.mv ?_
                refine TL.p Pu.ad ?_
                refine TL.p Pu.as ?_
                refine TL.nil ?_
                refine TQ.thenN (hZ4 (k + 1) Y' E' _ _ ?_ ?_ (by repeat (first | exact trivial | refine ⟨rfl, ?_⟩ | refine ⟨trivial, ?_⟩)) ?_)
                · exact (by omega)
                · exact (by first | omega | (simp only []; omega) | (simp; omega))
                · rw [f0, f1, f2, y0, y1, y2, z0, z1, z2]
                  try simp only [List.length_append, List.length_cons, List.length_nil, Nat.zero_add]
                  first
                    | exact KSub.cons (by repeat (first | exact Pick.hd | apply Pick.tl)) (KSub.own (by repeat (first | exact Pick.hd | apply Pick.tl)) (iL_app rfl rfl rfl) (KSub.cons (by repeat (first | exact Pick.hd | apply Pick.tl)) (KSub.cons (by repeat (first | exact Pick.hd | apply Pick.tl)) ((by repeat (first | refine KSub.cons (by repeat (first | exact Pick.hd | apply Pick.tl)) ?_ | exact KSub.refl _ | refine KSub.drop ?_))))))
                    | exact KSub.cons (by repeat (first | exact Pick.hd | apply Pick.tl)) (KSub.cons (by repeat (first | exact Pick.hd | apply Pick.tl)) (KSub.own (by repeat (first | exact Pick.hd | apply Pick.tl)) (iL_app rfl rfl rfl) (KSub.cons (by repeat (first | exact Pick.hd | apply Pick.tl)) ((by repeat (first | refine KSub.cons (by repeat (first | exact Pick.hd | apply Pick.tl)) ?_ | exact KSub.refl _ | refine KSub.drop ?_))))))
                    | exact KSub.cons (by repeat (first | exact Pick.hd | apply Pick.tl)) (KSub.cons (by repeat (first | exact Pick.hd | apply Pick.tl)) (KSub.cons (by repeat (first | exact Pick.hd | apply Pick.tl)) (KSub.own (by repeat (first | exact Pick.hd | apply Pick.tl)) (iL_app rfl rfl rfl) ((by repeat (first | refine KSub.cons (by repeat (first | exact Pick.hd | apply Pick.tl)) ?_ | exact KSub.refl _ | refine KSub.drop ?_))))))
                    | exact (by repeat (first | refine KSub.cons (by repeat (first | exact Pick.hd | apply Pick.tl)) ?_ | exact KSub.refl _ | refine KSub.drop ?_))
              · try simp only [decide_eq_true_eq, decide_eq_false_iff_not, Bool.not_eq_true', Bool.not_eq_false', Bool.and_eq_true, Bool.or_eq_true, Bool.and_eq_false_iff, Bool.or_eq_false_iff, Int.not_lt, Int.not_le] at hc8
                have heq : P k 1 = (i : Int) := hc8
                refine TW.skip ?_
                refine TQ.thenN (hY40 _ _ ?_)
                refine TW.seq fun Y42 hY42 => ?_
                refine TW.seq fun Y43 hY43 => ?_
                refine TW.region ?_
                refine TL.p Pu.mv ?_
                refine TL.p Pu.mv ?_
                refine TL.p (Pu.el ty_et25) ?_
                refine TL.p (by first | exact Pu.fb ty_fa66_2 | exact Pu.fe ty_fa66_2) ?_
                refine TL.p (Pu.ld ty_sc5) ?_
                refine TL.p Pu.eq ?_
                refine TL.nil ?_
                refine TQ.thenN (hY43 _ _ ?_)
                refine TW.cond rfl (fun hc9 => ?_) (fun hc9 => ?_)
                · try simp only [decide_eq_true_eq, decide_eq_false_iff_not, Bool.not_eq_true', Bool.not_eq_false', Bool.and_eq_true, Bool.or_eq_true, Bool.and_eq_false_iff, Bool.or_eq_false_iff, Int.not_lt, Int.not_le] at hc9
                  have hp0 : P k 2 = 0 := hc9
                  refine TW.dw 8 ?_
                  refine RK.tk (by first | exact Pu.fb ty_fa36_0 | exact Pu.fe ty_fa36_0) ?_
                  refine RK.tk (Pu.ld ty_sc24) ?_
                  refine RK.tk Pu.mv ?_
                  refine RK.tk Pu.mv ?_
                  refine RK.tk (Pu.el ty_et25) ?_
                  refine RK.tk (by first | exact Pu.fb ty_fa66_0 | exact Pu.fe ty_fa66_0) ?_
                  refine RK.tk (Pu.ld ty_sc3) ?_
                  refine RK.keep ?_
                  refine RK.ch [false] ?_ trivial
                  refine WK.m Mk.bl ?_
                  intro b6
                  refine WK.n ?_
                  first | refine TL.a0 ty_et24 ?_ | refine TL.ap ty_et24 ?_
                  intro A7 c7
                  obtain ⟨Y', hY'⟩ : ∃ y, y = updN Y 0 A7 := ⟨_, rfl⟩
                  obtain ⟨E', hE'⟩ : ∃ y, y = updN E 0 c7 := ⟨_, rfl⟩
                  have y0 : Y' 0 = A7 := by rw [hY']; rfl
                  have z0 : E' 0 = c7 := by rw [hE']; rfl
                  have f0 : trU T1 P i (k + 1) 0 = trU T1 P i k 0 ++ [P k 0] := trU_yes (by rw [hS9]; omega)
                  have y1 : Y' 1 = Y 1 := by rw [hY']; rfl
                  have z1 : E' 1 = E 1 := by rw [hE']; rfl
                  have f1 : trU T1 P i (k + 1) 1 = trU T1 P i k 1 := trU_not (by rw [hS9]; omega)
                  have y2 : Y' 2 = Y 2 := by rw [hY']; rfl
                  have z2 : E' 2 = E 2 := by rw [hE']; rfl
                  have f2 : trU T1 P i (k + 1) 2 = trU T1 P i k 2 := trU_not (by rw [hS9]; omega)
                  refine TL.p (by first | exact Pu.fb ty_fa36_0 | exact Pu.fe ty_fa36_0) ?_
                  first | refine TL.st ty_sz24 ?_ | refine TL.se ty_sz24 ?_
                  refine TL.nil ?_
                  refine TQ.thenN (hY42 _ _ ?_)
                  refine TW.seq fun Y44 hY44 => ?_
                  refine TW.seq fun Y45 hY45 => ?_
                  refine TW.region ?_
                  refine TL.p Pu.mv ?_
                  refine TL.p Pu.mv ?_
                  refine TL.p (Pu.el ty_et25) ?_
                  refine TL.p (by first | exact Pu.fb ty_fa66_2 | exact Pu.fe ty_fa66_2) ?_
                  refine TL.p (Pu.ld ty_sc5) ?_
                  refine TL.p Pu.eq ?_
                  refine TL.nil ?_
                  refine TQ.thenN (hY45 _ _ ?_)
                  refine TW.condF rfl ((decide_eq_false (by omega))) ?_
                  refine TW.skip ?_
                  refine TQ.thenN (hY44 _ _ ?_)
                  refine TW.seq fun Y46 hY46 => ?_
                  refine TW.region ?_
                  refine TL.p Pu.mv ?_
                  refine TL.p Pu.mv ?_
                  refine TL.p (Pu.el ty_et25) ?_
                  refine TL.p (by first | exact Pu.fb ty_fa66_2 | exact Pu.fe ty_fa66_2) ?_
                  refine TL.p (Pu.ld ty_sc5) ?_
                  refine TL.p Pu.eq ?_
                  refine TL.nil ?_
                  refine TQ.thenN (hY46 _ _ ?_)
                  refine TW.condF rfl ((decide_eq_false (by omega))) ?_
                  refine TW.skip ?_
                  refine TQ.blkN ?_
                  refine TQ.thenN (hY39 _ _ ?_)
                  refine TW.region ?_
                  refine TL.p Pu.mv ?_
                  refine TL.p Pu.ad ?_
                  refine TL.p Pu.as ?_
                  refine TL.nil ?_
                  refine TQ.thenN (hZ4 (k + 1) Y' E' _ _ ?_ ?_ (by repeat (first | exact trivial | refine ⟨rfl, ?_⟩ | refine ⟨trivial, ?_⟩)) ?_)
                  · exact (by omega)
                  · exact (by first | omega | (simp only []; omega) | (simp; omega))
                  · rw [f0, f1, f2, y0, y1, y2, z0, z1, z2]
                    try simp only [List.length_append, List.length_cons, List.length_nil, Nat.zero_add]
                    first
                      | exact KSub.cons (by repeat (first | exact Pick.hd | apply Pick.tl)) (KSub.own (by repeat (first | exact Pick.hd | apply Pick.tl)) (iL_app rfl rfl rfl) (KSub.cons (by repeat (first | exact Pick.hd | apply Pick.tl)) (KSub.cons (by repeat (first | exact Pick.hd | apply Pick.tl)) ((by repeat (first | refine KSub.cons (by repeat (first | exact Pick.hd | apply Pick.tl)) ?_ | exact KSub.refl _ | refine KSub.drop ?_))))))
                      | exact KSub.cons (by repeat (first | exact Pick.hd | apply Pick.tl)) (KSub.cons (by repeat (first | exact Pick.hd | apply Pick.tl)) (KSub.own (by repeat (first | exact Pick.hd | apply Pick.tl)) (iL_app rfl rfl rfl) (KSub.cons (by repeat (first | exact Pick.hd | apply Pick.tl)) ((by repeat (first | refine KSub.cons (by repeat (first | exact Pick.hd | apply Pick.tl)) ?_ | exact KSub.refl _ | refine KSub.drop ?_))))))
                      | exact KSub.cons (by repeat (first | exact Pick.hd | apply Pick.tl)) (KSub.cons (by repeat (first | exact Pick.hd | apply Pick.tl)) (KSub.cons (by repeat (first | exact Pick.hd | apply Pick.tl)) (KSub.own (by repeat (first | exact Pick.hd | apply Pick.tl)) (iL_app rfl rfl rfl) ((by repeat (first | refine KSub.cons (by repeat (first | exact Pick.hd | apply Pick.tl)) ?_ | exact KSub.refl _ | refine KSub.drop ?_))))))
                      | exact (by repeat (first | refine KSub.cons (by repeat (first | exact Pick.hd | apply Pick.tl)) ?_ | exact KSub.refl _ | refine KSub.drop ?_))
                · try simp only [decide_eq_true_eq, decide_eq_false_iff_not, Bool.not_eq_true', Bool.not_eq_false', Bool.and_eq_true, Bool.or_eq_true, Bool.and_eq_false_iff, Bool.or_eq_false_iff, Int.not_lt, Int.not_le] at hc9
                  have hp0 : P k 2 ≠ 0 := hc9
                  refine TW.skip ?_
                  refine TQ.thenN (hY42 _ _ ?_)
                  refine TW.seq fun Y47 hY47 => ?_
                  refine TW.seq fun Y48 hY48 => ?_
                  refine TW.region ?_
                  refine TL.p Pu.mv ?_
                  refine TL.p Pu.mv ?_
                  refine TL.p (Pu.el ty_et25) ?_
                  refine TL.p (by first | exact Pu.fb ty_fa66_2 | exact Pu.fe ty_fa66_2) ?_
                  refine TL.p (Pu.ld ty_sc5) ?_
                  refine TL.p Pu.eq ?_
                  refine TL.nil ?_
                  refine TQ.thenN (hY48 _ _ ?_)
                  refine TW.cond rfl (fun hc10 => ?_) (fun hc10 => ?_)
                  · try simp only [decide_eq_true_eq, decide_eq_false_iff_not, Bool.not_eq_true', Bool.not_eq_false', Bool.and_eq_true, Bool.or_eq_true, Bool.and_eq_false_iff, Bool.or_eq_false_iff, Int.not_lt, Int.not_le] at hc10
                    have hp1 : P k 2 = 1 := hc10
                    refine TW.dw 8 ?_
                    refine RK.tk (by first | exact Pu.fb ty_fa36_1 | exact Pu.fe ty_fa36_1) ?_
                    refine RK.tk (Pu.ld ty_sc24) ?_
                    refine RK.tk Pu.mv ?_
                    refine RK.tk Pu.mv ?_
                    refine RK.tk (Pu.el ty_et25) ?_
                    refine RK.tk (by first | exact Pu.fb ty_fa66_0 | exact Pu.fe ty_fa66_0) ?_
                    refine RK.tk (Pu.ld ty_sc3) ?_
                    refine RK.keep ?_
                    refine RK.ch [false] ?_ trivial
                    refine WK.m Mk.bl ?_
                    intro b8
                    refine WK.n ?_
                    first | refine TL.a0 ty_et24 ?_ | refine TL.ap ty_et24 ?_
                    intro A9 c9
                    obtain ⟨Y', hY'⟩ : ∃ y, y = updN Y 1 A9 := ⟨_, rfl⟩
                    obtain ⟨E', hE'⟩ : ∃ y, y = updN E 1 c9 := ⟨_, rfl⟩
                    have y0 : Y' 0 = Y 0 := by rw [hY']; rfl
                    have z0 : E' 0 = E 0 := by rw [hE']; rfl
                    have f0 : trU T1 P i (k + 1) 0 = trU T1 P i k 0 := trU_not (by rw [hS9]; omega)
                    have y1 : Y' 1 = A9 := by rw [hY']; rfl
                    have z1 : E' 1 = c9 := by rw [hE']; rfl
                    have f1 : trU T1 P i (k + 1) 1 = trU T1 P i k 1 ++ [P k 0] := trU_yes (by rw [hS9]; omega)
                    have y2 : Y' 2 = Y 2 := by rw [hY']; rfl
                    have z2 : E' 2 = E 2 := by rw [hE']; rfl
                    have f2 : trU T1 P i (k + 1) 2 = trU T1 P i k 2 := trU_not (by rw [hS9]; omega)
                    refine TL.p (by first | exact Pu.fb ty_fa36_1 | exact Pu.fe ty_fa36_1) ?_
                    first | refine TL.st ty_sz24 ?_ | refine TL.se ty_sz24 ?_
                    refine TL.nil ?_
                    refine TQ.thenN (hY47 _ _ ?_)
                    refine TW.seq fun Y49 hY49 => ?_
                    refine TW.region ?_
                    refine TL.p Pu.mv ?_
                    refine TL.p Pu.mv ?_
                    refine TL.p (Pu.el ty_et25) ?_
                    refine TL.p (by first | exact Pu.fb ty_fa66_2 | exact Pu.fe ty_fa66_2) ?_
                    refine TL.p (Pu.ld ty_sc5) ?_
                    refine TL.p Pu.eq ?_
                    refine TL.nil ?_
                    refine TQ.thenN (hY49 _ _ ?_)
                    refine TW.condF rfl ((decide_eq_false (by omega))) ?_
                    refine TW.skip ?_
                    refine TQ.blkN ?_
                    refine TQ.thenN (hY39 _ _ ?_)
                    refine TW.region ?_
                    refine TL.p Pu.mv ?_
                    refine TL.p Pu.ad ?_
                    refine TL.p Pu.as ?_
                    refine TL.nil ?_
                    refine TQ.thenN (hZ4 (k + 1) Y' E' _ _ ?_ ?_ (by repeat (first | exact trivial | refine ⟨rfl, ?_⟩ | refine ⟨trivial, ?_⟩)) ?_)
                    · exact (by omega)
                    · exact (by first | omega | (simp only []; omega) | (simp; omega))
                    · rw [f0, f1, f2, y0, y1, y2, z0, z1, z2]
                      try simp only [List.length_append, List.length_cons, List.length_nil, Nat.zero_add]
                      first
                        | exact KSub.cons (by repeat (first | exact Pick.hd | apply Pick.tl)) (KSub.own (by repeat (first | exact Pick.hd | apply Pick.tl)) (iL_app rfl rfl rfl) (KSub.cons (by repeat (first | exact Pick.hd | apply Pick.tl)) (KSub.cons (by repeat (first | exact Pick.hd | apply Pick.tl)) ((by repeat (first | refine KSub.cons (by repeat (first | exact Pick.hd | apply Pick.tl)) ?_ | exact KSub.refl _ | refine KSub.drop ?_))))))
                        | exact KSub.cons (by repeat (first | exact Pick.hd | apply Pick.tl)) (KSub.cons (by repeat (first | exact Pick.hd | apply Pick.tl)) (KSub.own (by repeat (first | exact Pick.hd | apply Pick.tl)) (iL_app rfl rfl rfl) (KSub.cons (by repeat (first | exact Pick.hd | apply Pick.tl)) ((by repeat (first | refine KSub.cons (by repeat (first | exact Pick.hd | apply Pick.tl)) ?_ | exact KSub.refl _ | refine KSub.drop ?_))))))
                        | exact KSub.cons (by repeat (first | exact Pick.hd | apply Pick.tl)) (KSub.cons (by repeat (first | exact Pick.hd | apply Pick.tl)) (KSub.cons (by repeat (first | exact Pick.hd | apply Pick.tl)) (KSub.own (by repeat (first | exact Pick.hd | apply Pick.tl)) (iL_app rfl rfl rfl) ((by repeat (first | refine KSub.cons (by repeat (first | exact Pick.hd | apply Pick.tl)) ?_ | exact KSub.refl _ | refine KSub.drop ?_))))))
                        | exact (by repeat (first | refine KSub.cons (by repeat (first | exact Pick.hd | apply Pick.tl)) ?_ | exact KSub.refl _ | refine KSub.drop ?_))
                  · try simp only [decide_eq_true_eq, decide_eq_false_iff_not, Bool.not_eq_true', Bool.not_eq_false', Bool.and_eq_true, Bool.or_eq_true, Bool.and_eq_false_iff, Bool.or_eq_false_iff, Int.not_lt, Int.not_le] at hc10
                    have hp1 : P k 2 ≠ 1 := hc10
                    refine TW.skip ?_
                    refine TQ.thenN (hY47 _ _ ?_)
                    refine TW.seq fun Y50 hY50 => ?_
                    refine TW.region ?_
                    refine TL.p Pu.mv ?_
                    refine TL.p Pu.mv ?_
                    refine TL.p (Pu.el ty_et25) ?_
                    refine TL.p (by first | exact Pu.fb ty_fa66_2 | exact Pu.fe ty_fa66_2) ?_
                    refine TL.p (Pu.ld ty_sc5) ?_
                    refine TL.p Pu.eq ?_
                    refine TL.nil ?_
                    refine TQ.thenN (hY50 _ _ ?_)
                    refine TW.condT rfl ((decide_eq_true (by omega))) ?_
                    refine TW.dw 8 ?_
                    refine RK.tk (by first | exact Pu.fb ty_fa36_2 | exact Pu.fe ty_fa36_2) ?_
                    refine RK.tk (Pu.ld ty_sc24) ?_
                    refine RK.tk Pu.mv ?_
                    refine RK.tk Pu.mv ?_
                    refine RK.tk (Pu.el ty_et25) ?_
                    refine RK.tk (by first | exact Pu.fb ty_fa66_0 | exact Pu.fe ty_fa66_0) ?_
                    refine RK.tk (Pu.ld ty_sc3) ?_
                    refine RK.keep ?_
                    refine RK.ch [false] ?_ trivial
                    refine WK.m Mk.bl ?_
                    intro b10
                    refine WK.n ?_
                    first | refine TL.a0 ty_et24 ?_ | refine TL.ap ty_et24 ?_
                    intro A11 c11
                    obtain ⟨Y', hY'⟩ : ∃ y, y = updN Y 2 A11 := ⟨_, rfl⟩
                    obtain ⟨E', hE'⟩ : ∃ y, y = updN E 2 c11 := ⟨_, rfl⟩
                    have y0 : Y' 0 = Y 0 := by rw [hY']; rfl
                    have z0 : E' 0 = E 0 := by rw [hE']; rfl
                    have f0 : trU T1 P i (k + 1) 0 = trU T1 P i k 0 := trU_not (by rw [hS9]; omega)
                    have y1 : Y' 1 = Y 1 := by rw [hY']; rfl
                    have z1 : E' 1 = E 1 := by rw [hE']; rfl
                    have f1 : trU T1 P i (k + 1) 1 = trU T1 P i k 1 := trU_not (by rw [hS9]; omega)
                    have y2 : Y' 2 = A11 := by rw [hY']; rfl
                    have z2 : E' 2 = c11 := by rw [hE']; rfl
                    have f2 : trU T1 P i (k + 1) 2 = trU T1 P i k 2 ++ [P k 0] := trU_yes (by rw [hS9]; omega)
                    refine TL.p (by first | exact Pu.fb ty_fa36_2 | exact Pu.fe ty_fa36_2) ?_
                    first | refine TL.st ty_sz24 ?_ | refine TL.se ty_sz24 ?_
                    refine TL.nil ?_
                    refine TQ.blkN ?_
                    refine TQ.thenN (hY39 _ _ ?_)
                    refine TW.region ?_
                    refine TL.p Pu.mv ?_
                    refine TL.p Pu.ad ?_
                    refine TL.p Pu.as ?_
                    refine TL.nil ?_
                    refine TQ.thenN (hZ4 (k + 1) Y' E' _ _ ?_ ?_ (by repeat (first | exact trivial | refine ⟨rfl, ?_⟩ | refine ⟨trivial, ?_⟩)) ?_)
                    · exact (by omega)
                    · exact (by first | omega | (simp only []; omega) | (simp; omega))
                    · rw [f0, f1, f2, y0, y1, y2, z0, z1, z2]
                      try simp only [List.length_append, List.length_cons, List.length_nil, Nat.zero_add]
                      first
                        | exact KSub.cons (by repeat (first | exact Pick.hd | apply Pick.tl)) (KSub.own (by repeat (first | exact Pick.hd | apply Pick.tl)) (iL_app rfl rfl rfl) (KSub.cons (by repeat (first | exact Pick.hd | apply Pick.tl)) (KSub.cons (by repeat (first | exact Pick.hd | apply Pick.tl)) ((by repeat (first | refine KSub.cons (by repeat (first | exact Pick.hd | apply Pick.tl)) ?_ | exact KSub.refl _ | refine KSub.drop ?_))))))
                        | exact KSub.cons (by repeat (first | exact Pick.hd | apply Pick.tl)) (KSub.cons (by repeat (first | exact Pick.hd | apply Pick.tl)) (KSub.own (by repeat (first | exact Pick.hd | apply Pick.tl)) (iL_app rfl rfl rfl) (KSub.cons (by repeat (first | exact Pick.hd | apply Pick.tl)) ((by repeat (first | refine KSub.cons (by repeat (first | exact Pick.hd | apply Pick.tl)) ?_ | exact KSub.refl _ | refine KSub.drop ?_))))))
                        | exact KSub.cons (by repeat (first | exact Pick.hd | apply Pick.tl)) (KSub.cons (by repeat (first | exact Pick.hd | apply Pick.tl)) (KSub.cons (by repeat (first | exact Pick.hd | apply Pick.tl)) (KSub.own (by repeat (first | exact Pick.hd | apply Pick.tl)) (iL_app rfl rfl rfl) ((by repeat (first | refine KSub.cons (by repeat (first | exact Pick.hd | apply Pick.tl)) ?_ | exact KSub.refl _ | refine KSub.drop ?_))))))
                        | exact (by repeat (first | refine KSub.cons (by repeat (first | exact Pick.hd | apply Pick.tl)) ?_ | exact KSub.refl _ | refine KSub.drop ?_))
            · try simp only [decide_eq_true_eq, decide_eq_false_iff_not, Bool.not_eq_true', Bool.not_eq_false', Bool.and_eq_true, Bool.or_eq_true, Bool.and_eq_false_iff, Bool.or_eq_false_iff, Int.not_lt, Int.not_le] at hc7
              obtain rfl : nP = k := by omega
              have r0 : srt (trU T1 P i nP 0) = R (3 * i) := by rw [HR.out]; exact putT_srt (s := 3 * i) (asc_le hx0.1)
              have r1 : srt (trU T1 P i nP 1) = R (3 * i + 1) := by rw [HR.out]; exact putT_srt (asc_le hx1.1)
              have r2 : srt (trU T1 P i nP 2) = R (3 * i + 2) := by rw [HR.out]; exact putT_srt (asc_le hx2.1)
              have q0 : (trU T1 P i nP 0).length = (R (3 * i)).length := by rw [← r0, srt_len]
              have q1 : (trU T1 P i nP 1).length = (R (3 * i + 1)).length := by rw [← r1, srt_len]
              have q2 : (trU T1 P i nP 2).length = (R (3 * i + 2)).length := by rw [← r2, srt_len]
              rw [q0] at hv0
              rw [q1] at hv1
              rw [q2] at hv2
              rw [q0, q1, q2]
              refine TW.exit ?_
              refine TQ.thenX ?_
              refine TQ.thenX ?_
              refine TQ.blkX ?_
              refine TQ.thenN (hY35 _ _ ?_)
              refine TW.seq fun Y51 hY51 => ?_
              refine TW.expk [] (fun (_ : Unit) => ([(19, .pointer (some ⟨b5, 0, none⟩)), (18, .int .i64 (i : Int)), (17, .slice Ao i co), (0, .int .i64 (np : Int)), (1, .slice AT m cT), (2, .slice Af F.length cf), (3, .slice AP nP cP)] : Fr)) (fun (_ : Unit) => .blk b5 36 [.slice (Y 0) (R (3 * i)).length (E 0), .slice (Y 1) (R (3 * i + 1)).length (E 1), .slice (Y 2) (R (3 * i + 2)).length (E 2)] :: .own (Y 0) (R (3 * i)).length (E 0) 3 1 (iL (srt (trU T1 P i nP 0))) :: .own (Y 1) (R (3 * i + 1)).length (E 1) 3 1 (iL (srt (trU T1 P i nP 1))) :: .own (Y 2) (R (3 * i + 2)).length (E 2) 3 1 (iL (srt (trU T1 P i nP 2))) :: .own Ao i co 36 3 (tieX X R D) :: ownsT X R D (3 * i)) ?_ (fun hE => ?_)
              · rintro ⟨⟩
                refine TQ.thenN (hY51 _ _ ?_)
                refine TW.seq fun Y52 hY52 => ?_
                refine TW.seq fun Y53 hY53 => ?_
                refine TW.region ?_
                rw [r0, r1, r2]
                refine TL.p (Pu.lds ty_ag36) ?_
                refine TL.call (M := []) rfl (enters Tryz.func36 rfl rfl) (List.Perm.refl _) rfl (fun w hw => by
                    exact refList3_any (L0 := R (3 * i)) (L1 := R (3 * i + 1)) (L2 := R (3 * i + 2)) rfl rfl rfl (by omega) (OwnR.rdr (hw.holds (.own (Y 0) (R (3 * i)).length (E 0) 3 1 (iL (R (3 * i)))) (by simp))) (OwnR.rdr (hw.holds (.own (Y 1) (R (3 * i + 1)).length (E 1) 3 1 (iL (R (3 * i + 1)))) (by simp))) (OwnR.rdr (hw.holds (.own (Y 2) (R (3 * i + 2)).length (E 2) 3 1 (iL (R (3 * i + 2)))) (by simp)))) ?_
                rintro ⟨Al, cl⟩
                refine TL.p (Pu.ln Tryz.underlying24) ?_
                refine TL.p Pu.gt ?_
                refine TL.nil ?_
                refine TQ.thenN (hY53 _ _ ?_)
                refine TW.cond rfl (fun hc12 => ?_) (fun hc12 => ?_)
                · try simp only [decide_eq_true_eq, decide_eq_false_iff_not, Bool.not_eq_true', Bool.not_eq_false', Bool.and_eq_true, Bool.or_eq_true, Bool.and_eq_false_iff, Bool.or_eq_false_iff, Int.not_lt, Int.not_le] at hc12
                  have hno : trdOk np m l v F P nP = false := trd_cnt him (by rw [← HT1.out, ← HR.out]; unfold cnt3; omega)
                  refine TW.seq fun Y54 hY54 => ?_
                  refine TW.region ?_
                  refine TL.p Pu.as ?_
                  refine TL.p Pu.as ?_
                  refine TL.nil ?_
                  refine TQ.thenN (hY54 _ _ ?_)
                  refine TW.ret ?_
                  refine TQ.thenR ?_
                  refine TQ.blkR ?_
                  refine TQ.thenR ?_
                  refine TQ.thenR ?_
                  refine TQ.blkR ?_
                  refine TQ.thenR ?_
                  refine TQ.ret Tryz.results56 rfl ((.tmp rfl (.tmp rfl .nil))) ?_
                  exact fun w hw => trd_none hno hw
                · try simp only [decide_eq_true_eq, decide_eq_false_iff_not, Bool.not_eq_true', Bool.not_eq_false', Bool.and_eq_true, Bool.or_eq_true, Bool.and_eq_false_iff, Bool.or_eq_false_iff, Int.not_lt, Int.not_le] at hc12
                  have hci : cnt3 R i ≤ 10 := by unfold cnt3; omega
                  refine TW.skip ?_
                  refine TQ.thenN (hY52 _ _ ?_)
                  refine TW.region ?_
                  refine TL.p Pu.mv ?_
                  refine TL.p (Pu.lds ty_ag36) ?_
                  refine TL.m Mk.bl ?_
                  intro b12
                  first | refine TL.a0 ty_et23 ?_ | refine TL.ap ty_et23 ?_
                  intro A13 c13
                  refine TL.p Pu.as ?_
                  refine TL.nil ?_
                  refine TQ.blkN ?_
                  refine TQ.thenN (hY33 _ _ ?_)
                  refine TW.region ?_
                  refine TL.p Pu.mv ?_
                  refine TL.p Pu.ad ?_
                  refine TL.p Pu.as ?_
                  refine TL.nil ?_
                  refine TQ.thenN (hZ3 (i + 1) _ _ (seam X Y i) (seam D E i) _ _ ?_ ?_ (by repeat (first | exact trivial | refine ⟨rfl, ?_⟩ | refine ⟨trivial, ?_⟩)) ?_)
                  · refine ⟨by omega, fun j hj => ?_⟩
                    by_cases h : j = i
                    · subst h; exact hci
                    · exact hcnt j (by omega)
                  · exact (by first | omega | (simp only []; omega) | (simp; omega))
                  · rw [show 3 * (i + 1) = 3 * i + 3 from rfl, ownsT_seam]
                    exact KSub.own (by repeat (first | exact Pick.hd | apply Pick.tl)) tieX_seam (KSub.cons (by repeat (first | exact Pick.hd | apply Pick.tl)) (KSub.cons (by repeat (first | exact Pick.hd | apply Pick.tl)) (KSub.cons (by repeat (first | exact Pick.hd | apply Pick.tl)) (by repeat (first | exact KSub.refl _ | refine KSub.drop ?_)))))
              refine RG.tk 0 rfl (by first | exact Pu.fb ty_fa36_0 | exact Pu.fe ty_fa36_0) ?_
              refine RG.tk 3 rfl (by first | exact Pu.fb ty_fa36_1 | exact Pu.fe ty_fa36_1) ?_
              refine RG.tk 6 rfl (by first | exact Pu.fb ty_fa36_2 | exact Pu.fe ty_fa36_2) ?_
              refine RG.a3 1 4 7 rfl rfl rfl (fun X1 hX1 => ?_) (fun X4 hX4 => ?_) (fun X7 hX7 => ?_)
              · refine TL.p (Pu.ld ty_sc24) ?_
                refine TL.nil ?_
                refine TQ.nxt (hX1 _ _ (by repeat (first | exact HasL.nil | refine HasL.cons (by repeat (first | exact Pick.hd | apply Pick.tl)) ?_)) ?_)
                refine RG.a3 2 4 7 rfl rfl rfl (fun X2 hX2 => ?_) (fun X4 hX4 => ?_) (fun X7 hX7 => ?_)
                · refine TL.call rfl (enters Tryz.func58 rfl rfl) (M := [.own (Y 0) (R (3 * i)).length (E 0) 3 1 (iL (trU T1 P i nP 0))]) (Pick.perm (by repeat (first | exact Pick.hd | apply Pick.tl))) rfl (fun w hw => by
                      exact refSorted_any q0.symm (by omega) (hw.holds (.own (Y 0) (R (3 * i)).length (E 0) 3 1 (iL (trU T1 P i nP 0))) (by simp))) ?_
                  intro _
                  refine TL.nil ?_
                  refine TQ.nxt (hX2 _ _ (by repeat (first | exact HasL.nil | refine HasL.cons (by repeat (first | exact Pick.hd | apply Pick.tl)) ?_)) ?_)
                  refine RG.a2 4 7 rfl rfl (fun X4 hX4 => ?_) (fun X7 hX7 => ?_)
                  · refine TL.p (Pu.ld ty_sc24) ?_
                    refine TL.nil ?_
                    refine TQ.nxt (hX4 _ _ (by repeat (first | exact HasL.nil | refine HasL.cons (by repeat (first | exact Pick.hd | apply Pick.tl)) ?_)) ?_)
                    refine RG.a2 5 7 rfl rfl (fun X5 hX5 => ?_) (fun X7 hX7 => ?_)
                    · refine TL.call rfl (enters Tryz.func58 rfl rfl) (M := [.own (Y 1) (R (3 * i + 1)).length (E 1) 3 1 (iL (trU T1 P i nP 1))]) (Pick.perm (by repeat (first | exact Pick.hd | apply Pick.tl))) rfl (fun w hw => by
                          exact refSorted_any q1.symm (by omega) (hw.holds (.own (Y 1) (R (3 * i + 1)).length (E 1) 3 1 (iL (trU T1 P i nP 1))) (by simp))) ?_
                      intro _
                      refine TL.nil ?_
                      refine TQ.nxt (hX5 _ _ (by repeat (first | exact HasL.nil | refine HasL.cons (by repeat (first | exact Pick.hd | apply Pick.tl)) ?_)) ?_)
                      refine RG.a1 7 rfl (fun X7 hX7 => ?_)
                      refine TL.p (Pu.ld ty_sc24) ?_
                      refine TL.nil ?_
                      refine TQ.nxt (hX7 _ _ (by repeat (first | exact HasL.nil | refine HasL.cons (by repeat (first | exact Pick.hd | apply Pick.tl)) ?_)) ?_)
                      refine RG.tk 9 rfl (by first | exact Pu.fb ty_fa36_0 | exact Pu.fe ty_fa36_0) ?_
                      refine RG.a1 8 rfl (fun X8 hX8 => ?_)
                      refine TL.call rfl (enters Tryz.func58 rfl rfl) (M := [.own (Y 2) (R (3 * i + 2)).length (E 2) 3 1 (iL (trU T1 P i nP 2))]) (Pick.perm (by repeat (first | exact Pick.hd | apply Pick.tl))) rfl (fun w hw => by
                          exact refSorted_any q2.symm (by omega) (hw.holds (.own (Y 2) (R (3 * i + 2)).length (E 2) 3 1 (iL (trU T1 P i nP 2))) (by simp))) ?_
                      intro _
                      refine TL.nil ?_
                      refine TQ.nxt (hX8 _ _ (by repeat (first | exact HasL.nil | refine HasL.cons (by repeat (first | exact Pick.hd | apply Pick.tl)) ?_)) ?_)
                      refine RG.a1 10 rfl (fun X10 hX10 => ?_)
                      first | refine TL.st ty_sz24 ?_ | refine TL.se ty_sz24 ?_
                      refine TL.nil ?_
                      refine TQ.nxt (hX10 _ _ (by repeat (first | exact HasL.nil | refine HasL.cons (by repeat (first | exact Pick.hd | apply Pick.tl)) ?_)) ?_)
                      refine RG.tk 11 rfl (by first | exact Pu.fb ty_fa36_1 | exact Pu.fe ty_fa36_1) ?_
                      refine RG.a1 12 rfl (fun X12 hX12 => ?_)
                      first | refine TL.st ty_sz24 ?_ | refine TL.se ty_sz24 ?_
                      refine TL.nil ?_
                      refine TQ.nxt (hX12 _ _ (by repeat (first | exact HasL.nil | refine HasL.cons (by repeat (first | exact Pick.hd | apply Pick.tl)) ?_)) ?_)
                      refine RG.tk 13 rfl (by first | exact Pu.fb ty_fa36_2 | exact Pu.fe ty_fa36_2) ?_
                      refine RG.a1 14 rfl (fun X14 hX14 => ?_)
                      first | refine TL.st ty_sz24 ?_ | refine TL.se ty_sz24 ?_
                      refine TL.nil ?_
                      refine TQ.nxt (hX14 _ _ (by repeat (first | exact HasL.nil | refine HasL.cons (by repeat (first | exact Pick.hd | apply Pick.tl)) ?_)) ?_)
                      exact RG.nil (TQ.sub (by repeat (first | exact trivial | refine ⟨rfl, ?_⟩ | refine ⟨trivial, ?_⟩)) (by repeat (first | exact KSub.nil | refine KSub.cons (by repeat (first | exact Pick.hd | apply Pick.tl)) ?_ | exact KSub.refl _ | refine KSub.drop ?_)) (hE ⟨⟩)) (by kernel_rfl)
                    · refine TL.p (Pu.ld ty_sc24) ?_
                      refine TL.nil ?_
                      refine TQ.nxt (hX7 _ _ (by repeat (first | exact HasL.nil | refine HasL.cons (by repeat (first | exact Pick.hd | apply Pick.tl)) ?_)) ?_)
                      refine RG.tk 9 rfl (by first | exact Pu.fb ty_fa36_0 | exact Pu.fe ty_fa36_0) ?_
                      refine RG.a1 5 rfl (fun X5 hX5 => ?_)
                      refine TL.call rfl (enters Tryz.func58 rfl rfl) (M := [.own (Y 1) (R (3 * i + 1)).length (E 1) 3 1 (iL (trU T1 P i nP 1))]) (Pick.perm (by repeat (first | exact Pick.hd | apply Pick.tl))) rfl (fun w hw => by
                          exact refSorted_any q1.symm (by omega) (hw.holds (.own (Y 1) (R (3 * i + 1)).length (E 1) 3 1 (iL (trU T1 P i nP 1))) (by simp))) ?_
                      intro _
                      refine TL.nil ?_
                      refine TQ.nxt (hX5 _ _ (by repeat (first | exact HasL.nil | refine HasL.cons (by repeat (first | exact Pick.hd | apply Pick.tl)) ?_)) ?_)
                      refine RG.a1 8 rfl (fun X8 hX8 => ?_)
                      refine TL.call rfl (enters Tryz.func58 rfl rfl) (M := [.own (Y 2) (R (3 * i + 2)).length (E 2) 3 1 (iL (trU T1 P i nP 2))]) (Pick.perm (by repeat (first | exact Pick.hd | apply Pick.tl))) rfl (fun w hw => by
                          exact refSorted_any q2.symm (by omega) (hw.holds (.own (Y 2) (R (3 * i + 2)).length (E 2) 3 1 (iL (trU T1 P i nP 2))) (by simp))) ?_
                      intro _
                      refine TL.nil ?_
                      refine TQ.nxt (hX8 _ _ (by repeat (first | exact HasL.nil | refine HasL.cons (by repeat (first | exact Pick.hd | apply Pick.tl)) ?_)) ?_)
                      refine RG.a1 10 rfl (fun X10 hX10 => ?_)
                      first | refine TL.st ty_sz24 ?_ | refine TL.se ty_sz24 ?_
                      refine TL.nil ?_
                      refine TQ.nxt (hX10 _ _ (by repeat (first | exact HasL.nil | refine HasL.cons (by repeat (first | exact Pick.hd | apply Pick.tl)) ?_)) ?_)
                      refine RG.tk 11 rfl (by first | exact Pu.fb ty_fa36_1 | exact Pu.fe ty_fa36_1) ?_
                      refine RG.a1 12 rfl (fun X12 hX12 => ?_)
                      first | refine TL.st ty_sz24 ?_ | refine TL.se ty_sz24 ?_
                      refine TL.nil ?_
                      refine TQ.nxt (hX12 _ _ (by repeat (first | exact HasL.nil | refine HasL.cons (by repeat (first | exact Pick.hd | apply Pick.tl)) ?_)) ?_)
                      refine RG.tk 13 rfl (by first | exact Pu.fb ty_fa36_2 | exact Pu.fe ty_fa36_2) ?_
                      refine RG.a1 14 rfl (fun X14 hX14 => ?_)
                      first | refine TL.st ty_sz24 ?_ | refine TL.se ty_sz24 ?_
                      refine TL.nil ?_
                      refine TQ.nxt (hX14 _ _ (by repeat (first | exact HasL.nil | refine HasL.cons (by repeat (first | exact Pick.hd | apply Pick.tl)) ?_)) ?_)
                      exact RG.nil (TQ.sub (by repeat (first | exact trivial | refine ⟨rfl, ?_⟩ | refine ⟨trivial, ?_⟩)) (by repeat (first | exact KSub.nil | refine KSub.cons (by repeat (first | exact Pick.hd | apply Pick.tl)) ?_ | exact KSub.refl _ | refine KSub.drop ?_)) (hE ⟨⟩)) (by kernel_rfl)
                  · refine TL.p (Pu.ld ty_sc24) ?_
                    refine TL.nil ?_
                    refine TQ.nxt (hX7 _ _ (by repeat (first | exact HasL.nil | refine HasL.cons (by repeat (first | exact Pick.hd | apply Pick.tl)) ?_)) ?_)
                    refine RG.a1 4 rfl (fun X4 hX4 => ?_)
                    refine TL.p (Pu.ld ty_sc24) ?_
                    refine TL.nil ?_
                    refine TQ.nxt (hX4 _ _ (by repeat (first | exact HasL.nil | refine HasL.cons (by repeat (first | exact Pick.hd | apply Pick.tl)) ?_)) ?_)
                    refine RG.tk 9 rfl (by first | exact Pu.fb ty_fa36_0 | exact Pu.fe ty_fa36_0) ?_
                    refine RG.a1 5 rfl (fun X5 hX5 => ?_)
                    refine TL.call rfl (enters Tryz.func58 rfl rfl) (M := [.own (Y 1) (R (3 * i + 1)).length (E 1) 3 1 (iL (trU T1 P i nP 1))]) (Pick.perm (by repeat (first | exact Pick.hd | apply Pick.tl))) rfl (fun w hw => by
                        exact refSorted_any q1.symm (by omega) (hw.holds (.own (Y 1) (R (3 * i + 1)).length (E 1) 3 1 (iL (trU T1 P i nP 1))) (by simp))) ?_
                    intro _
                    refine TL.nil ?_
                    refine TQ.nxt (hX5 _ _ (by repeat (first | exact HasL.nil | refine HasL.cons (by repeat (first | exact Pick.hd | apply Pick.tl)) ?_)) ?_)
                    refine RG.a1 8 rfl (fun X8 hX8 => ?_)
                    refine TL.call rfl (enters Tryz.func58 rfl rfl) (M := [.own (Y 2) (R (3 * i + 2)).length (E 2) 3 1 (iL (trU T1 P i nP 2))]) (Pick.perm (by repeat (first | exact Pick.hd | apply Pick.tl))) rfl (fun w hw => by
                        exact refSorted_any q2.symm (by omega) (hw.holds (.own (Y 2) (R (3 * i + 2)).length (E 2) 3 1 (iL (trU T1 P i nP 2))) (by simp))) ?_
                    intro _
                    refine TL.nil ?_
                    refine TQ.nxt (hX8 _ _ (by repeat (first | exact HasL.nil | refine HasL.cons (by repeat (first | exact Pick.hd | apply Pick.tl)) ?_)) ?_)
                    refine RG.a1 10 rfl (fun X10 hX10 => ?_)
                    first | refine TL.st ty_sz24 ?_ | refine TL.se ty_sz24 ?_
                    refine TL.nil ?_
                    refine TQ.nxt (hX10 _ _ (by repeat (first | exact HasL.nil | refine HasL.cons (by repeat (first | exact Pick.hd | apply Pick.tl)) ?_)) ?_)
                    refine RG.tk 11 rfl (by first | exact Pu.fb ty_fa36_1 | exact Pu.fe ty_fa36_1) ?_
                    refine RG.a1 12 rfl (fun X12 hX12 => ?_)
                    first | refine TL.st ty_sz24 ?_ | refine TL.se ty_sz24 ?_
                    refine TL.nil ?_
                    refine TQ.nxt (hX12 _ _ (by repeat (first | exact HasL.nil | refine HasL.cons (by repeat (first | exact Pick.hd | apply Pick.tl)) ?_)) ?_)
                    refine RG.tk 13 rfl (by first | exact Pu.fb ty_fa36_2 | exact Pu.fe ty_fa36_2) ?_
                    refine RG.a1 14 rfl (fun X14 hX14 => ?_)
                    first | refine TL.st ty_sz24 ?_ | refine TL.se ty_sz24 ?_
                    refine TL.nil ?_
                    refine TQ.nxt (hX14 _ _ (by repeat (first | exact HasL.nil | refine HasL.cons (by repeat (first | exact Pick.hd | apply Pick.tl)) ?_)) ?_)
                    exact RG.nil (TQ.sub (by repeat (first | exact trivial | refine ⟨rfl, ?_⟩ | refine ⟨trivial, ?_⟩)) (by repeat (first | exact KSub.nil | refine KSub.cons (by repeat (first | exact Pick.hd | apply Pick.tl)) ?_ | exact KSub.refl _ | refine KSub.drop ?_)) (hE ⟨⟩)) (by kernel_rfl)
                · refine TL.p (Pu.ld ty_sc24) ?_
                  refine TL.nil ?_
                  refine TQ.nxt (hX4 _ _ (by repeat (first | exact HasL.nil | refine HasL.cons (by repeat (first | exact Pick.hd | apply Pick.tl)) ?_)) ?_)
                  refine RG.a2 2 7 rfl rfl (fun X2 hX2 => ?_) (fun X7 hX7 => ?_)
                  · refine TL.call rfl (enters Tryz.func58 rfl rfl) (M := [.own (Y 0) (R (3 * i)).length (E 0) 3 1 (iL (trU T1 P i nP 0))]) (Pick.perm (by repeat (first | exact Pick.hd | apply Pick.tl))) rfl (fun w hw => by
                        exact refSorted_any q0.symm (by omega) (hw.holds (.own (Y 0) (R (3 * i)).length (E 0) 3 1 (iL (trU T1 P i nP 0))) (by simp))) ?_
                    intro _
                    refine TL.nil ?_
                    refine TQ.nxt (hX2 _ _ (by repeat (first | exact HasL.nil | refine HasL.cons (by repeat (first | exact Pick.hd | apply Pick.tl)) ?_)) ?_)
                    refine RG.a2 5 7 rfl rfl (fun X5 hX5 => ?_) (fun X7 hX7 => ?_)
                    · refine TL.call rfl (enters Tryz.func58 rfl rfl) (M := [.own (Y 1) (R (3 * i + 1)).length (E 1) 3 1 (iL (trU T1 P i nP 1))]) (Pick.perm (by repeat (first | exact Pick.hd | apply Pick.tl))) rfl (fun w hw => by
                          exact refSorted_any q1.symm (by omega) (hw.holds (.own (Y 1) (R (3 * i + 1)).length (E 1) 3 1 (iL (trU T1 P i nP 1))) (by simp))) ?_
                      intro _
                      refine TL.nil ?_
                      refine TQ.nxt (hX5 _ _ (by repeat (first | exact HasL.nil | refine HasL.cons (by repeat (first | exact Pick.hd | apply Pick.tl)) ?_)) ?_)
                      refine RG.a1 7 rfl (fun X7 hX7 => ?_)
                      refine TL.p (Pu.ld ty_sc24) ?_
                      refine TL.nil ?_
                      refine TQ.nxt (hX7 _ _ (by repeat (first | exact HasL.nil | refine HasL.cons (by repeat (first | exact Pick.hd | apply Pick.tl)) ?_)) ?_)
                      refine RG.tk 9 rfl (by first | exact Pu.fb ty_fa36_0 | exact Pu.fe ty_fa36_0) ?_
                      refine RG.a1 8 rfl (fun X8 hX8 => ?_)
                      refine TL.call rfl (enters Tryz.func58 rfl rfl) (M := [.own (Y 2) (R (3 * i + 2)).length (E 2) 3 1 (iL (trU T1 P i nP 2))]) (Pick.perm (by repeat (first | exact Pick.hd | apply Pick.tl))) rfl (fun w hw => by
                          exact refSorted_any q2.symm (by omega) (hw.holds (.own (Y 2) (R (3 * i + 2)).length (E 2) 3 1 (iL (trU T1 P i nP 2))) (by simp))) ?_
                      intro _
                      refine TL.nil ?_
                      refine TQ.nxt (hX8 _ _ (by repeat (first | exact HasL.nil | refine HasL.cons (by repeat (first | exact Pick.hd | apply Pick.tl)) ?_)) ?_)
                      refine RG.a1 10 rfl (fun X10 hX10 => ?_)
                      first | refine TL.st ty_sz24 ?_ | refine TL.se ty_sz24 ?_
                      refine TL.nil ?_
                      refine TQ.nxt (hX10 _ _ (by repeat (first | exact HasL.nil | refine HasL.cons (by repeat (first | exact Pick.hd | apply Pick.tl)) ?_)) ?_)
                      refine RG.tk 11 rfl (by first | exact Pu.fb ty_fa36_1 | exact Pu.fe ty_fa36_1) ?_
                      refine RG.a1 12 rfl (fun X12 hX12 => ?_)
                      first | refine TL.st ty_sz24 ?_ | refine TL.se ty_sz24 ?_
                      refine TL.nil ?_
                      refine TQ.nxt (hX12 _ _ (by repeat (first | exact HasL.nil | refine HasL.cons (by repeat (first | exact Pick.hd | apply Pick.tl)) ?_)) ?_)
                      refine RG.tk 13 rfl (by first | exact Pu.fb ty_fa36_2 | exact Pu.fe ty_fa36_2) ?_
                      refine RG.a1 14 rfl (fun X14 hX14 => ?_)
                      first | refine TL.st ty_sz24 ?_ | refine TL.se ty_sz24 ?_
                      refine TL.nil ?_
                      refine TQ.nxt (hX14 _ _ (by repeat (first | exact HasL.nil | refine HasL.cons (by repeat (first | exact Pick.hd | apply Pick.tl)) ?_)) ?_)
                      exact RG.nil (TQ.sub (by repeat (first | exact trivial | refine ⟨rfl, ?_⟩ | refine ⟨trivial, ?_⟩)) (by repeat (first | exact KSub.nil | refine KSub.cons (by repeat (first | exact Pick.hd | apply Pick.tl)) ?_ | exact KSub.refl _ | refine KSub.drop ?_)) (hE ⟨⟩)) (by kernel_rfl)
                    · refine TL.p (Pu.ld ty_sc24) ?_
                      refine TL.nil ?_
                      refine TQ.nxt (hX7 _ _ (by repeat (first | exact HasL.nil | refine HasL.cons (by repeat (first | exact Pick.hd | apply Pick.tl)) ?_)) ?_)
                      refine RG.tk 9 rfl (by first | exact Pu.fb ty_fa36_0 | exact Pu.fe ty_fa36_0) ?_
                      refine RG.a1 5 rfl (fun X5 hX5 => ?_)
                      refine TL.call rfl (enters Tryz.func58 rfl rfl) (M := [.own (Y 1) (R (3 * i + 1)).length (E 1) 3 1 (iL (trU T1 P i nP 1))]) (Pick.perm (by repeat (first | exact Pick.hd | apply Pick.tl))) rfl (fun w hw => by
                          exact refSorted_any q1.symm (by omega) (hw.holds (.own (Y 1) (R (3 * i + 1)).length (E 1) 3 1 (iL (trU T1 P i nP 1))) (by simp))) ?_
                      intro _
                      refine TL.nil ?_
                      refine TQ.nxt (hX5 _ _ (by repeat (first | exact HasL.nil | refine HasL.cons (by repeat (first | exact Pick.hd | apply Pick.tl)) ?_)) ?_)
                      refine RG.a1 8 rfl (fun X8 hX8 => ?_)
                      refine TL.call rfl (enters Tryz.func58 rfl rfl) (M := [.own (Y 2) (R (3 * i + 2)).length (E 2) 3 1 (iL (trU T1 P i nP 2))]) (Pick.perm (by repeat (first | exact Pick.hd | apply Pick.tl))) rfl (fun w hw => by
                          exact refSorted_any q2.symm (by omega) (hw.holds (.own (Y 2) (R (3 * i + 2)).length (E 2) 3 1 (iL (trU T1 P i nP 2))) (by simp))) ?_
                      intro _
                      refine TL.nil ?_
                      refine TQ.nxt (hX8 _ _ (by repeat (first | exact HasL.nil | refine HasL.cons (by repeat (first | exact Pick.hd | apply Pick.tl)) ?_)) ?_)
                      refine RG.a1 10 rfl (fun X10 hX10 => ?_)
                      first | refine TL.st ty_sz24 ?_ | refine TL.se ty_sz24 ?_
                      refine TL.nil ?_
                      refine TQ.nxt (hX10 _ _ (by repeat (first | exact HasL.nil | refine HasL.cons (by repeat (first | exact Pick.hd | apply Pick.tl)) ?_)) ?_)
                      refine RG.tk 11 rfl (by first | exact Pu.fb ty_fa36_1 | exact Pu.fe ty_fa36_1) ?_
                      refine RG.a1 12 rfl (fun X12 hX12 => ?_)
                      first | refine TL.st ty_sz24 ?_ | refine TL.se ty_sz24 ?_
                      refine TL.nil ?_
                      refine TQ.nxt (hX12 _ _ (by repeat (first | exact HasL.nil | refine HasL.cons (by repeat (first | exact Pick.hd | apply Pick.tl)) ?_)) ?_)
                      refine RG.tk 13 rfl (by first | exact Pu.fb ty_fa36_2 | exact Pu.fe ty_fa36_2) ?_
                      refine RG.a1 14 rfl (fun X14 hX14 => ?_)
                      first | refine TL.st ty_sz24 ?_ | refine TL.se ty_sz24 ?_
                      refine TL.nil ?_
                      refine TQ.nxt (hX14 _ _ (by repeat (first | exact HasL.nil | refine HasL.cons (by repeat (first | exact Pick.hd | apply Pick.tl)) ?_)) ?_)
                      exact RG.nil (TQ.sub (by repeat (first | exact trivial | refine ⟨rfl, ?_⟩ | refine ⟨trivial, ?_⟩)) (by repeat (first | exact KSub.nil | refine KSub.cons (by repeat (first | exact Pick.hd | apply Pick.tl)) ?_ | exact KSub.refl _ | refine KSub.drop ?_)) (hE ⟨⟩)) (by kernel_rfl)
                  · refine TL.p (Pu.ld ty_sc24) ?_
                    refine TL.nil ?_
                    refine TQ.nxt (hX7 _ _ (by repeat (first | exact HasL.nil | refine HasL.cons (by repeat (first | exact Pick.hd | apply Pick.tl)) ?_)) ?_)
                    refine RG.a1 2 rfl (fun X2 hX2 => ?_)
                    refine TL.call rfl (enters Tryz.func58 rfl rfl) (M := [.own (Y 0) (R (3 * i)).length (E 0) 3 1 (iL (trU T1 P i nP 0))]) (Pick.perm (by repeat (first | exact Pick.hd | apply Pick.tl))) rfl (fun w hw => by
                        exact refSorted_any q0.symm (by omega) (hw.holds (.own (Y 0) (R (3 * i)).length (E 0) 3 1 (iL (trU T1 P i nP 0))) (by simp))) ?_
                    intro _
                    refine TL.nil ?_
                    refine TQ.nxt (hX2 _ _ (by repeat (first | exact HasL.nil | refine HasL.cons (by repeat (first | exact Pick.hd | apply Pick.tl)) ?_)) ?_)
                    refine RG.tk 9 rfl (by first | exact Pu.fb ty_fa36_0 | exact Pu.fe ty_fa36_0) ?_
                    refine RG.a1 5 rfl (fun X5 hX5 => ?_)
                    refine TL.call rfl (enters Tryz.func58 rfl rfl) (M := [.own (Y 1) (R (3 * i + 1)).length (E 1) 3 1 (iL (trU T1 P i nP 1))]) (Pick.perm (by repeat (first | exact Pick.hd | apply Pick.tl))) rfl (fun w hw => by
                        exact refSorted_any q1.symm (by omega) (hw.holds (.own (Y 1) (R (3 * i + 1)).length (E 1) 3 1 (iL (trU T1 P i nP 1))) (by simp))) ?_
                    intro _
                    refine TL.nil ?_
                    refine TQ.nxt (hX5 _ _ (by repeat (first | exact HasL.nil | refine HasL.cons (by repeat (first | exact Pick.hd | apply Pick.tl)) ?_)) ?_)
                    refine RG.a1 8 rfl (fun X8 hX8 => ?_)
                    refine TL.call rfl (enters Tryz.func58 rfl rfl) (M := [.own (Y 2) (R (3 * i + 2)).length (E 2) 3 1 (iL (trU T1 P i nP 2))]) (Pick.perm (by repeat (first | exact Pick.hd | apply Pick.tl))) rfl (fun w hw => by
                        exact refSorted_any q2.symm (by omega) (hw.holds (.own (Y 2) (R (3 * i + 2)).length (E 2) 3 1 (iL (trU T1 P i nP 2))) (by simp))) ?_
                    intro _
                    refine TL.nil ?_
                    refine TQ.nxt (hX8 _ _ (by repeat (first | exact HasL.nil | refine HasL.cons (by repeat (first | exact Pick.hd | apply Pick.tl)) ?_)) ?_)
                    refine RG.a1 10 rfl (fun X10 hX10 => ?_)
                    first | refine TL.st ty_sz24 ?_ | refine TL.se ty_sz24 ?_
                    refine TL.nil ?_
                    refine TQ.nxt (hX10 _ _ (by repeat (first | exact HasL.nil | refine HasL.cons (by repeat (first | exact Pick.hd | apply Pick.tl)) ?_)) ?_)
                    refine RG.tk 11 rfl (by first | exact Pu.fb ty_fa36_1 | exact Pu.fe ty_fa36_1) ?_
                    refine RG.a1 12 rfl (fun X12 hX12 => ?_)
                    first | refine TL.st ty_sz24 ?_ | refine TL.se ty_sz24 ?_
                    refine TL.nil ?_
                    refine TQ.nxt (hX12 _ _ (by repeat (first | exact HasL.nil | refine HasL.cons (by repeat (first | exact Pick.hd | apply Pick.tl)) ?_)) ?_)
                    refine RG.tk 13 rfl (by first | exact Pu.fb ty_fa36_2 | exact Pu.fe ty_fa36_2) ?_
                    refine RG.a1 14 rfl (fun X14 hX14 => ?_)
                    first | refine TL.st ty_sz24 ?_ | refine TL.se ty_sz24 ?_
                    refine TL.nil ?_
                    refine TQ.nxt (hX14 _ _ (by repeat (first | exact HasL.nil | refine HasL.cons (by repeat (first | exact Pick.hd | apply Pick.tl)) ?_)) ?_)
                    exact RG.nil (TQ.sub (by repeat (first | exact trivial | refine ⟨rfl, ?_⟩ | refine ⟨trivial, ?_⟩)) (by repeat (first | exact KSub.nil | refine KSub.cons (by repeat (first | exact Pick.hd | apply Pick.tl)) ?_ | exact KSub.refl _ | refine KSub.drop ?_)) (hE ⟨⟩)) (by kernel_rfl)
                · refine TL.p (Pu.ld ty_sc24) ?_
                  refine TL.nil ?_
                  refine TQ.nxt (hX7 _ _ (by repeat (first | exact HasL.nil | refine HasL.cons (by repeat (first | exact Pick.hd | apply Pick.tl)) ?_)) ?_)
                  refine RG.a2 2 4 rfl rfl (fun X2 hX2 => ?_) (fun X4 hX4 => ?_)
                  · refine TL.call rfl (enters Tryz.func58 rfl rfl) (M := [.own (Y 0) (R (3 * i)).length (E 0) 3 1 (iL (trU T1 P i nP 0))]) (Pick.perm (by repeat (first | exact Pick.hd | apply Pick.tl))) rfl (fun w hw => by
                        exact refSorted_any q0.symm (by omega) (hw.holds (.own (Y 0) (R (3 * i)).length (E 0) 3 1 (iL (trU T1 P i nP 0))) (by simp))) ?_
                    intro _
                    refine TL.nil ?_
                    refine TQ.nxt (hX2 _ _ (by repeat (first | exact HasL.nil | refine HasL.cons (by repeat (first | exact Pick.hd | apply Pick.tl)) ?_)) ?_)
                    refine RG.a1 4 rfl (fun X4 hX4 => ?_)
                    refine TL.p (Pu.ld ty_sc24) ?_
                    refine TL.nil ?_
                    refine TQ.nxt (hX4 _ _ (by repeat (first | exact HasL.nil | refine HasL.cons (by repeat (first | exact Pick.hd | apply Pick.tl)) ?_)) ?_)
                    refine RG.tk 9 rfl (by first | exact Pu.fb ty_fa36_0 | exact Pu.fe ty_fa36_0) ?_
                    refine RG.a1 5 rfl (fun X5 hX5 => ?_)
                    refine TL.call rfl (enters Tryz.func58 rfl rfl) (M := [.own (Y 1) (R (3 * i + 1)).length (E 1) 3 1 (iL (trU T1 P i nP 1))]) (Pick.perm (by repeat (first | exact Pick.hd | apply Pick.tl))) rfl (fun w hw => by
                        exact refSorted_any q1.symm (by omega) (hw.holds (.own (Y 1) (R (3 * i + 1)).length (E 1) 3 1 (iL (trU T1 P i nP 1))) (by simp))) ?_
                    intro _
                    refine TL.nil ?_
                    refine TQ.nxt (hX5 _ _ (by repeat (first | exact HasL.nil | refine HasL.cons (by repeat (first | exact Pick.hd | apply Pick.tl)) ?_)) ?_)
                    refine RG.a1 8 rfl (fun X8 hX8 => ?_)
                    refine TL.call rfl (enters Tryz.func58 rfl rfl) (M := [.own (Y 2) (R (3 * i + 2)).length (E 2) 3 1 (iL (trU T1 P i nP 2))]) (Pick.perm (by repeat (first | exact Pick.hd | apply Pick.tl))) rfl (fun w hw => by
                        exact refSorted_any q2.symm (by omega) (hw.holds (.own (Y 2) (R (3 * i + 2)).length (E 2) 3 1 (iL (trU T1 P i nP 2))) (by simp))) ?_
                    intro _
                    refine TL.nil ?_
                    refine TQ.nxt (hX8 _ _ (by repeat (first | exact HasL.nil | refine HasL.cons (by repeat (first | exact Pick.hd | apply Pick.tl)) ?_)) ?_)
                    refine RG.a1 10 rfl (fun X10 hX10 => ?_)
                    first | refine TL.st ty_sz24 ?_ | refine TL.se ty_sz24 ?_
                    refine TL.nil ?_
                    refine TQ.nxt (hX10 _ _ (by repeat (first | exact HasL.nil | refine HasL.cons (by repeat (first | exact Pick.hd | apply Pick.tl)) ?_)) ?_)
                    refine RG.tk 11 rfl (by first | exact Pu.fb ty_fa36_1 | exact Pu.fe ty_fa36_1) ?_
                    refine RG.a1 12 rfl (fun X12 hX12 => ?_)
                    first | refine TL.st ty_sz24 ?_ | refine TL.se ty_sz24 ?_
                    refine TL.nil ?_
                    refine TQ.nxt (hX12 _ _ (by repeat (first | exact HasL.nil | refine HasL.cons (by repeat (first | exact Pick.hd | apply Pick.tl)) ?_)) ?_)
                    refine RG.tk 13 rfl (by first | exact Pu.fb ty_fa36_2 | exact Pu.fe ty_fa36_2) ?_
                    refine RG.a1 14 rfl (fun X14 hX14 => ?_)
                    first | refine TL.st ty_sz24 ?_ | refine TL.se ty_sz24 ?_
                    refine TL.nil ?_
                    refine TQ.nxt (hX14 _ _ (by repeat (first | exact HasL.nil | refine HasL.cons (by repeat (first | exact Pick.hd | apply Pick.tl)) ?_)) ?_)
                    exact RG.nil (TQ.sub (by repeat (first | exact trivial | refine ⟨rfl, ?_⟩ | refine ⟨trivial, ?_⟩)) (by repeat (first | exact KSub.nil | refine KSub.cons (by repeat (first | exact Pick.hd | apply Pick.tl)) ?_ | exact KSub.refl _ | refine KSub.drop ?_)) (hE ⟨⟩)) (by kernel_rfl)
                  · refine TL.p (Pu.ld ty_sc24) ?_
                    refine TL.nil ?_
                    refine TQ.nxt (hX4 _ _ (by repeat (first | exact HasL.nil | refine HasL.cons (by repeat (first | exact Pick.hd | apply Pick.tl)) ?_)) ?_)
                    refine RG.a1 2 rfl (fun X2 hX2 => ?_)
                    refine TL.call rfl (enters Tryz.func58 rfl rfl) (M := [.own (Y 0) (R (3 * i)).length (E 0) 3 1 (iL (trU T1 P i nP 0))]) (Pick.perm (by repeat (first | exact Pick.hd | apply Pick.tl))) rfl (fun w hw => by
                        exact refSorted_any q0.symm (by omega) (hw.holds (.own (Y 0) (R (3 * i)).length (E 0) 3 1 (iL (trU T1 P i nP 0))) (by simp))) ?_
                    intro _
                    refine TL.nil ?_
                    refine TQ.nxt (hX2 _ _ (by repeat (first | exact HasL.nil | refine HasL.cons (by repeat (first | exact Pick.hd | apply Pick.tl)) ?_)) ?_)
                    refine RG.tk 9 rfl (by first | exact Pu.fb ty_fa36_0 | exact Pu.fe ty_fa36_0) ?_
                    refine RG.a1 5 rfl (fun X5 hX5 => ?_)
                    refine TL.call rfl (enters Tryz.func58 rfl rfl) (M := [.own (Y 1) (R (3 * i + 1)).length (E 1) 3 1 (iL (trU T1 P i nP 1))]) (Pick.perm (by repeat (first | exact Pick.hd | apply Pick.tl))) rfl (fun w hw => by
                        exact refSorted_any q1.symm (by omega) (hw.holds (.own (Y 1) (R (3 * i + 1)).length (E 1) 3 1 (iL (trU T1 P i nP 1))) (by simp))) ?_
                    intro _
                    refine TL.nil ?_
                    refine TQ.nxt (hX5 _ _ (by repeat (first | exact HasL.nil | refine HasL.cons (by repeat (first | exact Pick.hd | apply Pick.tl)) ?_)) ?_)
                    refine RG.a1 8 rfl (fun X8 hX8 => ?_)
                    refine TL.call rfl (enters Tryz.func58 rfl rfl) (M := [.own (Y 2) (R (3 * i + 2)).length (E 2) 3 1 (iL (trU T1 P i nP 2))]) (Pick.perm (by repeat (first | exact Pick.hd | apply Pick.tl))) rfl (fun w hw => by
                        exact refSorted_any q2.symm (by omega) (hw.holds (.own (Y 2) (R (3 * i + 2)).length (E 2) 3 1 (iL (trU T1 P i nP 2))) (by simp))) ?_
                    intro _
                    refine TL.nil ?_
                    refine TQ.nxt (hX8 _ _ (by repeat (first | exact HasL.nil | refine HasL.cons (by repeat (first | exact Pick.hd | apply Pick.tl)) ?_)) ?_)
                    refine RG.a1 10 rfl (fun X10 hX10 => ?_)
                    first | refine TL.st ty_sz24 ?_ | refine TL.se ty_sz24 ?_
                    refine TL.nil ?_
                    refine TQ.nxt (hX10 _ _ (by repeat (first | exact HasL.nil | refine HasL.cons (by repeat (first | exact Pick.hd | apply Pick.tl)) ?_)) ?_)
                    refine RG.tk 11 rfl (by first | exact Pu.fb ty_fa36_1 | exact Pu.fe ty_fa36_1) ?_
                    refine RG.a1 12 rfl (fun X12 hX12 => ?_)
                    first | refine TL.st ty_sz24 ?_ | refine TL.se ty_sz24 ?_
                    refine TL.nil ?_
                    refine TQ.nxt (hX12 _ _ (by repeat (first | exact HasL.nil | refine HasL.cons (by repeat (first | exact Pick.hd | apply Pick.tl)) ?_)) ?_)
                    refine RG.tk 13 rfl (by first | exact Pu.fb ty_fa36_2 | exact Pu.fe ty_fa36_2) ?_
                    refine RG.a1 14 rfl (fun X14 hX14 => ?_)
                    first | refine TL.st ty_sz24 ?_ | refine TL.se ty_sz24 ?_
                    refine TL.nil ?_
                    refine TQ.nxt (hX14 _ _ (by repeat (first | exact HasL.nil | refine HasL.cons (by repeat (first | exact Pick.hd | apply Pick.tl)) ?_)) ?_)
                    exact RG.nil (TQ.sub (by repeat (first | exact trivial | refine ⟨rfl, ?_⟩ | refine ⟨trivial, ?_⟩)) (by repeat (first | exact KSub.nil | refine KSub.cons (by repeat (first | exact Pick.hd | apply Pick.tl)) ?_ | exact KSub.refl _ | refine KSub.drop ?_)) (hE ⟨⟩)) (by kernel_rfl)
              · refine TL.p (Pu.ld ty_sc24) ?_
                refine TL.nil ?_
                refine TQ.nxt (hX4 _ _ (by repeat (first | exact HasL.nil | refine HasL.cons (by repeat (first | exact Pick.hd | apply Pick.tl)) ?_)) ?_)
                refine RG.a2 1 7 rfl rfl (fun X1 hX1 => ?_) (fun X7 hX7 => ?_)
                · refine TL.p (Pu.ld ty_sc24) ?_
                  refine TL.nil ?_
                  refine TQ.nxt (hX1 _ _ (by repeat (first | exact HasL.nil | refine HasL.cons (by repeat (first | exact Pick.hd | apply Pick.tl)) ?_)) ?_)
                  refine RG.a2 2 7 rfl rfl (fun X2 hX2 => ?_) (fun X7 hX7 => ?_)
                  · refine TL.call rfl (enters Tryz.func58 rfl rfl) (M := [.own (Y 0) (R (3 * i)).length (E 0) 3 1 (iL (trU T1 P i nP 0))]) (Pick.perm (by repeat (first | exact Pick.hd | apply Pick.tl))) rfl (fun w hw => by
                        exact refSorted_any q0.symm (by omega) (hw.holds (.own (Y 0) (R (3 * i)).length (E 0) 3 1 (iL (trU T1 P i nP 0))) (by simp))) ?_
                    intro _
                    refine TL.nil ?_
                    refine TQ.nxt (hX2 _ _ (by repeat (first | exact HasL.nil | refine HasL.cons (by repeat (first | exact Pick.hd | apply Pick.tl)) ?_)) ?_)
                    refine RG.a2 5 7 rfl rfl (fun X5 hX5 => ?_) (fun X7 hX7 => ?_)
                    · refine TL.call rfl (enters Tryz.func58 rfl rfl) (M := [.own (Y 1) (R (3 * i + 1)).length (E 1) 3 1 (iL (trU T1 P i nP 1))]) (Pick.perm (by repeat (first | exact Pick.hd | apply Pick.tl))) rfl (fun w hw => by
                          exact refSorted_any q1.symm (by omega) (hw.holds (.own (Y 1) (R (3 * i + 1)).length (E 1) 3 1 (iL (trU T1 P i nP 1))) (by simp))) ?_
                      intro _
                      refine TL.nil ?_
                      refine TQ.nxt (hX5 _ _ (by repeat (first | exact HasL.nil | refine HasL.cons (by repeat (first | exact Pick.hd | apply Pick.tl)) ?_)) ?_)
                      refine RG.a1 7 rfl (fun X7 hX7 => ?_)
                      refine TL.p (Pu.ld ty_sc24) ?_
                      refine TL.nil ?_
                      refine TQ.nxt (hX7 _ _ (by repeat (first | exact HasL.nil | refine HasL.cons (by repeat (first | exact Pick.hd | apply Pick.tl)) ?_)) ?_)
                      refine RG.tk 9 rfl (by first | exact Pu.fb ty_fa36_0 | exact Pu.fe ty_fa36_0) ?_
                      refine RG.a1 8 rfl (fun X8 hX8 => ?_)
                      refine TL.call rfl (enters Tryz.func58 rfl rfl) (M := [.own (Y 2) (R (3 * i + 2)).length (E 2) 3 1 (iL (trU T1 P i nP 2))]) (Pick.perm (by repeat (first | exact Pick.hd | apply Pick.tl))) rfl (fun w hw => by
                          exact refSorted_any q2.symm (by omega) (hw.holds (.own (Y 2) (R (3 * i + 2)).length (E 2) 3 1 (iL (trU T1 P i nP 2))) (by simp))) ?_
                      intro _
                      refine TL.nil ?_
                      refine TQ.nxt (hX8 _ _ (by repeat (first | exact HasL.nil | refine HasL.cons (by repeat (first | exact Pick.hd | apply Pick.tl)) ?_)) ?_)
                      refine RG.a1 10 rfl (fun X10 hX10 => ?_)
                      first | refine TL.st ty_sz24 ?_ | refine TL.se ty_sz24 ?_
                      refine TL.nil ?_
                      refine TQ.nxt (hX10 _ _ (by repeat (first | exact HasL.nil | refine HasL.cons (by repeat (first | exact Pick.hd | apply Pick.tl)) ?_)) ?_)
                      refine RG.tk 11 rfl (by first | exact Pu.fb ty_fa36_1 | exact Pu.fe ty_fa36_1) ?_
                      refine RG.a1 12 rfl (fun X12 hX12 => ?_)
                      first | refine TL.st ty_sz24 ?_ | refine TL.se ty_sz24 ?_
                      refine TL.nil ?_
                      refine TQ.nxt (hX12 _ _ (by repeat (first | exact HasL.nil | refine HasL.cons (by repeat (first | exact Pick.hd | apply Pick.tl)) ?_)) ?_)
                      refine RG.tk 13 rfl (by first | exact Pu.fb ty_fa36_2 | exact Pu.fe ty_fa36_2) ?_
                      refine RG.a1 14 rfl (fun X14 hX14 => ?_)
                      first | refine TL.st ty_sz24 ?_ | refine TL.se ty_sz24 ?_
                      refine TL.nil ?_
                      refine TQ.nxt (hX14 _ _ (by repeat (first | exact HasL.nil | refine HasL.cons (by repeat (first | exact Pick.hd | apply Pick.tl)) ?_)) ?_)
                      exact RG.nil (TQ.sub (by repeat (first | exact trivial | refine ⟨rfl, ?_⟩ | refine ⟨trivial, ?_⟩)) (by repeat (first | exact KSub.nil | refine KSub.cons (by repeat (first | exact Pick.hd | apply Pick.tl)) ?_ | exact KSub.refl _ | refine KSub.drop ?_)) (hE ⟨⟩)) (by kernel_rfl)
                    · refine TL.p (Pu.ld ty_sc24) ?_
                      refine TL.nil ?_
                      refine TQ.nxt (hX7 _ _ (by repeat (first | exact HasL.nil | refine HasL.cons (by repeat (first | exact Pick.hd | apply Pick.tl)) ?_)) ?_)
                      refine RG.tk 9 rfl (by first | exact Pu.fb ty_fa36_0 | exact Pu.fe ty_fa36_0) ?_
                      refine RG.a1 5 rfl (fun X5 hX5 => ?_)
                      refine TL.call rfl (enters Tryz.func58 rfl rfl) (M := [.own (Y 1) (R (3 * i + 1)).length (E 1) 3 1 (iL (trU T1 P i nP 1))]) (Pick.perm (by repeat (first | exact Pick.hd | apply Pick.tl))) rfl (fun w hw => by
                          exact refSorted_any q1.symm (by omega) (hw.holds (.own (Y 1) (R (3 * i + 1)).length (E 1) 3 1 (iL (trU T1 P i nP 1))) (by simp))) ?_
                      intro _
                      refine TL.nil ?_
                      refine TQ.nxt (hX5 _ _ (by repeat (first | exact HasL.nil | refine HasL.cons (by repeat (first | exact Pick.hd | apply Pick.tl)) ?_)) ?_)
                      refine RG.a1 8 rfl (fun X8 hX8 => ?_)
                      refine TL.call rfl (enters Tryz.func58 rfl rfl) (M := [.own (Y 2) (R (3 * i + 2)).length (E 2) 3 1 (iL (trU T1 P i nP 2))]) (Pick.perm (by repeat (first | exact Pick.hd | apply Pick.tl))) rfl (fun w hw => by
                          exact refSorted_any q2.symm (by omega) (hw.holds (.own (Y 2) (R (3 * i + 2)).length (E 2) 3 1 (iL (trU T1 P i nP 2))) (by simp))) ?_
                      intro _
                      refine TL.nil ?_
                      refine TQ.nxt (hX8 _ _ (by repeat (first | exact HasL.nil | refine HasL.cons (by repeat (first | exact Pick.hd | apply Pick.tl)) ?_)) ?_)
                      refine RG.a1 10 rfl (fun X10 hX10 => ?_)
                      first | refine TL.st ty_sz24 ?_ | refine TL.se ty_sz24 ?_
                      refine TL.nil ?_
                      refine TQ.nxt (hX10 _ _ (by repeat (first | exact HasL.nil | refine HasL.cons (by repeat (first | exact Pick.hd | apply Pick.tl)) ?_)) ?_)
                      refine RG.tk 11 rfl (by first | exact Pu.fb ty_fa36_1 | exact Pu.fe ty_fa36_1) ?_
                      refine RG.a1 12 rfl (fun X12 hX12 => ?_)
                      first | refine TL.st ty_sz24 ?_ | refine TL.se ty_sz24 ?_
                      refine TL.nil ?_
                      refine TQ.nxt (hX12 _ _ (by repeat (first | exact HasL.nil | refine HasL.cons (by repeat (first | exact Pick.hd | apply Pick.tl)) ?_)) ?_)
                      refine RG.tk 13 rfl (by first | exact Pu.fb ty_fa36_2 | exact Pu.fe ty_fa36_2) ?_
                      refine RG.a1 14 rfl (fun X14 hX14 => ?_)
                      first | refine TL.st ty_sz24 ?_ | refine TL.se ty_sz24 ?_
                      refine TL.nil ?_
                      refine TQ.nxt (hX14 _ _ (by repeat (first | exact HasL.nil | refine HasL.cons (by repeat (first | exact Pick.hd | apply Pick.tl)) ?_)) ?_)
                      exact RG.nil (TQ.sub (by repeat (first | exact trivial | refine ⟨rfl, ?_⟩ | refine ⟨trivial, ?_⟩)) (by repeat (first | exact KSub.nil | refine KSub.cons (by repeat (first | exact Pick.hd | apply Pick.tl)) ?_ | exact KSub.refl _ | refine KSub.drop ?_)) (hE ⟨⟩)) (by kernel_rfl)
                  · refine TL.p (Pu.ld ty_sc24) ?_
                    refine TL.nil ?_
                    refine TQ.nxt (hX7 _ _ (by repeat (first | exact HasL.nil | refine HasL.cons (by repeat (first | exact Pick.hd | apply Pick.tl)) ?_)) ?_)
                    refine RG.a1 2 rfl (fun X2 hX2 => ?_)
                    refine TL.call rfl (enters Tryz.func58 rfl rfl) (M := [.own (Y 0) (R (3 * i)).length (E 0) 3 1 (iL (trU T1 P i nP 0))]) (Pick.perm (by repeat (first | exact Pick.hd | apply Pick.tl))) rfl (fun w hw => by
                        exact refSorted_any q0.symm (by omega) (hw.holds (.own (Y 0) (R (3 * i)).length (E 0) 3 1 (iL (trU T1 P i nP 0))) (by simp))) ?_
                    intro _
                    refine TL.nil ?_
                    refine TQ.nxt (hX2 _ _ (by repeat (first | exact HasL.nil | refine HasL.cons (by repeat (first | exact Pick.hd | apply Pick.tl)) ?_)) ?_)
                    refine RG.tk 9 rfl (by first | exact Pu.fb ty_fa36_0 | exact Pu.fe ty_fa36_0) ?_
                    refine RG.a1 5 rfl (fun X5 hX5 => ?_)
                    refine TL.call rfl (enters Tryz.func58 rfl rfl) (M := [.own (Y 1) (R (3 * i + 1)).length (E 1) 3 1 (iL (trU T1 P i nP 1))]) (Pick.perm (by repeat (first | exact Pick.hd | apply Pick.tl))) rfl (fun w hw => by
                        exact refSorted_any q1.symm (by omega) (hw.holds (.own (Y 1) (R (3 * i + 1)).length (E 1) 3 1 (iL (trU T1 P i nP 1))) (by simp))) ?_
                    intro _
                    refine TL.nil ?_
                    refine TQ.nxt (hX5 _ _ (by repeat (first | exact HasL.nil | refine HasL.cons (by repeat (first | exact Pick.hd | apply Pick.tl)) ?_)) ?_)
                    refine RG.a1 8 rfl (fun X8 hX8 => ?_)
                    refine TL.call rfl (enters Tryz.func58 rfl rfl) (M := [.own (Y 2) (R (3 * i + 2)).length (E 2) 3 1 (iL (trU T1 P i nP 2))]) (Pick.perm (by repeat (first | exact Pick.hd | apply Pick.tl))) rfl (fun w hw => by
                        exact refSorted_any q2.symm (by omega) (hw.holds (.own (Y 2) (R (3 * i + 2)).length (E 2) 3 1 (iL (trU T1 P i nP 2))) (by simp))) ?_
                    intro _
                    refine TL.nil ?_
                    refine TQ.nxt (hX8 _ _ (by repeat (first | exact HasL.nil | refine HasL.cons (by repeat (first | exact Pick.hd | apply Pick.tl)) ?_)) ?_)
                    refine RG.a1 10 rfl (fun X10 hX10 => ?_)
                    first | refine TL.st ty_sz24 ?_ | refine TL.se ty_sz24 ?_
                    refine TL.nil ?_
                    refine TQ.nxt (hX10 _ _ (by repeat (first | exact HasL.nil | refine HasL.cons (by repeat (first | exact Pick.hd | apply Pick.tl)) ?_)) ?_)
                    refine RG.tk 11 rfl (by first | exact Pu.fb ty_fa36_1 | exact Pu.fe ty_fa36_1) ?_
                    refine RG.a1 12 rfl (fun X12 hX12 => ?_)
                    first | refine TL.st ty_sz24 ?_ | refine TL.se ty_sz24 ?_
                    refine TL.nil ?_
                    refine TQ.nxt (hX12 _ _ (by repeat (first | exact HasL.nil | refine HasL.cons (by repeat (first | exact Pick.hd | apply Pick.tl)) ?_)) ?_)
                    refine RG.tk 13 rfl (by first | exact Pu.fb ty_fa36_2 | exact Pu.fe ty_fa36_2) ?_
                    refine RG.a1 14 rfl (fun X14 hX14 => ?_)
                    first | refine TL.st ty_sz24 ?_ | refine TL.se ty_sz24 ?_
                    refine TL.nil ?_
                    refine TQ.nxt (hX14 _ _ (by repeat (first | exact HasL.nil | refine HasL.cons (by repeat (first | exact Pick.hd | apply Pick.tl)) ?_)) ?_)
                    exact RG.nil (TQ.sub (by repeat (first | exact trivial | refine ⟨rfl, ?_⟩ | refine ⟨trivial, ?_⟩)) (by repeat (first | exact KSub.nil | refine KSub.cons (by repeat (first | exact Pick.hd | apply Pick.tl)) ?_ | exact KSub.refl _ | refine KSub.drop ?_)) (hE ⟨⟩)) (by kernel_rfl)
                · refine TL.p (Pu.ld ty_sc24) ?_
                  refine TL.nil ?_
                  refine TQ.nxt (hX7 _ _ (by repeat (first | exact HasL.nil | refine HasL.cons (by repeat (first | exact Pick.hd | apply Pick.tl)) ?_)) ?_)
                  refine RG.a1 1 rfl (fun X1 hX1 => ?_)
                  refine TL.p (Pu.ld ty_sc24) ?_
                  refine TL.nil ?_
                  refine TQ.nxt (hX1 _ _ (by repeat (first | exact HasL.nil | refine HasL.cons (by repeat (first | exact Pick.hd | apply Pick.tl)) ?_)) ?_)
                  refine RG.a1 2 rfl (fun X2 hX2 => ?_)
                  refine TL.call rfl (enters Tryz.func58 rfl rfl) (M := [.own (Y 0) (R (3 * i)).length (E 0) 3 1 (iL (trU T1 P i nP 0))]) (Pick.perm (by repeat (first | exact Pick.hd | apply Pick.tl))) rfl (fun w hw => by
                      exact refSorted_any q0.symm (by omega) (hw.holds (.own (Y 0) (R (3 * i)).length (E 0) 3 1 (iL (trU T1 P i nP 0))) (by simp))) ?_
                  intro _
                  refine TL.nil ?_
                  refine TQ.nxt (hX2 _ _ (by repeat (first | exact HasL.nil | refine HasL.cons (by repeat (first | exact Pick.hd | apply Pick.tl)) ?_)) ?_)
                  refine RG.tk 9 rfl (by first | exact Pu.fb ty_fa36_0 | exact Pu.fe ty_fa36_0) ?_
                  refine RG.a1 5 rfl (fun X5 hX5 => ?_)
                  refine TL.call rfl (enters Tryz.func58 rfl rfl) (M := [.own (Y 1) (R (3 * i + 1)).length (E 1) 3 1 (iL (trU T1 P i nP 1))]) (Pick.perm (by repeat (first | exact Pick.hd | apply Pick.tl))) rfl (fun w hw => by
                      exact refSorted_any q1.symm (by omega) (hw.holds (.own (Y 1) (R (3 * i + 1)).length (E 1) 3 1 (iL (trU T1 P i nP 1))) (by simp))) ?_
                  intro _
                  refine TL.nil ?_
                  refine TQ.nxt (hX5 _ _ (by repeat (first | exact HasL.nil | refine HasL.cons (by repeat (first | exact Pick.hd | apply Pick.tl)) ?_)) ?_)
                  refine RG.a1 8 rfl (fun X8 hX8 => ?_)
                  refine TL.call rfl (enters Tryz.func58 rfl rfl) (M := [.own (Y 2) (R (3 * i + 2)).length (E 2) 3 1 (iL (trU T1 P i nP 2))]) (Pick.perm (by repeat (first | exact Pick.hd | apply Pick.tl))) rfl (fun w hw => by
                      exact refSorted_any q2.symm (by omega) (hw.holds (.own (Y 2) (R (3 * i + 2)).length (E 2) 3 1 (iL (trU T1 P i nP 2))) (by simp))) ?_
                  intro _
                  refine TL.nil ?_
                  refine TQ.nxt (hX8 _ _ (by repeat (first | exact HasL.nil | refine HasL.cons (by repeat (first | exact Pick.hd | apply Pick.tl)) ?_)) ?_)
                  refine RG.a1 10 rfl (fun X10 hX10 => ?_)
                  first | refine TL.st ty_sz24 ?_ | refine TL.se ty_sz24 ?_
                  refine TL.nil ?_
                  refine TQ.nxt (hX10 _ _ (by repeat (first | exact HasL.nil | refine HasL.cons (by repeat (first | exact Pick.hd | apply Pick.tl)) ?_)) ?_)
                  refine RG.tk 11 rfl (by first | exact Pu.fb ty_fa36_1 | exact Pu.fe ty_fa36_1) ?_
                  refine RG.a1 12 rfl (fun X12 hX12 => ?_)
                  first | refine TL.st ty_sz24 ?_ | refine TL.se ty_sz24 ?_
                  refine TL.nil ?_
                  refine TQ.nxt (hX12 _ _ (by repeat (first | exact HasL.nil | refine HasL.cons (by repeat (first | exact Pick.hd | apply Pick.tl)) ?_)) ?_)
                  refine RG.tk 13 rfl (by first | exact Pu.fb ty_fa36_2 | exact Pu.fe ty_fa36_2) ?_
                  refine RG.a1 14 rfl (fun X14 hX14 => ?_)
                  first | refine TL.st ty_sz24 ?_ | refine TL.se ty_sz24 ?_
                  refine TL.nil ?_
                  refine TQ.nxt (hX14 _ _ (by repeat (first | exact HasL.nil | refine HasL.cons (by repeat (first | exact Pick.hd | apply Pick.tl)) ?_)) ?_)
                  exact RG.nil (TQ.sub (by repeat (first | exact trivial | refine ⟨rfl, ?_⟩ | refine ⟨trivial, ?_⟩)) (by repeat (first | exact KSub.nil | refine KSub.cons (by repeat (first | exact Pick.hd | apply Pick.tl)) ?_ | exact KSub.refl _ | refine KSub.drop ?_)) (hE ⟨⟩)) (by kernel_rfl)
              · refine TL.p (Pu.ld ty_sc24) ?_
                refine TL.nil ?_
                refine TQ.nxt (hX7 _ _ (by repeat (first | exact HasL.nil | refine HasL.cons (by repeat (first | exact Pick.hd | apply Pick.tl)) ?_)) ?_)
                refine RG.a2 1 4 rfl rfl (fun X1 hX1 => ?_) (fun X4 hX4 => ?_)
                · refine TL.p (Pu.ld ty_sc24) ?_
                  refine TL.nil ?_
                  refine TQ.nxt (hX1 _ _ (by repeat (first | exact HasL.nil | refine HasL.cons (by repeat (first | exact Pick.hd | apply Pick.tl)) ?_)) ?_)
                  refine RG.a2 2 4 rfl rfl (fun X2 hX2 => ?_) (fun X4 hX4 => ?_)
                  · refine TL.call rfl (enters Tryz.func58 rfl rfl) (M := [.own (Y 0) (R (3 * i)).length (E 0) 3 1 (iL (trU T1 P i nP 0))]) (Pick.perm (by repeat (first | exact Pick.hd | apply Pick.tl))) rfl (fun w hw => by
                        exact refSorted_any q0.symm (by omega) (hw.holds (.own (Y 0) (R (3 * i)).length (E 0) 3 1 (iL (trU T1 P i nP 0))) (by simp))) ?_
                    intro _
                    refine TL.nil ?_
                    refine TQ.nxt (hX2 _ _ (by repeat (first | exact HasL.nil | refine HasL.cons (by repeat (first | exact Pick.hd | apply Pick.tl)) ?_)) ?_)
                    refine RG.a1 4 rfl (fun X4 hX4 => ?_)
                    refine TL.p (Pu.ld ty_sc24) ?_
                    refine TL.nil ?_
                    refine TQ.nxt (hX4 _ _ (by repeat (first | exact HasL.nil | refine HasL.cons (by repeat (first | exact Pick.hd | apply Pick.tl)) ?_)) ?_)
                    refine RG.tk 9 rfl (by first | exact Pu.fb ty_fa36_0 | exact Pu.fe ty_fa36_0) ?_
                    refine RG.a1 5 rfl (fun X5 hX5 => ?_)
                    refine TL.call rfl (enters Tryz.func58 rfl rfl) (M := [.own (Y 1) (R (3 * i + 1)).length (E 1) 3 1 (iL (trU T1 P i nP 1))]) (Pick.perm (by repeat (first | exact Pick.hd | apply Pick.tl))) rfl (fun w hw => by
                        exact refSorted_any q1.symm (by omega) (hw.holds (.own (Y 1) (R (3 * i + 1)).length (E 1) 3 1 (iL (trU T1 P i nP 1))) (by simp))) ?_
                    intro _
                    refine TL.nil ?_
                    refine TQ.nxt (hX5 _ _ (by repeat (first | exact HasL.nil | refine HasL.cons (by repeat (first | exact Pick.hd | apply Pick.tl)) ?_)) ?_)
                    refine RG.a1 8 rfl (fun X8 hX8 => ?_)
                    refine TL.call rfl (enters Tryz.func58 rfl rfl) (M := [.own (Y 2) (R (3 * i + 2)).length (E 2) 3 1 (iL (trU T1 P i nP 2))]) (Pick.perm (by repeat (first | exact Pick.hd | apply Pick.tl))) rfl (fun w hw => by
                        exact refSorted_any q2.symm (by omega) (hw.holds (.own (Y 2) (R (3 * i + 2)).length (E 2) 3 1 (iL (trU T1 P i nP 2))) (by simp))) ?_
                    intro _
                    refine TL.nil ?_
                    refine TQ.nxt (hX8 _ _ (by repeat (first | exact HasL.nil | refine HasL.cons (by repeat (first | exact Pick.hd | apply Pick.tl)) ?_)) ?_)
                    refine RG.a1 10 rfl (fun X10 hX10 => ?_)
                    first | refine TL.st ty_sz24 ?_ | refine TL.se ty_sz24 ?_
                    refine TL.nil ?_
                    refine TQ.nxt (hX10 _ _ (by repeat (first | exact HasL.nil | refine HasL.cons (by repeat (first | exact Pick.hd | apply Pick.tl)) ?_)) ?_)
                    refine RG.tk 11 rfl (by first | exact Pu.fb ty_fa36_1 | exact Pu.fe ty_fa36_1) ?_
                    refine RG.a1 12 rfl (fun X12 hX12 => ?_)
                    first | refine TL.st ty_sz24 ?_ | refine TL.se ty_sz24 ?_
                    refine TL.nil ?_
                    refine TQ.nxt (hX12 _ _ (by repeat (first | exact HasL.nil | refine HasL.cons (by repeat (first | exact Pick.hd | apply Pick.tl)) ?_)) ?_)
                    refine RG.tk 13 rfl (by first | exact Pu.fb ty_fa36_2 | exact Pu.fe ty_fa36_2) ?_
                    refine RG.a1 14 rfl (fun X14 hX14 => ?_)
                    first | refine TL.st ty_sz24 ?_ | refine TL.se ty_sz24 ?_
                    refine TL.nil ?_
                    refine TQ.nxt (hX14 _ _ (by repeat (first | exact HasL.nil | refine HasL.cons (by repeat (first | exact Pick.hd | apply Pick.tl)) ?_)) ?_)
                    exact RG.nil (TQ.sub (by repeat (first | exact trivial | refine ⟨rfl, ?_⟩ | refine ⟨trivial, ?_⟩)) (by repeat (first | exact KSub.nil | refine KSub.cons (by repeat (first | exact Pick.hd | apply Pick.tl)) ?_ | exact KSub.refl _ | refine KSub.drop ?_)) (hE ⟨⟩)) (by kernel_rfl)
                  · refine TL.p (Pu.ld ty_sc24) ?_
                    refine TL.nil ?_
                    refine TQ.nxt (hX4 _ _ (by repeat (first | exact HasL.nil | refine HasL.cons (by repeat (first | exact Pick.hd | apply Pick.tl)) ?_)) ?_)
                    refine RG.a1 2 rfl (fun X2 hX2 => ?_)
                    refine TL.call rfl (enters Tryz.func58 rfl rfl) (M := [.own (Y 0) (R (3 * i)).length (E 0) 3 1 (iL (trU T1 P i nP 0))]) (Pick.perm (by repeat (first | exact Pick.hd | apply Pick.tl))) rfl (fun w hw => by
                        exact refSorted_any q0.symm (by omega) (hw.holds (.own (Y 0) (R (3 * i)).length (E 0) 3 1 (iL (trU T1 P i nP 0))) (by simp))) ?_
                    intro _
                    refine TL.nil ?_
                    refine TQ.nxt (hX2 _ _ (by repeat (first | exact HasL.nil | refine HasL.cons (by repeat (first | exact Pick.hd | apply Pick.tl)) ?_)) ?_)
                    refine RG.tk 9 rfl (by first | exact Pu.fb ty_fa36_0 | exact Pu.fe ty_fa36_0) ?_
                    refine RG.a1 5 rfl (fun X5 hX5 => ?_)
                    refine TL.call rfl (enters Tryz.func58 rfl rfl) (M := [.own (Y 1) (R (3 * i + 1)).length (E 1) 3 1 (iL (trU T1 P i nP 1))]) (Pick.perm (by repeat (first | exact Pick.hd | apply Pick.tl))) rfl (fun w hw => by
                        exact refSorted_any q1.symm (by omega) (hw.holds (.own (Y 1) (R (3 * i + 1)).length (E 1) 3 1 (iL (trU T1 P i nP 1))) (by simp))) ?_
                    intro _
                    refine TL.nil ?_
                    refine TQ.nxt (hX5 _ _ (by repeat (first | exact HasL.nil | refine HasL.cons (by repeat (first | exact Pick.hd | apply Pick.tl)) ?_)) ?_)
                    refine RG.a1 8 rfl (fun X8 hX8 => ?_)
                    refine TL.call rfl (enters Tryz.func58 rfl rfl) (M := [.own (Y 2) (R (3 * i + 2)).length (E 2) 3 1 (iL (trU T1 P i nP 2))]) (Pick.perm (by repeat (first | exact Pick.hd | apply Pick.tl))) rfl (fun w hw => by
                        exact refSorted_any q2.symm (by omega) (hw.holds (.own (Y 2) (R (3 * i + 2)).length (E 2) 3 1 (iL (trU T1 P i nP 2))) (by simp))) ?_
                    intro _
                    refine TL.nil ?_
                    refine TQ.nxt (hX8 _ _ (by repeat (first | exact HasL.nil | refine HasL.cons (by repeat (first | exact Pick.hd | apply Pick.tl)) ?_)) ?_)
                    refine RG.a1 10 rfl (fun X10 hX10 => ?_)
                    first | refine TL.st ty_sz24 ?_ | refine TL.se ty_sz24 ?_
                    refine TL.nil ?_
                    refine TQ.nxt (hX10 _ _ (by repeat (first | exact HasL.nil | refine HasL.cons (by repeat (first | exact Pick.hd | apply Pick.tl)) ?_)) ?_)
                    refine RG.tk 11 rfl (by first | exact Pu.fb ty_fa36_1 | exact Pu.fe ty_fa36_1) ?_
                    refine RG.a1 12 rfl (fun X12 hX12 => ?_)
                    first | refine TL.st ty_sz24 ?_ | refine TL.se ty_sz24 ?_
                    refine TL.nil ?_
                    refine TQ.nxt (hX12 _ _ (by repeat (first | exact HasL.nil | refine HasL.cons (by repeat (first | exact Pick.hd | apply Pick.tl)) ?_)) ?_)
                    refine RG.tk 13 rfl (by first | exact Pu.fb ty_fa36_2 | exact Pu.fe ty_fa36_2) ?_
                    refine RG.a1 14 rfl (fun X14 hX14 => ?_)
                    first | refine TL.st ty_sz24 ?_ | refine TL.se ty_sz24 ?_
                    refine TL.nil ?_
                    refine TQ.nxt (hX14 _ _ (by repeat (first | exact HasL.nil | refine HasL.cons (by repeat (first | exact Pick.hd | apply Pick.tl)) ?_)) ?_)
                    exact RG.nil (TQ.sub (by repeat (first | exact trivial | refine ⟨rfl, ?_⟩ | refine ⟨trivial, ?_⟩)) (by repeat (first | exact KSub.nil | refine KSub.cons (by repeat (first | exact Pick.hd | apply Pick.tl)) ?_ | exact KSub.refl _ | refine KSub.drop ?_)) (hE ⟨⟩)) (by kernel_rfl)
                · refine TL.p (Pu.ld ty_sc24) ?_
                  refine TL.nil ?_
                  refine TQ.nxt (hX4 _ _ (by repeat (first | exact HasL.nil | refine HasL.cons (by repeat (first | exact Pick.hd | apply Pick.tl)) ?_)) ?_)
                  refine RG.a1 1 rfl (fun X1 hX1 => ?_)
                  refine TL.p (Pu.ld ty_sc24) ?_
                  refine TL.nil ?_
                  refine TQ.nxt (hX1 _ _ (by repeat (first | exact HasL.nil | refine HasL.cons (by repeat (first | exact Pick.hd | apply Pick.tl)) ?_)) ?_)
                  refine RG.a1 2 rfl (fun X2 hX2 => ?_)
                  refine TL.call rfl (enters Tryz.func58 rfl rfl) (M := [.own (Y 0) (R (3 * i)).length (E 0) 3 1 (iL (trU T1 P i nP 0))]) (Pick.perm (by repeat (first | exact Pick.hd | apply Pick.tl))) rfl (fun w hw => by
                      exact refSorted_any q0.symm (by omega) (hw.holds (.own (Y 0) (R (3 * i)).length (E 0) 3 1 (iL (trU T1 P i nP 0))) (by simp))) ?_
                  intro _
                  refine TL.nil ?_
                  refine TQ.nxt (hX2 _ _ (by repeat (first | exact HasL.nil | refine HasL.cons (by repeat (first | exact Pick.hd | apply Pick.tl)) ?_)) ?_)
                  refine RG.tk 9 rfl (by first | exact Pu.fb ty_fa36_0 | exact Pu.fe ty_fa36_0) ?_
                  refine RG.a1 5 rfl (fun X5 hX5 => ?_)
                  refine TL.call rfl (enters Tryz.func58 rfl rfl) (M := [.own (Y 1) (R (3 * i + 1)).length (E 1) 3 1 (iL (trU T1 P i nP 1))]) (Pick.perm (by repeat (first | exact Pick.hd | apply Pick.tl))) rfl (fun w hw => by
                      exact refSorted_any q1.symm (by omega) (hw.holds (.own (Y 1) (R (3 * i + 1)).length (E 1) 3 1 (iL (trU T1 P i nP 1))) (by simp))) ?_
                  intro _
                  refine TL.nil ?_
                  refine TQ.nxt (hX5 _ _ (by repeat (first | exact HasL.nil | refine HasL.cons (by repeat (first | exact Pick.hd | apply Pick.tl)) ?_)) ?_)
                  refine RG.a1 8 rfl (fun X8 hX8 => ?_)
                  refine TL.call rfl (enters Tryz.func58 rfl rfl) (M := [.own (Y 2) (R (3 * i + 2)).length (E 2) 3 1 (iL (trU T1 P i nP 2))]) (Pick.perm (by repeat (first | exact Pick.hd | apply Pick.tl))) rfl (fun w hw => by
                      exact refSorted_any q2.symm (by omega) (hw.holds (.own (Y 2) (R (3 * i + 2)).length (E 2) 3 1 (iL (trU T1 P i nP 2))) (by simp))) ?_
                  intro _
                  refine TL.nil ?_
                  refine TQ.nxt (hX8 _ _ (by repeat (first | exact HasL.nil | refine HasL.cons (by repeat (first | exact Pick.hd | apply Pick.tl)) ?_)) ?_)
                  refine RG.a1 10 rfl (fun X10 hX10 => ?_)
                  first | refine TL.st ty_sz24 ?_ | refine TL.se ty_sz24 ?_
                  refine TL.nil ?_
                  refine TQ.nxt (hX10 _ _ (by repeat (first | exact HasL.nil | refine HasL.cons (by repeat (first | exact Pick.hd | apply Pick.tl)) ?_)) ?_)
                  refine RG.tk 11 rfl (by first | exact Pu.fb ty_fa36_1 | exact Pu.fe ty_fa36_1) ?_
                  refine RG.a1 12 rfl (fun X12 hX12 => ?_)
                  first | refine TL.st ty_sz24 ?_ | refine TL.se ty_sz24 ?_
                  refine TL.nil ?_
                  refine TQ.nxt (hX12 _ _ (by repeat (first | exact HasL.nil | refine HasL.cons (by repeat (first | exact Pick.hd | apply Pick.tl)) ?_)) ?_)
                  refine RG.tk 13 rfl (by first | exact Pu.fb ty_fa36_2 | exact Pu.fe ty_fa36_2) ?_
                  refine RG.a1 14 rfl (fun X14 hX14 => ?_)
                  first | refine TL.st ty_sz24 ?_ | refine TL.se ty_sz24 ?_
                  refine TL.nil ?_
                  refine TQ.nxt (hX14 _ _ (by repeat (first | exact HasL.nil | refine HasL.cons (by repeat (first | exact Pick.hd | apply Pick.tl)) ?_)) ?_)
                  exact RG.nil (TQ.sub (by repeat (first | exact trivial | refine ⟨rfl, ?_⟩ | refine ⟨trivial, ?_⟩)) (by repeat (first | exact KSub.nil | refine KSub.cons (by repeat (first | exact Pick.hd | apply Pick.tl)) ?_ | exact KSub.refl _ | refine KSub.drop ?_)) (hE ⟨⟩)) (by kernel_rfl)
          · try simp only [decide_eq_true_eq, decide_eq_false_iff_not, Bool.not_eq_true', Bool.not_eq_false', Bool.and_eq_true, Bool.or_eq_true, Bool.and_eq_false_iff, Bool.or_eq_false_iff, Int.not_lt, Int.not_le] at hc6
            obtain rfl : m = i := by omega
            refine TW.exit ?_
            refine TQ.thenX ?_
            refine TQ.thenX ?_
            refine TQ.blkX ?_
            refine TQ.thenN (hY29 _ _ ?_)
            refine TW.seq fun Y55 hY55 => ?_
            refine TW.region ?_
            refine TL.p Pu.mv ?_
            refine TL.p Pu.as ?_
            refine TL.p Pu.as ?_
            refine TL.nil ?_
            refine TQ.thenN (hY55 _ _ ?_)
            refine TW.ret ?_
            refine TQ.ret Tryz.results56 rfl ((.tmp rfl (.tmp rfl .nil))) ?_
            have hyes : trdOk np m l v F P nP = true := trd_yes htk (by rw [← HT1.out]; exact hokk) (by rw [← HT1.out, ← HR.out]; exact hcnt)
            have hN : trdN np m l v F P nP = m := by unfold trdN; rw [hyes]; rfl
            have hR2 : tr2 l v F P nP = R := by rw [HR.out, HT1.out]; rfl
            exact fun w hw => ⟨((Ao, co), X, D), by rw [hN, hyes]; rfl, by rw [hN, hR2]; exact hw⟩
end Go.Proofs.YtjephihlkjpohaaGreatDoor
