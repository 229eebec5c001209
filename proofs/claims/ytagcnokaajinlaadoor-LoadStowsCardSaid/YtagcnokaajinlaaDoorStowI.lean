/-
  The law function LoadStows.
-/
import Derived.Test.YtagcnokaajinlaaDoorStowH
namespace Go.Proofs.YtagcnokaajinlaaDoor
set_option linter.all false
set_option linter.unusedVariables false
set_option linter.unusedSimpArgs false
open Go.RowKit
theorem tieS_tieL {P np way : Nat} {X : Nat → Option Addr} {Xc : Nat → Nat} : tieS X (sln P np way) Xc = fun i => tieL (tA X i) (tln P np way i) (tC Xc i) := by
  funext i
  simp [tieS, tieL, tA, tln, tC]
theorem tln_tot {P np way k : Nat} : tot (tln P np way k) 3 ≤ 2 * np := by
  have h0 := sln_le P np way (2 * k)
  have h1 := sln_le P np way (2 * k + 1)
  rw [tot3]
  simp only [tln]
  simp
  omega
theorem stowN_le {np nc nw : Nat} {pk : Nat → Nat → Int} {cans wv : Nat → Int} {b : Int} : stowN np pk nc cans nw wv b ≤ nc := by
  unfold stowN
  split
  · unfold stowB
    rw [dfs_row]
    refine iter_inv (p := fun st : St => st.n ≤ nc) (fun q s hs => ?_) (Nat.zero_le _)
    unfold leafS
    split
    · exact hs
    · split
      · exact Nat.le_refl _
      · exact hs
  · exact Nat.zero_le _
/-- Loads as they are found in facts, read. -/
theorem ties_read {S : List Nat} {w0 w : World} {K : List Fact} {P np way n : Nat} {x : TX} (hs : Sat S w0 K w) (hK : ∀ φ ∈ tiesL P np way n x, φ ∈ K) :
    RdR w 3 x.1.1 n (fun i => tieL (tA x.2.1 i) (tln P np way i) (tC x.2.2 i)) ∧ ∀ i, i < n → ∀ j, j < 3 → RdR w 1 (tA x.2.1 i j) (tln P np way i j) (fun k => [.int .i64 (tvl P np way i j k)]) := by
  refine ⟨?_, fun i hi => ?_⟩
  · have h1 := OwnR.rdr (hs.holds _ (hK _ (List.mem_cons_self ..)))
    rw [tieS_tieL] at h1
    exact h1
  · exact tie_rd (ownsK_rd (A := x.2.1) (l := sln P np way) (c := x.2.2) (v := svl P np way) (n := 2 * n) hs (fun φ hφ => hK φ (List.mem_cons_of_mem _ hφ))) hi rfl
set_option maxRecDepth 100000 in
set_option maxHeartbeats 2000000 in
theorem lawStows_any {w : World} {np cp nc cc nw cv : Nat} {Ap Ac Av : Option Addr} {pk : Nat → Nat → Int} {cans wv : Nat → Int} {b : Int}
    (hG : None0 w) (hR : RdR w 11 Ap np (fun k => packL (pk k))) (hC : RdR w 1 Ac nc (fun k => [.int .i64 (cans k)])) (hV : RdR w 1 Av nw (fun k => [.int .i64 (wv k)])) :
    Calls Tryd.prog 4 #[.slice Ap np cp, .slice Ac nc cc, .slice Av nw cv, .int .i64 b] w (Ret w (.bool true)) := by
  refine K_enter (S := []) (K := []) Tryd.func4 rfl Tryd.ntmps4 rfl (Sat.start _) ?_
  refine TW.seq fun Y1 hY1 => ?_
  refine TW.region ?_
  refine TL.p Pu.as ?_
  refine TL.nil ?_
  refine TQ.thenN (hY1 _ _ ?_)
  refine TW.seq fun Y2 hY2 => ?_
  refine TW.seq fun Y3 hY3 => ?_
  refine TW.join [(30, .bool (decide ((10 : Int) < (np : Int)) || decide ((4 : Int) < (nc : Int)) || decide ((12 : Int) < (nw : Int))))] ?_ (fun hJ1 => ?_)
  · refine TQ.thenN (hY3 _ _ ?_)
    refine TW.cond rfl (fun hc0 => ?_) (fun hc0 => ?_)
    · try simp only [decide_eq_true_eq, decide_eq_false_iff_not, Bool.not_eq_true', Bool.not_eq_false', Bool.and_eq_true, Bool.or_eq_true, Bool.and_eq_false_iff, Bool.or_eq_false_iff, Int.not_lt, Int.not_le] at hc0
      refine TW.seq fun Y4 hY4 => ?_
      refine TW.region ?_
      refine TL.p Pu.as ?_
      refine TL.nil ?_
      refine TQ.thenN (hY4 _ _ ?_)
      refine TW.ret ?_
      refine TQ.thenR ?_
      refine TQ.ret Tryd.results4 rfl ((.tmp rfl .nil)) ?_
      exact fun w hw => Ret.of hw
    · try simp only [decide_eq_true_eq, decide_eq_false_iff_not, Bool.not_eq_true', Bool.not_eq_false', Bool.and_eq_true, Bool.or_eq_true, Bool.and_eq_false_iff, Bool.or_eq_false_iff, Int.not_lt, Int.not_le] at hc0
      have hbn : np ≤ 10 ∧ nc ≤ 4 ∧ nw ≤ 12 := by
        obtain ⟨⟨h1, h2⟩, h3⟩ := hc0
        omega
      obtain ⟨hnp, hnc, hnw⟩ := hbn
      have hN := stowN_le (np := np) (pk := pk) (nc := nc) (cans := cans) (nw := nw) (wv := wv) (b := b)
      refine TW.skip ?_
      refine TQ.thenN (hY2 _ _ ?_)
      refine TW.seq fun Y5 hY5 => ?_
      refine TW.region ?_
      refine TL.m Mk.bl ?_
      intro b1
      refine TL.p Pu.mv ?_
      refine TL.ob (sz := 1) (r := fun _ => []) Pick.hd rfl ?_
      first | refine TL.a0 ty_et47 ?_ | refine TL.ap ty_et47 ?_
      intro A2 c2
      refine TL.m Mk.bl ?_
      intro b3
      refine TL.p Pu.mv ?_
      refine TL.ob (sz := 1) (r := fun _ => []) Pick.hd rfl ?_
      first | refine TL.a0 ty_et47 ?_ | refine TL.ap ty_et47 ?_
      intro A4 c4
      refine TL.m Mk.bl ?_
      intro b5
      refine TL.p Pu.mv ?_
      refine TL.ob (sz := 11) (r := fun _ => []) Pick.hd rfl ?_
      first | refine TL.a0 ty_et26 ?_ | refine TL.ap ty_et26 ?_
      intro A6 c6
      refine TL.p Pu.as ?_
      refine TL.p Pu.as ?_
      refine TL.p Pu.as ?_
      refine TL.nil ?_
      refine TQ.thenN (hY5 _ _ ?_)
      refine TW.seq fun Y6 hY6 => ?_
      refine TW.region ?_
      refine TL.p Pu.mv ?_
      refine TL.p Pu.mv ?_
      refine TL.p Pu.mv ?_
      refine TL.p Pu.mv ?_
      refine TL.call (M := []) rfl (enters Tryd.func16 rfl rfl) (List.Perm.refl _) rfl (fun w hw => by
          exact loadStow_any (hG.sat hw (by simp)) (by omega) (by omega) (by omega) (OwnR.rdr (hw.holds (.own A6 np c6 25 11 (fun k => packL (pk k))) (by simp))) (OwnR.rdr (hw.holds (.own A2 nc c2 3 1 (fun k => [.int .i64 (cans k)])) (by simp))) (OwnR.rdr (hw.holds (.own A4 nw c4 3 1 (fun k => [.int .i64 (wv k)])) (by simp)))) ?_
      rintro x1
      refine TL.perm List.perm_append_comm ?_
      refine TL.p Pu.mv ?_
      refine TL.p Pu.ex ?_
      refine TL.p Pu.ex ?_
      refine TL.p Pu.ex ?_
      refine TL.p Pu.as ?_
      refine TL.p Pu.as ?_
      refine TL.p Pu.as ?_
      refine TL.nil ?_
      refine TQ.thenN (hY6 _ _ ?_)
      refine TW.seq fun Y7 hY7 => ?_
      refine TW.region ?_
      refine TL.p Pu.mv ?_
      refine TL.p Pu.mv ?_
      refine TL.p Pu.mv ?_
      refine TL.p Pu.mv ?_
      refine TL.call (M := []) rfl (enters Tryd.func17 rfl rfl) (List.Perm.refl _) rfl (fun w hw => by
          exact refStow_any (by omega) (by omega) (by omega) (hR.sat hw Apart.nil) (hC.sat hw Apart.nil) (hV.sat hw Apart.nil)) ?_
      rintro x2
      refine TL.perm List.perm_append_comm ?_
      refine TL.p Pu.mv ?_
      refine TL.p Pu.ex ?_
      refine TL.p Pu.ex ?_
      refine TL.p Pu.ex ?_
      refine TL.p Pu.as ?_
      refine TL.p Pu.as ?_
      refine TL.p Pu.as ?_
      refine TL.nil ?_
      refine TQ.thenN (hY7 _ _ ?_)
      refine TW.seq fun Y8 hY8 => ?_
      refine TW.region ?_
      refine TL.p Pu.mv ?_
      refine TL.p Pu.mv ?_
      refine TL.cr rfl (enters Tryd.func15 rfl rfl) (fun w hw => by
          have h1 := ties_read (P := 2 * nc + 1) (np := np) (way := (stowB np pk nc cans wv b).way) (n := stowN np pk nc cans nw wv b) (x := x1) hw (fun φ hφ => by simp only [List.mem_append, List.mem_cons]; simp [hφ])
          have h2 := ties_read (P := 2 * nc + 1) (np := np) (way := (stowB np pk nc cans wv b).way) (n := stowN np pk nc cans nw wv b) (x := x2) hw (fun φ hφ => by simp only [List.mem_append, List.mem_cons]; simp [hφ])
          exact sameTies_any (by omega) (fun i hi => by have := tln_tot (P := 2 * nc + 1) (np := np) (way := (stowB np pk nc cans wv b).way) (k := i); omega) h1.1 h2.1 h1.2 h2.2) ?_
      refine TL.p Pu.mv ?_
      refine TL.gd Pu.mv ?_
      refine TL.gd Pu.mv ?_
      refine TL.gd (Pu.bn (r := .bool true) rfl rfl (fun w => by go_simp)) ?_
      refine TL.lit (t := 64) (b' := true) rfl (rfl) ?_
      refine TL.p Pu.kt ?_
      refine TL.p Pu.mv ?_
      refine TL.gd Pu.mv ?_
      refine TL.gd Pu.mv ?_
      refine TL.gd (Pu.bn (r := .bool true) rfl rfl (fun w => by go_simp)) ?_
      refine TL.lit (t := 69) (b' := true) rfl (rfl) ?_
      refine TL.p Pu.kt ?_
      refine TL.p Pu.mv ?_
      refine TL.gd Pu.mv ?_
      refine TL.gd Pu.mv ?_
      refine TL.cr rfl (enters Tryd.func18 rfl rfl) (fun w hw => by
          have h := sameInts_any (c1 := c2) (c2 := cc) (v1 := cans) (v2 := cans) (by omega) (OwnR.rdr (hw.holds (.own A2 nc c2 3 1 (fun k => [.int .i64 (cans k)])) (by simp))) (hC.sat hw Apart.nil)
          rw [sameI_self] at h
          exact h) ?_
      refine TL.lit (t := 74) (b' := true) rfl (rfl) ?_
      refine TL.p Pu.kt ?_
      refine TL.p Pu.mv ?_
      refine TL.gd Pu.mv ?_
      refine TL.gd Pu.mv ?_
      refine TL.cr rfl (enters Tryd.func18 rfl rfl) (fun w hw => by
          have h := sameInts_any (c1 := c4) (c2 := cv) (v1 := wv) (v2 := wv) (by omega) (OwnR.rdr (hw.holds (.own A4 nw c4 3 1 (fun k => [.int .i64 (wv k)])) (by simp))) (hV.sat hw Apart.nil)
          rw [sameI_self] at h
          exact h) ?_
      refine TL.lit (t := 79) (b' := true) rfl (rfl) ?_
      refine TL.p Pu.kt ?_
      refine TL.p Pu.mv ?_
      refine TL.gd Pu.mv ?_
      refine TL.gd Pu.mv ?_
      refine TL.cr rfl (enters Tryd.func12 rfl rfl) (fun w hw => by
          exact samePacks_any (f := pk) (by omega) (OwnR.rdr (hw.holds (.own A6 np c6 25 11 (fun q => packL (pk q))) (by simp))) (hR.sat hw Apart.nil)) ?_
      refine TL.p Pu.kt ?_
      refine TL.p Pu.as ?_
      refine TL.nil ?_
      refine TQ.thenN (hY8 _ _ ?_)
      refine TW.ret ?_
      refine TQ.ret Tryd.results4 rfl ((.tmp rfl .nil)) ?_
      exact fun w hw => Ret.of hw
  refine TW.region ?_
  refine TL.p Pu.mv ?_
  refine TL.p (Pu.ln Tryd.underlying26) ?_
  refine TL.p Pu.gt ?_
  refine TL.p Pu.mv ?_
  refine TL.guard (t := 21) rfl (fun hg1 => ?_) (fun hg1 => ?_)
  · refine TL.gs ?_
    refine TL.gs ?_
    refine TL.gs ?_
    refine TL.p Pu.kt ?_
    refine TL.p Pu.mv ?_
    refine TL.gs ?_
    refine TL.gs ?_
    refine TL.gs ?_
    refine TL.p Pu.kt ?_
    refine TL.nil ?_
    exact TQ.sub (by repeat (first | exact trivial | refine ⟨rfl, ?_⟩ | refine ⟨trivial, ?_⟩ | refine ⟨(by show some (Value.bool _) = some (Value.bool _); simp [hg1]), ?_⟩)) (by repeat (first | exact KSub.nil | refine KSub.cons (by repeat (first | exact Pick.hd | apply Pick.tl)) ?_)) hJ1
  · refine TL.gd Pu.mv ?_
    refine TL.gd (Pu.ln Tryd.underlying47) ?_
    refine TL.gd Pu.gt ?_
    refine TL.p Pu.kf ?_
    refine TL.p Pu.mv ?_
    refine TL.guard (t := 26) rfl (fun hg2 => ?_) (fun hg2 => ?_)
    · refine TL.gs ?_
      refine TL.gs ?_
      refine TL.gs ?_
      refine TL.p Pu.kt ?_
      refine TL.nil ?_
      exact TQ.sub (by repeat (first | exact trivial | refine ⟨rfl, ?_⟩ | refine ⟨trivial, ?_⟩ | refine ⟨(by show some (Value.bool _) = some (Value.bool _); simp [hg1, hg2]), ?_⟩)) (by repeat (first | exact KSub.nil | refine KSub.cons (by repeat (first | exact Pick.hd | apply Pick.tl)) ?_)) hJ1
    · refine TL.gd Pu.mv ?_
      refine TL.gd (Pu.ln Tryd.underlying47) ?_
      refine TL.gd Pu.gt ?_
      refine TL.p Pu.kf ?_
      refine TL.nil ?_
      exact TQ.sub (by repeat (first | exact trivial | refine ⟨rfl, ?_⟩ | refine ⟨trivial, ?_⟩ | refine ⟨(by show some (Value.bool _) = some (Value.bool _); simp [hg1, hg2]), ?_⟩)) (by repeat (first | exact KSub.nil | refine KSub.cons (by repeat (first | exact Pick.hd | apply Pick.tl)) ?_)) hJ1
end Go.Proofs.YtagcnokaajinlaaDoor
