/-
  load: need, rising, lists, all.
-/
import Derived.Test.YtagcnokaajinlaaDoorLoadI
namespace Go.Proofs.YtagcnokaajinlaaDoor
set_option linter.all false
set_option linter.unusedVariables false
set_option linter.unusedSimpArgs false
open Go.RowKit
/-- The cells of a load: its three lists. -/
def tieL (a : Nat → Option Addr) (l c : Nat → Nat) : List Value := [.slice (a 0) (l 0) (c 0), .slice (a 1) (l 1) (c 1), .slice (a 2) (l 2) (c 2)]
/-- What need does: nothing, or it panics. -/
theorem need_any (b : Bool) (e : Int) (w : World) (he : e ≠ 0) :
    Calls Tryd.prog 32 #[.bool b, .int .i64 e] w (Try w errs (if b then 0 else e) (.tuple #[])) := by
  refine K_enter (S := []) (K := []) Tryd.func32 rfl Tryd.ntmps32 rfl (Sat.start _) ?_
  refine TW.seq fun Y1 hY1 => ?_
  refine TW.region ?_
  refine TL.p Pu.mv ?_
  refine TL.p Pu.no ?_
  refine TL.nil ?_
  refine TQ.thenN (hY1 _ _ ?_)
  refine TW.cond rfl (fun hc0 => ?_) (fun hc0 => ?_)
  · try simp only [decide_eq_true_eq, decide_eq_false_iff_not, Bool.not_eq_true', Bool.not_eq_false', Bool.and_eq_true, Bool.or_eq_true, Bool.and_eq_false_iff, Bool.or_eq_false_iff, Int.not_lt, Int.not_le] at hc0
    have hb : b = false := by simpa using hc0
    refine TW.region ?_
    refine TL.p Pu.mv ?_
    refine TL.p Pu.fc ?_
    refine TL.pn rfl (by intro w; first | (go_simp; done) | (go_simp; rfl)) ?_
    refine TQ.pan rfl ?_
    exact fun w hw => by subst hb; exact Try.no (L := []) (by simp [he]) hw
  · try simp only [decide_eq_true_eq, decide_eq_false_iff_not, Bool.not_eq_true', Bool.not_eq_false', Bool.and_eq_true, Bool.or_eq_true, Bool.and_eq_false_iff, Bool.or_eq_false_iff, Int.not_lt, Int.not_le] at hc0
    refine TW.skip ?_
    refine TQ.end Tryd.results32 rfl (.nil) ?_
    exact fun w hw => by
      have hb : b = true := by simpa using hc0
      subst hb
      exact Try.ok (L := []) rfl hw
theorem all_any {a : Nat → Option Addr} {l c : Nat → Nat} {v : Nat → Nat → Int} {w : World} (ht : tot l 3 ≤ 1000000000) (hI : ∀ i, i < 3 → RdR w 1 (a i) (l i) (fun k => [.int .i64 (v i k)])) :
    CallsK Tryd.prog 50 #[.agg (tieL a l c).toArray] [] w (Option Addr × Nat) (fun x => .slice x.1 (tot l 3) x.2) (fun x => [.own x.1 (tot l 3) x.2 3 1 (catN l (fun i k => [.int .i64 (v i k)]) 3)]) := by
  refine K_enter (S := []) (K := []) Tryd.func50 rfl Tryd.ntmps50 rfl (Sat.start _) ?_
  refine TW.seq fun Y1 hY1 => ?_
  refine TW.region ?_
  refine TL.m Mk.bx ?_
  intro b1
  refine TL.p Pu.as ?_
  refine TL.nil ?_
  refine TQ.thenN (hY1 _ _ ?_)
  refine TW.seq fun Y2 hY2 => ?_
  refine TW.region ?_
  refine TL.p (by first | exact Pu.fb ty_fa59_0 | exact Pu.fe ty_fa59_0) ?_
  refine TL.p (Pu.ld ty_sc47) ?_
  refine TL.p (by first | exact Pu.fb ty_fa59_1 | exact Pu.fe ty_fa59_1) ?_
  refine TL.p (Pu.ld ty_sc47) ?_
  refine TL.p (by first | exact Pu.fb ty_fa59_2 | exact Pu.fe ty_fa59_2) ?_
  refine TL.p (Pu.ld ty_sc47) ?_
  refine TL.m Mk.bl ?_
  intro b2
  refine TL.call (M := []) rfl (enters Tryd.func80 rfl rfl) (List.Perm.refl _) rfl (fun w hw => by
      have hB : Blk w b2 _ (tieL a l c).toArray := hw.holds _ (List.mem_cons_self ..)
      exact concat_any (a := a) (l := l) (c := c) (v := v) (by decide) ht (RdR.blk (n := 3) (cs := tieL a l c) hB rfl (fun i _ => rfl)) (fun i hi => (hI i hi).sat hw Apart.nil)) ?_
  intro x
  refine TL.p Pu.as ?_
  refine TL.nil ?_
  refine TQ.thenN (hY2 _ _ ?_)
  refine TW.ret ?_
  refine TQ.ret Tryd.results50 rfl ((.tmp rfl .nil)) ?_
  exact fun w hw => ⟨x, rfl, hw.sub (KSub.cons Pick.hd KSub.nil)⟩
theorem lists_any (a : Nat → Option Addr) (l c : Nat → Nat) (w : World) :
    Calls Tryd.prog 37 #[.agg (tieL a l c).toArray] w (Ret w (.agg (tieL a l c).toArray)) := by
  refine K_enter (S := []) (K := []) Tryd.func37 rfl Tryd.ntmps37 rfl (Sat.start _) ?_
  refine TW.seq fun Y1 hY1 => ?_
  refine TW.region ?_
  refine TL.m Mk.bx ?_
  intro b1
  refine TL.m (Mk.al ty_zr85) ?_
  intro b2
  refine TL.nil ?_
  refine TQ.thenN (hY1 _ _ ?_)
  refine TW.seq fun Y2 hY2 => ?_
  refine TW.region ?_
  refine TL.p (by first | exact Pu.fb ty_fa59_0 | exact Pu.fe ty_fa59_0) ?_
  refine TL.p (Pu.ld ty_sc47) ?_
  refine TL.p (by first | exact Pu.fb ty_fa59_1 | exact Pu.fe ty_fa59_1) ?_
  refine TL.p (Pu.ld ty_sc47) ?_
  refine TL.p (by first | exact Pu.fb ty_fa59_2 | exact Pu.fe ty_fa59_2) ?_
  refine TL.p (Pu.ld ty_sc47) ?_
  refine TL.p Pu.bd ?_
  first | refine TL.st ty_sz85 ?_ | refine TL.se ty_sz85 ?_
  refine TL.nil ?_
  refine TQ.thenN (hY2 _ _ ?_)
  refine TW.ret ?_
  refine TQ.ret Tryd.results37 rfl ((RV.cs ty_ag85 .nil)) ?_
  exact fun w hw => Ret.of hw
def lastV (v : Nat → Int) : Nat → Int
  | 0 => -1
  | k + 1 => v k
def riseP (v : Nat → Int) (N : Int) (k : Nat) : Bool := inB5 (lastV v k + 1) (N - 1) (v k)
theorem rise_lo {v : Nat → Int} {N : Int} (h3 : 0 ≤ N) : ∀ k, (∀ j, j < k → riseP v N j = true) → -1 ≤ lastV v k ∧ lastV v k ≤ N - 1
  | 0, _ => by simp only [lastV]; omega
  | k + 1, h => by
    have h1 := rise_lo h3 k fun j hj => h j (by omega)
    have h2 := h k (by omega)
    simp only [riseP, inB5, Bool.and_eq_true, decide_eq_true_eq] at h2
    simp only [lastV]
    omega
theorem rising1_any (x last N : Int) (bl bn : Nat) (w : World) (hM : Sat [bl] w [.blk bl 3 [.int .i64 last]] w) (hn : OldB w bn [.int .i64 N]) (hne : bn ≠ bl) (h1 : -1 ≤ last) (h2 : last ≤ 1000000000) (h3 : 0 ≤ N) (h4 : N ≤ 1000000000000) :
    CallsK Tryd.prog 87 #[.int .i64 x, .pointer (some ⟨bl, 0, none⟩), .pointer (some ⟨bn, 0, none⟩)] [.blk bl 3 [.int .i64 last]] w Unit (fun _ => .bool (inB5 (last + 1) (N - 1) x)) (fun _ => [.blk bl 3 [.int .i64 x]]) := by
  have hAp : Apart [bl] (some ⟨bn, 0, none⟩) := fun q hq => by cases hq; simpa using hne
  refine K_enter (args := [.int .i64 x, .pointer (some ⟨bl, 0, none⟩), .pointer (some ⟨bn, 0, none⟩)]) (S := [bl]) (K := [.blk bl 3 [.int .i64 last]]) Tryd.func87 rfl Tryd.ntmps87 rfl hM ?_
  refine TW.seq fun Y1 hY1 => ?_
  refine TW.region ?_
  refine TL.p Pu.as ?_
  refine TL.nil ?_
  refine TQ.thenN (hY1 _ _ ?_)
  refine TW.seq fun Y2 hY2 => ?_
  refine TW.region ?_
  refine TL.p (by first | exact (Pu.ld ty_sc3) | exact (Pu.ldo ty_sc3)) ?_
  refine TL.p Pu.ad ?_
  refine TL.p (by first | exact (Pu.ld ty_sc3) | exact (Pu.ldo ty_sc3)) ?_
  refine TL.p Pu.sb ?_
  refine TL.p Pu.mv ?_
  refine TL.m Mk.bl ?_
  intro b1
  refine TL.cr rfl (enters Tryd.func33 rfl rfl) (fun w hw => by
      exact inOne_any _ _ _ (hw.holds _ (List.mem_cons_self ..))) ?_
  refine TL.p Pu.as ?_
  refine TL.nil ?_
  refine TQ.thenN (hY2 _ _ ?_)
  refine TW.seq fun Y3 hY3 => ?_
  refine TW.region ?_
  refine TL.p Pu.mv ?_
  first | refine TL.st ty_sz3 ?_ | refine TL.se ty_sz3 ?_
  refine TL.nil ?_
  refine TQ.thenN (hY3 _ _ ?_)
  refine TW.seq fun Y4 hY4 => ?_
  refine TW.region ?_
  refine TL.p Pu.mv ?_
  refine TL.p Pu.as ?_
  refine TL.nil ?_
  refine TQ.thenN (hY4 _ _ ?_)
  refine TW.ret ?_
  refine TQ.ret Tryd.results87 rfl ((.tmp rfl .nil)) ?_
  exact fun w hw => ⟨(), rfl, hw.sub (KSub.cons Pick.hd KSub.nil)⟩
theorem rising_any {A : Option Addr} {n cp : Nat} {v : Nat → Int} {N : Int} {w : World} (hn : n ≤ 9223372036854775807) (hR : RdR w 1 A n (fun k => [.int .i64 (v k)])) (h3 : 0 ≤ N) (h4 : N ≤ 1000000000) :
    Calls Tryd.prog 71 #[.slice A n cp, .int .i64 N] w (Ret w (.bool (allB n (riseP v N)))) := by
  refine K_enter (S := []) (K := []) Tryd.func71 rfl Tryd.ntmps71 rfl (Sat.start _) ?_
  refine TW.seq fun Y1 hY1 => ?_
  refine TW.region ?_
  refine TL.m Mk.bx ?_
  intro b1
  refine TL.p Pu.as ?_
  refine TL.nil ?_
  refine TQ.thenN (hY1 _ _ ?_)
  refine TW.seq fun Y2 hY2 => ?_
  refine TW.region ?_
  refine TL.m (Mk.al ty_zr3) ?_
  intro b2
  first | refine TL.st ty_sz3 ?_ | refine TL.se ty_sz3 ?_
  refine TL.nil ?_
  refine TQ.thenN (hY2 _ _ ?_)
  refine TW.seq fun Y3 hY3 => ?_
  refine TW.region ?_
  refine TL.p Pu.mv ?_
  refine TL.p Pu.fn ?_
  refine TL.call rfl (enters Tryd.func86 rfl rfl) (List.Perm.refl _) rfl (fun w hw => by
      have hw2 : Sat [] _ [.blk b2 3 [.int .i64 (-1)]] w := hw.sub (KSub.cons Pick.hd KSub.nil)
      have hB : Blk w b1 3 #[.int .i64 N] := hw.holds (.blk b1 3 [.int .i64 N]) (by simp)
      have hne : b1 ≠ b2 := fun e => by
        have := hw.nd
        simp [feet, Fact.foot, e] at this
      refine everyInt_st (p := riseP v N) (M := fun k => [.blk b2 3 [.int .i64 (lastV v k)]]) (fs := []) (cs := [.pointer (some ⟨b2, 0, none⟩), .pointer (some ⟨b1, 0, none⟩)]) (enters Tryd.func87 rfl rfl) hn (hR.sat hw Apart.nil) (hR.apart fun q hq => (hw2.ge q hq).resolve_left (by simp)) hw2.self (fun _ => rfl) (fun k hk hp w' hw' => ?_)
      · have hlo := rise_lo (N := N) h3 k hp
        refine rising1_any _ _ _ b2 b1 w' hw'.self ((OldB.of_blk (cs := [_]) hB).sat hw' (by simp [feet, Fact.foot, hne])) hne (by omega) (by omega) h3 (by omega)) ?_
  intro x
  refine TL.p Pu.as ?_
  refine TL.nil ?_
  refine TQ.thenN (hY3 _ _ ?_)
  refine TW.ret ?_
  refine TQ.ret Tryd.results71 rfl ((.tmp rfl .nil)) ?_
  exact fun w hw => ⟨ret_bool (by rw [x.any]; show allB n (riseP v N) = !anyB n _; rw [not_anyB]; simp), Chg.ext hw.chg⟩
end Go.Proofs.YtagcnokaajinlaaDoor
