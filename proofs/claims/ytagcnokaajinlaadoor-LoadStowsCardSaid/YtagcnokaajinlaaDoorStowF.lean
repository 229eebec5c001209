/-
  load: Stow.
-/
import Derived.Test.YtagcnokaajinlaaDoorStowE
namespace Go.Proofs.YtagcnokaajinlaaDoor
set_option linter.all false
set_option linter.unusedVariables false
set_option linter.unusedSimpArgs false
open Go.RowKit
def stowN (np : Nat) (pk : Nat → Nat → Int) (nc : Nat) (cans : Nat → Int) (nw : Nat) (wv : Nat → Int) (b : Int) : Nat := if stowC np pk nc cans nw wv b = 0 then (stowB np pk nc cans wv b).n else 0
def stowW (np : Nat) (pk : Nat → Nat → Int) (nc : Nat) (cans : Nat → Int) (nw : Nat) (wv : Nat → Int) (b : Int) : Int := if stowC np pk nc cans nw wv b = 0 then (stowB np pk nc cans wv b).worth else 0
set_option maxRecDepth 100000 in
set_option maxHeartbeats 1000000 in
theorem loadStow_any {w : World} {np cp nc cc nw cv : Nat} {Ap Ac Av : Option Addr} {pk : Nat → Nat → Int} {cans wv : Nat → Int} {b : Int}
    (hG : None0 w) (hnp : np ≤ 1000) (hnc : nc ≤ 1000) (hnw : nw ≤ 1000) (hR : RdR w 11 Ap np (fun k => packL (pk k))) (hC : RdR w 1 Ac nc (fun k => [.int .i64 (cans k)])) (hV : RdR w 1 Av nw (fun k => [.int .i64 (wv k)])) :
    CallsK Tryd.prog 16 #[.slice Ap np cp, .slice Ac nc cc, .slice Av nw cv, .int .i64 b] [] w TX (fun x => .tuple #[.slice x.1.1 (stowN np pk nc cans nw wv b) x.1.2, .int .i64 (stowW np pk nc cans nw wv b), .int .i64 (stowC np pk nc cans nw wv b)])
      (fun x => tiesL (2 * nc + 1) np (stowB np pk nc cans wv b).way (stowN np pk nc cans nw wv b) x) := by
  refine K_enter (S := []) (K := []) Tryd.func16 rfl Tryd.ntmps16 rfl (Sat.start _) ?_
  refine TW.seq fun Y1 hY1 => ?_
  refine TW.region ?_
  refine TL.m Mk.bx ?_
  intro b1
  refine TL.m Mk.bx ?_
  intro b2
  refine TL.m Mk.bx ?_
  intro b3
  refine TL.m Mk.bx ?_
  intro b4
  refine TL.m (Mk.al ty_zr27) ?_
  intro b5
  refine TL.m (Mk.al ty_zr3) ?_
  intro b6
  refine TL.p Pu.as ?_
  refine TL.nil ?_
  refine TQ.thenN (hY1 _ _ ?_)
  refine TW.seq fun Y2 hY2 => ?_
  refine TW.region ?_
  refine TL.p Pu.fn ?_
  refine TL.call rfl (enters Tryd.func29 rfl rfl) (M := [.blk b6 3 [.int .i64 0], .blk b5 27 [.slice none 0 0]]) (List.Perm.refl _) rfl (fun w hw => by
      have hB1 : Blk w b1 26 #[.slice Ap np cp] := hw.holds (.blk b1 26 [.slice Ap np cp]) (by simp)
      have hB2 : Blk w b2 47 #[.slice Ac nc cc] := hw.holds (.blk b2 47 [.slice Ac nc cc]) (by simp)
      have hB3 : Blk w b3 47 #[.slice Av nw cv] := hw.holds (.blk b3 47 [.slice Av nw cv]) (by simp)
      have hB4 : Blk w b4 3 #[.int .i64 b] := hw.holds (.blk b4 3 [.int .i64 b]) (by simp)
      have hnd := hw.nd
      simp [feet, Fact.foot] at hnd
      obtain ⟨hself, hge⟩ := feet_new (M := [.blk b6 3 [.int .i64 0], .blk b5 27 [.slice none 0 0]]) hw (List.Perm.refl _)
      have hge' : ∀ b ∈ [b6, b5], _ ≤ b := hge
      have hbel := Chg.ext hw.chg
      have m1 : b1 ∉ [b6, b5] := by simp; omega
      have m2 : b2 ∉ [b6, b5] := by simp; omega
      have m3 : b3 ∉ [b6, b5] := by simp; omega
      have m4 : b4 ∉ [b6, b5] := by simp; omega
      have m0 : 0 ∉ [b6, b5] := fun h => Nat.lt_irrefl 0 (Nat.lt_of_lt_of_le hG.1 (hge' 0 h))
      have aR := hR.apart (S := [b6, b5]) hge'
      have aC := hC.apart (S := [b6, b5]) hge'
      have aV := hV.apart (S := [b6, b5]) hge'
      have ht := trying_any (M := [.blk b6 3 [.int .i64 0], .blk b5 27 [.slice none 0 0]]) (code := stowC np pk nc cans nw wv b) (fs := []) (cs := [.pointer (some ⟨b1, 0, none⟩), .pointer (some ⟨b2, 0, none⟩), .pointer (some ⟨b4, 0, none⟩), .pointer (some ⟨b3, 0, none⟩), .pointer (some ⟨b6, 0, none⟩), .pointer (some ⟨b5, 0, none⟩)]) (enters Tryd.func44 rfl rfl) hself fun w' hw' => by
        have hb' := old_below hbel hw' hge
        exact stow1_any (cp := cp) (cc := cc) (cv := cv) (hG.ext hb') hnp hnc hnw (hR.sat (Sat.nil (Chg.of_ext hb')) Apart.nil) (hC.sat (Sat.nil (Chg.of_ext hb')) Apart.nil) (hV.sat (Sat.nil (Chg.of_ext hb')) Apart.nil) m0 aR aC aV ((OldB.of_blk (cs := [_]) hB1).sat hw' m1) ((OldB.of_blk (cs := [_]) hB2).sat hw' m2) ((OldB.of_blk (cs := [_]) hB4).sat hw' m4) ((OldB.of_blk (cs := [_]) hB3).sat hw' m3) m1 m2 m4 m3 hw'.self
      refine Calls.mono (R' := fun e w' => ∃ x : TX, e = .returned (.int .i64 (stowC np pk nc cans nw wv b)) ∧ Sat (feet [.blk b6 3 [.int .i64 0], .blk b5 27 [.slice none 0 0]]) w (.blk b6 3 [.int .i64 (stowW np pk nc cans nw wv b)] :: .blk b5 27 [.slice x.1.1 (stowN np pk nc cans nw wv b) x.1.2] :: tiesL (2 * nc + 1) np (stowB np pk nc cans wv b).way (stowN np pk nc cans nw wv b) x) w') ht ?_
      rintro e w' ⟨x, he, hs⟩
      unfold stowW stowN
      by_cases h0 : stowC np pk nc cans nw wv b = 0
      · refine ⟨x, he, ?_⟩
        replace hs : Sat _ w (if stowC np pk nc cans nw wv b = 0 then _ else _) w' := hs
        rw [if_pos h0] at hs
        rw [if_pos h0, if_pos h0]
        exact hs
      · refine ⟨((none, 0), fun _ => none, fun _ => 0), he, ?_⟩
        replace hs : Sat _ w (if stowC np pk nc cans nw wv b = 0 then _ else _) w' := hs
        rw [if_neg h0] at hs
        rw [if_neg h0, if_neg h0]
        exact hs.sub (KSub.cons Pick.hd (KSub.cons Pick.hd (KSub.nilOwn KSub.nil)))) ?_
  rintro ⟨⟨At, ct⟩, TA, Tc⟩
  refine TL.p Pu.as ?_
  refine TL.nil ?_
  refine TQ.thenN (hY2 _ _ ?_)
  refine TW.seq fun Y3 hY3 => ?_
  refine TW.ex0k [] ?_
  refine RG.tk 2 rfl Pu.mv ?_
  refine RG.a2 0 1 rfl rfl (fun X0 hX0 => ?_) (fun X1 hX1 => ?_)
  · refine TL.p (Pu.ld ty_sc27) ?_
    refine TL.nil ?_
    refine TQ.nxt (hX0 _ _ (by repeat (first | exact HasL.nil | refine HasL.cons (by repeat (first | exact Pick.hd | apply Pick.tl)) ?_)) ?_)
    refine RG.a2 1 3 rfl rfl (fun X1 hX1 => ?_) (fun X3 hX3 => ?_)
    · refine TL.p (Pu.ld ty_sc3) ?_
      refine TL.nil ?_
      refine TQ.nxt (hX1 _ _ (by repeat (first | exact HasL.nil | refine HasL.cons (by repeat (first | exact Pick.hd | apply Pick.tl)) ?_)) ?_)
      refine RG.a1 3 rfl (fun X3 hX3 => ?_)
      first | refine TL.st ty_sz27 ?_ | refine TL.se ty_sz27 ?_
      refine TL.nil ?_
      refine TQ.nxt (hX3 _ _ (by repeat (first | exact HasL.nil | refine HasL.cons (by repeat (first | exact Pick.hd | apply Pick.tl)) ?_)) ?_)
      refine RG.a1 4 rfl (fun X4 hX4 => ?_)
      first | refine TL.st ty_sz3 ?_ | refine TL.se ty_sz3 ?_
      refine TL.nil ?_
      refine TQ.nxt (hX4 _ _ (by repeat (first | exact HasL.nil | refine HasL.cons (by repeat (first | exact Pick.hd | apply Pick.tl)) ?_)) ?_)
      refine RG.tk 5 rfl Pu.as ?_
      refine RG.nil ?_ (by kernel_rfl)
      refine TQ.thenN (hY3 _ _ ?_)
      refine TW.ret ?_
      refine TQ.ret Tryd.results16 rfl ((RV.c1 ty_sc27 (RV.c1 ty_sc3 (.tmp rfl .nil)))) ?_
      exact fun w hw => ⟨((At, ct), TA, Tc), rfl, hw.sub (KSub.drop (KSub.drop (KSub.left _)))⟩
    · first | refine TL.st ty_sz27 ?_ | refine TL.se ty_sz27 ?_
      refine TL.nil ?_
      refine TQ.nxt (hX3 _ _ (by repeat (first | exact HasL.nil | refine HasL.cons (by repeat (first | exact Pick.hd | apply Pick.tl)) ?_)) ?_)
      refine RG.a1 1 rfl (fun X1 hX1 => ?_)
      refine TL.p (Pu.ld ty_sc3) ?_
      refine TL.nil ?_
      refine TQ.nxt (hX1 _ _ (by repeat (first | exact HasL.nil | refine HasL.cons (by repeat (first | exact Pick.hd | apply Pick.tl)) ?_)) ?_)
      refine RG.a1 4 rfl (fun X4 hX4 => ?_)
      first | refine TL.st ty_sz3 ?_ | refine TL.se ty_sz3 ?_
      refine TL.nil ?_
      refine TQ.nxt (hX4 _ _ (by repeat (first | exact HasL.nil | refine HasL.cons (by repeat (first | exact Pick.hd | apply Pick.tl)) ?_)) ?_)
      refine RG.tk 5 rfl Pu.as ?_
      refine RG.nil ?_ (by kernel_rfl)
      refine TQ.thenN (hY3 _ _ ?_)
      refine TW.ret ?_
      refine TQ.ret Tryd.results16 rfl ((RV.c1 ty_sc27 (RV.c1 ty_sc3 (.tmp rfl .nil)))) ?_
      exact fun w hw => ⟨((At, ct), TA, Tc), rfl, hw.sub (KSub.drop (KSub.drop (KSub.left _)))⟩
  · refine TL.p (Pu.ld ty_sc3) ?_
    refine TL.nil ?_
    refine TQ.nxt (hX1 _ _ (by repeat (first | exact HasL.nil | refine HasL.cons (by repeat (first | exact Pick.hd | apply Pick.tl)) ?_)) ?_)
    refine RG.a1 0 rfl (fun X0 hX0 => ?_)
    refine TL.p (Pu.ld ty_sc27) ?_
    refine TL.nil ?_
    refine TQ.nxt (hX0 _ _ (by repeat (first | exact HasL.nil | refine HasL.cons (by repeat (first | exact Pick.hd | apply Pick.tl)) ?_)) ?_)
    refine RG.a1 3 rfl (fun X3 hX3 => ?_)
    first | refine TL.st ty_sz27 ?_ | refine TL.se ty_sz27 ?_
    refine TL.nil ?_
    refine TQ.nxt (hX3 _ _ (by repeat (first | exact HasL.nil | refine HasL.cons (by repeat (first | exact Pick.hd | apply Pick.tl)) ?_)) ?_)
    refine RG.a1 4 rfl (fun X4 hX4 => ?_)
    first | refine TL.st ty_sz3 ?_ | refine TL.se ty_sz3 ?_
    refine TL.nil ?_
    refine TQ.nxt (hX4 _ _ (by repeat (first | exact HasL.nil | refine HasL.cons (by repeat (first | exact Pick.hd | apply Pick.tl)) ?_)) ?_)
    refine RG.tk 5 rfl Pu.as ?_
    refine RG.nil ?_ (by kernel_rfl)
    refine TQ.thenN (hY3 _ _ ?_)
    refine TW.ret ?_
    refine TQ.ret Tryd.results16 rfl ((RV.c1 ty_sc27 (RV.c1 ty_sc3 (.tmp rfl .nil)))) ?_
    exact fun w hw => ⟨((At, ct), TA, Tc), rfl, hw.sub (KSub.drop (KSub.drop (KSub.left _)))⟩
end Go.Proofs.YtagcnokaajinlaaDoor
