/-
  load: Jolted.
-/
import Derived.Test.YtagcnokaajinlaaDoorLoadO
namespace Go.Proofs.YtagcnokaajinlaaDoor
set_option linter.all false
set_option linter.unusedVariables false
set_option linter.unusedSimpArgs false
open Go.RowKit
/-- How many packs Jolted returns. -/
def jn (np : Nat) (pk : Nat → Nat → Int) (m : Nat) (l : Nat → Nat → Nat) (v : Nat → Nat → Nat → Int) (nj : Nat) (jt : Nat → Nat → Int) (days : Int) : Nat := if jcode np pk m l v nj jt days = 0 then np else 0
set_option maxRecDepth 100000 in
theorem loadJolted_any {w : World} {A A2 A3 : Option Addr} {np m cp cp2 nj cp3 : Nat} {pk jt : Nat → Nat → Int} {a : Nat → Nat → Option Addr} {l c : Nat → Nat → Nat} {v : Nat → Nat → Nat → Int} {days : Int}
    (hLay : Lay w A A2 np m pk a l c v) (hJ : RdR w 2 A3 nj (fun k => spL (jt k 0) (jt k 1))) (hnj : nj ≤ 1000000) :
    CallsK Tryd.prog 10 #[.slice A np cp, .slice A2 m cp2, .slice A3 nj cp3, .int .i64 days] [] w (Option Addr × Nat) (fun x => .tuple #[.slice x.1 (jn np pk m l v nj jt days) x.2, .int .i64 (jcode np pk m l v nj jt days)])
      (fun x => [.own x.1 (jn np pk m l v nj jt days) x.2 25 11 (fun q => packL (finF pk jt l v np nj days q))]) := by
  refine K_enter (S := []) (K := []) Tryd.func10 rfl Tryd.ntmps10 rfl (Sat.start _) ?_
  refine TW.seq fun Y1 hY1 => ?_
  refine TW.region ?_
  refine TL.m Mk.bx ?_
  intro b1
  refine TL.m Mk.bx ?_
  intro b2
  refine TL.m Mk.bx ?_
  intro b3
  refine TL.m Mk.bx ?_
  intro b4
  refine TL.m (Mk.al ty_zr26) ?_
  intro b5
  refine TL.p Pu.as ?_
  refine TL.nil ?_
  refine TQ.thenN (hY1 _ _ ?_)
  refine TW.seq fun Y2 hY2 => ?_
  refine TW.region ?_
  refine TL.p Pu.fn ?_
  refine TL.call rfl (enters Tryd.func29 rfl rfl) (M := [.blk b5 26 [.slice none 0 0]]) (List.Perm.refl _) rfl (fun w hw => by
      have hB1 : Blk w b1 26 #[.slice A np cp] := hw.holds (.blk b1 26 [.slice A np cp]) (by simp)
      have hB2 : Blk w b2 27 #[.slice A2 m cp2] := hw.holds (.blk b2 27 [.slice A2 m cp2]) (by simp)
      have hB3 : Blk w b3 28 #[.slice A3 nj cp3] := hw.holds (.blk b3 28 [.slice A3 nj cp3]) (by simp)
      have hB4 : Blk w b4 3 #[.int .i64 days] := hw.holds (.blk b4 3 [.int .i64 days]) (by simp)
      have hnd := hw.nd
      simp [feet, Fact.foot] at hnd
      have hge : ∀ b ∈ [b5], _ ≤ b := fun b hb => by
        have := hw.ge b (by rw [List.mem_singleton] at hb; subst hb; simp [feet, Fact.foot])
        exact this.resolve_left (by simp)
      have hsub : Sat [] _ [.blk b5 26 [.slice none 0 0]] w := hw.sub (KSub.cons Pick.hd KSub.nil)
      have hbel := Chg.ext hw.chg
      have ht := trying_any (M := [.blk b5 26 [.slice none 0 0]]) (code := jcode np pk m l v nj jt days) (fs := []) (cs := [.pointer (some ⟨b1, 0, none⟩), .pointer (some ⟨b2, 0, none⟩), .pointer (some ⟨b4, 0, none⟩), .pointer (some ⟨b3, 0, none⟩), .pointer (some ⟨b5, 0, none⟩)]) (enters Tryd.func30 rfl rfl) hsub.self fun w' hw' => by
        have m5 : ∀ b, b ≠ b5 → b ∉ feet [.blk b5 26 [.slice none 0 0]] := fun b h => by simpa [feet, Fact.foot] using h
        refine jolted1_any hLay hJ hnj (old_below hbel hw' (by simpa [feet, Fact.foot] using hge)) (hge b5 (by simp)) ((OldB.of_blk (cs := [_]) hB1).sat hw' (m5 _ ?_)) ((OldB.of_blk (cs := [_]) hB2).sat hw' (m5 _ ?_)) ((OldB.of_blk (cs := [_]) hB4).sat hw' (m5 _ ?_)) ((OldB.of_blk (cs := [_]) hB3).sat hw' (m5 _ ?_)) ?_ ?_ ?_ ?_ hw'.self
        all_goals (intro e; subst e; simp at hnd)
      refine Calls.mono (R' := fun e w' => ∃ x : Option Addr × Nat, e = .returned (.int .i64 (jcode np pk m l v nj jt days)) ∧ Sat (feet [.blk b5 26 [.slice none 0 0]]) w [.blk b5 26 [.slice x.1 (jn np pk m l v nj jt days) x.2], .own x.1 (jn np pk m l v nj jt days) x.2 25 11 (fun q => packL (finF pk jt l v np nj days q))] w') ht ?_
      rintro e w' ⟨x, he, hs⟩
      by_cases h0 : jcode np pk m l v nj jt days = 0
      · refine ⟨x, he, ?_⟩
        replace hs : Sat _ w (if jcode np pk m l v nj jt days = 0 then _ else _) w' := hs
        rw [if_pos h0] at hs
        unfold jn
        rw [if_pos h0]
        exact hs
      · refine ⟨(none, 0), he, ?_⟩
        replace hs : Sat _ w (if jcode np pk m l v nj jt days = 0 then _ else _) w' := hs
        rw [if_neg h0] at hs
        unfold jn
        rw [if_neg h0]
        exact hs.sub (KSub.cons Pick.hd (KSub.nilOwn KSub.nil))) ?_
  rintro ⟨Ax, cx⟩
  refine TL.p Pu.as ?_
  refine TL.nil ?_
  refine TQ.thenN (hY2 _ _ ?_)
  refine TW.seq fun Y3 hY3 => ?_
  refine TW.region ?_
  refine TL.p (Pu.ld ty_sc26) ?_
  refine TL.p Pu.mv ?_
  first | refine TL.st ty_sz26 ?_ | refine TL.se ty_sz26 ?_
  refine TL.p Pu.as ?_
  refine TL.nil ?_
  refine TQ.thenN (hY3 _ _ ?_)
  refine TW.ret ?_
  refine TQ.ret Tryd.results10 rfl ((RV.c1 ty_sc26 (.tmp rfl .nil))) ?_
  exact fun w hw => ⟨(Ax, cx), rfl, hw.sub (KSub.cons (by repeat (first | exact Pick.hd | apply Pick.tl)) KSub.nil)⟩
end Go.Proofs.YtagcnokaajinlaaDoor
