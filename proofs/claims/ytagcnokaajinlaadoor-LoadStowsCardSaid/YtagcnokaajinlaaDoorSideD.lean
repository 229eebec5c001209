/-
  One load: its lists together; load's Sides.
-/
import Derived.Test.YtagcnokaajinlaaDoorSideC
namespace Go.Proofs.YtagcnokaajinlaaDoor
set_option linter.all false
set_option linter.unusedVariables false
set_option linter.unusedSimpArgs false
open Go.RowKit
/-- The numbers of a load's lists, one behind the other. -/
def catI (l : Nat → Nat) (v : Nat → Nat → Int) (k : Nat) : Int := if k < l 0 + l 1 then (if k < l 0 then v 0 k else v 1 (k - l 0)) else v 2 (k - (l 0 + l 1))
theorem catN_catI (l : Nat → Nat) (v : Nat → Nat → Int) : catN l (fun i k => [.int .i64 (v i k)]) 3 = fun k => [.int .i64 (catI l v k)] := by
  rw [cat3]
  funext k
  simp only [catR, catI]
  split
  · split <;> rfl
  · rfl
/-- Packs and one load. -/
structure Lay1 (w : World) (A : Option Addr) (np : Nat) (pk : Nat → Nat → Int) (a : Nat → Option Addr) (l : Nat → Nat) (v : Nat → Nat → Int) : Prop where
  hG : None0 w
  hnp : np ≤ 1000000000
  hR : RdR w 11 A np (fun k => packL (pk k))
  hI : ∀ j, j < 3 → RdR w 1 (a j) (l j) (fun k => [.int .i64 (v j k)])
  hL : tot l 3 ≤ 1000
def check1 (np : Nat) (pk : Nat → Nat → Int) (l : Nat → Nat) (v : Nat → Nat → Int) : Int := checkV np pk 1 (fun _ => l) (fun _ => v)
section
variable {w w' : World} {A : Option Addr} {np : Nat} {pk : Nat → Nat → Int} {a : Nat → Option Addr} {l c : Nat → Nat} {v : Nat → Nat → Int}
theorem Lay1.sat {K : List Fact} (h : Lay1 w A np pk a l v) (hs : Sat [] w K w') : Lay1 w' A np pk a l v :=
  ⟨h.hG.sat hs (by simp), h.hnp, h.hR.sat hs Apart.nil, fun j hj => (h.hI j hj).sat hs Apart.nil, h.hL⟩
theorem Lay1.ext (h : Lay1 w A np pk a l v) (hb : Below w.heap.size w w') : Lay1 w' A np pk a l v := h.sat (Sat.nil (Chg.of_ext hb))
theorem Lay1.lay {b : Nat} {E : TypeId} (h : Lay1 w A np pk a l v) (hB : Blk w b E (tieL a l c).toArray) : Lay w A (some ⟨b, 0, none⟩) np 1 pk (fun _ => a) (fun _ => l) (fun _ => c) (fun _ => v) :=
  ⟨h.hG, h.hnp, by decide, h.hR, RdR.blk (n := 1) (cs := tieL a l c) hB rfl (fun i _ => rfl), fun i _ j hj => h.hI j hj, fun i _ => h.hL⟩
theorem rise_inx {u : Nat → Int} {n N : Nat} (h : allB n (riseP u N) = true) : Inx u n N := fun k hk => by
  have h1 := rise_lo (v := u) (N := N) (by omega) k fun j hj => allB_iff.1 h j (by omega)
  have h2 := allB_iff.1 h k hk
  simp only [riseP, inB5, Bool.and_eq_true, decide_eq_true_eq] at h2
  omega
theorem check1_ok (h : check1 np pk l v = 0) : np ≤ 30 ∧ (∀ q, q < np → packOk (pk q) = true) ∧ (∀ j, j < 3 → Inx (v j) (l j) np) ∧ tot l 3 ≤ 10 := by
  obtain ⟨h1, h2, h3⟩ := check_ok h
  obtain ⟨h4, h5⟩ := h3 0 (by omega)
  exact ⟨h1, h2, fun j hj => rise_inx (h4 j hj), h5⟩
theorem inx_cat (h : ∀ j, j < 3 → Inx (v j) (l j) np) : Inx (catI l v) (tot l 3) np := fun k hk => by
  rw [tot3] at hk
  unfold catI
  split
  · split
    · exact h 0 (by omega) k (by omega)
    · exact h 1 (by omega) _ (by omega)
  · exact h 2 (by omega) _ (by omega)
end
def wlo (pk : Nat → Nat → Int) (v : Nat → Int) (n : Nat) : Int := wS (fun q => rl (pk q)) v n
def whi (pk : Nat → Nat → Int) (v : Nat → Int) (n : Nat) : Int := wS (fun q => rh (pk q)) v n
theorem apart_of {S : List Nat} {b : Nat} (h : b ∉ S) : Apart S (some ⟨b, 0, none⟩) := fun q hq => by cases hq; exact h
theorem Doing.no {M K : List Fact} {X : Type} {L : X → List Fact} {code code' : Int} {w w' : World} (x : X) (hc : code' ≠ 0) (e : code = code') (hL : code ≠ 0 → L x = M) (hs : Sat (feet M) w K w') (hK : KSub K M) :
    ∃ x : X, Sat (feet M) w (L x) w' ∧ Ending.panicked (errs code') = if code = 0 then .returned (.tuple #[]) else .panicked (errs code) := by
  subst e
  exact ⟨x, by rw [hL hc]; exact hs.sub hK, by rw [if_neg hc]⟩
theorem Doing.yes {M K N : List Fact} {X : Type} {L : X → List Fact} {code : Int} {w w' : World} (x : X) (hc : code = 0) (hL : code = 0 → L x = N) (hs : Sat (feet M) w K w') (hK : KSub K N) :
    ∃ x : X, Sat (feet M) w (L x) w' ∧ Ending.returned (.tuple #[]) = if code = 0 then .returned (.tuple #[]) else .panicked (errs code) :=
  ⟨x, by rw [hL hc]; exact hs.sub hK, by rw [if_pos hc]⟩
set_option maxRecDepth 100000 in
set_option maxHeartbeats 400000 in
theorem sides1_any {W0 w : World} {A : Option Addr} {np cp bp bt x y z : Nat} {pk : Nat → Nat → Int} {a : Nat → Option Addr} {l c : Nat → Nat} {v : Nat → Nat → Int}
    (hL : Lay1 W0 A np pk a l v) (hb : Below W0.heap.size W0 w) (hS : ∀ b ∈ [z, y, x], W0.heap.size ≤ b)
    (h1 : OldB w bp [.slice A np cp]) (h2 : OldB w bt (tieL a l c)) (n1 : bp ∉ [z, y, x]) (n2 : bt ∉ [z, y, x])
    (hM : Sat [z, y, x] w [.blk z 23 (spL 0 0), .blk y 23 (spL 0 0), .blk x 23 (spL 0 0)] w) :
    Doing Tryd.prog 55 #[.pointer (some ⟨bp, 0, none⟩), .pointer (some ⟨bt, 0, none⟩), .pointer (some ⟨x, 0, none⟩), .pointer (some ⟨y, 0, none⟩), .pointer (some ⟨z, 0, none⟩)] [.blk z 23 (spL 0 0), .blk y 23 (spL 0 0), .blk x 23 (spL 0 0)] Unit
      (fun _ => if check1 np pk l v = 0 then [.blk z 23 (spL (wlo pk (catI l v) (tot l 3)) (whi pk (catI l v) (tot l 3))), .blk y 23 (spL (wlo pk (v 1) (l 1)) (whi pk (v 1) (l 1))), .blk x 23 (spL (wlo pk (v 0) (l 0)) (whi pk (v 0) (l 0)))] else [.blk z 23 (spL 0 0), .blk y 23 (spL 0 0), .blk x 23 (spL 0 0)]) (check1 np pk l v) w := by
  have hnp := hL.hnp
  have ap1 := apart_of n1
  have ap2 := apart_of n2
  have hL1 := hL.ext hb
  refine K_enter (args := [.pointer (some ⟨bp, 0, none⟩), .pointer (some ⟨bt, 0, none⟩), .pointer (some ⟨x, 0, none⟩), .pointer (some ⟨y, 0, none⟩), .pointer (some ⟨z, 0, none⟩)]) (S := [z, y, x]) (K := [.blk z 23 (spL 0 0), .blk y 23 (spL 0 0), .blk x 23 (spL 0 0)]) Tryd.func55 rfl Tryd.ntmps55 rfl hM ?_
  refine TW.seq fun Y1 hY1 => ?_
  refine TW.region ?_
  refine TL.p (by first | exact (Pu.ld ty_sc26) | exact (Pu.ldo ty_sc26)) ?_
  refine TL.p (by first | exact (Pu.lds ty_ag59) | exact (Pu.ldso ty_ag59)) ?_
  refine TL.m Mk.bl ?_
  intro b1
  refine TL.ct rfl (enters Tryd.func31 rfl rfl) (fun w hw => by
      have hLw := (hL.ext (old_below hb hw hS)).lay (c := c) (b := b1) (E := 59) (hw.holds (.blk b1 59 (tieL a l c)) (by simp [tieL]))
      exact hLw.check) (fun hp1 => ?_) (fun hp1 => ?_)
  rotate_left
  · refine TQ.thenP ?_
    refine TQ.pan rfl ?_
    exact fun w hw => Doing.no () hp1 rfl (fun h => if_neg h) hw (by repeat (first | exact KSub.nil | refine KSub.cons (by repeat (first | exact Pick.hd | apply Pick.tl)) ?_))
  refine TL.nil ?_
  refine TQ.thenN (hY1 _ _ ?_)
  refine TW.seq fun Y2 hY2 => ?_
  refine TW.dw 5 ?_
  refine RK.tk (by first | exact (Pu.lds ty_ag59) | exact (Pu.ldso ty_ag59)) ?_
  refine RK.tk (by first | exact (Pu.ld ty_sc26) | exact (Pu.ldo ty_sc26)) ?_
  refine RK.keep ?_
  refine RK.keep ?_
  refine RK.float [.slice none 0 0, .slice none 0 0, .slice none 0 0, .slice none 0 0] ?_
  refine RK.ch [false, true] ?_ ⟨ty_zr98, trivial⟩
  refine WK.call rfl (enters Tryd.func46 rfl rfl) rfl (fun w hw => by
      have hLw := hL.ext (old_below hb hw hS)
      exact rests_any hLw.hG hnp (check1_ok hp1).2.1 hLw.hR) ?_
  rintro ⟨Ar, cr⟩
  refine WK.p Pu.bd ?_
  refine WK.n ?_
  intro b2
  first | refine TL.st ty_sz98 ?_ | refine TL.se ty_sz98 ?_
  refine TL.nil ?_
  refine TQ.thenN (hY2 _ _ ?_)
  refine TW.dw 14 ?_
  refine RK.tk (by first | exact (Pu.lds ty_ag98) | exact (Pu.ldso ty_ag98)) ?_
  refine RK.tk (by first | exact Pu.fb ty_fa98_0 | exact Pu.fe ty_fa98_0) ?_
  refine RK.tk (by first | exact Pu.fb ty_fa59_0 | exact Pu.fe ty_fa59_0) ?_
  refine RK.tk (by first | exact (Pu.ld ty_sc47) | exact (Pu.ldo ty_sc47)) ?_
  refine RK.keep ?_
  refine RK.tk (by first | exact (Pu.lds ty_ag98) | exact (Pu.ldso ty_ag98)) ?_
  refine RK.tk (by first | exact Pu.fb ty_fa98_0 | exact Pu.fe ty_fa98_0) ?_
  refine RK.tk (by first | exact Pu.fb ty_fa59_1 | exact Pu.fe ty_fa59_1) ?_
  refine RK.tk (by first | exact (Pu.ld ty_sc47) | exact (Pu.ldo ty_sc47)) ?_
  refine RK.keep ?_
  refine RK.tk (by first | exact (Pu.lds ty_ag98) | exact (Pu.ldso ty_ag98)) ?_
  refine RK.tk (by first | exact (Pu.lds ty_ag59) | exact (Pu.ldso ty_ag59)) ?_
  refine RK.keep ?_
  refine RK.keep ?_
  refine RK.ch [false, false, false, false] ?_ trivial
  refine WK.cr rfl (enters Tryd.func49 rfl rfl) (fun w hw => by
      have hLw := hL.ext (old_below hb hw hS)
      obtain ⟨k1, k2, k3, k4⟩ := check1_ok hp1
      rw [tot3] at k4
      have hRr := OwnR.rdr (hw.holds (.own Ar np cr 23 2 (fun q => spL (rl (pk q)) (rh (pk q)))) (by simp))
      exact weight_any (a := a) (l := l) (c := c) (Ar := Ar) (cr := cr) (cp := c 0) (RestOk.of_packs k2) (show l 0 ≤ 1000 by omega) (k3 0 (by omega)) hRr (hLw.hI 0 (by omega))) ?_
  refine WK.cr rfl (enters Tryd.func49 rfl rfl) (fun w hw => by
      have hLw := hL.ext (old_below hb hw hS)
      obtain ⟨k1, k2, k3, k4⟩ := check1_ok hp1
      rw [tot3] at k4
      have hRr := OwnR.rdr (hw.holds (.own Ar np cr 23 2 (fun q => spL (rl (pk q)) (rh (pk q)))) (by simp))
      exact weight_any (a := a) (l := l) (c := c) (Ar := Ar) (cr := cr) (cp := c 1) (RestOk.of_packs k2) (show l 1 ≤ 1000 by omega) (k3 1 (by omega)) hRr (hLw.hI 1 (by omega))) ?_
  refine WK.call rfl (enters Tryd.func50 rfl rfl) rfl (fun w hw => by
      have hLw := hL.ext (old_below hb hw hS)
      have h9 := all_any (a := a) (l := l) (c := c) (v := v) (by have := hL.hL; omega) hLw.hI
      rw [catN_catI] at h9
      exact h9) ?_
  rintro ⟨Ac, cc⟩
  refine WK.cr rfl (enters Tryd.func49 rfl rfl) (fun w hw => by
      have hLw := hL.ext (old_below hb hw hS)
      obtain ⟨k1, k2, k3, k4⟩ := check1_ok hp1
      rw [tot3] at k4
      have hRr := OwnR.rdr (hw.holds (.own Ar np cr 23 2 (fun q => spL (rl (pk q)) (rh (pk q)))) (by simp))
      exact weight_any (a := a) (l := l) (c := c) (Ar := Ar) (cr := cr) (v := catI l v) (RestOk.of_packs k2) (show tot l 3 ≤ 1000 by rw [tot3]; omega) (inx_cat k3) hRr (OwnR.rdr (hw.holds (.own Ac (tot l 3) cc 3 1 (fun k => [.int .i64 (catI l v k)])) (by simp)))) ?_
  refine WK.n ?_
  first | refine TL.st ty_sz23 ?_ | refine TL.se ty_sz23 ?_
  first | refine TL.st ty_sz23 ?_ | refine TL.se ty_sz23 ?_
  first | refine TL.st ty_sz23 ?_ | refine TL.se ty_sz23 ?_
  refine TL.nil ?_
  refine TQ.end Tryd.results55 rfl (.nil) ?_
  exact fun w hw => Doing.yes () hp1 (fun h => if_pos h) hw (by repeat (first | exact KSub.nil | refine KSub.cons (by repeat (first | exact Pick.hd | apply Pick.tl)) ?_))
def spV (b : Bool) (x y : Int) : Value := if b then .agg #[.int .i64 x, .int .i64 y] else .agg #[.int .i64 0, .int .i64 0]
/-- What Sides returns. -/
def sidesR (np : Nat) (pk : Nat → Nat → Int) (l : Nat → Nat) (v : Nat → Nat → Int) : List Int :=
  if check1 np pk l v = 0 then [wlo pk (v 0) (l 0), whi pk (v 0) (l 0), wlo pk (v 1) (l 1), whi pk (v 1) (l 1), wlo pk (catI l v) (tot l 3), whi pk (catI l v) (tot l 3)] else [0, 0, 0, 0, 0, 0]
def sp2 (r : List Int) (k : Nat) : List Value := spL (r.getD k 0) (r.getD (k + 1) 0)
theorem feet_new {w0 w : World} {K M : List Fact} {R : List Fact} (hs : Sat [] w0 K w) (hp : K.Perm (M ++ R)) : Sat (feet M) w M w ∧ ∀ b ∈ feet M, w0.heap.size ≤ b := by
  have h1 := hs.perm hp
  refine ⟨(Has.sat ⟨R, List.Perm.refl _⟩ h1).self, fun b hb => (h1.ge b (by rw [feet_append]; simp [hb])).resolve_left (by simp)⟩
set_option maxRecDepth 100000 in
set_option maxHeartbeats 1000000 in
theorem loadSides_any {w : World} {A : Option Addr} {np cp : Nat} {pk : Nat → Nat → Int} {a : Nat → Option Addr} {l c : Nat → Nat} {v : Nat → Nat → Int} (hL : Lay1 w A np pk a l v) :
    Calls Tryd.prog 19 #[.slice A np cp, .agg (tieL a l c).toArray] w (Ret w (.tuple #[.agg (sp2 (sidesR np pk l v) 0).toArray, .agg (sp2 (sidesR np pk l v) 2).toArray, .agg (sp2 (sidesR np pk l v) 4).toArray, .int .i64 (check1 np pk l v)])) := by
  refine K_enter (S := []) (K := []) Tryd.func19 rfl Tryd.ntmps19 rfl (Sat.start _) ?_
  refine TW.seq fun Y1 hY1 => ?_
  refine TW.region ?_
  refine TL.m Mk.bx ?_
  intro b1
  refine TL.m Mk.bx ?_
  intro b2
  refine TL.m (Mk.al ty_zr23) ?_
  intro b3
  refine TL.m (Mk.al ty_zr23) ?_
  intro b4
  refine TL.m (Mk.al ty_zr23) ?_
  intro b5
  refine TL.p Pu.as ?_
  refine TL.nil ?_
  refine TQ.thenN (hY1 _ _ ?_)
  refine TW.seq fun Y2 hY2 => ?_
  refine TW.region ?_
  refine TL.p Pu.fn ?_
  refine TL.call rfl (enters Tryd.func29 rfl rfl) (M := [.blk b5 23 (spL 0 0), .blk b4 23 (spL 0 0), .blk b3 23 (spL 0 0)]) (List.Perm.refl _) rfl (fun w hw => by
      have hB1 : Blk w b1 26 #[.slice A np cp] := hw.holds (.blk b1 26 [.slice A np cp]) (by simp)
      have hB2 : Blk w b2 59 (tieL a l c).toArray := hw.holds (.blk b2 59 (tieL a l c)) (by simp [tieL])
      have hnd := hw.nd
      simp [feet, Fact.foot] at hnd
      obtain ⟨hself, hge⟩ := feet_new (M := [.blk b5 23 (spL 0 0), .blk b4 23 (spL 0 0), .blk b3 23 (spL 0 0)]) hw (List.Perm.refl _)
      have hbel := Chg.ext hw.chg
      have m1 : b1 ∉ [b5, b4, b3] := by simp; omega
      have m2 : b2 ∉ [b5, b4, b3] := by simp; omega
      have ht := trying_any (M := [.blk b5 23 (spL 0 0), .blk b4 23 (spL 0 0), .blk b3 23 (spL 0 0)]) (code := check1 np pk l v) (fs := []) (cs := [.pointer (some ⟨b1, 0, none⟩), .pointer (some ⟨b2, 0, none⟩), .pointer (some ⟨b3, 0, none⟩), .pointer (some ⟨b4, 0, none⟩), .pointer (some ⟨b5, 0, none⟩)]) (enters Tryd.func55 rfl rfl) hself fun w' hw' =>
        sides1_any (c := c) (cp := cp) hL (old_below hbel hw' hge) hge ((OldB.of_blk (cs := [_]) hB1).sat hw' m1) ((OldB.of_blk hB2).sat hw' m2) m1 m2 hw'.self
      refine Calls.mono (R' := fun e w' => ∃ x : Unit, e = .returned (.int .i64 (check1 np pk l v)) ∧ Sat (feet [.blk b5 23 (spL 0 0), .blk b4 23 (spL 0 0), .blk b3 23 (spL 0 0)]) w [.blk b5 23 (sp2 (sidesR np pk l v) 4), .blk b4 23 (sp2 (sidesR np pk l v) 2), .blk b3 23 (sp2 (sidesR np pk l v) 0)] w') ht ?_
      rintro e w' ⟨x, he, hs⟩
      refine ⟨(), he, ?_⟩
      unfold sidesR
      by_cases h0 : check1 np pk l v = 0
      · replace hs : Sat _ w (if check1 np pk l v = 0 then _ else _) w' := hs
        rw [if_pos h0] at hs
        rw [if_pos h0]
        exact hs
      · replace hs : Sat _ w (if check1 np pk l v = 0 then _ else _) w' := hs
        rw [if_neg h0] at hs
        rw [if_neg h0]
        exact hs) ?_
  rintro ⟨⟩
  refine TL.p Pu.as ?_
  refine TL.nil ?_
  refine TQ.thenN (hY2 _ _ ?_)
  refine TW.seq fun Y3 hY3 => ?_
  refine TW.ex0 (Drop.blk 4 rfl (by repeat (first | exact Pick.hd | apply Pick.tl)) (Drop.blk 5 rfl (by repeat (first | exact Pick.hd | apply Pick.tl)) (Drop.blk 6 rfl (by repeat (first | exact Pick.hd | apply Pick.tl)) Drop.done))) ?_
  refine RG.tk 3 rfl Pu.mv ?_
  refine RG.a3 0 1 2 rfl rfl rfl (fun X0 hX0 => ?_) (fun X1 hX1 => ?_) (fun X2 hX2 => ?_)
  · refine TL.p (Pu.lds ty_ag23) ?_
    refine TL.nil ?_
    refine TQ.nxt (hX0 _ _ (by repeat (first | exact HasL.nil | refine HasL.cons (by repeat (first | exact Pick.hd | apply Pick.tl)) ?_)) ?_)
    refine RG.a3 1 2 4 rfl rfl rfl (fun X1 hX1 => ?_) (fun X2 hX2 => ?_) (fun X4 hX4 => ?_)
    · refine TL.p (Pu.lds ty_ag23) ?_
      refine TL.nil ?_
      refine TQ.nxt (hX1 _ _ (by repeat (first | exact HasL.nil | refine HasL.cons (by repeat (first | exact Pick.hd | apply Pick.tl)) ?_)) ?_)
      refine RG.a2 2 4 rfl rfl (fun X2 hX2 => ?_) (fun X4 hX4 => ?_)
      · refine TL.p (Pu.lds ty_ag23) ?_
        refine TL.nil ?_
        refine TQ.nxt (hX2 _ _ (by repeat (first | exact HasL.nil | refine HasL.cons (by repeat (first | exact Pick.hd | apply Pick.tl)) ?_)) ?_)
        refine RG.a1 4 rfl (fun X4 hX4 => ?_)
        first | refine TL.st ty_sz23 ?_ | refine TL.se ty_sz23 ?_
        refine TL.nil ?_
        refine TQ.nxt (hX4 _ _ (by repeat (first | exact HasL.nil | refine HasL.cons (by repeat (first | exact Pick.hd | apply Pick.tl)) ?_)) ?_)
        refine RG.a1 5 rfl (fun X5 hX5 => ?_)
        first | refine TL.st ty_sz23 ?_ | refine TL.se ty_sz23 ?_
        refine TL.nil ?_
        refine TQ.nxt (hX5 _ _ (by repeat (first | exact HasL.nil | refine HasL.cons (by repeat (first | exact Pick.hd | apply Pick.tl)) ?_)) ?_)
        refine RG.a1 6 rfl (fun X6 hX6 => ?_)
        first | refine TL.st ty_sz23 ?_ | refine TL.se ty_sz23 ?_
        refine TL.nil ?_
        refine TQ.nxt (hX6 _ _ (by repeat (first | exact HasL.nil | refine HasL.cons (by repeat (first | exact Pick.hd | apply Pick.tl)) ?_)) ?_)
        refine RG.tk 7 rfl Pu.as ?_
        refine RG.nil ?_ (by kernel_rfl)
        refine TQ.thenN (hY3 _ _ ?_)
        refine TW.ret ?_
        refine TQ.ret Tryd.results19 rfl ((RV.cs ty_ag23 (RV.cs ty_ag23 (RV.cs ty_ag23 (.tmp rfl .nil))))) ?_
        exact fun w hw => Ret.of hw
      · first | refine TL.st ty_sz23 ?_ | refine TL.se ty_sz23 ?_
        refine TL.nil ?_
        refine TQ.nxt (hX4 _ _ (by repeat (first | exact HasL.nil | refine HasL.cons (by repeat (first | exact Pick.hd | apply Pick.tl)) ?_)) ?_)
        refine RG.a2 2 5 rfl rfl (fun X2 hX2 => ?_) (fun X5 hX5 => ?_)
        · refine TL.p (Pu.lds ty_ag23) ?_
          refine TL.nil ?_
          refine TQ.nxt (hX2 _ _ (by repeat (first | exact HasL.nil | refine HasL.cons (by repeat (first | exact Pick.hd | apply Pick.tl)) ?_)) ?_)
          refine RG.a1 5 rfl (fun X5 hX5 => ?_)
          first | refine TL.st ty_sz23 ?_ | refine TL.se ty_sz23 ?_
          refine TL.nil ?_
          refine TQ.nxt (hX5 _ _ (by repeat (first | exact HasL.nil | refine HasL.cons (by repeat (first | exact Pick.hd | apply Pick.tl)) ?_)) ?_)
          refine RG.a1 6 rfl (fun X6 hX6 => ?_)
          first | refine TL.st ty_sz23 ?_ | refine TL.se ty_sz23 ?_
          refine TL.nil ?_
          refine TQ.nxt (hX6 _ _ (by repeat (first | exact HasL.nil | refine HasL.cons (by repeat (first | exact Pick.hd | apply Pick.tl)) ?_)) ?_)
          refine RG.tk 7 rfl Pu.as ?_
          refine RG.nil ?_ (by kernel_rfl)
          refine TQ.thenN (hY3 _ _ ?_)
          refine TW.ret ?_
          refine TQ.ret Tryd.results19 rfl ((RV.cs ty_ag23 (RV.cs ty_ag23 (RV.cs ty_ag23 (.tmp rfl .nil))))) ?_
          exact fun w hw => Ret.of hw
        · first | refine TL.st ty_sz23 ?_ | refine TL.se ty_sz23 ?_
          refine TL.nil ?_
          refine TQ.nxt (hX5 _ _ (by repeat (first | exact HasL.nil | refine HasL.cons (by repeat (first | exact Pick.hd | apply Pick.tl)) ?_)) ?_)
          refine RG.a1 2 rfl (fun X2 hX2 => ?_)
          refine TL.p (Pu.lds ty_ag23) ?_
          refine TL.nil ?_
          refine TQ.nxt (hX2 _ _ (by repeat (first | exact HasL.nil | refine HasL.cons (by repeat (first | exact Pick.hd | apply Pick.tl)) ?_)) ?_)
          refine RG.a1 6 rfl (fun X6 hX6 => ?_)
          first | refine TL.st ty_sz23 ?_ | refine TL.se ty_sz23 ?_
          refine TL.nil ?_
          refine TQ.nxt (hX6 _ _ (by repeat (first | exact HasL.nil | refine HasL.cons (by repeat (first | exact Pick.hd | apply Pick.tl)) ?_)) ?_)
          refine RG.tk 7 rfl Pu.as ?_
          refine RG.nil ?_ (by kernel_rfl)
          refine TQ.thenN (hY3 _ _ ?_)
          refine TW.ret ?_
          refine TQ.ret Tryd.results19 rfl ((RV.cs ty_ag23 (RV.cs ty_ag23 (RV.cs ty_ag23 (.tmp rfl .nil))))) ?_
          exact fun w hw => Ret.of hw
    · refine TL.p (Pu.lds ty_ag23) ?_
      refine TL.nil ?_
      refine TQ.nxt (hX2 _ _ (by repeat (first | exact HasL.nil | refine HasL.cons (by repeat (first | exact Pick.hd | apply Pick.tl)) ?_)) ?_)
      refine RG.a2 1 4 rfl rfl (fun X1 hX1 => ?_) (fun X4 hX4 => ?_)
      · refine TL.p (Pu.lds ty_ag23) ?_
        refine TL.nil ?_
        refine TQ.nxt (hX1 _ _ (by repeat (first | exact HasL.nil | refine HasL.cons (by repeat (first | exact Pick.hd | apply Pick.tl)) ?_)) ?_)
        refine RG.a1 4 rfl (fun X4 hX4 => ?_)
        first | refine TL.st ty_sz23 ?_ | refine TL.se ty_sz23 ?_
        refine TL.nil ?_
        refine TQ.nxt (hX4 _ _ (by repeat (first | exact HasL.nil | refine HasL.cons (by repeat (first | exact Pick.hd | apply Pick.tl)) ?_)) ?_)
        refine RG.a1 5 rfl (fun X5 hX5 => ?_)
        first | refine TL.st ty_sz23 ?_ | refine TL.se ty_sz23 ?_
        refine TL.nil ?_
        refine TQ.nxt (hX5 _ _ (by repeat (first | exact HasL.nil | refine HasL.cons (by repeat (first | exact Pick.hd | apply Pick.tl)) ?_)) ?_)
        refine RG.a1 6 rfl (fun X6 hX6 => ?_)
        first | refine TL.st ty_sz23 ?_ | refine TL.se ty_sz23 ?_
        refine TL.nil ?_
        refine TQ.nxt (hX6 _ _ (by repeat (first | exact HasL.nil | refine HasL.cons (by repeat (first | exact Pick.hd | apply Pick.tl)) ?_)) ?_)
        refine RG.tk 7 rfl Pu.as ?_
        refine RG.nil ?_ (by kernel_rfl)
        refine TQ.thenN (hY3 _ _ ?_)
        refine TW.ret ?_
        refine TQ.ret Tryd.results19 rfl ((RV.cs ty_ag23 (RV.cs ty_ag23 (RV.cs ty_ag23 (.tmp rfl .nil))))) ?_
        exact fun w hw => Ret.of hw
      · first | refine TL.st ty_sz23 ?_ | refine TL.se ty_sz23 ?_
        refine TL.nil ?_
        refine TQ.nxt (hX4 _ _ (by repeat (first | exact HasL.nil | refine HasL.cons (by repeat (first | exact Pick.hd | apply Pick.tl)) ?_)) ?_)
        refine RG.a1 1 rfl (fun X1 hX1 => ?_)
        refine TL.p (Pu.lds ty_ag23) ?_
        refine TL.nil ?_
        refine TQ.nxt (hX1 _ _ (by repeat (first | exact HasL.nil | refine HasL.cons (by repeat (first | exact Pick.hd | apply Pick.tl)) ?_)) ?_)
        refine RG.a1 5 rfl (fun X5 hX5 => ?_)
        first | refine TL.st ty_sz23 ?_ | refine TL.se ty_sz23 ?_
        refine TL.nil ?_
        refine TQ.nxt (hX5 _ _ (by repeat (first | exact HasL.nil | refine HasL.cons (by repeat (first | exact Pick.hd | apply Pick.tl)) ?_)) ?_)
        refine RG.a1 6 rfl (fun X6 hX6 => ?_)
        first | refine TL.st ty_sz23 ?_ | refine TL.se ty_sz23 ?_
        refine TL.nil ?_
        refine TQ.nxt (hX6 _ _ (by repeat (first | exact HasL.nil | refine HasL.cons (by repeat (first | exact Pick.hd | apply Pick.tl)) ?_)) ?_)
        refine RG.tk 7 rfl Pu.as ?_
        refine RG.nil ?_ (by kernel_rfl)
        refine TQ.thenN (hY3 _ _ ?_)
        refine TW.ret ?_
        refine TQ.ret Tryd.results19 rfl ((RV.cs ty_ag23 (RV.cs ty_ag23 (RV.cs ty_ag23 (.tmp rfl .nil))))) ?_
        exact fun w hw => Ret.of hw
    · first | refine TL.st ty_sz23 ?_ | refine TL.se ty_sz23 ?_
      refine TL.nil ?_
      refine TQ.nxt (hX4 _ _ (by repeat (first | exact HasL.nil | refine HasL.cons (by repeat (first | exact Pick.hd | apply Pick.tl)) ?_)) ?_)
      refine RG.a2 1 2 rfl rfl (fun X1 hX1 => ?_) (fun X2 hX2 => ?_)
      · refine TL.p (Pu.lds ty_ag23) ?_
        refine TL.nil ?_
        refine TQ.nxt (hX1 _ _ (by repeat (first | exact HasL.nil | refine HasL.cons (by repeat (first | exact Pick.hd | apply Pick.tl)) ?_)) ?_)
        refine RG.a2 2 5 rfl rfl (fun X2 hX2 => ?_) (fun X5 hX5 => ?_)
        · refine TL.p (Pu.lds ty_ag23) ?_
          refine TL.nil ?_
          refine TQ.nxt (hX2 _ _ (by repeat (first | exact HasL.nil | refine HasL.cons (by repeat (first | exact Pick.hd | apply Pick.tl)) ?_)) ?_)
          refine RG.a1 5 rfl (fun X5 hX5 => ?_)
          first | refine TL.st ty_sz23 ?_ | refine TL.se ty_sz23 ?_
          refine TL.nil ?_
          refine TQ.nxt (hX5 _ _ (by repeat (first | exact HasL.nil | refine HasL.cons (by repeat (first | exact Pick.hd | apply Pick.tl)) ?_)) ?_)
          refine RG.a1 6 rfl (fun X6 hX6 => ?_)
          first | refine TL.st ty_sz23 ?_ | refine TL.se ty_sz23 ?_
          refine TL.nil ?_
          refine TQ.nxt (hX6 _ _ (by repeat (first | exact HasL.nil | refine HasL.cons (by repeat (first | exact Pick.hd | apply Pick.tl)) ?_)) ?_)
          refine RG.tk 7 rfl Pu.as ?_
          refine RG.nil ?_ (by kernel_rfl)
          refine TQ.thenN (hY3 _ _ ?_)
          refine TW.ret ?_
          refine TQ.ret Tryd.results19 rfl ((RV.cs ty_ag23 (RV.cs ty_ag23 (RV.cs ty_ag23 (.tmp rfl .nil))))) ?_
          exact fun w hw => Ret.of hw
        · first | refine TL.st ty_sz23 ?_ | refine TL.se ty_sz23 ?_
          refine TL.nil ?_
          refine TQ.nxt (hX5 _ _ (by repeat (first | exact HasL.nil | refine HasL.cons (by repeat (first | exact Pick.hd | apply Pick.tl)) ?_)) ?_)
          refine RG.a1 2 rfl (fun X2 hX2 => ?_)
          refine TL.p (Pu.lds ty_ag23) ?_
          refine TL.nil ?_
          refine TQ.nxt (hX2 _ _ (by repeat (first | exact HasL.nil | refine HasL.cons (by repeat (first | exact Pick.hd | apply Pick.tl)) ?_)) ?_)
          refine RG.a1 6 rfl (fun X6 hX6 => ?_)
          first | refine TL.st ty_sz23 ?_ | refine TL.se ty_sz23 ?_
          refine TL.nil ?_
          refine TQ.nxt (hX6 _ _ (by repeat (first | exact HasL.nil | refine HasL.cons (by repeat (first | exact Pick.hd | apply Pick.tl)) ?_)) ?_)
          refine RG.tk 7 rfl Pu.as ?_
          refine RG.nil ?_ (by kernel_rfl)
          refine TQ.thenN (hY3 _ _ ?_)
          refine TW.ret ?_
          refine TQ.ret Tryd.results19 rfl ((RV.cs ty_ag23 (RV.cs ty_ag23 (RV.cs ty_ag23 (.tmp rfl .nil))))) ?_
          exact fun w hw => Ret.of hw
      · refine TL.p (Pu.lds ty_ag23) ?_
        refine TL.nil ?_
        refine TQ.nxt (hX2 _ _ (by repeat (first | exact HasL.nil | refine HasL.cons (by repeat (first | exact Pick.hd | apply Pick.tl)) ?_)) ?_)
        refine RG.a1 1 rfl (fun X1 hX1 => ?_)
        refine TL.p (Pu.lds ty_ag23) ?_
        refine TL.nil ?_
        refine TQ.nxt (hX1 _ _ (by repeat (first | exact HasL.nil | refine HasL.cons (by repeat (first | exact Pick.hd | apply Pick.tl)) ?_)) ?_)
        refine RG.a1 5 rfl (fun X5 hX5 => ?_)
        first | refine TL.st ty_sz23 ?_ | refine TL.se ty_sz23 ?_
        refine TL.nil ?_
        refine TQ.nxt (hX5 _ _ (by repeat (first | exact HasL.nil | refine HasL.cons (by repeat (first | exact Pick.hd | apply Pick.tl)) ?_)) ?_)
        refine RG.a1 6 rfl (fun X6 hX6 => ?_)
        first | refine TL.st ty_sz23 ?_ | refine TL.se ty_sz23 ?_
        refine TL.nil ?_
        refine TQ.nxt (hX6 _ _ (by repeat (first | exact HasL.nil | refine HasL.cons (by repeat (first | exact Pick.hd | apply Pick.tl)) ?_)) ?_)
        refine RG.tk 7 rfl Pu.as ?_
        refine RG.nil ?_ (by kernel_rfl)
        refine TQ.thenN (hY3 _ _ ?_)
        refine TW.ret ?_
        refine TQ.ret Tryd.results19 rfl ((RV.cs ty_ag23 (RV.cs ty_ag23 (RV.cs ty_ag23 (.tmp rfl .nil))))) ?_
        exact fun w hw => Ret.of hw
  · refine TL.p (Pu.lds ty_ag23) ?_
    refine TL.nil ?_
    refine TQ.nxt (hX1 _ _ (by repeat (first | exact HasL.nil | refine HasL.cons (by repeat (first | exact Pick.hd | apply Pick.tl)) ?_)) ?_)
    refine RG.a2 0 2 rfl rfl (fun X0 hX0 => ?_) (fun X2 hX2 => ?_)
    · refine TL.p (Pu.lds ty_ag23) ?_
      refine TL.nil ?_
      refine TQ.nxt (hX0 _ _ (by repeat (first | exact HasL.nil | refine HasL.cons (by repeat (first | exact Pick.hd | apply Pick.tl)) ?_)) ?_)
      refine RG.a2 2 4 rfl rfl (fun X2 hX2 => ?_) (fun X4 hX4 => ?_)
      · refine TL.p (Pu.lds ty_ag23) ?_
        refine TL.nil ?_
        refine TQ.nxt (hX2 _ _ (by repeat (first | exact HasL.nil | refine HasL.cons (by repeat (first | exact Pick.hd | apply Pick.tl)) ?_)) ?_)
        refine RG.a1 4 rfl (fun X4 hX4 => ?_)
        first | refine TL.st ty_sz23 ?_ | refine TL.se ty_sz23 ?_
        refine TL.nil ?_
        refine TQ.nxt (hX4 _ _ (by repeat (first | exact HasL.nil | refine HasL.cons (by repeat (first | exact Pick.hd | apply Pick.tl)) ?_)) ?_)
        refine RG.a1 5 rfl (fun X5 hX5 => ?_)
        first | refine TL.st ty_sz23 ?_ | refine TL.se ty_sz23 ?_
        refine TL.nil ?_
        refine TQ.nxt (hX5 _ _ (by repeat (first | exact HasL.nil | refine HasL.cons (by repeat (first | exact Pick.hd | apply Pick.tl)) ?_)) ?_)
        refine RG.a1 6 rfl (fun X6 hX6 => ?_)
        first | refine TL.st ty_sz23 ?_ | refine TL.se ty_sz23 ?_
        refine TL.nil ?_
        refine TQ.nxt (hX6 _ _ (by repeat (first | exact HasL.nil | refine HasL.cons (by repeat (first | exact Pick.hd | apply Pick.tl)) ?_)) ?_)
        refine RG.tk 7 rfl Pu.as ?_
        refine RG.nil ?_ (by kernel_rfl)
        refine TQ.thenN (hY3 _ _ ?_)
        refine TW.ret ?_
        refine TQ.ret Tryd.results19 rfl ((RV.cs ty_ag23 (RV.cs ty_ag23 (RV.cs ty_ag23 (.tmp rfl .nil))))) ?_
        exact fun w hw => Ret.of hw
      · first | refine TL.st ty_sz23 ?_ | refine TL.se ty_sz23 ?_
        refine TL.nil ?_
        refine TQ.nxt (hX4 _ _ (by repeat (first | exact HasL.nil | refine HasL.cons (by repeat (first | exact Pick.hd | apply Pick.tl)) ?_)) ?_)
        refine RG.a2 2 5 rfl rfl (fun X2 hX2 => ?_) (fun X5 hX5 => ?_)
        · refine TL.p (Pu.lds ty_ag23) ?_
          refine TL.nil ?_
          refine TQ.nxt (hX2 _ _ (by repeat (first | exact HasL.nil | refine HasL.cons (by repeat (first | exact Pick.hd | apply Pick.tl)) ?_)) ?_)
          refine RG.a1 5 rfl (fun X5 hX5 => ?_)
          first | refine TL.st ty_sz23 ?_ | refine TL.se ty_sz23 ?_
          refine TL.nil ?_
          refine TQ.nxt (hX5 _ _ (by repeat (first | exact HasL.nil | refine HasL.cons (by repeat (first | exact Pick.hd | apply Pick.tl)) ?_)) ?_)
          refine RG.a1 6 rfl (fun X6 hX6 => ?_)
          first | refine TL.st ty_sz23 ?_ | refine TL.se ty_sz23 ?_
          refine TL.nil ?_
          refine TQ.nxt (hX6 _ _ (by repeat (first | exact HasL.nil | refine HasL.cons (by repeat (first | exact Pick.hd | apply Pick.tl)) ?_)) ?_)
          refine RG.tk 7 rfl Pu.as ?_
          refine RG.nil ?_ (by kernel_rfl)
          refine TQ.thenN (hY3 _ _ ?_)
          refine TW.ret ?_
          refine TQ.ret Tryd.results19 rfl ((RV.cs ty_ag23 (RV.cs ty_ag23 (RV.cs ty_ag23 (.tmp rfl .nil))))) ?_
          exact fun w hw => Ret.of hw
        · first | refine TL.st ty_sz23 ?_ | refine TL.se ty_sz23 ?_
          refine TL.nil ?_
          refine TQ.nxt (hX5 _ _ (by repeat (first | exact HasL.nil | refine HasL.cons (by repeat (first | exact Pick.hd | apply Pick.tl)) ?_)) ?_)
          refine RG.a1 2 rfl (fun X2 hX2 => ?_)
          refine TL.p (Pu.lds ty_ag23) ?_
          refine TL.nil ?_
          refine TQ.nxt (hX2 _ _ (by repeat (first | exact HasL.nil | refine HasL.cons (by repeat (first | exact Pick.hd | apply Pick.tl)) ?_)) ?_)
          refine RG.a1 6 rfl (fun X6 hX6 => ?_)
          first | refine TL.st ty_sz23 ?_ | refine TL.se ty_sz23 ?_
          refine TL.nil ?_
          refine TQ.nxt (hX6 _ _ (by repeat (first | exact HasL.nil | refine HasL.cons (by repeat (first | exact Pick.hd | apply Pick.tl)) ?_)) ?_)
          refine RG.tk 7 rfl Pu.as ?_
          refine RG.nil ?_ (by kernel_rfl)
          refine TQ.thenN (hY3 _ _ ?_)
          refine TW.ret ?_
          refine TQ.ret Tryd.results19 rfl ((RV.cs ty_ag23 (RV.cs ty_ag23 (RV.cs ty_ag23 (.tmp rfl .nil))))) ?_
          exact fun w hw => Ret.of hw
    · refine TL.p (Pu.lds ty_ag23) ?_
      refine TL.nil ?_
      refine TQ.nxt (hX2 _ _ (by repeat (first | exact HasL.nil | refine HasL.cons (by repeat (first | exact Pick.hd | apply Pick.tl)) ?_)) ?_)
      refine RG.a1 0 rfl (fun X0 hX0 => ?_)
      refine TL.p (Pu.lds ty_ag23) ?_
      refine TL.nil ?_
      refine TQ.nxt (hX0 _ _ (by repeat (first | exact HasL.nil | refine HasL.cons (by repeat (first | exact Pick.hd | apply Pick.tl)) ?_)) ?_)
      refine RG.a1 4 rfl (fun X4 hX4 => ?_)
      first | refine TL.st ty_sz23 ?_ | refine TL.se ty_sz23 ?_
      refine TL.nil ?_
      refine TQ.nxt (hX4 _ _ (by repeat (first | exact HasL.nil | refine HasL.cons (by repeat (first | exact Pick.hd | apply Pick.tl)) ?_)) ?_)
      refine RG.a1 5 rfl (fun X5 hX5 => ?_)
      first | refine TL.st ty_sz23 ?_ | refine TL.se ty_sz23 ?_
      refine TL.nil ?_
      refine TQ.nxt (hX5 _ _ (by repeat (first | exact HasL.nil | refine HasL.cons (by repeat (first | exact Pick.hd | apply Pick.tl)) ?_)) ?_)
      refine RG.a1 6 rfl (fun X6 hX6 => ?_)
      first | refine TL.st ty_sz23 ?_ | refine TL.se ty_sz23 ?_
      refine TL.nil ?_
      refine TQ.nxt (hX6 _ _ (by repeat (first | exact HasL.nil | refine HasL.cons (by repeat (first | exact Pick.hd | apply Pick.tl)) ?_)) ?_)
      refine RG.tk 7 rfl Pu.as ?_
      refine RG.nil ?_ (by kernel_rfl)
      refine TQ.thenN (hY3 _ _ ?_)
      refine TW.ret ?_
      refine TQ.ret Tryd.results19 rfl ((RV.cs ty_ag23 (RV.cs ty_ag23 (RV.cs ty_ag23 (.tmp rfl .nil))))) ?_
      exact fun w hw => Ret.of hw
  · refine TL.p (Pu.lds ty_ag23) ?_
    refine TL.nil ?_
    refine TQ.nxt (hX2 _ _ (by repeat (first | exact HasL.nil | refine HasL.cons (by repeat (first | exact Pick.hd | apply Pick.tl)) ?_)) ?_)
    refine RG.a2 0 1 rfl rfl (fun X0 hX0 => ?_) (fun X1 hX1 => ?_)
    · refine TL.p (Pu.lds ty_ag23) ?_
      refine TL.nil ?_
      refine TQ.nxt (hX0 _ _ (by repeat (first | exact HasL.nil | refine HasL.cons (by repeat (first | exact Pick.hd | apply Pick.tl)) ?_)) ?_)
      refine RG.a2 1 4 rfl rfl (fun X1 hX1 => ?_) (fun X4 hX4 => ?_)
      · refine TL.p (Pu.lds ty_ag23) ?_
        refine TL.nil ?_
        refine TQ.nxt (hX1 _ _ (by repeat (first | exact HasL.nil | refine HasL.cons (by repeat (first | exact Pick.hd | apply Pick.tl)) ?_)) ?_)
        refine RG.a1 4 rfl (fun X4 hX4 => ?_)
        first | refine TL.st ty_sz23 ?_ | refine TL.se ty_sz23 ?_
        refine TL.nil ?_
        refine TQ.nxt (hX4 _ _ (by repeat (first | exact HasL.nil | refine HasL.cons (by repeat (first | exact Pick.hd | apply Pick.tl)) ?_)) ?_)
        refine RG.a1 5 rfl (fun X5 hX5 => ?_)
        first | refine TL.st ty_sz23 ?_ | refine TL.se ty_sz23 ?_
        refine TL.nil ?_
        refine TQ.nxt (hX5 _ _ (by repeat (first | exact HasL.nil | refine HasL.cons (by repeat (first | exact Pick.hd | apply Pick.tl)) ?_)) ?_)
        refine RG.a1 6 rfl (fun X6 hX6 => ?_)
        first | refine TL.st ty_sz23 ?_ | refine TL.se ty_sz23 ?_
        refine TL.nil ?_
        refine TQ.nxt (hX6 _ _ (by repeat (first | exact HasL.nil | refine HasL.cons (by repeat (first | exact Pick.hd | apply Pick.tl)) ?_)) ?_)
        refine RG.tk 7 rfl Pu.as ?_
        refine RG.nil ?_ (by kernel_rfl)
        refine TQ.thenN (hY3 _ _ ?_)
        refine TW.ret ?_
        refine TQ.ret Tryd.results19 rfl ((RV.cs ty_ag23 (RV.cs ty_ag23 (RV.cs ty_ag23 (.tmp rfl .nil))))) ?_
        exact fun w hw => Ret.of hw
      · first | refine TL.st ty_sz23 ?_ | refine TL.se ty_sz23 ?_
        refine TL.nil ?_
        refine TQ.nxt (hX4 _ _ (by repeat (first | exact HasL.nil | refine HasL.cons (by repeat (first | exact Pick.hd | apply Pick.tl)) ?_)) ?_)
        refine RG.a1 1 rfl (fun X1 hX1 => ?_)
        refine TL.p (Pu.lds ty_ag23) ?_
        refine TL.nil ?_
        refine TQ.nxt (hX1 _ _ (by repeat (first | exact HasL.nil | refine HasL.cons (by repeat (first | exact Pick.hd | apply Pick.tl)) ?_)) ?_)
        refine RG.a1 5 rfl (fun X5 hX5 => ?_)
        first | refine TL.st ty_sz23 ?_ | refine TL.se ty_sz23 ?_
        refine TL.nil ?_
        refine TQ.nxt (hX5 _ _ (by repeat (first | exact HasL.nil | refine HasL.cons (by repeat (first | exact Pick.hd | apply Pick.tl)) ?_)) ?_)
        refine RG.a1 6 rfl (fun X6 hX6 => ?_)
        first | refine TL.st ty_sz23 ?_ | refine TL.se ty_sz23 ?_
        refine TL.nil ?_
        refine TQ.nxt (hX6 _ _ (by repeat (first | exact HasL.nil | refine HasL.cons (by repeat (first | exact Pick.hd | apply Pick.tl)) ?_)) ?_)
        refine RG.tk 7 rfl Pu.as ?_
        refine RG.nil ?_ (by kernel_rfl)
        refine TQ.thenN (hY3 _ _ ?_)
        refine TW.ret ?_
        refine TQ.ret Tryd.results19 rfl ((RV.cs ty_ag23 (RV.cs ty_ag23 (RV.cs ty_ag23 (.tmp rfl .nil))))) ?_
        exact fun w hw => Ret.of hw
    · refine TL.p (Pu.lds ty_ag23) ?_
      refine TL.nil ?_
      refine TQ.nxt (hX1 _ _ (by repeat (first | exact HasL.nil | refine HasL.cons (by repeat (first | exact Pick.hd | apply Pick.tl)) ?_)) ?_)
      refine RG.a1 0 rfl (fun X0 hX0 => ?_)
      refine TL.p (Pu.lds ty_ag23) ?_
      refine TL.nil ?_
      refine TQ.nxt (hX0 _ _ (by repeat (first | exact HasL.nil | refine HasL.cons (by repeat (first | exact Pick.hd | apply Pick.tl)) ?_)) ?_)
      refine RG.a1 4 rfl (fun X4 hX4 => ?_)
      first | refine TL.st ty_sz23 ?_ | refine TL.se ty_sz23 ?_
      refine TL.nil ?_
      refine TQ.nxt (hX4 _ _ (by repeat (first | exact HasL.nil | refine HasL.cons (by repeat (first | exact Pick.hd | apply Pick.tl)) ?_)) ?_)
      refine RG.a1 5 rfl (fun X5 hX5 => ?_)
      first | refine TL.st ty_sz23 ?_ | refine TL.se ty_sz23 ?_
      refine TL.nil ?_
      refine TQ.nxt (hX5 _ _ (by repeat (first | exact HasL.nil | refine HasL.cons (by repeat (first | exact Pick.hd | apply Pick.tl)) ?_)) ?_)
      refine RG.a1 6 rfl (fun X6 hX6 => ?_)
      first | refine TL.st ty_sz23 ?_ | refine TL.se ty_sz23 ?_
      refine TL.nil ?_
      refine TQ.nxt (hX6 _ _ (by repeat (first | exact HasL.nil | refine HasL.cons (by repeat (first | exact Pick.hd | apply Pick.tl)) ?_)) ?_)
      refine RG.tk 7 rfl Pu.as ?_
      refine RG.nil ?_ (by kernel_rfl)
      refine TQ.thenN (hY3 _ _ ?_)
      refine TW.ret ?_
      refine TQ.ret Tryd.results19 rfl ((RV.cs ty_ag23 (RV.cs ty_ag23 (RV.cs ty_ag23 (.tmp rfl .nil))))) ?_
      exact fun w hw => Ret.of hw
end Go.Proofs.YtagcnokaajinlaaDoor
