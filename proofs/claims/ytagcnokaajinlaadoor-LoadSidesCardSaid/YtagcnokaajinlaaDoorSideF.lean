/-
  Whether an animal can go with a load: load's Ready and the reference's.
-/
import Derived.Test.YtagcnokaajinlaaDoorCamC
namespace Go.Proofs.YtagcnokaajinlaaDoor
set_option linter.all false
set_option linter.unusedVariables false
set_option linter.unusedSimpArgs false
open Go.RowKit
theorem KSub.val {K K' L : List Fact} {b : Nat} {E : TypeId} {k : IntKind} {i j : Int} (hp : Pick K (.blk b E [.int k i]) K') (e : i = j) (h : KSub K' L) : KSub K (.blk b E [.int k j] :: L) := by
  subst e; exact .cons hp h
def readyV (bal wl wh cl ch : Int) : Int := if ch < wl then 0 else if bal = 2 ∧ cl < wh then 1 else bal
theorem readyV_ref {bal wl wh cl ch : Int} (h : bal = 0 ∨ bal = 1 ∨ bal = 2) : readyV bal wl wh cl ch = if bal = 0 ∨ ch < wl then 0 else if bal = 2 ∧ wh ≤ cl then 2 else 1 := by
  unfold readyV
  split
  · rw [if_pos (by omega)]
  · split
    · rw [if_neg (by omega), if_neg (by omega)]
    · split
      · omega
      · split <;> omega
theorem balV_form (a b c d e : Int) : balV a b c d e = 0 ∨ balV a b c d e = 1 ∨ balV a b c d e = 2 := by
  unfold balV
  split
  · exact .inr (.inr rfl)
  · split
    · exact .inl rfl
    · exact .inr (.inl rfl)
def readyC (np : Nat) (pk : Nat → Nat → Int) (l : Nat → Nat) (v : Nat → Nat → Int) (b : Int) (f g : Nat → Int) : Int :=
  if check1 np pk l v = 0 then (if camCode f g = 0 then (if inB5 0 1000000000 b then 0 else 2) else camCode f g) else check1 np pk l v
def readyF (pk : Nat → Nat → Int) (l : Nat → Nat) (v : Nat → Nat → Int) (b : Int) (f g : Nat → Int) : Int :=
  readyV (balF pk l v b) (wlo pk (catI l v) (tot l 3)) (whi pk (catI l v) (tot l 3)) (carLo f g) (carHi f g)
def readyR (np : Nat) (pk : Nat → Nat → Int) (l : Nat → Nat) (v : Nat → Nat → Int) (b : Int) (f g : Nat → Int) : Int := if readyC np pk l v b f g = 0 then readyF pk l v b f g else 0
theorem readyC_ok {np : Nat} {pk : Nat → Nat → Int} {l : Nat → Nat} {v : Nat → Nat → Int} {b : Int} {f g : Nat → Int} (h1 : check1 np pk l v = 0) (h2 : camCode f g = 0) (h3 : inB5 0 1000000000 b = true) : readyC np pk l v b f g = 0 := by
  unfold readyC; rw [if_pos h1, if_pos h2, h3]; rfl
theorem carR_ok {f g : Nat → Int} (h : camCode f g = 0) : carR f g = [.agg #[.int .i64 (carLo f g), .int .i64 (carHi f g)], .int .i64 (camCode f g)] := by
  unfold carR; rw [if_pos h, h]
theorem carR_no {f g : Nat → Int} (h : camCode f g ≠ 0) : carR f g = [.agg #[.int .i64 0, .int .i64 0], .int .i64 (camCode f g)] := by
  unfold carR; rw [if_neg h]
def canLo (f g : Nat → Int) : Int := if camCode f g = 0 then carLo f g else 0
def canHi (f g : Nat → Int) : Int := if camCode f g = 0 then carHi f g else 0
theorem carR_form (f g : Nat → Int) : carR f g = [.agg #[.int .i64 (canLo f g), .int .i64 (canHi f g)], .int .i64 (camCode f g)] := by
  unfold canLo canHi
  by_cases h : camCode f g = 0
  · rw [if_pos h, if_pos h]; exact carR_ok h
  · rw [if_neg h, if_neg h]; exact carR_no h
theorem need_self (e : Int) (w : World) : Calls Tryd.prog 32 #[.bool (decide (e = 0)), .int .i64 e] w (Try w errs e (.tuple #[])) := by
  refine K_enter (S := []) (K := []) Tryd.func32 rfl Tryd.ntmps32 rfl (Sat.start _) ?_
  refine TW.seq fun Y1 hY1 => ?_
  refine TW.region ?_
  refine TL.p Pu.mv ?_
  refine TL.p Pu.no ?_
  refine TL.nil ?_
  refine TQ.thenN (hY1 _ _ ?_)
  refine TW.cond rfl (fun hc0 => ?_) (fun hc0 => ?_)
  · try simp only [decide_eq_true_eq, decide_eq_false_iff_not, Bool.not_eq_true', Bool.not_eq_false', Bool.and_eq_true, Bool.or_eq_true, Bool.and_eq_false_iff, Bool.or_eq_false_iff, Int.not_lt, Int.not_le] at hc0
    have hb : e ≠ 0 := by simpa using hc0
    refine TW.region ?_
    refine TL.p Pu.mv ?_
    refine TL.p Pu.fc ?_
    refine TL.pn rfl (by intro w; first | (go_simp; done) | (go_simp; rfl)) ?_
    refine TQ.pan rfl ?_
    exact fun w hw => Try.no (L := []) hb hw
  · try simp only [decide_eq_true_eq, decide_eq_false_iff_not, Bool.not_eq_true', Bool.not_eq_false', Bool.and_eq_true, Bool.or_eq_true, Bool.and_eq_false_iff, Bool.or_eq_false_iff, Int.not_lt, Int.not_le] at hc0
    have hb : e = 0 := by simpa using hc0
    refine TW.skip ?_
    refine TQ.end Tryd.results32 rfl (.nil) ?_
    exact fun w hw => Try.ok (L := []) hb hw
set_option maxRecDepth 100000 in
set_option maxHeartbeats 800000 in
theorem ready1_any {W0 w : World} {A : Option Addr} {np cp bp bt bf bg bb x : Nat} {pk : Nat → Nat → Int} {a : Nat → Option Addr} {l c : Nat → Nat} {v : Nat → Nat → Int} {b : Int} {f g : Nat → Int} {m : Bool}
    (hL : Lay1 W0 A np pk a l v) (hb : Below W0.heap.size W0 w) (hS : ∀ b ∈ [x], W0.heap.size ≤ b)
    (h1 : OldB w bp [.slice A np cp]) (h2 : OldB w bt (tieL a l c)) (h3 : OldB w bb [.int .i64 b]) (h4 : OldB w bf (breedL f)) (h5 : OldB w bg (camL g m)) (n1 : bp ∉ [x]) (n2 : bt ∉ [x]) (n3 : bb ∉ [x]) (n4 : bf ∉ [x]) (n5 : bg ∉ [x])
    (hM : Sat [x] w [.blk x 5 [.int .u8 0]] w) :
    Doing Tryd.prog 58 #[.pointer (some ⟨bp, 0, none⟩), .pointer (some ⟨bt, 0, none⟩), .pointer (some ⟨bf, 0, none⟩), .pointer (some ⟨bg, 0, none⟩), .pointer (some ⟨bb, 0, none⟩), .pointer (some ⟨x, 0, none⟩)] [.blk x 5 [.int .u8 0]] Unit
      (fun _ => if readyC np pk l v b f g = 0 then [.blk x 5 [.int .u8 (readyF pk l v b f g)]] else [.blk x 5 [.int .u8 0]]) (readyC np pk l v b f g) w := by
  have hnp := hL.hnp
  have ap1 := apart_of n1
  have ap2 := apart_of n2
  have ap3 := apart_of n3
  have ap4 := apart_of n4
  have ap5 := apart_of n5
  have hL1 := hL.ext hb
  refine K_enter (args := [.pointer (some ⟨bp, 0, none⟩), .pointer (some ⟨bt, 0, none⟩), .pointer (some ⟨bf, 0, none⟩), .pointer (some ⟨bg, 0, none⟩), .pointer (some ⟨bb, 0, none⟩), .pointer (some ⟨x, 0, none⟩)]) (S := [x]) (K := [.blk x 5 [.int .u8 0]]) Tryd.func58 rfl Tryd.ntmps58 rfl hM ?_
  refine TW.seq fun Y1 hY1 => ?_
  refine TW.region ?_
  refine TL.p (by first | exact (Pu.ld ty_sc26) | exact (Pu.ldo ty_sc26)) ?_
  refine TL.p (by first | exact (Pu.lds ty_ag59) | exact (Pu.ldso ty_ag59)) ?_
  refine TL.m Mk.bl ?_
  intro b1
  refine TL.ct rfl (enters Tryd.func31 rfl rfl) (fun w hw => by
      have hLw := (hL.ext (old_below hb hw hS)).lay (c := c) (b := b1) (E := 59) (hw.holds (.blk b1 59 (tieL a l c)) (by simp [tieL]))
      exact hLw.check) (fun hp1 => ?_) (fun hp1 => ?_)
  rotate_left
  · have hq1 : check1 np pk l v ≠ 0 := hp1
    have hcode : readyC np pk l v b f g = check1 np pk l v := if_neg hq1
    refine TQ.thenP ?_
    refine TQ.pan rfl ?_
    exact fun w hw => Doing.no () (by first | exact hp3 | exact hp2 | exact hp1) hcode (fun h => if_neg h) hw (by repeat (first | exact KSub.nil | refine KSub.cons (by repeat (first | exact Pick.hd | apply Pick.tl)) ?_))
  refine TL.nil ?_
  refine TQ.thenN (hY1 _ _ ?_)
  refine TW.seq fun Y2 hY2 => ?_
  refine TW.region ?_
  refine TL.p (by first | exact (Pu.lds ty_ag55) | exact (Pu.ldso ty_ag55)) ?_
  refine TL.p (by first | exact (Pu.lds ty_ag57) | exact (Pu.ldso ty_ag57)) ?_
  refine TL.cr rfl (enters Tryd.func59 rfl rfl) (fun w hw => by
      have h9 := carries_any f g m w
      rw [carR_form] at h9
      exact h9) ?_
  refine TL.p Pu.mv ?_
  refine TL.p Pu.ex ?_
  refine TL.p Pu.ex ?_
  refine TL.m (Mk.al ty_zr23) ?_
  intro b2
  first | refine TL.st ty_sz23 ?_ | refine TL.se ty_sz23 ?_
  refine TL.p Pu.as ?_
  refine TL.nil ?_
  refine TQ.thenN (hY2 _ _ ?_)
  refine TW.seq fun Y3 hY3 => ?_
  refine TW.region ?_
  refine TL.p Pu.mv ?_
  refine TL.p Pu.eq ?_
  refine TL.p Pu.mv ?_
  refine TL.ct rfl (enters Tryd.func32 rfl rfl) (fun w hw => by
      exact need_self (camCode f g) _) (fun hp2 => ?_) (fun hp2 => ?_)
  rotate_left
  · have hq1 : check1 np pk l v = 0 := hp1
    have hcode : readyC np pk l v b f g = camCode f g := by unfold readyC; rw [if_pos hq1, if_neg hp2]
    refine TQ.thenP ?_
    refine TQ.pan rfl ?_
    exact fun w hw => Doing.no () (by first | exact hp3 | exact hp2 | exact hp1) hcode (fun h => if_neg h) hw (by repeat (first | exact KSub.nil | refine KSub.cons (by repeat (first | exact Pick.hd | apply Pick.tl)) ?_))
  refine TL.nil ?_
  refine TQ.thenN (hY3 _ _ ?_)
  refine TW.seq fun Y4 hY4 => ?_
  refine TW.region ?_
  refine TL.p (by first | exact (Pu.ld ty_sc3) | exact (Pu.ldo ty_sc3)) ?_
  refine TL.ct rfl (enters Tryd.func45 rfl rfl) (fun w hw => by
      exact bounded_any _ _) (fun hp3 => ?_) (fun hp3 => ?_)
  rotate_left
  · have hq1 : check1 np pk l v = 0 := hp1
    have hcode : readyC np pk l v b f g = (if inB5 0 1000000000 b then 0 else 2) := by unfold readyC; rw [if_pos hq1, if_pos hp2]
    refine TQ.thenP ?_
    refine TQ.pan rfl ?_
    exact fun w hw => Doing.no () (by first | exact hp3 | exact hp2 | exact hp1) hcode (fun h => if_neg h) hw (by repeat (first | exact KSub.nil | refine KSub.cons (by repeat (first | exact Pick.hd | apply Pick.tl)) ?_))
  refine TL.nil ?_
  refine TQ.thenN (hY4 _ _ ?_)
  refine TW.seq fun Y5 hY5 => ?_
  refine TW.dw 5 ?_
  refine RK.tk (by first | exact (Pu.lds ty_ag59) | exact (Pu.ldso ty_ag59)) ?_
  refine RK.tk (by first | exact (Pu.ld ty_sc26) | exact (Pu.ldo ty_sc26)) ?_
  refine RK.keep ?_
  refine RK.keep ?_
  refine RK.float [.slice none 0 0, .slice none 0 0, .slice none 0 0, .slice none 0 0] ?_
  refine RK.ch [false, true] ?_ ⟨ty_zr98, trivial⟩
  refine WK.call rfl (enters Tryd.func46 rfl rfl) rfl (fun w hw => by
      have hLw := hL.ext (old_below hb hw hS)
      exact rests_any hLw.hG hnp (check1_ok hp1).2.1 hLw.hR) ?_
  rintro ⟨Ar, cr⟩
  refine WK.p Pu.bd ?_
  refine WK.n ?_
  intro b3
  first | refine TL.st ty_sz98 ?_ | refine TL.se ty_sz98 ?_
  refine TL.nil ?_
  refine TQ.thenN (hY5 _ _ ?_)
  refine TW.seq fun Y6 hY6 => ?_
  refine TW.dw 5 ?_
  refine RK.tk (by first | exact (Pu.lds ty_ag98) | exact (Pu.ldso ty_ag98)) ?_
  refine RK.tk (by first | exact (Pu.lds ty_ag59) | exact (Pu.ldso ty_ag59)) ?_
  refine RK.keep ?_
  refine RK.keep ?_
  refine RK.float [.int .i64 0, .int .i64 0] ?_
  refine RK.ch [false, false] ?_ ⟨ty_zr23, trivial⟩
  refine WK.call rfl (enters Tryd.func50 rfl rfl) rfl (fun w hw => by
      have hLw := hL.ext (old_below hb hw hS)
      have h9 := all_any (a := a) (l := l) (c := c) (v := v) (by have := hL.hL; omega) hLw.hI
      rw [catN_catI] at h9
      exact h9) ?_
  rintro ⟨Ac, cc⟩
  refine WK.cr rfl (enters Tryd.func49 rfl rfl) (fun w hw => by
      have hLw := hL.ext (old_below hb hw hS)
      obtain ⟨k1, k2, k3, k4⟩ := check1_ok hp1
      rw [tot3] at k4
      have hRr := OwnR.rdr (hw.holds (.own Ar np cr 23 2 (fun q => spL (rl (pk q)) (rh (pk q)))) (by simp))
      exact weight_any (a := a) (l := l) (c := c) (Ar := Ar) (cr := cr) (v := catI l v) (RestOk.of_packs k2) (show tot l 3 ≤ 1000 by rw [tot3]; omega) (inx_cat k3) hRr (OwnR.rdr (hw.holds (.own Ac (tot l 3) cc 3 1 (fun k => [.int .i64 (catI l v k)])) (by simp)))) ?_
  refine WK.n ?_
  intro b4
  first | refine TL.st ty_sz23 ?_ | refine TL.se ty_sz23 ?_
  refine TL.nil ?_
  refine TQ.thenN (hY6 _ _ ?_)
  refine TW.seq fun Y7 hY7 => ?_
  refine TW.region ?_
  refine TL.p (by first | exact (Pu.lds ty_ag98) | exact (Pu.ldso ty_ag98)) ?_
  refine TL.p (by first | exact (Pu.ld ty_sc3) | exact (Pu.ldo ty_sc3)) ?_
  refine TL.cr rfl (enters Tryd.func48 rfl rfl) (fun w hw => by
      have hLw := hL.ext (old_below hb hw hS)
      obtain ⟨k1, k2, k3, k4⟩ := check1_ok hp1
      rw [tot3] at k4
      have hRr := OwnR.rdr (hw.holds (.own Ar np cr 23 2 (fun q => spL (rl (pk q)) (rh (pk q)))) (by simp))
      have hbb := need_yes (by decide) hp3
      simp only [inB5, Bool.and_eq_true, decide_eq_true_eq] at hbb
      have hl2 : ∀ j, j < 2 → l j ≤ 1000 := fun j hj => by
        have : j = 0 ∨ j = 1 := by omega
        rcases this with rfl | rfl <;> omega
      exact balance_any (a := a) (l := l) (c := c) (Ar := Ar) (cr := cr) (RestOk.of_packs k2) (by omega) hl2 (fun j hj => k3 j (by omega)) hRr (fun j hj => hLw.hI j (by omega))) ?_
  first | refine TL.st ty_sz5 ?_ | refine TL.se ty_sz5 ?_
  refine TL.nil ?_
  refine TQ.thenN (hY7 _ _ ?_)
  refine TW.seq fun Y8 hY8 => ?_
  refine TW.seq fun Y9 hY9 => ?_
  refine TW.region ?_
  refine TL.p (by first | exact Pu.fb ty_fa23_0 | exact Pu.fe ty_fa23_0) ?_
  refine TL.p (by first | exact (Pu.ld ty_sc3) | exact (Pu.ldo ty_sc3)) ?_
  refine TL.p (by first | exact Pu.fb ty_fa23_1 | exact Pu.fe ty_fa23_1) ?_
  refine TL.p (by first | exact (Pu.ld ty_sc3) | exact (Pu.ldo ty_sc3)) ?_
  refine TL.p Pu.gt ?_
  refine TL.nil ?_
  refine TQ.thenN (hY9 _ _ ?_)
  refine TW.cond rfl (fun hc0 => ?_) (fun hc0 => ?_)
  · try simp only [decide_eq_true_eq, decide_eq_false_iff_not, Bool.not_eq_true', Bool.not_eq_false', Bool.and_eq_true, Bool.or_eq_true, Bool.and_eq_false_iff, Bool.or_eq_false_iff, Int.not_lt, Int.not_le] at hc0
    refine TW.region ?_
    first | refine TL.st ty_sz5 ?_ | refine TL.se ty_sz5 ?_
    refine TL.nil ?_
    refine TQ.thenN (hY8 _ _ ?_)
    refine TW.seq fun Y10 hY10 => ?_
    refine TW.region ?_
    refine TL.p (by first | exact (Pu.ld ty_sc5) | exact (Pu.ldo ty_sc5)) ?_
    refine TL.p Pu.eq ?_
    refine TL.p Pu.mv ?_
    refine TL.guard (t := 44) rfl (fun hg1 => ?_) (fun hg1 => ?_)
    · try simp only [decide_eq_true_eq, decide_eq_false_iff_not, Bool.not_eq_true', Bool.not_eq_false', Int.natCast_pos] at hg1
      refine TL.gd (by first | exact Pu.fb ty_fa23_1 | exact Pu.fe ty_fa23_1) ?_
      refine TL.gd (by first | exact (Pu.ld ty_sc3) | exact (Pu.ldo ty_sc3)) ?_
      refine TL.gd (by first | exact Pu.fb ty_fa23_0 | exact Pu.fe ty_fa23_0) ?_
      refine TL.gd (by first | exact (Pu.ld ty_sc3) | exact (Pu.ldo ty_sc3)) ?_
      refine TL.gd Pu.gt ?_
      refine TL.p Pu.kt ?_
      refine TL.nil ?_
      refine TQ.thenN (hY10 _ _ ?_)
      refine TW.cond rfl (fun hc1 => ?_) (fun hc1 => ?_)
      · try simp only [decide_eq_true_eq, decide_eq_false_iff_not, Bool.not_eq_true', Bool.not_eq_false', Bool.and_eq_true, Bool.or_eq_true, Bool.and_eq_false_iff, Bool.or_eq_false_iff, Int.not_lt, Int.not_le] at hc1
        refine TW.region ?_
        first | refine TL.st ty_sz5 ?_ | refine TL.se ty_sz5 ?_
        refine TL.nil ?_
        refine TQ.end Tryd.results58 rfl (.nil) ?_
        have hcar : canLo f g = carLo f g ∧ canHi f g = carHi f g := ⟨if_pos hp2, if_pos hp2⟩
        have hbal := balV_form (wlo pk (v 0) (l 0)) (whi pk (v 0) (l 0)) (wlo pk (v 1) (l 1)) (whi pk (v 1) (l 1)) b
        obtain ⟨e1, e2⟩ := hcar
        refine fun w hw => Doing.yes () (readyC_ok hp1 hp2 (need_yes (by decide) hp3)) (fun h => if_pos h) hw (KSub.val (by repeat (first | exact Pick.hd | apply Pick.tl)) ?_ KSub.nil)
        unfold readyF readyV balF
        rw [← e1, ← e2]
        unfold wlo whi at *
        generalize balV _ _ _ _ _ = B at *
        (repeat' split) <;> omega
      · try simp only [decide_eq_true_eq, decide_eq_false_iff_not, Bool.not_eq_true', Bool.not_eq_false', Bool.and_eq_true, Bool.or_eq_true, Bool.and_eq_false_iff, Bool.or_eq_false_iff, Int.not_lt, Int.not_le] at hc1
        refine TW.skip ?_
        refine TQ.end Tryd.results58 rfl (.nil) ?_
        have hcar : canLo f g = carLo f g ∧ canHi f g = carHi f g := ⟨if_pos hp2, if_pos hp2⟩
        have hbal := balV_form (wlo pk (v 0) (l 0)) (whi pk (v 0) (l 0)) (wlo pk (v 1) (l 1)) (whi pk (v 1) (l 1)) b
        obtain ⟨e1, e2⟩ := hcar
        refine fun w hw => Doing.yes () (readyC_ok hp1 hp2 (need_yes (by decide) hp3)) (fun h => if_pos h) hw (KSub.val (by repeat (first | exact Pick.hd | apply Pick.tl)) ?_ KSub.nil)
        unfold readyF readyV balF
        rw [← e1, ← e2]
        unfold wlo whi at *
        generalize balV _ _ _ _ _ = B at *
        (repeat' split) <;> omega
    · try simp only [decide_eq_true_eq, decide_eq_false_iff_not, Bool.not_eq_true', Bool.not_eq_false', Int.natCast_pos] at hg1
      refine TL.gs ?_
      refine TL.gs ?_
      refine TL.gs ?_
      refine TL.gs ?_
      refine TL.gs ?_
      refine TL.p Pu.kf ?_
      refine TL.nil ?_
      refine TQ.thenN (hY10 _ _ ?_)
      refine TW.condF rfl rfl ?_
      refine TW.skip ?_
      refine TQ.end Tryd.results58 rfl (.nil) ?_
      have hcar : canLo f g = carLo f g ∧ canHi f g = carHi f g := ⟨if_pos hp2, if_pos hp2⟩
      have hbal := balV_form (wlo pk (v 0) (l 0)) (whi pk (v 0) (l 0)) (wlo pk (v 1) (l 1)) (whi pk (v 1) (l 1)) b
      obtain ⟨e1, e2⟩ := hcar
      refine fun w hw => Doing.yes () (readyC_ok hp1 hp2 (need_yes (by decide) hp3)) (fun h => if_pos h) hw (KSub.val (by repeat (first | exact Pick.hd | apply Pick.tl)) ?_ KSub.nil)
      unfold readyF readyV balF
      rw [← e1, ← e2]
      unfold wlo whi at *
      generalize balV _ _ _ _ _ = B at *
      (repeat' split) <;> omega
  · try simp only [decide_eq_true_eq, decide_eq_false_iff_not, Bool.not_eq_true', Bool.not_eq_false', Bool.and_eq_true, Bool.or_eq_true, Bool.and_eq_false_iff, Bool.or_eq_false_iff, Int.not_lt, Int.not_le] at hc0
    refine TW.skip ?_
    refine TQ.thenN (hY8 _ _ ?_)
    refine TW.seq fun Y11 hY11 => ?_
    refine TW.region ?_
    refine TL.p (by first | exact (Pu.ld ty_sc5) | exact (Pu.ldo ty_sc5)) ?_
    refine TL.p Pu.eq ?_
    refine TL.p Pu.mv ?_
    refine TL.guard (t := 44) rfl (fun hg2 => ?_) (fun hg2 => ?_)
    · try simp only [decide_eq_true_eq, decide_eq_false_iff_not, Bool.not_eq_true', Bool.not_eq_false', Int.natCast_pos] at hg2
      refine TL.gd (by first | exact Pu.fb ty_fa23_1 | exact Pu.fe ty_fa23_1) ?_
      refine TL.gd (by first | exact (Pu.ld ty_sc3) | exact (Pu.ldo ty_sc3)) ?_
      refine TL.gd (by first | exact Pu.fb ty_fa23_0 | exact Pu.fe ty_fa23_0) ?_
      refine TL.gd (by first | exact (Pu.ld ty_sc3) | exact (Pu.ldo ty_sc3)) ?_
      refine TL.gd Pu.gt ?_
      refine TL.p Pu.kt ?_
      refine TL.nil ?_
      refine TQ.thenN (hY11 _ _ ?_)
      refine TW.cond rfl (fun hc1 => ?_) (fun hc1 => ?_)
      · try simp only [decide_eq_true_eq, decide_eq_false_iff_not, Bool.not_eq_true', Bool.not_eq_false', Bool.and_eq_true, Bool.or_eq_true, Bool.and_eq_false_iff, Bool.or_eq_false_iff, Int.not_lt, Int.not_le] at hc1
        refine TW.region ?_
        first | refine TL.st ty_sz5 ?_ | refine TL.se ty_sz5 ?_
        refine TL.nil ?_
        refine TQ.end Tryd.results58 rfl (.nil) ?_
        have hcar : canLo f g = carLo f g ∧ canHi f g = carHi f g := ⟨if_pos hp2, if_pos hp2⟩
        have hbal := balV_form (wlo pk (v 0) (l 0)) (whi pk (v 0) (l 0)) (wlo pk (v 1) (l 1)) (whi pk (v 1) (l 1)) b
        obtain ⟨e1, e2⟩ := hcar
        refine fun w hw => Doing.yes () (readyC_ok hp1 hp2 (need_yes (by decide) hp3)) (fun h => if_pos h) hw (KSub.val (by repeat (first | exact Pick.hd | apply Pick.tl)) ?_ KSub.nil)
        unfold readyF readyV balF
        rw [← e1, ← e2]
        unfold wlo whi at *
        generalize balV _ _ _ _ _ = B at *
        (repeat' split) <;> omega
      · try simp only [decide_eq_true_eq, decide_eq_false_iff_not, Bool.not_eq_true', Bool.not_eq_false', Bool.and_eq_true, Bool.or_eq_true, Bool.and_eq_false_iff, Bool.or_eq_false_iff, Int.not_lt, Int.not_le] at hc1
        refine TW.skip ?_
        refine TQ.end Tryd.results58 rfl (.nil) ?_
        have hcar : canLo f g = carLo f g ∧ canHi f g = carHi f g := ⟨if_pos hp2, if_pos hp2⟩
        have hbal := balV_form (wlo pk (v 0) (l 0)) (whi pk (v 0) (l 0)) (wlo pk (v 1) (l 1)) (whi pk (v 1) (l 1)) b
        obtain ⟨e1, e2⟩ := hcar
        refine fun w hw => Doing.yes () (readyC_ok hp1 hp2 (need_yes (by decide) hp3)) (fun h => if_pos h) hw (KSub.val (by repeat (first | exact Pick.hd | apply Pick.tl)) ?_ KSub.nil)
        unfold readyF readyV balF
        rw [← e1, ← e2]
        unfold wlo whi at *
        generalize balV _ _ _ _ _ = B at *
        (repeat' split) <;> omega
    · try simp only [decide_eq_true_eq, decide_eq_false_iff_not, Bool.not_eq_true', Bool.not_eq_false', Int.natCast_pos] at hg2
      refine TL.gs ?_
      refine TL.gs ?_
      refine TL.gs ?_
      refine TL.gs ?_
      refine TL.gs ?_
      refine TL.p Pu.kf ?_
      refine TL.nil ?_
      refine TQ.thenN (hY11 _ _ ?_)
      refine TW.condF rfl rfl ?_
      refine TW.skip ?_
      refine TQ.end Tryd.results58 rfl (.nil) ?_
      have hcar : canLo f g = carLo f g ∧ canHi f g = carHi f g := ⟨if_pos hp2, if_pos hp2⟩
      have hbal := balV_form (wlo pk (v 0) (l 0)) (whi pk (v 0) (l 0)) (wlo pk (v 1) (l 1)) (whi pk (v 1) (l 1)) b
      obtain ⟨e1, e2⟩ := hcar
      refine fun w hw => Doing.yes () (readyC_ok hp1 hp2 (need_yes (by decide) hp3)) (fun h => if_pos h) hw (KSub.val (by repeat (first | exact Pick.hd | apply Pick.tl)) ?_ KSub.nil)
      unfold readyF readyV balF
      rw [← e1, ← e2]
      unfold wlo whi at *
      generalize balV _ _ _ _ _ = B at *
      (repeat' split) <;> omega
set_option maxRecDepth 100000 in
set_option maxHeartbeats 1000000 in
theorem loadReady_any {w : World} {A : Option Addr} {np cp : Nat} {pk : Nat → Nat → Int} {a : Nat → Option Addr} {l c : Nat → Nat} {v : Nat → Nat → Int} {b : Int} {f g : Nat → Int} {m : Bool} (hL : Lay1 w A np pk a l v) :
    Calls Tryd.prog 23 #[.agg (breedL f).toArray, .agg (camL g m).toArray, .slice A np cp, .agg (tieL a l c).toArray, .int .i64 b] w (Ret w (.tuple #[.int .u8 (readyR np pk l v b f g), .int .i64 (readyC np pk l v b f g)])) := by
  refine K_enter (S := []) (K := []) Tryd.func23 rfl Tryd.ntmps23 rfl (Sat.start _) ?_
  refine TW.seq fun Y1 hY1 => ?_
  refine TW.region ?_
  refine TL.m Mk.bx ?_
  intro b1
  refine TL.m Mk.bx ?_
  intro b2
  refine TL.m Mk.bx ?_
  intro b3
  refine TL.m Mk.bx ?_
  intro b4
  refine TL.m Mk.bx ?_
  intro b5
  refine TL.m (Mk.al ty_zr5) ?_
  intro b6
  refine TL.p Pu.as ?_
  refine TL.nil ?_
  refine TQ.thenN (hY1 _ _ ?_)
  refine TW.seq fun Y2 hY2 => ?_
  refine TW.region ?_
  refine TL.p Pu.fn ?_
  refine TL.call rfl (enters Tryd.func29 rfl rfl) (M := [.blk b6 5 [.int .u8 0]]) (List.Perm.refl _) rfl (fun w hw => by
      have hB1 : Blk w b1 55 (breedL f).toArray := hw.holds (.blk b1 55 (breedL f)) (by simp [breedL])
      have hB2 : Blk w b2 57 (camL g m).toArray := hw.holds (.blk b2 57 (camL g m)) (by simp [camL])
      have hB3 : Blk w b3 26 #[.slice A np cp] := hw.holds (.blk b3 26 [.slice A np cp]) (by simp)
      have hB4 : Blk w b4 59 (tieL a l c).toArray := hw.holds (.blk b4 59 (tieL a l c)) (by simp [tieL])
      have hB5 : Blk w b5 3 #[.int .i64 b] := hw.holds (.blk b5 3 [.int .i64 b]) (by simp)
      have hnd := hw.nd
      simp [feet, Fact.foot] at hnd
      obtain ⟨hself, hge⟩ := feet_new (M := [.blk b6 5 [.int .u8 0]]) hw (List.Perm.refl _)
      have hbel := Chg.ext hw.chg
      have m1 : b1 ∉ [b6] := by simp; omega
      have m2 : b2 ∉ [b6] := by simp; omega
      have m3 : b3 ∉ [b6] := by simp; omega
      have m4 : b4 ∉ [b6] := by simp; omega
      have m5 : b5 ∉ [b6] := by simp; omega
      have ht := trying_any (M := [.blk b6 5 [.int .u8 0]]) (code := readyC np pk l v b f g) (fs := []) (cs := [.pointer (some ⟨b3, 0, none⟩), .pointer (some ⟨b4, 0, none⟩), .pointer (some ⟨b1, 0, none⟩), .pointer (some ⟨b2, 0, none⟩), .pointer (some ⟨b5, 0, none⟩), .pointer (some ⟨b6, 0, none⟩)]) (enters Tryd.func58 rfl rfl) hself fun w' hw' =>
        ready1_any (c := c) (cp := cp) hL (old_below hbel hw' hge) hge ((OldB.of_blk (cs := [_]) hB3).sat hw' m3) ((OldB.of_blk hB4).sat hw' m4) ((OldB.of_blk (cs := [_]) hB5).sat hw' m5) ((OldB.of_blk hB1).sat hw' m1) ((OldB.of_blk hB2).sat hw' m2) m3 m4 m5 m1 m2 hw'.self
      refine Calls.mono (R' := fun e w' => ∃ x : Unit, e = .returned (.int .i64 (readyC np pk l v b f g)) ∧ Sat (feet [.blk b6 5 [.int .u8 0]]) w [.blk b6 5 [.int .u8 (readyR np pk l v b f g)]] w') ht ?_
      rintro e w' ⟨x, he, hs⟩
      refine ⟨(), he, ?_⟩
      unfold readyR
      by_cases h0 : readyC np pk l v b f g = 0
      · replace hs : Sat _ w (if readyC np pk l v b f g = 0 then _ else _) w' := hs
        rw [if_pos h0] at hs
        rw [if_pos h0]
        exact hs
      · replace hs : Sat _ w (if readyC np pk l v b f g = 0 then _ else _) w' := hs
        rw [if_neg h0] at hs
        rw [if_neg h0]
        exact hs) ?_
  rintro ⟨⟩
  refine TL.p Pu.as ?_
  refine TL.nil ?_
  refine TQ.thenN (hY2 _ _ ?_)
  refine TW.seq fun Y3 hY3 => ?_
  refine TW.region ?_
  refine TL.p (Pu.ld ty_sc5) ?_
  refine TL.p Pu.mv ?_
  first | refine TL.st ty_sz5 ?_ | refine TL.se ty_sz5 ?_
  refine TL.p Pu.as ?_
  refine TL.nil ?_
  refine TQ.thenN (hY3 _ _ ?_)
  refine TW.ret ?_
  refine TQ.ret Tryd.results23 rfl ((RV.c1 ty_sc5 (.tmp rfl .nil))) ?_
  exact fun w hw => Ret.of hw
theorem ret_ready {np : Nat} {pk : Nat → Nat → Int} {l : Nat → Nat} {v : Nat → Nat → Int} {b : Int} {f g : Nat → Int} {w w' : World} {is code : Int} (hc : code = readyC np pk l v b f g) (hi : is = readyR np pk l v b f g) (hb : Below w.heap.size w w') :
    Ret w (.tuple #[.int .u8 (readyR np pk l v b f g), .int .i64 (readyC np pk l v b f g)]) (.returned (.tuple #[.int .u8 is, .int .i64 code])) w' := by
  subst hc hi
  exact ⟨rfl, hb⟩
set_option maxRecDepth 100000 in
set_option maxHeartbeats 1000000 in
theorem refReady_any {w : World} {A : Option Addr} {np cp : Nat} {pk : Nat → Nat → Int} {a : Nat → Option Addr} {l c : Nat → Nat} {v : Nat → Nat → Int} {b : Int} {f g : Nat → Int} {m : Bool} (hL : Lay1 w A np pk a l v) :
    Calls Tryd.prog 24 #[.agg (breedL f).toArray, .agg (camL g m).toArray, .slice A np cp, .agg (tieL a l c).toArray, .int .i64 b] w (Ret w (.tuple #[.int .u8 (readyR np pk l v b f g), .int .i64 (readyC np pk l v b f g)])) := by
  refine K_enter (S := []) (K := []) Tryd.func24 rfl Tryd.ntmps24 rfl (Sat.start _) ?_
  refine TW.seq fun Y1 hY1 => ?_
  refine TW.region ?_
  refine TL.m Mk.bx ?_
  intro b1
  refine TL.m Mk.bx ?_
  intro b2
  refine TL.m Mk.bx ?_
  intro b3
  refine TL.p Pu.as ?_
  refine TL.p Pu.as ?_
  refine TL.nil ?_
  refine TQ.thenN (hY1 _ _ ?_)
  refine TW.seq fun Y2 hY2 => ?_
  refine TW.seq fun Y3 hY3 => ?_
  refine TW.region ?_
  refine TL.p Pu.mv ?_
  refine TL.p (Pu.lds ty_ag59) ?_
  refine TL.m Mk.bl ?_
  intro b4
  refine TL.cr rfl (enters Tryd.func14 rfl rfl) (fun w hw => by
      exact refCheck1_any (c := c) (E := 59) (hL.sat hw) (hw.holds (.blk b4 59 (tieL a l c)) (by simp [tieL]))) ?_
  refine TL.p Pu.as ?_
  refine TL.nil ?_
  refine TQ.thenN (hY3 _ _ ?_)
  refine TW.seq fun Y4 hY4 => ?_
  refine TW.region ?_
  refine TL.p Pu.mv ?_
  refine TL.p Pu.ne ?_
  refine TL.nil ?_
  refine TQ.thenN (hY4 _ _ ?_)
  refine TW.cond rfl (fun hc0 => ?_) (fun hc0 => ?_)
  · try simp only [decide_eq_true_eq, decide_eq_false_iff_not, Bool.not_eq_true', Bool.not_eq_false', Bool.and_eq_true, Bool.or_eq_true, Bool.and_eq_false_iff, Bool.or_eq_false_iff, Int.not_lt, Int.not_le] at hc0
    have hbad1 : check1 np pk l v ≠ 0 := hc0
    refine TW.seq fun Y5 hY5 => ?_
    refine TW.region ?_
    refine TL.p Pu.mv ?_
    refine TL.p Pu.as ?_
    refine TL.p Pu.as ?_
    refine TL.nil ?_
    refine TQ.thenN (hY5 _ _ ?_)
    refine TW.ret ?_
    refine TQ.thenR ?_
    refine TQ.ret Tryd.results24 rfl ((.tmp rfl (.tmp rfl .nil))) ?_
    exact fun w hw => ret_ready (by unfold readyC; rw [if_neg hbad1]) (by unfold readyR readyC; rw [if_neg hbad1, if_neg hbad1]) (Chg.ext hw.chg)
  · try simp only [decide_eq_true_eq, decide_eq_false_iff_not, Bool.not_eq_true', Bool.not_eq_false', Bool.and_eq_true, Bool.or_eq_true, Bool.and_eq_false_iff, Bool.or_eq_false_iff, Int.not_lt, Int.not_le] at hc0
    have hgood1 : check1 np pk l v = 0 := by simpa using hc0
    obtain ⟨k1, k2, k3, k4⟩ := check1_ok hgood1
    have k4' := k4
    rw [tot3] at k4
    refine TW.skip ?_
    refine TQ.thenN (hY2 _ _ ?_)
    refine TW.seq fun Y6 hY6 => ?_
    refine TW.region ?_
    refine TL.p (Pu.lds ty_ag55) ?_
    refine TL.p (Pu.lds ty_ag57) ?_
    refine TL.cr rfl (enters Tryd.func60 rfl rfl) (fun w hw => by
        have h9 := refCarries_any f g m w
        rw [carR_form] at h9
        exact h9) ?_
    refine TL.p Pu.mv ?_
    refine TL.p Pu.ex ?_
    refine TL.p Pu.ex ?_
    refine TL.m (Mk.al ty_zr23) ?_
    intro b5
    first | refine TL.st ty_sz23 ?_ | refine TL.se ty_sz23 ?_
    refine TL.p Pu.as ?_
    refine TL.nil ?_
    refine TQ.thenN (hY6 _ _ ?_)
    refine TW.seq fun Y7 hY7 => ?_
    refine TW.seq fun Y8 hY8 => ?_
    refine TW.region ?_
    refine TL.p Pu.mv ?_
    refine TL.p Pu.ne ?_
    refine TL.nil ?_
    refine TQ.thenN (hY8 _ _ ?_)
    refine TW.cond rfl (fun hc1 => ?_) (fun hc1 => ?_)
    · try simp only [decide_eq_true_eq, decide_eq_false_iff_not, Bool.not_eq_true', Bool.not_eq_false', Bool.and_eq_true, Bool.or_eq_true, Bool.and_eq_false_iff, Bool.or_eq_false_iff, Int.not_lt, Int.not_le] at hc1
      have hbad2 : camCode f g ≠ 0 := hc1
      refine TW.seq fun Y9 hY9 => ?_
      refine TW.region ?_
      refine TL.p Pu.mv ?_
      refine TL.p Pu.as ?_
      refine TL.p Pu.as ?_
      refine TL.nil ?_
      refine TQ.thenN (hY9 _ _ ?_)
      refine TW.ret ?_
      refine TQ.thenR ?_
      refine TQ.ret Tryd.results24 rfl ((.tmp rfl (.tmp rfl .nil))) ?_
      have e9 : readyC np pk l v b f g = camCode f g := by unfold readyC; rw [if_pos hgood1, if_neg hbad2]
      exact fun w hw => ret_ready e9.symm (by unfold readyR; rw [e9, if_neg hbad2]) (Chg.ext hw.chg)
    · try simp only [decide_eq_true_eq, decide_eq_false_iff_not, Bool.not_eq_true', Bool.not_eq_false', Bool.and_eq_true, Bool.or_eq_true, Bool.and_eq_false_iff, Bool.or_eq_false_iff, Int.not_lt, Int.not_le] at hc1
      have hgood2 : camCode f g = 0 := by simpa using hc1
      refine TW.skip ?_
      refine TQ.thenN (hY7 _ _ ?_)
      refine TW.seq fun Y10 hY10 => ?_
      refine TW.seq fun Y11 hY11 => ?_
      refine TW.region ?_
      refine TL.p Pu.mv ?_
      refine TL.p (Pu.lds ty_ag59) ?_
      refine TL.p Pu.mv ?_
      refine TL.cr rfl (enters Tryd.func57 rfl rfl) (fun w hw => by
          exact refAsked_any (hL.sat hw)) ?_
      refine TL.p Pu.as ?_
      refine TL.nil ?_
      refine TQ.thenN (hY11 _ _ ?_)
      refine TW.seq fun Y12 hY12 => ?_
      refine TW.region ?_
      refine TL.p Pu.mv ?_
      refine TL.p Pu.ne ?_
      refine TL.nil ?_
      refine TQ.thenN (hY12 _ _ ?_)
      refine TW.cond rfl (fun hc2 => ?_) (fun hc2 => ?_)
      · try simp only [decide_eq_true_eq, decide_eq_false_iff_not, Bool.not_eq_true', Bool.not_eq_false', Bool.and_eq_true, Bool.or_eq_true, Bool.and_eq_false_iff, Bool.or_eq_false_iff, Int.not_lt, Int.not_le] at hc2
        have hbad3 : askedV np pk l v b ≠ 0 := hc2
        refine TW.seq fun Y13 hY13 => ?_
        refine TW.region ?_
        refine TL.p Pu.mv ?_
        refine TL.p Pu.as ?_
        refine TL.p Pu.as ?_
        refine TL.nil ?_
        refine TQ.thenN (hY13 _ _ ?_)
        refine TW.ret ?_
        refine TQ.thenR ?_
        refine TQ.ret Tryd.results24 rfl ((.tmp rfl (.tmp rfl .nil))) ?_
        have e9 : readyC np pk l v b f g = askedV np pk l v b := by unfold readyC askedV; rw [if_pos hgood1, if_pos hgood2, if_pos hgood1]
        exact fun w hw => ret_ready e9.symm (by unfold readyR; rw [e9, if_neg hbad3]) (Chg.ext hw.chg)
      · try simp only [decide_eq_true_eq, decide_eq_false_iff_not, Bool.not_eq_true', Bool.not_eq_false', Bool.and_eq_true, Bool.or_eq_true, Bool.and_eq_false_iff, Bool.or_eq_false_iff, Int.not_lt, Int.not_le] at hc2
        have hgood3 : askedV np pk l v b = 0 := by simpa using hc2
        obtain ⟨k0, kb1, kb2⟩ := asked_ok hgood3
        have e0 := (RestOk.of_packs k2).wS (k3 0 (by omega)) (show l 0 ≤ 1000 by omega)
        have e1 := (RestOk.of_packs k2).wS (k3 1 (by omega)) (show l 1 ≤ 1000 by omega)
        refine TW.skip ?_
        refine TQ.thenN (hY10 _ _ ?_)
        refine TW.seq fun Y14 hY14 => ?_
        refine TW.dw 15 ?_
        refine RK.tk Pu.mv ?_
        refine RK.tk (by first | exact Pu.fb ty_fa59_0 | exact Pu.fe ty_fa59_0) ?_
        refine RK.tk (Pu.ld ty_sc47) ?_
        refine RK.keep ?_
        refine RK.tk Pu.mv ?_
        refine RK.tk (by first | exact Pu.fb ty_fa59_1 | exact Pu.fe ty_fa59_1) ?_
        refine RK.tk (Pu.ld ty_sc47) ?_
        refine RK.keep ?_
        refine RK.tk Pu.mv ?_
        refine RK.keep ?_
        refine RK.tk Pu.mv ?_
        refine RK.tk (Pu.lds ty_ag59) ?_
        refine RK.keep ?_
        refine RK.keep ?_
        refine RK.float [.int .i64 0, .int .i64 0] ?_
        refine RK.ch [false, false, false, false, false] ?_ ⟨ty_zr23, trivial⟩
        refine WK.cr rfl (enters Tryd.func53 rfl rfl) (fun w hw => by
            exact refSum_any (show l 0 ≤ 1000 by omega) k2 (k3 0 (by omega)) (hL.sat hw).hR ((hL.sat hw).hI 0 (by omega))) ?_
        refine WK.cr rfl (enters Tryd.func53 rfl rfl) (fun w hw => by
            exact refSum_any (show l 1 ≤ 1000 by omega) k2 (k3 1 (by omega)) (hL.sat hw).hR ((hL.sat hw).hI 1 (by omega))) ?_
        refine WK.cr rfl (enters Tryd.func54 rfl rfl) (fun w hw => by
            exact refBalance5_any _ _ _ _ _ _ (by omega) (by omega) (by omega) (by omega) (by omega)) ?_
        refine WK.call rfl (enters Tryd.func40 rfl rfl) rfl (fun w hw => by
            have h9 := refList_any (a := a) (l := l) (c := c) (v := v) (by omega) (hL.sat hw).hI
            rw [catN_catI] at h9
            exact h9) ?_
        rintro ⟨Ac, cc⟩
        refine WK.cr rfl (enters Tryd.func53 rfl rfl) (fun w hw => by
            exact refSum_any (v := catI l v) (show tot l 3 ≤ 1000 by omega) k2 (inx_cat k3) (hL.sat hw).hR (OwnR.rdr (hw.holds (.own Ac (tot l 3) cc 3 1 (fun k => [.int .i64 (catI l v k)])) (by simp)))) ?_
        refine WK.n ?_
        intro b6
        refine TL.p Pu.as ?_
        first | refine TL.st ty_sz23 ?_ | refine TL.se ty_sz23 ?_
        refine TL.nil ?_
        refine TQ.thenN (hY14 _ _ ?_)
        refine TW.seq fun Y15 hY15 => ?_
        refine TW.seq fun Y16 hY16 => ?_
        refine TW.region ?_
        refine TL.p Pu.mv ?_
        refine TL.p Pu.eq ?_
        refine TL.p Pu.mv ?_
        refine TL.guard (t := 57) rfl (fun hg1 => ?_) (fun hg1 => ?_)
        · try simp only [decide_eq_true_eq, decide_eq_false_iff_not, Bool.not_eq_true', Bool.not_eq_false', Int.natCast_pos] at hg1
          refine TL.gs ?_
          refine TL.gs ?_
          refine TL.gs ?_
          refine TL.gs ?_
          refine TL.gs ?_
          refine TL.p Pu.kt ?_
          refine TL.nil ?_
          refine TQ.thenN (hY16 _ _ ?_)
          refine TW.condT rfl rfl ?_
          refine TW.seq fun Y17 hY17 => ?_
          refine TW.region ?_
          refine TL.p Pu.as ?_
          refine TL.p Pu.as ?_
          refine TL.nil ?_
          refine TQ.thenN (hY17 _ _ ?_)
          refine TW.ret ?_
          refine TQ.thenR ?_
          refine TQ.ret Tryd.results24 rfl ((.tmp rfl (.tmp rfl .nil))) ?_
          have e9 : readyC np pk l v b f g = 0 := readyC_ok hgood1 hgood2 (by simp only [inB5, Bool.and_eq_true, decide_eq_true_eq]; omega)
          have hcar : canLo f g = carLo f g ∧ canHi f g = carHi f g := ⟨if_pos hgood2, if_pos hgood2⟩
          have hbal : balF pk l v b = 0 ∨ balF pk l v b = 1 ∨ balF pk l v b = 2 := balV_form (wlo pk (v 0) (l 0)) (whi pk (v 0) (l 0)) (wlo pk (v 1) (l 1)) (whi pk (v 1) (l 1)) b
          obtain ⟨e3, e4⟩ := hcar
          refine fun w hw => ret_ready e9.symm ?_ (Chg.ext hw.chg)
          unfold readyR readyF
          rw [if_pos e9, readyV_ref hbal]
          unfold balF at *
          rw [← e3, ← e4]
          unfold wlo whi at *
          generalize balV _ _ _ _ _ = B at *
          (repeat' split) <;> omega
        · try simp only [decide_eq_true_eq, decide_eq_false_iff_not, Bool.not_eq_true', Bool.not_eq_false', Int.natCast_pos] at hg1
          refine TL.gd (by first | exact Pu.fb ty_fa23_0 | exact Pu.fe ty_fa23_0) ?_
          refine TL.gd (Pu.ld ty_sc3) ?_
          refine TL.gd (by first | exact Pu.fb ty_fa23_1 | exact Pu.fe ty_fa23_1) ?_
          refine TL.gd (Pu.ld ty_sc3) ?_
          refine TL.gd Pu.gt ?_
          refine TL.p Pu.kf ?_
          refine TL.nil ?_
          refine TQ.thenN (hY16 _ _ ?_)
          refine TW.cond rfl (fun hc3 => ?_) (fun hc3 => ?_)
          · try simp only [decide_eq_true_eq, decide_eq_false_iff_not, Bool.not_eq_true', Bool.not_eq_false', Bool.and_eq_true, Bool.or_eq_true, Bool.and_eq_false_iff, Bool.or_eq_false_iff, Int.not_lt, Int.not_le] at hc3
            refine TW.seq fun Y18 hY18 => ?_
            refine TW.region ?_
            refine TL.p Pu.as ?_
            refine TL.p Pu.as ?_
            refine TL.nil ?_
            refine TQ.thenN (hY18 _ _ ?_)
            refine TW.ret ?_
            refine TQ.thenR ?_
            refine TQ.ret Tryd.results24 rfl ((.tmp rfl (.tmp rfl .nil))) ?_
            have e9 : readyC np pk l v b f g = 0 := readyC_ok hgood1 hgood2 (by simp only [inB5, Bool.and_eq_true, decide_eq_true_eq]; omega)
            have hcar : canLo f g = carLo f g ∧ canHi f g = carHi f g := ⟨if_pos hgood2, if_pos hgood2⟩
            have hbal : balF pk l v b = 0 ∨ balF pk l v b = 1 ∨ balF pk l v b = 2 := balV_form (wlo pk (v 0) (l 0)) (whi pk (v 0) (l 0)) (wlo pk (v 1) (l 1)) (whi pk (v 1) (l 1)) b
            obtain ⟨e3, e4⟩ := hcar
            refine fun w hw => ret_ready e9.symm ?_ (Chg.ext hw.chg)
            unfold readyR readyF
            rw [if_pos e9, readyV_ref hbal]
            unfold balF at *
            rw [← e3, ← e4]
            unfold wlo whi at *
            generalize balV _ _ _ _ _ = B at *
            (repeat' split) <;> omega
          · try simp only [decide_eq_true_eq, decide_eq_false_iff_not, Bool.not_eq_true', Bool.not_eq_false', Bool.and_eq_true, Bool.or_eq_true, Bool.and_eq_false_iff, Bool.or_eq_false_iff, Int.not_lt, Int.not_le] at hc3
            refine TW.skip ?_
            refine TQ.thenN (hY15 _ _ ?_)
            refine TW.seq fun Y19 hY19 => ?_
            refine TW.seq fun Y20 hY20 => ?_
            refine TW.region ?_
            refine TL.p Pu.mv ?_
            refine TL.p Pu.eq ?_
            refine TL.p Pu.mv ?_
            refine TL.guard (t := 66) rfl (fun hg2 => ?_) (fun hg2 => ?_)
            · try simp only [decide_eq_true_eq, decide_eq_false_iff_not, Bool.not_eq_true', Bool.not_eq_false', Int.natCast_pos] at hg2
              refine TL.gd (by first | exact Pu.fb ty_fa23_1 | exact Pu.fe ty_fa23_1) ?_
              refine TL.gd (Pu.ld ty_sc3) ?_
              refine TL.gd (by first | exact Pu.fb ty_fa23_0 | exact Pu.fe ty_fa23_0) ?_
              refine TL.gd (Pu.ld ty_sc3) ?_
              refine TL.gd Pu.le ?_
              refine TL.p Pu.kt ?_
              refine TL.nil ?_
              refine TQ.thenN (hY20 _ _ ?_)
              refine TW.cond rfl (fun hc4 => ?_) (fun hc4 => ?_)
              · try simp only [decide_eq_true_eq, decide_eq_false_iff_not, Bool.not_eq_true', Bool.not_eq_false', Bool.and_eq_true, Bool.or_eq_true, Bool.and_eq_false_iff, Bool.or_eq_false_iff, Int.not_lt, Int.not_le] at hc4
                refine TW.seq fun Y21 hY21 => ?_
                refine TW.region ?_
                refine TL.p Pu.as ?_
                refine TL.p Pu.as ?_
                refine TL.nil ?_
                refine TQ.thenN (hY21 _ _ ?_)
                refine TW.ret ?_
                refine TQ.thenR ?_
                refine TQ.ret Tryd.results24 rfl ((.tmp rfl (.tmp rfl .nil))) ?_
                have e9 : readyC np pk l v b f g = 0 := readyC_ok hgood1 hgood2 (by simp only [inB5, Bool.and_eq_true, decide_eq_true_eq]; omega)
                have hcar : canLo f g = carLo f g ∧ canHi f g = carHi f g := ⟨if_pos hgood2, if_pos hgood2⟩
                have hbal : balF pk l v b = 0 ∨ balF pk l v b = 1 ∨ balF pk l v b = 2 := balV_form (wlo pk (v 0) (l 0)) (whi pk (v 0) (l 0)) (wlo pk (v 1) (l 1)) (whi pk (v 1) (l 1)) b
                obtain ⟨e3, e4⟩ := hcar
                refine fun w hw => ret_ready e9.symm ?_ (Chg.ext hw.chg)
                unfold readyR readyF
                rw [if_pos e9, readyV_ref hbal]
                unfold balF at *
                rw [← e3, ← e4]
                unfold wlo whi at *
                generalize balV _ _ _ _ _ = B at *
                (repeat' split) <;> omega
              · try simp only [decide_eq_true_eq, decide_eq_false_iff_not, Bool.not_eq_true', Bool.not_eq_false', Bool.and_eq_true, Bool.or_eq_true, Bool.and_eq_false_iff, Bool.or_eq_false_iff, Int.not_lt, Int.not_le] at hc4
                refine TW.skip ?_
                refine TQ.thenN (hY19 _ _ ?_)
                refine TW.seq fun Y22 hY22 => ?_
                refine TW.region ?_
                refine TL.p Pu.as ?_
                refine TL.p Pu.as ?_
                refine TL.nil ?_
                refine TQ.thenN (hY22 _ _ ?_)
                refine TW.ret ?_
                refine TQ.ret Tryd.results24 rfl ((.tmp rfl (.tmp rfl .nil))) ?_
                have e9 : readyC np pk l v b f g = 0 := readyC_ok hgood1 hgood2 (by simp only [inB5, Bool.and_eq_true, decide_eq_true_eq]; omega)
                have hcar : canLo f g = carLo f g ∧ canHi f g = carHi f g := ⟨if_pos hgood2, if_pos hgood2⟩
                have hbal : balF pk l v b = 0 ∨ balF pk l v b = 1 ∨ balF pk l v b = 2 := balV_form (wlo pk (v 0) (l 0)) (whi pk (v 0) (l 0)) (wlo pk (v 1) (l 1)) (whi pk (v 1) (l 1)) b
                obtain ⟨e3, e4⟩ := hcar
                refine fun w hw => ret_ready e9.symm ?_ (Chg.ext hw.chg)
                unfold readyR readyF
                rw [if_pos e9, readyV_ref hbal]
                unfold balF at *
                rw [← e3, ← e4]
                unfold wlo whi at *
                generalize balV _ _ _ _ _ = B at *
                (repeat' split) <;> omega
            · try simp only [decide_eq_true_eq, decide_eq_false_iff_not, Bool.not_eq_true', Bool.not_eq_false', Int.natCast_pos] at hg2
              refine TL.gs ?_
              refine TL.gs ?_
              refine TL.gs ?_
              refine TL.gs ?_
              refine TL.gs ?_
              refine TL.p Pu.kf ?_
              refine TL.nil ?_
              refine TQ.thenN (hY20 _ _ ?_)
              refine TW.condF rfl rfl ?_
              refine TW.skip ?_
              refine TQ.thenN (hY19 _ _ ?_)
              refine TW.seq fun Y23 hY23 => ?_
              refine TW.region ?_
              refine TL.p Pu.as ?_
              refine TL.p Pu.as ?_
              refine TL.nil ?_
              refine TQ.thenN (hY23 _ _ ?_)
              refine TW.ret ?_
              refine TQ.ret Tryd.results24 rfl ((.tmp rfl (.tmp rfl .nil))) ?_
              have e9 : readyC np pk l v b f g = 0 := readyC_ok hgood1 hgood2 (by simp only [inB5, Bool.and_eq_true, decide_eq_true_eq]; omega)
              have hcar : canLo f g = carLo f g ∧ canHi f g = carHi f g := ⟨if_pos hgood2, if_pos hgood2⟩
              have hbal : balF pk l v b = 0 ∨ balF pk l v b = 1 ∨ balF pk l v b = 2 := balV_form (wlo pk (v 0) (l 0)) (whi pk (v 0) (l 0)) (wlo pk (v 1) (l 1)) (whi pk (v 1) (l 1)) b
              obtain ⟨e3, e4⟩ := hcar
              refine fun w hw => ret_ready e9.symm ?_ (Chg.ext hw.chg)
              unfold readyR readyF
              rw [if_pos e9, readyV_ref hbal]
              unfold balF at *
              rw [← e3, ← e4]
              unfold wlo whi at *
              generalize balV _ _ _ _ _ = B at *
              (repeat' split) <;> omega
end Go.Proofs.YtagcnokaajinlaaDoor
