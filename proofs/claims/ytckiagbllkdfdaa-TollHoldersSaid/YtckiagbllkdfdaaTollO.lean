/-
  The law TollHolders, walked: it returns true.
-/
import Derived.Test.YtckiagbllkdfdaaTollN
namespace Go.Proofs.Ytckiagbllkdfdaa
set_option linter.all false
set_option linter.unusedVariables false
set_option linter.unusedSimpArgs false
open Go.RowKit
theorem WK.perm {c : Cx} {Q : Exit → Act → World → Prop} {F : Fr} {K K2 : List Fact} {ops : Array Oper} {nf : Nat} {fl : List Fl} {bs : List Bool} {pend : List (Nat × Oper)} (hp : K.Perm K2) (h : WK c ops Q nf fl bs pend F K2) : WK c ops Q nf fl bs pend F K :=
  fun W N a w h2 h0 hF hK hN hb => h W N a w h2 h0 hF (hK.perm hp) (fun b hb' => hN b ((hp.flatMap_right Fact.foot).mem_iff.2 hb')) hb
section
variable {W A C D B : Option Addr} {nw nl nc nd nb : Nat} {f : Nat → Nat → Int} {x : Nat → Leg} {g : Nat → Nat → Nat → Int} {c : Nat → (Nat → Int) × Bool} {d b : Nat → Nat → Int} {w w0 : World} {S : List Nat} {K : List Fact}
theorem great_small {no nu nv : Nat} (h : great7 nw nl x nc nd nb no nu nv = false) : nw ≤ 20 ∧ nl ≤ 40 ∧ (∀ k, k < nl → (x k).n ≤ 20) ∧ nc ≤ 40 ∧ nd ≤ 30 ∧ nb ≤ 30 ∧ no ≤ 12 ∧ nu ≤ 12 ∧ nv ≤ 12 := by
  unfold great7 great3 at h
  simp only [Bool.or_eq_false_iff, decide_eq_false_iff_not, Int.not_lt] at h
  obtain ⟨⟨⟨⟨⟨⟨⟨⟨h1, h2⟩, h3⟩, h4⟩, h5⟩, h6⟩, h7⟩, h8⟩, h9⟩ := h
  refine ⟨by omega, by omega, fun k hk => ?_, by omega, by omega, by omega, by omega, by omega, by omega⟩
  unfold anyB at h3
  rw [List.any_eq_false] at h3
  have := h3 k (List.mem_range.2 hk)
  simp only [decide_eq_true_eq] at this
  omega
theorem land_of {t : TLx} (hs : Sat S w0 K w) (hw : nw ≤ 1000) (hl : nl ≤ 1000) (hn : ∀ k, k < nl → (x k).n ≤ 1000) (hK : ∀ φ ∈ twL nw nl f x g t, φ ∈ K) : LandIn w t.1.1.1 nw t.1.2.1 nl f (fun k => lgA (x k) (t.2.1 k) (t.2.2 k)) g :=
  ⟨hw, hl, OwnR.rdr (hs.holds _ (hK _ (List.mem_cons_self ..))), OwnR.rdr (hs.holds _ (hK _ (List.mem_cons_of_mem _ (List.mem_cons_self ..)))), hn, fun k hk => OwnR.rdr (hs.holds _ (hK _ (List.mem_cons_of_mem _ (List.mem_cons_of_mem _ (ownsE_mem hk)))))⟩
def twC (nc nd nb : Nat) (c : Nat → (Nat → Int) × Bool) (d b : Nat → Nat → Int) (x : TCx) : List Fact :=
  [.own x.1.1 nc x.1.2 62 7 (fun i => claimL (c i)), .own x.2.1.1 nd x.2.1.2 72 4 (fun i => feudL (d i)), .own x.2.2.1 nb x.2.2.2 77 3 (fun i => borderL (b i))]
theorem cust_of {t : TCx} (hs : Sat S w0 K w) (h1 : nc ≤ 1000) (h2 : nd ≤ 1000) (h3 : nb ≤ 1000) (hK : ∀ φ ∈ twC nc nd nb c d b t, φ ∈ K) : CustIn w t.1.1 nc t.2.1.1 nd t.2.2.1 nb c d b :=
  ⟨h1, h2, h3, OwnR.rdr (hs.holds _ (hK _ (List.mem_cons_self ..))), OwnR.rdr (hs.holds _ (hK _ (List.mem_cons_of_mem _ (List.mem_cons_self ..)))), OwnR.rdr (hs.holds _ (hK _ (List.mem_cons_of_mem _ (List.mem_cons_of_mem _ (List.mem_cons_self ..)))))⟩
theorem OwnR.cap {A : Option Addr} {n cp : Nat} {E : TypeId} {sz : Nat} {r : Nat → List Value} (h : OwnR w A n cp E sz r) : n ≤ cp := by
  obtain ⟨A', c', e, h1, _⟩ := h.own.form
  cases e
  exact h1
theorem cust_cap {t : TCx} (hs : Sat S w0 K w) (hK : ∀ φ ∈ twC nc nd nb c d b t, φ ∈ K) : nc ≤ t.1.2 := OwnR.cap (hs.holds _ (hK _ (List.mem_cons_self ..)) : OwnR w t.1.1 nc t.1.2 62 7 (fun i => claimL (c i)))
variable {cw cl cc cd cb : Nat} {a : Nat → Option Addr} {e : Nat → Nat}
theorem tollCheck_tw (h : LandIn w W nw A nl f (fun k => lgA (x k) (a k) (e k)) g) (k : CustIn w C nc D nd B nb c d b) :
    Calls Try.prog 11 #[.agg (landL W nw cw A nl cl).toArray, .agg (custL C nc cc D nd cd B nb cb).toArray] w (Ret w (.int .i64 (checkC nw nl f x g nc nd nb c d b))) := tollCheck_any (x := fun k => lgA (x k) (a k) (e k)) h k
theorem tollHolder_tw (leg day : Int) (h : LandIn w W nw A nl f (fun k => lgA (x k) (a k) (e k)) g) (k : CustIn w C nc D nd B nb c d b) :
    Calls Try.prog 7 #[.agg (landL W nw cw A nl cl).toArray, .agg (custL C nc cc D nd cd B nb cb).toArray, .int .i64 leg, .int .i64 day] w (Ret w (.tuple #[.int .i64 (holdA (checkC nw nl f x g nc nd nb c d b) nl leg day (hb leg day c nc)), .int .i64 (holdE (checkC nw nl f x g nc nd nb c d b) nl leg day)])) := tollHolder_any (x := fun k => lgA (x k) (a k) (e k)) leg day h k
theorem tollDisputes_tw (h : LandIn w W nw A nl f (fun k => lgA (x k) (a k) (e k)) g) (k : CustIn w C nc D nd B nb c d b) (hcc : nc ≤ cc) :
    CallsK Try.prog 9 #[.agg (landL W nw cw A nl cl).toArray, .agg (custL C nc cc D nd cd B nb cb).toArray] [] w (Option Addr × Nat) (fun a => .tuple #[.slice a.1 (disL (checkC nw nl f x g nc nd nb c d b) nc c).length a.2, .int .i64 (checkC nw nl f x g nc nd nb c d b)]) (fun a => [.own a.1 (disL (checkC nw nl f x g nc nd nb c d b) nc c).length a.2 63 2 (rowsP (disL (checkC nw nl f x g nc nd nb c d b) nc c))]) := tollDisputes_any (x := fun k => lgA (x k) (a k) (e k)) h k hcc
theorem twinCustom_tw (k : CustIn w C nc D nd B nb c d b) : CallsK Try.prog 6 #[.agg (custL C nc cc D nd cd B nb cb).toArray] [] w TCx (fun x => .agg (custL x.1.1 nc x.1.2 x.2.1.1 nd x.2.1.2 x.2.2.1 nb x.2.2.2).toArray) (twC nc nd nb c d b) := twinCustom_any k
theorem disL_len {e : Int} (hn : nc ≤ 1000) : (disL e nc c).length ≤ 1000000 := by
  unfold disL
  split
  · have := outP_len (c := c) (n := nc) nc
    have : nc * nc ≤ 1000 * 1000 := Nat.mul_le_mul hn hn
    omega
  · simp
set_option maxRecDepth 100000 in
set_option maxHeartbeats 4000000 in
theorem lawHolders_any (leg day : Int) (hRW : RdR w 9 W nw (fun k => wellL (f k))) (hRA : RdR w 5 A nl (fun k => legL (x k))) (hRG : ∀ k, k < nl → RdR w 4 (x k).A (x k).n (fun j => gateL (g k j)))
    (hRC : RdR w 7 C nc (fun k => claimL (c k))) (hRD : RdR w 4 D nd (fun k => feudL (d k))) (hRB : RdR w 3 B nb (fun k => borderL (b k))) :
    Calls Try.prog 3 #[.agg (landL W nw cw A nl cl).toArray, .agg (custL C nc cc D nd cd B nb cb).toArray, .int .i64 leg, .int .i64 day] w (Ret w (.bool true)) := by
  unfold landL custL
  refine K_enter (S := []) (K := []) Try.func3 rfl Try.ntmps3 rfl (Sat.start _) ?_
  refine TW.seq fun Y1 hY1 => ?_
  refine TW.region ?_
  refine TL.m Mk.bx ?_
  intro b1
  refine TL.m Mk.bx ?_
  intro b2
  refine TL.p Pu.as ?_
  refine TL.nil ?_
  refine TQ.thenN (hY1 _ _ ?_)
  refine TW.seq fun Y2 hY2 => ?_
  refine TW.seq fun Y3 hY3 => ?_
  refine TW.region ?_
  refine TL.p (Pu.lds ty_ag25) ?_
  refine TL.p (Pu.lds ty_ag30) ?_
  refine TL.p Pu.bd ?_
  refine TL.cr rfl (enters Try.func4 rfl rfl) (fun w hw => by
      exact great7_any (hd := 0) (wo := 0) (O := none) (no := 0) (co := 0) (U := none) (nu := 0) (cu := 0) (V := none) (nv := 0) (cv := 0) (hRA.sat hw Apart.nil)) ?_
  refine TL.nil ?_
  refine TQ.thenN (hY3 _ _ ?_)
  refine TW.cond rfl (fun hc0 => ?_) (fun hc0 => ?_)
  · try simp only [decide_eq_true_eq, decide_eq_false_iff_not, Bool.not_eq_true', Bool.not_eq_false', Bool.and_eq_true, Bool.or_eq_true, Bool.and_eq_false_iff, Bool.or_eq_false_iff, Int.not_lt, Int.not_le] at hc0
    refine TW.seq fun Y4 hY4 => ?_
    refine TW.region ?_
    refine TL.p Pu.as ?_
    refine TL.nil ?_
    refine TQ.thenN (hY4 _ _ ?_)
    refine TW.ret ?_
    refine TQ.thenR ?_
    refine TQ.ret Try.results3 rfl ((.tmp rfl .nil)) ?_
    exact fun w hw => Ret.of hw
  · try simp only [decide_eq_true_eq, decide_eq_false_iff_not, Bool.not_eq_true', Bool.not_eq_false', Bool.and_eq_true, Bool.or_eq_true, Bool.and_eq_false_iff, Bool.or_eq_false_iff, Int.not_lt, Int.not_le] at hc0
    have hgr := great_small hc0
    obtain ⟨h1, h2, h3, h4, h5, h6, _⟩ := hgr
    have hL : LandIn w W nw A nl f x g := ⟨by omega, by omega, hRW, hRA, fun k hk => by have := h3 k hk; omega, hRG⟩
    have hC : CustIn w C nc D nd B nb c d b := ⟨by omega, by omega, by omega, hRC, hRD, hRB⟩
    have hnx : ∀ k, k < nl → (x k).n ≤ 1000 := fun k hk => by have := h3 k hk; omega
    refine TW.skip ?_
    refine TQ.thenN (hY2 _ _ ?_)
    refine TW.seq fun Y5 hY5 => ?_
    refine TW.dw 6 ?_
    refine RK.tk (Pu.lds ty_ag25) ?_
    refine RK.keep ?_
    refine RK.tk (Pu.lds ty_ag30) ?_
    refine RK.keep ?_
    refine RK.float [.slice none 0 0, .slice none 0 0] ?_
    refine RK.float [.slice none 0 0, .slice none 0 0, .slice none 0 0] ?_
    refine RK.ch [false, false] ?_ ⟨ty_zr25, ty_zr30, trivial⟩
    refine WK.call rfl (enters Try.func5 rfl rfl) rfl (fun w hw => by
        exact twin3_any (hL.ext (Chg.ext hw.chg))) ?_
    rintro t1
    refine WK.perm List.perm_append_comm ?_
    refine WK.call rfl (enters Try.func6 rfl rfl) rfl (fun w hw => by
        exact twinCustom_tw (hC.ext (Chg.ext hw.chg))) ?_
    rintro t2
    refine WK.n ?_
    intro b3
    intro b4
    first | refine TL.st ty_sz25 ?_ | refine TL.se ty_sz25 ?_
    first | refine TL.st ty_sz30 ?_ | refine TL.se ty_sz30 ?_
    refine TL.nil ?_
    refine TQ.thenN (hY5 _ _ ?_)
    refine TW.seq fun Y6 hY6 => ?_
    refine TW.region ?_
    refine TL.p (Pu.lds ty_ag25) ?_
    refine TL.p (Pu.lds ty_ag30) ?_
    refine TL.p Pu.mv ?_
    refine TL.p Pu.mv ?_
    refine TL.cr rfl (enters Try.func7 rfl rfl) (fun w hw => by
        exact tollHolder_tw leg day (land_of (f := f) (x := x) (g := g) (t := t1) hw (by omega) (by omega) hnx (fun φ hφ => by simp [hφ])) (cust_of (c := c) (d := d) (b := b) (t := t2) hw (by omega) (by omega) (by omega) (fun φ hφ => by simp [hφ]))) ?_
    refine TL.p Pu.mv ?_
    refine TL.p Pu.ex ?_
    refine TL.p Pu.ex ?_
    refine TL.p Pu.as ?_
    refine TL.p Pu.as ?_
    refine TL.nil ?_
    refine TQ.thenN (hY6 _ _ ?_)
    refine TW.seq fun Y7 hY7 => ?_
    refine TW.region ?_
    refine TL.p (Pu.lds ty_ag25) ?_
    refine TL.p (Pu.lds ty_ag30) ?_
    refine TL.p Pu.mv ?_
    refine TL.p Pu.mv ?_
    refine TL.cr rfl (enters Try.func8 rfl rfl) (fun w hw => by
        exact refHolder_any leg day (hL.ext (Chg.ext hw.chg)) (hC.ext (Chg.ext hw.chg))) ?_
    refine TL.p Pu.mv ?_
    refine TL.p Pu.ex ?_
    refine TL.p Pu.ex ?_
    refine TL.p Pu.as ?_
    refine TL.p Pu.as ?_
    refine TL.nil ?_
    refine TQ.thenN (hY7 _ _ ?_)
    refine TW.seq fun Y8 hY8 => ?_
    refine TW.region ?_
    refine TL.p (Pu.lds ty_ag25) ?_
    refine TL.p (Pu.lds ty_ag30) ?_
    refine TL.call (M := []) rfl (enters Try.func9 rfl rfl) (List.Perm.refl _) rfl (fun w hw => by
        exact tollDisputes_tw (land_of (f := f) (x := x) (g := g) (t := t1) hw (by omega) (by omega) hnx (fun φ hφ => by simp [hφ])) (cust_of (c := c) (d := d) (b := b) (t := t2) hw (by omega) (by omega) (by omega) (fun φ hφ => by simp [hφ])) (cust_cap (nd := nd) (nb := nb) (c := c) (d := d) (b := b) (t := t2) hw (fun φ hφ => by simp [hφ]))) ?_
    rintro ⟨P1, p1⟩
    refine TL.p Pu.mv ?_
    refine TL.p Pu.ex ?_
    refine TL.p Pu.ex ?_
    refine TL.p Pu.as ?_
    refine TL.p Pu.as ?_
    refine TL.nil ?_
    refine TQ.thenN (hY8 _ _ ?_)
    refine TW.seq fun Y9 hY9 => ?_
    refine TW.region ?_
    refine TL.p (Pu.lds ty_ag25) ?_
    refine TL.p (Pu.lds ty_ag30) ?_
    refine TL.call (M := []) rfl (enters Try.func10 rfl rfl) (List.Perm.refl _) rfl (fun w hw => by
        exact refDisputes_any (hL.ext (Chg.ext hw.chg)) (hC.ext (Chg.ext hw.chg))) ?_
    rintro ⟨P2, p2⟩
    refine TL.p Pu.mv ?_
    refine TL.p Pu.ex ?_
    refine TL.p Pu.ex ?_
    refine TL.p Pu.as ?_
    refine TL.p Pu.as ?_
    refine TL.nil ?_
    refine TQ.thenN (hY9 _ _ ?_)
    refine TW.seq fun Y10 hY10 => ?_
    refine TW.ex0k [.blk b3 25 (landL t1.1.1.1 nw t1.1.1.2 t1.1.2.1 nl t1.1.2.2), .blk b4 30 (custL t2.1.1 nc t2.1.2 t2.2.1.1 nd t2.2.1.2 t2.2.2.1 nb t2.2.2.2), .blk b1 25 [.slice W nw cw, .slice A nl cl], .blk b2 30 [.slice C nc cc, .slice D nd cd, .slice B nb cb]] ?_
    refine RG.tk 0 rfl (Pu.lds ty_ag25) ?_
    refine RG.tk 1 rfl (Pu.lds ty_ag30) ?_
    refine RG.tk 3 rfl (Pu.lds ty_ag25) ?_
    refine RG.tk 4 rfl (Pu.lds ty_ag30) ?_
    refine RG.a1 2 rfl (fun X2 hX2 => ?_)
    refine TL.cr rfl (enters Try.func11 rfl rfl) (fun w hw => by
        exact tollCheck_tw (land_of (f := f) (x := x) (g := g) (t := t1) hw (by omega) (by omega) hnx (fun φ hφ => by simp [hφ])) (cust_of (c := c) (d := d) (b := b) (t := t2) hw (by omega) (by omega) (by omega) (fun φ hφ => by simp [hφ]))) ?_
    refine TL.nil ?_
    refine TQ.nxt (hX2 _ _ (by repeat (first | exact HasL.nil | refine HasL.cons (by repeat (first | exact Pick.hd | apply Pick.tl)) ?_)) ?_)
    refine RG.a1 5 rfl (fun X5 hX5 => ?_)
    refine TL.cr rfl (enters Try.func12 rfl rfl) (fun w hw => by
        exact refCheck_any (hL.ext (Chg.ext hw.chg)) (hC.ext (Chg.ext hw.chg))) ?_
    refine TL.nil ?_
    refine TQ.nxt (hX5 _ _ (by repeat (first | exact HasL.nil | refine HasL.cons (by repeat (first | exact Pick.hd | apply Pick.tl)) ?_)) ?_)
    refine RG.a1 6 rfl (fun X6 hX6 => ?_)
    refine TL.p Pu.eq ?_
    refine TL.lit (t := 61) (b' := true) rfl ((by simp)) ?_
    refine TL.nil ?_
    refine TQ.nxt (hX6 _ _ (by repeat (first | exact HasL.nil | refine HasL.cons (by repeat (first | exact Pick.hd | apply Pick.tl)) ?_)) ?_)
    refine RG.tk 7 rfl Pu.mv ?_
    refine RG.tk 8 rfl Pu.mv ?_
    refine RG.tk 9 rfl Pu.mv ?_
    refine RG.a1 10 rfl (fun X10 hX10 => ?_)
    refine TL.gd Pu.eq ?_
    refine TL.lit (t := 65) (b' := true) rfl ((by simp)) ?_
    refine TL.nil ?_
    refine TQ.nxt (hX10 _ _ (by repeat (first | exact HasL.nil | refine HasL.cons (by repeat (first | exact Pick.hd | apply Pick.tl)) ?_)) ?_)
    refine RG.tk 11 rfl Pu.kt ?_
    refine RG.tk 12 rfl Pu.mv ?_
    refine RG.tk 13 rfl Pu.mv ?_
    refine RG.tk 14 rfl Pu.mv ?_
    refine RG.a1 15 rfl (fun X15 hX15 => ?_)
    refine TL.gd Pu.eq ?_
    refine TL.lit (t := 70) (b' := true) rfl ((by simp)) ?_
    refine TL.nil ?_
    refine TQ.nxt (hX15 _ _ (by repeat (first | exact HasL.nil | refine HasL.cons (by repeat (first | exact Pick.hd | apply Pick.tl)) ?_)) ?_)
    refine RG.tk 16 rfl Pu.kt ?_
    refine RG.tk 17 rfl Pu.mv ?_
    refine RG.tk 18 rfl Pu.mv ?_
    refine RG.tk 19 rfl Pu.mv ?_
    refine RG.a1 20 rfl (fun X20 hX20 => ?_)
    refine TL.cr rfl (enters Try.func13 rfl rfl) (fun w hw => by
        exact samePairs_any (v := fun k => (disL (checkC nw nl f x g nc nd nb c d b) nc c).getD k (0, 0)) (disL_len (by omega)) (OwnR.rdr (hw.holds (.own P1 (disL (checkC nw nl f x g nc nd nb c d b) nc c).length p1 63 2 (rowsP (disL (checkC nw nl f x g nc nd nb c d b) nc c))) (by simp))) (OwnR.rdr (hw.holds (.own P2 (disL (checkC nw nl f x g nc nd nb c d b) nc c).length p2 63 2 (rowsP (disL (checkC nw nl f x g nc nd nb c d b) nc c))) (by simp)))) ?_
    refine TL.nil ?_
    refine TQ.nxt (hX20 _ _ (by repeat (first | exact HasL.nil | refine HasL.cons (by repeat (first | exact Pick.hd | apply Pick.tl)) ?_)) ?_)
    refine RG.tk 21 rfl Pu.kt ?_
    refine RG.tk 22 rfl Pu.mv ?_
    refine RG.tk 23 rfl Pu.mv ?_
    refine RG.tk 24 rfl Pu.mv ?_
    refine RG.a1 25 rfl (fun X25 hX25 => ?_)
    refine TL.gd Pu.eq ?_
    refine TL.lit (t := 80) (b' := true) rfl ((by simp)) ?_
    refine TL.nil ?_
    refine TQ.nxt (hX25 _ _ (by repeat (first | exact HasL.nil | refine HasL.cons (by repeat (first | exact Pick.hd | apply Pick.tl)) ?_)) ?_)
    refine RG.tk 26 rfl Pu.kt ?_
    refine RG.tk 27 rfl Pu.mv ?_
    refine RG.tk 28 rfl (Pu.lds ty_ag25) ?_
    refine RG.tk 29 rfl (Pu.lds ty_ag25) ?_
    refine RG.a1 30 rfl (fun X30 hX30 => ?_)
    refine TL.cr rfl (enters Try.func14 rfl rfl) (fun w hw => by
        exact same3_any (x := x) (land_of (f := f) (x := x) (g := g) (t := t1) hw (by omega) (by omega) hnx (fun φ hφ => by simp [hφ])) (hL.ext (Chg.ext hw.chg))) ?_
    refine TL.nil ?_
    refine TQ.nxt (hX30 _ _ (by repeat (first | exact HasL.nil | refine HasL.cons (by repeat (first | exact Pick.hd | apply Pick.tl)) ?_)) ?_)
    refine RG.tk 31 rfl Pu.kt ?_
    refine RG.tk 32 rfl Pu.mv ?_
    refine RG.tk 33 rfl (Pu.lds ty_ag30) ?_
    refine RG.tk 34 rfl (Pu.lds ty_ag30) ?_
    refine RG.a1 35 rfl (fun X35 hX35 => ?_)
    refine TL.cr rfl (enters Try.func15 rfl rfl) (fun w hw => by
        exact sameCustom_any (cust_of (c := c) (d := d) (b := b) (t := t2) hw (by omega) (by omega) (by omega) (fun φ hφ => by simp [hφ])) (hC.ext (Chg.ext hw.chg))) ?_
    refine TL.nil ?_
    refine TQ.nxt (hX35 _ _ (by repeat (first | exact HasL.nil | refine HasL.cons (by repeat (first | exact Pick.hd | apply Pick.tl)) ?_)) ?_)
    refine RG.tk 36 rfl Pu.kt ?_
    refine RG.tk 37 rfl Pu.as ?_
    refine RG.nil ?_ (by kernel_rfl)
    refine TQ.thenN (hY10 _ _ ?_)
    refine TW.ret ?_
    refine TQ.ret Try.results3 rfl ((.tmp rfl .nil)) ?_
    exact fun w hw => Ret.of hw
end
end Go.Proofs.Ytckiagbllkdfdaa
