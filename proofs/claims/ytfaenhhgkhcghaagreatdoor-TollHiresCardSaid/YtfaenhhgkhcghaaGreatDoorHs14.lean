/-
  Part 14 of the proof of tollHires_holds: declarations of several texts, in build order. No condition on a program.
-/
import Derived.Test.YtfaenhhgkhcghaaGreatDoorHs10
import Derived.Test.YtfaenhhgkhcghaaGreatDoorHs13
import Derived.Test.YtfaenhhgkhcghaaGreatDoorHs07
import Derived.Test.YtfaenhhgkhcghaaGreatDoorHs09
import Derived.Test.YtfaenhhgkhcghaaGreatDoorHs03
namespace Go.Proofs.YtfaenhhgkhcghaaGreatDoor
set_option linter.all false
set_option linter.unusedVariables false
set_option linter.unusedSimpArgs false
open Go.RowKit
def bRw (been : List Int) (k : Nat) : List Value := [.bool (been.contains (k : Int))]
theorem bR_put {been : List Int} {a : Int} (h : 0 ≤ a) (j : Nat) : updR (bRw been) a.toNat [.bool true] j = bRw (been ++ [a]) j := by
  unfold updR bRw
  by_cases e : j = a.toNat
  · have e2 : (j : Int) = a := by omega
    rw [if_pos e, e2]
    simp
  · have e2 : ¬ (j : Int) = a := by omega
    rw [if_neg e]
    simp [e2]
theorem bR_del {been : List Int} {a : Int} (h : 0 ≤ a) (hn : a ∉ been) (j : Nat) : updR (bRw (been ++ [a])) a.toNat [.bool false] j = bRw been j := by
  unfold updR bRw
  by_cases e : j = a.toNat
  · have e2 : (j : Int) = a := by omega
    rw [if_pos e, e2]
    simp [hn]
  · have e2 : ¬ (j : Int) = a := by omega
    rw [if_neg e]
    simp [e2]
theorem wys_late {ld : Int → List (Int × Int)} {ar : Int → Int → Int} {to un well day : Int} {been way : List Int} {out : List (List Int)} (h : un < day) : ∀ r, wys ld ar to un r well day been way out = out
 | 0 => rfl
 | r + 1 => if_pos h
structure MreX (w0 w : World) (M : List Nat) : Prop where
 bel : Below w0.heap.size w0 w
 ge : ∀ b ∈ M, w0.heap.size ≤ b
theorem MreX.sat {w0 w w' : World} {M M' : List Nat} {K : List Fact} (h : MreX w0 w M) (hs : Sat M w K w') (hM : ∀ b ∈ M', b ∈ feet K) : MreX w0 w' M' :=
 ⟨h.bel.trans (chg_below hs.chg h.ge h.bel.size), fun b hb => (hs.ge b (hM b hb)).elim (h.ge b) (fun h9 => Nat.le_trans h.bel.size h9)⟩
def mreM (Bn : Option Addr) (nw cbn : Nat) (been : List Int) (out : List (List Int)) (y : WX) : List Fact := [.own Bn nw cbn 4 1 (bRw been), .own y.1.1 out.length y.1.2 31 1 (lksR out y.2.1 y.2.2), bun (lksK out y.2.1 y.2.2)]
section
variable {w0 : World} {W A Bn : Option Addr} {nw cw nl cl cbn : Nat} {f : Nat → Nat → Int} {x : Nat → Leg} {g : Nat → Nat → Nat → Int} {p0 p1 un to : Int}
def MreOk (w0 : World) (W A Bn : Option Addr) (nw cw nl cl cbn : Nat) (x : Nat → Leg) (g : Nat → Nat → Nat → Int) (p0 p1 un to : Int) (r : Nat) : Prop :=
 ∀ (w : World) (well day : Int) (been way : List Int) (out : List (List Int)) (Aw : Option Addr) (cw9 : Nat) (y : WX), 0 ≤ well ∧ well < nw → 0 ≤ day ∧ day ≤ un → well ∉ been → lftN nw been ≤ r → out.length ≤ 200 → way.length + r ≤ 1000 →
  Sat (feet (mreM Bn nw cbn been out y)) w (mreM Bn nw cbn been out y) w → MreX w0 w (feet (mreM Bn nw cbn been out y)) → RdR w 1 Aw way.length (iL way) → (0 < way.length → Apart (feet (mreM Bn nw cbn been out y)) Aw) →
  CallsK Tryz.prog 78 #[.agg (landL W nw cw A nl cl).toArray, .int .i64 well, .int .i64 to, .int .i64 day, .int .i64 un, .agg #[.int .i64 p0, .int .i64 p1], .slice Bn nw cbn, .slice Aw way.length cw9, .slice y.1.1 out.length y.1.2] (mreM Bn nw cbn been out y) w WX (fun z => .slice z.1.1 (wys (fun v => ldL (fun k => (x k).u) v nl) (arW x g p0) to un r well day been way out).length z.1.2) (fun z => mreM Bn nw cbn been (wys (fun v => ldL (fun k => (x k).u) v nl) (arW x g p0) to un r well day been way out) z)
set_option maxRecDepth 100000 in
set_option maxHeartbeats 8000000 in
theorem mre_step {r : Nat} (hL : LandIn w0 W nw A nl f x g) (hLg : LegsOk nw nl x g) (h0 : 1 ≤ p0) (h1 : p0 ≤ p1) (h2 : p1 ≤ 100000) (hun : un ≤ 100000)
  (ih : MreOk w0 W A Bn nw cw nl cl cbn x g p0 p1 un to r) : MreOk w0 W A Bn nw cw nl cl cbn x g p0 p1 un to (r + 1) := by
 rintro w well day been way out Aw cw9 y hwl hdy hnb hlf hol hwr hM hX hRw hAw
 have hX0 := hX
 obtain ⟨hbel, hge⟩ := hX
 have hLw := hL.ext hbel
 have hnl := hL.hnl
 have hnw := hL.hnw
 have hRA := hLw.hA
 have hA0 : 0 < nl → Apart (feet (mreM Bn nw cbn been out y)) A := fun h9 b hb hm => by
  obtain ⟨b', off, e, hlt, _⟩ := hL.hA.rd h9
  rw [e] at hb
  have hb : b' = b := by simpa using hb
  have := hge b hm
  omega
 have hnd : ¬ un < day := by omega
 have hwy1 : well = to → wys (fun v => ldL (fun k => (x k).u) v nl) (arW x g p0) to un (r + 1) well day been way out = out ++ [way] := fun h9 => by simp only [wys]; rw [if_neg hnd, if_pos h9]
 obtain ⟨oq, hoq⟩ : ∃ oq : Nat → List (List Int), oq = fun q => wysN (fun y o => wys (fun v => ldL (fun k => (x k).u) v nl) (arW x g p0) to un r y.2 (arW x g p0 y.1 day) (been ++ [well]) (way ++ [y.1]) o) (been ++ [well]) (ldL (fun k => (x k).u) well nl) out q := ⟨_, rfl⟩
 have hwy2 : ¬ well = to → wys (fun v => ldL (fun k => (x k).u) v nl) (arW x g p0) to un (r + 1) well day been way out = oq (ldL (fun k => (x k).u) well nl).length := fun h9 => by simp only [wys]; rw [if_neg hnd, if_neg h9, hoq]
 have hoq0 : oq 0 = out := by rw [hoq]; rfl
 have hskip : ∀ q, (oq q).length ≤ 200 → ((ldL (fun k => (x k).u) well nl).getD q (0, 0)).2 ∈ been ++ [well] → oq (q + 1) = oq q := fun q h9 h8 => by rw [hoq] at h9 ⊢; exact wysN_skip (Nat.not_lt.2 h9) h8
 have hgo : ∀ q, (oq q).length ≤ 200 → ¬ ((ldL (fun k => (x k).u) well nl).getD q (0, 0)).2 ∈ been ++ [well] → oq (q + 1) = wys (fun v => ldL (fun k => (x k).u) v nl) (arW x g p0) to un r ((ldL (fun k => (x k).u) well nl).getD q (0, 0)).2 (arW x g p0 ((ldL (fun k => (x k).u) well nl).getD q (0, 0)).1 day) (been ++ [well]) (way ++ [((ldL (fun k => (x k).u) well nl).getD q (0, 0)).1]) (oq q) := fun q h9 h8 => by rw [hoq] at h9 ⊢; exact wysN_go (Nat.not_lt.2 h9) h8
 have hstop : ∀ q, 200 < (oq q).length → ∀ k, q ≤ k → oq k = oq q := fun q h9 => by rw [hoq] at h9 ⊢; exact wysN_stop h9
 have hldm : ∀ i, i ≤ nl → (ldL (fun k => (x k).u) well i).length ≤ (ldL (fun k => (x k).u) well nl).length := fun i hi => by
  obtain ⟨M, hM⟩ := ld_pre (u := fun k => (x k).u) (well := well) (k := i) nl hi
  rw [hM, List.length_append]
  omega
 replace hoq := hidT hoq
 have hlf2 := lft_less hwl.1 hwl.2 hnb
 unfold MreOk landL at ih
 unfold landL
 refine K_enter (args := [.agg #[.slice W nw cw, .slice A nl cl], .int .i64 well, .int .i64 to, .int .i64 day, .int .i64 un, .agg #[.int .i64 p0, .int .i64 p1], .slice Bn nw cbn, .slice Aw way.length cw9, .slice y.1.1 out.length y.1.2]) (S := feet (mreM Bn nw cbn been out y)) (K := [.own Bn nw cbn 4 1 (bRw been), .own y.1.1 out.length y.1.2 31 1 (lksR out y.2.1 y.2.2), bun (lksK out y.2.1 y.2.2)]) Tryz.func78 rfl Tryz.ntmps78 rfl hM ?_
 refine TW.seq fun Y1 hY1 => TW.region ?_
 refine TL.m Mk.bx ?_
 intro b1
 refine TL.m Mk.bx ?_
 intro b2
 refine TL.p Pu.as ?_
 refine TL.nil (TQ.thenN (hY1 _ _ ?_))
 refine TW.seq fun Y2 hY2 => ?_
 refine TW.seq fun Y3 hY3 => TW.region ?_
 refine TL.p Pu.mv ?_
 refine TL.p Pu.mv ?_
 refine TL.p Pu.eq ?_
 refine TL.nil (TQ.thenN (hY3 _ _ ?_))
 refine TW.cond rfl (fun hc0 => ?_) (fun hc0 => ?_)
 try simp only [zcb9] at hc0
 have hwz := hidT (hwy1 (by omega))
 refine TW.seq fun Y4 hY4 => TW.region ?_
 refine TL.p Pu.mv ?_
 refine TL.m Mk.bl ?_
 intro b3
 refine TL.p Pu.mv ?_
 refine TL.ob (b := b3) (sz := 1) (r := fun _ => []) pk9 rfl ?_
 refine TL.a0 ty_et31 ?_ (hsrc := fun w hK => hRw.sat0 hK hAw)
 intro A7 c7
 refine TL.m Mk.bl ?_
 intro b4
 refine tl_bunC (φ := .own A7 way.length c7 3 1 (iL way)) (L := lksK out y.2.1 y.2.2) pk9 pk9 lks_app ?_
 first | refine TL.a0 ty_et87 ?_ | refine TL.ap ty_et87 ?_
 intro A5 c5
 refine TL.p Pu.as ?_
 refine TL.nil (TQ.thenN (hY4 _ _ ?_))
 refine TW.ret ?_
 refine TQ.thenR ?_
 refine TQ.ret Tryz.results78 rfl ((.tmp rfl .nil)) ?_
 exact fun w hw => ⟨((A5, c5), updA y.2.1 out.length A7, updA y.2.2 out.length c7), by rw [hwz.out, List.length_append]; rfl, by rw [hwz.out]; simp only [mreM, List.length_append, List.length_singleton]; exact hw.sub (KSub.cons pk9 (KSub.own pk9 lks_row (KSub.cons pk9 KSub.nil)))⟩
 try simp only [zcb9] at hc0
 have hwt : ¬ well = to := by omega
 have hwz := hidT (hwy2 hwt)
 refine TW.skip ?_
 refine TQ.thenN (hY2 _ _ ?_)
 refine TW.seq fun Y5 hY5 => TW.region ?_
 refine TL.p Pu.mv ?_
 refine TL.p Pu.mv ?_
 refine TL.p (Pu.el (q := well.toNat) ty_et158 (hk := rfl)) ?_
 refine TL.se ty_sz4 ?_
 refine TL.subK (KSub.own (s := bRw (been ++ [well])) pk9 (fun j _ => bR_put hwl.1 j) (KSub.refl _)) ?_
 refine TL.nil (TQ.thenN (hY5 _ _ ?_))
 refine TW.seq fun Y6 hY6 => ?_
 refine TW.seq fun Y7 hY7 => TW.region ?_
 refine TL.p Pu.as ?_
 refine TL.nil (TQ.thenN (hY7 _ _ ?_))
 refine TW.block ?_
 refine TW.loop3 (fun (i : Nat) (o : List (List Int)) (y5 : WX) => [(19, .int .i64 (i : Int)), (8, .slice y5.1.1 o.length y5.1.2), (1, .int .i64 well), (2, .int .i64 to), (3, .int .i64 day), (4, .int .i64 un), (6, .slice Bn nw cbn), (7, .slice Aw way.length cw9), (9, .pointer (some ⟨b1, 0, none⟩)), (14, .pointer (some ⟨b2, 0, none⟩))]) (fun i o y5 => [.own Bn nw cbn 4 1 (bRw (been ++ [well])), .own y5.1.1 o.length y5.1.2 31 1 (lksR o y5.2.1 y5.2.2), bun (lksK o y5.2.1 y5.2.2), .blk b1 25 [.slice W nw cw, .slice A nl cl], .blk b2 36 [.int .i64 p0, .int .i64 p1]]) (fun i o y5 => i ≤ nl ∧ o = oq (ldL (fun k => (x k).u) well i).length) (fun i o y5 => nl - i) 0 out y fs9 ?_ ?_ ?_
 exact ks9
 exact ⟨Nat.zero_le _, hoq0.symm⟩
 rintro i o y5 ⟨hi, ho⟩ Z0 hZ0
 replace ho := hidT ho
 refine TW.seq fun Y8 hY8 => ?_
 refine TW.seq fun Y9 hY9 => ?_
 refine TW.join [(44, .bool (decide ((i : Int) < (nl : Int)) && decide ((o.length : Int) ≤ 200)))] ?_ (fun hJ1 => ?_)
 refine TQ.thenN (hY9 _ _ ?_)
 refine TW.cond rfl (fun hc1 => ?_) (fun hc1 => ?_)
 try simp only [zcb9] at hc1
 have hin : i < nl := by omega
 have ho2 : o.length ≤ 200 := by omega
 have hA9 := hA0 (by omega)
 have hle := hLg.l i hin
 have hee := hLg.e i hin
 have hqn := hldm (i + 1) hin
 have hga : atW (x i).u well → (ldL (fun k => (x k).u) well (i + 1)).length = (ldL (fun k => (x k).u) well i).length + 1 := fun h9 => by rw [ld_yes h9, List.length_append]; rfl
 have hgn : ¬ atW (x i).u well → (ldL (fun k => (x k).u) well (i + 1)).length = (ldL (fun k => (x k).u) well i).length := fun h9 => by rw [ld_no h9]
 have hgt := fun h9 => (ld_get (u := fun k => (x k).u) (well := well) (n := nl) hin h9).2
 obtain ⟨ow, how⟩ : ∃ z, z = othV (x i).u well := ⟨_, rfl⟩
 have how1 : 0 ≤ ow → atW (x i).u well ∧ ow < nw := fun h9 => by
  rw [how] at h9 ⊢
  unfold othV at h9 ⊢
  unfold atW
  by_cases e1 : (x i).u 0 = well
  rw [if_pos e1]; exact ⟨.inl e1, hee.2.2.2⟩
  rw [if_neg e1] at h9 ⊢
  by_cases e2 : (x i).u 1 = well
  rw [if_pos e2]; exact ⟨.inr e2, hee.2.1⟩
  rw [if_neg e2] at h9; omega
 have how2 : ow < 0 → ¬ atW (x i).u well := fun h9 h8 => by
  rw [how] at h9
  unfold othV at h9
  rcases h8 with e1 | e2
  rw [if_pos e1] at h9; omega
  by_cases e1 : (x i).u 0 = well
  rw [if_pos e1] at h9; omega
  rw [if_neg e1, if_pos e2] at h9; omega
 rw [← how] at hgt
 have how9 := hidT how
 clear how
 refine TW.skip ?_
 refine TQ.thenN (hY8 _ _ ?_)
 refine TW.seq fun Y10 hY10 => ?_
 refine TW.block ?_
 refine TW.seq fun Y11 hY11 => TW.region ?_
 refine TL.p (by first | exact Pu.fb ty_fa25_1 | exact Pu.fe ty_fa25_1) ?_
 refine TL.p (Pu.ld ty_sc23) ?_
 refine TL.p Pu.mv ?_
 refine TL.p (Pu.el ty_et23) ?_
 refine TL.p (Pu.lds ty_ag107) ?_
 refine TL.m (Mk.al ty_zr107) ?_
 intro b6
 first | refine TL.st ty_sz107 ?_ | refine TL.se ty_sz107 ?_
 refine TL.nil (TQ.thenN (hY11 _ _ ?_))
 refine TW.seq fun Y12 hY12 => TW.region ?_
 refine TL.p (Pu.lds ty_ag107) ?_
 refine TL.p Pu.mv ?_
 refine TL.cr rfl (enters Tryz.func107 rfl rfl) (fun w hw => by
   have h9 := rOther_any (x i) well w
   rw [← how9.out] at h9
   exact h9) ?_
 refine TL.p Pu.as ?_
 refine TL.nil (TQ.thenN (hY12 _ _ ?_))
 refine TW.seq fun Y13 hY13 => ?_
 refine TW.seq fun Y14 hY14 => ?_
 refine TW.join [(62, .bool (decide (ow < 0) || (been ++ [well]).contains ((ow.toNat : Nat) : Int)))] ?_ (fun hJ2 => ?_)
 refine TQ.thenN (hY14 _ _ ?_)
 refine TW.cond rfl (fun hc2 => ?_) (fun hc2 => ?_)
 try simp only [zcb9] at hc2
 have hnx : o = oq (ldL (fun k => (x k).u) well (i + 1)).length := by
  by_cases h9 : ow < 0
  rw [hgn (how2 h9)]; exact ho.out
  have h8 := (how1 (by omega)).1
  have h7 : ((ldL (fun k => (x k).u) well nl).getD (ldL (fun k => (x k).u) well i).length (0, 0)).2 ∈ been ++ [well] := by
   rw [hgt h8]
   have h6 := hc2.resolve_left h9
   rw [Int.toNat_of_nonneg (by omega)] at h6
   simpa using h6
  rw [hga h8, hskip _ (by rw [← ho.out]; exact ho2) h7]
  exact ho.out
 replace hnx := hidT hnx
 refine TW.exit ?_
 refine TQ.thenX ?_
 refine TQ.blkX ?_
 refine TQ.thenN (hY10 _ _ ?_)
 refine TW.region ?_
 refine TL.p Pu.mv ?_
 refine TL.p Pu.ad ?_
 refine TL.p Pu.as ?_
 refine TL.nil ?_
 refine TQ.thenN (hZ0 (i + 1) (by first | exact (fun (_ : 0 ≤ ow) => oq (ldL (fun k => (x k).u) well (i + 1)).length) hT9 | exact o) (by first | exact y9 | exact y5) _ _ ?_ ?_ fs9 ?_)
 exact ⟨by omega, hnx.out⟩
 exact zom9
 exact ks9
 try simp only [zcb9] at hc2
 have how0 : 0 ≤ ow := by omega
 obtain ⟨hat, howl⟩ := how1 how0
 have hnb9 : ow ∉ been ++ [well] := by
  have h6 := hc2.2
  rw [Int.toNat_of_nonneg how0] at h6
  simpa using h6
 clear hc2
 have hgo9 := hgo _ (by rw [← ho.out]; exact ho2) (by rw [hgt hat]; exact hnb9)
 rw [hgt hat, ← hga hat, ← ho.out] at hgo9
 simp only at hgo9
 have har := arW_bd hLg hin h0 h1 (show 0 ≤ day ∧ day ≤ 100001 by omega)
 obtain ⟨ar, har9⟩ : ∃ z, z = arW x g p0 i day := ⟨_, rfl⟩
 rw [← har9] at har hgo9
 replace har9 := hidT har9
 replace hgo9 := hidT hgo9
 refine TW.skip ?_
 refine TQ.thenN (hY13 _ _ ?_)
 refine TW.seq fun Y15 hY15 => TW.region ?_
 refine TL.p (Pu.lds ty_ag107) ?_
 refine TL.p Pu.mv ?_
 refine TL.p Pu.mv ?_
 refine TL.p Pu.bd ?_
 refine TL.p (Pu.lds ty_ag36) ?_
 refine TL.cr rfl (enters Tryz.func108 rfl rfl) (fun w hw => by
   have hX9 := hX0.sat (M' := []) hw (fun b hb => by cases hb)
   have h9 := rArrives_any (x i) (g i) p0 p1 day day w h0 h1 h2 hle (hL.hn i hin) (by omega) (by omega) ((hL.ext hX9.bel).hG i hin)
   rw [← arW_eq, ← har9.out] at h9
   exact h9) ?_
 refine TL.p Pu.fd ?_
 refine TL.p Pu.as ?_
 refine TL.nil (TQ.thenN (hY15 _ _ ?_))
 refine TW.seq fun Y16 hY16 => ?_
 refine TW.join [(76, .bool (decide (ar < 100001) && decide (ar ≤ un)))] ?_ (fun hJ3 => ?_)
 refine TQ.thenN (hY16 _ _ ?_)
 refine TW.cond rfl (fun hc3 => ?_) (fun hc3 => ?_)
 try simp only [zcb9] at hc3
 refine TW.ex0k [.blk b1 25 [.slice W nw cw, .slice A nl cl], .blk b2 36 [.int .i64 p0, .int .i64 p1]] ?_
 refine RG.tk 0 rfl (Pu.lds ty_ag25) ?_
 refine RG.tk 1 rfl Pu.mv ?_
 refine RG.tk 2 rfl Pu.mv ?_
 refine RG.tk 3 rfl Pu.mv ?_
 refine RG.tk 4 rfl Pu.mv ?_
 refine RG.tk 5 rfl (Pu.lds ty_ag36) ?_
 refine RG.tk 6 rfl Pu.mv ?_
 refine RG.tk 8 rfl Pu.mv ?_
 refine RG.tk 10 rfl Pu.mv ?_
 refine RG.tk 13 rfl Pu.mv ?_
 refine RG.a2 7 11 rfl rfl (fun X7 hX7 => ?_) (fun X11 hX11 => ?_)
 refine TL.m Mk.bl ?_
 intro b7
 refine TL.nil ?_
 refine TQ.nxt (hX7 _ _ hl9 ?_)
 refine RG.a2 9 11 rfl rfl (fun X9 hX9 => ?_) (fun X11 hX11 => ?_)
 refine TL.ob (E := 3) (sz := 1) (r := fun _ => []) pk9 rfl ?_
 refine TL.a0 ty_et31 ?_ (hsrc := fun w hK => hRw.sat0 hK hAw)
 intro A9 c9
 refine TL.nil ?_
 refine TQ.nxt (hX9 _ _ hl9 ?_)
 refine RG.a1 11 rfl (fun X11 hX11 => ?_)
 refine TL.m Mk.bl ?_
 intro b8
 refine TL.nil ?_
 refine TQ.nxt (hX11 _ _ hl9 ?_)
 refine RG.a1 12 rfl (fun X12 hX12 => ?_)
 refine TL.ap ty_et31 ?_
 intro A12 c12
 refine TL.nil ?_
 refine TQ.nxt (hX12 _ _ hl9 ?_)
 refine RG.a1 14 rfl (fun X14 hX14 => ?_)
 refine TL.subK (K' := mreM Bn nw cbn (been ++ [well]) o y5 ++ [.own A12 (way ++ [(i : Int)]).length c12 3 1 (iL (way ++ [(i : Int)])), .blk b1 25 [.slice W nw cw, .slice A nl cl], .blk b2 36 [.int .i64 p0, .int .i64 p1]]) (by simp only [mreM, List.cons_append, List.nil_append, List.length_append, List.length_singleton]; exact KSub.cons pk9 (KSub.cons pk9 (KSub.cons pk9 (KSub.own pk9 (iL_app rfl rfl rfl) (KSub.cons pk9 (KSub.cons pk9 KSub.nil)))))) ?_
 refine TL.call (M := mreM Bn nw cbn (been ++ [well]) o y5) (K' := [.own A12 (way ++ [(i : Int)]).length c12 3 1 (iL (way ++ [(i : Int)])), .blk b1 25 [.slice W nw cw, .slice A nl cl], .blk b2 36 [.int .i64 p0, .int .i64 p1]]) rfl (enters Tryz.func78 rfl rfl) (List.Perm.refl _) rfl (fun w hw => by
  have hs := (Has.sat ⟨[.own A12 (way ++ [(i : Int)]).length c12 3 1 (iL (way ++ [(i : Int)])), .blk b1 25 [.slice W nw cw, .slice A nl cl], .blk b2 36 [.int .i64 p0, .int .i64 p1]], List.Perm.refl _⟩ hw).self
  have h9 := ih w ow ar (been ++ [well]) (way ++ [(i : Int)]) o A12 c12 y5 ⟨how0, howl⟩ ⟨har.1, by omega⟩ hnb9 (by omega) ho2 (by rw [List.length_append, List.length_singleton]; omega) hs (hX0.sat hw (fun b hb => by rw [feet_append]; exact List.mem_append_left _ hb)) (OwnR.rdr (hw.holds (.own A12 (way ++ [(i : Int)]).length c12 3 1 (iL (way ++ [(i : Int)]))) (by simp))) (fun _ => Sat.apartO hw (n := (way ++ [(i : Int)]).length) (c := c12) (E := 3) (sz := 1) (r := iL (way ++ [(i : Int)])) (by simp))
  rw [← hgo9.out] at h9
  rw [List.length_append, List.length_singleton] at h9
  exact h9) ?_
 intro y9
 have hT9 := how0
 have hnx := hidT (rfl : oq (ldL (fun k => (x k).u) well (i + 1)).length = oq (ldL (fun k => (x k).u) well (i + 1)).length)
 simp only [mreM, List.cons_append, List.nil_append]
 refine TL.nil ?_
 refine TQ.nxt (hX14 _ _ hl9 ?_)
 refine RG.tk 15 rfl Pu.as ?_
 refine RG.nil ?_ (by kernel_rfl)
 refine TQ.blkN ?_
 refine TQ.thenN (hY10 _ _ ?_)
 refine TW.region ?_
 refine TL.p Pu.mv ?_
 refine TL.p Pu.ad ?_
 refine TL.p Pu.as ?_
 refine TL.nil ?_
 refine TQ.thenN (hZ0 (i + 1) (by first | exact (fun (_ : 0 ≤ ow) => oq (ldL (fun k => (x k).u) well (i + 1)).length) hT9 | exact o) (by first | exact y9 | exact y5) _ _ ?_ ?_ fs9 ?_)
 exact ⟨by omega, hnx.out⟩
 exact zom9
 exact ks9
 refine TL.m Mk.bl ?_
 intro b9
 refine TL.nil ?_
 refine TQ.nxt (hX11 _ _ hl9 ?_)
 refine RG.a1 9 rfl (fun X9 hX9 => ?_)
 refine TL.ob (E := 3) (sz := 1) (r := fun _ => []) pk9 rfl ?_
 refine TL.a0 ty_et31 ?_ (hsrc := fun w hK => hRw.sat0 hK hAw)
 intro A9 c9
 refine TL.nil ?_
 refine TQ.nxt (hX9 _ _ hl9 ?_)
 refine RG.a1 12 rfl (fun X12 hX12 => ?_)
 refine TL.ap ty_et31 ?_
 intro A12 c12
 refine TL.nil ?_
 refine TQ.nxt (hX12 _ _ hl9 ?_)
 refine RG.a1 14 rfl (fun X14 hX14 => ?_)
 refine TL.subK (K' := mreM Bn nw cbn (been ++ [well]) o y5 ++ [.own A12 (way ++ [(i : Int)]).length c12 3 1 (iL (way ++ [(i : Int)])), .blk b1 25 [.slice W nw cw, .slice A nl cl], .blk b2 36 [.int .i64 p0, .int .i64 p1]]) (by simp only [mreM, List.cons_append, List.nil_append, List.length_append, List.length_singleton]; exact KSub.cons pk9 (KSub.cons pk9 (KSub.cons pk9 (KSub.own pk9 (iL_app rfl rfl rfl) (KSub.cons pk9 (KSub.cons pk9 KSub.nil)))))) ?_
 refine TL.call (M := mreM Bn nw cbn (been ++ [well]) o y5) (K' := [.own A12 (way ++ [(i : Int)]).length c12 3 1 (iL (way ++ [(i : Int)])), .blk b1 25 [.slice W nw cw, .slice A nl cl], .blk b2 36 [.int .i64 p0, .int .i64 p1]]) rfl (enters Tryz.func78 rfl rfl) (List.Perm.refl _) rfl (fun w hw => by
  have hs := (Has.sat ⟨[.own A12 (way ++ [(i : Int)]).length c12 3 1 (iL (way ++ [(i : Int)])), .blk b1 25 [.slice W nw cw, .slice A nl cl], .blk b2 36 [.int .i64 p0, .int .i64 p1]], List.Perm.refl _⟩ hw).self
  have h9 := ih w ow ar (been ++ [well]) (way ++ [(i : Int)]) o A12 c12 y5 ⟨how0, howl⟩ ⟨har.1, by omega⟩ hnb9 (by omega) ho2 (by rw [List.length_append, List.length_singleton]; omega) hs (hX0.sat hw (fun b hb => by rw [feet_append]; exact List.mem_append_left _ hb)) (OwnR.rdr (hw.holds (.own A12 (way ++ [(i : Int)]).length c12 3 1 (iL (way ++ [(i : Int)]))) (by simp))) (fun _ => Sat.apartO hw (n := (way ++ [(i : Int)]).length) (c := c12) (E := 3) (sz := 1) (r := iL (way ++ [(i : Int)])) (by simp))
  rw [← hgo9.out] at h9
  rw [List.length_append, List.length_singleton] at h9
  exact h9) ?_
 intro y9
 have hT9 := how0
 have hnx := hidT (rfl : oq (ldL (fun k => (x k).u) well (i + 1)).length = oq (ldL (fun k => (x k).u) well (i + 1)).length)
 simp only [mreM, List.cons_append, List.nil_append]
 refine TL.nil ?_
 refine TQ.nxt (hX14 _ _ hl9 ?_)
 refine RG.tk 15 rfl Pu.as ?_
 refine RG.nil ?_ (by kernel_rfl)
 refine TQ.blkN ?_
 refine TQ.thenN (hY10 _ _ ?_)
 refine TW.region ?_
 refine TL.p Pu.mv ?_
 refine TL.p Pu.ad ?_
 refine TL.p Pu.as ?_
 refine TL.nil ?_
 refine TQ.thenN (hZ0 (i + 1) (by first | exact (fun (_ : 0 ≤ ow) => oq (ldL (fun k => (x k).u) well (i + 1)).length) hT9 | exact o) (by first | exact y9 | exact y5) _ _ ?_ ?_ fs9 ?_)
 exact ⟨by omega, hnx.out⟩
 exact zom9
 exact ks9
 refine TL.m Mk.bl ?_
 intro b10
 refine TL.nil ?_
 refine TQ.nxt (hX11 _ _ hl9 ?_)
 refine RG.a1 7 rfl (fun X7 hX7 => ?_)
 refine TL.m Mk.bl ?_
 intro b11
 refine TL.nil ?_
 refine TQ.nxt (hX7 _ _ hl9 ?_)
 refine RG.a1 9 rfl (fun X9 hX9 => ?_)
 refine TL.ob (E := 3) (sz := 1) (r := fun _ => []) pk9 rfl ?_
 refine TL.a0 ty_et31 ?_ (hsrc := fun w hK => hRw.sat0 hK hAw)
 intro A9 c9
 refine TL.nil ?_
 refine TQ.nxt (hX9 _ _ hl9 ?_)
 refine RG.a1 12 rfl (fun X12 hX12 => ?_)
 refine TL.ap ty_et31 ?_
 intro A12 c12
 refine TL.nil ?_
 refine TQ.nxt (hX12 _ _ hl9 ?_)
 refine RG.a1 14 rfl (fun X14 hX14 => ?_)
 refine TL.subK (K' := mreM Bn nw cbn (been ++ [well]) o y5 ++ [.own A12 (way ++ [(i : Int)]).length c12 3 1 (iL (way ++ [(i : Int)])), .blk b1 25 [.slice W nw cw, .slice A nl cl], .blk b2 36 [.int .i64 p0, .int .i64 p1]]) (by simp only [mreM, List.cons_append, List.nil_append, List.length_append, List.length_singleton]; exact KSub.cons pk9 (KSub.cons pk9 (KSub.cons pk9 (KSub.own pk9 (iL_app rfl rfl rfl) (KSub.cons pk9 (KSub.cons pk9 KSub.nil)))))) ?_
 refine TL.call (M := mreM Bn nw cbn (been ++ [well]) o y5) (K' := [.own A12 (way ++ [(i : Int)]).length c12 3 1 (iL (way ++ [(i : Int)])), .blk b1 25 [.slice W nw cw, .slice A nl cl], .blk b2 36 [.int .i64 p0, .int .i64 p1]]) rfl (enters Tryz.func78 rfl rfl) (List.Perm.refl _) rfl (fun w hw => by
  have hs := (Has.sat ⟨[.own A12 (way ++ [(i : Int)]).length c12 3 1 (iL (way ++ [(i : Int)])), .blk b1 25 [.slice W nw cw, .slice A nl cl], .blk b2 36 [.int .i64 p0, .int .i64 p1]], List.Perm.refl _⟩ hw).self
  have h9 := ih w ow ar (been ++ [well]) (way ++ [(i : Int)]) o A12 c12 y5 ⟨how0, howl⟩ ⟨har.1, by omega⟩ hnb9 (by omega) ho2 (by rw [List.length_append, List.length_singleton]; omega) hs (hX0.sat hw (fun b hb => by rw [feet_append]; exact List.mem_append_left _ hb)) (OwnR.rdr (hw.holds (.own A12 (way ++ [(i : Int)]).length c12 3 1 (iL (way ++ [(i : Int)]))) (by simp))) (fun _ => Sat.apartO hw (n := (way ++ [(i : Int)]).length) (c := c12) (E := 3) (sz := 1) (r := iL (way ++ [(i : Int)])) (by simp))
  rw [← hgo9.out] at h9
  rw [List.length_append, List.length_singleton] at h9
  exact h9) ?_
 intro y9
 have hT9 := how0
 have hnx := hidT (rfl : oq (ldL (fun k => (x k).u) well (i + 1)).length = oq (ldL (fun k => (x k).u) well (i + 1)).length)
 simp only [mreM, List.cons_append, List.nil_append]
 refine TL.nil ?_
 refine TQ.nxt (hX14 _ _ hl9 ?_)
 refine RG.tk 15 rfl Pu.as ?_
 refine RG.nil ?_ (by kernel_rfl)
 refine TQ.blkN ?_
 refine TQ.thenN (hY10 _ _ ?_)
 refine TW.region ?_
 refine TL.p Pu.mv ?_
 refine TL.p Pu.ad ?_
 refine TL.p Pu.as ?_
 refine TL.nil ?_
 refine TQ.thenN (hZ0 (i + 1) (by first | exact (fun (_ : 0 ≤ ow) => oq (ldL (fun k => (x k).u) well (i + 1)).length) hT9 | exact o) (by first | exact y9 | exact y5) _ _ ?_ ?_ fs9 ?_)
 exact ⟨by omega, hnx.out⟩
 exact zom9
 exact ks9
 try simp only [zcb9] at hc3
 have hnx : o = oq (ldL (fun k => (x k).u) well (i + 1)).length := by
  rw [hgo9.out, wys_late (by omega)]
 replace hnx := hidT hnx
 refine TW.skip ?_
 refine TQ.blkN ?_
 refine TQ.thenN (hY10 _ _ ?_)
 refine TW.region ?_
 refine TL.p Pu.mv ?_
 refine TL.p Pu.ad ?_
 refine TL.p Pu.as ?_
 refine TL.nil ?_
 refine TQ.thenN (hZ0 (i + 1) (by first | exact (fun (_ : 0 ≤ ow) => oq (ldL (fun k => (x k).u) well (i + 1)).length) hT9 | exact o) (by first | exact y9 | exact y5) _ _ ?_ ?_ fs9 ?_)
 exact ⟨by omega, hnx.out⟩
 exact zom9
 exact ks9
 refine TW.region ?_
 refine TL.p Pu.mv ?_
 refine TL.p Pu.lt ?_
 refine TL.p Pu.mv ?_
 refine TL.guard (t := 72) rfl (fun hg1 => ?_) (fun hg1 => ?_)
 try simp only [zgb9] at hg1
 refine TL.gd Pu.mv ?_
 refine TL.gd Pu.mv ?_
 refine TL.gd Pu.le ?_
 refine TL.p Pu.kt ?_
 refine TL.nil ?_
 exact TQ.sub (by repeat (first | exact trivial | refine ⟨rfl, ?_⟩ | refine ⟨trivial, ?_⟩ | refine ⟨(by show some (Value.bool _) = some (Value.bool _); first | (simp [hg1]; done) | (refine congrArg (fun z => some (Value.bool z)) (Bool.eq_iff_iff.2 ?_); simp [hg1]; omega)), ?_⟩)) ks9 hJ3
 try simp only [zgb9] at hg1
 refine TL.gs ?_
 refine TL.gs ?_
 refine TL.gs ?_
 refine TL.p Pu.kf ?_
 refine TL.nil ?_
 exact TQ.sub (by repeat (first | exact trivial | refine ⟨rfl, ?_⟩ | refine ⟨trivial, ?_⟩ | refine ⟨(by show some (Value.bool _) = some (Value.bool _); first | (simp [hg1]; done) | (refine congrArg (fun z => some (Value.bool z)) (Bool.eq_iff_iff.2 ?_); simp [hg1]; omega)), ?_⟩)) ks9 hJ3
 refine TW.region ?_
 refine TL.p Pu.mv ?_
 refine TL.p Pu.lt ?_
 refine TL.p Pu.mv ?_
 refine TL.guard (t := 57) rfl (fun hg2 => ?_) (fun hg2 => ?_)
 try simp only [zgb9] at hg2
 refine TL.gs ?_
 refine TL.gs ?_
 refine TL.gs ?_
 refine TL.gs ?_
 refine TL.p Pu.kt ?_
 refine TL.nil ?_
 exact TQ.sub (by repeat (first | exact trivial | refine ⟨rfl, ?_⟩ | refine ⟨trivial, ?_⟩ | refine ⟨(by show some (Value.bool _) = some (Value.bool _); first | (simp [hg2]; done) | (refine congrArg (fun z => some (Value.bool z)) (Bool.eq_iff_iff.2 ?_); simp [hg2]; omega)), ?_⟩)) ks9 hJ2
 try simp only [zgb9] at hg2
 refine TL.gd Pu.mv ?_
 refine TL.gd Pu.mv ?_
 refine TL.gd (Pu.el (q := ow.toNat) ty_et158 (hk := rfl) (h1 := by have := (how1 (by omega)).2; omega)) ?_
 refine TL.gd (Pu.ld ty_sc4) ?_
 refine TL.p Pu.kf ?_
 refine TL.nil ?_
 exact TQ.sub (by repeat (first | exact trivial | refine ⟨rfl, ?_⟩ | refine ⟨trivial, ?_⟩ | refine ⟨(by show some (Value.bool _) = some (Value.bool _); first | (simp [hg2]; done) | (refine congrArg (fun z => some (Value.bool z)) (Bool.eq_iff_iff.2 ?_); simp [hg2]; omega)), ?_⟩)) ks9 hJ2
 try simp only [zcb9] at hc1
 have hfin : o = oq (ldL (fun k => (x k).u) well nl).length := by
  by_cases h9 : i = nl
  rw [← h9]; exact ho.out
  have h8 : 200 < o.length := by omega
  rw [ho.out] at h8 ⊢
  exact (hstop _ h8 _ (hldm i hi)).symm
 replace hfin := hidT hfin
 refine TW.exit ?_
 refine TQ.thenX ?_
 refine TQ.thenX ?_
 refine TQ.blkX ?_
 refine TQ.thenN (hY6 _ _ ?_)
 refine TW.seq fun Y17 hY17 => TW.region ?_
 refine TL.p Pu.mv ?_
 refine TL.p Pu.mv ?_
 refine TL.p (Pu.el (q := well.toNat) ty_et158 (hk := rfl)) ?_
 refine TL.se ty_sz4 ?_
 refine TL.subK (KSub.own (s := bRw been) pk9 (fun j _ => bR_del hwl.1 hnb j) (KSub.refl _)) ?_
 refine TL.nil (TQ.thenN (hY17 _ _ ?_))
 refine TW.seq fun Y18 hY18 => TW.region ?_
 refine TL.p Pu.mv ?_
 refine TL.p Pu.as ?_
 refine TL.nil (TQ.thenN (hY18 _ _ ?_))
 refine TW.ret ?_
 refine TQ.ret Tryz.results78 rfl ((.tmp rfl .nil)) ?_
 exact fun w hw => ⟨y5, by rw [hwz.out, ← hfin.out]; rfl, by rw [hwz.out, ← hfin.out]; simp only [mreM]; exact hw.sub ks9⟩
 refine TW.region ?_
 refine TL.p Pu.mv ?_
 refine TL.p (by first | exact Pu.fb ty_fa25_1 | exact Pu.fe ty_fa25_1) ?_
 refine TL.p (Pu.ld ty_sc23) ?_
 refine TL.p (Pu.ln Tryz.underlying23) ?_
 refine TL.p Pu.lt ?_
 refine TL.p Pu.mv ?_
 refine TL.guard (t := 40) rfl (fun hg3 => ?_) (fun hg3 => ?_)
 try simp only [zgb9] at hg3
 refine TL.gd Pu.mv ?_
 refine TL.gd (Pu.ln Tryz.underlying87) ?_
 refine TL.gd Pu.le ?_
 refine TL.p Pu.kt ?_
 refine TL.nil ?_
 exact TQ.sub (by repeat (first | exact trivial | refine ⟨rfl, ?_⟩ | refine ⟨trivial, ?_⟩ | refine ⟨(by show some (Value.bool _) = some (Value.bool _); first | (simp [hg3]; done) | (refine congrArg (fun z => some (Value.bool z)) (Bool.eq_iff_iff.2 ?_); simp [hg3]; omega)), ?_⟩)) ks9 hJ1
 try simp only [zgb9] at hg3
 refine TL.gs ?_
 refine TL.gs ?_
 refine TL.gs ?_
 refine TL.p Pu.kf ?_
 refine TL.nil ?_
 exact TQ.sub (by repeat (first | exact trivial | refine ⟨rfl, ?_⟩ | refine ⟨trivial, ?_⟩ | refine ⟨(by show some (Value.bool _) = some (Value.bool _); first | (simp [hg3]; done) | (refine congrArg (fun z => some (Value.bool z)) (Bool.eq_iff_iff.2 ?_); simp [hg3]; omega)), ?_⟩)) ks9 hJ1
end
end Go.Proofs.YtfaenhhgkhcghaaGreatDoor
namespace Go.Proofs.YtfaenhhgkhcghaaGreatDoor
set_option linter.all false
set_option linter.unusedVariables false
set_option linter.unusedSimpArgs false
open Go.RowKit
section
variable {w0 : World} {W A Bn : Option Addr} {nw cw nl cl cbn : Nat} {f : Nat → Nat → Int} {x : Nat → Leg} {g : Nat → Nat → Nat → Int} {p0 p1 un to : Int}
theorem mre_all (hL : LandIn w0 W nw A nl f x g) (hLg : LegsOk nw nl x g) (h0 : 1 ≤ p0) (h1 : p0 ≤ p1) (h2 : p1 ≤ 100000) (hun : un ≤ 100000) : ∀ r, MreOk w0 W A Bn nw cw nl cl cbn x g p0 p1 un to r
 | 0 => by
  intro w well day been way out Aw cw9 y hwl hdy hnb hlf
  have := lft_less hwl.1 hwl.2 hnb
  omega
 | r + 1 => mre_step hL hLg h0 h1 h2 hun (mre_all hL hLg h0 h1 h2 hun r)
end
section
variable {Y : Wy} {to un : Int} {W A : Option Addr} {cw cl : Nat} {w : World}
set_option maxRecDepth 100000 in
set_option maxHeartbeats 4000000 in
theorem rWays_any (h : LandIn w W Y.nw A Y.nl Y.f Y.x Y.g) :
  CallsK Tryz.prog 36 #[.agg (landL W Y.nw cw A Y.nl cl).toArray, .int .i64 Y.start, .int .i64 to, .int .i64 Y.day, .int .i64 un, .agg #[.int .i64 Y.p0, .int .i64 Y.p1]] [] w WX (fun y => .tuple #[.slice y.1.1 (wsL Y to un).length y.1.2, .int .i64 (wsC Y to un)]) (fun y => wsK (wsL Y to un) y) := by
 have hnw := h.hnw
 have hnl := h.hnl
 have fK := fun (w' : World) (h' : LandIn w' W Y.nw A Y.nl Y.f Y.x Y.g) => rAsked_any (p0 := Y.p0) (p1 := Y.p1) (cw := cw) (cl := cl) h'
 unfold landL at fK
 unfold landL
 refine K_enter (S := []) (K := []) Tryz.func36 rfl Tryz.ntmps36 rfl (Sat.start _) ?_
 refine TW.seq fun Y1 hY1 => TW.region ?_
 refine TL.m Mk.bx ?_
 intro b1
 refine TL.m Mk.bx ?_
 intro b2
 refine TL.p Pu.as ?_
 refine TL.p Pu.as ?_
 refine TL.nil (TQ.thenN (hY1 _ _ ?_))
 refine TW.seq fun Y2 hY2 => ?_
 refine TW.seq fun Y3 hY3 => TW.region ?_
 refine TL.p (Pu.lds ty_ag25) ?_
 refine TL.p (Pu.lds ty_ag36) ?_
 refine TL.cr rfl (enters Tryz.func76 rfl rfl) (fun w hw => by
   exact fK _ (h.ext (Chg.ext hw.chg))) ?_
 refine TL.p Pu.as ?_
 refine TL.nil (TQ.thenN (hY3 _ _ ?_))
 refine TW.seq fun Y4 hY4 => TW.region ?_
 refine TL.p Pu.mv ?_
 refine TL.p Pu.ne ?_
 refine TL.nil (TQ.thenN (hY4 _ _ ?_))
 refine TW.cond rfl (fun hc0 => ?_) (fun hc0 => ?_)
 try simp only [zcb9] at hc0
 have hok : okY Y ≠ 0 := hc0
 have hwc : wsC Y to un = okY Y := if_pos hok
 refine TW.seq fun Y5 hY5 => TW.region ?_
 refine TL.p Pu.mv ?_
 refine TL.p Pu.as ?_
 refine TL.p Pu.as ?_
 refine TL.nil (TQ.thenN (hY5 _ _ ?_))
 refine TW.ret ?_
 refine TQ.thenR ?_
 refine TQ.ret Tryz.results36 rfl ((.tmp rfl (.tmp rfl .nil))) ?_
 exact fun w hw => ws_bad hw hwc hok
 try simp only [zcb9] at hc0
 have hok : okY Y = 0 := by show askC _ _ _ _ _ _ _ = 0; simpa using hc0
 have ho := wyOk_of hok
 have hLg := legs_ok hok
 refine TW.skip ?_
 refine TQ.thenN (hY2 _ _ ?_)
 refine TW.seq fun Y6 hY6 => ?_
 refine TW.seq fun Y7 hY7 => ?_
 refine TW.join [(47, .bool (!askW Y to un))] ?_ (fun hJ1 => ?_)
 refine TQ.thenN (hY7 _ _ ?_)
 refine TW.cond rfl (fun hc1 => ?_) (fun hc1 => ?_)
 try simp only [zcb9] at hc1
 have hb : askW Y to un = false := by simpa using hc1
 have hwc : wsC Y to un = 2 := by unfold wsC; rw [if_neg (by omega), if_pos hb]
 refine TW.seq fun Y8 hY8 => TW.region ?_
 refine TL.p Pu.as ?_
 refine TL.p Pu.as ?_
 refine TL.nil (TQ.thenN (hY8 _ _ ?_))
 refine TW.ret ?_
 refine TQ.thenR ?_
 refine TQ.ret Tryz.results36 rfl ((.tmp rfl (.tmp rfl .nil))) ?_
 exact fun w hw => ws_bad hw hwc (by decide)
 try simp only [zcb9] at hc1
 have hb : askW Y to un = true := by simpa using hc1
 have hwc : wsC Y to un = if 200 < (wsW Y to un).length then 9 else 0 := by unfold wsC; rw [if_neg (by omega), if_neg (by rw [hb]; simp)]
 have hb9 := hb
 unfold askW inB5 at hb9
 simp only [Bool.and_eq_true, decide_eq_true_eq] at hb9
 replace hwc := hidT hwc
 refine TW.skip ?_
 refine TQ.thenN (hY6 _ _ ?_)
 refine TW.seq fun Y9 hY9 => ?_
 refine TW.seq fun Y10 hY10 => TW.region ?_
 refine TL.p Pu.mv ?_
 refine TL.p Pu.mv ?_
 refine TL.p Pu.gt ?_
 refine TL.nil (TQ.thenN (hY10 _ _ ?_))
 refine TW.cond rfl (fun hc2 => ?_) (fun hc2 => ?_)
 try simp only [zcb9] at hc2
 have hw0 : wsW Y to un = [] := by
  unfold wsW
  exact wys_late (by omega) _
 have hwd : wsC Y to un = 0 := by rw [hwc.out, hw0]; rfl
 have hld : wsL Y to un = [] := by unfold wsL; rw [if_pos hwd, hw0]
 refine TW.seq fun Y11 hY11 => TW.region ?_
 refine TL.p Pu.as ?_
 refine TL.p Pu.as ?_
 refine TL.nil (TQ.thenN (hY11 _ _ ?_))
 refine TW.ret ?_
 refine TQ.thenR ?_
 refine TQ.ret Tryz.results36 rfl ((.tmp rfl (.tmp rfl .nil))) ?_
 exact fun w hw => ⟨((none, 0), fun _ => none, fun _ => 0), by rw [hwd, hld]; rfl, by rw [hld]; exact ws_nil hw⟩
 try simp only [zcb9] at hc2
 have hdu : Y.day ≤ un := by omega
 refine TW.skip ?_
 refine TQ.thenN (hY9 _ _ ?_)
 refine TW.seq fun Y12 hY12 => ?_
 refine TW.ex0k [.blk b1 25 [.slice W Y.nw cw, .slice A Y.nl cl], .blk b2 36 [.int .i64 Y.p0, .int .i64 Y.p1]] ?_
 refine RG.tk 0 rfl (Pu.lds ty_ag25) ?_
 refine RG.tk 1 rfl Pu.mv ?_
 refine RG.tk 2 rfl Pu.mv ?_
 refine RG.tk 3 rfl Pu.mv ?_
 refine RG.tk 4 rfl Pu.mv ?_
 refine RG.tk 5 rfl (Pu.lds ty_ag36) ?_
 refine RG.tk 6 rfl (by first | exact Pu.fb ty_fa25_0 | exact Pu.fe ty_fa25_0) ?_
 refine RG.tk 7 rfl (Pu.ld ty_sc22) ?_
 refine RG.tk 8 rfl (Pu.ln Tryz.underlying22) ?_
 refine RG.a1 9 rfl (fun X9 hX9 => ?_)
 refine TL.ms (k := Y.nw) ty_et158 ty_zr4 ?_
 intro b9
 refine TL.nil ?_
 refine TQ.nxt (hX9 _ _ hl9 ?_)
 refine RG.a1 10 rfl (fun X10 hX10 => ?_)
 refine TL.bun (K1 := []) ?_
 refine TL.subK (K' := mreM (some ⟨b9, 0, none⟩) Y.nw Y.nw [] [] ((none, 0), fun _ => none, fun _ => 0) ++ [.blk b1 25 [.slice W Y.nw cw, .slice A Y.nl cl], .blk b2 36 [.int .i64 Y.p0, .int .i64 Y.p1]]) (by simp only [mreM, List.cons_append, List.nil_append]; exact KSub.own (s := bRw []) pk9 (fun j _ => rfl) (KSub.nilOwn (KSub.cons pk9 (KSub.cons pk9 (KSub.cons pk9 KSub.nil))))) ?_
 refine TL.call (M := mreM (some ⟨b9, 0, none⟩) Y.nw Y.nw [] [] ((none, 0), fun _ => none, fun _ => 0)) (K' := [.blk b1 25 [.slice W Y.nw cw, .slice A Y.nl cl], .blk b2 36 [.int .i64 Y.p0, .int .i64 Y.p1]]) rfl (enters Tryz.func78 rfl rfl) (List.Perm.refl _) rfl (fun w hw => by
  have hs := (Has.sat ⟨[.blk b1 25 [.slice W Y.nw cw, .slice A Y.nl cl], .blk b2 36 [.int .i64 Y.p0, .int .i64 Y.p1]], List.Perm.refl _⟩ hw).self
  have hX : MreX _ _ (feet (mreM (some ⟨b9, 0, none⟩) Y.nw Y.nw [] [] ((none, 0), fun _ => none, fun _ => 0))) := ⟨hw.chg.ext, fun b hb => (hw.ge b (by rw [feet_append]; exact List.mem_append_left _ hb)).elim (fun h9 => by cases h9) id⟩
  have h9 := mre_all (to := to) (un := un) (cw := cw) (cl := cl) h hLg ho.h0 ho.h1 ho.h2 (by omega) Y.nw _ Y.start Y.day [] [] [] none 0 ((none, 0), fun _ => none, fun _ => 0) ⟨by omega, by omega⟩ ⟨by omega, by omega⟩ (by simp) (cntB_bd _) (by simp) (by simp; omega) hs hX ⟨Rd.nil, fun i hi => absurd hi (Nat.not_lt_zero i)⟩ (fun h9 => absurd h9 (Nat.not_lt_zero 0))
  rw [show wys (fun v => ldL (fun k => (Y.x k).u) v Y.nl) (arW Y.x Y.g Y.p0) to un Y.nw Y.start Y.day [] [] [] = wsW Y to un from rfl] at h9
  exact h9) ?_
 rintro ⟨⟨A9, c9⟩, ia, ic⟩
 simp only [mreM, List.cons_append, List.nil_append]
 refine TL.nil ?_
 refine TQ.nxt (hX10 _ _ hl9 ?_)
 refine RG.tk 11 rfl Pu.as ?_
 refine RG.nil ?_ (by kernel_rfl)
 refine TQ.thenN (hY12 _ _ ?_)
 refine TW.seq fun Y13 hY13 => ?_
 refine TW.seq fun Y14 hY14 => TW.region ?_
 refine TL.p Pu.mv ?_
 refine TL.p (Pu.ln Tryz.underlying87) ?_
 refine TL.p Pu.gt ?_
 refine TL.nil (TQ.thenN (hY14 _ _ ?_))
 refine TW.cond rfl (fun hc3 => ?_) (fun hc3 => ?_)
 try simp only [zcb9] at hc3
 have hbig : 200 < (wsW Y to un).length := by first | omega | (simp at hc3; omega)
 have hwd : wsC Y to un = 9 := by rw [hwc.out, if_pos hbig]
 refine TW.seq fun Y15 hY15 => TW.region ?_
 refine TL.p Pu.as ?_
 refine TL.p Pu.as ?_
 refine TL.nil (TQ.thenN (hY15 _ _ ?_))
 refine TW.ret ?_
 refine TQ.thenR ?_
 refine TQ.ret Tryz.results36 rfl ((.tmp rfl (.tmp rfl .nil))) ?_
 exact fun w hw => ws_bad hw hwd (by decide)
 try simp only [zcb9] at hc3
 have hsm : ¬ 200 < (wsW Y to un).length := by first | omega | (simp at hc3; omega)
 have hwd : wsC Y to un = 0 := by rw [hwc.out, if_neg hsm]
 have hld : wsL Y to un = wsW Y to un := if_pos hwd
 refine TW.skip ?_
 refine TQ.thenN (hY13 _ _ ?_)
 refine TW.seq fun Y16 hY16 => TW.region ?_
 refine TL.p Pu.mv ?_
 refine TL.p Pu.as ?_
 refine TL.p Pu.as ?_
 refine TL.nil (TQ.thenN (hY16 _ _ ?_))
 refine TW.ret ?_
 refine TQ.ret Tryz.results36 rfl ((.tmp rfl (.tmp rfl .nil))) ?_
 exact fun w hw => ⟨((A9, c9), ia, ic), by rw [hwd, hld]; rfl, by rw [hld]; exact hw.sub (KSub.cons pk9 (KSub.cons pk9 KSub.nil))⟩
 refine TW.region ?_
 refine TL.p Pu.mv ?_
 refine TL.p (by first | exact Pu.fb ty_fa25_0 | exact Pu.fe ty_fa25_0) ?_
 refine TL.p (Pu.ld ty_sc22) ?_
 refine TL.p (Pu.ln Tryz.underlying22) ?_
 refine TL.p Pu.sb ?_
 refine TL.cr rfl (enters Tryz.func77 rfl rfl) (fun w hw => by
   exact within3_any _ _ _ _) ?_
 refine TL.p Pu.no ?_
 refine TL.p Pu.mv ?_
 refine TL.guard (t := 29) rfl (fun hg1 => ?_) (fun hg1 => ?_)
 refine TL.gs ?_
 refine TL.gs ?_
 refine TL.gs ?_
 refine TL.gs ?_
 refine TL.gs ?_
 refine TL.gs ?_
 refine TL.gs ?_
 refine TL.p Pu.kt ?_
 refine TL.p Pu.mv ?_
 refine TL.gs ?_
 refine TL.gs ?_
 refine TL.gs ?_
 refine TL.p Pu.kt ?_
 refine TL.p Pu.mv ?_
 refine TL.gs ?_
 refine TL.gs ?_
 refine TL.gs ?_
 refine TL.p Pu.kt ?_
 refine TL.nil ?_
 exact TQ.sub (by repeat (first | exact trivial | refine ⟨rfl, ?_⟩ | refine ⟨trivial, ?_⟩ | refine ⟨(by show some (Value.bool _) = some (Value.bool _); first | (simp [hg1, askW]; done) | (refine congrArg (fun z => some (Value.bool z)) (Bool.eq_iff_iff.2 ?_); simp [hg1, askW]; omega)), ?_⟩)) ks9 hJ1
 refine TL.gd Pu.mv ?_
 refine TL.gd (by first | exact Pu.fb ty_fa25_0 | exact Pu.fe ty_fa25_0) ?_
 refine TL.gd (Pu.ld ty_sc22) ?_
 refine TL.gd (Pu.ln Tryz.underlying22) ?_
 refine TL.gd Pu.sb ?_
 refine TL.cr rfl (enters Tryz.func77 rfl rfl) (fun w hw => by
   exact within3_any _ _ _ _) ?_
 refine TL.gd Pu.no ?_
 refine TL.p Pu.kf ?_
 refine TL.p Pu.mv ?_
 refine TL.guard (t := 38) rfl (fun hg2 => ?_) (fun hg2 => ?_)
 refine TL.gs ?_
 refine TL.gs ?_
 refine TL.gs ?_
 refine TL.p Pu.kt ?_
 refine TL.p Pu.mv ?_
 refine TL.gs ?_
 refine TL.gs ?_
 refine TL.gs ?_
 refine TL.p Pu.kt ?_
 refine TL.nil ?_
 exact TQ.sub (by repeat (first | exact trivial | refine ⟨rfl, ?_⟩ | refine ⟨trivial, ?_⟩ | refine ⟨(by show some (Value.bool _) = some (Value.bool _); first | (simp [hg1, hg2, askW]; done) | (refine congrArg (fun z => some (Value.bool z)) (Bool.eq_iff_iff.2 ?_); simp [hg1, hg2, askW]; omega)), ?_⟩)) ks9 hJ1
 refine TL.gd Pu.mv ?_
 refine TL.cr rfl (enters Tryz.func77 rfl rfl) (fun w hw => by
   exact within3_any _ _ _ _) ?_
 refine TL.gd Pu.no ?_
 refine TL.p Pu.kf ?_
 refine TL.p Pu.mv ?_
 refine TL.guard (t := 43) rfl (fun hg3 => ?_) (fun hg3 => ?_)
 refine TL.gs ?_
 refine TL.gs ?_
 refine TL.gs ?_
 refine TL.p Pu.kt ?_
 refine TL.nil ?_
 exact TQ.sub (by repeat (first | exact trivial | refine ⟨rfl, ?_⟩ | refine ⟨trivial, ?_⟩ | refine ⟨(by show some (Value.bool _) = some (Value.bool _); first | (simp [hg1, hg2, hg3, askW]; done) | (refine congrArg (fun z => some (Value.bool z)) (Bool.eq_iff_iff.2 ?_); simp [hg1, hg2, hg3, askW]; omega)), ?_⟩)) ks9 hJ1
 refine TL.gd Pu.mv ?_
 refine TL.cr rfl (enters Tryz.func77 rfl rfl) (fun w hw => by
   exact within3_any _ _ _ _) ?_
 refine TL.gd Pu.no ?_
 refine TL.p Pu.kf ?_
 refine TL.nil ?_
 exact TQ.sub (by repeat (first | exact trivial | refine ⟨rfl, ?_⟩ | refine ⟨trivial, ?_⟩ | refine ⟨(by show some (Value.bool _) = some (Value.bool _); first | (simp [hg1, hg2, hg3, askW]; done) | (refine congrArg (fun z => some (Value.bool z)) (Bool.eq_iff_iff.2 ?_); simp [hg1, hg2, hg3, askW]; omega)), ?_⟩)) ks9 hJ1
end
end Go.Proofs.YtfaenhhgkhcghaaGreatDoor
namespace Go.Proofs.YtfaenhhgkhcghaaGreatDoor
set_option linter.all false
set_option linter.unusedVariables false
set_option linter.unusedSimpArgs false
open Go.RowKit
section
variable {Y : Wy} {Z : Cus} {T : Trp} {E : Fes} {to un : Int} {W A C D B O U V G : Option Addr} {cw cl cc cd cb co cu cv cg : Nat} {w : World}
set_option maxRecDepth 100000 in
set_option maxHeartbeats 8000000 in
theorem refCheapest_any (hL : LandIn w W Y.nw A Y.nl Y.f Y.x Y.g) (h : CustIn w C Z.nc D Z.nd B Z.nb Z.c Z.d Z.b) (t : TrpIn w T O U V) (hnf : E.nf ≤ 1000) (hE : RdR w 2 G E.nf (feeL E)) :
  CallsK Tryz.prog 10 #[.agg (landL W Y.nw cw A Y.nl cl).toArray, .agg (custL C Z.nc cc D Z.nd cd B Z.nb cb).toArray, .agg (troopL T.hd T.wo O T.no co U T.nu cu V T.nv cv).toArray, .slice G E.nf cg, .int .i64 Y.start, .int .i64 to, .int .i64 Y.day, .int .i64 un, .agg #[.int .i64 Y.p0, .int .i64 Y.p1]] [] w CX (chpV Y Z T E to un) (chpF Y Z T E to un) := by
 have fW := fun (w' : World) (v : List Int) (L : Option Addr) (cn : Nat) (hn : v.length ≤ 1000) (h1 : LandIn w' W Y.nw A Y.nl Y.f Y.x Y.g) (h2 : RdR w' 1 L v.length (iL v)) (h3 : CustIn w' C Z.nc D Z.nd B Z.nb Z.c Z.d Z.b) (h4 : TrpIn w' T O U V) => rwalk_any (Y := wsV Y v) (L := L) (cw := cw) (cl := cl) (cc := cc) (cd := cd) (cb := cb) (co := co) (cu := cu) (cv := cv) (cn := cn) h1 hn h2 h3 h4
 have fB := fun (w' : World) (n : Nat) (st : Nat → Nat → Int) (hok : CusOk Z) (htr : trpOk T = true) (hE' : fesOk E = true) (h3 : CustIn w' C Z.nc D Z.nd B Z.nb Z.c Z.d Z.b) (h4 : TrpIn w' T O U V) (As : Option Addr) (cs : Nat) (s : StpIn w' n st As) (h5 : RdR w' 2 G E.nf (feeL E)) => rhire_any (cc := cc) (cd := cd) (cb := cb) (co := co) (cu := cu) (cv := cv) (cs := cs) (ca := cg) hok htr hE' h3 h4 s h5
 have fD := fun (w' : World) (n : Nat) (st : Nat → Nat → Int) (hok : CusOk Z) (htr : trpOk T = true) (h3 : CustIn w' C Z.nc D Z.nd B Z.nb Z.c Z.d Z.b) (h4 : TrpIn w' T O U V) (As : Option Addr) (cs : Nat) (s : StpIn w' n st As) => rdue_any (cc := cc) (cd := cd) (cb := cb) (co := co) (cu := cu) (cv := cv) (cs := cs) hok htr h3 h4 s
 have fY := fun (w' : World) (h1 : LandIn w' W Y.nw A Y.nl Y.f Y.x Y.g) => rWays_any (to := to) (un := un) (cw := cw) (cl := cl) h1
 unfold landL custL troopL at fW
 unfold custL troopL at fB fD
 unfold landL at fY
 unfold landL custL troopL
 refine K_enter (S := []) (K := []) Tryz.func10 rfl Tryz.ntmps10 rfl (Sat.start _) ?_
 refine TW.seq fun Y1 hY1 => TW.region ?_
 refine TL.m Mk.bx ?_
 intro b1
 refine TL.m Mk.bx ?_
 intro b2
 refine TL.m Mk.bx ?_
 intro b3
 refine TL.m Mk.bx ?_
 intro b4
 refine TL.p Pu.as ?_
 refine TL.p Pu.as ?_
 refine TL.p Pu.as ?_
 refine TL.p Pu.as ?_
 refine TL.nil (TQ.thenN (hY1 _ _ ?_))
 refine TW.seq fun Y2 hY2 => ?_
 refine TW.seq fun Y3 hY3 => TW.region ?_
 refine TL.p (Pu.lds ty_ag25) ?_
 refine TL.p (Pu.lds ty_ag30) ?_
 refine TL.cr rfl (enters Tryz.func29 rfl rfl) (fun w hw => by
   exact refCheck_any (hL.ext (Chg.ext hw.chg)) (h.ext (Chg.ext hw.chg))) ?_
 refine TL.p Pu.as ?_
 refine TL.nil (TQ.thenN (hY3 _ _ ?_))
 refine TW.seq fun Y4 hY4 => TW.region ?_
 refine TL.p Pu.mv ?_
 refine TL.p Pu.ne ?_
 refine TL.nil (TQ.thenN (hY4 _ _ ?_))
 refine TW.cond rfl (fun hc0 => ?_) (fun hc0 => ?_)
 try simp only [zcb9] at hc0
 have hne : chkY Y Z ≠ 0 := hc0
 refine TW.seq fun Y5 hY5 => TW.region ?_
 refine TL.p Pu.mv ?_
 refine TL.p Pu.as ?_
 refine TL.p Pu.as ?_
 refine TL.p Pu.as ?_
 refine TL.p Pu.as ?_
 refine TL.nil (TQ.thenN (hY5 _ _ ?_))
 refine TW.ret ?_
 refine TQ.thenR ?_
 refine TQ.ret Tryz.results10 rfl ((.tmp rfl (.tmp rfl (.tmp rfl (.tmp rfl .nil))))) ?_
 exact fun w hw => chp_bad hw (by unfold chpC; rw [if_pos (by rw [rdy_chk hne]; exact hne), rdy_chk hne]; rfl) hne
 try simp only [zcb9] at hc0
 have hz1 : chkY Y Z = 0 := by show checkC _ _ _ _ _ _ _ _ _ _ _ = 0; simpa using hc0
 refine TW.skip ?_
 refine TQ.thenN (hY2 _ _ ?_)
 refine TW.seq fun Y6 hY6 => ?_
 refine TW.seq fun Y7 hY7 => TW.region ?_
 refine TL.p (Pu.lds ty_ag33) ?_
 refine TL.cr rfl (enters Tryz.func30 rfl rfl) (fun w hw => by
   exact rTroop_any (t.ext (Chg.ext hw.chg))) ?_
 refine TL.p Pu.no ?_
 refine TL.nil (TQ.thenN (hY7 _ _ ?_))
 refine TW.cond rfl (fun hc1 => ?_) (fun hc1 => ?_)
 try simp only [zcb9] at hc1
 have h1 : trpOk T = false := by simpa using hc1
 refine TW.seq fun Y8 hY8 => TW.region ?_
 refine TL.p Pu.as ?_
 refine TL.p Pu.as ?_
 refine TL.p Pu.as ?_
 refine TL.p Pu.as ?_
 refine TL.nil (TQ.thenN (hY8 _ _ ?_))
 refine TW.ret ?_
 refine TQ.thenR ?_
 refine TQ.ret Tryz.results10 rfl ((.tmp rfl (.tmp rfl (.tmp rfl (.tmp rfl .nil))))) ?_
 exact fun w hw => chp_bad hw (by unfold chpC; rw [if_pos (by rw [rdy_trp hz1 h1]; decide), rdy_trp hz1 h1]) (by decide)
 try simp only [zcb9] at hc1
 have hz2 : trpOk T = true := by simpa using hc1
 have hz := rdy_ok hz1 hz2
 have hok := chk_ok hz1
 refine TW.skip ?_
 refine TQ.thenN (hY6 _ _ ?_)
 refine TW.seq fun Y9 hY9 => ?_
 refine TW.seq fun Y10 hY10 => TW.region ?_
 refine TL.p Pu.mv ?_
 refine TL.cr rfl (enters Tryz.func31 rfl rfl) (fun w hw => by
   exact rFees_any (by omega) (hE.sat hw Apart.nil)) ?_
 refine TL.p Pu.no ?_
 refine TL.nil (TQ.thenN (hY10 _ _ ?_))
 refine TW.cond rfl (fun hc2 => ?_) (fun hc2 => ?_)
 try simp only [zcb9] at hc2
 have h2 : fesOk E = false := by simpa using hc2
 refine TW.seq fun Y11 hY11 => TW.region ?_
 refine TL.p Pu.as ?_
 refine TL.p Pu.as ?_
 refine TL.p Pu.as ?_
 refine TL.p Pu.as ?_
 refine TL.nil (TQ.thenN (hY11 _ _ ?_))
 refine TW.ret ?_
 refine TQ.thenR ?_
 refine TQ.ret Tryz.results10 rfl ((.tmp rfl (.tmp rfl (.tmp rfl (.tmp rfl .nil))))) ?_
 exact fun w hw => chp_bad hw (by unfold chpC; rw [if_neg (by omega), if_pos h2]) (by decide)
 try simp only [zcb9] at hc2
 have h2 : fesOk E = true := by simpa using hc2
 refine TW.skip ?_
 refine TQ.thenN (hY9 _ _ ?_)
 refine TW.seq fun Y12 hY12 => TW.region ?_
 refine TL.p (Pu.lds ty_ag25) ?_
 refine TL.p Pu.mv ?_
 refine TL.p Pu.mv ?_
 refine TL.p Pu.mv ?_
 refine TL.p Pu.mv ?_
 refine TL.p (Pu.lds ty_ag36) ?_
 refine TL.call (M := []) rfl (enters Tryz.func36 rfl rfl) (List.Perm.refl _) rfl (fun w hw => by
   exact fY _ (hL.ext (Chg.ext hw.chg))) ?_
 rintro ⟨⟨A9, c9⟩, ia, ic⟩
 simp only [wsK, lksR, List.cons_append, List.nil_append]
 refine TL.p Pu.mv ?_
 refine TL.p Pu.ex ?_
 refine TL.p Pu.ex ?_
 refine TL.p Pu.as ?_
 refine TL.p Pu.as ?_
 refine TL.nil (TQ.thenN (hY12 _ _ ?_))
 refine TW.seq fun Y13 hY13 => ?_
 refine TW.seq fun Y14 hY14 => TW.region ?_
 refine TL.p Pu.mv ?_
 refine TL.p Pu.ne ?_
 refine TL.nil (TQ.thenN (hY14 _ _ ?_))
 refine TW.cond rfl (fun hc3 => ?_) (fun hc3 => ?_)
 try simp only [zcb9] at hc3
 have hne : wsC Y to un ≠ 0 := hc3
 refine TW.seq fun Y15 hY15 => TW.region ?_
 refine TL.p Pu.mv ?_
 refine TL.p Pu.as ?_
 refine TL.p Pu.as ?_
 refine TL.p Pu.as ?_
 refine TL.p Pu.as ?_
 refine TL.nil (TQ.thenN (hY15 _ _ ?_))
 refine TW.ret ?_
 refine TQ.thenR ?_
 refine TQ.ret Tryz.results10 rfl ((.tmp rfl (.tmp rfl (.tmp rfl (.tmp rfl .nil))))) ?_
 exact fun w hw => chp_bad hw (by unfold chpC; rw [if_neg (by omega), if_neg (by rw [h2]; simp), if_pos hne]) hne
 try simp only [zcb9] at hc3
 have hwz : wsC Y to un = 0 := by simpa using hc3
 have hwv := fun v (hv : v ∈ wsL Y to un) => wsL_wk hwz hv
 have hcc : chpC Y Z T E to un = if (chpS Y Z T E to un).2.2.2 = true then 0 else 75 := by unfold chpC; rw [if_neg (by omega), if_neg (by rw [h2]; simp), if_neg (by omega)]
 replace hcc := hidT hcc
 have hl2 : (wsL Y to un).length ≤ 200 := wsL_len hwz
 have hln : ∀ v, v ∈ wsL Y to un → v.length ≤ 24 := fun v hv => wsL_n hwz hv
 refine TW.skip ?_
 refine TQ.thenN (hY13 _ _ ?_)
 refine TW.seq fun Y16 hY16 => TW.region ?_
 refine TL.p Pu.as ?_
 refine TL.p Pu.as ?_
 refine TL.nil (TQ.thenN (hY16 _ _ ?_))
 refine TW.seq fun Y17 hY17 => TW.region ?_
 refine TL.p Pu.as ?_
 refine TL.p Pu.as ?_
 refine TL.nil (TQ.thenN (hY17 _ _ ?_))
 refine TW.seq fun Y18 hY18 => ?_
 refine TW.seq fun Y19 hY19 => TW.region ?_
 refine TL.p Pu.as ?_
 refine TL.nil (TQ.thenN (hY19 _ _ ?_))
 refine TW.block ?_
 refine TW.loop5 (fun (k : Nat) (s : ChS) (z : Option Addr × Nat × Nat) (Ag : Option Addr) (ag : Nat) => [(29, .int .i64 (k : Int)), (23, .slice A9 (wsL Y to un).length c9), (25, .slice z.1 z.2.2 z.2.1), (26, .slice Ag s.2.1.length ag), (27, .int .i64 s.2.2.1), (28, .bool s.2.2.2), (3, .slice G E.nf cg), (4, .int .i64 Y.start), (6, .int .i64 Y.day), (9, .pointer (some ⟨b1, 0, none⟩)), (10, .pointer (some ⟨b2, 0, none⟩)), (11, .pointer (some ⟨b3, 0, none⟩)), (17, .pointer (some ⟨b4, 0, none⟩))]) (fun k s z Ag ag => [.own Ag s.2.1.length ag 3 1 (iL s.2.1), .own A9 (wsL Y to un).length c9 31 1 (fun k => [.slice (ia k) ((wsL Y to un).getD k []).length (ic k)]), bun (lksK (wsL Y to un) ia ic), .blk b1 25 [.slice W Y.nw cw, .slice A Y.nl cl], .blk b2 30 [.slice C Z.nc cc, .slice D Z.nd cd, .slice B Z.nb cb], .blk b3 33 [.int .i64 T.hd, .int .i64 T.wo, .slice O T.no co, .slice U T.nu cu, .slice V T.nv cv], .blk b4 36 [.int .i64 Y.p0, .int .i64 Y.p1]]) (fun k s z Ag ag => k ≤ (wsL Y to un).length ∧ s = chpK Y Z T E (wsL Y to un) k ∧ (s.2.2.2 = true → z.1 = ia s.1 ∧ z.2.1 = ic s.1 ∧ z.2.2 = ((wsL Y to un).getD s.1 []).length)) (fun k s z Ag ag => (wsL Y to un).length - k) 0 (0, [], 0, false) (none, 0, 0) none 0 fs9 ?_ ?_ ?_
 exact KSub.nilOwn ks9
 exact ⟨Nat.zero_le _, rfl, fun h9 => by cases h9⟩
 rintro k s z Ag ag ⟨hk, hs, hsl⟩ Z0 hZ0
 have hsb := chpK_bd (Y := Y) hok hz2 h2 (fun v hv => Nat.le_trans (hln v hv) (by decide)) k hk
 rw [← hs] at hsb
 replace hs := hidT hs
 replace hsl := hidT hsl
 refine TW.seq fun Y20 hY20 => ?_
 refine TW.seq fun Y21 hY21 => TW.region ?_
 refine TL.p Pu.mv ?_
 refine TL.p Pu.mv ?_
 refine TL.p (Pu.ln Tryz.underlying87) ?_
 refine TL.p Pu.lt ?_
 refine TL.nil (TQ.thenN (hY21 _ _ ?_))
 refine TW.cond rfl (fun hc4 => ?_) (fun hc4 => ?_)
 try simp only [zcb9] at hc4
 have hkn : k < (wsL Y to un).length := by omega
 have hvm : ((wsL Y to un).getD k []) ∈ wsL Y to un := by rw [List.getD_eq_getElem?_getD, List.getElem?_eq_getElem hkn]; exact List.getElem_mem _
 have hvw := hwv _ hvm
 have hvn := hln _ hvm
 have htc : tolC (wsV Y ((wsL Y to un).getD k [])) Z T = 0 := by rw [tol_wk (show rdyC (wsV Y ((wsL Y to un).getD k [])) Z T = 0 from hz)]; exact hvw
 have htn : tolN (wsV Y ((wsL Y to un).getD k [])) Z T = ((wsL Y to un).getD k []).length := tolN_n htc
 have hwb := stY_bd hvw
 have hib := hirW_bd (Y := wsV Y ((wsL Y to un).getD k [])) (Z := Z) (T := T) h2
 have hab := all_bd (st := stY (wsV Y ((wsL Y to un).getD k []))) hok hz2 ((wsL Y to un).getD k []).length
 obtain ⟨hh, hhe⟩ : ∃ hh, hh = hirW (wsV Y ((wsL Y to un).getD k [])) Z T E := ⟨_, rfl⟩
 obtain ⟨hi9, hie⟩ : ∃ hi9, hi9 = allHi Z T (stY (wsV Y ((wsL Y to un).getD k []))) ((wsL Y to un).getD k []).length := ⟨_, rfl⟩
 obtain ⟨lo9, hlo⟩ : ∃ lo9, lo9 = allLo Z T (stY (wsV Y ((wsL Y to un).getD k []))) ((wsL Y to un).getD k []).length := ⟨_, rfl⟩
 rw [← hhe] at hib
 rw [← hie, ← hlo] at hab
 have hst1 : chpK Y Z T E (wsL Y to un) (k + 1) = if (hh.2.2 && (!s.2.2.2 || decide (hh.2.1 + hi9 < s.2.2.1))) = true then (k, hh.1, hh.2.1 + hi9, true) else s := by rw [hs.out, hhe, hie]; rfl
 replace hhe := hidT hhe
 replace hie := hidT hie
 replace hlo := hidT hlo
 replace htc := hidT htc
 replace htn := hidT htn
 refine TW.skip ?_
 refine TQ.thenN (hY20 _ _ ?_)
 refine TW.seq fun Y22 hY22 => ?_
 refine TW.block ?_
 refine TW.seq fun Y23 hY23 => ?_
 refine TW.dw 16 ?_
 refine RK.tk (Pu.lds ty_ag25) ?_
 refine RK.tk (Pu.lds ty_ag30) ?_
 refine RK.tk (Pu.lds ty_ag33) ?_
 refine RK.tk Pu.mv ?_
 refine RK.tk Pu.mv ?_
 refine RK.tk (Pu.lds ty_ag36) ?_
 refine RK.tk Pu.mv ?_
 refine RK.tk Pu.mv ?_
 refine RK.tk (Pu.el ty_et87) ?_
 refine RK.tk (Pu.ld ty_sc31) ?_
 refine RK.keep ?_
 refine RK.keep ?_
 refine RK.keep ?_
 refine RK.keep ?_
 refine RK.keep ?_
 refine RK.keep ?_
 refine RK.ch [false, true, true, true, true, true] ?_ trivial
 refine WK.call rfl (enters Tryz.func32 rfl rfl) rfl (fun w hw => by
   have q0 := bun_get hw (K1 := lksK (wsL Y to un) ia ic) (Pick.mem pk9) (lks_mem hkn)
   have h9 := fW _ ((wsL Y to un).getD k []) (ia k) (ic k) (by omega) (hL.ext (Chg.ext hw.chg)) (OwnR.rdr q0) (h.ext (Chg.ext hw.chg)) (t.ext (Chg.ext hw.chg))
   rw [htn.out, htc.out] at h9
   exact h9) ?_
 rintro ⟨As, cs⟩
 refine WK.p Pu.mv ?_
 refine WK.p Pu.ex ?_
 refine WK.p Pu.ex ?_
 refine WK.p Pu.as ?_
 refine WK.p Pu.as ?_
 refine WK.n ?_
 refine TL.nil (TQ.thenN (hY23 _ _ ?_))
 refine TW.seq fun Y24 hY24 => ?_
 refine TW.seq fun Y25 hY25 => TW.region ?_
 refine TL.p Pu.mv ?_
 refine TL.p Pu.ne ?_
 refine TL.nil (TQ.thenN (hY25 _ _ ?_))
 refine TW.condF rfl (rfl) ?_
 refine TW.skip ?_
 refine TQ.thenN (hY24 _ _ ?_)
 refine TW.seq fun Y26 hY26 => TW.region ?_
 refine TL.p (Pu.lds ty_ag30) ?_
 refine TL.p (Pu.lds ty_ag33) ?_
 refine TL.p Pu.mv ?_
 refine TL.p Pu.mv ?_
 refine TL.call (M := []) rfl (enters Tryz.func33 rfl rfl) (List.Perm.refl _) rfl (fun w hw => by
   have q2 := OwnR.rdr (hw.holds (.own As ((wsL Y to un).getD k []).length cs 160 6 (fun j => stopL (stY (wsV Y ((wsL Y to un).getD k [])) j))) (Pick.mem pk9))
   have h9 := fB _ ((wsL Y to un).getD k []).length (stY (wsV Y ((wsL Y to un).getD k []))) hok hz2 h2 (h.ext (Chg.ext hw.chg)) (t.ext (Chg.ext hw.chg)) As cs ⟨by omega, q2, hwb⟩ (hE.sat hw Apart.nil)
   rw [show hirV Z T ((wsL Y to un).getD k []).length (stY (wsV Y ((wsL Y to un).getD k []))) E = hirW (wsV Y ((wsL Y to un).getD k [])) Z T E from rfl, ← hhe.out] at h9
   exact h9) ?_
 rintro ⟨Ah, ah⟩
 simp only [hirR]
 refine TL.p Pu.mv ?_
 refine TL.p Pu.ex ?_
 refine TL.p Pu.ex ?_
 refine TL.p Pu.ex ?_
 refine TL.p Pu.as ?_
 refine TL.p Pu.as ?_
 refine TL.p Pu.as ?_
 refine TL.nil (TQ.thenN (hY26 _ _ ?_))
 refine TW.seq fun Y27 hY27 => ?_
 refine TW.seq fun Y28 hY28 => TW.region ?_
 refine TL.p Pu.mv ?_
 refine TL.p Pu.no ?_
 refine TL.nil (TQ.thenN (hY28 _ _ ?_))
 refine TW.cond rfl (fun hc6 => ?_) (fun hc6 => ?_)
 try simp only [zcb9] at hc6
 have hhF : hh.2.2 = false := by simpa using hc6
 rw [if_neg (by rw [hhF]; simp)] at hst1
 replace hst1 := hidT hst1
 refine TW.exit ?_
 refine TQ.thenX ?_
 refine TQ.blkX ?_
 refine TQ.thenN (hY22 _ _ ?_)
 refine TW.region ?_
 refine TL.p Pu.mv ?_
 refine TL.p Pu.ad ?_
 refine TL.p Pu.as ?_
 refine TL.nil ?_
 refine TQ.thenN (hZ0 (k + 1) (by first | exact (fun (_ : (!s.2.2.2 || decide (hh.2.1 + hi9 < s.2.2.1)) = true) => ((k, hh.1, hh.2.1 + hi9, true) : ChS)) hT9 | exact s) (by first | exact (fun (_ : (!s.2.2.2 || decide (hh.2.1 + hi9 < s.2.2.1)) = true) => ((ia k, ic k, ((wsL Y to un).getD k []).length) : Option Addr × Nat × Nat)) hT9 | exact z) (by first | exact (fun (_ : (!s.2.2.2 || decide (hh.2.1 + hi9 < s.2.2.1)) = true) => Ah) hT9 | exact Ag) (by first | exact (fun (_ : (!s.2.2.2 || decide (hh.2.1 + hi9 < s.2.2.1)) = true) => ah) hT9 | exact ag) _ _ ?_ ?_ fs9 ?_)
 exact ⟨by omega, hst1.out.symm, by first | exact hsl.out | exact fun _ => ⟨rfl, rfl, rfl⟩⟩
 exact zom9
 exact ks9
 try simp only [zcb9] at hc6
 have hT : hh.2.2 = true := by simpa using hc6
 rw [hT, Bool.true_and] at hst1
 refine TW.skip ?_
 refine TQ.thenN (hY27 _ _ ?_)
 refine TW.seq fun Y29 hY29 => TW.region ?_
 refine TL.p (Pu.lds ty_ag30) ?_
 refine TL.p (Pu.lds ty_ag33) ?_
 refine TL.p Pu.mv ?_
 refine TL.call (M := []) rfl (enters Tryz.func37 rfl rfl) (List.Perm.refl _) rfl (fun w hw => by
   have q2 := OwnR.rdr (hw.holds (.own As ((wsL Y to un).getD k []).length cs 160 6 (fun j => stopL (stY (wsV Y ((wsL Y to un).getD k [])) j))) (Pick.mem pk9))
   have h9 := fD _ ((wsL Y to un).getD k []).length (stY (wsV Y ((wsL Y to un).getD k []))) hok hz2 (h.ext (Chg.ext hw.chg)) (t.ext (Chg.ext hw.chg)) As cs ⟨by omega, q2, hwb⟩
   rw [← hie.out, ← hlo.out] at h9
   exact h9) ?_
 rintro ⟨At, at9⟩
 refine TL.p Pu.mv ?_
 refine TL.p Pu.ex ?_
 refine TL.p Pu.ex ?_
 refine TL.m (Mk.al ty_zr36) ?_
 intro b5
 refine TL.p Pu.as ?_
 first | refine TL.st ty_sz36 ?_ | refine TL.se ty_sz36 ?_
 refine TL.nil (TQ.thenN (hY29 _ _ ?_))
 refine TW.seq fun Y30 hY30 => ?_
 refine TW.join [(111, .bool (!s.2.2.2 || decide (hh.2.1 + hi9 < s.2.2.1)))] ?_ (fun hJ1 => ?_)
 refine TQ.thenN (hY30 _ _ ?_)
 refine TW.cond rfl (fun hc7 => ?_) (fun hc7 => ?_)
 try simp only [zcb9] at hc7
 have hyes : (!s.2.2.2 || decide (hh.2.1 + hi9 < s.2.2.1)) = true := by first | exact hc7 | (simp only [Bool.or_eq_true, Bool.not_eq_true', decide_eq_true_eq]; exact hc7)
 rw [if_pos hyes] at hst1
 have hT9 := hyes
 replace hst1 := hidT hst1
 refine TW.dw 13 ?_
 refine RK.tk Pu.mv ?_
 refine RK.tk Pu.mv ?_
 refine RK.tk (Pu.el ty_et87) ?_
 refine RK.tk (Pu.ld ty_sc31) ?_
 refine RK.tk Pu.mv ?_
 refine RK.tk Pu.mv ?_
 refine RK.tk (by first | exact Pu.fb ty_fa36_1 | exact Pu.fe ty_fa36_1) ?_
 refine RK.tk (Pu.ld ty_sc3) ?_
 refine RK.tk Pu.ad ?_
 refine RK.tk Pu.as ?_
 refine RK.tk Pu.as ?_
 refine RK.tk Pu.as ?_
 refine RK.tk Pu.as ?_
 refine RK.ch [] ?_ trivial
 refine WK.n ?_
 refine TL.nil ?_
 refine TQ.blkN ?_
 refine TQ.thenN (hY22 _ _ ?_)
 refine TW.region ?_
 refine TL.p Pu.mv ?_
 refine TL.p Pu.ad ?_
 refine TL.p Pu.as ?_
 refine TL.nil ?_
 refine TQ.thenN (hZ0 (k + 1) (by first | exact (fun (_ : (!s.2.2.2 || decide (hh.2.1 + hi9 < s.2.2.1)) = true) => ((k, hh.1, hh.2.1 + hi9, true) : ChS)) hT9 | exact s) (by first | exact (fun (_ : (!s.2.2.2 || decide (hh.2.1 + hi9 < s.2.2.1)) = true) => ((ia k, ic k, ((wsL Y to un).getD k []).length) : Option Addr × Nat × Nat)) hT9 | exact z) (by first | exact (fun (_ : (!s.2.2.2 || decide (hh.2.1 + hi9 < s.2.2.1)) = true) => Ah) hT9 | exact Ag) (by first | exact (fun (_ : (!s.2.2.2 || decide (hh.2.1 + hi9 < s.2.2.1)) = true) => ah) hT9 | exact ag) _ _ ?_ ?_ fs9 ?_)
 exact ⟨by omega, hst1.out.symm, by first | exact hsl.out | exact fun _ => ⟨rfl, rfl, rfl⟩⟩
 exact zom9
 exact ks9
 try simp only [zcb9] at hc7
 have hno : ¬ (!s.2.2.2 || decide (hh.2.1 + hi9 < s.2.2.1)) = true := by intro h9; rw [Bool.or_eq_true, Bool.not_eq_true', decide_eq_true_eq] at h9; simp_all; omega
 rw [if_neg hno] at hst1
 replace hst1 := hidT hst1
 refine TW.skip ?_
 refine TQ.blkN ?_
 refine TQ.thenN (hY22 _ _ ?_)
 refine TW.region ?_
 refine TL.p Pu.mv ?_
 refine TL.p Pu.ad ?_
 refine TL.p Pu.as ?_
 refine TL.nil ?_
 refine TQ.thenN (hZ0 (k + 1) (by first | exact (fun (_ : (!s.2.2.2 || decide (hh.2.1 + hi9 < s.2.2.1)) = true) => ((k, hh.1, hh.2.1 + hi9, true) : ChS)) hT9 | exact s) (by first | exact (fun (_ : (!s.2.2.2 || decide (hh.2.1 + hi9 < s.2.2.1)) = true) => ((ia k, ic k, ((wsL Y to un).getD k []).length) : Option Addr × Nat × Nat)) hT9 | exact z) (by first | exact (fun (_ : (!s.2.2.2 || decide (hh.2.1 + hi9 < s.2.2.1)) = true) => Ah) hT9 | exact Ag) (by first | exact (fun (_ : (!s.2.2.2 || decide (hh.2.1 + hi9 < s.2.2.1)) = true) => ah) hT9 | exact ag) _ _ ?_ ?_ fs9 ?_)
 exact ⟨by omega, hst1.out.symm, by first | exact hsl.out | exact fun _ => ⟨rfl, rfl, rfl⟩⟩
 exact zom9
 exact ks9
 refine TW.region ?_
 refine TL.p Pu.mv ?_
 refine TL.p Pu.no ?_
 refine TL.p Pu.mv ?_
 refine TL.guard (t := 104) rfl (fun hg1 => ?_) (fun hg1 => ?_)
 refine TL.gs ?_
 refine TL.gs ?_
 refine TL.gs ?_
 refine TL.gs ?_
 refine TL.gs ?_
 refine TL.gs ?_
 refine TL.p Pu.kt ?_
 refine TL.nil ?_
 exact TQ.sub (by repeat (first | exact trivial | refine ⟨rfl, ?_⟩ | refine ⟨trivial, ?_⟩ | refine ⟨(by show some (Value.bool _) = some (Value.bool _); first | (simp [hg1]; done) | (refine congrArg (fun z => some (Value.bool z)) (Bool.eq_iff_iff.2 ?_); simp [hg1]; omega)), ?_⟩)) ks9 hJ1
 refine TL.gd Pu.mv ?_
 refine TL.gd (by first | exact Pu.fb ty_fa36_1 | exact Pu.fe ty_fa36_1) ?_
 refine TL.gd (Pu.ld ty_sc3) ?_
 refine TL.gd Pu.ad ?_
 refine TL.gd Pu.mv ?_
 refine TL.gd Pu.lt ?_
 refine TL.p Pu.kf ?_
 refine TL.nil ?_
 exact TQ.sub (by repeat (first | exact trivial | refine ⟨rfl, ?_⟩ | refine ⟨trivial, ?_⟩ | refine ⟨(by show some (Value.bool _) = some (Value.bool _); first | (simp [hg1]; done) | (refine congrArg (fun z => some (Value.bool z)) (Bool.eq_iff_iff.2 ?_); simp [hg1]; omega)), ?_⟩)) ks9 hJ1
 try simp only [zcb9] at hc4
 obtain rfl : k = (wsL Y to un).length := by omega
 refine TW.exit ?_
 refine TQ.thenX ?_
 refine TQ.thenX ?_
 refine TQ.blkX ?_
 refine TQ.thenN (hY18 _ _ ?_)
 refine TW.seq fun Y31 hY31 => ?_
 refine TW.seq fun Y32 hY32 => TW.region ?_
 refine TL.p Pu.mv ?_
 refine TL.p Pu.no ?_
 refine TL.nil (TQ.thenN (hY32 _ _ ?_))
 refine TW.cond rfl (fun hc8 => ?_) (fun hc8 => ?_)
 try simp only [zcb9] at hc8
 have hfd : s.2.2.2 = false := by simpa using hc8
 refine TW.seq fun Y33 hY33 => TW.region ?_
 refine TL.p Pu.as ?_
 refine TL.p Pu.as ?_
 refine TL.p Pu.as ?_
 refine TL.p Pu.as ?_
 refine TL.nil (TQ.thenN (hY33 _ _ ?_))
 refine TW.ret ?_
 refine TQ.thenR ?_
 refine TQ.ret Tryz.results10 rfl ((.tmp rfl (.tmp rfl (.tmp rfl (.tmp rfl .nil))))) ?_
 exact fun w hw => chp_bad hw (by rw [hcc.out, show chpS Y Z T E to un = s from hs.out.symm, hfd]; rfl) (by decide)
 try simp only [zcb9] at hc8
 have hfd : s.2.2.2 = true := by simpa using hc8
 obtain ⟨e1, e2, e3⟩ := hsl.out hfd
 have hS : chpS Y Z T E to un = s := hs.out.symm
 have hlt : s.1 < (wsL Y to un).length := by have h9 := chpK_at (Y := Y) (Z := Z) (T := T) (E := E) (L := wsL Y to un) _ (by rw [← hs.out]; exact hfd); rw [← hs.out] at h9; exact h9
 have hC0 : chpC Y Z T E to un = 0 := by rw [hcc.out, hS, if_pos hfd]
 have hL0 : chpL Y Z T E to un = (wsL Y to un).getD s.1 [] := by unfold chpL; rw [if_pos hC0, hS]
 have hG0 : chpG Y Z T E to un = s.2.1 := by unfold chpG; rw [if_pos hC0, hS]
 have hN0 : chpN Y Z T E to un = s.2.2.1 := by unfold chpN; rw [if_pos hC0, hS]
 refine TW.skip ?_
 refine TQ.thenN (hY31 _ _ ?_)
 refine TW.seq fun Y34 hY34 => TW.region ?_
 refine TL.p Pu.mv ?_
 refine TL.p Pu.mv ?_
 refine TL.p Pu.mv ?_
 refine TL.p Pu.as ?_
 refine TL.p Pu.as ?_
 refine TL.p Pu.as ?_
 refine TL.p Pu.as ?_
 refine TL.nil (TQ.thenN (hY34 _ _ ?_))
 refine TW.ret ?_
 refine TQ.ret Tryz.results10 rfl ((.tmp rfl (.tmp rfl (.tmp rfl (.tmp rfl .nil))))) ?_
 exact fun w hw => ⟨((z.1, z.2.1), Ag, ag), by unfold chpV; rw [hL0, hG0, hN0, hC0, ← e3]; rfl, by unfold chpF; rw [hL0, hG0, e1, e2]; exact sat_bunM (hw.sub (KSub.cons pk9 (KSub.cons pk9 KSub.nil))) (lks_mem hlt)⟩
end
end Go.Proofs.YtfaenhhgkhcghaaGreatDoor
namespace Go.Proofs.YtfaenhhgkhcghaaGreatDoor
set_option linter.all false
set_option linter.unusedVariables false
set_option linter.unusedSimpArgs false
open Go.RowKit
def sameN (n1 : Nat) (v1 : Nat → Int) (n2 : Nat) (v2 : Nat → Int) : Bool := decide (n1 = n2) && allB n1 (fun k => decide (v1 k = v2 k))
theorem sameN_self {n : Nat} {v : Nat → Int} : sameN n v n v = true := by
 unfold sameN
 rw [decide_eq_true rfl, Bool.true_and, allB_iff]
 exact fun _ _ => decide_eq_true rfl
set_option maxRecDepth 100000 in
theorem sameInts3_any {A B : Option Addr} {n1 n2 c1 c2 : Nat} {v1 v2 : Nat → Int} {w : World} (hn : n1 ≤ 1000000000) (hA : RdR w 1 A n1 (fun k => [.int .i64 (v1 k)])) (hB : RdR w 1 B n2 (fun k => [.int .i64 (v2 k)])) :
  Calls Tryz.prog 11 #[.slice A n1 c1, .slice B n2 c2] w (Ret w (.bool (sameN n1 v1 n2 v2))) := by
 refine K_enter (S := []) (K := []) Tryz.func11 rfl Tryz.ntmps11 rfl (Sat.start _) ?_
 refine TW.seq fun Y1 hY1 => TW.region ?_
 refine TL.p Pu.as ?_
 refine TL.nil (TQ.thenN (hY1 _ _ ?_))
 refine TW.seq fun Y2 hY2 => ?_
 refine TW.seq fun Y3 hY3 => TW.region ?_
 refine TL.p Pu.mv ?_
 refine TL.p (Pu.ln Tryz.underlying31) ?_
 refine TL.p Pu.mv ?_
 refine TL.p (Pu.ln Tryz.underlying31) ?_
 refine TL.p Pu.ne ?_
 refine TL.nil (TQ.thenN (hY3 _ _ ?_))
 refine TW.cond rfl (fun hc0 => ?_) (fun hc0 => ?_)
 try simp only [zcb9] at hc0
 refine TW.seq fun Y4 hY4 => TW.region ?_
 refine TL.p Pu.as ?_
 refine TL.nil (TQ.thenN (hY4 _ _ ?_))
 refine TW.ret ?_
 refine TQ.thenR ?_
 refine TQ.ret Tryz.results11 rfl ((.tmp rfl .nil)) ?_
 exact fun w hw => ⟨ret_bool (by
  have : ¬ n1 = n2 := fun e => by subst e; simp at hc0
  simp [sameN, this]), Chg.ext hw.chg⟩
 try simp only [zcb9] at hc0
 have hnn : n1 = n2 := by
  have : ¬ ¬ ((n1 : Int) = (n2 : Int)) := by simpa using hc0
  omega
 refine TW.skip ?_
 refine TQ.thenN (hY2 _ _ ?_)
 refine TW.seq fun Y5 hY5 => ?_
 refine TW.seq fun Y6 hY6 => TW.region ?_
 refine TL.p Pu.as ?_
 refine TL.nil (TQ.thenN (hY6 _ _ ?_))
 refine TW.block ?_
 refine TW.loop1 (fun (k : Nat) => [(5, .int .i64 (k : Int)), (0, .slice A n1 c1), (1, .slice B n2 c2)]) (fun k => []) (fun k => k ≤ n1 ∧ ∀ j, j < k → v1 j = v2 j) (fun k => n1 - k) 0 fs9 ?_ ?_ ?_
 exact ks9
 exact ⟨by omega, fun j hj => by omega⟩
 rintro k ⟨hk, hall⟩ Z0 hZ0
 refine TW.seq fun Y7 hY7 => ?_
 refine TW.seq fun Y8 hY8 => TW.region ?_
 refine TL.p Pu.mv ?_
 refine TL.p Pu.mv ?_
 refine TL.p (Pu.ln Tryz.underlying31) ?_
 refine TL.p Pu.lt ?_
 refine TL.nil (TQ.thenN (hY8 _ _ ?_))
 refine TW.cond rfl (fun hc1 => ?_) (fun hc1 => ?_)
 try simp only [zcb9] at hc1
 refine TW.skip ?_
 refine TQ.thenN (hY7 _ _ ?_)
 refine TW.seq fun Y9 hY9 => ?_
 refine TW.block ?_
 refine TW.seq fun Y10 hY10 => ?_
 refine TW.dw 9 ?_
 refine RK.tk Pu.mv ?_
 refine RK.tk Pu.mv ?_
 refine RK.tk (Pu.el ty_et31) ?_
 refine RK.tk (Pu.ld ty_sc3) ?_
 refine RK.tk Pu.mv ?_
 refine RK.tk Pu.mv ?_
 refine RK.tk (Pu.el ty_et31) ?_
 refine RK.tk (Pu.ld ty_sc3) ?_
 refine RK.tk Pu.ne ?_
 refine RK.ch [] ?_ trivial
 refine WK.n ?_
 refine TL.nil (TQ.thenN (hY10 _ _ ?_))
 refine TW.cond rfl (fun hc2 => ?_) (fun hc2 => ?_)
 try simp only [zcb9] at hc2
 have hbad : ¬ v1 k = v2 k := by simpa using hc2
 refine TW.seq fun Y11 hY11 => TW.region ?_
 refine TL.p Pu.as ?_
 refine TL.nil (TQ.thenN (hY11 _ _ ?_))
 refine TW.ret ?_
 refine TQ.blkR ?_
 refine TQ.thenR ?_
 refine TQ.thenR ?_
 refine TQ.blkR ?_
 refine TQ.thenR ?_
 refine TQ.ret Tryz.results11 rfl ((.tmp rfl .nil)) ?_
 exact fun w hw => ⟨ret_bool (by
  cases h : sameN n1 v1 n2 v2 with
  | false => rfl
  | true =>
   simp only [sameN, Bool.and_eq_true, allB_iff, decide_eq_true_eq] at h
   exact absurd (h.2 k (by omega)) hbad), Chg.ext hw.chg⟩
 try simp only [zcb9] at hc2
 have hgood : v1 k = v2 k := by simpa using hc2
 refine TW.skip ?_
 refine TQ.blkN ?_
 refine TQ.thenN (hY9 _ _ ?_)
 refine TW.region ?_
 refine TL.p Pu.mv ?_
 refine TL.p Pu.ad ?_
 refine TL.p Pu.as ?_
 refine TL.nil ?_
 refine TQ.thenN (hZ0 (k + 1) _ _ ?_ ?_ fs9 ?_)
 refine ⟨by omega, fun j hj => ?_⟩
 by_cases h : j = k
 subst h; exact hgood
 exact hall j (by omega)
 exact zom9
 exact ks9
 try simp only [zcb9] at hc1
 refine TW.exit ?_
 refine TQ.thenX ?_
 refine TQ.thenX ?_
 refine TQ.blkX ?_
 refine TQ.thenN (hY5 _ _ ?_)
 refine TW.seq fun Y12 hY12 => TW.region ?_
 refine TL.p Pu.as ?_
 refine TL.nil (TQ.thenN (hY12 _ _ ?_))
 refine TW.ret ?_
 refine TQ.ret Tryz.results11 rfl ((.tmp rfl .nil)) ?_
 exact fun w hw => ⟨ret_bool (by
  obtain rfl : k = n1 := by omega
  simp only [sameN, Bool.and_eq_true, allB_iff, decide_eq_true_eq]
  exact ⟨hnn, hall⟩), Chg.ext hw.chg⟩
theorem same3_true {A B : Option Addr} {n c1 c2 : Nat} {v : Nat → Int} {w : World} (hn : n ≤ 1000000000) (hA : RdR w 1 A n (fun k => [.int .i64 (v k)])) (hB : RdR w 1 B n (fun k => [.int .i64 (v k)])) :
  Calls Tryz.prog 11 #[.slice A n c1, .slice B n c2] w (Ret w (.bool true)) := by
 have h := sameInts3_any (c1 := c1) (c2 := c2) hn hA hB
 rwa [sameN_self] at h
abbrev TTx := (Option Addr × Nat) × (Option Addr × Nat) × (Option Addr × Nat)
def twT (T : Trp) (x : TTx) : List Fact :=
 [.own x.1.1 T.no x.1.2 3 1 (fun i => [.int .i64 (T.o i)]), .own x.2.1.1 T.nu x.2.1.2 3 1 (fun i => [.int .i64 (T.u i)]), .own x.2.2.1 T.nv x.2.2.2 3 1 (fun i => [.int .i64 (T.v i)])]
section
variable {T : Trp} {O U V O' U' V' : Option Addr} {co cu cv co' cu' cv' : Nat} {w w0 : World} {S : List Nat} {K : List Fact}
set_option maxRecDepth 100000 in
set_option maxHeartbeats 4000000 in
theorem twinTroop_any (t : TrpIn w T O U V) :
  CallsK Tryz.prog 6 #[.agg (troopL T.hd T.wo O T.no co U T.nu cu V T.nv cv).toArray] [] w TTx (fun x => .agg (troopL T.hd T.wo x.1.1 T.no x.1.2 x.2.1.1 T.nu x.2.1.2 x.2.2.1 T.nv x.2.2.2).toArray) (fun x => twT T x) := by
 have hRO := t.hO
 have hRU := t.hU
 have hRV := t.hV
 have hno := t.hno
 have hnu := t.hnu
 have hnv := t.hnv
 unfold troopL twT
 refine K_enter (S := []) (K := []) Tryz.func6 rfl Tryz.ntmps6 rfl (Sat.start _) ?_
 refine TW.seq fun Y1 hY1 => TW.region ?_
 refine TL.m Mk.bx ?_
 intro b1
 refine TL.m (Mk.al ty_zr33) ?_
 intro b2
 refine TL.nil (TQ.thenN (hY1 _ _ ?_))
 refine TW.seq fun Y2 hY2 => ?_
 refine TW.expu 13 [.blk b1 33 [.int .i64 T.hd, .int .i64 T.wo, .slice O T.no co, .slice U T.nu cu, .slice V T.nv cv]] (fun (⟨A3, c3, A7, c7, A11, c11⟩ : Option Addr × Nat × Option Addr × Nat × Option Addr × Nat) => ([(1, .pointer (some ⟨b1, 0, none⟩)), (2, .pointer (some ⟨b2, 0, none⟩))] : Fr)) (fun (⟨A3, c3, A7, c7, A11, c11⟩ : Option Addr × Nat × Option Addr × Nat × Option Addr × Nat) => [.blk b1 33 [.int .i64 T.hd, .int .i64 T.wo, .slice A3 T.no c3, .slice A7 T.nu c7, .slice A11 T.nv c11], .own A3 T.no c3 3 1 (fun i => [.int .i64 (T.o i)]), .own A7 T.nu c7 3 1 (fun i => [.int .i64 (T.u i)]), .own A11 T.nv c11 3 1 (fun i => [.int .i64 (T.v i)]), .blk b2 33 [.int .i64 0, .int .i64 0, .slice none 0 0, .slice none 0 0, .slice none 0 0]]) ?_ (fun hE => ?_)
 rintro ⟨A3, c3, A7, c7, A11, c11⟩
 refine TQ.thenN (hY2 _ _ ?_)
 refine TW.seq fun Y3 hY3 => TW.region ?_
 refine TL.p (Pu.lds ty_ag33) ?_
 first | refine TL.st ty_sz33 ?_ | refine TL.se ty_sz33 ?_
 refine TL.nil (TQ.thenN (hY3 _ _ ?_))
 refine TW.ret ?_
 refine TQ.ret Tryz.results6 rfl ((RV.cs ty_ag33 .nil)) ?_
 exact fun w hw => ⟨((A3, c3), (A7, c7), (A11, c11)), rfl, hw.sub ks9⟩
 refine RU.tm 1 rfl (by first | exact Pu.fb ty_fa33_2 | exact Pu.fs ty_fa33_2) ?_
 refine RU.tk 2 rfl (Pu.ld ty_sc31) ?_
 refine RU.tm 5 rfl (by first | exact Pu.fb ty_fa33_3 | exact Pu.fs ty_fa33_3) ?_
 refine RU.tk 6 rfl (Pu.ld ty_sc31) ?_
 refine RU.tm 9 rfl (by first | exact Pu.fb ty_fa33_4 | exact Pu.fs ty_fa33_4) ?_
 refine RU.tk 10 rfl (Pu.ld ty_sc31) ?_
 refine RU.a3 0 4 8 rfl rfl rfl (fun X0 hX0 => ?_) (fun X4 hX4 => ?_) (fun X8 hX8 => ?_)
 refine TL.m Mk.bl ?_
 intro x0
 refine TL.nil ?_
 refine TQ.nxt (hX0 _ _ hl9 ?_)
 refine RU.a3 3 4 8 rfl rfl rfl (fun X3 hX3 => ?_) (fun X4 hX4 => ?_) (fun X8 hX8 => ?_)
 refine TL.ob (b := x0) (sz := 1) (r := fun _ => []) pk9 rfl ?_
 first | refine TL.a0 ty_et31 ?_ | refine TL.ap ty_et31 ?_
 intro A3 c3
 refine TL.nil ?_
 refine TQ.nxt (hX3 _ _ hl9 ?_)
 refine RU.tm 12 rfl (by first | exact Pu.fb ty_fa33_2 | exact Pu.fs ty_fa33_2) ?_
 refine RU.a2 4 8 rfl rfl (fun X4 hX4 => ?_) (fun X8 hX8 => ?_)
 refine TL.m Mk.bl ?_
 intro x4
 refine TL.nil ?_
 refine TQ.nxt (hX4 _ _ hl9 ?_)
 refine RU.a2 7 8 rfl rfl (fun X7 hX7 => ?_) (fun X8 hX8 => ?_)
 refine TL.ob (b := x4) (sz := 1) (r := fun _ => []) pk9 rfl ?_
 first | refine TL.a0 ty_et31 ?_ | refine TL.ap ty_et31 ?_
 intro A7 c7
 refine TL.nil ?_
 refine TQ.nxt (hX7 _ _ hl9 ?_)
 refine RU.a1 8 rfl (fun X8 hX8 => ?_)
 refine TL.m Mk.bl ?_
 intro x8
 refine TL.nil ?_
 refine TQ.nxt (hX8 _ _ hl9 ?_)
 refine RU.a1 11 rfl (fun X11 hX11 => ?_)
 refine TL.ob (b := x8) (sz := 1) (r := fun _ => []) pk9 rfl ?_
 first | refine TL.a0 ty_et31 ?_ | refine TL.ap ty_et31 ?_
 intro A11 c11
 refine TL.nil ?_
 refine TQ.nxt (hX11 _ _ hl9 ?_)
 refine RU.st rfl (fun X13 hX13 => ?_)
 first | refine TL.st ty_sz31 ?_ | refine TL.se ty_sz31 ?_
 refine TL.nil ?_
 refine TQ.nxt (hX13 _ _ ?_)
 refine RG.tk 14 rfl (by first | exact Pu.fb ty_fa33_3 | exact Pu.fs ty_fa33_3) ?_
 refine RG.a1 15 rfl (fun X15 hX15 => ?_)
 first | refine TL.st ty_sz31 ?_ | refine TL.se ty_sz31 ?_
 refine TL.nil ?_
 refine TQ.nxt (hX15 _ _ hl9 ?_)
 refine RG.tk 16 rfl (by first | exact Pu.fb ty_fa33_4 | exact Pu.fs ty_fa33_4) ?_
 refine RG.a1 17 rfl (fun X17 hX17 => ?_)
 first | refine TL.st ty_sz31 ?_ | refine TL.se ty_sz31 ?_
 refine TL.nil ?_
 refine TQ.nxt (hX17 _ _ hl9 ?_)
 exact RG.nil (TQ.sub fs9 kt9 (hE ⟨A3, c3, A7, c7, A11, c11⟩)) (by kernel_rfl)
 refine TL.m Mk.bl ?_
 intro x8
 refine TL.nil ?_
 refine TQ.nxt (hX8 _ _ hl9 ?_)
 refine RU.a1 7 rfl (fun X7 hX7 => ?_)
 refine TL.ob (b := x4) (sz := 1) (r := fun _ => []) pk9 rfl ?_
 first | refine TL.a0 ty_et31 ?_ | refine TL.ap ty_et31 ?_
 intro A7 c7
 refine TL.nil ?_
 refine TQ.nxt (hX7 _ _ hl9 ?_)
 refine RU.a1 11 rfl (fun X11 hX11 => ?_)
 refine TL.ob (b := x8) (sz := 1) (r := fun _ => []) pk9 rfl ?_
 first | refine TL.a0 ty_et31 ?_ | refine TL.ap ty_et31 ?_
 intro A11 c11
 refine TL.nil ?_
 refine TQ.nxt (hX11 _ _ hl9 ?_)
 refine RU.st rfl (fun X13 hX13 => ?_)
 first | refine TL.st ty_sz31 ?_ | refine TL.se ty_sz31 ?_
 refine TL.nil ?_
 refine TQ.nxt (hX13 _ _ ?_)
 refine RG.tk 14 rfl (by first | exact Pu.fb ty_fa33_3 | exact Pu.fs ty_fa33_3) ?_
 refine RG.a1 15 rfl (fun X15 hX15 => ?_)
 first | refine TL.st ty_sz31 ?_ | refine TL.se ty_sz31 ?_
 refine TL.nil ?_
 refine TQ.nxt (hX15 _ _ hl9 ?_)
 refine RG.tk 16 rfl (by first | exact Pu.fb ty_fa33_4 | exact Pu.fs ty_fa33_4) ?_
 refine RG.a1 17 rfl (fun X17 hX17 => ?_)
 first | refine TL.st ty_sz31 ?_ | refine TL.se ty_sz31 ?_
 refine TL.nil ?_
 refine TQ.nxt (hX17 _ _ hl9 ?_)
 exact RG.nil (TQ.sub fs9 kt9 (hE ⟨A3, c3, A7, c7, A11, c11⟩)) (by kernel_rfl)
 refine TL.m Mk.bl ?_
 intro x8
 refine TL.nil ?_
 refine TQ.nxt (hX8 _ _ hl9 ?_)
 refine RU.a1 4 rfl (fun X4 hX4 => ?_)
 refine TL.m Mk.bl ?_
 intro x4
 refine TL.nil ?_
 refine TQ.nxt (hX4 _ _ hl9 ?_)
 refine RU.a1 7 rfl (fun X7 hX7 => ?_)
 refine TL.ob (b := x4) (sz := 1) (r := fun _ => []) pk9 rfl ?_
 first | refine TL.a0 ty_et31 ?_ | refine TL.ap ty_et31 ?_
 intro A7 c7
 refine TL.nil ?_
 refine TQ.nxt (hX7 _ _ hl9 ?_)
 refine RU.a1 11 rfl (fun X11 hX11 => ?_)
 refine TL.ob (b := x8) (sz := 1) (r := fun _ => []) pk9 rfl ?_
 first | refine TL.a0 ty_et31 ?_ | refine TL.ap ty_et31 ?_
 intro A11 c11
 refine TL.nil ?_
 refine TQ.nxt (hX11 _ _ hl9 ?_)
 refine RU.st rfl (fun X13 hX13 => ?_)
 first | refine TL.st ty_sz31 ?_ | refine TL.se ty_sz31 ?_
 refine TL.nil ?_
 refine TQ.nxt (hX13 _ _ ?_)
 refine RG.tk 14 rfl (by first | exact Pu.fb ty_fa33_3 | exact Pu.fs ty_fa33_3) ?_
 refine RG.a1 15 rfl (fun X15 hX15 => ?_)
 first | refine TL.st ty_sz31 ?_ | refine TL.se ty_sz31 ?_
 refine TL.nil ?_
 refine TQ.nxt (hX15 _ _ hl9 ?_)
 refine RG.tk 16 rfl (by first | exact Pu.fb ty_fa33_4 | exact Pu.fs ty_fa33_4) ?_
 refine RG.a1 17 rfl (fun X17 hX17 => ?_)
 first | refine TL.st ty_sz31 ?_ | refine TL.se ty_sz31 ?_
 refine TL.nil ?_
 refine TQ.nxt (hX17 _ _ hl9 ?_)
 exact RG.nil (TQ.sub fs9 kt9 (hE ⟨A3, c3, A7, c7, A11, c11⟩)) (by kernel_rfl)
 refine TL.m Mk.bl ?_
 intro x4
 refine TL.nil ?_
 refine TQ.nxt (hX4 _ _ hl9 ?_)
 refine RU.a2 3 8 rfl rfl (fun X3 hX3 => ?_) (fun X8 hX8 => ?_)
 refine TL.ob (b := x0) (sz := 1) (r := fun _ => []) pk9 rfl ?_
 first | refine TL.a0 ty_et31 ?_ | refine TL.ap ty_et31 ?_
 intro A3 c3
 refine TL.nil ?_
 refine TQ.nxt (hX3 _ _ hl9 ?_)
 refine RU.tm 12 rfl (by first | exact Pu.fb ty_fa33_2 | exact Pu.fs ty_fa33_2) ?_
 refine RU.a2 7 8 rfl rfl (fun X7 hX7 => ?_) (fun X8 hX8 => ?_)
 refine TL.ob (b := x4) (sz := 1) (r := fun _ => []) pk9 rfl ?_
 first | refine TL.a0 ty_et31 ?_ | refine TL.ap ty_et31 ?_
 intro A7 c7
 refine TL.nil ?_
 refine TQ.nxt (hX7 _ _ hl9 ?_)
 refine RU.a1 8 rfl (fun X8 hX8 => ?_)
 refine TL.m Mk.bl ?_
 intro x8
 refine TL.nil ?_
 refine TQ.nxt (hX8 _ _ hl9 ?_)
 refine RU.a1 11 rfl (fun X11 hX11 => ?_)
 refine TL.ob (b := x8) (sz := 1) (r := fun _ => []) pk9 rfl ?_
 first | refine TL.a0 ty_et31 ?_ | refine TL.ap ty_et31 ?_
 intro A11 c11
 refine TL.nil ?_
 refine TQ.nxt (hX11 _ _ hl9 ?_)
 refine RU.st rfl (fun X13 hX13 => ?_)
 first | refine TL.st ty_sz31 ?_ | refine TL.se ty_sz31 ?_
 refine TL.nil ?_
 refine TQ.nxt (hX13 _ _ ?_)
 refine RG.tk 14 rfl (by first | exact Pu.fb ty_fa33_3 | exact Pu.fs ty_fa33_3) ?_
 refine RG.a1 15 rfl (fun X15 hX15 => ?_)
 first | refine TL.st ty_sz31 ?_ | refine TL.se ty_sz31 ?_
 refine TL.nil ?_
 refine TQ.nxt (hX15 _ _ hl9 ?_)
 refine RG.tk 16 rfl (by first | exact Pu.fb ty_fa33_4 | exact Pu.fs ty_fa33_4) ?_
 refine RG.a1 17 rfl (fun X17 hX17 => ?_)
 first | refine TL.st ty_sz31 ?_ | refine TL.se ty_sz31 ?_
 refine TL.nil ?_
 refine TQ.nxt (hX17 _ _ hl9 ?_)
 exact RG.nil (TQ.sub fs9 kt9 (hE ⟨A3, c3, A7, c7, A11, c11⟩)) (by kernel_rfl)
 refine TL.m Mk.bl ?_
 intro x8
 refine TL.nil ?_
 refine TQ.nxt (hX8 _ _ hl9 ?_)
 refine RU.a1 7 rfl (fun X7 hX7 => ?_)
 refine TL.ob (b := x4) (sz := 1) (r := fun _ => []) pk9 rfl ?_
 first | refine TL.a0 ty_et31 ?_ | refine TL.ap ty_et31 ?_
 intro A7 c7
 refine TL.nil ?_
 refine TQ.nxt (hX7 _ _ hl9 ?_)
 refine RU.a1 11 rfl (fun X11 hX11 => ?_)
 refine TL.ob (b := x8) (sz := 1) (r := fun _ => []) pk9 rfl ?_
 first | refine TL.a0 ty_et31 ?_ | refine TL.ap ty_et31 ?_
 intro A11 c11
 refine TL.nil ?_
 refine TQ.nxt (hX11 _ _ hl9 ?_)
 refine RU.st rfl (fun X13 hX13 => ?_)
 first | refine TL.st ty_sz31 ?_ | refine TL.se ty_sz31 ?_
 refine TL.nil ?_
 refine TQ.nxt (hX13 _ _ ?_)
 refine RG.tk 14 rfl (by first | exact Pu.fb ty_fa33_3 | exact Pu.fs ty_fa33_3) ?_
 refine RG.a1 15 rfl (fun X15 hX15 => ?_)
 first | refine TL.st ty_sz31 ?_ | refine TL.se ty_sz31 ?_
 refine TL.nil ?_
 refine TQ.nxt (hX15 _ _ hl9 ?_)
 refine RG.tk 16 rfl (by first | exact Pu.fb ty_fa33_4 | exact Pu.fs ty_fa33_4) ?_
 refine RG.a1 17 rfl (fun X17 hX17 => ?_)
 first | refine TL.st ty_sz31 ?_ | refine TL.se ty_sz31 ?_
 refine TL.nil ?_
 refine TQ.nxt (hX17 _ _ hl9 ?_)
 exact RG.nil (TQ.sub fs9 kt9 (hE ⟨A3, c3, A7, c7, A11, c11⟩)) (by kernel_rfl)
 refine TL.m Mk.bl ?_
 intro x8
 refine TL.nil ?_
 refine TQ.nxt (hX8 _ _ hl9 ?_)
 refine RU.a1 3 rfl (fun X3 hX3 => ?_)
 refine TL.ob (b := x0) (sz := 1) (r := fun _ => []) pk9 rfl ?_
 first | refine TL.a0 ty_et31 ?_ | refine TL.ap ty_et31 ?_
 intro A3 c3
 refine TL.nil ?_
 refine TQ.nxt (hX3 _ _ hl9 ?_)
 refine RU.tm 12 rfl (by first | exact Pu.fb ty_fa33_2 | exact Pu.fs ty_fa33_2) ?_
 refine RU.a1 7 rfl (fun X7 hX7 => ?_)
 refine TL.ob (b := x4) (sz := 1) (r := fun _ => []) pk9 rfl ?_
 first | refine TL.a0 ty_et31 ?_ | refine TL.ap ty_et31 ?_
 intro A7 c7
 refine TL.nil ?_
 refine TQ.nxt (hX7 _ _ hl9 ?_)
 refine RU.a1 11 rfl (fun X11 hX11 => ?_)
 refine TL.ob (b := x8) (sz := 1) (r := fun _ => []) pk9 rfl ?_
 first | refine TL.a0 ty_et31 ?_ | refine TL.ap ty_et31 ?_
 intro A11 c11
 refine TL.nil ?_
 refine TQ.nxt (hX11 _ _ hl9 ?_)
 refine RU.st rfl (fun X13 hX13 => ?_)
 first | refine TL.st ty_sz31 ?_ | refine TL.se ty_sz31 ?_
 refine TL.nil ?_
 refine TQ.nxt (hX13 _ _ ?_)
 refine RG.tk 14 rfl (by first | exact Pu.fb ty_fa33_3 | exact Pu.fs ty_fa33_3) ?_
 refine RG.a1 15 rfl (fun X15 hX15 => ?_)
 first | refine TL.st ty_sz31 ?_ | refine TL.se ty_sz31 ?_
 refine TL.nil ?_
 refine TQ.nxt (hX15 _ _ hl9 ?_)
 refine RG.tk 16 rfl (by first | exact Pu.fb ty_fa33_4 | exact Pu.fs ty_fa33_4) ?_
 refine RG.a1 17 rfl (fun X17 hX17 => ?_)
 first | refine TL.st ty_sz31 ?_ | refine TL.se ty_sz31 ?_
 refine TL.nil ?_
 refine TQ.nxt (hX17 _ _ hl9 ?_)
 exact RG.nil (TQ.sub fs9 kt9 (hE ⟨A3, c3, A7, c7, A11, c11⟩)) (by kernel_rfl)
 refine TL.m Mk.bl ?_
 intro x8
 refine TL.nil ?_
 refine TQ.nxt (hX8 _ _ hl9 ?_)
 refine RU.a2 3 4 rfl rfl (fun X3 hX3 => ?_) (fun X4 hX4 => ?_)
 refine TL.ob (b := x0) (sz := 1) (r := fun _ => []) pk9 rfl ?_
 first | refine TL.a0 ty_et31 ?_ | refine TL.ap ty_et31 ?_
 intro A3 c3
 refine TL.nil ?_
 refine TQ.nxt (hX3 _ _ hl9 ?_)
 refine RU.tm 12 rfl (by first | exact Pu.fb ty_fa33_2 | exact Pu.fs ty_fa33_2) ?_
 refine RU.a1 4 rfl (fun X4 hX4 => ?_)
 refine TL.m Mk.bl ?_
 intro x4
 refine TL.nil ?_
 refine TQ.nxt (hX4 _ _ hl9 ?_)
 refine RU.a1 7 rfl (fun X7 hX7 => ?_)
 refine TL.ob (b := x4) (sz := 1) (r := fun _ => []) pk9 rfl ?_
 first | refine TL.a0 ty_et31 ?_ | refine TL.ap ty_et31 ?_
 intro A7 c7
 refine TL.nil ?_
 refine TQ.nxt (hX7 _ _ hl9 ?_)
 refine RU.a1 11 rfl (fun X11 hX11 => ?_)
 refine TL.ob (b := x8) (sz := 1) (r := fun _ => []) pk9 rfl ?_
 first | refine TL.a0 ty_et31 ?_ | refine TL.ap ty_et31 ?_
 intro A11 c11
 refine TL.nil ?_
 refine TQ.nxt (hX11 _ _ hl9 ?_)
 refine RU.st rfl (fun X13 hX13 => ?_)
 first | refine TL.st ty_sz31 ?_ | refine TL.se ty_sz31 ?_
 refine TL.nil ?_
 refine TQ.nxt (hX13 _ _ ?_)
 refine RG.tk 14 rfl (by first | exact Pu.fb ty_fa33_3 | exact Pu.fs ty_fa33_3) ?_
 refine RG.a1 15 rfl (fun X15 hX15 => ?_)
 first | refine TL.st ty_sz31 ?_ | refine TL.se ty_sz31 ?_
 refine TL.nil ?_
 refine TQ.nxt (hX15 _ _ hl9 ?_)
 refine RG.tk 16 rfl (by first | exact Pu.fb ty_fa33_4 | exact Pu.fs ty_fa33_4) ?_
 refine RG.a1 17 rfl (fun X17 hX17 => ?_)
 first | refine TL.st ty_sz31 ?_ | refine TL.se ty_sz31 ?_
 refine TL.nil ?_
 refine TQ.nxt (hX17 _ _ hl9 ?_)
 exact RG.nil (TQ.sub fs9 kt9 (hE ⟨A3, c3, A7, c7, A11, c11⟩)) (by kernel_rfl)
 refine TL.m Mk.bl ?_
 intro x4
 refine TL.nil ?_
 refine TQ.nxt (hX4 _ _ hl9 ?_)
 refine RU.a1 3 rfl (fun X3 hX3 => ?_)
 refine TL.ob (b := x0) (sz := 1) (r := fun _ => []) pk9 rfl ?_
 first | refine TL.a0 ty_et31 ?_ | refine TL.ap ty_et31 ?_
 intro A3 c3
 refine TL.nil ?_
 refine TQ.nxt (hX3 _ _ hl9 ?_)
 refine RU.tm 12 rfl (by first | exact Pu.fb ty_fa33_2 | exact Pu.fs ty_fa33_2) ?_
 refine RU.a1 7 rfl (fun X7 hX7 => ?_)
 refine TL.ob (b := x4) (sz := 1) (r := fun _ => []) pk9 rfl ?_
 first | refine TL.a0 ty_et31 ?_ | refine TL.ap ty_et31 ?_
 intro A7 c7
 refine TL.nil ?_
 refine TQ.nxt (hX7 _ _ hl9 ?_)
 refine RU.a1 11 rfl (fun X11 hX11 => ?_)
 refine TL.ob (b := x8) (sz := 1) (r := fun _ => []) pk9 rfl ?_
 first | refine TL.a0 ty_et31 ?_ | refine TL.ap ty_et31 ?_
 intro A11 c11
 refine TL.nil ?_
 refine TQ.nxt (hX11 _ _ hl9 ?_)
 refine RU.st rfl (fun X13 hX13 => ?_)
 first | refine TL.st ty_sz31 ?_ | refine TL.se ty_sz31 ?_
 refine TL.nil ?_
 refine TQ.nxt (hX13 _ _ ?_)
 refine RG.tk 14 rfl (by first | exact Pu.fb ty_fa33_3 | exact Pu.fs ty_fa33_3) ?_
 refine RG.a1 15 rfl (fun X15 hX15 => ?_)
 first | refine TL.st ty_sz31 ?_ | refine TL.se ty_sz31 ?_
 refine TL.nil ?_
 refine TQ.nxt (hX15 _ _ hl9 ?_)
 refine RG.tk 16 rfl (by first | exact Pu.fb ty_fa33_4 | exact Pu.fs ty_fa33_4) ?_
 refine RG.a1 17 rfl (fun X17 hX17 => ?_)
 first | refine TL.st ty_sz31 ?_ | refine TL.se ty_sz31 ?_
 refine TL.nil ?_
 refine TQ.nxt (hX17 _ _ hl9 ?_)
 exact RG.nil (TQ.sub fs9 kt9 (hE ⟨A3, c3, A7, c7, A11, c11⟩)) (by kernel_rfl)
 refine TL.m Mk.bl ?_
 intro x4
 refine TL.nil ?_
 refine TQ.nxt (hX4 _ _ hl9 ?_)
 refine RU.a2 0 8 rfl rfl (fun X0 hX0 => ?_) (fun X8 hX8 => ?_)
 refine TL.m Mk.bl ?_
 intro x0
 refine TL.nil ?_
 refine TQ.nxt (hX0 _ _ hl9 ?_)
 refine RU.a2 3 8 rfl rfl (fun X3 hX3 => ?_) (fun X8 hX8 => ?_)
 refine TL.ob (b := x0) (sz := 1) (r := fun _ => []) pk9 rfl ?_
 first | refine TL.a0 ty_et31 ?_ | refine TL.ap ty_et31 ?_
 intro A3 c3
 refine TL.nil ?_
 refine TQ.nxt (hX3 _ _ hl9 ?_)
 refine RU.tm 12 rfl (by first | exact Pu.fb ty_fa33_2 | exact Pu.fs ty_fa33_2) ?_
 refine RU.a2 7 8 rfl rfl (fun X7 hX7 => ?_) (fun X8 hX8 => ?_)
 refine TL.ob (b := x4) (sz := 1) (r := fun _ => []) pk9 rfl ?_
 first | refine TL.a0 ty_et31 ?_ | refine TL.ap ty_et31 ?_
 intro A7 c7
 refine TL.nil ?_
 refine TQ.nxt (hX7 _ _ hl9 ?_)
 refine RU.a1 8 rfl (fun X8 hX8 => ?_)
 refine TL.m Mk.bl ?_
 intro x8
 refine TL.nil ?_
 refine TQ.nxt (hX8 _ _ hl9 ?_)
 refine RU.a1 11 rfl (fun X11 hX11 => ?_)
 refine TL.ob (b := x8) (sz := 1) (r := fun _ => []) pk9 rfl ?_
 first | refine TL.a0 ty_et31 ?_ | refine TL.ap ty_et31 ?_
 intro A11 c11
 refine TL.nil ?_
 refine TQ.nxt (hX11 _ _ hl9 ?_)
 refine RU.st rfl (fun X13 hX13 => ?_)
 first | refine TL.st ty_sz31 ?_ | refine TL.se ty_sz31 ?_
 refine TL.nil ?_
 refine TQ.nxt (hX13 _ _ ?_)
 refine RG.tk 14 rfl (by first | exact Pu.fb ty_fa33_3 | exact Pu.fs ty_fa33_3) ?_
 refine RG.a1 15 rfl (fun X15 hX15 => ?_)
 first | refine TL.st ty_sz31 ?_ | refine TL.se ty_sz31 ?_
 refine TL.nil ?_
 refine TQ.nxt (hX15 _ _ hl9 ?_)
 refine RG.tk 16 rfl (by first | exact Pu.fb ty_fa33_4 | exact Pu.fs ty_fa33_4) ?_
 refine RG.a1 17 rfl (fun X17 hX17 => ?_)
 first | refine TL.st ty_sz31 ?_ | refine TL.se ty_sz31 ?_
 refine TL.nil ?_
 refine TQ.nxt (hX17 _ _ hl9 ?_)
 exact RG.nil (TQ.sub fs9 kt9 (hE ⟨A3, c3, A7, c7, A11, c11⟩)) (by kernel_rfl)
 refine TL.m Mk.bl ?_
 intro x8
 refine TL.nil ?_
 refine TQ.nxt (hX8 _ _ hl9 ?_)
 refine RU.a1 7 rfl (fun X7 hX7 => ?_)
 refine TL.ob (b := x4) (sz := 1) (r := fun _ => []) pk9 rfl ?_
 first | refine TL.a0 ty_et31 ?_ | refine TL.ap ty_et31 ?_
 intro A7 c7
 refine TL.nil ?_
 refine TQ.nxt (hX7 _ _ hl9 ?_)
 refine RU.a1 11 rfl (fun X11 hX11 => ?_)
 refine TL.ob (b := x8) (sz := 1) (r := fun _ => []) pk9 rfl ?_
 first | refine TL.a0 ty_et31 ?_ | refine TL.ap ty_et31 ?_
 intro A11 c11
 refine TL.nil ?_
 refine TQ.nxt (hX11 _ _ hl9 ?_)
 refine RU.st rfl (fun X13 hX13 => ?_)
 first | refine TL.st ty_sz31 ?_ | refine TL.se ty_sz31 ?_
 refine TL.nil ?_
 refine TQ.nxt (hX13 _ _ ?_)
 refine RG.tk 14 rfl (by first | exact Pu.fb ty_fa33_3 | exact Pu.fs ty_fa33_3) ?_
 refine RG.a1 15 rfl (fun X15 hX15 => ?_)
 first | refine TL.st ty_sz31 ?_ | refine TL.se ty_sz31 ?_
 refine TL.nil ?_
 refine TQ.nxt (hX15 _ _ hl9 ?_)
 refine RG.tk 16 rfl (by first | exact Pu.fb ty_fa33_4 | exact Pu.fs ty_fa33_4) ?_
 refine RG.a1 17 rfl (fun X17 hX17 => ?_)
 first | refine TL.st ty_sz31 ?_ | refine TL.se ty_sz31 ?_
 refine TL.nil ?_
 refine TQ.nxt (hX17 _ _ hl9 ?_)
 exact RG.nil (TQ.sub fs9 kt9 (hE ⟨A3, c3, A7, c7, A11, c11⟩)) (by kernel_rfl)
 refine TL.m Mk.bl ?_
 intro x8
 refine TL.nil ?_
 refine TQ.nxt (hX8 _ _ hl9 ?_)
 refine RU.a1 3 rfl (fun X3 hX3 => ?_)
 refine TL.ob (b := x0) (sz := 1) (r := fun _ => []) pk9 rfl ?_
 first | refine TL.a0 ty_et31 ?_ | refine TL.ap ty_et31 ?_
 intro A3 c3
 refine TL.nil ?_
 refine TQ.nxt (hX3 _ _ hl9 ?_)
 refine RU.tm 12 rfl (by first | exact Pu.fb ty_fa33_2 | exact Pu.fs ty_fa33_2) ?_
 refine RU.a1 7 rfl (fun X7 hX7 => ?_)
 refine TL.ob (b := x4) (sz := 1) (r := fun _ => []) pk9 rfl ?_
 first | refine TL.a0 ty_et31 ?_ | refine TL.ap ty_et31 ?_
 intro A7 c7
 refine TL.nil ?_
 refine TQ.nxt (hX7 _ _ hl9 ?_)
 refine RU.a1 11 rfl (fun X11 hX11 => ?_)
 refine TL.ob (b := x8) (sz := 1) (r := fun _ => []) pk9 rfl ?_
 first | refine TL.a0 ty_et31 ?_ | refine TL.ap ty_et31 ?_
 intro A11 c11
 refine TL.nil ?_
 refine TQ.nxt (hX11 _ _ hl9 ?_)
 refine RU.st rfl (fun X13 hX13 => ?_)
 first | refine TL.st ty_sz31 ?_ | refine TL.se ty_sz31 ?_
 refine TL.nil ?_
 refine TQ.nxt (hX13 _ _ ?_)
 refine RG.tk 14 rfl (by first | exact Pu.fb ty_fa33_3 | exact Pu.fs ty_fa33_3) ?_
 refine RG.a1 15 rfl (fun X15 hX15 => ?_)
 first | refine TL.st ty_sz31 ?_ | refine TL.se ty_sz31 ?_
 refine TL.nil ?_
 refine TQ.nxt (hX15 _ _ hl9 ?_)
 refine RG.tk 16 rfl (by first | exact Pu.fb ty_fa33_4 | exact Pu.fs ty_fa33_4) ?_
 refine RG.a1 17 rfl (fun X17 hX17 => ?_)
 first | refine TL.st ty_sz31 ?_ | refine TL.se ty_sz31 ?_
 refine TL.nil ?_
 refine TQ.nxt (hX17 _ _ hl9 ?_)
 exact RG.nil (TQ.sub fs9 kt9 (hE ⟨A3, c3, A7, c7, A11, c11⟩)) (by kernel_rfl)
 refine TL.m Mk.bl ?_
 intro x8
 refine TL.nil ?_
 refine TQ.nxt (hX8 _ _ hl9 ?_)
 refine RU.a1 0 rfl (fun X0 hX0 => ?_)
 refine TL.m Mk.bl ?_
 intro x0
 refine TL.nil ?_
 refine TQ.nxt (hX0 _ _ hl9 ?_)
 refine RU.a1 3 rfl (fun X3 hX3 => ?_)
 refine TL.ob (b := x0) (sz := 1) (r := fun _ => []) pk9 rfl ?_
 first | refine TL.a0 ty_et31 ?_ | refine TL.ap ty_et31 ?_
 intro A3 c3
 refine TL.nil ?_
 refine TQ.nxt (hX3 _ _ hl9 ?_)
 refine RU.tm 12 rfl (by first | exact Pu.fb ty_fa33_2 | exact Pu.fs ty_fa33_2) ?_
 refine RU.a1 7 rfl (fun X7 hX7 => ?_)
 refine TL.ob (b := x4) (sz := 1) (r := fun _ => []) pk9 rfl ?_
 first | refine TL.a0 ty_et31 ?_ | refine TL.ap ty_et31 ?_
 intro A7 c7
 refine TL.nil ?_
 refine TQ.nxt (hX7 _ _ hl9 ?_)
 refine RU.a1 11 rfl (fun X11 hX11 => ?_)
 refine TL.ob (b := x8) (sz := 1) (r := fun _ => []) pk9 rfl ?_
 first | refine TL.a0 ty_et31 ?_ | refine TL.ap ty_et31 ?_
 intro A11 c11
 refine TL.nil ?_
 refine TQ.nxt (hX11 _ _ hl9 ?_)
 refine RU.st rfl (fun X13 hX13 => ?_)
 first | refine TL.st ty_sz31 ?_ | refine TL.se ty_sz31 ?_
 refine TL.nil ?_
 refine TQ.nxt (hX13 _ _ ?_)
 refine RG.tk 14 rfl (by first | exact Pu.fb ty_fa33_3 | exact Pu.fs ty_fa33_3) ?_
 refine RG.a1 15 rfl (fun X15 hX15 => ?_)
 first | refine TL.st ty_sz31 ?_ | refine TL.se ty_sz31 ?_
 refine TL.nil ?_
 refine TQ.nxt (hX15 _ _ hl9 ?_)
 refine RG.tk 16 rfl (by first | exact Pu.fb ty_fa33_4 | exact Pu.fs ty_fa33_4) ?_
 refine RG.a1 17 rfl (fun X17 hX17 => ?_)
 first | refine TL.st ty_sz31 ?_ | refine TL.se ty_sz31 ?_
 refine TL.nil ?_
 refine TQ.nxt (hX17 _ _ hl9 ?_)
 exact RG.nil (TQ.sub fs9 kt9 (hE ⟨A3, c3, A7, c7, A11, c11⟩)) (by kernel_rfl)
 refine TL.m Mk.bl ?_
 intro x8
 refine TL.nil ?_
 refine TQ.nxt (hX8 _ _ hl9 ?_)
 refine RU.a2 0 4 rfl rfl (fun X0 hX0 => ?_) (fun X4 hX4 => ?_)
 refine TL.m Mk.bl ?_
 intro x0
 refine TL.nil ?_
 refine TQ.nxt (hX0 _ _ hl9 ?_)
 refine RU.a2 3 4 rfl rfl (fun X3 hX3 => ?_) (fun X4 hX4 => ?_)
 refine TL.ob (b := x0) (sz := 1) (r := fun _ => []) pk9 rfl ?_
 first | refine TL.a0 ty_et31 ?_ | refine TL.ap ty_et31 ?_
 intro A3 c3
 refine TL.nil ?_
 refine TQ.nxt (hX3 _ _ hl9 ?_)
 refine RU.tm 12 rfl (by first | exact Pu.fb ty_fa33_2 | exact Pu.fs ty_fa33_2) ?_
 refine RU.a1 4 rfl (fun X4 hX4 => ?_)
 refine TL.m Mk.bl ?_
 intro x4
 refine TL.nil ?_
 refine TQ.nxt (hX4 _ _ hl9 ?_)
 refine RU.a1 7 rfl (fun X7 hX7 => ?_)
 refine TL.ob (b := x4) (sz := 1) (r := fun _ => []) pk9 rfl ?_
 first | refine TL.a0 ty_et31 ?_ | refine TL.ap ty_et31 ?_
 intro A7 c7
 refine TL.nil ?_
 refine TQ.nxt (hX7 _ _ hl9 ?_)
 refine RU.a1 11 rfl (fun X11 hX11 => ?_)
 refine TL.ob (b := x8) (sz := 1) (r := fun _ => []) pk9 rfl ?_
 first | refine TL.a0 ty_et31 ?_ | refine TL.ap ty_et31 ?_
 intro A11 c11
 refine TL.nil ?_
 refine TQ.nxt (hX11 _ _ hl9 ?_)
 refine RU.st rfl (fun X13 hX13 => ?_)
 first | refine TL.st ty_sz31 ?_ | refine TL.se ty_sz31 ?_
 refine TL.nil ?_
 refine TQ.nxt (hX13 _ _ ?_)
 refine RG.tk 14 rfl (by first | exact Pu.fb ty_fa33_3 | exact Pu.fs ty_fa33_3) ?_
 refine RG.a1 15 rfl (fun X15 hX15 => ?_)
 first | refine TL.st ty_sz31 ?_ | refine TL.se ty_sz31 ?_
 refine TL.nil ?_
 refine TQ.nxt (hX15 _ _ hl9 ?_)
 refine RG.tk 16 rfl (by first | exact Pu.fb ty_fa33_4 | exact Pu.fs ty_fa33_4) ?_
 refine RG.a1 17 rfl (fun X17 hX17 => ?_)
 first | refine TL.st ty_sz31 ?_ | refine TL.se ty_sz31 ?_
 refine TL.nil ?_
 refine TQ.nxt (hX17 _ _ hl9 ?_)
 exact RG.nil (TQ.sub fs9 kt9 (hE ⟨A3, c3, A7, c7, A11, c11⟩)) (by kernel_rfl)
 refine TL.m Mk.bl ?_
 intro x4
 refine TL.nil ?_
 refine TQ.nxt (hX4 _ _ hl9 ?_)
 refine RU.a1 3 rfl (fun X3 hX3 => ?_)
 refine TL.ob (b := x0) (sz := 1) (r := fun _ => []) pk9 rfl ?_
 first | refine TL.a0 ty_et31 ?_ | refine TL.ap ty_et31 ?_
 intro A3 c3
 refine TL.nil ?_
 refine TQ.nxt (hX3 _ _ hl9 ?_)
 refine RU.tm 12 rfl (by first | exact Pu.fb ty_fa33_2 | exact Pu.fs ty_fa33_2) ?_
 refine RU.a1 7 rfl (fun X7 hX7 => ?_)
 refine TL.ob (b := x4) (sz := 1) (r := fun _ => []) pk9 rfl ?_
 first | refine TL.a0 ty_et31 ?_ | refine TL.ap ty_et31 ?_
 intro A7 c7
 refine TL.nil ?_
 refine TQ.nxt (hX7 _ _ hl9 ?_)
 refine RU.a1 11 rfl (fun X11 hX11 => ?_)
 refine TL.ob (b := x8) (sz := 1) (r := fun _ => []) pk9 rfl ?_
 first | refine TL.a0 ty_et31 ?_ | refine TL.ap ty_et31 ?_
 intro A11 c11
 refine TL.nil ?_
 refine TQ.nxt (hX11 _ _ hl9 ?_)
 refine RU.st rfl (fun X13 hX13 => ?_)
 first | refine TL.st ty_sz31 ?_ | refine TL.se ty_sz31 ?_
 refine TL.nil ?_
 refine TQ.nxt (hX13 _ _ ?_)
 refine RG.tk 14 rfl (by first | exact Pu.fb ty_fa33_3 | exact Pu.fs ty_fa33_3) ?_
 refine RG.a1 15 rfl (fun X15 hX15 => ?_)
 first | refine TL.st ty_sz31 ?_ | refine TL.se ty_sz31 ?_
 refine TL.nil ?_
 refine TQ.nxt (hX15 _ _ hl9 ?_)
 refine RG.tk 16 rfl (by first | exact Pu.fb ty_fa33_4 | exact Pu.fs ty_fa33_4) ?_
 refine RG.a1 17 rfl (fun X17 hX17 => ?_)
 first | refine TL.st ty_sz31 ?_ | refine TL.se ty_sz31 ?_
 refine TL.nil ?_
 refine TQ.nxt (hX17 _ _ hl9 ?_)
 exact RG.nil (TQ.sub fs9 kt9 (hE ⟨A3, c3, A7, c7, A11, c11⟩)) (by kernel_rfl)
 refine TL.m Mk.bl ?_
 intro x4
 refine TL.nil ?_
 refine TQ.nxt (hX4 _ _ hl9 ?_)
 refine RU.a1 0 rfl (fun X0 hX0 => ?_)
 refine TL.m Mk.bl ?_
 intro x0
 refine TL.nil ?_
 refine TQ.nxt (hX0 _ _ hl9 ?_)
 refine RU.a1 3 rfl (fun X3 hX3 => ?_)
 refine TL.ob (b := x0) (sz := 1) (r := fun _ => []) pk9 rfl ?_
 first | refine TL.a0 ty_et31 ?_ | refine TL.ap ty_et31 ?_
 intro A3 c3
 refine TL.nil ?_
 refine TQ.nxt (hX3 _ _ hl9 ?_)
 refine RU.tm 12 rfl (by first | exact Pu.fb ty_fa33_2 | exact Pu.fs ty_fa33_2) ?_
 refine RU.a1 7 rfl (fun X7 hX7 => ?_)
 refine TL.ob (b := x4) (sz := 1) (r := fun _ => []) pk9 rfl ?_
 first | refine TL.a0 ty_et31 ?_ | refine TL.ap ty_et31 ?_
 intro A7 c7
 refine TL.nil ?_
 refine TQ.nxt (hX7 _ _ hl9 ?_)
 refine RU.a1 11 rfl (fun X11 hX11 => ?_)
 refine TL.ob (b := x8) (sz := 1) (r := fun _ => []) pk9 rfl ?_
 first | refine TL.a0 ty_et31 ?_ | refine TL.ap ty_et31 ?_
 intro A11 c11
 refine TL.nil ?_
 refine TQ.nxt (hX11 _ _ hl9 ?_)
 refine RU.st rfl (fun X13 hX13 => ?_)
 first | refine TL.st ty_sz31 ?_ | refine TL.se ty_sz31 ?_
 refine TL.nil ?_
 refine TQ.nxt (hX13 _ _ ?_)
 refine RG.tk 14 rfl (by first | exact Pu.fb ty_fa33_3 | exact Pu.fs ty_fa33_3) ?_
 refine RG.a1 15 rfl (fun X15 hX15 => ?_)
 first | refine TL.st ty_sz31 ?_ | refine TL.se ty_sz31 ?_
 refine TL.nil ?_
 refine TQ.nxt (hX15 _ _ hl9 ?_)
 refine RG.tk 16 rfl (by first | exact Pu.fb ty_fa33_4 | exact Pu.fs ty_fa33_4) ?_
 refine RG.a1 17 rfl (fun X17 hX17 => ?_)
 first | refine TL.st ty_sz31 ?_ | refine TL.se ty_sz31 ?_
 refine TL.nil ?_
 refine TQ.nxt (hX17 _ _ hl9 ?_)
 exact RG.nil (TQ.sub fs9 kt9 (hE ⟨A3, c3, A7, c7, A11, c11⟩)) (by kernel_rfl)
set_option maxRecDepth 100000 in
theorem sameTroop_any (t : TrpIn w T O U V) (t' : TrpIn w T O' U' V') :
  Calls Tryz.prog 12 #[.agg (troopL T.hd T.wo O T.no co U T.nu cu V T.nv cv).toArray, .agg (troopL T.hd T.wo O' T.no co' U' T.nu cu' V' T.nv cv').toArray] w (Ret w (.bool true)) := by
 have hno := t.hno
 have hnu := t.hnu
 have hnv := t.hnv
 unfold troopL
 refine K_enter (S := []) (K := []) Tryz.func12 rfl Tryz.ntmps12 rfl (Sat.start _) ?_
 refine TW.seq fun Y1 hY1 => TW.region ?_
 refine TL.m Mk.bx ?_
 intro b1
 refine TL.m Mk.bx ?_
 intro b2
 refine TL.p Pu.as ?_
 refine TL.nil (TQ.thenN (hY1 _ _ ?_))
 refine TW.seq fun Y2 hY2 => TW.region ?_
 refine TL.p (by first | exact Pu.fb ty_fa33_0 | exact Pu.fe ty_fa33_0) ?_
 refine TL.p (Pu.ld ty_sc3) ?_
 refine TL.p (by first | exact Pu.fb ty_fa33_0 | exact Pu.fe ty_fa33_0) ?_
 refine TL.p (Pu.ld ty_sc3) ?_
 refine TL.p Pu.eq ?_
 refine TL.lit (t := 9) (b' := true) rfl ((by simp)) ?_
 refine TL.p Pu.mv ?_
 refine TL.gd (by first | exact Pu.fb ty_fa33_1 | exact Pu.fe ty_fa33_1) ?_
 refine TL.gd (Pu.ld ty_sc3) ?_
 refine TL.gd (by first | exact Pu.fb ty_fa33_1 | exact Pu.fe ty_fa33_1) ?_
 refine TL.gd (Pu.ld ty_sc3) ?_
 refine TL.gd Pu.eq ?_
 refine TL.lit (t := 15) (b' := true) rfl ((by simp)) ?_
 refine TL.p Pu.kt ?_
 refine TL.p Pu.mv ?_
 refine TL.gd (by first | exact Pu.fb ty_fa33_2 | exact Pu.fe ty_fa33_2) ?_
 refine TL.gd (Pu.ld ty_sc31) ?_
 refine TL.gd (by first | exact Pu.fb ty_fa33_2 | exact Pu.fe ty_fa33_2) ?_
 refine TL.gd (Pu.ld ty_sc31) ?_
 refine TL.cr rfl (enters Tryz.func11 rfl rfl) (fun w hw => by
   first | exact same3_true (by omega) (t.hO.sat hw Apart.nil) (t'.hO.sat hw Apart.nil) | exact same3_true (by omega) (t.hU.sat hw Apart.nil) (t'.hU.sat hw Apart.nil) | exact same3_true (by omega) (t.hV.sat hw Apart.nil) (t'.hV.sat hw Apart.nil)) ?_
 refine TL.p Pu.kt ?_
 refine TL.p Pu.mv ?_
 refine TL.gd (by first | exact Pu.fb ty_fa33_3 | exact Pu.fe ty_fa33_3) ?_
 refine TL.gd (Pu.ld ty_sc31) ?_
 refine TL.gd (by first | exact Pu.fb ty_fa33_3 | exact Pu.fe ty_fa33_3) ?_
 refine TL.gd (Pu.ld ty_sc31) ?_
 refine TL.cr rfl (enters Tryz.func11 rfl rfl) (fun w hw => by
   first | exact same3_true (by omega) (t.hO.sat hw Apart.nil) (t'.hO.sat hw Apart.nil) | exact same3_true (by omega) (t.hU.sat hw Apart.nil) (t'.hU.sat hw Apart.nil) | exact same3_true (by omega) (t.hV.sat hw Apart.nil) (t'.hV.sat hw Apart.nil)) ?_
 refine TL.p Pu.kt ?_
 refine TL.p Pu.mv ?_
 refine TL.gd (by first | exact Pu.fb ty_fa33_4 | exact Pu.fe ty_fa33_4) ?_
 refine TL.gd (Pu.ld ty_sc31) ?_
 refine TL.gd (by first | exact Pu.fb ty_fa33_4 | exact Pu.fe ty_fa33_4) ?_
 refine TL.gd (Pu.ld ty_sc31) ?_
 refine TL.cr rfl (enters Tryz.func11 rfl rfl) (fun w hw => by
   first | exact same3_true (by omega) (t.hO.sat hw Apart.nil) (t'.hO.sat hw Apart.nil) | exact same3_true (by omega) (t.hU.sat hw Apart.nil) (t'.hU.sat hw Apart.nil) | exact same3_true (by omega) (t.hV.sat hw Apart.nil) (t'.hV.sat hw Apart.nil)) ?_
 refine TL.p Pu.kt ?_
 refine TL.p Pu.as ?_
 refine TL.nil (TQ.thenN (hY2 _ _ ?_))
 refine TW.ret ?_
 refine TQ.ret Tryz.results12 rfl ((.tmp rfl .nil)) ?_
 exact fun w hw => Ret.of hw
end
end Go.Proofs.YtfaenhhgkhcghaaGreatDoor
namespace Go.Proofs.YtfaenhhgkhcghaaGreatDoor
set_option linter.all false
set_option linter.unusedVariables false
set_option linter.unusedSimpArgs false
open Go.RowKit
section
variable {Y : Wy} {Z : Cus} {T : Trp} {a : Nat → Option Addr} {e : Nat → Nat}
end
section
variable {nw nl nc nd nb : Nat} {f : Nat → Nat → Int} {x : Nat → Leg} {g : Nat → Nat → Nat → Int} {c : Nat → (Nat → Int) × Bool} {d b : Nat → Nat → Int} {T : Trp} {w w0 : World} {S : List Nat} {K : List Fact}
theorem troop_bun {t : TTx} (hs : Sat S w0 K w) (hm : bun (twT T t) ∈ K) (h1 : T.no ≤ 1000) (h2 : T.nu ≤ 1000) (h3 : T.nv ≤ 1000) : TrpIn w T t.1.1 t.2.1.1 t.2.2.1 :=
 ⟨h1, h2, h3, OwnR.rdr (bun_get hs hm (List.mem_cons_self ..)), OwnR.rdr (bun_get hs hm (List.mem_cons_of_mem _ (List.mem_cons_self ..))), OwnR.rdr (bun_get hs hm (List.mem_cons_of_mem _ (List.mem_cons_of_mem _ (List.mem_cons_self ..))))⟩
end
section
variable {Y : Wy} {Z : Cus} {T : Trp} {W A L C D B O U V : Option Addr} {cw cl cn cc cd cb co cu cv : Nat} {w : World} {a : Nat → Option Addr} {e : Nat → Nat}
theorem great_all {no nu nv : Nat} {nc nd nb nw nl : Nat} {x : Nat → Leg} (h : great7 nw nl x nc nd nb no nu nv = false) : (nw ≤ 1000 ∧ nl ≤ 1000 ∧ ∀ k, k < nl → (x k).n ≤ 1000) ∧ (nc ≤ 1000 ∧ nd ≤ 1000 ∧ nb ≤ 1000) ∧ no ≤ 1000 ∧ nu ≤ 1000 ∧ nv ≤ 1000 := by
 obtain ⟨h1, h2, h3, h4, h5, h6, h7, h8, h9⟩ := great_small h
 exact ⟨⟨by omega, by omega, fun k hk => by have := h3 k hk; omega⟩, ⟨by omega, by omega, by omega⟩, by omega, by omega, by omega⟩
end
end Go.Proofs.YtfaenhhgkhcghaaGreatDoor
namespace Go.Proofs.YtfaenhhgkhcghaaGreatDoor
set_option linter.all false
set_option linter.unusedVariables false
set_option linter.unusedSimpArgs false
open Go.RowKit
section
variable {Y : Wy} {Z : Cus} {T : Trp} {W A L C D B O U V : Option Addr} {cw cl cn cc cd cb co cu cv : Nat} {w : World}
structure ArgIn (w : World) (Y : Wy) (Z : Cus) (T : Trp) (W A L C D B O U V : Option Addr) : Prop where
 hRW : RdR w 9 W Y.nw (fun k => wellL (Y.f k))
 hRA : RdR w 5 A Y.nl (fun k => legL (Y.x k))
 hRG : ∀ k, k < Y.nl → RdR w 4 (Y.x k).A (Y.x k).n (fun j => gateL (Y.g k j))
 hRC : RdR w 7 C Z.nc (fun k => claimL (Z.c k))
 hRD : RdR w 4 D Z.nd (fun k => feudL (Z.d k))
 hRB : RdR w 3 B Z.nb (fun k => borderL (Z.b k))
 hRO : RdR w 1 O T.no (fun k => [.int .i64 (T.o k)])
 hRU : RdR w 1 U T.nu (fun k => [.int .i64 (T.u k)])
 hRV : RdR w 1 V T.nv (fun k => [.int .i64 (T.v k)])
 hRL : RdR w 1 L Y.n (fun k => [.int .i64 (Y.ls k)])
theorem ArgIn.land (h : ArgIn w Y Z T W A L C D B O U V) (g : great7 Y.nw Y.nl Y.x Z.nc Z.nd Z.nb T.no T.nu T.nv = false) : LandIn w W Y.nw A Y.nl Y.f Y.x Y.g :=
 have q := great_all g
 ⟨q.1.1, q.1.2.1, h.hRW, h.hRA, q.1.2.2, h.hRG⟩
theorem ArgIn.cust (h : ArgIn w Y Z T W A L C D B O U V) (g : great7 Y.nw Y.nl Y.x Z.nc Z.nd Z.nb T.no T.nu T.nv = false) : CustIn w C Z.nc D Z.nd B Z.nb Z.c Z.d Z.b :=
 have q := great_all g
 ⟨q.2.1.1, q.2.1.2.1, q.2.1.2.2, h.hRC, h.hRD, h.hRB⟩
theorem ArgIn.trp (h : ArgIn w Y Z T W A L C D B O U V) (g : great7 Y.nw Y.nl Y.x Z.nc Z.nd Z.nb T.no T.nu T.nv = false) : TrpIn w T O U V :=
 have q := great_all g
 ⟨q.2.2.1, q.2.2.2.1, q.2.2.2.2, h.hRO, h.hRU, h.hRV⟩
end
end Go.Proofs.YtfaenhhgkhcghaaGreatDoor
