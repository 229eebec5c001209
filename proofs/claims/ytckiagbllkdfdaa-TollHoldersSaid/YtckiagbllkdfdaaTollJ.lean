/-
  What toll and the reference answer: claims that are in each other's way.
-/
import Derived.Test.YtckiagbllkdfdaaTollI
namespace Go.Proofs.Ytckiagbllkdfdaa
set_option linter.all false
set_option linter.unusedVariables false
set_option linter.unusedSimpArgs false
open Go.RowKit
def disB (x y : (Nat → Int) × Bool) : Bool := decide (x.1 0 = y.1 0) && !decide (x.1 1 = y.1 1) && decide (x.1 2 ≤ y.1 3) && decide (y.1 2 ≤ x.1 3)
def disR (x y : (Nat → Int) × Bool) : Bool := decide (x.1 0 = y.1 0) && !decide (x.1 1 = y.1 1) && decide (max (x.1 2) (y.1 2) ≤ min (x.1 3) (y.1 3))
theorem disR_eq {nl : Nat} {x y : (Nat → Int) × Bool} (hx : claimOk nl x = true) (hy : claimOk nl y = true) : disR x y = disB x y := by
  unfold claimOk dayOk at hx hy
  simp only [Bool.and_eq_true, decide_eq_true_eq, inB5, ordB5] at hx hy
  unfold disR disB
  rw [Bool.eq_iff_iff]
  simp only [Bool.and_eq_true, decide_eq_true_eq, Bool.not_eq_true', decide_eq_false_iff_not]
  omega
/-- The pairs of claim i and the next q claims; of the first i claims with all behind them. -/
def innP (c : Nat → (Nat → Int) × Bool) (i : Nat) : Nat → List (Int × Int)
  | 0 => []
  | q + 1 => if disB (c i) (c (i + 1 + q)) = true then innP c i q ++ [((i : Int), (i : Int) + 1 + q)] else innP c i q
def outP (c : Nat → (Nat → Int) × Bool) (n : Nat) : Nat → List (Int × Int)
  | 0 => []
  | i + 1 => outP c n i ++ innP c i (n - (i + 1))
theorem innP_len {c : Nat → (Nat → Int) × Bool} {i : Nat} : ∀ q, (innP c i q).length ≤ q
  | 0 => Nat.le_refl _
  | q + 1 => by
    have := innP_len (c := c) (i := i) q
    simp only [innP]
    split
    · simp; omega
    · omega
theorem outP_len {c : Nat → (Nat → Int) × Bool} {n : Nat} : ∀ i, (outP c n i).length ≤ i * n
  | 0 => Nat.zero_le _
  | i + 1 => by
    have h1 := outP_len (c := c) (n := n) i
    have h2 := innP_len (c := c) (i := i) (n - (i + 1))
    simp only [outP, List.length_append, Nat.add_mul]
    omega
theorem pairs_bd {c : Nat → (Nat → Int) × Bool} {n i q : Nat} (hn : n ≤ 1000) (hi : i ≤ n) (hq : q ≤ n) : (outP c n i ++ innP c i q).length ≤ 1001000 := by
  have h1 := outP_len (c := c) (n := n) i
  have h2 := innP_len (c := c) (i := i) q
  have h3 : i * n ≤ 1000 * 1000 := Nat.mul_le_mul (by omega) hn
  rw [List.length_append]
  omega
def rowsP (L : List (Int × Int)) : Nat → List Value := fun k => prL (L.getD k (0, 0))
theorem rowsP_app {L L' : List (Int × Int)} {m : Nat} {p : Int × Int} {s : Nat → List Value} (hm : m = L.length) (hL : L' = L ++ [p]) (hs : s 0 = prL p) : ∀ i, i < m + 1 → catR m (rowsP L) s i = rowsP L' i := fun i hi => by
  subst hL
  simp only [catR, rowsP]
  by_cases h : i < m
  · rw [if_pos h, List.getD_eq_getElem?_getD, List.getD_eq_getElem?_getD, List.getElem?_append_left (by omega)]
  · obtain rfl : i = m := by omega
    rw [if_neg h, Nat.sub_self, hs, List.getD_eq_getElem?_getD, List.getElem?_append_right (by omega), hm, Nat.sub_self]
    rfl
/-- The pairs that are answered: none where customs are not valid. -/
def disL (e : Int) (nc : Nat) (c : Nat → (Nat → Int) × Bool) : List (Int × Int) := if e = 0 then outP c nc nc else []
theorem dis_bad {w w' : World} {K : List Fact} {e : Int} {nc : Nat} {c : Nat → (Nat → Int) × Bool} (he : e ≠ 0) (hw : Sat [] w K w') :
    ∃ x : Option Addr × Nat, Ending.returned (retV [.slice none 0 0, .int .i64 e]) = .returned (.tuple #[.slice x.1 (disL e nc c).length x.2, .int .i64 e]) ∧ Sat [] w [.own x.1 (disL e nc c).length x.2 63 2 (rowsP (disL e nc c))] w' := by
  refine ⟨(none, 0), ?_, ?_⟩
  · unfold disL
    rw [if_neg he]
    rfl
  · unfold disL
    rw [if_neg he]
    exact hw.sub (KSub.nilOwn KSub.nil)
theorem claims_ok {nw nl nc nd nb : Nat} {f : Nat → Nat → Int} {x : Nat → Leg} {g : Nat → Nat → Nat → Int} {c : Nat → (Nat → Int) × Bool} {d b : Nat → Nat → Int} (he : checkC nw nl f x g nc nd nb c d b = 0) : ∀ k, k < nc → claimOk nl (c k) = true := by
  unfold checkC custC at he
  by_cases h1 : landOk nw nl f x g = true
  · rw [if_pos h1] at he
    by_cases h2 : ((allB nc fun k => claimOk nl (c k)) && !decide (30 < (nc : Int))) = false
    · rw [if_pos h2] at he
      cases he
    · rw [Bool.not_eq_false, Bool.and_eq_true] at h2
      exact allB_iff.1 h2.1
  · rw [if_neg h1] at he
    cases he
section
variable {W A C D B : Option Addr} {nw cw nl cl nc cc nd cd nb cb : Nat} {f : Nat → Nat → Int} {x : Nat → Leg} {g : Nat → Nat → Nat → Int} {c : Nat → (Nat → Int) × Bool} {d b : Nat → Nat → Int} {w : World}
set_option maxRecDepth 100000 in
set_option maxHeartbeats 1000000 in
theorem tollDisputes_any (h : LandIn w W nw A nl f x g) (k : CustIn w C nc D nd B nb c d b) (hcc : nc ≤ cc) :
    CallsK Try.prog 9 #[.agg (landL W nw cw A nl cl).toArray, .agg (custL C nc cc D nd cd B nb cb).toArray] [] w (Option Addr × Nat) (fun a => .tuple #[.slice a.1 (disL (checkC nw nl f x g nc nd nb c d b) nc c).length a.2, .int .i64 (checkC nw nl f x g nc nd nb c d b)]) (fun a => [.own a.1 (disL (checkC nw nl f x g nc nd nb c d b) nc c).length a.2 63 2 (rowsP (disL (checkC nw nl f x g nc nd nb c d b) nc c))]) := by
  have hRC := k.hC
  have hnc := k.hnc
  have hL (i q : Nat) (hi : i ≤ nc) (hq : q ≤ nc) := pairs_bd (c := c) hnc hi hq
  unfold landL custL
  refine K_enter (S := []) (K := []) Try.func9 rfl Try.ntmps9 rfl (Sat.start _) ?_
  refine TW.seq fun Y1 hY1 => ?_
  refine TW.region ?_
  refine TL.m Mk.bx ?_
  intro b1
  refine TL.m Mk.bx ?_
  intro b2
  refine TL.p Pu.as ?_
  refine TL.p Pu.as ?_
  refine TL.nil ?_
  refine TQ.thenN (hY1 _ _ ?_)
  refine TW.seq fun Y2 hY2 => ?_
  refine TW.seq fun Y3 hY3 => ?_
  refine TW.region ?_
  refine TL.p (Pu.lds ty_ag25) ?_
  refine TL.p (Pu.lds ty_ag30) ?_
  refine TL.cr rfl (enters Try.func11 rfl rfl) (fun w hw => by
      exact tollCheck_any (h.ext (Chg.ext hw.chg)) (k.ext (Chg.ext hw.chg))) ?_
  refine TL.p Pu.as ?_
  refine TL.nil ?_
  refine TQ.thenN (hY3 _ _ ?_)
  refine TW.seq fun Y4 hY4 => ?_
  refine TW.region ?_
  refine TL.p Pu.mv ?_
  refine TL.p Pu.ne ?_
  refine TL.nil ?_
  refine TQ.thenN (hY4 _ _ ?_)
  refine TW.cond rfl (fun hc0 => ?_) (fun hc0 => ?_)
  · try simp only [decide_eq_true_eq, decide_eq_false_iff_not, Bool.not_eq_true', Bool.not_eq_false', Bool.and_eq_true, Bool.or_eq_true, Bool.and_eq_false_iff, Bool.or_eq_false_iff, Int.not_lt, Int.not_le] at hc0
    have he : checkC nw nl f x g nc nd nb c d b ≠ 0 := by simpa using hc0
    refine TW.seq fun Y5 hY5 => ?_
    refine TW.region ?_
    refine TL.p Pu.mv ?_
    refine TL.p Pu.as ?_
    refine TL.p Pu.as ?_
    refine TL.nil ?_
    refine TQ.thenN (hY5 _ _ ?_)
    refine TW.ret ?_
    refine TQ.thenR ?_
    refine TQ.ret Try.results9 rfl ((.tmp rfl (.tmp rfl .nil))) ?_
    exact fun w hw => dis_bad he hw
  · try simp only [decide_eq_true_eq, decide_eq_false_iff_not, Bool.not_eq_true', Bool.not_eq_false', Bool.and_eq_true, Bool.or_eq_true, Bool.and_eq_false_iff, Bool.or_eq_false_iff, Int.not_lt, Int.not_le] at hc0
    have he : checkC nw nl f x g nc nd nb c d b = 0 := by simpa using hc0
    refine TW.skip ?_
    refine TQ.thenN (hY2 _ _ ?_)
    refine TW.seq fun Y6 hY6 => ?_
    refine TW.region ?_
    refine TL.p Pu.as ?_
    refine TL.nil ?_
    refine TQ.thenN (hY6 _ _ ?_)
    refine TW.seq fun Y7 hY7 => ?_
    refine TW.seq fun Y8 hY8 => ?_
    refine TW.region ?_
    refine TL.p (by first | exact Pu.fb ty_fa30_0 | exact Pu.fe ty_fa30_0) ?_
    refine TL.p (Pu.ld ty_sc26) ?_
    refine TL.p (Pu.ln Try.underlying26) ?_
    refine TL.p Pu.mv ?_
    refine TL.nil ?_
    refine TQ.thenN (hY8 _ _ ?_)
    refine TW.block ?_
    refine TW.loop5 (fun (i : Nat) (E : Option Addr) (cp : Nat) (L : List (Int × Int)) (m : Nat) => [(21, .int .i64 (i : Int)), (20, .int .i64 (nc : Int)), (19, .slice C nc cc), (7, .slice E m cp), (3, .pointer (some ⟨b2, 0, none⟩))]) (fun i E cp L m => [.own E m cp 63 2 (rowsP L), .blk b2 30 [.slice C nc cc, .slice D nd cd, .slice B nb cb]]) (fun i E cp L m => i ≤ nc ∧ L = outP c nc i ∧ m = L.length) (fun i E cp L m => nc - i) 0 none 0 [] 0 (by repeat (first | exact trivial | refine ⟨rfl, ?_⟩ | refine ⟨trivial, ?_⟩)) ?_ ?_ ?_
    · exact KSub.nilOwn (by repeat (first | exact KSub.nil | refine KSub.cons (by repeat (first | exact Pick.hd | apply Pick.tl)) ?_))
    · exact ⟨Nat.zero_le _, rfl, rfl⟩
    rintro i E cp L m ⟨hi, hL1, hm1⟩ Z0 hZ0
    refine TW.seq fun Y9 hY9 => ?_
    refine TW.region ?_
    refine TL.p Pu.lt ?_
    refine TL.nil ?_
    refine TQ.thenN (hY9 _ _ ?_)
    refine TW.seq fun Y10 hY10 => ?_
    refine TW.cond rfl (fun hc1 => ?_) (fun hc1 => ?_)
    · try simp only [decide_eq_true_eq, decide_eq_false_iff_not, Bool.not_eq_true', Bool.not_eq_false', Bool.and_eq_true, Bool.or_eq_true, Bool.and_eq_false_iff, Bool.or_eq_false_iff, Int.not_lt, Int.not_le] at hc1
      have hin : i < nc := by omega
      have hT := hRC.tail hcc (by omega : i + 1 ≤ nc)
      refine TW.skip ?_
      refine TQ.thenN (hY10 _ _ ?_)
      refine TW.seq fun Y11 hY11 => ?_
      refine TW.block ?_
      refine TW.seq fun Y12 hY12 => ?_
      refine TW.region ?_
      refine TL.p Pu.mv ?_
      refine TL.p (Pu.el ty_et26) ?_
      refine TL.p (Pu.lds ty_ag62) ?_
      refine TL.m (Mk.al ty_zr62) ?_
      intro b3
      refine TL.p Pu.as ?_
      first | refine TL.st ty_sz62 ?_ | refine TL.se ty_sz62 ?_
      refine TL.nil ?_
      refine TQ.thenN (hY12 _ _ ?_)
      refine TW.seq fun Y13 hY13 => ?_
      refine TW.region ?_
      refine TL.p (by first | exact Pu.fb ty_fa30_0 | exact Pu.fe ty_fa30_0) ?_
      refine TL.p (Pu.ld ty_sc26) ?_
      refine TL.p Pu.mv ?_
      refine TL.p Pu.ad ?_
      refine TL.p (Pu.sf ty_et26) ?_
      refine TL.p (Pu.ln Try.underlying26) ?_
      refine TL.p Pu.mv ?_
      refine TL.nil ?_
      refine TQ.thenN (hY13 _ _ ?_)
      refine TW.block ?_
      refine TW.loop5 (fun (q : Nat) (E : Option Addr) (cp : Nat) (L : List (Int × Int)) (m : Nat) => [(32, .int .i64 (q : Int)), (31, .int .i64 ((nc - (i + 1) : Nat) : Int)), (30, .slice (slA C cc 7 (i + 1)) (nc - (i + 1)) (cc - (i + 1))), (9, .pointer (some ⟨b3, 0, none⟩)), (8, .int .i64 (i : Int)), (21, .int .i64 (i : Int)), (20, .int .i64 (nc : Int)), (19, .slice C nc cc), (7, .slice E m cp), (3, .pointer (some ⟨b2, 0, none⟩))]) (fun q E cp L m => [.own E m cp 63 2 (rowsP L), .blk b3 62 (claimL (c i)), .blk b2 30 [.slice C nc cc, .slice D nd cd, .slice B nb cb]]) (fun q E cp L m => q ≤ nc - (i + 1) ∧ L = outP c nc i ++ innP c i q ∧ m = L.length) (fun q E cp L m => nc - (i + 1) - q) 0 _ _ L m (by repeat (first | exact trivial | refine ⟨rfl, ?_⟩ | refine ⟨trivial, ?_⟩)) ?_ ?_ ?_
      · exact (by repeat (first | exact KSub.nil | refine KSub.cons (by repeat (first | exact Pick.hd | apply Pick.tl)) ?_))
      · exact ⟨Nat.zero_le _, by rw [hL1]; simp [innP], hm1⟩
      rintro q E cp L m ⟨hq, hL2, hm2⟩ Z1 hZ1
      refine TW.seq fun Y14 hY14 => ?_
      refine TW.region ?_
      refine TL.p Pu.lt ?_
      refine TL.nil ?_
      refine TQ.thenN (hY14 _ _ ?_)
      refine TW.seq fun Y15 hY15 => ?_
      refine TW.cond rfl (fun hc2 => ?_) (fun hc2 => ?_)
      · try simp only [decide_eq_true_eq, decide_eq_false_iff_not, Bool.not_eq_true', Bool.not_eq_false', Bool.and_eq_true, Bool.or_eq_true, Bool.and_eq_false_iff, Bool.or_eq_false_iff, Int.not_lt, Int.not_le] at hc2
        have hqn : q < nc - (i + 1) := by omega
        have hmb : m ≤ 1001000 := by rw [hm2, hL2]; exact hL i q hi (by omega)
        refine TW.skip ?_
        refine TQ.thenN (hY15 _ _ ?_)
        refine TW.seq fun Y16 hY16 => ?_
        refine TW.block ?_
        refine TW.seq fun Y17 hY17 => ?_
        refine TW.region ?_
        refine TL.p Pu.mv ?_
        refine TL.p (Pu.el ty_et26) ?_
        refine TL.p (Pu.lds ty_ag62) ?_
        refine TL.m (Mk.al ty_zr62) ?_
        intro b4
        refine TL.p Pu.as ?_
        first | refine TL.st ty_sz62 ?_ | refine TL.se ty_sz62 ?_
        refine TL.nil ?_
        refine TQ.thenN (hY17 _ _ ?_)
        refine TW.seq fun Y18 hY18 => ?_
        refine TW.join [(62, .bool (disB (c i) (c (i + 1 + q))))] ?_ (fun hJ1 => ?_)
        · refine TQ.thenN (hY18 _ _ ?_)
          refine TW.cond rfl (fun hc3 => ?_) (fun hc3 => ?_)
          · try simp only [decide_eq_true_eq, decide_eq_false_iff_not, Bool.not_eq_true', Bool.not_eq_false', Bool.and_eq_true, Bool.or_eq_true, Bool.and_eq_false_iff, Bool.or_eq_false_iff, Int.not_lt, Int.not_le] at hc3
            obtain ⟨L', hL'⟩ : ∃ y, y = L ++ [((i : Int), (i : Int) + 1 + q)] := ⟨_, rfl⟩
            have hstep : L' = outP c nc i ++ innP c i (q + 1) := by rw [hL', hL2]; simp only [innP]; rw [if_pos hc3, List.append_assoc]
            have hlen : m + 1 = L'.length := by rw [hL', List.length_append, ← hm2]; rfl
            refine TW.region ?_
            refine TL.p Pu.mv ?_
            refine TL.p Pu.mv ?_
            refine TL.p Pu.mv ?_
            refine TL.p Pu.ad ?_
            refine TL.p Pu.mv ?_
            refine TL.p Pu.ad ?_
            refine TL.p Pu.bd ?_
            refine TL.m Mk.bl ?_
            intro b5
            first | refine TL.a0 ty_et42 ?_ | refine TL.ap ty_et42 ?_
            intro A6 c6
            refine TL.p Pu.as ?_
            refine TL.nil ?_
            refine TQ.blkN ?_
            refine TQ.thenN (hY16 _ _ ?_)
            refine TW.region ?_
            refine TL.p Pu.ad ?_
            refine TL.p Pu.mv ?_
            refine TL.nil ?_
            refine TQ.thenN (hZ1 (q + 1) _ _ L' _ _ _ ?_ ?_ (by repeat (first | exact trivial | refine ⟨rfl, ?_⟩ | refine ⟨trivial, ?_⟩)) ?_)
            · exact ⟨by omega, hstep, hlen⟩
            · exact (by first | omega | (simp only []; omega) | (simp; omega))
            · first
                | exact KSub.own Pick.hd (rowsP_app hm2 hL' rfl) (by repeat (first | exact KSub.nil | refine KSub.cons (by repeat (first | exact Pick.hd | apply Pick.tl)) ?_))
                | exact KSub.own (by repeat (first | exact Pick.hd | apply Pick.tl)) (fun i _ => by rw [hL']) (by repeat (first | exact KSub.nil | refine KSub.cons (by repeat (first | exact Pick.hd | apply Pick.tl)) ?_))
          · try simp only [decide_eq_true_eq, decide_eq_false_iff_not, Bool.not_eq_true', Bool.not_eq_false', Bool.and_eq_true, Bool.or_eq_true, Bool.and_eq_false_iff, Bool.or_eq_false_iff, Int.not_lt, Int.not_le] at hc3
            obtain ⟨L', hL'⟩ : ∃ y, y = L := ⟨_, rfl⟩
            have hstep : L' = outP c nc i ++ innP c i (q + 1) := by rw [hL', hL2]; simp only [innP]; rw [if_neg (by simp [hc3])]
            have hlen : m = L'.length := by rw [hL', ← hm2]
            refine TW.skip ?_
            refine TQ.blkN ?_
            refine TQ.thenN (hY16 _ _ ?_)
            refine TW.region ?_
            refine TL.p Pu.ad ?_
            refine TL.p Pu.mv ?_
            refine TL.nil ?_
            refine TQ.thenN (hZ1 (q + 1) _ _ L' _ _ _ ?_ ?_ (by repeat (first | exact trivial | refine ⟨rfl, ?_⟩ | refine ⟨trivial, ?_⟩)) ?_)
            · exact ⟨by omega, hstep, hlen⟩
            · exact (by first | omega | (simp only []; omega) | (simp; omega))
            · first
                | exact KSub.own Pick.hd (rowsP_app hm2 hL' rfl) (by repeat (first | exact KSub.nil | refine KSub.cons (by repeat (first | exact Pick.hd | apply Pick.tl)) ?_))
                | exact KSub.own (by repeat (first | exact Pick.hd | apply Pick.tl)) (fun i _ => by rw [hL']) (by repeat (first | exact KSub.nil | refine KSub.cons (by repeat (first | exact Pick.hd | apply Pick.tl)) ?_))
        refine TW.region ?_
        refine TL.p (by first | exact Pu.fb ty_fa62_0 | exact Pu.fe ty_fa62_0) ?_
        refine TL.p (Pu.ld ty_sc3) ?_
        refine TL.p (by first | exact Pu.fb ty_fa62_0 | exact Pu.fe ty_fa62_0) ?_
        refine TL.p (Pu.ld ty_sc3) ?_
        refine TL.p Pu.eq ?_
        refine TL.p Pu.mv ?_
        refine TL.guard (t := 42) rfl (fun hg1 => ?_) (fun hg1 => ?_)
        · refine TL.gd (by first | exact Pu.fb ty_fa62_1 | exact Pu.fe ty_fa62_1) ?_
          refine TL.gd (Pu.ld ty_sc3) ?_
          refine TL.gd (by first | exact Pu.fb ty_fa62_1 | exact Pu.fe ty_fa62_1) ?_
          refine TL.gd (Pu.ld ty_sc3) ?_
          refine TL.gd Pu.ne ?_
          refine TL.p Pu.kt ?_
          refine TL.p Pu.mv ?_
          refine TL.guard (t := 49) rfl (fun hg2 => ?_) (fun hg2 => ?_)
          · refine TL.gd (by first | exact Pu.fb ty_fa62_2 | exact Pu.fe ty_fa62_2) ?_
            refine TL.gd (Pu.ld ty_sc3) ?_
            refine TL.gd (by first | exact Pu.fb ty_fa62_3 | exact Pu.fe ty_fa62_3) ?_
            refine TL.gd (Pu.ld ty_sc3) ?_
            refine TL.gd Pu.le ?_
            refine TL.p Pu.kt ?_
            refine TL.p Pu.mv ?_
            refine TL.guard (t := 56) rfl (fun hg3 => ?_) (fun hg3 => ?_)
            · refine TL.gd (by first | exact Pu.fb ty_fa62_2 | exact Pu.fe ty_fa62_2) ?_
              refine TL.gd (Pu.ld ty_sc3) ?_
              refine TL.gd (by first | exact Pu.fb ty_fa62_3 | exact Pu.fe ty_fa62_3) ?_
              refine TL.gd (Pu.ld ty_sc3) ?_
              refine TL.gd Pu.le ?_
              refine TL.p Pu.kt ?_
              refine TL.nil ?_
              exact TQ.sub (by repeat (first | exact trivial | refine ⟨rfl, ?_⟩ | refine ⟨trivial, ?_⟩ | refine ⟨(by show some (Value.bool _) = some (Value.bool _); simp [hg1, hg2, hg3, disB]), ?_⟩)) (by repeat (first | exact KSub.nil | refine KSub.cons (by repeat (first | exact Pick.hd | apply Pick.tl)) ?_)) hJ1
            · refine TL.gs ?_
              refine TL.gs ?_
              refine TL.gs ?_
              refine TL.gs ?_
              refine TL.gs ?_
              refine TL.p Pu.kf ?_
              refine TL.nil ?_
              exact TQ.sub (by repeat (first | exact trivial | refine ⟨rfl, ?_⟩ | refine ⟨trivial, ?_⟩ | refine ⟨(by show some (Value.bool _) = some (Value.bool _); simp [hg1, hg2, hg3, disB]), ?_⟩)) (by repeat (first | exact KSub.nil | refine KSub.cons (by repeat (first | exact Pick.hd | apply Pick.tl)) ?_)) hJ1
          · refine TL.gs ?_
            refine TL.gs ?_
            refine TL.gs ?_
            refine TL.gs ?_
            refine TL.gs ?_
            refine TL.p Pu.kf ?_
            refine TL.p Pu.mv ?_
            refine TL.gs ?_
            refine TL.gs ?_
            refine TL.gs ?_
            refine TL.gs ?_
            refine TL.gs ?_
            refine TL.p Pu.kf ?_
            refine TL.nil ?_
            exact TQ.sub (by repeat (first | exact trivial | refine ⟨rfl, ?_⟩ | refine ⟨trivial, ?_⟩ | refine ⟨(by show some (Value.bool _) = some (Value.bool _); simp [hg1, hg2, disB]), ?_⟩)) (by repeat (first | exact KSub.nil | refine KSub.cons (by repeat (first | exact Pick.hd | apply Pick.tl)) ?_)) hJ1
        · refine TL.gs ?_
          refine TL.gs ?_
          refine TL.gs ?_
          refine TL.gs ?_
          refine TL.gs ?_
          refine TL.p Pu.kf ?_
          refine TL.p Pu.mv ?_
          refine TL.gs ?_
          refine TL.gs ?_
          refine TL.gs ?_
          refine TL.gs ?_
          refine TL.gs ?_
          refine TL.p Pu.kf ?_
          refine TL.p Pu.mv ?_
          refine TL.gs ?_
          refine TL.gs ?_
          refine TL.gs ?_
          refine TL.gs ?_
          refine TL.gs ?_
          refine TL.p Pu.kf ?_
          refine TL.nil ?_
          exact TQ.sub (by repeat (first | exact trivial | refine ⟨rfl, ?_⟩ | refine ⟨trivial, ?_⟩ | refine ⟨(by show some (Value.bool _) = some (Value.bool _); simp [hg1, disB]), ?_⟩)) (by repeat (first | exact KSub.nil | refine KSub.cons (by repeat (first | exact Pick.hd | apply Pick.tl)) ?_)) hJ1
      · try simp only [decide_eq_true_eq, decide_eq_false_iff_not, Bool.not_eq_true', Bool.not_eq_false', Bool.and_eq_true, Bool.or_eq_true, Bool.and_eq_false_iff, Bool.or_eq_false_iff, Int.not_lt, Int.not_le] at hc2
        obtain rfl : q = nc - (i + 1) := by omega
        refine TW.exit ?_
        refine TQ.thenX ?_
        refine TQ.thenX ?_
        refine TQ.blkX ?_
        refine TQ.blkN ?_
        refine TQ.thenN (hY11 _ _ ?_)
        refine TW.region ?_
        refine TL.p Pu.ad ?_
        refine TL.p Pu.mv ?_
        refine TL.nil ?_
        refine TQ.thenN (hZ0 (i + 1) _ _ L m _ _ ?_ ?_ (by repeat (first | exact trivial | refine ⟨rfl, ?_⟩ | refine ⟨trivial, ?_⟩)) ?_)
        · exact ⟨by omega, hL2, hm2⟩
        · exact (by first | omega | (simp only []; omega) | (simp; omega))
        · exact (by repeat (first | exact KSub.nil | refine KSub.cons (by repeat (first | exact Pick.hd | apply Pick.tl)) ?_))
    · try simp only [decide_eq_true_eq, decide_eq_false_iff_not, Bool.not_eq_true', Bool.not_eq_false', Bool.and_eq_true, Bool.or_eq_true, Bool.and_eq_false_iff, Bool.or_eq_false_iff, Int.not_lt, Int.not_le] at hc1
      obtain rfl : i = nc := by omega
      refine TW.exit ?_
      refine TQ.thenX ?_
      refine TQ.thenX ?_
      refine TQ.blkX ?_
      refine TQ.thenN (hY7 _ _ ?_)
      refine TW.seq fun Y19 hY19 => ?_
      refine TW.region ?_
      refine TL.p Pu.mv ?_
      refine TL.p Pu.as ?_
      refine TL.p Pu.as ?_
      refine TL.nil ?_
      refine TQ.thenN (hY19 _ _ ?_)
      refine TW.ret ?_
      refine TQ.ret Try.results9 rfl ((.tmp rfl (.tmp rfl .nil))) ?_
      exact fun w hw => ⟨(E, cp), by rw [hm1, hL1, he]; rfl, by
        have h9 := hw.sub (KSub.cons Pick.hd KSub.nil)
        rw [hm1, hL1] at h9
        rw [he]
        exact h9⟩
set_option maxRecDepth 100000 in
set_option maxHeartbeats 1000000 in
theorem refDisputes_any (h : LandIn w W nw A nl f x g) (k : CustIn w C nc D nd B nb c d b) :
    CallsK Try.prog 10 #[.agg (landL W nw cw A nl cl).toArray, .agg (custL C nc cc D nd cd B nb cb).toArray] [] w (Option Addr × Nat) (fun a => .tuple #[.slice a.1 (disL (checkC nw nl f x g nc nd nb c d b) nc c).length a.2, .int .i64 (checkC nw nl f x g nc nd nb c d b)]) (fun a => [.own a.1 (disL (checkC nw nl f x g nc nd nb c d b) nc c).length a.2 63 2 (rowsP (disL (checkC nw nl f x g nc nd nb c d b) nc c))]) := by
  have hRC := k.hC
  have hnc := k.hnc
  have hL (i q : Nat) (hi : i ≤ nc) (hq : q ≤ nc) := pairs_bd (c := c) hnc hi hq
  unfold landL custL
  refine K_enter (S := []) (K := []) Try.func10 rfl Try.ntmps10 rfl (Sat.start _) ?_
  refine TW.seq fun Y1 hY1 => ?_
  refine TW.region ?_
  refine TL.m Mk.bx ?_
  intro b1
  refine TL.m Mk.bx ?_
  intro b2
  refine TL.p Pu.as ?_
  refine TL.p Pu.as ?_
  refine TL.nil ?_
  refine TQ.thenN (hY1 _ _ ?_)
  refine TW.seq fun Y2 hY2 => ?_
  refine TW.seq fun Y3 hY3 => ?_
  refine TW.region ?_
  refine TL.p (Pu.lds ty_ag25) ?_
  refine TL.p (Pu.lds ty_ag30) ?_
  refine TL.cr rfl (enters Try.func12 rfl rfl) (fun w hw => by
      exact refCheck_any (h.ext (Chg.ext hw.chg)) (k.ext (Chg.ext hw.chg))) ?_
  refine TL.p Pu.as ?_
  refine TL.nil ?_
  refine TQ.thenN (hY3 _ _ ?_)
  refine TW.seq fun Y4 hY4 => ?_
  refine TW.region ?_
  refine TL.p Pu.mv ?_
  refine TL.p Pu.ne ?_
  refine TL.nil ?_
  refine TQ.thenN (hY4 _ _ ?_)
  refine TW.cond rfl (fun hc0 => ?_) (fun hc0 => ?_)
  · try simp only [decide_eq_true_eq, decide_eq_false_iff_not, Bool.not_eq_true', Bool.not_eq_false', Bool.and_eq_true, Bool.or_eq_true, Bool.and_eq_false_iff, Bool.or_eq_false_iff, Int.not_lt, Int.not_le] at hc0
    have he : checkC nw nl f x g nc nd nb c d b ≠ 0 := by simpa using hc0
    refine TW.seq fun Y5 hY5 => ?_
    refine TW.region ?_
    refine TL.p Pu.mv ?_
    refine TL.p Pu.as ?_
    refine TL.p Pu.as ?_
    refine TL.nil ?_
    refine TQ.thenN (hY5 _ _ ?_)
    refine TW.ret ?_
    refine TQ.thenR ?_
    refine TQ.ret Try.results10 rfl ((.tmp rfl (.tmp rfl .nil))) ?_
    exact fun w hw => dis_bad he hw
  · try simp only [decide_eq_true_eq, decide_eq_false_iff_not, Bool.not_eq_true', Bool.not_eq_false', Bool.and_eq_true, Bool.or_eq_true, Bool.and_eq_false_iff, Bool.or_eq_false_iff, Int.not_lt, Int.not_le] at hc0
    have he : checkC nw nl f x g nc nd nb c d b = 0 := by simpa using hc0
    have hok := claims_ok he
    refine TW.skip ?_
    refine TQ.thenN (hY2 _ _ ?_)
    refine TW.seq fun Y6 hY6 => ?_
    refine TW.region ?_
    refine TL.p Pu.as ?_
    refine TL.nil ?_
    refine TQ.thenN (hY6 _ _ ?_)
    refine TW.seq fun Y7 hY7 => ?_
    refine TW.seq fun Y8 hY8 => ?_
    refine TW.region ?_
    refine TL.p Pu.as ?_
    refine TL.nil ?_
    refine TQ.thenN (hY8 _ _ ?_)
    refine TW.block ?_
    refine TW.loop5 (fun (i : Nat) (E : Option Addr) (cp : Nat) (L : List (Int × Int)) (m : Nat) => [(8, .int .i64 (i : Int)), (7, .slice E m cp), (3, .pointer (some ⟨b2, 0, none⟩))]) (fun i E cp L m => [.own E m cp 63 2 (rowsP L), .blk b2 30 [.slice C nc cc, .slice D nd cd, .slice B nb cb]]) (fun i E cp L m => i ≤ nc ∧ L = outP c nc i ∧ m = L.length) (fun i E cp L m => nc - i) 0 none 0 [] 0 (by repeat (first | exact trivial | refine ⟨rfl, ?_⟩ | refine ⟨trivial, ?_⟩)) ?_ ?_ ?_
    · exact KSub.nilOwn (by repeat (first | exact KSub.nil | refine KSub.cons (by repeat (first | exact Pick.hd | apply Pick.tl)) ?_))
    · exact ⟨Nat.zero_le _, rfl, rfl⟩
    rintro i E cp L m ⟨hi, hL1, hm1⟩ Z0 hZ0
    refine TW.seq fun Y9 hY9 => ?_
    refine TW.seq fun Y10 hY10 => ?_
    refine TW.region ?_
    refine TL.p Pu.mv ?_
    refine TL.p (by first | exact Pu.fb ty_fa30_0 | exact Pu.fe ty_fa30_0) ?_
    refine TL.p (Pu.ld ty_sc26) ?_
    refine TL.p (Pu.ln Try.underlying26) ?_
    refine TL.p Pu.lt ?_
    refine TL.nil ?_
    refine TQ.thenN (hY10 _ _ ?_)
    refine TW.cond rfl (fun hc1 => ?_) (fun hc1 => ?_)
    · try simp only [decide_eq_true_eq, decide_eq_false_iff_not, Bool.not_eq_true', Bool.not_eq_false', Bool.and_eq_true, Bool.or_eq_true, Bool.and_eq_false_iff, Bool.or_eq_false_iff, Int.not_lt, Int.not_le] at hc1
      have hin : i < nc := by omega
      refine TW.skip ?_
      refine TQ.thenN (hY9 _ _ ?_)
      refine TW.seq fun Y11 hY11 => ?_
      refine TW.block ?_
      refine TW.seq fun Y12 hY12 => ?_
      refine TW.region ?_
      refine TL.p Pu.mv ?_
      refine TL.p Pu.ad ?_
      refine TL.p Pu.as ?_
      refine TL.nil ?_
      refine TQ.thenN (hY12 _ _ ?_)
      refine TW.block ?_
      refine TW.loop5 (fun (q : Nat) (E : Option Addr) (cp : Nat) (L : List (Int × Int)) (m : Nat) => [(9, .int .i64 ((i : Int) + 1 + q)), (8, .int .i64 (i : Int)), (7, .slice E m cp), (3, .pointer (some ⟨b2, 0, none⟩))]) (fun q E cp L m => [.own E m cp 63 2 (rowsP L), .blk b2 30 [.slice C nc cc, .slice D nd cd, .slice B nb cb]]) (fun q E cp L m => q ≤ nc - (i + 1) ∧ L = outP c nc i ++ innP c i q ∧ m = L.length) (fun q E cp L m => nc - (i + 1) - q) 0 _ _ L m (by refine ⟨congrArg (fun z => some (Value.int .i64 z)) (by omega), ?_⟩; repeat (first | exact trivial | refine ⟨rfl, ?_⟩ | refine ⟨trivial, ?_⟩)) ?_ ?_ ?_
      · exact (by repeat (first | exact KSub.nil | refine KSub.cons (by repeat (first | exact Pick.hd | apply Pick.tl)) ?_))
      · exact ⟨Nat.zero_le _, by rw [hL1]; simp [innP], hm1⟩
      rintro q E cp L m ⟨hq, hL2, hm2⟩ Z1 hZ1
      refine TW.seq fun Y13 hY13 => ?_
      refine TW.seq fun Y14 hY14 => ?_
      refine TW.region ?_
      refine TL.p Pu.mv ?_
      refine TL.p (by first | exact Pu.fb ty_fa30_0 | exact Pu.fe ty_fa30_0) ?_
      refine TL.p (Pu.ld ty_sc26) ?_
      refine TL.p (Pu.ln Try.underlying26) ?_
      refine TL.p Pu.lt ?_
      refine TL.nil ?_
      refine TQ.thenN (hY14 _ _ ?_)
      refine TW.cond rfl (fun hc2 => ?_) (fun hc2 => ?_)
      · try simp only [decide_eq_true_eq, decide_eq_false_iff_not, Bool.not_eq_true', Bool.not_eq_false', Bool.and_eq_true, Bool.or_eq_true, Bool.and_eq_false_iff, Bool.or_eq_false_iff, Int.not_lt, Int.not_le] at hc2
        have hqn : q < nc - (i + 1) := by omega
        have hmb : m ≤ 1001000 := by rw [hm2, hL2]; exact hL i q hi (by omega)
        have hdis := disR_eq (hok i (by omega)) (hok (i + 1 + q) (by omega))
        refine TW.skip ?_
        refine TQ.thenN (hY13 _ _ ?_)
        refine TW.seq fun Y15 hY15 => ?_
        refine TW.block ?_
        refine TW.seq fun Y16 hY16 => ?_
        refine TW.expl (fun (⟨x10, x11⟩ : Nat × Nat) => ([(10, .pointer (some ⟨x10, 0, none⟩)), (11, .pointer (some ⟨x11, 0, none⟩)), (9, .int .i64 ((i : Int) + 1 + q)), (8, .int .i64 (i : Int)), (7, .slice E m cp), (3, .pointer (some ⟨b2, 0, none⟩))] : Fr)) (fun (⟨x10, x11⟩ : Nat × Nat) => [.blk x10 62 (claimL (c i)), .blk x11 62 (claimL (c (i + 1 + q))), .own E m cp 63 2 (rowsP L), .blk b2 30 [.slice C nc cc, .slice D nd cd, .slice B nb cb]]) Drop.done ?_ (fun hE => ?_)
        · rintro ⟨x10, x11⟩
          refine TQ.thenN (hY16 _ _ ?_)
          refine TW.seq fun Y17 hY17 => ?_
          refine TW.join [(68, .bool (disR (c i) (c (i + 1 + q))))] ?_ (fun hJ1 => ?_)
          · refine TQ.thenN (hY17 _ _ ?_)
            refine TW.cond rfl (fun hc3 => ?_) (fun hc3 => ?_)
            · try simp only [decide_eq_true_eq, decide_eq_false_iff_not, Bool.not_eq_true', Bool.not_eq_false', Bool.and_eq_true, Bool.or_eq_true, Bool.and_eq_false_iff, Bool.or_eq_false_iff, Int.not_lt, Int.not_le] at hc3
              rw [hdis] at hc3
              obtain ⟨L', hL'⟩ : ∃ y, y = L ++ [((i : Int), (i : Int) + 1 + q)] := ⟨_, rfl⟩
              have hstep : L' = outP c nc i ++ innP c i (q + 1) := by rw [hL', hL2]; simp only [innP]; rw [if_pos hc3, List.append_assoc]
              have hlen : m + 1 = L'.length := by rw [hL', List.length_append, ← hm2]; rfl
              refine TW.region ?_
              refine TL.p Pu.mv ?_
              refine TL.p Pu.mv ?_
              refine TL.p Pu.mv ?_
              refine TL.p Pu.bd ?_
              refine TL.m Mk.bl ?_
              intro b3
              first | refine TL.a0 ty_et42 ?_ | refine TL.ap ty_et42 ?_
              intro A4 c4
              refine TL.p Pu.as ?_
              refine TL.nil ?_
              refine TQ.blkN ?_
              refine TQ.thenN (hY15 _ _ ?_)
              refine TW.region ?_
              refine TL.p Pu.mv ?_
              refine TL.p Pu.ad ?_
              refine TL.p Pu.as ?_
              refine TL.nil ?_
              refine TQ.thenN (hZ1 (q + 1) _ _ L' _ _ _ ?_ ?_ (by refine ⟨congrArg (fun z => some (Value.int .i64 z)) (by omega), ?_⟩; repeat (first | exact trivial | refine ⟨rfl, ?_⟩ | refine ⟨trivial, ?_⟩)) ?_)
              · exact ⟨by omega, hstep, hlen⟩
              · exact (by first | omega | (simp only []; omega) | (simp; omega))
              · first
                  | exact KSub.own Pick.hd (rowsP_app hm2 hL' rfl) (by repeat (first | exact KSub.nil | refine KSub.cons (by repeat (first | exact Pick.hd | apply Pick.tl)) ?_))
                  | exact KSub.own (by repeat (first | exact Pick.hd | apply Pick.tl)) (fun i _ => by rw [hL']) (by repeat (first | exact KSub.nil | refine KSub.cons (by repeat (first | exact Pick.hd | apply Pick.tl)) ?_))
            · try simp only [decide_eq_true_eq, decide_eq_false_iff_not, Bool.not_eq_true', Bool.not_eq_false', Bool.and_eq_true, Bool.or_eq_true, Bool.and_eq_false_iff, Bool.or_eq_false_iff, Int.not_lt, Int.not_le] at hc3
              rw [hdis] at hc3
              obtain ⟨L', hL'⟩ : ∃ y, y = L := ⟨_, rfl⟩
              have hstep : L' = outP c nc i ++ innP c i (q + 1) := by rw [hL', hL2]; simp only [innP]; rw [if_neg (by simp [hc3])]
              have hlen : m = L'.length := by rw [hL', ← hm2]
              refine TW.skip ?_
              refine TQ.blkN ?_
              refine TQ.thenN (hY15 _ _ ?_)
              refine TW.region ?_
              refine TL.p Pu.mv ?_
              refine TL.p Pu.ad ?_
              refine TL.p Pu.as ?_
              refine TL.nil ?_
              refine TQ.thenN (hZ1 (q + 1) _ _ L' _ _ _ ?_ ?_ (by refine ⟨congrArg (fun z => some (Value.int .i64 z)) (by omega), ?_⟩; repeat (first | exact trivial | refine ⟨rfl, ?_⟩ | refine ⟨trivial, ?_⟩)) ?_)
              · exact ⟨by omega, hstep, hlen⟩
              · exact (by first | omega | (simp only []; omega) | (simp; omega))
              · first
                  | exact KSub.own Pick.hd (rowsP_app hm2 hL' rfl) (by repeat (first | exact KSub.nil | refine KSub.cons (by repeat (first | exact Pick.hd | apply Pick.tl)) ?_))
                  | exact KSub.own (by repeat (first | exact Pick.hd | apply Pick.tl)) (fun i _ => by rw [hL']) (by repeat (first | exact KSub.nil | refine KSub.cons (by repeat (first | exact Pick.hd | apply Pick.tl)) ?_))
          refine TW.region ?_
          refine TL.p (by first | exact Pu.fb ty_fa62_0 | exact Pu.fe ty_fa62_0) ?_
          refine TL.p (Pu.ld ty_sc3) ?_
          refine TL.p (by first | exact Pu.fb ty_fa62_0 | exact Pu.fe ty_fa62_0) ?_
          refine TL.p (Pu.ld ty_sc3) ?_
          refine TL.p Pu.eq ?_
          refine TL.p Pu.mv ?_
          refine TL.guard (t := 49) rfl (fun hg1 => ?_) (fun hg1 => ?_)
          · refine TL.gd (by first | exact Pu.fb ty_fa62_1 | exact Pu.fe ty_fa62_1) ?_
            refine TL.gd (Pu.ld ty_sc3) ?_
            refine TL.gd (by first | exact Pu.fb ty_fa62_1 | exact Pu.fe ty_fa62_1) ?_
            refine TL.gd (Pu.ld ty_sc3) ?_
            refine TL.gd Pu.ne ?_
            refine TL.p Pu.kt ?_
            refine TL.p Pu.mv ?_
            refine TL.guard (t := 56) rfl (fun hg2 => ?_) (fun hg2 => ?_)
            · refine TL.gd (by first | exact Pu.fb ty_fa62_2 | exact Pu.fe ty_fa62_2) ?_
              refine TL.gd (Pu.ld ty_sc3) ?_
              refine TL.gd (by first | exact Pu.fb ty_fa62_2 | exact Pu.fe ty_fa62_2) ?_
              refine TL.gd (Pu.ld ty_sc3) ?_
              refine TL.gd Pu.mx ?_
              refine TL.gd (by first | exact Pu.fb ty_fa62_3 | exact Pu.fe ty_fa62_3) ?_
              refine TL.gd (Pu.ld ty_sc3) ?_
              refine TL.gd (by first | exact Pu.fb ty_fa62_3 | exact Pu.fe ty_fa62_3) ?_
              refine TL.gd (Pu.ld ty_sc3) ?_
              refine TL.gd Pu.mn ?_
              refine TL.gd Pu.le ?_
              refine TL.p Pu.kt ?_
              refine TL.nil ?_
              exact TQ.sub (by repeat (first | exact trivial | refine ⟨rfl, ?_⟩ | refine ⟨trivial, ?_⟩ | refine ⟨(by show some (Value.bool _) = some (Value.bool _); simp [hg1, hg2, disR]), ?_⟩)) (by repeat (first | exact KSub.nil | refine KSub.cons (by repeat (first | exact Pick.hd | apply Pick.tl)) ?_)) hJ1
            · refine TL.gs ?_
              refine TL.gs ?_
              refine TL.gs ?_
              refine TL.gs ?_
              refine TL.gs ?_
              refine TL.gs ?_
              refine TL.gs ?_
              refine TL.gs ?_
              refine TL.gs ?_
              refine TL.gs ?_
              refine TL.gs ?_
              refine TL.p Pu.kf ?_
              refine TL.nil ?_
              exact TQ.sub (by repeat (first | exact trivial | refine ⟨rfl, ?_⟩ | refine ⟨trivial, ?_⟩ | refine ⟨(by show some (Value.bool _) = some (Value.bool _); simp [hg1, hg2, disR]), ?_⟩)) (by repeat (first | exact KSub.nil | refine KSub.cons (by repeat (first | exact Pick.hd | apply Pick.tl)) ?_)) hJ1
          · refine TL.gs ?_
            refine TL.gs ?_
            refine TL.gs ?_
            refine TL.gs ?_
            refine TL.gs ?_
            refine TL.p Pu.kf ?_
            refine TL.p Pu.mv ?_
            refine TL.gs ?_
            refine TL.gs ?_
            refine TL.gs ?_
            refine TL.gs ?_
            refine TL.gs ?_
            refine TL.gs ?_
            refine TL.gs ?_
            refine TL.gs ?_
            refine TL.gs ?_
            refine TL.gs ?_
            refine TL.gs ?_
            refine TL.p Pu.kf ?_
            refine TL.nil ?_
            exact TQ.sub (by repeat (first | exact trivial | refine ⟨rfl, ?_⟩ | refine ⟨trivial, ?_⟩ | refine ⟨(by show some (Value.bool _) = some (Value.bool _); simp [hg1, disR]), ?_⟩)) (by repeat (first | exact KSub.nil | refine KSub.cons (by repeat (first | exact Pick.hd | apply Pick.tl)) ?_)) hJ1
        refine RG.tk 0 rfl (by first | exact Pu.fb ty_fa30_0 | exact Pu.fe ty_fa30_0) ?_
        refine RG.tk 1 rfl (Pu.ld ty_sc26) ?_
        refine RG.tk 2 rfl Pu.mv ?_
        refine RG.tk 3 rfl (Pu.el ty_et26) ?_
        refine RG.tk 4 rfl (Pu.lds ty_ag62) ?_
        refine RG.tk 5 rfl (by first | exact Pu.fb ty_fa30_0 | exact Pu.fe ty_fa30_0) ?_
        refine RG.tk 6 rfl (Pu.ld ty_sc26) ?_
        refine RG.tk 7 rfl Pu.mv ?_
        refine RG.tk 8 rfl (Pu.el (q := i + 1 + q) ty_et26 (hk := by omega)) ?_
        refine RG.tk 9 rfl (Pu.lds ty_ag62) ?_
        refine RG.a2 10 11 rfl rfl (fun X10 hX10 => ?_) (fun X11 hX11 => ?_)
        · refine TL.m (Mk.al ty_zr62) ?_
          intro x10
          refine TL.nil ?_
          refine TQ.nxt (hX10 _ _ (by repeat (first | exact HasL.nil | refine HasL.cons (by repeat (first | exact Pick.hd | apply Pick.tl)) ?_)) ?_)
          refine RG.a1 11 rfl (fun X11 hX11 => ?_)
          refine TL.m (Mk.al ty_zr62) ?_
          intro x11
          refine TL.nil ?_
          refine TQ.nxt (hX11 _ _ (by repeat (first | exact HasL.nil | refine HasL.cons (by repeat (first | exact Pick.hd | apply Pick.tl)) ?_)) ?_)
          refine RG.a1 12 rfl (fun X12 hX12 => ?_)
          first | refine TL.st ty_sz62 ?_ | refine TL.se ty_sz62 ?_
          refine TL.nil ?_
          refine TQ.nxt (hX12 _ _ (by repeat (first | exact HasL.nil | refine HasL.cons (by repeat (first | exact Pick.hd | apply Pick.tl)) ?_)) ?_)
          refine RG.a1 13 rfl (fun X13 hX13 => ?_)
          first | refine TL.st ty_sz62 ?_ | refine TL.se ty_sz62 ?_
          refine TL.nil ?_
          refine TQ.nxt (hX13 _ _ (by repeat (first | exact HasL.nil | refine HasL.cons (by repeat (first | exact Pick.hd | apply Pick.tl)) ?_)) ?_)
          exact RG.nil (TQ.sub (by repeat (first | exact trivial | refine ⟨rfl, ?_⟩ | refine ⟨trivial, ?_⟩)) (by repeat (first | exact KSub.nil | refine KSub.cons (by repeat (first | exact Pick.hd | apply Pick.tl)) ?_ | exact KSub.refl _ | exact KSub.drop (KSub.refl _))) (hE ⟨x10, x11⟩)) (by kernel_rfl)
        · refine TL.m (Mk.al ty_zr62) ?_
          intro x11
          refine TL.nil ?_
          refine TQ.nxt (hX11 _ _ (by repeat (first | exact HasL.nil | refine HasL.cons (by repeat (first | exact Pick.hd | apply Pick.tl)) ?_)) ?_)
          refine RG.a1 10 rfl (fun X10 hX10 => ?_)
          refine TL.m (Mk.al ty_zr62) ?_
          intro x10
          refine TL.nil ?_
          refine TQ.nxt (hX10 _ _ (by repeat (first | exact HasL.nil | refine HasL.cons (by repeat (first | exact Pick.hd | apply Pick.tl)) ?_)) ?_)
          refine RG.a1 12 rfl (fun X12 hX12 => ?_)
          first | refine TL.st ty_sz62 ?_ | refine TL.se ty_sz62 ?_
          refine TL.nil ?_
          refine TQ.nxt (hX12 _ _ (by repeat (first | exact HasL.nil | refine HasL.cons (by repeat (first | exact Pick.hd | apply Pick.tl)) ?_)) ?_)
          refine RG.a1 13 rfl (fun X13 hX13 => ?_)
          first | refine TL.st ty_sz62 ?_ | refine TL.se ty_sz62 ?_
          refine TL.nil ?_
          refine TQ.nxt (hX13 _ _ (by repeat (first | exact HasL.nil | refine HasL.cons (by repeat (first | exact Pick.hd | apply Pick.tl)) ?_)) ?_)
          exact RG.nil (TQ.sub (by repeat (first | exact trivial | refine ⟨rfl, ?_⟩ | refine ⟨trivial, ?_⟩)) (by repeat (first | exact KSub.nil | refine KSub.cons (by repeat (first | exact Pick.hd | apply Pick.tl)) ?_ | exact KSub.refl _ | exact KSub.drop (KSub.refl _))) (hE ⟨x10, x11⟩)) (by kernel_rfl)
      · try simp only [decide_eq_true_eq, decide_eq_false_iff_not, Bool.not_eq_true', Bool.not_eq_false', Bool.and_eq_true, Bool.or_eq_true, Bool.and_eq_false_iff, Bool.or_eq_false_iff, Int.not_lt, Int.not_le] at hc2
        obtain rfl : q = nc - (i + 1) := by omega
        refine TW.exit ?_
        refine TQ.thenX ?_
        refine TQ.thenX ?_
        refine TQ.blkX ?_
        refine TQ.blkN ?_
        refine TQ.thenN (hY11 _ _ ?_)
        refine TW.region ?_
        refine TL.p Pu.mv ?_
        refine TL.p Pu.ad ?_
        refine TL.p Pu.as ?_
        refine TL.nil ?_
        refine TQ.thenN (hZ0 (i + 1) _ _ L m _ _ ?_ ?_ (by repeat (first | exact trivial | refine ⟨rfl, ?_⟩ | refine ⟨trivial, ?_⟩)) ?_)
        · exact ⟨by omega, hL2, hm2⟩
        · exact (by first | omega | (simp only []; omega) | (simp; omega))
        · exact (by repeat (first | exact KSub.nil | refine KSub.cons (by repeat (first | exact Pick.hd | apply Pick.tl)) ?_))
    · try simp only [decide_eq_true_eq, decide_eq_false_iff_not, Bool.not_eq_true', Bool.not_eq_false', Bool.and_eq_true, Bool.or_eq_true, Bool.and_eq_false_iff, Bool.or_eq_false_iff, Int.not_lt, Int.not_le] at hc1
      obtain rfl : i = nc := by omega
      refine TW.exit ?_
      refine TQ.thenX ?_
      refine TQ.thenX ?_
      refine TQ.blkX ?_
      refine TQ.thenN (hY7 _ _ ?_)
      refine TW.seq fun Y18 hY18 => ?_
      refine TW.region ?_
      refine TL.p Pu.mv ?_
      refine TL.p Pu.as ?_
      refine TL.p Pu.as ?_
      refine TL.nil ?_
      refine TQ.thenN (hY18 _ _ ?_)
      refine TW.ret ?_
      refine TQ.ret Try.results10 rfl ((.tmp rfl (.tmp rfl .nil))) ?_
      exact fun w hw => ⟨(E, cp), by rw [hm1, hL1, he]; rfl, by
        have h9 := hw.sub (KSub.cons Pick.hd KSub.nil)
        rw [hm1, hL1] at h9
        rw [he]
        exact h9⟩
end
end Go.Proofs.Ytckiagbllkdfdaa
