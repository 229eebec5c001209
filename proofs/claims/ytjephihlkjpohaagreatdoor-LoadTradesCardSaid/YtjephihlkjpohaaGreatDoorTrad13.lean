/-
  Part 13 of the proof of loadTrades_holds: declarations of several texts, in build order. No condition on a program.
-/
import Derived.Test.YtjephihlkjpohaaGreatDoorTrad10
import Derived.Test.YtjephihlkjpohaaGreatDoorTrad12
import Derived.Test.YtjephihlkjpohaaGreatDoorTrad07
import Derived.Test.YtjephihlkjpohaaGreatDoorTrad06
import Derived.Test.YtjephihlkjpohaaGreatDoorTrad03
import Derived.Test.YtjephihlkjpohaaGreatDoorTrad11
namespace Go.Proofs.YtjephihlkjpohaaGreatDoor
set_option linter.all false
set_option linter.unusedVariables false
set_option linter.unusedSimpArgs false
open Go.RowKit
theorem tie_set3 {X : Nat → Option Addr} {T : Nat → List Int} {D : Nat → Nat} {i : Nat} {A1 A2 A3 : Option Addr} {c1 c2 c3 : Nat} {L1 L2 L3 : List Int} (j : Nat) : updR (tieX X T D) i [.slice A1 L1.length c1, .slice A2 L2.length c2, .slice A3 L3.length c3] j = tieX (updN (updN (updN X (3 * i) A1) (3 * i + 1) A2) (3 * i + 2) A3) (updN (updN (updN T (3 * i) L1) (3 * i + 1) L2) (3 * i + 2) L3) (updN (updN (updN D (3 * i) c1) (3 * i + 1) c2) (3 * i + 2) c3) j := by
  unfold updR
  by_cases hj : j = i
  · subst hj
    rw [if_pos rfl]
    simp [tieX, updN]
  · rw [if_neg hj]
    unfold tieX updN
    repeat rw [if_neg (by omega)]
theorem updN_same {α : Type} {T : Nat → α} {s : Nat} {L : α} (h : T s = L) : updN T s L = T := by
  funext q
  unfold updN
  split
  · rename_i e; rw [e, h]
  · rfl
section
variable {np m nP : Nat} {pk : Nat → Nat → Int} {l : Nat → Nat → Nat} {v : Nat → Nat → Nat → Int} {F : List Int} {P : Nat → Nat → Int} {b : Int}
theorem trade_none {S : List Nat} {w0 w : World} {K : List Fact} {code : Int} (hC : tradeC np pk m l v F P nP b = code) (hne : code ≠ 0) (hw : Sat S w0 K w) : ∃ z : TRx, Ending.returned (retV [.slice none 0 0, .slice none 0 0, .int .i64 code]) = .returned (.tuple #[.slice z.1.1.1 (tradeN np pk m l v F P nP b) z.1.1.2, .slice z.2.1 (tradeM np pk m l v F P nP b).length z.2.2, .int .i64 (tradeC np pk m l v F P nP b)]) ∧ Sat S w0 (.own z.2.1 (tradeM np pk m l v F P nP b).length z.2.2 3 1 (iL (tradeM np pk m l v F P nP b)) :: tiesX (tradeN np pk m l v F P nP b) (tradeT pk m l v F P nP b) z.1) w := by
  have e1 : tradeN np pk m l v F P nP b = 0 := if_neg (by rw [hC]; exact hne)
  have e2 : tradeM np pk m l v F P nP b = [] := if_neg (by rw [hC]; exact hne)
  rw [e1, e2, hC]
  exact ⟨(((none, 0), fun _ => none, fun _ => 0), (none, 0)), rfl, hw.sub (KSub.nilOwn (KSub.nilOwn KSub.nil))⟩
theorem takeC_or {T : Nat → List Int} : takeC np F T m = 0 ∨ takeC np F T m = 54 := by unfold takeC; split <;> simp
theorem putC_or {T : Nat → List Int} : putC np m T P nP = 0 ∨ putC np m T P nP = 54 := by unfold putC; split <;> simp
theorem tradeC_puts (ha : askT np pk m l v b = 0) (h : trdOk np m l v F P nP = false) : tradeC np pk m l v F P nP b = 54 := by
  unfold tradeC
  rw [if_pos ha]
  rcases takeC_or (np := np) (F := F) (T := T0 l v) (m := m) with h1 | h1
  · rw [if_pos h1]
    rcases putC_or (np := np) (m := m) (T := takeT F (T0 l v)) (P := P) (nP := nP) with h2 | h2
    · unfold trdOk at h
      rw [h1, h2] at h
      cases h
    · rw [if_neg (by rw [h2]; decide), h2]
  · rw [if_neg (by rw [h1]; decide), h1]
theorem tradeC_go (ha : askT np pk m l v b = 0) (h : trdOk np m l v F P nP = true) : takeC np F (T0 l v) m = 0 ∧ putC np m (takeT F (T0 l v)) P nP = 0 ∧ tradeC np pk m l v F P nP b = if (allB m fun i => decide (trD (fun q => rl (pk q)) (fun q => rh (pk q)) b (tr2 l v F P nP) i = 0)) = true then 0 else 52 := by
  unfold trdOk at h
  simp only [Bool.and_eq_true, decide_eq_true_eq] at h
  refine ⟨h.1, h.2, ?_⟩
  unfold tradeC
  rw [if_pos ha, if_pos h.1, if_pos h.2]
end
set_option maxRecDepth 100000 in
set_option maxHeartbeats 8000000 in
theorem refTrade_any {w : World} {A AT Af AP : Option Addr} {np cp m cT cf nP cP : Nat} {pk : Nat → Nat → Int} {a : Nat → Nat → Option Addr} {l c : Nat → Nat → Nat} {v : Nat → Nat → Nat → Int} {F : List Int} {P : Nat → Nat → Int} {b : Int}
    (hL : Lay w A AT np m pk a l c v) (hF : RdR w 1 Af F.length (iL F)) (hf : F.length ≤ 1000) (hPR : RdR w 3 AP nP (fun k => putL (P k))) (hnP : nP ≤ 1000) (hP2 : ∀ k, k < nP → 0 ≤ P k 2) :
    CallsK Tryz.prog 16 #[.slice A np cp, .slice AT m cT, .slice Af F.length cf, .slice AP nP cP, .int .i64 b] [] w TRx
      (fun z => .tuple #[.slice z.1.1.1 (tradeN np pk m l v F P nP b) z.1.1.2, .slice z.2.1 (tradeM np pk m l v F P nP b).length z.2.2, .int .i64 (tradeC np pk m l v F P nP b)])
      (fun z => .own z.2.1 (tradeM np pk m l v F P nP b).length z.2.2 3 1 (iL (tradeM np pk m l v F P nP b)) :: tiesX (tradeN np pk m l v F P nP b) (tradeT pk m l v F P nP b) z.1) := by
  refine K_enter (S := []) (K := []) Tryz.func16 rfl Tryz.ntmps16 rfl (Sat.start _) ?_
  refine TW.seq fun Y1 hY1 => ?_
  refine TW.region ?_
  refine TL.p Pu.as ?_
  refine TL.p Pu.as ?_
  refine TL.p Pu.as ?_
  refine TL.nil ?_
  refine TQ.thenN (hY1 _ _ ?_)
  refine TW.seq fun Y2 hY2 => ?_
  refine TW.seq fun Y3 hY3 => ?_
  refine TW.region ?_
  refine TL.p Pu.mv ?_
  refine TL.p Pu.mv ?_
  refine TL.cr rfl (enters Tryz.func27 rfl rfl) (fun w hw => by
      exact refCheck_any (hL.ext (Chg.ext hw.chg))) ?_
  refine TL.p Pu.as ?_
  refine TL.nil ?_
  refine TQ.thenN (hY3 _ _ ?_)
  refine TW.seq fun Y4 hY4 => ?_
  refine TW.region ?_
  refine TL.p Pu.mv ?_
  refine TL.p Pu.ne ?_
  refine TL.nil ?_
  refine TQ.thenN (hY4 _ _ ?_)
  refine TW.cond rfl (fun hc0 => ?_) (fun hc0 => ?_)
  · try simp only [decide_eq_true_eq, decide_eq_false_iff_not, Bool.not_eq_true', Bool.not_eq_false', Bool.and_eq_true, Bool.or_eq_true, Bool.and_eq_false_iff, Bool.or_eq_false_iff, Int.not_lt, Int.not_le] at hc0
    have hne : checkV np pk m l v ≠ 0 := hc0
    have hC : tradeC np pk m l v F P nP b = checkV np pk m l v := by unfold tradeC askT; rw [if_neg hne, if_neg hne]
    refine TW.seq fun Y5 hY5 => ?_
    refine TW.region ?_
    refine TL.p Pu.mv ?_
    refine TL.p Pu.as ?_
    refine TL.p Pu.as ?_
    refine TL.p Pu.as ?_
    refine TL.nil ?_
    refine TQ.thenN (hY5 _ _ ?_)
    refine TW.ret ?_
    refine TQ.thenR ?_
    refine TQ.ret Tryz.results16 rfl ((.tmp rfl (.tmp rfl (.tmp rfl .nil)))) ?_
    exact fun w hw => trade_none hC (by first | exact hne | decide) hw
  · try simp only [decide_eq_true_eq, decide_eq_false_iff_not, Bool.not_eq_true', Bool.not_eq_false', Bool.and_eq_true, Bool.or_eq_true, Bool.and_eq_false_iff, Bool.or_eq_false_iff, Int.not_lt, Int.not_le] at hc0
    have hck : checkV np pk m l v = 0 := by simpa using hc0
    refine TW.skip ?_
    refine TQ.thenN (hY2 _ _ ?_)
    refine TW.seq fun Y6 hY6 => ?_
    refine TW.seq fun Y7 hY7 => ?_
    refine TW.region ?_
    refine TL.p Pu.mv ?_
    refine TL.cr rfl (enters Tryz.func55 rfl rfl) (fun w hw => by
        exact within5_any _ _ _ _) ?_
    refine TL.p Pu.no ?_
    refine TL.nil ?_
    refine TQ.thenN (hY7 _ _ ?_)
    refine TW.cond rfl (fun hc1 => ?_) (fun hc1 => ?_)
    · try simp only [decide_eq_true_eq, decide_eq_false_iff_not, Bool.not_eq_true', Bool.not_eq_false', Bool.and_eq_true, Bool.or_eq_true, Bool.and_eq_false_iff, Bool.or_eq_false_iff, Int.not_lt, Int.not_le] at hc1
      have hC : tradeC np pk m l v F P nP b = 2 := by unfold tradeC askT; rw [if_pos hck, hc1]; rfl
      refine TW.seq fun Y8 hY8 => ?_
      refine TW.region ?_
      refine TL.p Pu.as ?_
      refine TL.p Pu.as ?_
      refine TL.p Pu.as ?_
      refine TL.nil ?_
      refine TQ.thenN (hY8 _ _ ?_)
      refine TW.ret ?_
      refine TQ.thenR ?_
      refine TQ.ret Tryz.results16 rfl ((.tmp rfl (.tmp rfl (.tmp rfl .nil)))) ?_
      exact fun w hw => trade_none hC (by first | exact hne | decide) hw
    · try simp only [decide_eq_true_eq, decide_eq_false_iff_not, Bool.not_eq_true', Bool.not_eq_false', Bool.and_eq_true, Bool.or_eq_true, Bool.and_eq_false_iff, Bool.or_eq_false_iff, Int.not_lt, Int.not_le] at hc1
      have ha : askT np pk m l v b = 0 := by unfold askT; rw [if_pos hck, hc1]; rfl
      have hbb := hc1
      simp only [inB5, Bool.and_eq_true, decide_eq_true_eq] at hbb
      refine TW.skip ?_
      refine TQ.thenN (hY6 _ _ ?_)
      refine TW.seq fun Y9 hY9 => ?_
      refine TW.region ?_
      refine TL.p Pu.mv ?_
      refine TL.p (Pu.ln Tryz.underlying22) ?_
      refine TL.p Pu.mv ?_
      refine TL.p Pu.mv ?_
      refine TL.p Pu.mv ?_
      refine TL.call (M := []) rfl (enters Tryz.func56 rfl rfl) (List.Perm.refl _) rfl (fun w hw => by
          exact refTraded_any (hL.ext (Chg.ext hw.chg)) hck (hF.sat hw Apart.nil) hf (hPR.sat hw Apart.nil) hnP hP2) ?_
      rintro ⟨⟨An, cn⟩, X0, D0⟩
      rw [List.append_nil]
      refine TL.p Pu.mv ?_
      refine TL.p Pu.ex ?_
      refine TL.p Pu.ex ?_
      refine TL.p Pu.as ?_
      refine TL.p Pu.as ?_
      refine TL.nil ?_
      refine TQ.thenN (hY9 _ _ ?_)
      refine TW.seq fun Y10 hY10 => ?_
      refine TW.seq fun Y11 hY11 => ?_
      refine TW.region ?_
      refine TL.p Pu.mv ?_
      refine TL.p Pu.no ?_
      refine TL.nil ?_
      refine TQ.thenN (hY11 _ _ ?_)
      refine TW.cond rfl (fun hc2 => ?_) (fun hc2 => ?_)
      · try simp only [decide_eq_true_eq, decide_eq_false_iff_not, Bool.not_eq_true', Bool.not_eq_false', Bool.and_eq_true, Bool.or_eq_true, Bool.and_eq_false_iff, Bool.or_eq_false_iff, Int.not_lt, Int.not_le] at hc2
        have hC : tradeC np pk m l v F P nP b = 54 := tradeC_puts ha hc2
        refine TW.seq fun Y12 hY12 => ?_
        refine TW.region ?_
        refine TL.p Pu.as ?_
        refine TL.p Pu.as ?_
        refine TL.p Pu.as ?_
        refine TL.nil ?_
        refine TQ.thenN (hY12 _ _ ?_)
        refine TW.ret ?_
        refine TQ.thenR ?_
        refine TQ.ret Tryz.results16 rfl ((.tmp rfl (.tmp rfl (.tmp rfl .nil)))) ?_
        exact fun w hw => trade_none hC (by first | exact hne | decide) hw
      · try simp only [decide_eq_true_eq, decide_eq_false_iff_not, Bool.not_eq_true', Bool.not_eq_false', Bool.and_eq_true, Bool.or_eq_true, Bool.and_eq_false_iff, Bool.or_eq_false_iff, Int.not_lt, Int.not_le] at hc2
        obtain ⟨k1, k2, hcodeD⟩ := tradeC_go (b := b) ha hc2
        have hN : trdN np m l v F P nP = m := by unfold trdN; rw [hc2]; rfl
        rw [hN]
        obtain ⟨hok, hcnt⟩ := putC_ok k2
        obtain ⟨hm8, hnp30, hnd, hls⟩ := trd_check hck
        have hinx : ∀ s, s < 3 * m → InxL (tr2 l v F P nP s) np := fun s hs => putT_inx (fun s hs => (hls s hs).2.1.filter) hok nP (Nat.le_refl _) s hs
        have hTT : tradeT pk m l v F P nP b = tr3 (fun q => rl (pk q)) (fun q => rh (pk q)) b (tr2 l v F P nP) m := rfl
        have hMM : tradeC np pk m l v F P nP b = 0 → tradeM np pk m l v F P nP b = srt (movs (fun q => rl (pk q)) (fun q => rh (pk q)) b (tr2 l v F P nP) m) := fun h => if_pos h
        change ∀ i, i < m → cnt3 (tr2 l v F P nP) i ≤ 10 at hcnt
        generalize hT2 : tr2 l v F P nP = T2 at *
        have hpko := (check_ok hck).2.1
        have hml := movs_len (r0 := (fun q => rl (pk q))) (r1 := (fun q => rh (pk q))) (b := b) hcnt
        unfold tiesX
        refine TW.skip ?_
        refine TQ.thenN (hY10 _ _ ?_)
        refine TW.seq fun Y13 hY13 => ?_
        refine TW.region ?_
        refine TL.p Pu.as ?_
        refine TL.nil ?_
        refine TQ.thenN (hY13 _ _ ?_)
        refine TW.seq fun Y14 hY14 => ?_
        refine TW.seq fun Y15 hY15 => ?_
        refine TW.region ?_
        refine TL.p Pu.as ?_
        refine TL.nil ?_
        refine TQ.thenN (hY15 _ _ ?_)
        refine TW.block ?_
        refine TW.loop6 (fun (i : Nat) (X : Nat → Option Addr) (D : Nat → Nat) (Am : Option Addr) (cm : Nat) (g : Nat) => [(17, .int .i64 (i : Int)), (14, .slice An m cn), (16, .slice Am g cm), (0, .slice A np cp), (4, .int .i64 b)]) (fun i X D Am cm g => .own Am g cm 3 1 (iL (movs (fun q => rl (pk q)) (fun q => rh (pk q)) b T2 i)) :: .own An m cn 36 3 (tieX X (tr3 (fun q => rl (pk q)) (fun q => rh (pk q)) b T2 i) D) :: ownsT X (tr3 (fun q => rl (pk q)) (fun q => rh (pk q)) b T2 i) D (3 * m)) (fun i X D Am cm g => i ≤ m ∧ g = (movs (fun q => rl (pk q)) (fun q => rh (pk q)) b T2 i).length ∧ ∀ j, j < i → trD (fun q => rl (pk q)) (fun q => rh (pk q)) b T2 j = 0) (fun i X D Am cm g => m - i) 0 X0 D0 none 0 0 (by repeat (first | exact trivial | refine ⟨rfl, ?_⟩ | refine ⟨trivial, ?_⟩)) ?_ ?_ ?_
        · refine KSub.nilOwn ?_
          repeat (first | refine KSub.cons (by repeat (first | exact Pick.hd | apply Pick.tl)) ?_ | exact KSub.refl _ | refine KSub.drop ?_)
        · exact ⟨Nat.zero_le _, rfl, fun j hj => by omega⟩
        rintro i X D Am cm g ⟨hi, hg, hall⟩ Z0 hZ0
        have hmi := hml i hi
        refine TW.seq fun Y16 hY16 => ?_
        refine TW.seq fun Y17 hY17 => ?_
        refine TW.region ?_
        refine TL.p Pu.mv ?_
        refine TL.p Pu.mv ?_
        refine TL.p (Pu.ln Tryz.underlying23) ?_
        refine TL.p Pu.lt ?_
        refine TL.nil ?_
        refine TQ.thenN (hY17 _ _ ?_)
        refine TW.cond rfl (fun hc3 => ?_) (fun hc3 => ?_)
        · try simp only [decide_eq_true_eq, decide_eq_false_iff_not, Bool.not_eq_true', Bool.not_eq_false', Bool.and_eq_true, Bool.or_eq_true, Bool.and_eq_false_iff, Bool.or_eq_false_iff, Int.not_lt, Int.not_le] at hc3
          have him : i < m := by omega
          have hci := hcnt i him
          have m0 := ownsT_mem (X := X) (T := tr3 (fun q => rl (pk q)) (fun q => rh (pk q)) b T2 i) (D := D) (n := 3 * m) (show 3 * i < 3 * m by omega)
          have m1 := ownsT_mem (X := X) (T := tr3 (fun q => rl (pk q)) (fun q => rh (pk q)) b T2 i) (D := D) (n := 3 * m) (show 3 * i + 1 < 3 * m by omega)
          have m2 := ownsT_mem (X := X) (T := tr3 (fun q => rl (pk q)) (fun q => rh (pk q)) b T2 i) (D := D) (n := 3 * m) (show 3 * i + 2 < 3 * m by omega)
          have i0 := hinx (3 * i) (by omega)
          have i1 := hinx (3 * i + 1) (by omega)
          have e0 : tr3 (fun q => rl (pk q)) (fun q => rh (pk q)) b T2 i (3 * i) = T2 (3 * i) := tr3_at (by omega)
          have e1 : tr3 (fun q => rl (pk q)) (fun q => rh (pk q)) b T2 i (3 * i + 1) = T2 (3 * i + 1) := tr3_at (by omega)
          have e2 : tr3 (fun q => rl (pk q)) (fun q => rh (pk q)) b T2 i (3 * i + 2) = T2 (3 * i + 2) := tr3_at (by omega)
          have hcc : (T2 (3 * i)).length + (T2 (3 * i + 1)).length + (T2 (3 * i + 2)).length ≤ 10 := hci
          have hbl := bestE_len (r0 := (fun q => rl (pk q))) (r1 := (fun q => rh (pk q))) (b := b) (L0 := T2 (3 * i)) (L1 := T2 (3 * i + 1))
          have hml2 := hml (i + 1) (by omega)
          have hmm : (movs (fun q => rl (pk q)) (fun q => rh (pk q)) b T2 (i + 1)).length = (movs (fun q => rl (pk q)) (fun q => rh (pk q)) b T2 i).length + (bestE (fun q => rl (pk q)) (fun q => rh (pk q)) b (T2 (3 * i)) (T2 (3 * i + 1))).1.length := by simp only [movs, List.length_append, trB]
          refine TW.skip ?_
          refine TQ.thenN (hY16 _ _ ?_)
          refine TW.seq fun Y18 hY18 => ?_
          refine TW.block ?_
          refine TW.seq fun Y19 hY19 => ?_
          refine TW.region ?_
          refine TL.p Pu.mv ?_
          refine TL.p Pu.mv ?_
          refine TL.p Pu.mv ?_
          refine TL.p (Pu.el ty_et23) ?_
          refine TL.p (Pu.lds ty_ag36) ?_
          refine TL.p Pu.mv ?_
          refine TL.call (M := []) rfl (enters Tryz.func57 rfl rfl) (List.Perm.refl _) rfl (fun w hw => by
              have q0 := OwnR.rdr (hw.holds (.own (X (3 * i)) (tr3 (fun q => rl (pk q)) (fun q => rh (pk q)) b T2 i (3 * i)).length (D (3 * i)) 3 1 (iL (tr3 (fun q => rl (pk q)) (fun q => rh (pk q)) b T2 i (3 * i)))) (by simp [m0]))
              have q1 := OwnR.rdr (hw.holds (.own (X (3 * i + 1)) (tr3 (fun q => rl (pk q)) (fun q => rh (pk q)) b T2 i (3 * i + 1)).length (D (3 * i + 1)) 3 1 (iL (tr3 (fun q => rl (pk q)) (fun q => rh (pk q)) b T2 i (3 * i + 1)))) (by simp [m1]))
              have q2 := OwnR.rdr (hw.holds (.own (X (3 * i + 2)) (tr3 (fun q => rl (pk q)) (fun q => rh (pk q)) b T2 i (3 * i + 2)).length (D (3 * i + 2)) 3 1 (iL (tr3 (fun q => rl (pk q)) (fun q => rh (pk q)) b T2 i (3 * i + 2)))) (by simp [m2]))
              rw [show iL (tr3 (fun q => rl (pk q)) (fun q => rh (pk q)) b T2 i (3 * i)) = iL (T2 (3 * i)) by rw [e0]] at q0
              rw [show iL (tr3 (fun q => rl (pk q)) (fun q => rh (pk q)) b T2 i (3 * i + 1)) = iL (T2 (3 * i + 1)) by rw [e1]] at q1
              exact refSettle1_any (a := fun j => X (3 * i + j)) (l := fun j => (tr3 (fun q => rl (pk q)) (fun q => rh (pk q)) b T2 i (3 * i + j)).length) (c := fun j => D (3 * i + j)) (v2 := fun k => (tr3 (fun q => rl (pk q)) (fun q => rh (pk q)) b T2 i (3 * i + 2)).getD k 0) (L0 := T2 (3 * i)) (L1 := T2 (3 * i + 1)) (by show (tr3 (fun q => rl (pk q)) (fun q => rh (pk q)) b T2 i (3 * i)).length = _; rw [e0]) (by show (tr3 (fun q => rl (pk q)) (fun q => rh (pk q)) b T2 i (3 * i + 1)).length = _; rw [e1]) (by show (tr3 (fun q => rl (pk q)) (fun q => rh (pk q)) b T2 i (3 * i)).length + (tr3 (fun q => rl (pk q)) (fun q => rh (pk q)) b T2 i (3 * i + 1)).length ≤ 30; rw [e0, e1]; omega) (by show (tr3 (fun q => rl (pk q)) (fun q => rh (pk q)) b T2 i (3 * i + 2)).length ≤ 1000; rw [e2]; omega) hpko (by omega) i0 i1 (hL.hR.sat hw Apart.nil) q0 q1 q2) ?_
          rintro ⟨As, cs⟩
          refine TL.p Pu.mv ?_
          refine TL.p Pu.ex ?_
          refine TL.p Pu.ex ?_
          refine TL.p Pu.as ?_
          refine TL.p Pu.as ?_
          refine TL.nil ?_
          refine TQ.thenN (hY19 _ _ ?_)
          refine TW.seq fun Y20 hY20 => ?_
          refine TW.seq fun Y21 hY21 => ?_
          refine TW.region ?_
          refine TL.p Pu.mv ?_
          refine TL.p Pu.no ?_
          refine TL.nil ?_
          refine TQ.thenN (hY21 _ _ ?_)
          refine TW.cond rfl (fun hc4 => ?_) (fun hc4 => ?_)
          · try simp only [decide_eq_true_eq, decide_eq_false_iff_not, Bool.not_eq_true', Bool.not_eq_false', Bool.and_eq_true, Bool.or_eq_true, Bool.and_eq_false_iff, Bool.or_eq_false_iff, Int.not_lt, Int.not_le] at hc4
            have hC : tradeC np pk m l v F P nP b = 52 := by
              rw [hcodeD]
              have : (allB m fun i => decide (trD (fun q => rl (pk q)) (fun q => rh (pk q)) b T2 i = 0)) = false := by
                cases h : (allB m fun i => decide (trD (fun q => rl (pk q)) (fun q => rh (pk q)) b T2 i = 0)) with
                | false => rfl
                | true => exact absurd (of_decide_eq_true (allB_iff.1 h i him)) hc4
              rw [this]
              rfl
            refine TW.seq fun Y22 hY22 => ?_
            refine TW.region ?_
            refine TL.p Pu.as ?_
            refine TL.p Pu.as ?_
            refine TL.p Pu.as ?_
            refine TL.nil ?_
            refine TQ.thenN (hY22 _ _ ?_)
            refine TW.ret ?_
            refine TQ.thenR ?_
            refine TQ.blkR ?_
            refine TQ.thenR ?_
            refine TQ.thenR ?_
            refine TQ.blkR ?_
            refine TQ.thenR ?_
            refine TQ.ret Tryz.results16 rfl ((.tmp rfl (.tmp rfl (.tmp rfl .nil)))) ?_
            exact fun w hw => trade_none hC (by first | exact hne | decide) hw
          · try simp only [decide_eq_true_eq, decide_eq_false_iff_not, Bool.not_eq_true', Bool.not_eq_false', Bool.and_eq_true, Bool.or_eq_true, Bool.and_eq_false_iff, Bool.or_eq_false_iff, Int.not_lt, Int.not_le] at hc4
            have hD : trD (fun q => rl (pk q)) (fun q => rh (pk q)) b T2 i = 0 := hc4
            refine TW.skip ?_
            refine TQ.thenN (hY20 _ _ ?_)
            refine TW.seq fun Y23 hY23 => ?_
            refine TW.region ?_
            refine TL.p Pu.mv ?_
            refine TL.p Pu.mv ?_
            first | refine TL.a0 ty_et24 ?_ | refine TL.ap ty_et24 ?_
            intro A1 c1
            refine TL.p Pu.as ?_
            refine TL.nil ?_
            refine TQ.thenN (hY23 _ _ ?_)
            refine TW.region ?_
            refine TL.p Pu.mv ?_
            refine TL.p Pu.mv ?_
            refine TL.p Pu.mv ?_
            refine TL.p Pu.mv ?_
            refine TL.p (Pu.el ty_et23) ?_
            refine TL.p (Pu.lds ty_ag36) ?_
            refine TL.p Pu.mv ?_
            refine TL.call (M := []) rfl (enters Tryz.func29 rfl rfl) (List.Perm.refl _) rfl (fun w hw => by
                have q0 := OwnR.rdr (hw.holds (.own (X (3 * i)) (tr3 (fun q => rl (pk q)) (fun q => rh (pk q)) b T2 i (3 * i)).length (D (3 * i)) 3 1 (iL (tr3 (fun q => rl (pk q)) (fun q => rh (pk q)) b T2 i (3 * i)))) (by simp [m0]))
                have q1 := OwnR.rdr (hw.holds (.own (X (3 * i + 1)) (tr3 (fun q => rl (pk q)) (fun q => rh (pk q)) b T2 i (3 * i + 1)).length (D (3 * i + 1)) 3 1 (iL (tr3 (fun q => rl (pk q)) (fun q => rh (pk q)) b T2 i (3 * i + 1)))) (by simp [m1]))
                have q2 := OwnR.rdr (hw.holds (.own (X (3 * i + 2)) (tr3 (fun q => rl (pk q)) (fun q => rh (pk q)) b T2 i (3 * i + 2)).length (D (3 * i + 2)) 3 1 (iL (tr3 (fun q => rl (pk q)) (fun q => rh (pk q)) b T2 i (3 * i + 2)))) (by simp [m2]))
                rw [show iL (tr3 (fun q => rl (pk q)) (fun q => rh (pk q)) b T2 i (3 * i)) = iL (T2 (3 * i)) by rw [e0]] at q0
                rw [show iL (tr3 (fun q => rl (pk q)) (fun q => rh (pk q)) b T2 i (3 * i + 1)) = iL (T2 (3 * i + 1)) by rw [e1]] at q1
                exact refMoved_any (a := fun j => X (3 * i + j)) (l := fun j => (tr3 (fun q => rl (pk q)) (fun q => rh (pk q)) b T2 i (3 * i + j)).length) (c := fun j => D (3 * i + j)) (v2 := fun k => (tr3 (fun q => rl (pk q)) (fun q => rh (pk q)) b T2 i (3 * i + 2)).getD k 0) (n2 := (tr3 (fun q => rl (pk q)) (fun q => rh (pk q)) b T2 i (3 * i + 2)).length) (L0 := T2 (3 * i)) (L1 := T2 (3 * i + 1)) (M := (bestE (fun q => rl (pk q)) (fun q => rh (pk q)) b (T2 (3 * i)) (T2 (3 * i + 1))).1) (by show (tr3 (fun q => rl (pk q)) (fun q => rh (pk q)) b T2 i (3 * i)).length = _; rw [e0]) (by show (tr3 (fun q => rl (pk q)) (fun q => rh (pk q)) b T2 i (3 * i + 1)).length = _; rw [e1]) rfl rfl (by show (tr3 (fun q => rl (pk q)) (fun q => rh (pk q)) b T2 i (3 * i)).length ≤ 1000; rw [e0]; omega) (by show (tr3 (fun q => rl (pk q)) (fun q => rh (pk q)) b T2 i (3 * i + 1)).length ≤ 1000; rw [e1]; omega) (by show (tr3 (fun q => rl (pk q)) (fun q => rh (pk q)) b T2 i (3 * i + 2)).length ≤ 1000; rw [e2]; omega) (by omega) q0 q1 q2 (OwnR.rdr (hw.holds (.own As (bestE (fun q => rl (pk q)) (fun q => rh (pk q)) b (T2 (3 * i)) (T2 (3 * i + 1))).1.length cs 3 1 (iL (bestE (fun q => rl (pk q)) (fun q => rh (pk q)) b (T2 (3 * i)) (T2 (3 * i + 1))).1)) (by simp)))) ?_
            rintro ⟨⟨B1, d1⟩, ⟨B2, d2⟩, ⟨B3, d3⟩⟩
            simp only [mv3T, mv3K, List.cons_append, List.nil_append]
            refine TL.p (Pu.el ty_et23) ?_
            first | refine TL.st ty_sz36 ?_ | refine TL.se ty_sz36 ?_
            refine TL.nil ?_
            refine TQ.blkN ?_
            refine TQ.thenN (hY18 _ _ ?_)
            refine TW.region ?_
            have s0 : 3 * i < 3 * m := by omega
            have s1 : 3 * i + 1 < 3 * m := by omega
            have s2 : 3 * i + 2 < 3 * m := by omega
            obtain ⟨Ms, hMs⟩ : ∃ y, y = (bestE (fun q => rl (pk q)) (fun q => rh (pk q)) b (T2 (3 * i)) (T2 (3 * i + 1))).1 := ⟨_, rfl⟩
            simp only [← hMs]
            obtain ⟨Q1, hQ1⟩ : ∃ y, y = mvd (T2 (3 * i)) (T2 (3 * i + 1)) Ms := ⟨_, rfl⟩
            obtain ⟨Q2, hQ2⟩ : ∃ y, y = mvd (T2 (3 * i + 1)) (T2 (3 * i)) Ms := ⟨_, rfl⟩
            obtain ⟨Q3, hQ3⟩ : ∃ y, y = tr3 (fun q => rl (pk q)) (fun q => rh (pk q)) b T2 i (3 * i + 2) := ⟨_, rfl⟩
            simp only [← hQ1, ← hQ2]
            have hset1 := ownsT_set (X := X) (T := tr3 (fun q => rl (pk q)) (fun q => rh (pk q)) b T2 i) (D := D) (A := B1) (c2 := d1) (L := Q1) (r := iL Q1) s0 rfl (fun _ _ => rfl)
            have hset2 := ownsT_set (X := updN X (3 * i) B1) (T := updN (tr3 (fun q => rl (pk q)) (fun q => rh (pk q)) b T2 i) (3 * i) Q1) (D := updN D (3 * i) d1) (A := B2) (c2 := d2) (L := Q2) (r := iL Q2) s1 rfl (fun _ _ => rfl)
            have hset3 := ownsT_set (X := updN (updN X (3 * i) B1) (3 * i + 1) B2) (T := updN (updN (tr3 (fun q => rl (pk q)) (fun q => rh (pk q)) b T2 i) (3 * i) Q1) (3 * i + 1) Q2) (D := updN (updN D (3 * i) d1) (3 * i + 1) d2) (A := B3) (c2 := d3) (L := Q3) (r := iL Q3) s2 rfl (fun _ _ => rfl)
            refine TL.subK (K' := .own An m cn 36 3 (updR (tieX X (tr3 (fun q => rl (pk q)) (fun q => rh (pk q)) b T2 i) D) i [.slice B1 Q1.length d1, .slice B2 Q2.length d2, .slice B3 (tr3 (fun q => rl (pk q)) (fun q => rh (pk q)) b T2 i (3 * i + 2)).length d3]) :: .own A1 (g + Ms.length) c1 3 1 (catR g (iL (movs (fun q => rl (pk q)) (fun q => rh (pk q)) b T2 i)) (iL Ms)) :: .own B3 (tr3 (fun q => rl (pk q)) (fun q => rh (pk q)) b T2 i (3 * i + 2)).length d3 3 1 (fun k => [.int .i64 ((tr3 (fun q => rl (pk q)) (fun q => rh (pk q)) b T2 i (3 * i + 2)).getD k 0)]) :: .own B2 Q2.length d2 3 1 (iL Q2) :: .own B1 Q1.length d1 3 1 (iL Q1) :: ownsT X (tr3 (fun q => rl (pk q)) (fun q => rh (pk q)) b T2 i) D (3 * m)) (by repeat (first | refine KSub.cons (by repeat (first | exact Pick.hd | apply Pick.tl)) ?_ | exact KSub.refl _ | refine KSub.drop ?_)) ?_
            rw [← hQ3]
            refine TL.subK (KSub.cons Pick.hd (KSub.cons Pick.hd (KSub.cons Pick.hd (KSub.cons Pick.hd hset1)))) ?_
            refine TL.subK (KSub.cons Pick.hd (KSub.cons Pick.hd (KSub.cons Pick.hd hset2))) ?_
            refine TL.subK (KSub.cons Pick.hd (KSub.cons Pick.hd hset3)) ?_
            refine TL.p Pu.mv ?_
            refine TL.p Pu.ad ?_
            refine TL.p Pu.as ?_
            refine TL.nil ?_
            refine TQ.thenN (hZ0 (i + 1) (updN (updN (updN X (3 * i) B1) (3 * i + 1) B2) (3 * i + 2) B3) (updN (updN (updN D (3 * i) d1) (3 * i + 1) d2) (3 * i + 2) d3) _ _ _ _ _ ?_ ?_ (by repeat (first | exact trivial | refine ⟨rfl, ?_⟩ | refine ⟨trivial, ?_⟩)) ?_)
            · refine ⟨by omega, by rw [hmm, ← hg, hMs], fun j hj => ?_⟩
              by_cases h : j = i
              · subst h; exact hD
              · exact hall j (by omega)
            · exact (by first | omega | (simp only []; omega) | (simp; omega))
            · have e3 : tr3 (fun q => rl (pk q)) (fun q => rh (pk q)) b T2 (i + 1) = updN (updN (updN (tr3 (fun q => rl (pk q)) (fun q => rh (pk q)) b T2 i) (3 * i) Q1) (3 * i + 1) Q2) (3 * i + 2) Q3 := by
                rw [updN_same (s := 3 * i + 2) (by rw [hQ3]; unfold updN; rw [if_neg (by omega), if_neg (by omega)]), hQ1, hQ2, hMs]
                rfl
              have e4 : movs (fun q => rl (pk q)) (fun q => rh (pk q)) b T2 (i + 1) = movs (fun q => rl (pk q)) (fun q => rh (pk q)) b T2 i ++ Ms := by rw [hMs]; rfl
              rw [e3, e4]
              exact KSub.own (by repeat (first | exact Pick.hd | apply Pick.tl)) (fun q _ => iL_cat hg q) (KSub.own (by repeat (first | exact Pick.hd | apply Pick.tl)) (fun q _ => tie_set3 q) (KSub.refl _))
        · try simp only [decide_eq_true_eq, decide_eq_false_iff_not, Bool.not_eq_true', Bool.not_eq_false', Bool.and_eq_true, Bool.or_eq_true, Bool.and_eq_false_iff, Bool.or_eq_false_iff, Int.not_lt, Int.not_le] at hc3
          obtain rfl : m = i := by omega
          refine TW.exit ?_
          refine TQ.thenX ?_
          refine TQ.thenX ?_
          refine TQ.blkX ?_
          refine TQ.thenN (hY14 _ _ ?_)
          refine TW.seq fun Y24 hY24 => ?_
          refine TW.region ?_
          refine TL.p Pu.mv ?_
          refine TL.p Pu.mv ?_
          refine TL.call rfl (enters Tryz.func58 rfl rfl) (M := [.own Am g cm 3 1 (iL (movs (fun q => rl (pk q)) (fun q => rh (pk q)) b T2 m))]) (List.Perm.refl _) rfl (fun w hw => by
              exact refSorted_any hg (by omega) (hw.holds (.own Am g cm 3 1 (iL (movs (fun q => rl (pk q)) (fun q => rh (pk q)) b T2 m))) (List.mem_cons_self ..))) ?_
          intro _
          refine TL.p Pu.as ?_
          refine TL.p Pu.as ?_
          refine TL.p Pu.as ?_
          refine TL.nil ?_
          refine TQ.thenN (hY24 _ _ ?_)
          refine TW.ret ?_
          refine TQ.ret Tryz.results16 rfl ((.tmp rfl (.tmp rfl (.tmp rfl .nil)))) ?_
          have hc0' : tradeC np pk m l v F P nP b = 0 := by
            rw [hcodeD, if_pos (allB_iff.2 fun j hj => decide_eq_true (hall j hj))]
          have hMe := hMM hc0'
          have hNe : tradeN np pk m l v F P nP b = m := if_pos hc0'
          have hgl : g = (srt (movs (fun q => rl (pk q)) (fun q => rh (pk q)) b T2 m)).length := by rw [srt_len]; exact hg
          exact fun w hw => ⟨(((An, cn), X, D), (Am, cm)), by rw [hMe, hNe, hc0', ← hgl]; rfl, by
            rw [hMe, hNe, hTT, ← hgl]
            unfold tiesX
            exact hw.sub (by repeat (first | refine KSub.cons (by repeat (first | exact Pick.hd | apply Pick.tl)) ?_ | exact KSub.refl _ | refine KSub.drop ?_))⟩
end Go.Proofs.YtjephihlkjpohaaGreatDoor
namespace Go.Proofs.YtjephihlkjpohaaGreatDoor
set_option linter.all false
set_option linter.unusedVariables false
set_option linter.unusedSimpArgs false
open Go.RowKit
def innerK (b : Nat → Nat → Option Addr) (l d : Nat → Nat → Nat) (v : Nat → Nat → Nat → Int) : Nat → List Fact
  | 0 => []
  | q + 1 => .own (b q 0) (l q 0) (d q 0) 3 1 (fun k => [.int .i64 (v q 0 k)]) :: .own (b q 1) (l q 1) (d q 1) 3 1 (fun k => [.int .i64 (v q 1 k)]) :: .own (b q 2) (l q 2) (d q 2) 3 1 (fun k => [.int .i64 (v q 2 k)]) :: innerK b l d v q
theorem innerK_congr {b b' : Nat → Nat → Option Addr} {l d d' : Nat → Nat → Nat} {v : Nat → Nat → Nat → Int} : ∀ q, (∀ i, i < q → b i = b' i ∧ d i = d' i) → innerK b l d v q = innerK b' l d' v q
  | 0, _ => rfl
  | q + 1, h => by
    obtain ⟨h1, h2⟩ := h q (by omega)
    simp only [innerK, h1, h2, innerK_congr q fun i hi => h i (by omega)]
def upd3 {α : Type} (f : Nat → Nat → α) (q : Nat) (x y z : α) : Nat → Nat → α := fun i j => if i = q then (if j = 0 then x else if j = 1 then y else z) else f i j
set_option maxRecDepth 100000 in
set_option maxHeartbeats 8000000 in
theorem twin_any {AT : Option Addr} {m cpT : Nat} {a : Nat → Nat → Option Addr} {l c : Nat → Nat → Nat} {v : Nat → Nat → Nat → Int} {w : World} (hm : m ≤ 1000) (hl : ∀ i, i < m → tot (l i) 3 ≤ 1000)
    (hT : RdR w 3 AT m (fun i => tieL (a i) (l i) (c i))) (hI : ∀ i, i < m → ∀ j, j < 3 → RdR w 1 (a i j) (l i j) (fun k => [.int .i64 (v i j k)])) :
    CallsK Tryz.prog 14 #[.slice AT m cpT] [] w ((Option Addr × Nat) × (Nat → Nat → Option Addr) × (Nat → Nat → Nat)) (fun x => .slice x.1.1 m x.1.2) (fun x => .own x.1.1 m x.1.2 36 3 (fun i => tieL (x.2.1 i) (l i) (x.2.2 i)) :: innerK x.2.1 l x.2.2 v m) := by
  refine K_enter (S := []) (K := []) Tryz.func14 rfl Tryz.ntmps14 rfl (Sat.start _) ?_
  refine TW.seq fun Y1 hY1 => ?_
  refine TW.region ?_
  refine TL.p Pu.as ?_
  refine TL.nil ?_
  refine TQ.thenN (hY1 _ _ ?_)
  refine TW.seq fun Y2 hY2 => ?_
  refine TW.region ?_
  refine TL.p Pu.as ?_
  refine TL.nil ?_
  refine TQ.thenN (hY2 _ _ ?_)
  refine TW.seq fun Y3 hY3 => ?_
  refine TW.seq fun Y4 hY4 => ?_
  refine TW.region ?_
  refine TL.p Pu.as ?_
  refine TL.nil ?_
  refine TQ.thenN (hY4 _ _ ?_)
  refine TW.block ?_
  refine TW.loop5 (fun (q : Nat) (Ao : Option Addr) (co : Nat) (b : Nat → Nat → Option Addr) (d : Nat → Nat → Nat) => [(4, .int .i64 (q : Int)), (3, .slice Ao q co), (0, .slice AT m cpT)]) (fun q Ao co b d => .own Ao q co 36 3 (fun i => tieL (b i) (l i) (d i)) :: innerK b l d v q) (fun q Ao co b d => q ≤ m) (fun q Ao co b d => m - q) 0 none 0 (fun _ _ => none) (fun _ _ => 0) (by repeat (first | exact trivial | refine ⟨rfl, ?_⟩ | refine ⟨trivial, ?_⟩)) ?_ ?_ ?_
  · exact KSub.nilOwn KSub.nil
  · exact Nat.zero_le _
  rintro q Ao co b d hq Z0 hZ0
  refine TW.seq fun Y5 hY5 => ?_
  refine TW.seq fun Y6 hY6 => ?_
  refine TW.region ?_
  refine TL.p Pu.mv ?_
  refine TL.p Pu.mv ?_
  refine TL.p (Pu.ln Tryz.underlying23) ?_
  refine TL.p Pu.lt ?_
  refine TL.nil ?_
  refine TQ.thenN (hY6 _ _ ?_)
  refine TW.cond rfl (fun hc0 => ?_) (fun hc0 => ?_)
  · try simp only [decide_eq_true_eq, decide_eq_false_iff_not, Bool.not_eq_true', Bool.not_eq_false', Bool.and_eq_true, Bool.or_eq_true, Bool.and_eq_false_iff, Bool.or_eq_false_iff, Int.not_lt, Int.not_le] at hc0
    have hqm : q < m := by omega
    have hlq := hl q hqm
    rw [tot3] at hlq
    have hI0 := hI q hqm 0 (by omega)
    have hI1 := hI q hqm 1 (by omega)
    have hI2 := hI q hqm 2 (by omega)
    refine TW.skip ?_
    refine TQ.thenN (hY5 _ _ ?_)
    refine TW.seq fun Y7 hY7 => ?_
    refine TW.block ?_
    refine TW.exn (fun (⟨A24, c24, A7, c7, A14, c14, A21, c21⟩ : Option Addr × Nat × Option Addr × Nat × Option Addr × Nat × Option Addr × Nat) => ([(3, .slice A24 (q + 1) c24), (4, .int .i64 (q : Int)), (0, .slice AT m cpT)] : Fr)) (fun (⟨A24, c24, A7, c7, A14, c14, A21, c21⟩ : Option Addr × Nat × Option Addr × Nat × Option Addr × Nat × Option Addr × Nat) => .own A24 (q + 1) c24 36 3 (catR q (fun i => tieL (b i) (l i) (d i)) (fun _ => [.slice A7 (l q 0) c7, .slice A14 (l q 1) c14, .slice A21 (l q 2) c21])) :: .own A7 (l q 0) c7 3 1 (fun k => [.int .i64 (v q 0 k)]) :: .own A14 (l q 1) c14 3 1 (fun k => [.int .i64 (v q 1 k)]) :: .own A21 (l q 2) c21 3 1 (fun k => [.int .i64 (v q 2 k)]) :: innerK b l d v q) ?_ (fun hE => ?_)
    · rintro ⟨A24, c24, A7, c7, A14, c14, A21, c21⟩
      refine TQ.blkN ?_
      refine TQ.thenN (hY7 _ _ ?_)
      refine TW.region ?_
      refine TL.p Pu.mv ?_
      refine TL.p Pu.ad ?_
      refine TL.p Pu.as ?_
      refine TL.nil ?_
      refine TQ.thenN (hZ0 (q + 1) A24 c24 (upd3 b q A7 A14 A21) (upd3 d q c7 c14 c21) _ _ ?_ ?_ (by repeat (first | exact trivial | refine ⟨rfl, ?_⟩ | refine ⟨trivial, ?_⟩)) ?_)
      · exact (by omega)
      · exact (by first | omega | (simp only []; omega) | (simp; omega))
      · have e : innerK (upd3 b q A7 A14 A21) l (upd3 d q c7 c14 c21) v q = innerK b l d v q := innerK_congr q fun i hi => ⟨by funext j; simp [upd3, show ¬ i = q by omega], by funext j; simp [upd3, show ¬ i = q by omega]⟩
        simp only [innerK, e]
        refine KSub.own Pick.hd (fun i hi => ?_) (KSub.cons (by simp only [upd3]; exact Pick.hd) (KSub.cons (by simp only [upd3]; exact Pick.hd) (KSub.cons (by simp only [upd3]; exact Pick.hd) (KSub.refl _))))
        simp only [catR]
        by_cases h : i < q
        · rw [if_pos h]; simp [tieL, upd3, show ¬ i = q by omega]
        · obtain rfl : i = q := by omega
          rw [if_neg h]; simp [tieL, upd3]
    refine RG.tk 0 rfl Pu.mv ?_
    refine RG.tk 2 rfl Pu.mv ?_
    refine RG.tk 3 rfl Pu.mv ?_
    refine RG.tk 4 rfl (Pu.el ty_et23) ?_
    refine RG.tk 5 rfl (by first | exact Pu.fb ty_fa36_0 | exact Pu.fe ty_fa36_0) ?_
    refine RG.tk 6 rfl (Pu.ld ty_sc24) ?_
    refine RG.tk 9 rfl Pu.mv ?_
    refine RG.tk 10 rfl Pu.mv ?_
    refine RG.tk 11 rfl (Pu.el ty_et23) ?_
    refine RG.tk 12 rfl (by first | exact Pu.fb ty_fa36_1 | exact Pu.fe ty_fa36_1) ?_
    refine RG.tk 13 rfl (Pu.ld ty_sc24) ?_
    refine RG.tk 16 rfl Pu.mv ?_
    refine RG.tk 17 rfl Pu.mv ?_
    refine RG.tk 18 rfl (Pu.el ty_et23) ?_
    refine RG.tk 19 rfl (by first | exact Pu.fb ty_fa36_2 | exact Pu.fe ty_fa36_2) ?_
    refine RG.tk 20 rfl (Pu.ld ty_sc24) ?_
    refine RG.a3 1 8 15 rfl rfl rfl (fun X1 hX1 => ?_) (fun X8 hX8 => ?_) (fun X15 hX15 => ?_)
    · refine TL.m Mk.bl ?_
      intro x1
      refine TL.nil ?_
      refine TQ.nxt (hX1 _ _ (by repeat (first | exact HasL.nil | refine HasL.cons (by repeat (first | exact Pick.hd | apply Pick.tl)) ?_)) ?_)
      refine RG.a3 7 8 15 rfl rfl rfl (fun X7 hX7 => ?_) (fun X8 hX8 => ?_) (fun X15 hX15 => ?_)
      · refine TL.ob (b := x1) (sz := 1) (r := fun _ => []) (by repeat (first | exact Pick.hd | apply Pick.tl)) rfl ?_
        first | refine TL.a0 ty_et24 ?_ | refine TL.ap ty_et24 ?_
        intro A7 c7
        refine TL.nil ?_
        refine TQ.nxt (hX7 _ _ (by repeat (first | exact HasL.nil | refine HasL.cons (by repeat (first | exact Pick.hd | apply Pick.tl)) ?_)) ?_)
        refine RG.a2 8 15 rfl rfl (fun X8 hX8 => ?_) (fun X15 hX15 => ?_)
        · refine TL.m Mk.bl ?_
          intro x8
          refine TL.nil ?_
          refine TQ.nxt (hX8 _ _ (by repeat (first | exact HasL.nil | refine HasL.cons (by repeat (first | exact Pick.hd | apply Pick.tl)) ?_)) ?_)
          refine RG.a2 14 15 rfl rfl (fun X14 hX14 => ?_) (fun X15 hX15 => ?_)
          · refine TL.ob (b := x8) (sz := 1) (r := fun _ => []) (by repeat (first | exact Pick.hd | apply Pick.tl)) rfl ?_
            first | refine TL.a0 ty_et24 ?_ | refine TL.ap ty_et24 ?_
            intro A14 c14
            refine TL.nil ?_
            refine TQ.nxt (hX14 _ _ (by repeat (first | exact HasL.nil | refine HasL.cons (by repeat (first | exact Pick.hd | apply Pick.tl)) ?_)) ?_)
            refine RG.a1 15 rfl (fun X15 hX15 => ?_)
            refine TL.m Mk.bl ?_
            intro x15
            refine TL.nil ?_
            refine TQ.nxt (hX15 _ _ (by repeat (first | exact HasL.nil | refine HasL.cons (by repeat (first | exact Pick.hd | apply Pick.tl)) ?_)) ?_)
            refine RG.a1 21 rfl (fun X21 hX21 => ?_)
            refine TL.ob (b := x15) (sz := 1) (r := fun _ => []) (by repeat (first | exact Pick.hd | apply Pick.tl)) rfl ?_
            first | refine TL.a0 ty_et24 ?_ | refine TL.ap ty_et24 ?_
            intro A21 c21
            refine TL.nil ?_
            refine TQ.nxt (hX21 _ _ (by repeat (first | exact HasL.nil | refine HasL.cons (by repeat (first | exact Pick.hd | apply Pick.tl)) ?_)) ?_)
            refine RG.tk 22 rfl Pu.bd ?_
            refine RG.a1 23 rfl (fun X23 hX23 => ?_)
            refine TL.m Mk.bl ?_
            intro x23
            refine TL.nil ?_
            refine TQ.nxt (hX23 _ _ (by repeat (first | exact HasL.nil | refine HasL.cons (by repeat (first | exact Pick.hd | apply Pick.tl)) ?_)) ?_)
            refine RG.a1 24 rfl (fun X24 hX24 => ?_)
            first | refine TL.a0 ty_et23 ?_ | refine TL.ap ty_et23 ?_
            intro A24 c24
            refine TL.nil ?_
            refine TQ.nxt (hX24 _ _ (by repeat (first | exact HasL.nil | refine HasL.cons (by repeat (first | exact Pick.hd | apply Pick.tl)) ?_)) ?_)
            refine RG.tk 25 rfl Pu.as ?_
            exact RG.nil (TQ.sub (by repeat (first | exact trivial | refine ⟨rfl, ?_⟩ | refine ⟨trivial, ?_⟩)) (by repeat (first | exact KSub.nil | refine KSub.cons (by repeat (first | exact Pick.hd | apply Pick.tl)) ?_ | exact KSub.refl _ | refine KSub.drop ?_)) (hE ⟨A24, c24, A7, c7, A14, c14, A21, c21⟩)) (by kernel_rfl)
          · refine TL.m Mk.bl ?_
            intro x15
            refine TL.nil ?_
            refine TQ.nxt (hX15 _ _ (by repeat (first | exact HasL.nil | refine HasL.cons (by repeat (first | exact Pick.hd | apply Pick.tl)) ?_)) ?_)
            refine RG.a1 14 rfl (fun X14 hX14 => ?_)
            refine TL.ob (b := x8) (sz := 1) (r := fun _ => []) (by repeat (first | exact Pick.hd | apply Pick.tl)) rfl ?_
            first | refine TL.a0 ty_et24 ?_ | refine TL.ap ty_et24 ?_
            intro A14 c14
            refine TL.nil ?_
            refine TQ.nxt (hX14 _ _ (by repeat (first | exact HasL.nil | refine HasL.cons (by repeat (first | exact Pick.hd | apply Pick.tl)) ?_)) ?_)
            refine RG.a1 21 rfl (fun X21 hX21 => ?_)
            refine TL.ob (b := x15) (sz := 1) (r := fun _ => []) (by repeat (first | exact Pick.hd | apply Pick.tl)) rfl ?_
            first | refine TL.a0 ty_et24 ?_ | refine TL.ap ty_et24 ?_
            intro A21 c21
            refine TL.nil ?_
            refine TQ.nxt (hX21 _ _ (by repeat (first | exact HasL.nil | refine HasL.cons (by repeat (first | exact Pick.hd | apply Pick.tl)) ?_)) ?_)
            refine RG.tk 22 rfl Pu.bd ?_
            refine RG.a1 23 rfl (fun X23 hX23 => ?_)
            refine TL.m Mk.bl ?_
            intro x23
            refine TL.nil ?_
            refine TQ.nxt (hX23 _ _ (by repeat (first | exact HasL.nil | refine HasL.cons (by repeat (first | exact Pick.hd | apply Pick.tl)) ?_)) ?_)
            refine RG.a1 24 rfl (fun X24 hX24 => ?_)
            first | refine TL.a0 ty_et23 ?_ | refine TL.ap ty_et23 ?_
            intro A24 c24
            refine TL.nil ?_
            refine TQ.nxt (hX24 _ _ (by repeat (first | exact HasL.nil | refine HasL.cons (by repeat (first | exact Pick.hd | apply Pick.tl)) ?_)) ?_)
            refine RG.tk 25 rfl Pu.as ?_
            exact RG.nil (TQ.sub (by repeat (first | exact trivial | refine ⟨rfl, ?_⟩ | refine ⟨trivial, ?_⟩)) (by repeat (first | exact KSub.nil | refine KSub.cons (by repeat (first | exact Pick.hd | apply Pick.tl)) ?_ | exact KSub.refl _ | refine KSub.drop ?_)) (hE ⟨A24, c24, A7, c7, A14, c14, A21, c21⟩)) (by kernel_rfl)
        · refine TL.m Mk.bl ?_
          intro x15
          refine TL.nil ?_
          refine TQ.nxt (hX15 _ _ (by repeat (first | exact HasL.nil | refine HasL.cons (by repeat (first | exact Pick.hd | apply Pick.tl)) ?_)) ?_)
          refine RG.a1 8 rfl (fun X8 hX8 => ?_)
          refine TL.m Mk.bl ?_
          intro x8
          refine TL.nil ?_
          refine TQ.nxt (hX8 _ _ (by repeat (first | exact HasL.nil | refine HasL.cons (by repeat (first | exact Pick.hd | apply Pick.tl)) ?_)) ?_)
          refine RG.a1 14 rfl (fun X14 hX14 => ?_)
          refine TL.ob (b := x8) (sz := 1) (r := fun _ => []) (by repeat (first | exact Pick.hd | apply Pick.tl)) rfl ?_
          first | refine TL.a0 ty_et24 ?_ | refine TL.ap ty_et24 ?_
          intro A14 c14
          refine TL.nil ?_
          refine TQ.nxt (hX14 _ _ (by repeat (first | exact HasL.nil | refine HasL.cons (by repeat (first | exact Pick.hd | apply Pick.tl)) ?_)) ?_)
          refine RG.a1 21 rfl (fun X21 hX21 => ?_)
          refine TL.ob (b := x15) (sz := 1) (r := fun _ => []) (by repeat (first | exact Pick.hd | apply Pick.tl)) rfl ?_
          first | refine TL.a0 ty_et24 ?_ | refine TL.ap ty_et24 ?_
          intro A21 c21
          refine TL.nil ?_
          refine TQ.nxt (hX21 _ _ (by repeat (first | exact HasL.nil | refine HasL.cons (by repeat (first | exact Pick.hd | apply Pick.tl)) ?_)) ?_)
          refine RG.tk 22 rfl Pu.bd ?_
          refine RG.a1 23 rfl (fun X23 hX23 => ?_)
          refine TL.m Mk.bl ?_
          intro x23
          refine TL.nil ?_
          refine TQ.nxt (hX23 _ _ (by repeat (first | exact HasL.nil | refine HasL.cons (by repeat (first | exact Pick.hd | apply Pick.tl)) ?_)) ?_)
          refine RG.a1 24 rfl (fun X24 hX24 => ?_)
          first | refine TL.a0 ty_et23 ?_ | refine TL.ap ty_et23 ?_
          intro A24 c24
          refine TL.nil ?_
          refine TQ.nxt (hX24 _ _ (by repeat (first | exact HasL.nil | refine HasL.cons (by repeat (first | exact Pick.hd | apply Pick.tl)) ?_)) ?_)
          refine RG.tk 25 rfl Pu.as ?_
          exact RG.nil (TQ.sub (by repeat (first | exact trivial | refine ⟨rfl, ?_⟩ | refine ⟨trivial, ?_⟩)) (by repeat (first | exact KSub.nil | refine KSub.cons (by repeat (first | exact Pick.hd | apply Pick.tl)) ?_ | exact KSub.refl _ | refine KSub.drop ?_)) (hE ⟨A24, c24, A7, c7, A14, c14, A21, c21⟩)) (by kernel_rfl)
      · refine TL.m Mk.bl ?_
        intro x8
        refine TL.nil ?_
        refine TQ.nxt (hX8 _ _ (by repeat (first | exact HasL.nil | refine HasL.cons (by repeat (first | exact Pick.hd | apply Pick.tl)) ?_)) ?_)
        refine RG.a2 7 15 rfl rfl (fun X7 hX7 => ?_) (fun X15 hX15 => ?_)
        · refine TL.ob (b := x1) (sz := 1) (r := fun _ => []) (by repeat (first | exact Pick.hd | apply Pick.tl)) rfl ?_
          first | refine TL.a0 ty_et24 ?_ | refine TL.ap ty_et24 ?_
          intro A7 c7
          refine TL.nil ?_
          refine TQ.nxt (hX7 _ _ (by repeat (first | exact HasL.nil | refine HasL.cons (by repeat (first | exact Pick.hd | apply Pick.tl)) ?_)) ?_)
          refine RG.a2 14 15 rfl rfl (fun X14 hX14 => ?_) (fun X15 hX15 => ?_)
          · refine TL.ob (b := x8) (sz := 1) (r := fun _ => []) (by repeat (first | exact Pick.hd | apply Pick.tl)) rfl ?_
            first | refine TL.a0 ty_et24 ?_ | refine TL.ap ty_et24 ?_
            intro A14 c14
            refine TL.nil ?_
            refine TQ.nxt (hX14 _ _ (by repeat (first | exact HasL.nil | refine HasL.cons (by repeat (first | exact Pick.hd | apply Pick.tl)) ?_)) ?_)
            refine RG.a1 15 rfl (fun X15 hX15 => ?_)
            refine TL.m Mk.bl ?_
            intro x15
            refine TL.nil ?_
            refine TQ.nxt (hX15 _ _ (by repeat (first | exact HasL.nil | refine HasL.cons (by repeat (first | exact Pick.hd | apply Pick.tl)) ?_)) ?_)
            refine RG.a1 21 rfl (fun X21 hX21 => ?_)
            refine TL.ob (b := x15) (sz := 1) (r := fun _ => []) (by repeat (first | exact Pick.hd | apply Pick.tl)) rfl ?_
            first | refine TL.a0 ty_et24 ?_ | refine TL.ap ty_et24 ?_
            intro A21 c21
            refine TL.nil ?_
            refine TQ.nxt (hX21 _ _ (by repeat (first | exact HasL.nil | refine HasL.cons (by repeat (first | exact Pick.hd | apply Pick.tl)) ?_)) ?_)
            refine RG.tk 22 rfl Pu.bd ?_
            refine RG.a1 23 rfl (fun X23 hX23 => ?_)
            refine TL.m Mk.bl ?_
            intro x23
            refine TL.nil ?_
            refine TQ.nxt (hX23 _ _ (by repeat (first | exact HasL.nil | refine HasL.cons (by repeat (first | exact Pick.hd | apply Pick.tl)) ?_)) ?_)
            refine RG.a1 24 rfl (fun X24 hX24 => ?_)
            first | refine TL.a0 ty_et23 ?_ | refine TL.ap ty_et23 ?_
            intro A24 c24
            refine TL.nil ?_
            refine TQ.nxt (hX24 _ _ (by repeat (first | exact HasL.nil | refine HasL.cons (by repeat (first | exact Pick.hd | apply Pick.tl)) ?_)) ?_)
            refine RG.tk 25 rfl Pu.as ?_
            exact RG.nil (TQ.sub (by repeat (first | exact trivial | refine ⟨rfl, ?_⟩ | refine ⟨trivial, ?_⟩)) (by repeat (first | exact KSub.nil | refine KSub.cons (by repeat (first | exact Pick.hd | apply Pick.tl)) ?_ | exact KSub.refl _ | refine KSub.drop ?_)) (hE ⟨A24, c24, A7, c7, A14, c14, A21, c21⟩)) (by kernel_rfl)
          · refine TL.m Mk.bl ?_
            intro x15
            refine TL.nil ?_
            refine TQ.nxt (hX15 _ _ (by repeat (first | exact HasL.nil | refine HasL.cons (by repeat (first | exact Pick.hd | apply Pick.tl)) ?_)) ?_)
            refine RG.a1 14 rfl (fun X14 hX14 => ?_)
            refine TL.ob (b := x8) (sz := 1) (r := fun _ => []) (by repeat (first | exact Pick.hd | apply Pick.tl)) rfl ?_
            first | refine TL.a0 ty_et24 ?_ | refine TL.ap ty_et24 ?_
            intro A14 c14
            refine TL.nil ?_
            refine TQ.nxt (hX14 _ _ (by repeat (first | exact HasL.nil | refine HasL.cons (by repeat (first | exact Pick.hd | apply Pick.tl)) ?_)) ?_)
            refine RG.a1 21 rfl (fun X21 hX21 => ?_)
            refine TL.ob (b := x15) (sz := 1) (r := fun _ => []) (by repeat (first | exact Pick.hd | apply Pick.tl)) rfl ?_
            first | refine TL.a0 ty_et24 ?_ | refine TL.ap ty_et24 ?_
            intro A21 c21
            refine TL.nil ?_
            refine TQ.nxt (hX21 _ _ (by repeat (first | exact HasL.nil | refine HasL.cons (by repeat (first | exact Pick.hd | apply Pick.tl)) ?_)) ?_)
            refine RG.tk 22 rfl Pu.bd ?_
            refine RG.a1 23 rfl (fun X23 hX23 => ?_)
            refine TL.m Mk.bl ?_
            intro x23
            refine TL.nil ?_
            refine TQ.nxt (hX23 _ _ (by repeat (first | exact HasL.nil | refine HasL.cons (by repeat (first | exact Pick.hd | apply Pick.tl)) ?_)) ?_)
            refine RG.a1 24 rfl (fun X24 hX24 => ?_)
            first | refine TL.a0 ty_et23 ?_ | refine TL.ap ty_et23 ?_
            intro A24 c24
            refine TL.nil ?_
            refine TQ.nxt (hX24 _ _ (by repeat (first | exact HasL.nil | refine HasL.cons (by repeat (first | exact Pick.hd | apply Pick.tl)) ?_)) ?_)
            refine RG.tk 25 rfl Pu.as ?_
            exact RG.nil (TQ.sub (by repeat (first | exact trivial | refine ⟨rfl, ?_⟩ | refine ⟨trivial, ?_⟩)) (by repeat (first | exact KSub.nil | refine KSub.cons (by repeat (first | exact Pick.hd | apply Pick.tl)) ?_ | exact KSub.refl _ | refine KSub.drop ?_)) (hE ⟨A24, c24, A7, c7, A14, c14, A21, c21⟩)) (by kernel_rfl)
        · refine TL.m Mk.bl ?_
          intro x15
          refine TL.nil ?_
          refine TQ.nxt (hX15 _ _ (by repeat (first | exact HasL.nil | refine HasL.cons (by repeat (first | exact Pick.hd | apply Pick.tl)) ?_)) ?_)
          refine RG.a1 7 rfl (fun X7 hX7 => ?_)
          refine TL.ob (b := x1) (sz := 1) (r := fun _ => []) (by repeat (first | exact Pick.hd | apply Pick.tl)) rfl ?_
          first | refine TL.a0 ty_et24 ?_ | refine TL.ap ty_et24 ?_
          intro A7 c7
          refine TL.nil ?_
          refine TQ.nxt (hX7 _ _ (by repeat (first | exact HasL.nil | refine HasL.cons (by repeat (first | exact Pick.hd | apply Pick.tl)) ?_)) ?_)
          refine RG.a1 14 rfl (fun X14 hX14 => ?_)
          refine TL.ob (b := x8) (sz := 1) (r := fun _ => []) (by repeat (first | exact Pick.hd | apply Pick.tl)) rfl ?_
          first | refine TL.a0 ty_et24 ?_ | refine TL.ap ty_et24 ?_
          intro A14 c14
          refine TL.nil ?_
          refine TQ.nxt (hX14 _ _ (by repeat (first | exact HasL.nil | refine HasL.cons (by repeat (first | exact Pick.hd | apply Pick.tl)) ?_)) ?_)
          refine RG.a1 21 rfl (fun X21 hX21 => ?_)
          refine TL.ob (b := x15) (sz := 1) (r := fun _ => []) (by repeat (first | exact Pick.hd | apply Pick.tl)) rfl ?_
          first | refine TL.a0 ty_et24 ?_ | refine TL.ap ty_et24 ?_
          intro A21 c21
          refine TL.nil ?_
          refine TQ.nxt (hX21 _ _ (by repeat (first | exact HasL.nil | refine HasL.cons (by repeat (first | exact Pick.hd | apply Pick.tl)) ?_)) ?_)
          refine RG.tk 22 rfl Pu.bd ?_
          refine RG.a1 23 rfl (fun X23 hX23 => ?_)
          refine TL.m Mk.bl ?_
          intro x23
          refine TL.nil ?_
          refine TQ.nxt (hX23 _ _ (by repeat (first | exact HasL.nil | refine HasL.cons (by repeat (first | exact Pick.hd | apply Pick.tl)) ?_)) ?_)
          refine RG.a1 24 rfl (fun X24 hX24 => ?_)
          first | refine TL.a0 ty_et23 ?_ | refine TL.ap ty_et23 ?_
          intro A24 c24
          refine TL.nil ?_
          refine TQ.nxt (hX24 _ _ (by repeat (first | exact HasL.nil | refine HasL.cons (by repeat (first | exact Pick.hd | apply Pick.tl)) ?_)) ?_)
          refine RG.tk 25 rfl Pu.as ?_
          exact RG.nil (TQ.sub (by repeat (first | exact trivial | refine ⟨rfl, ?_⟩ | refine ⟨trivial, ?_⟩)) (by repeat (first | exact KSub.nil | refine KSub.cons (by repeat (first | exact Pick.hd | apply Pick.tl)) ?_ | exact KSub.refl _ | refine KSub.drop ?_)) (hE ⟨A24, c24, A7, c7, A14, c14, A21, c21⟩)) (by kernel_rfl)
      · refine TL.m Mk.bl ?_
        intro x15
        refine TL.nil ?_
        refine TQ.nxt (hX15 _ _ (by repeat (first | exact HasL.nil | refine HasL.cons (by repeat (first | exact Pick.hd | apply Pick.tl)) ?_)) ?_)
        refine RG.a2 7 8 rfl rfl (fun X7 hX7 => ?_) (fun X8 hX8 => ?_)
        · refine TL.ob (b := x1) (sz := 1) (r := fun _ => []) (by repeat (first | exact Pick.hd | apply Pick.tl)) rfl ?_
          first | refine TL.a0 ty_et24 ?_ | refine TL.ap ty_et24 ?_
          intro A7 c7
          refine TL.nil ?_
          refine TQ.nxt (hX7 _ _ (by repeat (first | exact HasL.nil | refine HasL.cons (by repeat (first | exact Pick.hd | apply Pick.tl)) ?_)) ?_)
          refine RG.a1 8 rfl (fun X8 hX8 => ?_)
          refine TL.m Mk.bl ?_
          intro x8
          refine TL.nil ?_
          refine TQ.nxt (hX8 _ _ (by repeat (first | exact HasL.nil | refine HasL.cons (by repeat (first | exact Pick.hd | apply Pick.tl)) ?_)) ?_)
          refine RG.a1 14 rfl (fun X14 hX14 => ?_)
          refine TL.ob (b := x8) (sz := 1) (r := fun _ => []) (by repeat (first | exact Pick.hd | apply Pick.tl)) rfl ?_
          first | refine TL.a0 ty_et24 ?_ | refine TL.ap ty_et24 ?_
          intro A14 c14
          refine TL.nil ?_
          refine TQ.nxt (hX14 _ _ (by repeat (first | exact HasL.nil | refine HasL.cons (by repeat (first | exact Pick.hd | apply Pick.tl)) ?_)) ?_)
          refine RG.a1 21 rfl (fun X21 hX21 => ?_)
          refine TL.ob (b := x15) (sz := 1) (r := fun _ => []) (by repeat (first | exact Pick.hd | apply Pick.tl)) rfl ?_
          first | refine TL.a0 ty_et24 ?_ | refine TL.ap ty_et24 ?_
          intro A21 c21
          refine TL.nil ?_
          refine TQ.nxt (hX21 _ _ (by repeat (first | exact HasL.nil | refine HasL.cons (by repeat (first | exact Pick.hd | apply Pick.tl)) ?_)) ?_)
          refine RG.tk 22 rfl Pu.bd ?_
          refine RG.a1 23 rfl (fun X23 hX23 => ?_)
          refine TL.m Mk.bl ?_
          intro x23
          refine TL.nil ?_
          refine TQ.nxt (hX23 _ _ (by repeat (first | exact HasL.nil | refine HasL.cons (by repeat (first | exact Pick.hd | apply Pick.tl)) ?_)) ?_)
          refine RG.a1 24 rfl (fun X24 hX24 => ?_)
          first | refine TL.a0 ty_et23 ?_ | refine TL.ap ty_et23 ?_
          intro A24 c24
          refine TL.nil ?_
          refine TQ.nxt (hX24 _ _ (by repeat (first | exact HasL.nil | refine HasL.cons (by repeat (first | exact Pick.hd | apply Pick.tl)) ?_)) ?_)
          refine RG.tk 25 rfl Pu.as ?_
          exact RG.nil (TQ.sub (by repeat (first | exact trivial | refine ⟨rfl, ?_⟩ | refine ⟨trivial, ?_⟩)) (by repeat (first | exact KSub.nil | refine KSub.cons (by repeat (first | exact Pick.hd | apply Pick.tl)) ?_ | exact KSub.refl _ | refine KSub.drop ?_)) (hE ⟨A24, c24, A7, c7, A14, c14, A21, c21⟩)) (by kernel_rfl)
        · refine TL.m Mk.bl ?_
          intro x8
          refine TL.nil ?_
          refine TQ.nxt (hX8 _ _ (by repeat (first | exact HasL.nil | refine HasL.cons (by repeat (first | exact Pick.hd | apply Pick.tl)) ?_)) ?_)
          refine RG.a1 7 rfl (fun X7 hX7 => ?_)
          refine TL.ob (b := x1) (sz := 1) (r := fun _ => []) (by repeat (first | exact Pick.hd | apply Pick.tl)) rfl ?_
          first | refine TL.a0 ty_et24 ?_ | refine TL.ap ty_et24 ?_
          intro A7 c7
          refine TL.nil ?_
          refine TQ.nxt (hX7 _ _ (by repeat (first | exact HasL.nil | refine HasL.cons (by repeat (first | exact Pick.hd | apply Pick.tl)) ?_)) ?_)
          refine RG.a1 14 rfl (fun X14 hX14 => ?_)
          refine TL.ob (b := x8) (sz := 1) (r := fun _ => []) (by repeat (first | exact Pick.hd | apply Pick.tl)) rfl ?_
          first | refine TL.a0 ty_et24 ?_ | refine TL.ap ty_et24 ?_
          intro A14 c14
          refine TL.nil ?_
          refine TQ.nxt (hX14 _ _ (by repeat (first | exact HasL.nil | refine HasL.cons (by repeat (first | exact Pick.hd | apply Pick.tl)) ?_)) ?_)
          refine RG.a1 21 rfl (fun X21 hX21 => ?_)
          refine TL.ob (b := x15) (sz := 1) (r := fun _ => []) (by repeat (first | exact Pick.hd | apply Pick.tl)) rfl ?_
          first | refine TL.a0 ty_et24 ?_ | refine TL.ap ty_et24 ?_
          intro A21 c21
          refine TL.nil ?_
          refine TQ.nxt (hX21 _ _ (by repeat (first | exact HasL.nil | refine HasL.cons (by repeat (first | exact Pick.hd | apply Pick.tl)) ?_)) ?_)
          refine RG.tk 22 rfl Pu.bd ?_
          refine RG.a1 23 rfl (fun X23 hX23 => ?_)
          refine TL.m Mk.bl ?_
          intro x23
          refine TL.nil ?_
          refine TQ.nxt (hX23 _ _ (by repeat (first | exact HasL.nil | refine HasL.cons (by repeat (first | exact Pick.hd | apply Pick.tl)) ?_)) ?_)
          refine RG.a1 24 rfl (fun X24 hX24 => ?_)
          first | refine TL.a0 ty_et23 ?_ | refine TL.ap ty_et23 ?_
          intro A24 c24
          refine TL.nil ?_
          refine TQ.nxt (hX24 _ _ (by repeat (first | exact HasL.nil | refine HasL.cons (by repeat (first | exact Pick.hd | apply Pick.tl)) ?_)) ?_)
          refine RG.tk 25 rfl Pu.as ?_
          exact RG.nil (TQ.sub (by repeat (first | exact trivial | refine ⟨rfl, ?_⟩ | refine ⟨trivial, ?_⟩)) (by repeat (first | exact KSub.nil | refine KSub.cons (by repeat (first | exact Pick.hd | apply Pick.tl)) ?_ | exact KSub.refl _ | refine KSub.drop ?_)) (hE ⟨A24, c24, A7, c7, A14, c14, A21, c21⟩)) (by kernel_rfl)
    · refine TL.m Mk.bl ?_
      intro x8
      refine TL.nil ?_
      refine TQ.nxt (hX8 _ _ (by repeat (first | exact HasL.nil | refine HasL.cons (by repeat (first | exact Pick.hd | apply Pick.tl)) ?_)) ?_)
      refine RG.a2 1 15 rfl rfl (fun X1 hX1 => ?_) (fun X15 hX15 => ?_)
      · refine TL.m Mk.bl ?_
        intro x1
        refine TL.nil ?_
        refine TQ.nxt (hX1 _ _ (by repeat (first | exact HasL.nil | refine HasL.cons (by repeat (first | exact Pick.hd | apply Pick.tl)) ?_)) ?_)
        refine RG.a2 7 15 rfl rfl (fun X7 hX7 => ?_) (fun X15 hX15 => ?_)
        · refine TL.ob (b := x1) (sz := 1) (r := fun _ => []) (by repeat (first | exact Pick.hd | apply Pick.tl)) rfl ?_
          first | refine TL.a0 ty_et24 ?_ | refine TL.ap ty_et24 ?_
          intro A7 c7
          refine TL.nil ?_
          refine TQ.nxt (hX7 _ _ (by repeat (first | exact HasL.nil | refine HasL.cons (by repeat (first | exact Pick.hd | apply Pick.tl)) ?_)) ?_)
          refine RG.a2 14 15 rfl rfl (fun X14 hX14 => ?_) (fun X15 hX15 => ?_)
          · refine TL.ob (b := x8) (sz := 1) (r := fun _ => []) (by repeat (first | exact Pick.hd | apply Pick.tl)) rfl ?_
            first | refine TL.a0 ty_et24 ?_ | refine TL.ap ty_et24 ?_
            intro A14 c14
            refine TL.nil ?_
            refine TQ.nxt (hX14 _ _ (by repeat (first | exact HasL.nil | refine HasL.cons (by repeat (first | exact Pick.hd | apply Pick.tl)) ?_)) ?_)
            refine RG.a1 15 rfl (fun X15 hX15 => ?_)
            refine TL.m Mk.bl ?_
            intro x15
            refine TL.nil ?_
            refine TQ.nxt (hX15 _ _ (by repeat (first | exact HasL.nil | refine HasL.cons (by repeat (first | exact Pick.hd | apply Pick.tl)) ?_)) ?_)
            refine RG.a1 21 rfl (fun X21 hX21 => ?_)
            refine TL.ob (b := x15) (sz := 1) (r := fun _ => []) (by repeat (first | exact Pick.hd | apply Pick.tl)) rfl ?_
            first | refine TL.a0 ty_et24 ?_ | refine TL.ap ty_et24 ?_
            intro A21 c21
            refine TL.nil ?_
            refine TQ.nxt (hX21 _ _ (by repeat (first | exact HasL.nil | refine HasL.cons (by repeat (first | exact Pick.hd | apply Pick.tl)) ?_)) ?_)
            refine RG.tk 22 rfl Pu.bd ?_
            refine RG.a1 23 rfl (fun X23 hX23 => ?_)
            refine TL.m Mk.bl ?_
            intro x23
            refine TL.nil ?_
            refine TQ.nxt (hX23 _ _ (by repeat (first | exact HasL.nil | refine HasL.cons (by repeat (first | exact Pick.hd | apply Pick.tl)) ?_)) ?_)
            refine RG.a1 24 rfl (fun X24 hX24 => ?_)
            first | refine TL.a0 ty_et23 ?_ | refine TL.ap ty_et23 ?_
            intro A24 c24
            refine TL.nil ?_
            refine TQ.nxt (hX24 _ _ (by repeat (first | exact HasL.nil | refine HasL.cons (by repeat (first | exact Pick.hd | apply Pick.tl)) ?_)) ?_)
            refine RG.tk 25 rfl Pu.as ?_
            exact RG.nil (TQ.sub (by repeat (first | exact trivial | refine ⟨rfl, ?_⟩ | refine ⟨trivial, ?_⟩)) (by repeat (first | exact KSub.nil | refine KSub.cons (by repeat (first | exact Pick.hd | apply Pick.tl)) ?_ | exact KSub.refl _ | refine KSub.drop ?_)) (hE ⟨A24, c24, A7, c7, A14, c14, A21, c21⟩)) (by kernel_rfl)
          · refine TL.m Mk.bl ?_
            intro x15
            refine TL.nil ?_
            refine TQ.nxt (hX15 _ _ (by repeat (first | exact HasL.nil | refine HasL.cons (by repeat (first | exact Pick.hd | apply Pick.tl)) ?_)) ?_)
            refine RG.a1 14 rfl (fun X14 hX14 => ?_)
            refine TL.ob (b := x8) (sz := 1) (r := fun _ => []) (by repeat (first | exact Pick.hd | apply Pick.tl)) rfl ?_
            first | refine TL.a0 ty_et24 ?_ | refine TL.ap ty_et24 ?_
            intro A14 c14
            refine TL.nil ?_
            refine TQ.nxt (hX14 _ _ (by repeat (first | exact HasL.nil | refine HasL.cons (by repeat (first | exact Pick.hd | apply Pick.tl)) ?_)) ?_)
            refine RG.a1 21 rfl (fun X21 hX21 => ?_)
            refine TL.ob (b := x15) (sz := 1) (r := fun _ => []) (by repeat (first | exact Pick.hd | apply Pick.tl)) rfl ?_
            first | refine TL.a0 ty_et24 ?_ | refine TL.ap ty_et24 ?_
            intro A21 c21
            refine TL.nil ?_
            refine TQ.nxt (hX21 _ _ (by repeat (first | exact HasL.nil | refine HasL.cons (by repeat (first | exact Pick.hd | apply Pick.tl)) ?_)) ?_)
            refine RG.tk 22 rfl Pu.bd ?_
            refine RG.a1 23 rfl (fun X23 hX23 => ?_)
            refine TL.m Mk.bl ?_
            intro x23
            refine TL.nil ?_
            refine TQ.nxt (hX23 _ _ (by repeat (first | exact HasL.nil | refine HasL.cons (by repeat (first | exact Pick.hd | apply Pick.tl)) ?_)) ?_)
            refine RG.a1 24 rfl (fun X24 hX24 => ?_)
            first | refine TL.a0 ty_et23 ?_ | refine TL.ap ty_et23 ?_
            intro A24 c24
            refine TL.nil ?_
            refine TQ.nxt (hX24 _ _ (by repeat (first | exact HasL.nil | refine HasL.cons (by repeat (first | exact Pick.hd | apply Pick.tl)) ?_)) ?_)
            refine RG.tk 25 rfl Pu.as ?_
            exact RG.nil (TQ.sub (by repeat (first | exact trivial | refine ⟨rfl, ?_⟩ | refine ⟨trivial, ?_⟩)) (by repeat (first | exact KSub.nil | refine KSub.cons (by repeat (first | exact Pick.hd | apply Pick.tl)) ?_ | exact KSub.refl _ | refine KSub.drop ?_)) (hE ⟨A24, c24, A7, c7, A14, c14, A21, c21⟩)) (by kernel_rfl)
        · refine TL.m Mk.bl ?_
          intro x15
          refine TL.nil ?_
          refine TQ.nxt (hX15 _ _ (by repeat (first | exact HasL.nil | refine HasL.cons (by repeat (first | exact Pick.hd | apply Pick.tl)) ?_)) ?_)
          refine RG.a1 7 rfl (fun X7 hX7 => ?_)
          refine TL.ob (b := x1) (sz := 1) (r := fun _ => []) (by repeat (first | exact Pick.hd | apply Pick.tl)) rfl ?_
          first | refine TL.a0 ty_et24 ?_ | refine TL.ap ty_et24 ?_
          intro A7 c7
          refine TL.nil ?_
          refine TQ.nxt (hX7 _ _ (by repeat (first | exact HasL.nil | refine HasL.cons (by repeat (first | exact Pick.hd | apply Pick.tl)) ?_)) ?_)
          refine RG.a1 14 rfl (fun X14 hX14 => ?_)
          refine TL.ob (b := x8) (sz := 1) (r := fun _ => []) (by repeat (first | exact Pick.hd | apply Pick.tl)) rfl ?_
          first | refine TL.a0 ty_et24 ?_ | refine TL.ap ty_et24 ?_
          intro A14 c14
          refine TL.nil ?_
          refine TQ.nxt (hX14 _ _ (by repeat (first | exact HasL.nil | refine HasL.cons (by repeat (first | exact Pick.hd | apply Pick.tl)) ?_)) ?_)
          refine RG.a1 21 rfl (fun X21 hX21 => ?_)
          refine TL.ob (b := x15) (sz := 1) (r := fun _ => []) (by repeat (first | exact Pick.hd | apply Pick.tl)) rfl ?_
          first | refine TL.a0 ty_et24 ?_ | refine TL.ap ty_et24 ?_
          intro A21 c21
          refine TL.nil ?_
          refine TQ.nxt (hX21 _ _ (by repeat (first | exact HasL.nil | refine HasL.cons (by repeat (first | exact Pick.hd | apply Pick.tl)) ?_)) ?_)
          refine RG.tk 22 rfl Pu.bd ?_
          refine RG.a1 23 rfl (fun X23 hX23 => ?_)
          refine TL.m Mk.bl ?_
          intro x23
          refine TL.nil ?_
          refine TQ.nxt (hX23 _ _ (by repeat (first | exact HasL.nil | refine HasL.cons (by repeat (first | exact Pick.hd | apply Pick.tl)) ?_)) ?_)
          refine RG.a1 24 rfl (fun X24 hX24 => ?_)
          first | refine TL.a0 ty_et23 ?_ | refine TL.ap ty_et23 ?_
          intro A24 c24
          refine TL.nil ?_
          refine TQ.nxt (hX24 _ _ (by repeat (first | exact HasL.nil | refine HasL.cons (by repeat (first | exact Pick.hd | apply Pick.tl)) ?_)) ?_)
          refine RG.tk 25 rfl Pu.as ?_
          exact RG.nil (TQ.sub (by repeat (first | exact trivial | refine ⟨rfl, ?_⟩ | refine ⟨trivial, ?_⟩)) (by repeat (first | exact KSub.nil | refine KSub.cons (by repeat (first | exact Pick.hd | apply Pick.tl)) ?_ | exact KSub.refl _ | refine KSub.drop ?_)) (hE ⟨A24, c24, A7, c7, A14, c14, A21, c21⟩)) (by kernel_rfl)
      · refine TL.m Mk.bl ?_
        intro x15
        refine TL.nil ?_
        refine TQ.nxt (hX15 _ _ (by repeat (first | exact HasL.nil | refine HasL.cons (by repeat (first | exact Pick.hd | apply Pick.tl)) ?_)) ?_)
        refine RG.a1 1 rfl (fun X1 hX1 => ?_)
        refine TL.m Mk.bl ?_
        intro x1
        refine TL.nil ?_
        refine TQ.nxt (hX1 _ _ (by repeat (first | exact HasL.nil | refine HasL.cons (by repeat (first | exact Pick.hd | apply Pick.tl)) ?_)) ?_)
        refine RG.a1 7 rfl (fun X7 hX7 => ?_)
        refine TL.ob (b := x1) (sz := 1) (r := fun _ => []) (by repeat (first | exact Pick.hd | apply Pick.tl)) rfl ?_
        first | refine TL.a0 ty_et24 ?_ | refine TL.ap ty_et24 ?_
        intro A7 c7
        refine TL.nil ?_
        refine TQ.nxt (hX7 _ _ (by repeat (first | exact HasL.nil | refine HasL.cons (by repeat (first | exact Pick.hd | apply Pick.tl)) ?_)) ?_)
        refine RG.a1 14 rfl (fun X14 hX14 => ?_)
        refine TL.ob (b := x8) (sz := 1) (r := fun _ => []) (by repeat (first | exact Pick.hd | apply Pick.tl)) rfl ?_
        first | refine TL.a0 ty_et24 ?_ | refine TL.ap ty_et24 ?_
        intro A14 c14
        refine TL.nil ?_
        refine TQ.nxt (hX14 _ _ (by repeat (first | exact HasL.nil | refine HasL.cons (by repeat (first | exact Pick.hd | apply Pick.tl)) ?_)) ?_)
        refine RG.a1 21 rfl (fun X21 hX21 => ?_)
        refine TL.ob (b := x15) (sz := 1) (r := fun _ => []) (by repeat (first | exact Pick.hd | apply Pick.tl)) rfl ?_
        first | refine TL.a0 ty_et24 ?_ | refine TL.ap ty_et24 ?_
        intro A21 c21
        refine TL.nil ?_
        refine TQ.nxt (hX21 _ _ (by repeat (first | exact HasL.nil | refine HasL.cons (by repeat (first | exact Pick.hd | apply Pick.tl)) ?_)) ?_)
        refine RG.tk 22 rfl Pu.bd ?_
        refine RG.a1 23 rfl (fun X23 hX23 => ?_)
        refine TL.m Mk.bl ?_
        intro x23
        refine TL.nil ?_
        refine TQ.nxt (hX23 _ _ (by repeat (first | exact HasL.nil | refine HasL.cons (by repeat (first | exact Pick.hd | apply Pick.tl)) ?_)) ?_)
        refine RG.a1 24 rfl (fun X24 hX24 => ?_)
        first | refine TL.a0 ty_et23 ?_ | refine TL.ap ty_et23 ?_
        intro A24 c24
        refine TL.nil ?_
        refine TQ.nxt (hX24 _ _ (by repeat (first | exact HasL.nil | refine HasL.cons (by repeat (first | exact Pick.hd | apply Pick.tl)) ?_)) ?_)
        refine RG.tk 25 rfl Pu.as ?_
        exact RG.nil (TQ.sub (by repeat (first | exact trivial | refine ⟨rfl, ?_⟩ | refine ⟨trivial, ?_⟩)) (by repeat (first | exact KSub.nil | refine KSub.cons (by repeat (first | exact Pick.hd | apply Pick.tl)) ?_ | exact KSub.refl _ | refine KSub.drop ?_)) (hE ⟨A24, c24, A7, c7, A14, c14, A21, c21⟩)) (by kernel_rfl)
    · refine TL.m Mk.bl ?_
      intro x15
      refine TL.nil ?_
      refine TQ.nxt (hX15 _ _ (by repeat (first | exact HasL.nil | refine HasL.cons (by repeat (first | exact Pick.hd | apply Pick.tl)) ?_)) ?_)
      refine RG.a2 1 8 rfl rfl (fun X1 hX1 => ?_) (fun X8 hX8 => ?_)
      · refine TL.m Mk.bl ?_
        intro x1
        refine TL.nil ?_
        refine TQ.nxt (hX1 _ _ (by repeat (first | exact HasL.nil | refine HasL.cons (by repeat (first | exact Pick.hd | apply Pick.tl)) ?_)) ?_)
        refine RG.a2 7 8 rfl rfl (fun X7 hX7 => ?_) (fun X8 hX8 => ?_)
        · refine TL.ob (b := x1) (sz := 1) (r := fun _ => []) (by repeat (first | exact Pick.hd | apply Pick.tl)) rfl ?_
          first | refine TL.a0 ty_et24 ?_ | refine TL.ap ty_et24 ?_
          intro A7 c7
          refine TL.nil ?_
          refine TQ.nxt (hX7 _ _ (by repeat (first | exact HasL.nil | refine HasL.cons (by repeat (first | exact Pick.hd | apply Pick.tl)) ?_)) ?_)
          refine RG.a1 8 rfl (fun X8 hX8 => ?_)
          refine TL.m Mk.bl ?_
          intro x8
          refine TL.nil ?_
          refine TQ.nxt (hX8 _ _ (by repeat (first | exact HasL.nil | refine HasL.cons (by repeat (first | exact Pick.hd | apply Pick.tl)) ?_)) ?_)
          refine RG.a1 14 rfl (fun X14 hX14 => ?_)
          refine TL.ob (b := x8) (sz := 1) (r := fun _ => []) (by repeat (first | exact Pick.hd | apply Pick.tl)) rfl ?_
          first | refine TL.a0 ty_et24 ?_ | refine TL.ap ty_et24 ?_
          intro A14 c14
          refine TL.nil ?_
          refine TQ.nxt (hX14 _ _ (by repeat (first | exact HasL.nil | refine HasL.cons (by repeat (first | exact Pick.hd | apply Pick.tl)) ?_)) ?_)
          refine RG.a1 21 rfl (fun X21 hX21 => ?_)
          refine TL.ob (b := x15) (sz := 1) (r := fun _ => []) (by repeat (first | exact Pick.hd | apply Pick.tl)) rfl ?_
          first | refine TL.a0 ty_et24 ?_ | refine TL.ap ty_et24 ?_
          intro A21 c21
          refine TL.nil ?_
          refine TQ.nxt (hX21 _ _ (by repeat (first | exact HasL.nil | refine HasL.cons (by repeat (first | exact Pick.hd | apply Pick.tl)) ?_)) ?_)
          refine RG.tk 22 rfl Pu.bd ?_
          refine RG.a1 23 rfl (fun X23 hX23 => ?_)
          refine TL.m Mk.bl ?_
          intro x23
          refine TL.nil ?_
          refine TQ.nxt (hX23 _ _ (by repeat (first | exact HasL.nil | refine HasL.cons (by repeat (first | exact Pick.hd | apply Pick.tl)) ?_)) ?_)
          refine RG.a1 24 rfl (fun X24 hX24 => ?_)
          first | refine TL.a0 ty_et23 ?_ | refine TL.ap ty_et23 ?_
          intro A24 c24
          refine TL.nil ?_
          refine TQ.nxt (hX24 _ _ (by repeat (first | exact HasL.nil | refine HasL.cons (by repeat (first | exact Pick.hd | apply Pick.tl)) ?_)) ?_)
          refine RG.tk 25 rfl Pu.as ?_
          exact RG.nil (TQ.sub (by repeat (first | exact trivial | refine ⟨rfl, ?_⟩ | refine ⟨trivial, ?_⟩)) (by repeat (first | exact KSub.nil | refine KSub.cons (by repeat (first | exact Pick.hd | apply Pick.tl)) ?_ | exact KSub.refl _ | refine KSub.drop ?_)) (hE ⟨A24, c24, A7, c7, A14, c14, A21, c21⟩)) (by kernel_rfl)
        · refine TL.m Mk.bl ?_
          intro x8
          refine TL.nil ?_
          refine TQ.nxt (hX8 _ _ (by repeat (first | exact HasL.nil | refine HasL.cons (by repeat (first | exact Pick.hd | apply Pick.tl)) ?_)) ?_)
          refine RG.a1 7 rfl (fun X7 hX7 => ?_)
          refine TL.ob (b := x1) (sz := 1) (r := fun _ => []) (by repeat (first | exact Pick.hd | apply Pick.tl)) rfl ?_
          first | refine TL.a0 ty_et24 ?_ | refine TL.ap ty_et24 ?_
          intro A7 c7
          refine TL.nil ?_
          refine TQ.nxt (hX7 _ _ (by repeat (first | exact HasL.nil | refine HasL.cons (by repeat (first | exact Pick.hd | apply Pick.tl)) ?_)) ?_)
          refine RG.a1 14 rfl (fun X14 hX14 => ?_)
          refine TL.ob (b := x8) (sz := 1) (r := fun _ => []) (by repeat (first | exact Pick.hd | apply Pick.tl)) rfl ?_
          first | refine TL.a0 ty_et24 ?_ | refine TL.ap ty_et24 ?_
          intro A14 c14
          refine TL.nil ?_
          refine TQ.nxt (hX14 _ _ (by repeat (first | exact HasL.nil | refine HasL.cons (by repeat (first | exact Pick.hd | apply Pick.tl)) ?_)) ?_)
          refine RG.a1 21 rfl (fun X21 hX21 => ?_)
          refine TL.ob (b := x15) (sz := 1) (r := fun _ => []) (by repeat (first | exact Pick.hd | apply Pick.tl)) rfl ?_
          first | refine TL.a0 ty_et24 ?_ | refine TL.ap ty_et24 ?_
          intro A21 c21
          refine TL.nil ?_
          refine TQ.nxt (hX21 _ _ (by repeat (first | exact HasL.nil | refine HasL.cons (by repeat (first | exact Pick.hd | apply Pick.tl)) ?_)) ?_)
          refine RG.tk 22 rfl Pu.bd ?_
          refine RG.a1 23 rfl (fun X23 hX23 => ?_)
          refine TL.m Mk.bl ?_
          intro x23
          refine TL.nil ?_
          refine TQ.nxt (hX23 _ _ (by repeat (first | exact HasL.nil | refine HasL.cons (by repeat (first | exact Pick.hd | apply Pick.tl)) ?_)) ?_)
          refine RG.a1 24 rfl (fun X24 hX24 => ?_)
          first | refine TL.a0 ty_et23 ?_ | refine TL.ap ty_et23 ?_
          intro A24 c24
          refine TL.nil ?_
          refine TQ.nxt (hX24 _ _ (by repeat (first | exact HasL.nil | refine HasL.cons (by repeat (first | exact Pick.hd | apply Pick.tl)) ?_)) ?_)
          refine RG.tk 25 rfl Pu.as ?_
          exact RG.nil (TQ.sub (by repeat (first | exact trivial | refine ⟨rfl, ?_⟩ | refine ⟨trivial, ?_⟩)) (by repeat (first | exact KSub.nil | refine KSub.cons (by repeat (first | exact Pick.hd | apply Pick.tl)) ?_ | exact KSub.refl _ | refine KSub.drop ?_)) (hE ⟨A24, c24, A7, c7, A14, c14, A21, c21⟩)) (by kernel_rfl)
      · refine TL.m Mk.bl ?_
        intro x8
        refine TL.nil ?_
        refine TQ.nxt (hX8 _ _ (by repeat (first | exact HasL.nil | refine HasL.cons (by repeat (first | exact Pick.hd | apply Pick.tl)) ?_)) ?_)
        refine RG.a1 1 rfl (fun X1 hX1 => ?_)
        refine TL.m Mk.bl ?_
        intro x1
        refine TL.nil ?_
        refine TQ.nxt (hX1 _ _ (by repeat (first | exact HasL.nil | refine HasL.cons (by repeat (first | exact Pick.hd | apply Pick.tl)) ?_)) ?_)
        refine RG.a1 7 rfl (fun X7 hX7 => ?_)
        refine TL.ob (b := x1) (sz := 1) (r := fun _ => []) (by repeat (first | exact Pick.hd | apply Pick.tl)) rfl ?_
        first | refine TL.a0 ty_et24 ?_ | refine TL.ap ty_et24 ?_
        intro A7 c7
        refine TL.nil ?_
        refine TQ.nxt (hX7 _ _ (by repeat (first | exact HasL.nil | refine HasL.cons (by repeat (first | exact Pick.hd | apply Pick.tl)) ?_)) ?_)
        refine RG.a1 14 rfl (fun X14 hX14 => ?_)
        refine TL.ob (b := x8) (sz := 1) (r := fun _ => []) (by repeat (first | exact Pick.hd | apply Pick.tl)) rfl ?_
        first | refine TL.a0 ty_et24 ?_ | refine TL.ap ty_et24 ?_
        intro A14 c14
        refine TL.nil ?_
        refine TQ.nxt (hX14 _ _ (by repeat (first | exact HasL.nil | refine HasL.cons (by repeat (first | exact Pick.hd | apply Pick.tl)) ?_)) ?_)
        refine RG.a1 21 rfl (fun X21 hX21 => ?_)
        refine TL.ob (b := x15) (sz := 1) (r := fun _ => []) (by repeat (first | exact Pick.hd | apply Pick.tl)) rfl ?_
        first | refine TL.a0 ty_et24 ?_ | refine TL.ap ty_et24 ?_
        intro A21 c21
        refine TL.nil ?_
        refine TQ.nxt (hX21 _ _ (by repeat (first | exact HasL.nil | refine HasL.cons (by repeat (first | exact Pick.hd | apply Pick.tl)) ?_)) ?_)
        refine RG.tk 22 rfl Pu.bd ?_
        refine RG.a1 23 rfl (fun X23 hX23 => ?_)
        refine TL.m Mk.bl ?_
        intro x23
        refine TL.nil ?_
        refine TQ.nxt (hX23 _ _ (by repeat (first | exact HasL.nil | refine HasL.cons (by repeat (first | exact Pick.hd | apply Pick.tl)) ?_)) ?_)
        refine RG.a1 24 rfl (fun X24 hX24 => ?_)
        first | refine TL.a0 ty_et23 ?_ | refine TL.ap ty_et23 ?_
        intro A24 c24
        refine TL.nil ?_
        refine TQ.nxt (hX24 _ _ (by repeat (first | exact HasL.nil | refine HasL.cons (by repeat (first | exact Pick.hd | apply Pick.tl)) ?_)) ?_)
        refine RG.tk 25 rfl Pu.as ?_
        exact RG.nil (TQ.sub (by repeat (first | exact trivial | refine ⟨rfl, ?_⟩ | refine ⟨trivial, ?_⟩)) (by repeat (first | exact KSub.nil | refine KSub.cons (by repeat (first | exact Pick.hd | apply Pick.tl)) ?_ | exact KSub.refl _ | refine KSub.drop ?_)) (hE ⟨A24, c24, A7, c7, A14, c14, A21, c21⟩)) (by kernel_rfl)
  · try simp only [decide_eq_true_eq, decide_eq_false_iff_not, Bool.not_eq_true', Bool.not_eq_false', Bool.and_eq_true, Bool.or_eq_true, Bool.and_eq_false_iff, Bool.or_eq_false_iff, Int.not_lt, Int.not_le] at hc0
    obtain rfl : m = q := by omega
    refine TW.exit ?_
    refine TQ.thenX ?_
    refine TQ.thenX ?_
    refine TQ.blkX ?_
    refine TQ.thenN (hY3 _ _ ?_)
    refine TW.seq fun Y8 hY8 => ?_
    refine TW.region ?_
    refine TL.p Pu.mv ?_
    refine TL.p Pu.as ?_
    refine TL.nil ?_
    refine TQ.thenN (hY8 _ _ ?_)
    refine TW.ret ?_
    refine TQ.ret Tryz.results14 rfl ((.tmp rfl .nil)) ?_
    exact fun w hw => ⟨((Ao, co), b, d), rfl, hw⟩
end Go.Proofs.YtjephihlkjpohaaGreatDoor
namespace Go.Proofs.YtjephihlkjpohaaGreatDoor
set_option linter.all false
set_option linter.unusedVariables false
set_option linter.unusedSimpArgs false
open Go.RowKit
theorem innerK_mem {b : Nat → Nat → Option Addr} {l d : Nat → Nat → Nat} {v : Nat → Nat → Nat → Int} {i j : Nat} (hj : j < 3) : ∀ q, i < q → Fact.own (b i j) (l i j) (d i j) 3 1 (fun k => [.int .i64 (v i j k)]) ∈ innerK b l d v q
  | 0, h => by omega
  | q + 1, h => by
    by_cases hi : i = q
    · subst hi
      have : j = 0 ∨ j = 1 ∨ j = 2 := by omega
      rcases this with rfl | rfl | rfl <;> simp [innerK]
    · have := innerK_mem (b := b) (l := l) (d := d) (v := v) (i := i) hj q (by omega)
      simp only [innerK, List.mem_cons]
      exact .inr (.inr (.inr this))
end Go.Proofs.YtjephihlkjpohaaGreatDoor
namespace Go.Proofs.YtjephihlkjpohaaGreatDoor
set_option linter.all false
set_option linter.unusedVariables false
set_option linter.unusedSimpArgs false
open Go.RowKit
theorem Fact.locB {φ : Fact} {w w' : World} (h : φ.holds w) (he : ∀ b ∈ φ.foot, w'.heap[b]? = w.heap[b]?) : φ.holds w' := by
  match φ, h, he with
  | .blk b t cs, h, he => exact (he b (by simp [Fact.foot])).trans h
  | .own A n c E sz f, h, he => exact ⟨own_of_block h.own fun b hb => he b (by rw [own_foot, hb]; simp), h.len⟩
  | .obj b o, h, he => exact ⟨(he b (by simp [Fact.foot])).trans h.1, h.2⟩
  | .pr l p, h, he =>
    refine ⟨h.loc w w' h.lt h.now he, fun b hb => ?_, h.loc⟩
    have h1 := h.lt b hb
    have h2 := he b hb
    rw [Array.getElem?_eq_getElem h1] at h2
    exact (Array.getElem?_eq_some_iff.1 h2).1
def bun (K : List Fact) : Fact := .pr (feet K) fun w => ∀ φ ∈ K, φ.holds w
theorem bun_holds {K : List Fact} {w : World} (h : ∀ φ ∈ K, φ.holds w) : (bun K).holds w :=
  ⟨h, fun b hb => by
    obtain ⟨φ, hφ, hb'⟩ := List.mem_flatMap.1 hb
    exact Fact.lt (h φ hφ) b hb', fun w w' _ hp he φ hφ => Fact.locB (hp φ hφ) fun b hb => he b (List.mem_flatMap.2 ⟨φ, hφ, hb⟩)⟩
theorem Sat.bun {S : List Nat} {w0 w : World} {K1 K : List Fact} (h : Sat S w0 (K1 ++ K) w) : Sat S w0 (bun K1 :: K) w := by
  have e : feet (Go.Proofs.YtjephihlkjpohaaGreatDoor.bun K1 :: K) = feet (K1 ++ K) := by rw [feet_append]; rfl
  refine ⟨h.chg, by rw [e]; exact h.nd, by rw [e]; exact h.ge, fun φ hφ => ?_⟩
  rcases List.mem_cons.1 hφ with rfl | hφ
  · exact bun_holds fun ψ hψ => h.holds ψ (List.mem_append_left _ hψ)
  · exact h.holds φ (List.mem_append_right _ hφ)
theorem TL.bun {c : Cx} {Q : Exit → Act → World → Prop} {F : Fr} {K1 K : List Fact} {ops : Array Oper} {rest : List Oper} (h : TL c ops Q rest F (bun K1 :: K)) : TL c ops Q rest F (K1 ++ K) := fun a w hF hK => h a w hF hK.bun
theorem bun_get {S : List Nat} {w0 w : World} {K1 K : List Fact} (hw : Sat S w0 K w) (hm : bun K1 ∈ K) {φ : Fact} (h : φ ∈ K1) : φ.holds w := (hw.holds _ hm).now φ h
theorem sameX_any {w : World} {A B : Option Addr} {n c1 c2 : Nat} {X Y : Nat → Option Addr} {T : Nat → List Int} {D E : Nat → Nat} (hn : n ≤ 1000) (hl : ∀ s, s < 3 * n → (T s).length ≤ 300) (hA : RdR w 3 A n (tieX X T D)) (hB : RdR w 3 B n (tieX Y T E))
    (hI : ∀ s, s < 3 * n → RdR w 1 (X s) (T s).length (iL (T s))) (hJ : ∀ s, s < 3 * n → RdR w 1 (Y s) (T s).length (iL (T s))) : Calls Tryz.prog 17 #[.slice A n c1, .slice B n c2] w (Ret w (.bool true)) :=
  sameTies_any (a := fun i j => X (3 * i + j)) (b := fun i j => Y (3 * i + j)) (l := fun i j => (T (3 * i + j)).length) (c := fun i j => D (3 * i + j)) (d := fun i j => E (3 * i + j)) (v := fun i j k => (T (3 * i + j)).getD k 0) (by omega)
    (fun i hi => by
      rw [tot3]
      have h0 := hl (3 * i) (by omega)
      have h1 := hl (3 * i + 1) (by omega)
      have h2 := hl (3 * i + 2) (by omega)
      show (T (3 * i)).length + (T (3 * i + 1)).length + (T (3 * i + 2)).length ≤ 1000
      omega) hA hB (fun i hi j hj => hI (3 * i + j) (by omega)) (fun i hi j hj => hJ (3 * i + j) (by omega))
theorem tr3_len {r0 r1 : Nat → Int} {b : Int} {T : Nat → List Int} {m : Nat} (hT : ∀ i, i < m → cnt3 T i ≤ 10) : ∀ i, i ≤ m → ∀ s, s < 3 * m → (tr3 r0 r1 b T i s).length ≤ 10
  | 0, _, s, hs => by
    have := hT (s / 3) (by omega)
    unfold cnt3 at this
    simp only [tr3]
    rcases (show s = 3 * (s / 3) ∨ s = 3 * (s / 3) + 1 ∨ s = 3 * (s / 3) + 2 by omega) with h | h | h <;> rw [h] <;> omega
  | i + 1, hi, s, hs => by
    have ih := tr3_len (r0 := r0) (r1 := r1) (b := b) hT i (by omega) s hs
    have h2 := hT i (by omega)
    unfold cnt3 at h2
    simp only [tr3, updN]
    split
    · exact Nat.le_trans mvd_len (by omega)
    · split
      · exact Nat.le_trans mvd_len (by omega)
      · exact ih
section
variable {np m nP : Nat} {pk : Nat → Nat → Int} {l : Nat → Nat → Nat} {v : Nat → Nat → Nat → Int} {F : List Int} {P : Nat → Nat → Int} {b : Int}
theorem trade_cnt (h : tradeC np pk m l v F P nP b = 0) : ∀ i, i < m → cnt3 (tr2 l v F P nP) i ≤ 10 := by
  unfold tradeC at h
  split at h
  · split at h
    · split at h
      · rename_i h3
        exact (putC_ok h3).2
      · rename_i h3; exact absurd h h3
    · rename_i h3; exact absurd h h3
  · rename_i h3; exact absurd h h3
theorem tradeN_le : tradeN np pk m l v F P nP b ≤ m := by unfold tradeN; split <;> omega
theorem tradeT_len : ∀ s, s < 3 * tradeN np pk m l v F P nP b → (tradeT pk m l v F P nP b s).length ≤ 10 := fun s hs => by
  unfold tradeN at hs
  split at hs
  · rename_i h
    exact tr3_len (trade_cnt h) m (Nat.le_refl _) s hs
  · omega
theorem tradeM_len : (tradeM np pk m l v F P nP b).length ≤ 10 * m := by
  unfold tradeM
  split
  · rename_i h
    rw [srt_len]
    exact movs_len (trade_cnt h) m (Nat.le_refl _)
  · simp
end
theorem iL_set {L : List Int} {k : Nat} {x : Int} (h : k < L.length) : ∀ i, updR (iL L) k [.int .i64 x] i = iL (L.set k x) i := fun i => by
  unfold updR iL
  by_cases hi : i = k
  · subst hi
    rw [if_pos rfl]
    simp [List.getD_eq_getElem?_getD, h]
  · rw [if_neg hi]
    simp [List.getD_eq_getElem?_getD, List.getElem?_set_ne (fun e => hi e.symm)]
theorem TW.perm {c : Cx} {Q : Exit → Act → World → Prop} {F : Fr} {K K2 : List Fact} {x : Code} (hp : K.Perm K2) (h : TW c x Q F K2) : TW c x Q F K := fun a w hF hK => h a w hF (hK.perm hp)
end Go.Proofs.YtjephihlkjpohaaGreatDoor
namespace Go.Proofs.YtjephihlkjpohaaGreatDoor
set_option linter.all false
set_option linter.unusedVariables false
set_option linter.unusedSimpArgs false
open Go.RowKit
theorem great_no {np m : Nat} {l : Nat → Nat → Nat} (h : greatB np m l = false) : np ≤ 40 ∧ m ≤ 12 ∧ ∀ i, i < m → tot (l i) 3 ≤ 48 := by
  simp only [greatB, Bool.or_eq_false_iff, decide_eq_false_iff_not, anyB_false] at h
  refine ⟨by omega, by omega, fun i hi => ?_⟩
  have := h.2 i hi
  simp only [bigT, Bool.or_eq_false_iff, decide_eq_false_iff_not] at this
  rw [tot3]
  omega
end Go.Proofs.YtjephihlkjpohaaGreatDoor
