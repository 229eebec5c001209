/-
  Part 6 of the proof of brandLines_holds: declarations of several texts, in build order. No condition on a program.
-/
import Derived.Test.YtlphecckplndnaaBrln05
namespace Go.Proofs.Ytlphecckplndnaa
set_option linter.all false
set_option linter.unusedVariables false
set_option linter.unusedSimpArgs false
open Go.RowKit
set_option maxRecDepth 100000 in
theorem cloneSpan_any {A : Option Addr} {n cp : Nat} {S : BSt} {w : World} (hn : n ≤ 1000000000) (hR : RdR w 2 A n (fun k => spL (S k).1 (S k).2)) :
    CallsK Try.prog 36 #[.slice A n cp] [] w (Option Addr × Nat) (fun x => .slice x.1 n x.2) (fun x => [.own x.1 n x.2 47 2 (fun k => spL (S k).1 (S k).2)]) := by
  cases A with
  | none =>
    have h0 : n = 0 := by
      rcases Nat.eq_zero_or_pos n with h | h
      · exact h
      · obtain ⟨b, o, e, _⟩ := hR.rd h
        cases e
    subst h0
    refine K_enter (S := []) (K := []) Try.func36 rfl Try.ntmps36 rfl (Sat.start _) ?_
    refine TW.seq fun Y1 hY1 => ?_
    refine TW.region ?_
    refine TL.p Pu.as ?_
    refine TL.nil ?_
    refine TQ.thenN (hY1 _ _ ?_)
    refine TW.seq fun Y2 hY2 => ?_
    refine TW.seq fun Y3 hY3 => ?_
    refine TW.region ?_
    refine TL.p Pu.mv ?_
    refine TL.p Pu.bn ?_
    refine TL.nil ?_
    refine TQ.thenN (hY3 _ _ ?_)
    refine TW.condT rfl (rfl) ?_
    refine TW.seq fun Y4 hY4 => ?_
    refine TW.region ?_
    refine TL.p Pu.as ?_
    refine TL.nil ?_
    refine TQ.thenN (hY4 _ _ ?_)
    refine TW.ret ?_
    refine TQ.thenR ?_
    refine TQ.ret Try.results36 rfl ((.tmp rfl .nil)) ?_
    exact fun w hw => ⟨(none, 0), rfl, hw.sub (KSub.nilOwn KSub.nil)⟩
  | some p =>
    refine K_enter (S := []) (K := []) Try.func36 rfl Try.ntmps36 rfl (Sat.start _) ?_
    refine TW.seq fun Y1 hY1 => ?_
    refine TW.region ?_
    refine TL.p Pu.as ?_
    refine TL.nil ?_
    refine TQ.thenN (hY1 _ _ ?_)
    refine TW.seq fun Y2 hY2 => ?_
    refine TW.seq fun Y3 hY3 => ?_
    refine TW.region ?_
    refine TL.p Pu.mv ?_
    refine TL.p Pu.bn ?_
    refine TL.nil ?_
    refine TQ.thenN (hY3 _ _ ?_)
    refine TW.condF rfl (rfl) ?_
    refine TW.skip ?_
    refine TQ.thenN (hY2 _ _ ?_)
    refine TW.seq fun Y4 hY4 => ?_
    refine TW.region ?_
    refine TL.m Mk.bl ?_
    intro b1
    refine TL.p Pu.mv ?_
    refine TL.subK (KSub.ofBlk (n := 0) (sz := 2) (r := fun _ => []) Pick.hd rfl (fun _ h => by omega) rfl rfl KSub.nil) ?_
    first | refine TL.a0 ty_et25 ?_ | refine TL.ap ty_et25 ?_
    intro A2 c2
    refine TL.p Pu.as ?_
    refine TL.nil ?_
    refine TQ.thenN (hY4 _ _ ?_)
    refine TW.ret ?_
    refine TQ.ret Try.results36 rfl ((.tmp rfl .nil)) ?_
    exact fun w hw => ⟨(A2, c2), rfl, hw⟩
theorem backI_any {w : World} {A : Option Addr} {n cp : Nat} : CallsK Try.prog 42 #[.slice A n cp] [] w Nat (fun b => .func (.func 51) #[] #[.pointer (some ⟨b, 0, none⟩)]) (fun b => [.blk b 31 [.slice A n cp]]) := by
  refine K_enter (S := []) (K := []) Try.func42 rfl Try.ntmps42 rfl (Sat.start _) ?_
  refine TW.seq fun Y1 hY1 => ?_
  refine TW.region ?_
  refine TL.m Mk.bx ?_
  intro b1
  refine TL.p Pu.as ?_
  refine TL.nil ?_
  refine TQ.thenN (hY1 _ _ ?_)
  refine TW.seq fun Y2 hY2 => ?_
  refine TW.region ?_
  refine TL.p Pu.fn ?_
  refine TL.p Pu.as ?_
  refine TL.nil ?_
  refine TQ.thenN (hY2 _ _ ?_)
  refine TW.ret ?_
  refine TQ.ret Try.results42 rfl ((.tmp rfl .nil)) ?_
  exact fun w hw => ⟨b1, rfl, hw.sub (by repeat (first | exact KSub.nil | refine KSub.cons (by repeat (first | exact Pick.hd | apply Pick.tl)) ?_))⟩
def backM (A : Option Addr) (n cp b : Nat) (v : Nat → Int) : List Fact := [.blk b 31 [.slice A n cp], .own A n cp 3 1 (fun j => [.int .i64 (v j)])]
set_option maxRecDepth 100000 in
set_option maxHeartbeats 1000000 in
theorem backI1_iter {A : Option Addr} {n cp b : Nat} {v : Nat → Int} {S : List Nat} {W0 : World} (h1 : n ≤ 1000000) :
    IterK Try.prog 51 [.pointer (some ⟨b, 0, none⟩)] (backM A n cp b v) Unit (fun q _ => [.int .i64 ((n - 1 - q : Nat) : Int), .int .i64 (v (n - 1 - q))]) (fun _ _ => backM A n cp b v) (fun _ _ => backM A n cp b v) n [] S W0 := by
  intro lY R Rx J Jx r0 W hS hround
  refine K_enterW (S := S) (K := .blk b 31 [.slice A n cp] :: .own A n cp 3 1 (fun j => [.int .i64 (v j)]) :: J 0 r0) Try.func51 rfl Try.ntmps51 rfl hS ?_
  refine TW.seq fun Y1 hY1 => ?_
  refine TW.region ?_
  refine TL.p (by first | exact (Pu.ld ty_sc31) | exact (Pu.ldo ty_sc31)) ?_
  refine TL.p (Pu.ln Try.underlying31) ?_
  refine TL.p Pu.sb ?_
  refine TL.p Pu.as ?_
  refine TL.nil ?_
  refine TQ.thenN (hY1 _ _ ?_)
  refine TW.block ?_
  refine TW.loop2 (fun (q : Nat) (r : R) => [(3, .int .i64 ((n : Int) - 1 - (q : Int))), (0, .func (.yield lY) #[] #[]), (1, .pointer (some ⟨b, 0, none⟩))]) (fun q r => .blk b 31 [.slice A n cp] :: .own A n cp 3 1 (fun j => [.int .i64 (v j)]) :: J q r) (fun q r => q ≤ n) (fun q r => n - q) 0 r0 ⟨(by show some (Value.int .i64 _) = some (Value.int .i64 _); congr 2; omega), rfl, rfl, trivial⟩ ?_ ?_ ?_
  · exact (by repeat (first | exact KSub.nil | refine KSub.cons (by repeat (first | exact Pick.hd | apply Pick.tl)) ?_ | exact KSub.refl _ | refine KSub.drop ?_))
  · exact Nat.zero_le _
  rintro q r hq Z0 hZ0
  refine TW.seq fun Y2 hY2 => ?_
  refine TW.seq fun Y3 hY3 => ?_
  refine TW.region ?_
  refine TL.p Pu.mv ?_
  refine TL.p Pu.ge ?_
  refine TL.nil ?_
  refine TQ.thenN (hY3 _ _ ?_)
  refine TW.cond rfl (fun hc0 => ?_) (fun hc0 => ?_)
  · try simp only [decide_eq_true_eq, decide_eq_false_iff_not, Bool.not_eq_true', Bool.not_eq_false', Bool.and_eq_true, Bool.or_eq_true, Bool.and_eq_false_iff, Bool.or_eq_false_iff, Int.not_lt, Int.not_le] at hc0
    have hqn : q < n := by omega
    refine TW.skip ?_
    refine TQ.thenN (hY2 _ _ ?_)
    refine TW.seq fun Y4 hY4 => ?_
    refine TW.block ?_
    refine TW.seq fun Y5 hY5 => ?_
    refine TW.regionI ?_
    refine TLi.op (fun U1 hU1 => ?_) (by rintro ⟨_, _, h⟩; first | exact h | (obtain ⟨⟨_, h⟩, _⟩ := h; cases h) | cases h)
    refine TL.p Pu.mv ?_
    refine TL.nil ?_
    refine TQ.nxt (hU1 _ _ ?_)
    refine TLi.op (fun U2 hU2 => ?_) (by rintro ⟨_, _, h⟩; first | exact h | (obtain ⟨⟨_, h⟩, _⟩ := h; cases h) | cases h)
    refine TL.p Pu.mv ?_
    refine TL.nil ?_
    refine TQ.nxt (hU2 _ _ ?_)
    refine TLi.op (fun U3 hU3 => ?_) (by rintro ⟨_, _, h⟩; first | exact h | (obtain ⟨⟨_, h⟩, _⟩ := h; cases h) | cases h)
    refine TL.p (by first | exact (Pu.ld ty_sc31) | exact (Pu.ldo ty_sc31)) ?_
    refine TL.nil ?_
    refine TQ.nxt (hU3 _ _ ?_)
    refine TLi.op (fun U4 hU4 => ?_) (by rintro ⟨_, _, h⟩; first | exact h | (obtain ⟨⟨_, h⟩, _⟩ := h; cases h) | cases h)
    refine TL.p Pu.mv ?_
    refine TL.nil ?_
    refine TQ.nxt (hU4 _ _ ?_)
    refine TLi.op (fun U5 hU5 => ?_) (by rintro ⟨_, _, h⟩; first | exact h | (obtain ⟨⟨_, h⟩, _⟩ := h; cases h) | cases h)
    refine TL.p (Pu.el (q := n - 1 - q) ty_et31 (hk := by omega)) ?_
    refine TL.nil ?_
    refine TQ.nxt (hU5 _ _ ?_)
    refine TLi.op (fun U6 hU6 => ?_) (by rintro ⟨_, _, h⟩; first | exact h | (obtain ⟨⟨_, h⟩, _⟩ := h; cases h) | cases h)
    refine TL.p (by first | exact (Pu.ld ty_sc3) | exact (Pu.ldo ty_sc3)) ?_
    refine TL.nil ?_
    refine TQ.nxt (hU6 _ _ ?_)
    refine TLi.yi rfl rfl (fun w hw => by
        have h9 := hround q () r w hqn hw
        dsimp only at h9
        rw [show ((n - 1 - q : Nat) : Int) = (n : Int) - 1 - (q : Int) by omega] at h9
        exact h9) ?_ ?_
    · intro r'
      refine TLi.op (fun U7 hU7 => ?_) (by rintro ⟨_, _, h⟩; first | exact h | (obtain ⟨⟨_, h⟩, _⟩ := h; cases h) | cases h)
      refine TL.p Pu.no ?_
      refine TL.nil ?_
      refine TQ.nxt (hU7 _ _ ?_)
      refine TLi.nil ?_
      refine TQ.thenN (hY5 _ _ ?_)
      refine TW.condF rfl rfl ?_
      refine TW.skip ?_
      refine TQ.blkN ?_
      refine TQ.thenN (hY4 _ _ ?_)
      refine TW.region ?_
      refine TL.p Pu.mv ?_
      refine TL.p Pu.sb ?_
      refine TL.p Pu.as ?_
      refine TL.nil ?_
      refine TQ.thenN (hZ0 (q + 1) r' _ _ ?_ ?_ ⟨(by show some (Value.int .i64 _) = some (Value.int .i64 _); congr 2; omega), rfl, rfl, trivial⟩ ?_)
      · exact (by omega)
      · exact (by first | omega | (simp only []; omega) | (simp; omega))
      · exact KSub.refl _
    · intro x
      refine TLi.op (fun U8 hU8 => ?_) (by rintro ⟨_, _, h⟩; first | exact h | (obtain ⟨⟨_, h⟩, _⟩ := h; cases h) | cases h)
      refine TL.p Pu.no ?_
      refine TL.nil ?_
      refine TQ.nxt (hU8 _ _ ?_)
      refine TLi.nil ?_
      refine TQ.thenN (hY5 _ _ ?_)
      refine TW.condT rfl rfl ?_
      refine TW.ret ?_
      refine TQ.blkR ?_
      refine TQ.thenR ?_
      refine TQ.thenR ?_
      refine TQ.blkR ?_
      refine TQ.ret Try.results51 rfl (.nil) ?_
      exact fun w hw => ⟨⟨_, rfl⟩, .inr ⟨x, hw.sub (KSub.dropL _ (KSub.refl _))⟩⟩
  · try simp only [decide_eq_true_eq, decide_eq_false_iff_not, Bool.not_eq_true', Bool.not_eq_false', Bool.and_eq_true, Bool.or_eq_true, Bool.and_eq_false_iff, Bool.or_eq_false_iff, Int.not_lt, Int.not_le] at hc0
    obtain rfl : q = n := by omega
    refine TW.exit ?_
    refine TQ.thenX ?_
    refine TQ.thenX ?_
    refine TQ.blkX ?_
    refine TQ.end Try.results51 rfl (.nil) ?_
    exact fun w hw => ⟨⟨_, rfl⟩, .inl ⟨r, hw.sub (KSub.drop (KSub.drop (KSub.refl _)))⟩⟩
theorem emptySpan_any (a b : Int) (w : World) : Calls Try.prog 44 #[.agg (spL a b).toArray] w (Ret w (.bool (decide (b < a)))) := by
  refine K_enter (S := []) (K := []) Try.func44 rfl Try.ntmps44 rfl (Sat.start _) ?_
  refine TW.seq fun Y1 hY1 => ?_
  refine TW.region ?_
  refine TL.m Mk.bx ?_
  intro b1
  refine TL.p Pu.as ?_
  refine TL.nil ?_
  refine TQ.thenN (hY1 _ _ ?_)
  refine TW.seq fun Y2 hY2 => ?_
  refine TW.region ?_
  refine TL.p (by first | exact Pu.fb ty_fa47_0 | exact Pu.fe ty_fa47_0) ?_
  refine TL.p (Pu.ld ty_sc3) ?_
  refine TL.p (by first | exact Pu.fb ty_fa47_1 | exact Pu.fe ty_fa47_1) ?_
  refine TL.p (Pu.ld ty_sc3) ?_
  refine TL.p Pu.gt ?_
  refine TL.p Pu.as ?_
  refine TL.nil ?_
  refine TQ.thenN (hY2 _ _ ?_)
  refine TW.ret ?_
  refine TQ.ret Try.results44 rfl ((.tmp rfl .nil)) ?_
  exact fun w hw => Ret.of hw
structure HwIn (w : World) (H : Hd) (A : Option Addr) (cp : Nat) (x : OpX) : Prop where
  oB : OldB w x.1.1 [.slice A H.n cp, .map (some x.1.2), .slice x.2.1.1 H.n x.2.1.2, .slice x.2.2.1 H.n x.2.2.2]
  oP : w.heap[x.1.2]? = some (mapO .i64 (plM H H.n))
  oM : RdR w 1 x.2.1.1 H.n (fun j => [.int .i64 (moH H j)])
  oK : RdR w 8 x.2.2.1 H.n (fun j => octL (sgH H j))
theorem bd_up {f : Nat → Int} {n K i : Nat} {S : BSt} (hf : Mo f n) (hi : i < n) (h : ∀ j, j < n → -(K : Int) ≤ (S j).1 ∧ (S j).1 ≤ K ∧ -(K : Int) ≤ (S j).2 ∧ (S j).2 ≤ K) : ∀ j, j < n → -((K + 10000 : Nat) : Int) ≤ (upS f S i j).1 ∧ (upS f S i j).1 ≤ ((K + 10000 : Nat) : Int) ∧ -((K + 10000 : Nat) : Int) ≤ (upS f S i j).2 ∧ (upS f S i j).2 ≤ ((K + 10000 : Nat) : Int) := fun j hj => by
  have h1 := h j hj
  have h2 := h i hi
  unfold upS
  split
  · by_cases e : j = (f i).toNat
    · subst e; rw [putS1_at]; unfold comm shf; dsimp only; omega
    · rw [putS1_ne e]; omega
  · omega
theorem bd_dn {f : Nat → Int} {n K i : Nat} {S : BSt} (hf : Mo f n) (hi : i < n) (h : ∀ j, j < n → -(K : Int) ≤ (S j).1 ∧ (S j).1 ≤ K ∧ -(K : Int) ≤ (S j).2 ∧ (S j).2 ≤ K) : ∀ j, j < n → -((K + 10000 : Nat) : Int) ≤ (dnS f S i j).1 ∧ (dnS f S i j).1 ≤ ((K + 10000 : Nat) : Int) ∧ -((K + 10000 : Nat) : Int) ≤ (dnS f S i j).2 ∧ (dnS f S i j).2 ≤ ((K + 10000 : Nat) : Int) := fun j hj => by
  have h1 := h j hj
  unfold dnS
  split
  · rename_i h0
    have h2 := h (f i).toNat (by have := hf i hi; omega)
    by_cases e : j = i
    · subst e; rw [putS1_at]; unfold comm shf; dsimp only; omega
    · rw [putS1_ne e]; omega
  · omega
def BdS (n K : Nat) (S : BSt) : Prop := ∀ j, j < n → -(K : Int) ≤ (S j).1 ∧ (S j).1 ≤ K ∧ -(K : Int) ≤ (S j).2 ∧ (S j).2 ≤ K
theorem take_at {L : List Nat} {p : Nat} (h : p < L.length) : L.take (p + 1) = L.take p ++ [L.getD p 0] := by
  rw [List.take_succ, List.getElem?_eq_getElem h]
  simp [List.getD_eq_getElem?_getD, h]
theorem upP_at {f : Nat → Int} {S : BSt} {L : List Nat} {p : Nat} (h : p < L.length) : upP f S (L.take (p + 1)) = upS f (upP f S (L.take p)) (L.getD p 0) := by
  rw [take_at h]; simp [upP]
theorem dnP_at {f : Nat → Int} {S : BSt} {L : List Nat} {p : Nat} (h : p < L.length) : dnP f S (L.take (p + 1)) = dnS f (dnP f S (L.take p)) (L.getD p 0) := by
  rw [take_at h]; simp [dnP]
theorem bd_upP {f : Nat → Int} {n K : Nat} {S : BSt} {L : List Nat} (hf : Mo f n) (hL : ∀ i ∈ L, i < n) (h : BdS n K S) : ∀ p, p ≤ L.length → BdS n (K + 10000 * p) (upP f S (L.take p))
  | 0, _ => by simpa [upP] using h
  | p + 1, hp => by
    rw [upP_at (by omega)]
    have h1 := bd_up hf (hL (L.getD p 0) (by rw [List.getD_eq_getElem?_getD, List.getElem?_eq_getElem (show p < L.length by omega)]; exact List.getElem_mem _)) (bd_upP hf hL h p (by omega))
    rw [show K + 10000 * (p + 1) = K + 10000 * p + 10000 by omega]
    exact h1
theorem bd_dnP {f : Nat → Int} {n K : Nat} {S : BSt} {L : List Nat} (hf : Mo f n) (hL : ∀ i ∈ L, i < n) (h : BdS n K S) : ∀ p, p ≤ L.length → BdS n (K + 10000 * p) (dnP f S (L.take p))
  | 0, _ => by simpa [dnP] using h
  | p + 1, hp => by
    rw [dnP_at (by omega)]
    have h1 := bd_dn hf (hL (L.getD p 0) (by rw [List.getD_eq_getElem?_getD, List.getElem?_eq_getElem (show p < L.length by omega)]; exact List.getElem_mem _)) (bd_dnP hf hL h p (by omega))
    rw [show K + 10000 * (p + 1) = K + 10000 * p + 10000 by omega]
    exact h1
theorem getD_memN {L : List Nat} {p : Nat} (h : p < L.length) : L.getD p 0 ∈ L := by
  rw [List.getD_eq_getElem?_getD, List.getElem?_eq_getElem h]
  exact List.getElem_mem _
theorem rev_getD {L : List Nat} {q : Nat} (h : q < L.length) : L.reverse.getD q 0 = L.getD (L.length - 1 - q) 0 := by
  rw [List.getD_eq_getElem?_getD, List.getD_eq_getElem?_getD, List.getElem?_reverse h]
theorem RdR.cg {w : World} {sz n : Nat} {A : Option Addr} {r s : Nat → List Value} (h : RdR w sz A n r) (e : ∀ j, j < n → r j = s j) : RdR w sz A n s := ⟨h.rd.congr fun j q hj _ => by simp only [rowF]; rw [e j hj], fun j hj => by rw [← e j hj]; exact h.len j hj⟩
theorem row_put {S T : BSt} {i j : Nat} {a b : Int} (h : T = putS1 S i (a, b)) : updR (fun j => spL (S j).1 (S j).2) i [.int .i64 a, .int .i64 b] j = spL (T j).1 (T j).2 := by
  subst h
  unfold updR putS1
  by_cases e : j = i
  · rw [if_pos e, if_pos e]; rfl
  · rw [if_neg e, if_neg e]
set_option maxRecDepth 100000 in
set_option maxHeartbeats 4000000 in
theorem births_any {w : World} {H : Hd} {A : Option Addr} {cp : Nat} {x : OpX} {Ao : Option Addr} {co B : Nat} {S : BSt} (hk : HOk H) (hW : HwIn w H A cp x) (hR : RdR w 2 Ao H.n (fun j => spL (S j).1 (S j).2)) (hS : BdS H.n B S) (hB : B ≤ 1000000) :
    CallsK Try.prog 27 #[.pointer (some ⟨x.1.1, 0, none⟩), .slice Ao H.n co] [] w (Option Addr × Nat) (fun y => .tuple #[.slice y.1 H.n y.2, .bool (bthOk (moH H) H.n S)]) (fun y => [.own y.1 H.n y.2 47 2 (fun j => spL (bth (moH H) H.n S j).1 (bth (moH H) H.n S j).2)]) := by
  have h16 := hk.n16
  have hoB := hW.oB
  have hoM := hW.oM
  refine K_enterM (S := []) (K := []) Try.func27 rfl Try.ntmps27 rfl (Sat.start _) ?_
  refine TW.seqD fun Y1 hY1 => ?_
  refine TW.region ?_
  refine TL.m Mk.bx ?_
  intro b1
  refine TL.p Pu.as ?_
  refine TL.p Pu.as ?_
  refine TL.nil ?_
  refine TQ.thenN (hY1 _ _ _ ?_)
  refine TW.seqD fun Y2 hY2 => ?_
  refine TW.region ?_
  refine TL.p Pu.mv ?_
  refine TL.call (M := []) rfl (enters Try.func36 rfl rfl) (List.Perm.refl _) rfl (fun w hw => by
      exact cloneSpan_any (S := S) (by omega) (hR.sat hw Apart.nil)) ?_
  rintro ⟨A2, c2⟩
  refine TL.m (Mk.al ty_zr25) ?_
  intro b2
  first | refine TL.st ty_sz25 ?_ | refine TL.se ty_sz25 ?_
  refine TL.nil ?_
  refine TQ.thenN (hY2 _ _ _ ?_)
  refine TW.seqD fun Y3 hY3 => ?_
  refine TW.region ?_
  refine TL.p Pu.as ?_
  refine TL.nil ?_
  refine TQ.thenN (hY3 _ _ _ ?_)
  refine TW.seqD fun Y4 hY4 => ?_
  refine TW.region ?_
  refine TL.p (Pu.ld ty_sc25) ?_
  refine TL.p (Pu.ln Try.underlying25) ?_
  refine TL.ms ty_et31 ty_zr3 ?_
  intro b3
  refine TL.m (Mk.al ty_zr31) ?_
  intro b4
  first | refine TL.st ty_sz31 ?_ | refine TL.se ty_sz31 ?_
  refine TL.nil ?_
  refine TQ.thenN (hY4 _ _ _ ?_)
  refine TW.seqD fun Y5 hY5 => ?_
  refine TW.seqD fun Y6 hY6 => ?_
  refine TW.region ?_
  refine TL.p (Pu.ld ty_sc25) ?_
  refine TL.p (Pu.ln Try.underlying25) ?_
  refine TL.p Pu.mv ?_
  refine TL.nil ?_
  refine TQ.thenN (hY6 _ _ _ ?_)
  refine TW.block ?_
  refine TW.loopM3 (fun (i : Nat) (Ar : Option Addr) (cr : Nat) => [(23, .int .i64 (i : Int)), (22, .int .i64 (H.n : Int)), (7, .slice Ar i cr), (2, .pointer (some ⟨b1, 0, none⟩)), (6, .pointer (some ⟨b2, 0, none⟩)), (8, .pointer (some ⟨b4, 0, none⟩))]) (fun i Ar cr Ds => .own Ar i cr 3 1 (fun j => [.int .i64 (j : Int)]) :: .own (some ⟨b3, 0, none⟩) H.n H.n 3 1 (fun j => [.int .i64 (if j < i then (depH (moH H) H.n j : Int) else 0)]) :: .blk b4 31 [.slice (some ⟨b3, 0, none⟩) H.n H.n] :: .own A2 H.n c2 47 2 (fun j => spL (S j).1 (S j).2) :: .blk b2 25 [.slice A2 H.n c2] :: .blk b1 51 [.pointer (some ⟨x.1.1, 0, none⟩)] :: defK Ds) (fun i Ar cr => i ≤ H.n) (fun i Ar cr => H.n - i) 0 none 0 ([]) (by repeat (first | exact trivial | refine ⟨rfl, ?_⟩ | refine ⟨trivial, ?_⟩)) ?_ ?_ ?_
  · exact KSub.nilOwn (KSub.own (by repeat (first | exact Pick.hd | apply Pick.tl)) (fun j hj => by rw [if_neg (Nat.not_lt_zero j)]) (KSub.cons (by repeat (first | exact Pick.hd | apply Pick.tl)) (KSub.cons (by repeat (first | exact Pick.hd | apply Pick.tl)) (KSub.cons (by repeat (first | exact Pick.hd | apply Pick.tl)) (KSub.cons (by repeat (first | exact Pick.hd | apply Pick.tl)) KSub.nil)))))
  · exact Nat.zero_le _
  rintro i Ar cr hi Ds Z0 hZ0
  refine TW.seqD fun Y7 hY7 => ?_
  refine TW.region ?_
  refine TL.p Pu.lt ?_
  refine TL.nil ?_
  refine TQ.thenN (hY7 _ _ _ ?_)
  refine TW.seqD fun Y8 hY8 => ?_
  refine TW.cond rfl (fun hc0 => ?_) (fun hc0 => ?_)
  · try simp only [decide_eq_true_eq, decide_eq_false_iff_not, Bool.not_eq_true', Bool.not_eq_false', Bool.and_eq_true, Bool.or_eq_true, Bool.and_eq_false_iff, Bool.or_eq_false_iff, Int.not_lt, Int.not_le] at hc0
    have hin : i < H.n := by omega
    refine TW.skip ?_
    refine TQ.thenN (hY8 _ _ _ ?_)
    refine TW.seqD fun Y9 hY9 => ?_
    refine TW.block ?_
    refine TW.seqD fun Y10 hY10 => ?_
    refine TW.region ?_
    refine TL.p Pu.mv ?_
    refine TL.m (Mk.al ty_zr3) ?_
    intro b5
    first | refine TL.st ty_sz3 ?_ | refine TL.se ty_sz3 ?_
    refine TL.nil ?_
    refine TQ.thenN (hY10 _ _ _ ?_)
    refine TW.seqD fun Y11 hY11 => ?_
    refine TW.seqD fun Y12 hY12 => ?_
    refine TW.region ?_
    refine TL.p (Pu.ld ty_sc51) ?_
    refine TL.p (Pu.ld ty_sc3) ?_
    refine TL.call (M := []) rfl (enters Try.func22 rfl rfl) (List.Perm.refl _) rfl (fun w hw => by
        exact line_any) ?_
    rintro ⟨bi, bp⟩
    refine TL.nil ?_
    refine TQ.thenN (hY12 _ _ _ ?_)
    refine TW.block ?_
    refine TW.rangeR (fun (q : Nat) (_ : Unit) => .own (some ⟨b3, 0, none⟩) H.n H.n 3 1 (fun j => [.int .i64 (if j = i then (q : Int) else if j < i then (depH (moH H) H.n j : Int) else 0)]) :: .blk b5 3 [.int .i64 (i : Int)] :: .own Ar i cr 3 1 (fun j => [.int .i64 (j : Int)]) :: .blk b4 31 [.slice (some ⟨b3, 0, none⟩) H.n H.n] :: .own A2 H.n c2 47 2 (fun j => spL (S j).1 (S j).2) :: .blk b2 25 [.slice A2 H.n c2] :: .blk b1 51 [.pointer (some ⟨x.1.1, 0, none⟩)] :: defK Ds) (fun x : Empty => x.elim) (fun x => x.elim) (()) (fun x y => line1_iter (N := depH (moH H) H.n i) (bi := bi) (bp := bp) (i := i) hoB Apart.nil hoM Apart.nil moH_Mo hin (.inl ⟨rfl, hk.ac i hin⟩)) ?_ ?_ ?_ ?_ (eg := enters Try.func34 rfl rfl)
    · refine KSub.cons (by repeat (first | exact Pick.hd | apply Pick.tl)) (KSub.cons (by repeat (first | exact Pick.hd | apply Pick.tl)) (KSub.own (by repeat (first | exact Pick.hd | apply Pick.tl)) (fun j hj => ?_) (KSub.cons (by repeat (first | exact Pick.hd | apply Pick.tl)) (KSub.cons (by repeat (first | exact Pick.hd | apply Pick.tl)) (KSub.cons (by repeat (first | exact Pick.hd | apply Pick.tl)) (KSub.cons (by repeat (first | exact Pick.hd | apply Pick.tl)) (KSub.cons (by repeat (first | exact Pick.hd | apply Pick.tl)) (KSub.cons (by repeat (first | exact Pick.hd | apply Pick.tl)) (KSub.refl _)))))))))
      by_cases e : j = i
      · rw [if_neg (by omega), if_pos e]; rfl
      · rw [if_neg e]
    · rintro lR DR oR oR1 oR2 q g r hq ZR0 hZR0
      simp only [linM, List.cons_append, List.nil_append]
      have hdl := dep_le (f := moH H) (n := H.n) (i := i)
      refine TWi.skip ?_
      refine TQ.thenN (hZR0 _ _ _ Pick.hd ?_)
      refine TWi.block ?_
      refine TWi.region ?_
      refine TL.p (Pu.ld ty_sc31) ?_
      refine TL.p (Pu.ld ty_sc3) ?_
      refine TL.p (Pu.el ty_et31) ?_
      refine TL.p (Pu.ld (v := .int .i64 (q : Int)) ty_sc3 (hq := Cells.own (m := 1) (by repeat (first | exact Pick.hd | apply Pick.tl)) (by omega) (by rw [if_pos rfl]; exact SubL.take SubL.nil))) ?_
      refine TL.p Pu.ad ?_
      refine TL.p (Pu.el ty_et31) ?_
      first | refine TL.st ty_sz3 ?_ | refine TL.se ty_sz3 ?_
      refine TL.nil ?_
      refine TQ.blkN ?_
      refine TQ.rbN (()) ?_
      refine KSub.cons (by repeat (first | exact Pick.hd | apply Pick.tl)) (KSub.cons (by repeat (first | exact Pick.hd | apply Pick.tl)) (KSub.cons (by repeat (first | exact Pick.hd | apply Pick.tl)) (KSub.cons (by repeat (first | exact Pick.hd | apply Pick.tl)) (KSub.own (by repeat (first | exact Pick.hd | apply Pick.tl)) (fun j hj => ?_) (KSub.cons (by repeat (first | exact Pick.hd | apply Pick.tl)) (KSub.cons (by repeat (first | exact Pick.hd | apply Pick.tl)) (KSub.cons (by repeat (first | exact Pick.hd | apply Pick.tl)) (KSub.cons (by repeat (first | exact Pick.hd | apply Pick.tl)) (KSub.cons (by repeat (first | exact Pick.hd | apply Pick.tl)) (KSub.cons (by repeat (first | exact Pick.hd | apply Pick.tl)) (KSub.refl _)))))))))))
      unfold updR
      by_cases e : j = i
      · rw [if_pos e, if_pos e]; rfl
      · simp only [if_neg e]
    · rintro DR r
      simp only [List.nil_append]
      refine TQ.blkN ?_
      refine TQ.thenN (hY11 _ _ _ ?_)
      refine TW.region ?_
      refine TL.p Pu.mv ?_
      refine TL.p (Pu.ld ty_sc3) ?_
      refine TL.m Mk.bl ?_
      intro b6
      first | refine TL.a0 ty_et31 ?_ | refine TL.ap ty_et31 ?_
      intro A7 c7
      refine TL.p Pu.as ?_
      refine TL.nil ?_
      refine TQ.blkN ?_
      refine TQ.thenN (hY9 _ _ _ ?_)
      refine TW.region ?_
      refine TL.p Pu.ad ?_
      refine TL.p Pu.mv ?_
      refine TL.nil ?_
      refine TQ.thenN (hZ0 (i + 1) A7 c7 (DR :: Ds) _ _ ?_ ?_ (by repeat (first | exact trivial | refine ⟨rfl, ?_⟩ | refine ⟨trivial, ?_⟩)) ?_)
      · exact (by omega)
      · exact (by first | omega | (simp only []; omega) | (simp; omega))
      · refine KSub.own (by repeat (first | exact Pick.hd | apply Pick.tl)) (fun j hj => cat_rows (r := fun j => [Value.int .i64 (j : Int)]) rfl hj) (KSub.own (by repeat (first | exact Pick.hd | apply Pick.tl)) (fun j hj => ?_) (KSub.cons (by repeat (first | exact Pick.hd | apply Pick.tl)) (KSub.cons (by repeat (first | exact Pick.hd | apply Pick.tl)) (KSub.cons (by repeat (first | exact Pick.hd | apply Pick.tl)) (KSub.cons (by repeat (first | exact Pick.hd | apply Pick.tl)) (KSub.cons (by repeat (first | exact Pick.hd | apply Pick.tl)) (KSub.drop (KSub.drop (KSub.refl _)))))))))
        by_cases e : j = i
        · subst e; rw [if_pos rfl, if_pos (by omega)]
        · rw [if_neg e]
          by_cases e2 : j < i
          · rw [if_pos e2, if_pos (by omega)]
          · rw [if_neg e2, if_neg (by omega)]
    · intro _ x; exact x.elim
  · try simp only [decide_eq_true_eq, decide_eq_false_iff_not, Bool.not_eq_true', Bool.not_eq_false', Bool.and_eq_true, Bool.or_eq_true, Bool.and_eq_false_iff, Bool.or_eq_false_iff, Int.not_lt, Int.not_le] at hc0
    obtain rfl : i = H.n := by omega
    refine TW.exit ?_
    refine TQ.thenX ?_
    refine TQ.thenX ?_
    refine TQ.blkX ?_
    refine TQ.thenN (hY5 _ _ _ ?_)
    refine TW.seqD fun Y13 hY13 => ?_
    refine TW.region ?_
    refine TL.p Pu.mv ?_
    refine TL.p Pu.fn ?_
    refine TL.call rfl (enters Try.func37 rfl rfl) (M := [.own Ar H.n cr 3 1 (fun j => [.int .i64 (j : Int)])]) (Pick.perm (by repeat (first | exact Pick.hd | apply Pick.tl))) rfl (fun w hw => by
        have hw2 := hw.perm (Pick.perm (φ := .own Ar H.n cr 3 1 (fun j => [.int .i64 (j : Int)])) (by repeat (first | exact Pick.hd | apply Pick.tl)))
        exact sortDep_any (dep := depH (moH H) H.n) (by omega) (hw2.holds _ (List.mem_cons_self ..)) (OldB.of_blk (hw.holds (.blk b4 31 [.slice (some ⟨b3, 0, none⟩) H.n H.n]) (by simp))) ((OwnR.rdr (hw.holds (.own (some ⟨b3, 0, none⟩) H.n H.n 3 1 (fun j => [.int .i64 (if j < H.n then (depH (moH H) H.n j : Int) else 0)])) (by simp))).cg fun j hj => by rw [if_pos hj]) (Sat.apartB (K1 := [.own Ar H.n cr 3 1 (fun j => [.int .i64 (j : Int)])]) (t := 31) (cs := [.slice (some ⟨b3, 0, none⟩) H.n H.n]) hw2 (by simp)) (fun _ => Sat.apartO (K1 := [.own Ar H.n cr 3 1 (fun j => [.int .i64 (j : Int)])]) (n := H.n) (c := H.n) (E := 3) (sz := 1) (r := fun j => [.int .i64 (if j < H.n then (depH (moH H) H.n j : Int) else 0)]) hw2 (by simp))) ?_
    rintro ⟨L, hLp, hLw⟩
    have hO : Ordd (moH H) H.n L := ⟨fun i => hLp.mem_iff.trans List.mem_range, hLp.nodup_iff.2 List.nodup_range, hLw⟩
    have hLl : L.length = H.n := by rw [hLp.length_eq, List.length_range]
    have hLm : ∀ i ∈ L, i < H.n := fun i hi => (hO.mem i).1 hi
    refine TL.nil ?_
    refine TQ.thenN (hY13 _ _ _ ?_)
    refine TW.seqD fun Y14 hY14 => ?_
    refine TW.seqD fun Y15 hY15 => ?_
    refine TW.region ?_
    refine TL.p Pu.mv ?_
    refine TL.p (Pu.ln Try.underlying31) ?_
    refine TL.p Pu.mv ?_
    refine TL.nil ?_
    refine TQ.thenN (hY15 _ _ _ ?_)
    refine TW.block ?_
    refine TW.loop1 (fun (p : Nat) => [(46, .int .i64 (p : Int)), (45, .int .i64 (H.n : Int)), (44, .slice Ar H.n cr), (7, .slice Ar H.n cr), (2, .pointer (some ⟨b1, 0, none⟩)), (6, .pointer (some ⟨b2, 0, none⟩))]) (fun p => .own A2 H.n c2 47 2 (fun j => spL (upP (moH H) S (L.take p) j).1 (upP (moH H) S (L.take p) j).2) :: .own Ar H.n cr 3 1 (fun j => [.int .i64 ((L.getD j 0 : Nat) : Int)]) :: .blk b2 25 [.slice A2 H.n c2] :: .blk b1 51 [.pointer (some ⟨x.1.1, 0, none⟩)] :: defK Ds) (fun p => p ≤ H.n) (fun p => H.n - p) 0 (by repeat (first | exact trivial | refine ⟨rfl, ?_⟩ | refine ⟨trivial, ?_⟩)) ?_ ?_ ?_
    · exact KSub.cons (by repeat (first | exact Pick.hd | apply Pick.tl)) (KSub.cons (by repeat (first | exact Pick.hd | apply Pick.tl)) (KSub.cons (by repeat (first | exact Pick.hd | apply Pick.tl)) (KSub.cons (by repeat (first | exact Pick.hd | apply Pick.tl)) (KSub.drop (KSub.drop (KSub.refl _))))))
    · exact Nat.zero_le _
    rintro p hp Z1 hZ1
    refine TW.seqD fun Y16 hY16 => ?_
    refine TW.region ?_
    refine TL.p Pu.lt ?_
    refine TL.nil ?_
    refine TQ.thenN (hY16 _ _ _ ?_)
    refine TW.seqD fun Y17 hY17 => ?_
    refine TW.cond rfl (fun hc1 => ?_) (fun hc1 => ?_)
    · try simp only [decide_eq_true_eq, decide_eq_false_iff_not, Bool.not_eq_true', Bool.not_eq_false', Bool.and_eq_true, Bool.or_eq_true, Bool.and_eq_false_iff, Bool.or_eq_false_iff, Int.not_lt, Int.not_le] at hc1
      have hpn : p < H.n := by omega
      have hiL := hLm _ (getD_memN (show p < L.length by omega))
      have hbd := bd_upP moH_Mo hLm hS p (by omega)
      have hat := upP_at (f := moH H) (S := S) (show p < L.length by omega)
      generalize upP (moH H) S (L.take p) = U at hbd hat ⊢
      generalize hi9 : L.getD p 0 = i at *
      have hmb := moH_Mo (H := H) i hiL
      refine TW.skip ?_
      refine TQ.thenN (hY17 _ _ _ ?_)
      refine TW.seqD fun Y18 hY18 => ?_
      refine TW.block ?_
      refine TW.seqD fun Y19 hY19 => ?_
      refine TW.region ?_
      refine TL.p (Pu.el ty_et31) ?_
      refine TL.p (Pu.ld (v := .int .i64 (i : Int)) ty_sc3 (hq := Cells.own (m := 1) (by repeat (first | exact Pick.hd | apply Pick.tl)) (by omega) (by show SubL [Value.int .i64 ((L.getD p 0 : Nat) : Int)] _ _ _; rw [hi9]; exact SubL.take SubL.nil))) ?_
      refine TL.p Pu.as ?_
      refine TL.nil ?_
      refine TQ.thenN (hY19 _ _ _ ?_)
      refine TW.seqD fun Y20 hY20 => ?_
      refine TW.region ?_
      refine TL.p (Pu.ld ty_sc51) ?_
      refine TL.p (by first | exact Pu.nn | exact Pu.nc) ?_
      refine TL.p (by first | exact Pu.fb ty_fa63_2 | exact Pu.fe ty_fa63_2) ?_
      refine TL.p (Pu.ldo ty_sc31) ?_
      refine TL.p Pu.mv ?_
      refine TL.p (Pu.el (q := i) ty_et31) ?_
      refine TL.p (Pu.ld ty_sc3) ?_
      refine TL.p Pu.as ?_
      refine TL.nil ?_
      refine TQ.thenN (hY20 _ _ _ ?_)
      refine TW.seqD fun Y21 hY21 => ?_
      refine TW.region ?_
      refine TL.p Pu.mv ?_
      refine TL.p Pu.ge ?_
      refine TL.nil ?_
      refine TQ.thenN (hY21 _ _ _ ?_)
      refine TW.cond rfl (fun hc2 => ?_) (fun hc2 => ?_)
      · try simp only [decide_eq_true_eq, decide_eq_false_iff_not, Bool.not_eq_true', Bool.not_eq_false', Bool.and_eq_true, Bool.or_eq_true, Bool.and_eq_false_iff, Bool.or_eq_false_iff, Int.not_lt, Int.not_le] at hc2
        have hm0 : 0 ≤ moH H i := hc2
        have bi2 := hbd i hiL
        have bm2 := hbd (moH H i).toNat (by omega)
        refine TW.np ?_
        refine TW.dw 13 ?_
        refine RK.tk (Pu.ld ty_sc25) ?_
        refine RK.tk Pu.mv ?_
        refine RK.tk (Pu.ld ty_sc25) ?_
        refine RK.tk Pu.mv ?_
        refine RK.tk (Pu.el (q := (moH H i).toNat) ty_et25 (hk := rfl)) ?_
        refine RK.tk (Pu.lds ty_ag47) ?_
        refine RK.tk (Pu.ld ty_sc25) ?_
        refine RK.tk Pu.mv ?_
        refine RK.tk (Pu.el (q := i) ty_et25) ?_
        refine RK.tk (Pu.lds ty_ag47) ?_
        refine RK.keep ?_
        refine RK.keep ?_
        refine RK.keep ?_
        refine RK.ch [false, false, true] ?_ trivial
        refine WK.cr rfl (enters Try.func41 rfl rfl) (fun w hw => by
            exact bShifted_any _ _ _ _ _ (by omega)) ?_
        refine WK.cr rfl (enters Try.func40 rfl rfl) (fun w hw => by
            exact bCommon_any _ _ _ _ _) ?_
        refine WK.p (Pu.el (q := (moH H i).toNat) ty_et25 (hk := rfl)) ?_
        refine WK.n ?_
        first | refine TL.st ty_sz47 ?_ | refine TL.se ty_sz47 ?_
        refine TL.nil ?_
        refine TQ.npN ?_
        refine TQ.blkN ?_
        refine TQ.thenN (hY18 _ _ _ ?_)
        refine TW.region ?_
        refine TL.p Pu.ad ?_
        refine TL.p Pu.mv ?_
        refine TL.nil ?_
        refine TQ.thenN (hZ1 (p + 1) _ _ ?_ ?_ (by repeat (first | exact trivial | refine ⟨rfl, ?_⟩ | refine ⟨trivial, ?_⟩)) ?_)
        · exact (by omega)
        · exact (by first | omega | (simp only []; omega) | (simp; omega))
        · first
            | (refine KSub.own (by repeat (first | exact Pick.hd | apply Pick.tl)) (fun j hj => row_put ?_) (KSub.cons (by repeat (first | exact Pick.hd | apply Pick.tl)) (KSub.cons (by repeat (first | exact Pick.hd | apply Pick.tl)) (KSub.cons (by repeat (first | exact Pick.hd | apply Pick.tl)) (KSub.refl _))))
               rw [hat]
               unfold upS
               rw [if_pos hm0]
               rfl)
            | (refine KSub.own (by repeat (first | exact Pick.hd | apply Pick.tl)) (fun j hj => ?_) (KSub.cons (by repeat (first | exact Pick.hd | apply Pick.tl)) (KSub.cons (by repeat (first | exact Pick.hd | apply Pick.tl)) (KSub.cons (by repeat (first | exact Pick.hd | apply Pick.tl)) (KSub.refl _))))
               rw [hat]
               unfold upS
               rw [if_neg hm0])
      · try simp only [decide_eq_true_eq, decide_eq_false_iff_not, Bool.not_eq_true', Bool.not_eq_false', Bool.and_eq_true, Bool.or_eq_true, Bool.and_eq_false_iff, Bool.or_eq_false_iff, Int.not_lt, Int.not_le] at hc2
        have hm0 : ¬ 0 ≤ moH H i := by omega
        refine TW.skip ?_
        refine TQ.blkN ?_
        refine TQ.thenN (hY18 _ _ _ ?_)
        refine TW.region ?_
        refine TL.p Pu.ad ?_
        refine TL.p Pu.mv ?_
        refine TL.nil ?_
        refine TQ.thenN (hZ1 (p + 1) _ _ ?_ ?_ (by repeat (first | exact trivial | refine ⟨rfl, ?_⟩ | refine ⟨trivial, ?_⟩)) ?_)
        · exact (by omega)
        · exact (by first | omega | (simp only []; omega) | (simp; omega))
        · first
            | (refine KSub.own (by repeat (first | exact Pick.hd | apply Pick.tl)) (fun j hj => row_put ?_) (KSub.cons (by repeat (first | exact Pick.hd | apply Pick.tl)) (KSub.cons (by repeat (first | exact Pick.hd | apply Pick.tl)) (KSub.cons (by repeat (first | exact Pick.hd | apply Pick.tl)) (KSub.refl _))))
               rw [hat]
               unfold upS
               rw [if_pos hm0]
               rfl)
            | (refine KSub.own (by repeat (first | exact Pick.hd | apply Pick.tl)) (fun j hj => ?_) (KSub.cons (by repeat (first | exact Pick.hd | apply Pick.tl)) (KSub.cons (by repeat (first | exact Pick.hd | apply Pick.tl)) (KSub.cons (by repeat (first | exact Pick.hd | apply Pick.tl)) (KSub.refl _))))
               rw [hat]
               unfold upS
               rw [if_neg hm0])
    · try simp only [decide_eq_true_eq, decide_eq_false_iff_not, Bool.not_eq_true', Bool.not_eq_false', Bool.and_eq_true, Bool.or_eq_true, Bool.and_eq_false_iff, Bool.or_eq_false_iff, Int.not_lt, Int.not_le] at hc1
      obtain rfl : p = H.n := by omega
      have hUe : upP (moH H) S (L.take H.n) = upP (moH H) S L := by rw [List.take_of_length_le (by omega)]
      rw [hUe]
      refine TW.exit ?_
      refine TQ.thenX ?_
      refine TQ.thenX ?_
      refine TQ.blkX ?_
      refine TQ.thenN (hY14 _ _ _ ?_)
      refine TW.seqD fun Y22 hY22 => ?_
      refine TW.seqD fun Y23 hY23 => ?_
      refine TW.region ?_
      refine TL.p Pu.mv ?_
      refine TL.call (M := []) rfl (enters Try.func42 rfl rfl) (List.Perm.refl _) rfl (fun w hw => by
          exact backI_any) ?_
      rintro bk
      refine TL.nil ?_
      refine TQ.thenN (hY23 _ _ _ ?_)
      refine TW.block ?_
      refine TW.rangeR (fun (q : Nat) (_ : Unit) => .own A2 H.n c2 47 2 (fun j => spL (dnP (moH H) (upP (moH H) S L) (L.reverse.take q) j).1 (dnP (moH H) (upP (moH H) S L) (L.reverse.take q) j).2) :: .blk b2 25 [.slice A2 H.n c2] :: .blk b1 51 [.pointer (some ⟨x.1.1, 0, none⟩)] :: defK Ds) (fun x : Empty => x.elim) (fun x => x.elim) (()) (fun x y => (backI1_iter (A := Ar) (n := H.n) (cp := cr) (b := bk) (v := fun j => ((L.getD j 0 : Nat) : Int)) (by omega)).at) ?_ ?_ ?_ ?_ (eg := enters Try.func51 rfl rfl)
      · exact KSub.cons (by repeat (first | exact Pick.hd | apply Pick.tl)) (KSub.cons (by repeat (first | exact Pick.hd | apply Pick.tl)) (KSub.cons (by repeat (first | exact Pick.hd | apply Pick.tl)) (KSub.cons (by repeat (first | exact Pick.hd | apply Pick.tl)) (KSub.cons (by repeat (first | exact Pick.hd | apply Pick.tl)) (KSub.refl _)))))
      · rintro lR DR oR oR1 oR2 q g r hq ZR1 hZR1
        simp only [backM, List.cons_append, List.nil_append]
        have hql : q < L.reverse.length := by rw [List.length_reverse]; omega
        have hLr : ∀ i ∈ L.reverse, i < H.n := fun i hi => hLm i (List.mem_reverse.1 hi)
        have hU := bd_upP moH_Mo hLm hS H.n (by omega)
        rw [hUe] at hU
        have hbd := bd_dnP moH_Mo hLr hU q (by omega)
        have hat := dnP_at (f := moH H) (S := upP (moH H) S L) hql
        have hiL := hLr _ (getD_memN hql)
        rw [rev_getD (show q < L.length by omega), hLl] at hat hiL
        generalize dnP (moH H) (upP (moH H) S L) (L.reverse.take q) = U at hbd hat ⊢
        generalize hi9 : L.getD (H.n - 1 - q) 0 = i at *
        have hmb := moH_Mo (H := H) i hiL
        refine TWi.region ?_
        refine TL.p Pu.as ?_
        refine TL.nil ?_
        refine TQ.thenN (hZR1 _ _ _ Pick.hd ?_)
        refine TWi.block ?_
        refine TWi.seq fun Y24 hY24 => ?_
        refine TWi.region ?_
        refine TL.p (Pu.ld ty_sc51) ?_
        refine TL.p (by first | exact Pu.nn | exact Pu.nc) ?_
        refine TL.p (by first | exact Pu.fb ty_fa63_2 | exact Pu.fe ty_fa63_2) ?_
        refine TL.p (Pu.ldo ty_sc31) ?_
        refine TL.p Pu.mv ?_
        refine TL.p (Pu.el (q := i) ty_et31) ?_
        refine TL.p (Pu.ld ty_sc3) ?_
        refine TL.p Pu.as ?_
        refine TL.nil ?_
        refine TQ.thenN (hY24 _ _ ?_)
        refine TWi.seq fun Y25 hY25 => ?_
        refine TWi.region ?_
        refine TL.p Pu.mv ?_
        refine TL.p Pu.ge ?_
        refine TL.nil ?_
        refine TQ.thenN (hY25 _ _ ?_)
        refine TWi.cond rfl (fun hc3 => ?_) (fun hc3 => ?_)
        · try simp only [decide_eq_true_eq, decide_eq_false_iff_not, Bool.not_eq_true', Bool.not_eq_false', Bool.and_eq_true, Bool.or_eq_true, Bool.and_eq_false_iff, Bool.or_eq_false_iff, Int.not_lt, Int.not_le] at hc3
          have hm0 : 0 ≤ moH H i := hc3
          have bi2 := hbd i hiL
          have bm2 := hbd (moH H i).toNat (by omega)
          refine TWi.dw 13 ?_
          refine RK.tk (Pu.ld ty_sc25) ?_
          refine RK.tk Pu.mv ?_
          refine RK.tk (Pu.ld ty_sc25) ?_
          refine RK.tk Pu.mv ?_
          refine RK.tk (Pu.el (q := i) ty_et25) ?_
          refine RK.tk (Pu.lds ty_ag47) ?_
          refine RK.tk (Pu.ld ty_sc25) ?_
          refine RK.tk Pu.mv ?_
          refine RK.tk (Pu.el (q := (moH H i).toNat) ty_et25 (hk := rfl)) ?_
          refine RK.tk (Pu.lds ty_ag47) ?_
          refine RK.keep ?_
          refine RK.keep ?_
          refine RK.keep ?_
          refine RK.ch [false, false, true] ?_ trivial
          refine WK.cr rfl (enters Try.func41 rfl rfl) (fun w hw => by
              exact bShifted_any _ _ _ _ _ (by omega)) ?_
          refine WK.cr rfl (enters Try.func40 rfl rfl) (fun w hw => by
              exact bCommon_any _ _ _ _ _) ?_
          refine WK.p (Pu.el (q := i) ty_et25) ?_
          refine WK.n ?_
          first | refine TL.st ty_sz47 ?_ | refine TL.se ty_sz47 ?_
          refine TL.nil ?_
          refine TQ.blkN ?_
          refine TQ.rbN (()) ?_
          simp only [backM, List.cons_append, List.nil_append]
          first
            | (refine KSub.cons (by repeat (first | exact Pick.hd | apply Pick.tl)) (KSub.cons (by repeat (first | exact Pick.hd | apply Pick.tl)) (KSub.cons (by repeat (first | exact Pick.hd | apply Pick.tl)) (KSub.cons (by repeat (first | exact Pick.hd | apply Pick.tl)) (KSub.own (by repeat (first | exact Pick.hd | apply Pick.tl)) (fun j hj => row_put ?_) (KSub.cons (by repeat (first | exact Pick.hd | apply Pick.tl)) (KSub.cons (by repeat (first | exact Pick.hd | apply Pick.tl)) (KSub.refl _)))))))
               rw [hat]
               unfold dnS
               rw [if_pos hm0]
               rfl)
            | (refine KSub.cons (by repeat (first | exact Pick.hd | apply Pick.tl)) (KSub.cons (by repeat (first | exact Pick.hd | apply Pick.tl)) (KSub.cons (by repeat (first | exact Pick.hd | apply Pick.tl)) (KSub.cons (by repeat (first | exact Pick.hd | apply Pick.tl)) (KSub.own (by repeat (first | exact Pick.hd | apply Pick.tl)) (fun j hj => ?_) (KSub.cons (by repeat (first | exact Pick.hd | apply Pick.tl)) (KSub.cons (by repeat (first | exact Pick.hd | apply Pick.tl)) (KSub.refl _)))))))
               rw [hat]
               unfold dnS
               rw [if_neg hm0])
        · try simp only [decide_eq_true_eq, decide_eq_false_iff_not, Bool.not_eq_true', Bool.not_eq_false', Bool.and_eq_true, Bool.or_eq_true, Bool.and_eq_false_iff, Bool.or_eq_false_iff, Int.not_lt, Int.not_le] at hc3
          have hm0 : ¬ 0 ≤ moH H i := by omega
          refine TWi.skip ?_
          refine TQ.blkN ?_
          refine TQ.rbN (()) ?_
          simp only [backM, List.cons_append, List.nil_append]
          first
            | (refine KSub.cons (by repeat (first | exact Pick.hd | apply Pick.tl)) (KSub.cons (by repeat (first | exact Pick.hd | apply Pick.tl)) (KSub.cons (by repeat (first | exact Pick.hd | apply Pick.tl)) (KSub.cons (by repeat (first | exact Pick.hd | apply Pick.tl)) (KSub.own (by repeat (first | exact Pick.hd | apply Pick.tl)) (fun j hj => row_put ?_) (KSub.cons (by repeat (first | exact Pick.hd | apply Pick.tl)) (KSub.cons (by repeat (first | exact Pick.hd | apply Pick.tl)) (KSub.refl _)))))))
               rw [hat]
               unfold dnS
               rw [if_pos hm0]
               rfl)
            | (refine KSub.cons (by repeat (first | exact Pick.hd | apply Pick.tl)) (KSub.cons (by repeat (first | exact Pick.hd | apply Pick.tl)) (KSub.cons (by repeat (first | exact Pick.hd | apply Pick.tl)) (KSub.cons (by repeat (first | exact Pick.hd | apply Pick.tl)) (KSub.own (by repeat (first | exact Pick.hd | apply Pick.tl)) (fun j hj => ?_) (KSub.cons (by repeat (first | exact Pick.hd | apply Pick.tl)) (KSub.cons (by repeat (first | exact Pick.hd | apply Pick.tl)) (KSub.refl _)))))))
               rw [hat]
               unfold dnS
               rw [if_neg hm0])
      · rintro DR r
        have hDe : dnP (moH H) (upP (moH H) S L) (L.reverse.take H.n) = bthP (moH H) S L := by rw [List.take_of_length_le (by rw [List.length_reverse]; omega)]; rfl
        simp only [List.nil_append, hDe]
        have hRe := bth_eq moH_Mo hk.ac (bth_wid (S := S) moH_Mo hk.ac hO)
        generalize bthP (moH H) S L = R9 at hRe ⊢
        refine TQ.blkN ?_
        refine TQ.thenN (hY22 _ _ _ ?_)
        refine TW.seqD fun Y26 hY26 => ?_
        refine TW.np ?_
        refine TW.dw 6 ?_
        refine RK.tk (Pu.ld ty_sc25) ?_
        refine RK.tk (Pu.ld ty_sc25) ?_
        refine RK.keep ?_
        refine RK.keep ?_
        refine RK.keep ?_
        refine RK.keep ?_
        refine RK.ch [false, true, true, true] ?_ trivial
        refine WK.cr rfl (enters Try.func43 rfl rfl) (fun w hw => by
            exact hasSpan_any (fs := []) (cs := []) (v := fun k j => if j = 0 then (R9 k).1 else (R9 k).2) (p := fun k => decide ((R9 k).2 < (R9 k).1)) (enters Try.func44 rfl rfl) (by omega) (OwnR.rdr (hw.holds (.own A2 H.n c2 47 2 (fun j => spL (R9 j).1 (R9 j).2)) (by simp))) fun k hk w' hb => emptySpan_any _ _ _) ?_
        refine WK.p Pu.no ?_
        refine WK.p Pu.as ?_
        refine WK.p Pu.as ?_
        refine WK.n ?_
        refine TL.nil ?_
        refine TQ.npN ?_
        refine TQ.thenN (hY26 _ _ _ ?_)
        refine TW.ret ?_
        refine TQ.retMs (DR :: Ds) ([.own A2 H.n c2 47 2 (fun j => spL (R9 j).1 (R9 j).2)]) Try.results27 ?_ ((.tmp rfl (.tmp rfl .nil))) ?_
        · simp only [defK, List.map_nil, List.map_cons, List.nil_append, List.cons_append]
          exact (by repeat (first | exact KSub.nil | refine KSub.cons (by repeat (first | exact Pick.hd | apply Pick.tl)) ?_ | exact KSub.refl _ | refine KSub.drop ?_))
        have hv : (!anyB H.n fun k => decide ((R9 k).2 < (R9 k).1)) = bthOk (moH H) H.n S := by
          rw [not_anyB]
          refine allB_congr fun i hi => ?_
          rw [hRe i hi, Bool.eq_iff_iff]
          simp
        exact fun w hw => ⟨(A2, c2), by show Ending.returned _ = Ending.returned (Value.tuple #[Value.slice A2 H.n c2, Value.bool (bthOk (moH H) H.n S)]); rw [← hv]; rfl, hw.sub (KSub.own Pick.hd (fun j hj => by rw [hRe j hj]) KSub.nil)⟩
      · intro _ x; exact x.elim
end Go.Proofs.Ytlphecckplndnaa
namespace Go.Proofs.Ytlphecckplndnaa
set_option linter.all false
set_option linter.unusedVariables false
set_option linter.unusedSimpArgs false
open Go.RowKit
theorem opK_in {S : List Nat} {w0 w : World} {K : List Fact} {H : Hd} {A : Option Addr} {cp : Nat} {x : OpX} (h : Sat S w0 K w) (hm : ∀ φ ∈ opK H A cp x, φ ∈ K) : HwIn w H A cp x :=
  ⟨OldB.of_blk (h.holds (.blk x.1.1 63 [.slice A H.n cp, .map (some x.1.2), .slice x.2.1.1 H.n x.2.1.2, .slice x.2.2.1 H.n x.2.2.2]) (hm _ (by simp [opK]))),
    (h.holds (.obj x.1.2 (mapO .i64 (plM H H.n))) (hm _ (by simp [opK]))).1,
    OwnR.rdr (h.holds (.own x.2.1.1 H.n x.2.1.2 3 1 (fun j => [.int .i64 (moH H j)])) (hm _ (by simp [opK]))),
    OwnR.rdr (h.holds (.own x.2.2.1 H.n x.2.2.2 78 8 (fun j => octL (sgH H j))) (hm _ (by simp [opK])))⟩
set_option maxRecDepth 100000 in
set_option maxHeartbeats 1000000 in
theorem born_any {w : World} {H : Hd} {A : Option Addr} {cp : Nat} {x : OpX} {a : Nat → Option Addr} {c : Nat → Nat} (hI : HIn w A H a c) (hW : HwIn w H A cp x) :
    CallsK Try.prog 28 #[.pointer (some ⟨x.1.1, 0, none⟩)] [] w (Option Addr × Nat) (fun y => .slice y.1 H.n y.2) (fun y => [.own y.1 H.n y.2 47 2 (fun j => spL (bornH H j).1 (bornH H j).2)]) := by
  have hn := hI.hn
  have hR := hI.hR
  have hoB := hW.oB
  refine K_enter (S := []) (K := []) Try.func28 rfl Try.ntmps28 rfl (Sat.start _) ?_
  refine TW.seq fun Y1 hY1 => ?_
  refine TW.region ?_
  refine TL.p Pu.as ?_
  refine TL.nil ?_
  refine TQ.thenN (hY1 _ _ ?_)
  refine TW.seq fun Y2 hY2 => ?_
  refine TW.region ?_
  refine TL.p Pu.as ?_
  refine TL.nil ?_
  refine TQ.thenN (hY2 _ _ ?_)
  refine TW.seq fun Y3 hY3 => ?_
  refine TW.seq fun Y4 hY4 => ?_
  refine TW.region ?_
  refine TL.p Pu.mv ?_
  refine TL.p (by first | exact Pu.nn | exact Pu.nc) ?_
  refine TL.p (by first | exact Pu.fb ty_fa63_0 | exact Pu.fe ty_fa63_0) ?_
  refine TL.p (Pu.ldo ty_sc22) ?_
  refine TL.p (Pu.ln Try.underlying22) ?_
  refine TL.p Pu.mv ?_
  refine TL.nil ?_
  refine TQ.thenN (hY4 _ _ ?_)
  refine TW.block ?_
  refine TW.loop3 (fun (i : Nat) (B : Option Addr) (cb : Nat) => [(11, .int .i64 (i : Int)), (10, .int .i64 (H.n : Int)), (9, .slice A H.n cp), (3, .slice B i cb)]) (fun i B cb => [.own B i cb 47 2 (fun j => spL (bornH H j).1 (bornH H j).2)]) (fun i B cb => i ≤ H.n) (fun i B cb => H.n - i) 0 none 0 (by repeat (first | exact trivial | refine ⟨rfl, ?_⟩ | refine ⟨trivial, ?_⟩)) ?_ ?_ ?_
  · exact KSub.nilOwn KSub.nil
  · exact Nat.zero_le _
  rintro i B cb hi Z0 hZ0
  refine TW.seq fun Y5 hY5 => ?_
  refine TW.region ?_
  refine TL.p Pu.lt ?_
  refine TL.nil ?_
  refine TQ.thenN (hY5 _ _ ?_)
  refine TW.seq fun Y6 hY6 => ?_
  refine TW.cond rfl (fun hc0 => ?_) (fun hc0 => ?_)
  · try simp only [decide_eq_true_eq, decide_eq_false_iff_not, Bool.not_eq_true', Bool.not_eq_false', Bool.and_eq_true, Bool.or_eq_true, Bool.and_eq_false_iff, Bool.or_eq_false_iff, Int.not_lt, Int.not_le] at hc0
    have hin : i < H.n := by omega
    refine TW.skip ?_
    refine TQ.thenN (hY6 _ _ ?_)
    refine TW.seq fun Y7 hY7 => ?_
    refine TW.block ?_
    refine TW.seq fun Y8 hY8 => ?_
    refine TW.region ?_
    refine TL.p (Pu.el ty_et22) ?_
    refine TL.p (Pu.lds ty_ag50) ?_
    refine TL.m (Mk.al ty_zr50) ?_
    intro b1
    first | refine TL.st ty_sz50 ?_ | refine TL.se ty_sz50 ?_
    refine TL.nil ?_
    refine TQ.thenN (hY8 _ _ ?_)
    refine TW.region ?_
    refine TL.p Pu.mv ?_
    refine TL.p (by first | exact Pu.fb ty_fa50_2 | exact Pu.fe ty_fa50_2) ?_
    refine TL.p (Pu.lds ty_ag47) ?_
    refine TL.m Mk.bl ?_
    intro b2
    first | refine TL.a0 ty_et25 ?_ | refine TL.ap ty_et25 ?_
    intro A3 c3
    refine TL.p Pu.as ?_
    refine TL.nil ?_
    refine TQ.blkN ?_
    refine TQ.thenN (hY7 _ _ ?_)
    refine TW.region ?_
    refine TL.p Pu.ad ?_
    refine TL.p Pu.mv ?_
    refine TL.nil ?_
    refine TQ.thenN (hZ0 (i + 1) A3 c3 _ _ ?_ ?_ (by repeat (first | exact trivial | refine ⟨rfl, ?_⟩ | refine ⟨trivial, ?_⟩)) ?_)
    · exact (by omega)
    · exact (by first | omega | (simp only []; omega) | (simp; omega))
    · exact KSub.own (by repeat (first | exact Pick.hd | apply Pick.tl)) (fun j hj => cat_rows (r := fun j => spL (bornH H j).1 (bornH H j).2) rfl hj) KSub.nil
  · try simp only [decide_eq_true_eq, decide_eq_false_iff_not, Bool.not_eq_true', Bool.not_eq_false', Bool.and_eq_true, Bool.or_eq_true, Bool.and_eq_false_iff, Bool.or_eq_false_iff, Int.not_lt, Int.not_le] at hc0
    obtain rfl : i = H.n := by omega
    refine TW.exit ?_
    refine TQ.thenX ?_
    refine TQ.thenX ?_
    refine TQ.blkX ?_
    refine TQ.thenN (hY3 _ _ ?_)
    refine TW.seq fun Y9 hY9 => ?_
    refine TW.region ?_
    refine TL.p Pu.mv ?_
    refine TL.p Pu.as ?_
    refine TL.nil ?_
    refine TQ.thenN (hY9 _ _ ?_)
    refine TW.ret ?_
    refine TQ.ret Try.results28 rfl ((.tmp rfl .nil)) ?_
    exact fun w hw => ⟨(B, cb), rfl, hw⟩
theorem born_bd {H : Hd} (h : HOk H) : BdS H.n 100000 (bornH H) := fun j hj => by
  have := h.bd j hj
  unfold bornH
  dsimp only
  omega
def livC (H : Hd) : Int := if herdB H then (if bthOk (moH H) H.n (bornH H) then 0 else 21) else 20
abbrev LvX := OpX × (Option Addr × Nat)
def livB (H : Hd) : BSt := bth (moH H) H.n (bornH H)
set_option maxRecDepth 100000 in
set_option maxHeartbeats 1000000 in
theorem lived_any {w : World} {A : Option Addr} {cp : Nat} {H : Hd} {a : Nat → Option Addr} {c : Nat → Nat} (hI : HIn w A H a c) :
    CallsK Try.prog 17 #[.slice A H.n cp] [] w LvX (fun x => if livC H = 0 then .tuple #[.pointer (some ⟨x.1.1.1, 0, none⟩), .slice x.2.1 H.n x.2.2, .int .i64 0] else .tuple #[.pointer none, .slice none 0 0, .int .i64 (livC H)])
      (fun x => if livC H = 0 then .own x.2.1 H.n x.2.2 47 2 (fun j => spL (livB H j).1 (livB H j).2) :: opK H A cp x.1 else []) := by
  cases hh : herdB H with
  | false =>
    have hc : livC H = 20 := by unfold livC; rw [hh]; rfl
    refine K_enter (S := []) (K := []) Try.func17 rfl Try.ntmps17 rfl (Sat.start _) ?_
    refine TW.seq fun Y1 hY1 => ?_
    refine TW.region ?_
    refine TL.p Pu.as ?_
    refine TL.p Pu.as ?_
    refine TL.p Pu.as ?_
    refine TL.nil ?_
    refine TQ.thenN (hY1 _ _ ?_)
    refine TW.seq fun Y2 hY2 => ?_
    refine TW.region ?_
    refine TL.p Pu.mv ?_
    refine TL.call (M := []) rfl (enters Try.func21 rfl rfl) (List.Perm.refl _) rfl (fun w hw => by
        have h9 := open_any (cp := cp) (hI.sat hw)
        rw [hh] at h9
        exact h9) ?_
    rintro xo
    refine TL.p Pu.mv ?_
    refine TL.p Pu.ex ?_
    refine TL.p Pu.ex ?_
    refine TL.p Pu.as ?_
    refine TL.p Pu.as ?_
    refine TL.nil ?_
    refine TQ.thenN (hY2 _ _ ?_)
    refine TW.seq fun Y3 hY3 => ?_
    refine TW.seq fun Y4 hY4 => ?_
    refine TW.region ?_
    refine TL.p Pu.mv ?_
    refine TL.p Pu.ne ?_
    refine TL.nil ?_
    refine TQ.thenN (hY4 _ _ ?_)
    refine TW.condT rfl (rfl) ?_
    refine TW.seq fun Y5 hY5 => ?_
    refine TW.region ?_
    refine TL.p Pu.mv ?_
    refine TL.p Pu.as ?_
    refine TL.p Pu.as ?_
    refine TL.p Pu.as ?_
    refine TL.nil ?_
    refine TQ.thenN (hY5 _ _ ?_)
    refine TW.ret ?_
    refine TQ.thenR ?_
    refine TQ.ret Try.results17 rfl ((.tmp rfl (.tmp rfl (.tmp rfl .nil)))) ?_
    exact fun w hw => ⟨(((0, 0), (none, 0), (none, 0)), (none, 0)), by show Ending.returned _ = Ending.returned (if livC H = 0 then _ else _); rw [hc]; rfl, by show Sat _ _ (if livC H = 0 then _ else _) _; rw [hc]; exact hw.sub KSub.nil⟩
  | true =>
    have hk := herdB_ok.1 hh
    refine K_enter (S := []) (K := []) Try.func17 rfl Try.ntmps17 rfl (Sat.start _) ?_
    refine TW.seq fun Y1 hY1 => ?_
    refine TW.region ?_
    refine TL.p Pu.as ?_
    refine TL.p Pu.as ?_
    refine TL.p Pu.as ?_
    refine TL.nil ?_
    refine TQ.thenN (hY1 _ _ ?_)
    refine TW.seq fun Y2 hY2 => ?_
    refine TW.region ?_
    refine TL.p Pu.mv ?_
    refine TL.call (M := []) rfl (enters Try.func21 rfl rfl) (List.Perm.refl _) rfl (fun w hw => by
        have h9 := open_any (cp := cp) (hI.sat hw)
        rw [hh] at h9
        exact h9) ?_
    rintro xo
    simp only [if_true]
    refine TL.p Pu.mv ?_
    refine TL.p Pu.ex ?_
    refine TL.p Pu.ex ?_
    refine TL.p Pu.as ?_
    refine TL.p Pu.as ?_
    refine TL.nil ?_
    refine TQ.thenN (hY2 _ _ ?_)
    refine TW.seq fun Y3 hY3 => ?_
    refine TW.seq fun Y4 hY4 => ?_
    refine TW.region ?_
    refine TL.p Pu.mv ?_
    refine TL.p Pu.ne ?_
    refine TL.nil ?_
    refine TQ.thenN (hY4 _ _ ?_)
    refine TW.condF rfl (rfl) ?_
    refine TW.skip ?_
    refine TQ.thenN (hY3 _ _ ?_)
    refine TW.seq fun Y5 hY5 => ?_
    refine TW.region ?_
    refine TL.p Pu.mv ?_
    refine TL.p Pu.mv ?_
    refine TL.call (M := []) rfl (enters Try.func28 rfl rfl) (List.Perm.refl _) rfl (fun w hw => by
        exact born_any (x := xo) (hI.sat hw) (opK_in (A := A) (cp := cp) (x := xo) hw (by intro φ h; first | exact h | (simp only [opK, List.mem_cons] at h ⊢; simp at h ⊢; first | exact h | exact .inr h | exact .inr (.inr h))))) ?_
    rintro ⟨A2, c2⟩
    refine TL.call (M := []) rfl (enters Try.func27 rfl rfl) (List.Perm.refl _) rfl (fun w hw => by
        exact births_any (x := xo) (S := bornH H) (B := 100000) hk (opK_in (A := A) (cp := cp) (x := xo) hw (by intro φ h; first | exact h | (simp only [opK, List.mem_cons] at h ⊢; simp at h ⊢; first | exact h | exact .inr h | exact .inr (.inr h)))) (OwnR.rdr (hw.holds (.own A2 H.n c2 47 2 (fun j => spL (bornH H j).1 (bornH H j).2)) (by simp))) (born_bd hk) (by omega)) ?_
    rintro ⟨A3, c3⟩
    refine TL.p Pu.mv ?_
    refine TL.p Pu.ex ?_
    refine TL.p Pu.ex ?_
    refine TL.p Pu.as ?_
    refine TL.p Pu.as ?_
    refine TL.nil ?_
    refine TQ.thenN (hY5 _ _ ?_)
    refine TW.seq fun Y6 hY6 => ?_
    refine TW.seq fun Y7 hY7 => ?_
    refine TW.region ?_
    refine TL.p Pu.mv ?_
    refine TL.p Pu.no ?_
    refine TL.nil ?_
    refine TQ.thenN (hY7 _ _ ?_)
    refine TW.cond rfl (fun hc1 => ?_) (fun hc1 => ?_)
    · try simp only [decide_eq_true_eq, decide_eq_false_iff_not, Bool.not_eq_true', Bool.not_eq_false', Bool.and_eq_true, Bool.or_eq_true, Bool.and_eq_false_iff, Bool.or_eq_false_iff, Int.not_lt, Int.not_le] at hc1
      have hc : livC H = 21 := by unfold livC; rw [hh, hc1]; rfl
      refine TW.seq fun Y8 hY8 => ?_
      refine TW.region ?_
      refine TL.p Pu.as ?_
      refine TL.p Pu.as ?_
      refine TL.p Pu.as ?_
      refine TL.nil ?_
      refine TQ.thenN (hY8 _ _ ?_)
      refine TW.ret ?_
      refine TQ.thenR ?_
      refine TQ.ret Try.results17 rfl ((.tmp rfl (.tmp rfl (.tmp rfl .nil)))) ?_
      exact fun w hw => ⟨(((0, 0), (none, 0), (none, 0)), (none, 0)), by show Ending.returned _ = Ending.returned (if livC H = 0 then _ else _); rw [hc]; rfl, by show Sat _ _ (if livC H = 0 then _ else _) _; rw [hc]; exact hw.sub KSub.nil⟩
    · try simp only [decide_eq_true_eq, decide_eq_false_iff_not, Bool.not_eq_true', Bool.not_eq_false', Bool.and_eq_true, Bool.or_eq_true, Bool.and_eq_false_iff, Bool.or_eq_false_iff, Int.not_lt, Int.not_le] at hc1
      have hc : livC H = 0 := by unfold livC; rw [hh, hc1]; rfl
      refine TW.skip ?_
      refine TQ.thenN (hY6 _ _ ?_)
      refine TW.seq fun Y9 hY9 => ?_
      refine TW.region ?_
      refine TL.p Pu.mv ?_
      refine TL.p Pu.mv ?_
      refine TL.p Pu.as ?_
      refine TL.p Pu.as ?_
      refine TL.p Pu.as ?_
      refine TL.nil ?_
      refine TQ.thenN (hY9 _ _ ?_)
      refine TW.ret ?_
      refine TQ.ret Try.results17 rfl ((.tmp rfl (.tmp rfl (.tmp rfl .nil)))) ?_
      exact fun w hw => ⟨(xo, (A3, c3)), by show Ending.returned _ = Ending.returned (if livC H = 0 then _ else _); rw [hc]; rfl, by show Sat _ _ (if livC H = 0 then _ else _) _; rw [hc]; exact hw.sub (by unfold opK livB; (repeat (first | exact KSub.nil | refine KSub.cons (by repeat (first | exact Pick.hd | apply Pick.tl)) ?_)))⟩
theorem check_any {w : World} {A : Option Addr} {cp : Nat} {H : Hd} {a : Nat → Option Addr} {c : Nat → Nat} (hI : HIn w A H a c) :
    Calls Try.prog 12 #[.slice A H.n cp] w (Ret w (.int .i64 (if herdB H then 0 else 20))) := by
  cases hh : herdB H with
  | false =>
    refine K_enter (S := []) (K := []) Try.func12 rfl Try.ntmps12 rfl (Sat.start _) ?_
    refine TW.seq fun Y1 hY1 => ?_
    refine TW.region ?_
    refine TL.p Pu.as ?_
    refine TL.nil ?_
    refine TQ.thenN (hY1 _ _ ?_)
    refine TW.seq fun Y2 hY2 => ?_
    refine TW.region ?_
    refine TL.p Pu.mv ?_
    refine TL.call (M := []) rfl (enters Try.func21 rfl rfl) (List.Perm.refl _) rfl (fun w hw => by
        have h9 := open_any (cp := cp) (hI.sat hw)
        rw [hh] at h9
        exact h9) ?_
    rintro xo
    refine TL.p Pu.mv ?_
    refine TL.p Pu.ex ?_
    refine TL.p Pu.ex ?_
    refine TL.p Pu.as ?_
    refine TL.p Pu.as ?_
    refine TL.nil ?_
    refine TQ.thenN (hY2 _ _ ?_)
    refine TW.seq fun Y3 hY3 => ?_
    refine TW.region ?_
    refine TL.p Pu.mv ?_
    refine TL.p Pu.as ?_
    refine TL.nil ?_
    refine TQ.thenN (hY3 _ _ ?_)
    refine TW.ret ?_
    refine TQ.ret Try.results12 rfl ((.tmp rfl .nil)) ?_
    exact fun w hw => Ret.of hw
  | true =>
    refine K_enter (S := []) (K := []) Try.func12 rfl Try.ntmps12 rfl (Sat.start _) ?_
    refine TW.seq fun Y1 hY1 => ?_
    refine TW.region ?_
    refine TL.p Pu.as ?_
    refine TL.nil ?_
    refine TQ.thenN (hY1 _ _ ?_)
    refine TW.seq fun Y2 hY2 => ?_
    refine TW.region ?_
    refine TL.p Pu.mv ?_
    refine TL.call (M := []) rfl (enters Try.func21 rfl rfl) (List.Perm.refl _) rfl (fun w hw => by
        have h9 := open_any (cp := cp) (hI.sat hw)
        rw [hh] at h9
        exact h9) ?_
    rintro xo
    refine TL.p Pu.mv ?_
    refine TL.p Pu.ex ?_
    refine TL.p Pu.ex ?_
    refine TL.p Pu.as ?_
    refine TL.p Pu.as ?_
    refine TL.nil ?_
    refine TQ.thenN (hY2 _ _ ?_)
    refine TW.seq fun Y3 hY3 => ?_
    refine TW.region ?_
    refine TL.p Pu.mv ?_
    refine TL.p Pu.as ?_
    refine TL.nil ?_
    refine TQ.thenN (hY3 _ _ ?_)
    refine TW.ret ?_
    refine TQ.ret Try.results12 rfl ((.tmp rfl .nil)) ?_
    exact fun w hw => Ret.of hw
theorem bBirths_any {w : World} {A : Option Addr} {cp : Nat} {H : Hd} {a : Nat → Option Addr} {c : Nat → Nat} (hI : HIn w A H a c) :
    CallsK Try.prog 6 #[.slice A H.n cp] [] w (Option Addr × Nat) (fun x => .tuple #[.slice x.1 (if livC H = 0 then H.n else 0) x.2, .int .i64 (livC H)]) (fun x => [.own x.1 (if livC H = 0 then H.n else 0) x.2 47 2 (fun j => spL (livB H j).1 (livB H j).2)]) := by
  by_cases hc : livC H = 0
  case pos =>
    refine K_enter (S := []) (K := []) Try.func6 rfl Try.ntmps6 rfl (Sat.start _) ?_
    refine TW.seq fun Y1 hY1 => ?_
    refine TW.region ?_
    refine TL.p Pu.as ?_
    refine TL.p Pu.as ?_
    refine TL.nil ?_
    refine TQ.thenN (hY1 _ _ ?_)
    refine TW.seq fun Y2 hY2 => ?_
    refine TW.region ?_
    refine TL.p Pu.mv ?_
    refine TL.call (M := []) rfl (enters Try.func17 rfl rfl) (List.Perm.refl _) rfl (fun w hw => by
        have h9 := lived_any (cp := cp) (hI.sat hw)
        simp only [if_pos hc] at h9
        exact h9) ?_
    rintro ⟨xo, A3, c3⟩
    refine TL.p Pu.mv ?_
    refine TL.p Pu.ex ?_
    refine TL.p Pu.ex ?_
    refine TL.p Pu.ex ?_
    refine TL.p Pu.as ?_
    refine TL.p Pu.as ?_
    refine TL.p Pu.as ?_
    refine TL.nil ?_
    refine TQ.thenN (hY2 _ _ ?_)
    refine TW.seq fun Y3 hY3 => ?_
    refine TW.region ?_
    refine TL.p Pu.mv ?_
    refine TL.p Pu.mv ?_
    refine TL.p Pu.as ?_
    refine TL.p Pu.as ?_
    refine TL.nil ?_
    refine TQ.thenN (hY3 _ _ ?_)
    refine TW.ret ?_
    refine TQ.ret Try.results6 rfl ((.tmp rfl (.tmp rfl .nil))) ?_
    exact fun w hw => ⟨(A3, c3), by simp only [hc]; rfl, by simp only [if_pos hc]; exact hw.sub (KSub.cons Pick.hd KSub.nil)⟩
  case neg =>
    refine K_enter (S := []) (K := []) Try.func6 rfl Try.ntmps6 rfl (Sat.start _) ?_
    refine TW.seq fun Y1 hY1 => ?_
    refine TW.region ?_
    refine TL.p Pu.as ?_
    refine TL.p Pu.as ?_
    refine TL.nil ?_
    refine TQ.thenN (hY1 _ _ ?_)
    refine TW.seq fun Y2 hY2 => ?_
    refine TW.region ?_
    refine TL.p Pu.mv ?_
    refine TL.call (M := []) rfl (enters Try.func17 rfl rfl) (List.Perm.refl _) rfl (fun w hw => by
        have h9 := lived_any (cp := cp) (hI.sat hw)
        simp only [if_neg hc] at h9
        exact h9) ?_
    rintro ⟨xo, A3, c3⟩
    refine TL.p Pu.mv ?_
    refine TL.p Pu.ex ?_
    refine TL.p Pu.ex ?_
    refine TL.p Pu.ex ?_
    refine TL.p Pu.as ?_
    refine TL.p Pu.as ?_
    refine TL.p Pu.as ?_
    refine TL.nil ?_
    refine TQ.thenN (hY2 _ _ ?_)
    refine TW.seq fun Y3 hY3 => ?_
    refine TW.region ?_
    refine TL.p Pu.mv ?_
    refine TL.p Pu.mv ?_
    refine TL.p Pu.as ?_
    refine TL.p Pu.as ?_
    refine TL.nil ?_
    refine TQ.thenN (hY3 _ _ ?_)
    refine TW.ret ?_
    refine TQ.ret Try.results6 rfl ((.tmp rfl (.tmp rfl .nil))) ?_
    exact fun w hw => ⟨(none, 0), by simp only [if_neg hc]; rfl, by simp only [if_neg hc]; exact hw.sub (KSub.nilOwn KSub.nil)⟩
end Go.Proofs.Ytlphecckplndnaa
namespace Go.Proofs.Ytlphecckplndnaa
set_option linter.all false
set_option linter.unusedVariables false
set_option linter.unusedSimpArgs false
open Go.RowKit
theorem dep_up {f : Nat → Int} {n i : Nat} (ha : Acyc f n) (hf : Mo f n) (hi : i < n) : ∀ q, q < depH f n i → depH f n (upH f i q).toNat + q = depH f n i
  | 0, _ => by simp [upH]
  | q + 1, hq => by
    have ih := dep_up ha hf hi q (by omega)
    have h0 := dep_in (f := f) (n := n) (i := i) (s := q) (by omega)
    have h1 := dep_in hq
    have hb := upH_bd hf hi q
    have e : upH f i (q + 1) = f (upH f i q).toNat := if_neg (by omega)
    rw [e] at h1 ⊢
    have := dep_mother ha hf (i := (upH f i q).toNat) (by omega) h1
    omega
theorem up_ne {f : Nat → Int} {n i q : Nat} (ha : Acyc f n) (hf : Mo f n) (hi : i < n) (hq : q + 1 < depH f n i) : upH f i (q + 1) ≠ i := fun e => by
  have := dep_up ha hf hi (q + 1) hq
  rw [e] at this
  simp at this
theorem pl_v {H : Hd} {x : Int} : (mlook x (plM H H.n)).getD (.int .i64 0) = .int .i64 (if 0 ≤ atH H x then atH H x else 0) := by
  rw [pl_look]
  by_cases h : 0 ≤ atH H x
  · rw [if_pos h, if_pos h]; rfl
  · rw [if_neg h, if_neg h]; rfl
theorem pl_s {H : Hd} {x : Int} : (mlook x (plM H H.n)).isSome = decide (0 ≤ atH H x) := by
  rw [pl_look]
  by_cases h : 0 ≤ atH H x
  · rw [if_pos h, decide_eq_true h]; rfl
  · rw [if_neg h, decide_eq_false h]; rfl
theorem at_lt {H : Hd} {x : Int} (h : 0 ≤ atH H x) : (atH H x).toNat < H.n ∧ ((atH H x).toNat : Int) = atH H x := by
  have := atI_le (p := fun j => decide (H.id j = x)) (n := H.n) h
  exact ⟨this.1, this.2.2⟩
theorem pl_n {H : Hd} {x : Int} : (mlook x (plM H H.n)).getD (.int .i64 0) = .int .i64 ((atH H x).toNat : Int) := by
  rw [pl_v]
  by_cases h : 0 ≤ atH H x
  · rw [if_pos h, Int.toNat_of_nonneg h]
  · rw [if_neg h, Int.toNat_of_nonpos (by omega)]; rfl
def linC (H : Hd) (id : Int) : Int := if herdB H then (if 0 ≤ atH H id then 0 else 2) else 20
def linN (H : Hd) (id : Int) : Nat := if linC H id = 0 then depH (moH H) H.n (atH H id).toNat - 1 else 0
def linV (H : Hd) (id : Int) (s : Nat) : Int := H.id (upH (moH H) (atH H id).toNat (s + 1)).toNat
set_option maxRecDepth 100000 in
set_option maxHeartbeats 2000000 in
theorem bLine_any {w : World} {A : Option Addr} {cp : Nat} {H : Hd} {a : Nat → Option Addr} {c : Nat → Nat} {id : Int} (hI : HIn w A H a c) :
    CallsK Try.prog 8 #[.slice A H.n cp, .int .i64 id] [] w (Option Addr × Nat) (fun y => .tuple #[.slice y.1 (linN H id) y.2, .int .i64 (linC H id)]) (fun y => [.own y.1 (linN H id) y.2 3 1 (fun s => [.int .i64 (linV H id s)])]) := by
  cases hh : herdB H with
  | false =>
    have hc : linC H id = 20 := by unfold linC; rw [hh]; rfl
    have hN : linN H id = 0 := by unfold linN; rw [hc]; rfl
    refine K_enterM (S := []) (K := []) Try.func8 rfl Try.ntmps8 rfl (Sat.start _) ?_
    refine TW.seqD fun Y1 hY1 => ?_
    refine TW.region ?_
    refine TL.p Pu.as ?_
    refine TL.p Pu.as ?_
    refine TL.nil ?_
    refine TQ.thenN (hY1 _ _ _ ?_)
    refine TW.seqD fun Y2 hY2 => ?_
    refine TW.region ?_
    refine TL.p Pu.mv ?_
    refine TL.call (M := []) rfl (enters Try.func21 rfl rfl) (List.Perm.refl _) rfl (fun w hw => by
        have h9 := open_any (cp := cp) (hI.sat hw)
        rw [hh] at h9
        exact h9) ?_
    rintro xo
    refine TL.p Pu.mv ?_
    refine TL.p Pu.ex ?_
    refine TL.p Pu.ex ?_
    refine TL.m (Mk.al ty_zr51) ?_
    intro b1
    first | refine TL.st ty_sz51 ?_ | refine TL.se ty_sz51 ?_
    refine TL.p Pu.as ?_
    refine TL.nil ?_
    refine TQ.thenN (hY2 _ _ _ ?_)
    refine TW.seqD fun Y3 hY3 => ?_
    refine TW.seqD fun Y4 hY4 => ?_
    refine TW.region ?_
    refine TL.p Pu.mv ?_
    refine TL.p Pu.ne ?_
    refine TL.nil ?_
    refine TQ.thenN (hY4 _ _ _ ?_)
    refine TW.condT rfl (rfl) ?_
    refine TW.seqD fun Y5 hY5 => ?_
    refine TW.region ?_
    refine TL.p Pu.mv ?_
    refine TL.p Pu.as ?_
    refine TL.p Pu.as ?_
    refine TL.nil ?_
    refine TQ.thenN (hY5 _ _ _ ?_)
    refine TW.ret ?_
    refine TQ.thenR ?_
    refine TQ.retM0 Try.results8 ((.tmp rfl (.tmp rfl .nil))) ?_
    exact fun w hw => ⟨(none, 0), by simp only [hN, hc]; rfl, by simp only [hN]; exact hw.sub (KSub.nilOwn KSub.nil)⟩
  | true =>
    have hk := herdB_ok.1 hh
    have h16 := hk.n16
    obtain ⟨i, hi9⟩ : ∃ i, i = (atH H id).toNat := ⟨_, rfl⟩
    refine K_enterM (S := []) (K := []) Try.func8 rfl Try.ntmps8 rfl (Sat.start _) ?_
    refine TW.seqD fun Y1 hY1 => ?_
    refine TW.region ?_
    refine TL.p Pu.as ?_
    refine TL.p Pu.as ?_
    refine TL.nil ?_
    refine TQ.thenN (hY1 _ _ _ ?_)
    refine TW.seqD fun Y2 hY2 => ?_
    refine TW.region ?_
    refine TL.p Pu.mv ?_
    refine TL.call (M := []) rfl (enters Try.func21 rfl rfl) (List.Perm.refl _) rfl (fun w hw => by
        have h9 := open_any (cp := cp) (hI.sat hw)
        rw [hh] at h9
        exact h9) ?_
    rintro xo
    simp only [if_true, opK]
    refine TL.p Pu.mv ?_
    refine TL.p Pu.ex ?_
    refine TL.p Pu.ex ?_
    refine TL.m (Mk.al ty_zr51) ?_
    intro b1
    first | refine TL.st ty_sz51 ?_ | refine TL.se ty_sz51 ?_
    refine TL.p Pu.as ?_
    refine TL.nil ?_
    refine TQ.thenN (hY2 _ _ _ ?_)
    refine TW.seqD fun Y3 hY3 => ?_
    refine TW.seqD fun Y4 hY4 => ?_
    refine TW.region ?_
    refine TL.p Pu.mv ?_
    refine TL.p Pu.ne ?_
    refine TL.nil ?_
    refine TQ.thenN (hY4 _ _ _ ?_)
    refine TW.condF rfl (rfl) ?_
    refine TW.skip ?_
    refine TQ.thenN (hY3 _ _ _ ?_)
    refine TW.seqD fun Y5 hY5 => ?_
    refine TW.region ?_
    refine TL.p (Pu.ld ty_sc51) ?_
    refine TL.p (by first | exact Pu.nn | exact Pu.nc) ?_
    refine TL.p (by first | exact Pu.fb ty_fa63_1 | exact Pu.fe ty_fa63_1) ?_
    refine TL.p (Pu.ld ty_sc60) ?_
    refine TL.p Pu.mv ?_
    refine TL.p (Pu.lkV (.int .i64 (i : Int)) (decide (0 ≤ atH H id)) ty_mp60 ty_zv3 (hi9 ▸ pl_n) pl_s) ?_
    refine TL.p Pu.mv ?_
    refine TL.p Pu.ex ?_
    refine TL.p Pu.ex ?_
    refine TL.m (Mk.al ty_zr3) ?_
    intro b2
    first | refine TL.st ty_sz3 ?_ | refine TL.se ty_sz3 ?_
    refine TL.p Pu.as ?_
    refine TL.nil ?_
    refine TQ.thenN (hY5 _ _ _ ?_)
    refine TW.seqD fun Y6 hY6 => ?_
    refine TW.seqD fun Y7 hY7 => ?_
    refine TW.region ?_
    refine TL.p Pu.mv ?_
    refine TL.p Pu.no ?_
    refine TL.nil ?_
    refine TQ.thenN (hY7 _ _ _ ?_)
    refine TW.cond rfl (fun hc1 => ?_) (fun hc1 => ?_)
    · try simp only [decide_eq_true_eq, decide_eq_false_iff_not, Bool.not_eq_true', Bool.not_eq_false', Bool.and_eq_true, Bool.or_eq_true, Bool.and_eq_false_iff, Bool.or_eq_false_iff, Int.not_lt, Int.not_le] at hc1
      have hc : linC H id = 2 := by unfold linC; rw [hh, if_pos rfl, if_neg (by omega)]
      have hN : linN H id = 0 := by unfold linN; rw [hc]; rfl
      refine TW.seqD fun Y8 hY8 => ?_
      refine TW.region ?_
      refine TL.p Pu.as ?_
      refine TL.p Pu.as ?_
      refine TL.nil ?_
      refine TQ.thenN (hY8 _ _ _ ?_)
      refine TW.ret ?_
      refine TQ.thenR ?_
      refine TQ.retM0 Try.results8 ((.tmp rfl (.tmp rfl .nil))) ?_
      exact fun w hw => ⟨(none, 0), by simp only [hN, hc]; rfl, by simp only [hN]; exact hw.sub (KSub.nilOwn KSub.nil)⟩
    · try simp only [decide_eq_true_eq, decide_eq_false_iff_not, Bool.not_eq_true', Bool.not_eq_false', Bool.and_eq_true, Bool.or_eq_true, Bool.and_eq_false_iff, Bool.or_eq_false_iff, Int.not_lt, Int.not_le] at hc1
      have hat : 0 ≤ atH H id := hc1
      have hc : linC H id = 0 := by unfold linC; rw [hh, if_pos rfl, if_pos hat]
      have hN : linN H id = depH (moH H) H.n (atH H id).toNat - 1 := by unfold linN; rw [hc]; rfl
      obtain ⟨hil, hie⟩ := at_lt hat
      rw [← hi9] at hil hie hN
      refine TW.skip ?_
      refine TQ.thenN (hY6 _ _ _ ?_)
      refine TW.seqD fun Y9 hY9 => ?_
      refine TW.region ?_
      refine TL.m (Mk.al ty_zr31) ?_
      intro b3
      refine TL.nil ?_
      refine TQ.thenN (hY9 _ _ _ ?_)
      refine TW.seqD fun Y10 hY10 => ?_
      refine TW.rebaseK [.blk b3 31 [.slice none 0 0], .blk b1 51 [.pointer (some ⟨xo.1.1, 0, none⟩)], .blk b2 3 [.int .i64 (i : Int)]] (opK H A cp xo) (by unfold opK; (repeat (first | exact KSub.nil | refine KSub.cons (by repeat (first | exact Pick.hd | apply Pick.tl)) ?_))) fun w1 hw1 => ?_
      have hoB : OldB w1 xo.1.1 [.slice A H.n cp, .map (some xo.1.2), .slice xo.2.1.1 H.n xo.2.1.2, .slice xo.2.2.1 H.n xo.2.2.2] := OldB.of_blk (hw1.holds (.blk xo.1.1 63 [.slice A H.n cp, .map (some xo.1.2), .slice xo.2.1.1 H.n xo.2.1.2, .slice xo.2.2.1 H.n xo.2.2.2]) (by simp [opK]))
      have hSb := hw1.apartB (b := xo.1.1) (t := 63) (cs := [.slice A H.n cp, .map (some xo.1.2), .slice xo.2.1.1 H.n xo.2.1.2, .slice xo.2.2.1 H.n xo.2.2.2]) (by simp [opK])
      have hoM : RdR w1 1 xo.2.1.1 H.n (fun j => [.int .i64 (moH H j)]) := OwnR.rdr (hw1.holds (.own xo.2.1.1 H.n xo.2.1.2 3 1 (fun j => [.int .i64 (moH H j)])) (by simp [opK]))
      have hSm := hw1.apartO (A := xo.2.1.1) (n := H.n) (c := xo.2.1.2) (E := 3) (sz := 1) (r := fun j => [.int .i64 (moH H j)]) (by simp [opK])
      have hRA : RdR w1 5 A H.n (fun i => anL H a c i) := hI.hR.sat hw1 Apart.nil
      have hSA := hI.hR.apart (S := feet [.blk b3 31 [.slice none 0 0], .blk b1 51 [.pointer (some ⟨xo.1.1, 0, none⟩)], .blk b2 3 [.int .i64 (i : Int)]]) (fun b hb => (hw1.ge b (by rw [feet_append]; exact List.mem_append_left _ hb)).resolve_left (by simp)) (by omega)
      refine TW.seqD fun Y11 hY11 => ?_
      refine TW.region ?_
      refine TL.p (Pu.ld ty_sc51) ?_
      refine TL.p (Pu.ld ty_sc3) ?_
      refine TL.call (M := []) rfl (enters Try.func22 rfl rfl) (List.Perm.refl _) rfl (fun w hw => by
          exact line_any) ?_
      rintro ⟨bi, bp⟩
      refine TL.nil ?_
      refine TQ.thenN (hY11 _ _ _ ?_)
      refine TW.block ?_
      refine TW.rangeR (fun (q : Nat) (r : Option Addr × Nat) => .own r.1 (q - 1) r.2 3 1 (fun s => [.int .i64 (H.id (upH (moH H) i (s + 1)).toNat)]) :: .blk b3 31 [.slice r.1 (q - 1) r.2] :: .blk b1 51 [.pointer (some ⟨xo.1.1, 0, none⟩)] :: .blk b2 3 [.int .i64 (i : Int)] :: []) (fun x : Empty => x.elim) (fun x => x.elim) ((none, 0)) (fun x y => line1_iter (N := depH (moH H) H.n i) (bi := bi) (bp := bp) (i := i) hoB hSb hoM hSm moH_Mo hil (.inl ⟨rfl, hk.ac i hil⟩)) ?_ ?_ ?_ ?_ (eg := enters Try.func34 rfl rfl)
      · exact KSub.cons (by repeat (first | exact Pick.hd | apply Pick.tl)) (KSub.cons (by repeat (first | exact Pick.hd | apply Pick.tl)) (KSub.nilOwn (KSub.cons (by repeat (first | exact Pick.hd | apply Pick.tl)) (KSub.cons (by repeat (first | exact Pick.hd | apply Pick.tl)) (KSub.cons (by repeat (first | exact Pick.hd | apply Pick.tl)) KSub.nil)))))
      · rintro lR DR oR oR1 oR2 q g ⟨Al, cl⟩ hq ZR0 hZR0
        simp only [linM, List.cons_append, List.nil_append]
        have hdl := dep_le (f := moH H) (n := H.n) (i := i)
        have hup := dep_in hq
        have hub := upH_bd moH_Mo hil q
        refine TWi.region ?_
        refine TL.p Pu.as ?_
        refine TL.nil ?_
        refine TQ.thenN (hZR0 _ _ _ Pick.hd ?_)
        refine TWi.block ?_
        refine TWi.seq fun Y12 hY12 => ?_
        refine TWi.region ?_
        refine TL.p Pu.mv ?_
        refine TL.p (Pu.ld ty_sc3) ?_
        refine TL.p Pu.ne ?_
        refine TL.nil ?_
        refine TQ.thenN (hY12 _ _ ?_)
        refine TWi.cond rfl (fun hc2 => ?_) (fun hc2 => ?_)
        · try simp only [decide_eq_true_eq, decide_eq_false_iff_not, Bool.not_eq_true', Bool.not_eq_false', Bool.and_eq_true, Bool.or_eq_true, Bool.and_eq_false_iff, Bool.or_eq_false_iff, Int.not_lt, Int.not_le] at hc2
          have hq1 : q ≠ 0 := fun e => hc2 (by rw [e]; rfl)
          obtain ⟨q', rfl⟩ : ∃ q', q = q' + 1 := ⟨q - 1, by omega⟩
          simp only [Nat.add_sub_cancel]
          refine TWi.dw 10 ?_
          refine RK.tk (Pu.ld ty_sc31) ?_
          refine RK.tk (Pu.ld ty_sc51) ?_
          refine RK.tk (by first | exact Pu.nn | exact Pu.nc) ?_
          refine RK.tk (by first | exact Pu.fb ty_fa63_0 | exact Pu.fe ty_fa63_0) ?_
          refine RK.tk (Pu.ldo ty_sc22) ?_
          refine RK.tk Pu.mv ?_
          refine RK.tk (Pu.el (q := (upH (moH H) i (q' + 1)).toNat) ty_et22 (hk := rfl)) ?_
          refine RK.tk (by first | exact Pu.fb ty_fa50_0 | exact Pu.fe ty_fa50_0) ?_
          refine RK.tk (Pu.ld ty_sc3) ?_
          refine RK.keep ?_
          refine RK.ch [false] ?_ trivial
          refine WK.m Mk.bl ?_
          intro b4
          refine WK.n ?_
          first | refine TL.a0 ty_et31 ?_ | refine TL.ap ty_et31 ?_
          intro A5 c5
          first | refine TL.st ty_sz31 ?_ | refine TL.se ty_sz31 ?_
          refine TL.nil ?_
          refine TQ.blkN ?_
          first
            | (generalize A5 = A9; generalize c5 = c9)
            | (generalize Al = A9; generalize cl = c9)
          refine TQ.rbN ((A9, c9)) ?_
          simp only [linM, Nat.add_sub_cancel, List.cons_append, List.nil_append]
          first
            | exact KSub.cons (by repeat (first | exact Pick.hd | apply Pick.tl)) (KSub.cons (by repeat (first | exact Pick.hd | apply Pick.tl)) (KSub.cons (by repeat (first | exact Pick.hd | apply Pick.tl)) (KSub.cons (by repeat (first | exact Pick.hd | apply Pick.tl)) (KSub.own (by repeat (first | exact Pick.hd | apply Pick.tl)) (fun j hj => by exact cat_rows (r := fun s => [Value.int .i64 (H.id (upH (moH H) i (s + 1)).toNat)]) (by rw [hi9]) hj) (KSub.cons (by repeat (first | exact Pick.hd | apply Pick.tl)) (KSub.cons (by repeat (first | exact Pick.hd | apply Pick.tl)) (KSub.cons (by repeat (first | exact Pick.hd | apply Pick.tl)) KSub.nil)))))))
            | exact KSub.cons (by repeat (first | exact Pick.hd | apply Pick.tl)) (KSub.cons (by repeat (first | exact Pick.hd | apply Pick.tl)) (KSub.cons (by repeat (first | exact Pick.hd | apply Pick.tl)) (KSub.cons (by repeat (first | exact Pick.hd | apply Pick.tl)) (KSub.cons (by repeat (first | exact Pick.hd | apply Pick.tl)) (KSub.cons (by repeat (first | exact Pick.hd | apply Pick.tl)) (KSub.cons (by repeat (first | exact Pick.hd | apply Pick.tl)) (KSub.cons (by repeat (first | exact Pick.hd | apply Pick.tl)) KSub.nil)))))))
        · try simp only [decide_eq_true_eq, decide_eq_false_iff_not, Bool.not_eq_true', Bool.not_eq_false', Bool.and_eq_true, Bool.or_eq_true, Bool.and_eq_false_iff, Bool.or_eq_false_iff, Int.not_lt, Int.not_le] at hc2
          have hq0 : q = 0 := by
            cases q with
            | zero => rfl
            | succ q' => exact absurd hc2 (up_ne hk.ac moH_Mo hil hq)
          subst hq0
          refine TWi.skip ?_
          refine TQ.blkN ?_
          first
            | (generalize A5 = A9; generalize c5 = c9)
            | (generalize Al = A9; generalize cl = c9)
          refine TQ.rbN ((A9, c9)) ?_
          simp only [linM, Nat.add_sub_cancel, List.cons_append, List.nil_append]
          first
            | exact KSub.cons (by repeat (first | exact Pick.hd | apply Pick.tl)) (KSub.cons (by repeat (first | exact Pick.hd | apply Pick.tl)) (KSub.cons (by repeat (first | exact Pick.hd | apply Pick.tl)) (KSub.cons (by repeat (first | exact Pick.hd | apply Pick.tl)) (KSub.own (by repeat (first | exact Pick.hd | apply Pick.tl)) (fun j hj => by exact cat_rows (r := fun s => [Value.int .i64 (H.id (upH (moH H) i (s + 1)).toNat)]) (by rw [hi9]) hj) (KSub.cons (by repeat (first | exact Pick.hd | apply Pick.tl)) (KSub.cons (by repeat (first | exact Pick.hd | apply Pick.tl)) (KSub.cons (by repeat (first | exact Pick.hd | apply Pick.tl)) KSub.nil)))))))
            | exact KSub.cons (by repeat (first | exact Pick.hd | apply Pick.tl)) (KSub.cons (by repeat (first | exact Pick.hd | apply Pick.tl)) (KSub.cons (by repeat (first | exact Pick.hd | apply Pick.tl)) (KSub.cons (by repeat (first | exact Pick.hd | apply Pick.tl)) (KSub.cons (by repeat (first | exact Pick.hd | apply Pick.tl)) (KSub.cons (by repeat (first | exact Pick.hd | apply Pick.tl)) (KSub.cons (by repeat (first | exact Pick.hd | apply Pick.tl)) (KSub.cons (by repeat (first | exact Pick.hd | apply Pick.tl)) KSub.nil)))))))
      · rintro DR ⟨Al, cl⟩
        simp only [List.nil_append]
        refine TQ.blkN ?_
        refine TQ.thenN (hY10 _ _ _ ?_)
        refine TW.seqD fun Y13 hY13 => ?_
        refine TW.region ?_
        refine TL.p (Pu.ld ty_sc31) ?_
        refine TL.p Pu.as ?_
        refine TL.p Pu.as ?_
        refine TL.nil ?_
        refine TQ.thenN (hY13 _ _ _ ?_)
        refine TW.ret ?_
        refine TQ.retM Try.results8 (by repeat (first | exact Pick.hd | apply Pick.tl)) ((.tmp rfl (.tmp rfl .nil))) ?_
        exact fun w hw => ⟨(Al, cl), by simp only [hN, hc]; rfl, by simp only [hN]; exact Sat.sub (K := _ ++ opK H A cp xo) (hw1.step hw) (KSub.own Pick.hd (fun s hs => by unfold linV; rw [← hi9]) KSub.nil)⟩
      · intro _ x; exact x.elim
end Go.Proofs.Ytlphecckplndnaa
namespace Go.Proofs.Ytlphecckplndnaa
set_option linter.all false
set_option linter.unusedVariables false
set_option linter.unusedSimpArgs false
open Go.RowKit
set_option maxRecDepth 100000 in
theorem bIndex_any {w : World} {A : Option Addr} {n cp : Nat} {v : Nat → Int} (y : Int) (hn : n ≤ 1000000) (hR : RdR w 1 A n (fun k => [.int .i64 (v k)])) :
    Calls Try.prog 26 #[.slice A n cp, .int .i64 y] w (Ret w (.int .i64 (atI (fun k => decide (y = v k)) n))) := by
  refine K_enter (S := []) (K := []) Try.func26 rfl Try.ntmps26 rfl (Sat.start _) ?_
  refine TW.seq fun Y1 hY1 => ?_
  refine TW.region ?_
  refine TL.p Pu.as ?_
  refine TL.nil ?_
  refine TQ.thenN (hY1 _ _ ?_)
  refine TW.seq fun Y2 hY2 => ?_
  refine TW.seq fun Y3 hY3 => ?_
  refine TW.region ?_
  refine TL.p Pu.mv ?_
  refine TL.p (Pu.ln Try.underlying31) ?_
  refine TL.p Pu.mv ?_
  refine TL.nil ?_
  refine TQ.thenN (hY3 _ _ ?_)
  refine TW.block ?_
  refine TW.loop1 (fun (k : Nat) => [(8, .int .i64 (k : Int)), (7, .int .i64 (n : Int)), (0, .slice A n cp), (1, .int .i64 y)]) (fun k => []) (fun k => k ≤ n ∧ ∀ j, j < k → y ≠ v j) (fun k => n - k) 0 (by repeat (first | exact trivial | refine ⟨rfl, ?_⟩ | refine ⟨trivial, ?_⟩)) ?_ ?_ ?_
  · exact (by repeat (first | exact KSub.nil | refine KSub.cons (by repeat (first | exact Pick.hd | apply Pick.tl)) ?_))
  · exact ⟨Nat.zero_le _, fun j hj => by omega⟩
  rintro k ⟨hk, hno⟩ Z0 hZ0
  refine TW.seq fun Y4 hY4 => ?_
  refine TW.region ?_
  refine TL.p Pu.lt ?_
  refine TL.nil ?_
  refine TQ.thenN (hY4 _ _ ?_)
  refine TW.seq fun Y5 hY5 => ?_
  refine TW.cond rfl (fun hc0 => ?_) (fun hc0 => ?_)
  · try simp only [decide_eq_true_eq, decide_eq_false_iff_not, Bool.not_eq_true', Bool.not_eq_false', Bool.and_eq_true, Bool.or_eq_true, Bool.and_eq_false_iff, Bool.or_eq_false_iff, Int.not_lt, Int.not_le] at hc0
    have hkn : k < n := by omega
    refine TW.skip ?_
    refine TQ.thenN (hY5 _ _ ?_)
    refine TW.seq fun Y6 hY6 => ?_
    refine TW.block ?_
    refine TW.seq fun Y7 hY7 => ?_
    refine TW.region ?_
    refine TL.p Pu.mv ?_
    refine TL.p Pu.as ?_
    refine TL.nil ?_
    refine TQ.thenN (hY7 _ _ ?_)
    refine TW.seq fun Y8 hY8 => ?_
    refine TW.region ?_
    refine TL.p Pu.mv ?_
    refine TL.p Pu.mv ?_
    refine TL.p Pu.mv ?_
    refine TL.p (Pu.el ty_et31) ?_
    refine TL.p (Pu.ld ty_sc3) ?_
    refine TL.p Pu.eq ?_
    refine TL.nil ?_
    refine TQ.thenN (hY8 _ _ ?_)
    refine TW.cond rfl (fun hc1 => ?_) (fun hc1 => ?_)
    · try simp only [decide_eq_true_eq, decide_eq_false_iff_not, Bool.not_eq_true', Bool.not_eq_false', Bool.and_eq_true, Bool.or_eq_true, Bool.and_eq_false_iff, Bool.or_eq_false_iff, Int.not_lt, Int.not_le] at hc1
      refine TW.seq fun Y9 hY9 => ?_
      refine TW.region ?_
      refine TL.p Pu.mv ?_
      refine TL.p Pu.as ?_
      refine TL.nil ?_
      refine TQ.thenN (hY9 _ _ ?_)
      refine TW.ret ?_
      refine TQ.blkR ?_
      refine TQ.thenR ?_
      refine TQ.thenR ?_
      refine TQ.blkR ?_
      refine TQ.thenR ?_
      refine TQ.ret Try.results26 rfl ((.tmp rfl .nil)) ?_
      have e := atI_eq (p := fun k => decide (y = v k)) hkn (by simpa using hc1) (fun j hj => by simpa using hno j hj)
      exact fun w hw => ⟨by rw [e]; rfl, Chg.ext hw.chg⟩
    · try simp only [decide_eq_true_eq, decide_eq_false_iff_not, Bool.not_eq_true', Bool.not_eq_false', Bool.and_eq_true, Bool.or_eq_true, Bool.and_eq_false_iff, Bool.or_eq_false_iff, Int.not_lt, Int.not_le] at hc1
      refine TW.skip ?_
      refine TQ.blkN ?_
      refine TQ.thenN (hY6 _ _ ?_)
      refine TW.region ?_
      refine TL.p Pu.ad ?_
      refine TL.p Pu.mv ?_
      refine TL.nil ?_
      refine TQ.thenN (hZ0 (k + 1) _ _ ?_ ?_ (by repeat (first | exact trivial | refine ⟨rfl, ?_⟩ | refine ⟨trivial, ?_⟩)) ?_)
      · refine ⟨by omega, fun j hj => ?_⟩
        by_cases e : j = k
        · subst e; exact hc1
        · exact hno j (by omega)
      · exact (by first | omega | (simp only []; omega) | (simp; omega))
      · exact (by repeat (first | exact KSub.nil | refine KSub.cons (by repeat (first | exact Pick.hd | apply Pick.tl)) ?_))
  · try simp only [decide_eq_true_eq, decide_eq_false_iff_not, Bool.not_eq_true', Bool.not_eq_false', Bool.and_eq_true, Bool.or_eq_true, Bool.and_eq_false_iff, Bool.or_eq_false_iff, Int.not_lt, Int.not_le] at hc0
    obtain rfl : k = n := by omega
    refine TW.exit ?_
    refine TQ.thenX ?_
    refine TQ.thenX ?_
    refine TQ.blkX ?_
    refine TQ.thenN (hY2 _ _ ?_)
    refine TW.seq fun Y10 hY10 => ?_
    refine TW.region ?_
    refine TL.p Pu.as ?_
    refine TL.nil ?_
    refine TQ.thenN (hY10 _ _ ?_)
    refine TW.ret ?_
    refine TQ.ret Try.results26 rfl ((.tmp rfl .nil)) ?_
    have e := atI_none (p := fun k => decide (y = v k)) (n := k) (fun j hj => by simpa using hno j hj)
    exact fun w hw => ⟨by rw [e]; rfl, Chg.ext hw.chg⟩
section
variable {w : World} {f : Nat → Int} {n i bi bp bh cm : Nat} {Am : Option Addr} {va vm vk : Value}
set_option maxRecDepth 100000 in
theorem appendLine_any (hoB : OldB w bh [va, vm, .slice Am n cm, vk]) (hSb : Apart (feet (linM bi bp bh i)) (some ⟨bh, 0, none⟩)) (hoM : RdR w 1 Am n (fun j => [.int .i64 (f j)])) (hA : Apart (feet (linM bi bp bh i)) Am) (hf : Mo f n) (ha : Acyc f n) (hi : i < n) (hn : n ≤ 1000) (hM : Sat (feet (linM bi bp bh i)) w (linM bi bp bh i) w) :
    CallsK Try.prog 35 #[.slice none 0 0, .func (.func 34) #[] #[.pointer (some ⟨bi, 0, none⟩), .pointer (some ⟨bp, 0, none⟩)]] (linM bi bp bh i) w (Option Addr × Nat) (fun y => .slice y.1 (depH f n i) y.2) (fun y => [.own y.1 (depH f n i) y.2 3 1 (fun s => [.int .i64 (upH f i s)])]) := by
  have hdl := dep_le (f := f) (n := n) (i := i)
  refine K_enterM (S := feet (linM bi bp bh i)) (K := linM bi bp bh i) Try.func35 rfl Try.ntmps35 rfl hM ?_
  refine TW.seqD fun Y1 hY1 => ?_
  refine TW.region ?_
  refine TL.m Mk.bx ?_
  intro b1
  refine TL.p Pu.as ?_
  refine TL.nil ?_
  refine TQ.thenN (hY1 _ _ _ ?_)
  refine TW.seqD fun Y2 hY2 => ?_
  refine TW.seqD fun Y3 hY3 => ?_
  refine TW.region ?_
  refine TL.p Pu.mv ?_
  refine TL.nil ?_
  refine TQ.thenN (hY3 _ _ _ ?_)
  refine TW.block ?_
  refine TW.rangeR (fun (q : Nat) (r : Option Addr × Nat) => .own r.1 q r.2 3 1 (fun s => [.int .i64 (upH f i s)]) :: .blk b1 31 [.slice r.1 q r.2] :: []) (fun x : Empty => x.elim) (fun x => x.elim) ((none, 0)) (fun x y => line1_iter (N := depH f n i) (bi := bi) (bp := bp) (i := i) hoB hSb hoM hA hf hi (.inl ⟨rfl, ha i hi⟩)) ?_ ?_ ?_ ?_ (eg := enters Try.func34 rfl rfl)
  · exact KSub.cons (by repeat (first | exact Pick.hd | apply Pick.tl)) (KSub.cons (by repeat (first | exact Pick.hd | apply Pick.tl)) (KSub.nilOwn (KSub.cons (by repeat (first | exact Pick.hd | apply Pick.tl)) KSub.nil)))
  · rintro lR DR oR oR1 oR2 q g ⟨Al, cl⟩ hq ZR0 hZR0
    simp only [linM, List.cons_append, List.nil_append]
    refine TWi.region ?_
    refine TL.p Pu.as ?_
    refine TL.nil ?_
    refine TQ.thenN (hZR0 _ _ _ Pick.hd ?_)
    refine TWi.block ?_
    refine TWi.region ?_
    refine TL.p (Pu.ld ty_sc31) ?_
    refine TL.p Pu.mv ?_
    refine TL.m Mk.bl ?_
    intro b2
    first | refine TL.a0 ty_et31 ?_ | refine TL.ap ty_et31 ?_
    intro A3 c3
    first | refine TL.st ty_sz31 ?_ | refine TL.se ty_sz31 ?_
    refine TL.nil ?_
    refine TQ.blkN ?_
    refine TQ.rbN ((A3, c3)) ?_
    simp only [linM, List.cons_append, List.nil_append]
    exact KSub.cons (by repeat (first | exact Pick.hd | apply Pick.tl)) (KSub.cons (by repeat (first | exact Pick.hd | apply Pick.tl)) (KSub.cons (by repeat (first | exact Pick.hd | apply Pick.tl)) (KSub.cons (by repeat (first | exact Pick.hd | apply Pick.tl)) (KSub.own (by repeat (first | exact Pick.hd | apply Pick.tl)) (fun j hj => by exact cat_rows (r := fun s => [Value.int .i64 (upH f i s)]) rfl hj) (KSub.cons (by repeat (first | exact Pick.hd | apply Pick.tl)) KSub.nil)))))
  · rintro DR ⟨Al, cl⟩
    simp only [List.nil_append]
    refine TQ.blkN ?_
    refine TQ.thenN (hY2 _ _ _ ?_)
    refine TW.seqD fun Y4 hY4 => ?_
    refine TW.region ?_
    refine TL.p (Pu.ld ty_sc31) ?_
    refine TL.p Pu.as ?_
    refine TL.nil ?_
    refine TQ.thenN (hY4 _ _ _ ?_)
    refine TW.ret ?_
    refine TQ.retM Try.results35 (by repeat (first | exact Pick.hd | apply Pick.tl)) ((.tmp rfl .nil)) ?_
    exact fun w hw => ⟨(Al, cl), rfl, hw.sub (KSub.cons (by repeat (first | exact Pick.hd | apply Pick.tl)) KSub.nil)⟩
  · intro _ x; exact x.elim
theorem collectLine_any (hoB : OldB w bh [va, vm, .slice Am n cm, vk]) (hSb : Apart (feet (linM bi bp bh i)) (some ⟨bh, 0, none⟩)) (hoM : RdR w 1 Am n (fun j => [.int .i64 (f j)])) (hA : Apart (feet (linM bi bp bh i)) Am) (hf : Mo f n) (ha : Acyc f n) (hi : i < n) (hn : n ≤ 1000) (hM : Sat (feet (linM bi bp bh i)) w (linM bi bp bh i) w) :
    CallsK Try.prog 25 #[.func (.func 34) #[] #[.pointer (some ⟨bi, 0, none⟩), .pointer (some ⟨bp, 0, none⟩)]] (linM bi bp bh i) w (Option Addr × Nat) (fun y => .slice y.1 (depH f n i) y.2) (fun y => [.own y.1 (depH f n i) y.2 3 1 (fun s => [.int .i64 (upH f i s)])]) := by
  refine K_enter (S := feet (linM bi bp bh i)) (K := linM bi bp bh i) Try.func25 rfl Try.ntmps25 rfl hM ?_
  refine TW.seq fun Y1 hY1 => ?_
  refine TW.region ?_
  refine TL.p Pu.as ?_
  refine TL.nil ?_
  refine TQ.thenN (hY1 _ _ ?_)
  refine TW.seq fun Y2 hY2 => ?_
  refine TW.region ?_
  refine TL.p Pu.mv ?_
  refine TL.call rfl (enters Try.func35 rfl rfl) (M := linM bi bp bh i) (List.Perm.of_eq (List.append_nil _).symm) rfl (fun w hw => by
      exact appendLine_any (hoB.sat hw (hSb _ rfl)) hSb (hoM.sat hw hA) hA hf ha hi hn hw.self) ?_
  rintro ⟨Al, cl⟩
  refine TL.p Pu.as ?_
  refine TL.nil ?_
  refine TQ.thenN (hY2 _ _ ?_)
  refine TW.ret ?_
  refine TQ.ret Try.results25 rfl ((.tmp rfl .nil)) ?_
  exact fun w hw => ⟨(Al, cl), rfl, hw.sub (KSub.cons (by repeat (first | exact Pick.hd | apply Pick.tl)) KSub.nil)⟩
end
def kinM (f : Nat → Int) (n i j u : Nat) : Bool := anyB (depH f n j) fun d => decide (upH f i u = upH f j d)
def kinU (f : Nat → Int) (n i j : Nat) : Nat := fst1 (kinM f n i j) (depH f n i)
def kinD (f : Nat → Int) (n i j : Nat) : Int := atI (fun d => decide (upH f i (kinU f n i j) = upH f j d)) (depH f n j)
def kinC (H : Hd) (a b : Int) : Int := if herdB H then (if 0 ≤ atH H a ∧ 0 ≤ atH H b then (if kinU (moH H) H.n (atH H a).toNat (atH H b).toNat < depH (moH H) H.n (atH H a).toNat then 0 else 6) else 2) else 20
def kinR (H : Hd) (a b : Int) : Int × Int := if kinC H a b = 0 then ((kinU (moH H) H.n (atH H a).toNat (atH H b).toNat : Int), kinD (moH H) H.n (atH H a).toNat (atH H b).toNat) else (0, 0)
theorem kin_at {f : Nat → Int} {n i j u : Nat} : decide (0 ≤ atI (fun d => decide (upH f i u = upH f j d)) (depH f n j)) = kinM f n i j u := by
  unfold kinM
  rw [Bool.eq_iff_iff, decide_eq_true_eq, anyB_iff]
  constructor
  · intro h
    obtain ⟨h1, h2, _⟩ := atI_le h
    exact ⟨_, h1, h2⟩
  · rintro ⟨d, hd, he⟩
    unfold atI
    rw [if_pos (fst1_lt.2 ⟨d, hd, he⟩)]
    omega
set_option maxRecDepth 100000 in
set_option maxHeartbeats 4000000 in
theorem bKin_any {w : World} {A : Option Addr} {cp : Nat} {H : Hd} {a : Nat → Option Addr} {c : Nat → Nat} {ia ib : Int} (hI : HIn w A H a c) :
    Calls Try.prog 10 #[.slice A H.n cp, .int .i64 ia, .int .i64 ib] w (Ret w (.tuple #[.int .i64 (kinR H ia ib).1, .int .i64 (kinR H ia ib).2, .int .i64 (kinC H ia ib)])) := by
  cases hh : herdB H with
  | false =>
    have hc : kinC H ia ib = 20 := by unfold kinC; rw [hh]; rfl
    have hr : kinR H ia ib = (0, 0) := by unfold kinR; rw [hc]; rfl
    rw [hr, hc]
    refine K_enterM (S := []) (K := []) Try.func10 rfl Try.ntmps10 rfl (Sat.start _) ?_
    refine TW.seqD fun Y1 hY1 => ?_
    refine TW.region ?_
    refine TL.m (Mk.al ty_zr3) ?_
    intro b1
    refine TL.m (Mk.al ty_zr3) ?_
    intro b2
    refine TL.m (Mk.al ty_zr26) ?_
    intro b3
    refine TL.nil ?_
    refine TQ.thenN (hY1 _ _ _ ?_)
    refine TW.seqD fun Y2 hY2 => ?_
    refine TW.region ?_
    refine TL.p Pu.mv ?_
    refine TL.call (M := []) rfl (enters Try.func21 rfl rfl) (List.Perm.refl _) rfl (fun w hw => by
        have h9 := open_any (cp := cp) (hI.sat hw)
        rw [hh] at h9
        exact h9) ?_
    rintro xo
    refine TL.p Pu.mv ?_
    refine TL.p Pu.ex ?_
    refine TL.p Pu.ex ?_
    refine TL.p Pu.as ?_
    first | refine TL.st ty_sz26 ?_ | refine TL.se ty_sz26 ?_
    refine TL.nil ?_
    refine TQ.thenN (hY2 _ _ _ ?_)
    refine TW.seqD fun Y3 hY3 => ?_
    refine TW.seqD fun Y4 hY4 => ?_
    refine TW.region ?_
    refine TL.p (Pu.ld ty_sc26) ?_
    refine TL.p Pu.ne ?_
    refine TL.nil ?_
    refine TQ.thenN (hY4 _ _ _ ?_)
    refine TW.condT rfl (rfl) ?_
    refine TW.seqD fun Y5 hY5 => ?_
    refine TW.np ?_
    refine TW.rf (Drop.blk 6 rfl (by repeat (first | exact Pick.hd | apply Pick.tl)) (Drop.blk 7 rfl (by repeat (first | exact Pick.hd | apply Pick.tl)) Drop.done)) ?_
    refine RF.tk (Pu.ld ty_sc26) ?_
    refine RF.ks ?_
    refine RF.ks ?_
    refine RF.ks ?_
    refine RF.go ?_
    refine RG.step fun X1 hX1 => ?_
    first | refine TL.st ty_sz3 ?_ | refine TL.se ty_sz3 ?_
    refine TL.nil ?_
    refine TQ.nxt (hX1 _ _ (by repeat (first | exact HasL.nil | refine HasL.cons (by repeat (first | exact Pick.hd | apply Pick.tl)) ?_)) ?_)
    refine RG.step fun X2 hX2 => ?_
    first | refine TL.st ty_sz3 ?_ | refine TL.se ty_sz3 ?_
    refine TL.nil ?_
    refine TQ.nxt (hX2 _ _ (by repeat (first | exact HasL.nil | refine HasL.cons (by repeat (first | exact Pick.hd | apply Pick.tl)) ?_)) ?_)
    refine RG.step fun X3 hX3 => ?_
    first | refine TL.st ty_sz26 ?_ | refine TL.se ty_sz26 ?_
    refine TL.nil ?_
    refine TQ.nxt (hX3 _ _ (by repeat (first | exact HasL.nil | refine HasL.cons (by repeat (first | exact Pick.hd | apply Pick.tl)) ?_)) ?_)
    refine RG.nil ?_
    refine TQ.npN ?_
    refine TQ.thenN (hY5 _ _ _ ?_)
    refine TW.ret ?_
    refine TQ.thenR ?_
    refine TQ.retM0 Try.results10 ((RV.c1 ty_sc3 (RV.c1 ty_sc3 (RV.c1 ty_sc26 .nil)))) ?_
    exact fun w hw => ⟨rfl, Chg.ext hw.chg⟩
  | true =>
    have hk := herdB_ok.1 hh
    have h16 := hk.n16
    obtain ⟨i, hi9⟩ : ∃ i, i = (atH H ia).toNat := ⟨_, rfl⟩
    obtain ⟨j, hj9⟩ : ∃ j, j = (atH H ib).toNat := ⟨_, rfl⟩
    refine K_enterM (S := []) (K := []) Try.func10 rfl Try.ntmps10 rfl (Sat.start _) ?_
    refine TW.seqD fun Y1 hY1 => ?_
    refine TW.region ?_
    refine TL.m (Mk.al ty_zr3) ?_
    intro b1
    refine TL.m (Mk.al ty_zr3) ?_
    intro b2
    refine TL.m (Mk.al ty_zr26) ?_
    intro b3
    refine TL.nil ?_
    refine TQ.thenN (hY1 _ _ _ ?_)
    refine TW.seqD fun Y2 hY2 => ?_
    refine TW.region ?_
    refine TL.p Pu.mv ?_
    refine TL.call (M := []) rfl (enters Try.func21 rfl rfl) (List.Perm.refl _) rfl (fun w hw => by
        have h9 := open_any (cp := cp) (hI.sat hw)
        rw [hh] at h9
        exact h9) ?_
    rintro xo
    simp only [if_true, opK]
    refine TL.p Pu.mv ?_
    refine TL.p Pu.ex ?_
    refine TL.p Pu.ex ?_
    refine TL.p Pu.as ?_
    first | refine TL.st ty_sz26 ?_ | refine TL.se ty_sz26 ?_
    refine TL.nil ?_
    refine TQ.thenN (hY2 _ _ _ ?_)
    refine TW.seqD fun Y3 hY3 => ?_
    refine TW.seqD fun Y4 hY4 => ?_
    refine TW.region ?_
    refine TL.p (Pu.ld ty_sc26) ?_
    refine TL.p Pu.ne ?_
    refine TL.nil ?_
    refine TQ.thenN (hY4 _ _ _ ?_)
    refine TW.condF rfl (rfl) ?_
    refine TW.skip ?_
    refine TQ.thenN (hY3 _ _ _ ?_)
    refine TW.seqD fun Y5 hY5 => ?_
    refine TW.region ?_
    refine TL.p Pu.mv ?_
    refine TL.p (by first | exact Pu.nn | exact Pu.nc) ?_
    refine TL.p (by first | exact Pu.fb ty_fa63_1 | exact Pu.fe ty_fa63_1) ?_
    refine TL.p (Pu.ld ty_sc60) ?_
    refine TL.p Pu.mv ?_
    refine TL.p (Pu.lkV (.int .i64 (i : Int)) (decide (0 ≤ atH H ia)) ty_mp60 ty_zv3 (hi9 ▸ pl_n) pl_s) ?_
    refine TL.p Pu.mv ?_
    refine TL.p Pu.ex ?_
    refine TL.p Pu.ex ?_
    refine TL.p Pu.as ?_
    refine TL.p Pu.as ?_
    refine TL.nil ?_
    refine TQ.thenN (hY5 _ _ _ ?_)
    refine TW.seqD fun Y6 hY6 => ?_
    refine TW.region ?_
    refine TL.p Pu.mv ?_
    refine TL.p (by first | exact Pu.nn | exact Pu.nc) ?_
    refine TL.p (by first | exact Pu.fb ty_fa63_1 | exact Pu.fe ty_fa63_1) ?_
    refine TL.p (Pu.ld ty_sc60) ?_
    refine TL.p Pu.mv ?_
    refine TL.p (Pu.lkV (.int .i64 (j : Int)) (decide (0 ≤ atH H ib)) ty_mp60 ty_zv3 (hj9 ▸ pl_n) pl_s) ?_
    refine TL.p Pu.mv ?_
    refine TL.p Pu.ex ?_
    refine TL.p Pu.ex ?_
    refine TL.p Pu.as ?_
    refine TL.p Pu.as ?_
    refine TL.nil ?_
    refine TQ.thenN (hY6 _ _ _ ?_)
    refine TW.seqD fun Y7 hY7 => ?_
    refine TW.seqD fun Y8 hY8 => ?_
    refine TW.join [(47, .bool (!decide (0 ≤ atH H ia ∧ 0 ≤ atH H ib)))] ?_ (fun hJ1 => ?_)
    · refine TQ.thenN (hY8 _ _ _ ?_)
      refine TW.cond rfl (fun hc1 => ?_) (fun hc1 => ?_)
      · try simp only [decide_eq_true_eq, decide_eq_false_iff_not, Bool.not_eq_true', Bool.not_eq_false', Bool.and_eq_true, Bool.or_eq_true, Bool.and_eq_false_iff, Bool.or_eq_false_iff, Int.not_lt, Int.not_le] at hc1
        have hc : kinC H ia ib = 2 := by unfold kinC; rw [hh, if_pos rfl, if_neg (by simpa using hc1)]
        have hr : kinR H ia ib = (0, 0) := by unfold kinR; rw [hc]; rfl
        refine TW.seqD fun Y9 hY9 => ?_
        refine TW.region ?_
        first | refine TL.st ty_sz3 ?_ | refine TL.se ty_sz3 ?_
        first | refine TL.st ty_sz3 ?_ | refine TL.se ty_sz3 ?_
        first | refine TL.st ty_sz26 ?_ | refine TL.se ty_sz26 ?_
        refine TL.nil ?_
        refine TQ.thenN (hY9 _ _ _ ?_)
        refine TW.ret ?_
        refine TQ.thenR ?_
        refine TQ.retM0 Try.results10 ((RV.c1 ty_sc3 (RV.c1 ty_sc3 (RV.c1 ty_sc26 .nil)))) ?_
        exact fun w hw => ⟨by rw [hr, hc]; rfl, Chg.ext hw.chg⟩
      · try simp only [decide_eq_true_eq, decide_eq_false_iff_not, Bool.not_eq_true', Bool.not_eq_false', Bool.and_eq_true, Bool.or_eq_true, Bool.and_eq_false_iff, Bool.or_eq_false_iff, Int.not_lt, Int.not_le] at hc1
        have hab : 0 ≤ atH H ia ∧ 0 ≤ atH H ib := by simpa using hc1
        obtain ⟨hil, hie⟩ := at_lt hab.1
        obtain ⟨hjl, hje⟩ := at_lt hab.2
        rw [← hi9] at hil hie
        rw [← hj9] at hjl hje
        refine TW.skip ?_
        refine TQ.thenN (hY7 _ _ _ ?_)
        refine TW.seqD fun Y10 hY10 => ?_
        refine TW.region ?_
        refine TL.p Pu.mv ?_
        refine TL.p Pu.mv ?_
        refine TL.call (M := []) rfl (enters Try.func22 rfl rfl) (List.Perm.refl _) rfl (fun w hw => by
            exact line_any) ?_
        rintro ⟨bi, bp⟩
        refine TL.call rfl (enters Try.func25 rfl rfl) (M := linM bi bp xo.1.1 j) (List.Perm.refl _) rfl (fun w hw => by
            have hw2 : Sat _ _ (linM bi bp xo.1.1 j ++ _) _ := hw
            exact collectLine_any (OldB.of_blk (hw.holds (.blk xo.1.1 63 [.slice A H.n cp, .map (some xo.1.2), .slice xo.2.1.1 H.n xo.2.1.2, .slice xo.2.2.1 H.n xo.2.2.2]) (by simp))) (Sat.apartB (t := 63) (cs := [.slice A H.n cp, .map (some xo.1.2), .slice xo.2.1.1 H.n xo.2.1.2, .slice xo.2.2.1 H.n xo.2.2.2]) hw2 (by simp)) (OwnR.rdr (hw.holds (.own xo.2.1.1 H.n xo.2.1.2 3 1 (fun j => [.int .i64 (moH H j)])) (by simp))) (Sat.apartO (n := H.n) (c := xo.2.1.2) (E := 3) (sz := 1) (r := fun j => [.int .i64 (moH H j)]) hw2 (by simp)) moH_Mo hk.ac hjl (by omega) (Has.sat ⟨_, List.Perm.refl _⟩ hw2).self) ?_
        rintro ⟨Al, cl⟩
        refine TL.m (Mk.al ty_zr31) ?_
        intro b4
        first | refine TL.st ty_sz31 ?_ | refine TL.se ty_sz31 ?_
        refine TL.nil ?_
        refine TQ.thenN (hY10 _ _ _ ?_)
        refine TW.seqD fun Y11 hY11 => ?_
        refine TW.rebaseK [.blk b1 3 [.int .i64 0], .blk b2 3 [.int .i64 0], .blk b3 26 [.int .i64 0], .own Al (depH (moH H) H.n j) cl 3 1 (fun s => [.int .i64 (upH (moH H) j s)]), .blk b4 31 [.slice Al (depH (moH H) H.n j) cl]] (opK H A cp xo) (by unfold opK; (repeat (first | exact KSub.nil | refine KSub.cons (by repeat (first | exact Pick.hd | apply Pick.tl)) ?_))) fun w1 hw1 => ?_
        have hoB : OldB w1 xo.1.1 [.slice A H.n cp, .map (some xo.1.2), .slice xo.2.1.1 H.n xo.2.1.2, .slice xo.2.2.1 H.n xo.2.2.2] := OldB.of_blk (hw1.holds (.blk xo.1.1 63 [.slice A H.n cp, .map (some xo.1.2), .slice xo.2.1.1 H.n xo.2.1.2, .slice xo.2.2.1 H.n xo.2.2.2]) (by simp [opK]))
        have hSb := hw1.apartB (b := xo.1.1) (t := 63) (cs := [.slice A H.n cp, .map (some xo.1.2), .slice xo.2.1.1 H.n xo.2.1.2, .slice xo.2.2.1 H.n xo.2.2.2]) (by simp [opK])
        have hoM : RdR w1 1 xo.2.1.1 H.n (fun j => [.int .i64 (moH H j)]) := OwnR.rdr (hw1.holds (.own xo.2.1.1 H.n xo.2.1.2 3 1 (fun j => [.int .i64 (moH H j)])) (by simp [opK]))
        have hSm := hw1.apartO (A := xo.2.1.1) (n := H.n) (c := xo.2.1.2) (E := 3) (sz := 1) (r := fun j => [.int .i64 (moH H j)]) (by simp [opK])
        have hdj := dep_le (f := moH H) (n := H.n) (i := j)
        have hdi := dep_le (f := moH H) (n := H.n) (i := i)
        refine TW.seqD fun Y12 hY12 => ?_
        refine TW.region ?_
        refine TL.p Pu.mv ?_
        refine TL.p Pu.mv ?_
        refine TL.call (M := []) rfl (enters Try.func22 rfl rfl) (List.Perm.refl _) rfl (fun w hw => by
            exact line_any) ?_
        rintro ⟨bi, bp⟩
        refine TL.nil ?_
        refine TQ.thenN (hY12 _ _ _ ?_)
        refine TW.block ?_
        refine TW.rangeR (fun (q : Nat) (r : Int) => if allB q (fun u => !kinM (moH H) H.n i j u) = true then .blk b1 3 [.int .i64 (q : Int)] :: .blk b2 3 [.int .i64 r] :: .blk b3 26 [.int .i64 0] :: .own Al (depH (moH H) H.n j) cl 3 1 (fun s => [.int .i64 (upH (moH H) j s)]) :: .blk b4 31 [.slice Al (depH (moH H) H.n j) cl] :: [] else [badF]) (fun _ : { u : Nat // u < depH (moH H) H.n i ∧ kinU (moH H) H.n i j = u } => Code.ret) (fun u => .blk b1 3 [.int .i64 (u.1 : Int)] :: .blk b2 3 [.int .i64 (atI (fun d => decide (upH (moH H) i u.1 = upH (moH H) j d)) (depH (moH H) H.n j))] :: .blk b3 26 [.int .i64 0] :: []) (0) (fun x y => line1_iter (N := depH (moH H) H.n i) (bi := bi) (bp := bp) (i := i) hoB hSb hoM hSm moH_Mo hil (.inl ⟨rfl, hk.ac i hil⟩)) ?_ ?_ ?_ ?_ (eg := enters Try.func34 rfl rfl)
        · show KSub _ (linM bi bp xo.1.1 i ++ (if allB 0 (fun u => !kinM (moH H) H.n i j u) = true then _ else _))
          rw [if_pos allB_zero]
          exact KSub.cons (by repeat (first | exact Pick.hd | apply Pick.tl)) (KSub.cons (by repeat (first | exact Pick.hd | apply Pick.tl)) (KSub.cons (by repeat (first | exact Pick.hd | apply Pick.tl)) (KSub.cons (by repeat (first | exact Pick.hd | apply Pick.tl)) (KSub.cons (by repeat (first | exact Pick.hd | apply Pick.tl)) (KSub.cons (by repeat (first | exact Pick.hd | apply Pick.tl)) (KSub.cons (by repeat (first | exact Pick.hd | apply Pick.tl)) KSub.nil))))))
        · rintro lR DR oR oR1 oR2 q g r hq ZR0 hZR0
          by_cases hno : allB q (fun u => !kinM (moH H) H.n i j u) = true
          case neg => exact fun a w hF hK => (no_bad hK (by rw [if_neg hno]; simp)).elim
          simp only [if_pos hno, linM, List.cons_append, List.nil_append]
          refine TWi.region ?_
          refine TL.p Pu.as ?_
          refine TL.nil ?_
          refine TQ.thenN (hZR0 _ _ _ Pick.hd ?_)
          refine TWi.block ?_
          refine TWi.seq fun Y13 hY13 => ?_
          refine TWi.seq fun Y14 hY14 => ?_
          refine TWi.region ?_
          refine TL.p (Pu.ld ty_sc31) ?_
          refine TL.p Pu.mv ?_
          refine TL.cr rfl (enters Try.func26 rfl rfl) (fun w hw => by
              exact bIndex_any (v := fun s => upH (moH H) j s) (upH (moH H) i q) (by omega) (OwnR.rdr (hw.holds (.own Al (depH (moH H) H.n j) cl 3 1 (fun s => [.int .i64 (upH (moH H) j s)])) (by simp)))) ?_
          first | refine TL.st ty_sz3 ?_ | refine TL.se ty_sz3 ?_
          refine TL.nil ?_
          refine TQ.thenN (hY14 _ _ ?_)
          refine TWi.seq fun Y15 hY15 => ?_
          refine TWi.region ?_
          refine TL.p (Pu.ld ty_sc3) ?_
          refine TL.p Pu.ge ?_
          refine TL.nil ?_
          refine TQ.thenN (hY15 _ _ ?_)
          refine TWi.cond rfl (fun hc2 => ?_) (fun hc2 => ?_)
          · try simp only [decide_eq_true_eq, decide_eq_false_iff_not, Bool.not_eq_true', Bool.not_eq_false', Bool.and_eq_true, Bool.or_eq_true, Bool.and_eq_false_iff, Bool.or_eq_false_iff, Int.not_lt, Int.not_le] at hc2
            have hyes : kinM (moH H) H.n i j q = true := by rw [← kin_at]; exact decide_eq_true hc2
            have hUq : kinU (moH H) H.n i j = q := fst1_uniq (Nat.le_of_lt hq) (fun u hu => by have := allB_iff.1 hno u hu; simpa using this) (fun _ => hyes)
            refine TWi.seq fun Y16 hY16 => ?_
            refine TWi.rf (Drop.blk 8 rfl (by repeat (first | exact Pick.hd | apply Pick.tl)) Drop.done) ?_
            refine RF.tk (Pu.ld ty_sc3) ?_
            refine RF.tk (Pu.ld ty_sc3) ?_
            refine RF.ks ?_
            refine RF.ks ?_
            refine RF.ks ?_
            refine RF.go ?_
            refine RG.step fun X1 hX1 => ?_
            first | refine TL.st ty_sz3 ?_ | refine TL.se ty_sz3 ?_
            refine TL.nil ?_
            refine TQ.nxt (hX1 _ _ (by repeat (first | exact HasL.nil | refine HasL.cons (by repeat (first | exact Pick.hd | apply Pick.tl)) ?_)) ?_)
            refine RG.step fun X2 hX2 => ?_
            first | refine TL.st ty_sz3 ?_ | refine TL.se ty_sz3 ?_
            refine TL.nil ?_
            refine TQ.nxt (hX2 _ _ (by repeat (first | exact HasL.nil | refine HasL.cons (by repeat (first | exact Pick.hd | apply Pick.tl)) ?_)) ?_)
            refine RG.step fun X3 hX3 => ?_
            first | refine TL.st ty_sz26 ?_ | refine TL.se ty_sz26 ?_
            refine TL.nil ?_
            refine TQ.nxt (hX3 _ _ (by repeat (first | exact HasL.nil | refine HasL.cons (by repeat (first | exact Pick.hd | apply Pick.tl)) ?_)) ?_)
            refine RG.nil ?_
            refine TQ.thenN (hY16 _ _ ?_)
            refine TWi.ret ?_
            refine TQ.thenR ?_
            refine TQ.blkR ?_
            refine TQ.rbR (⟨q, hq, hUq⟩) rfl ?_
            simp only [linM, List.cons_append, List.nil_append]
            exact KSub.cons (by repeat (first | exact Pick.hd | apply Pick.tl)) (KSub.cons (by repeat (first | exact Pick.hd | apply Pick.tl)) (KSub.cons (by repeat (first | exact Pick.hd | apply Pick.tl)) (KSub.cons (by repeat (first | exact Pick.hd | apply Pick.tl)) (KSub.cons (by repeat (first | exact Pick.hd | apply Pick.tl)) (KSub.cons (by repeat (first | exact Pick.hd | apply Pick.tl)) (KSub.cons (by repeat (first | exact Pick.hd | apply Pick.tl)) KSub.nil))))))
          · try simp only [decide_eq_true_eq, decide_eq_false_iff_not, Bool.not_eq_true', Bool.not_eq_false', Bool.and_eq_true, Bool.or_eq_true, Bool.and_eq_false_iff, Bool.or_eq_false_iff, Int.not_lt, Int.not_le] at hc2
            have hnot : kinM (moH H) H.n i j q = false := by rw [← kin_at]; exact decide_eq_false (by omega)
            have hno1 : allB (q + 1) (fun u => !kinM (moH H) H.n i j u) = true := by rw [allB_succ, hno, hnot]; rfl
            refine TWi.skip ?_
            refine TQ.thenN (hY13 _ _ ?_)
            refine TWi.region ?_
            refine TL.p (Pu.ld ty_sc3) ?_
            refine TL.p Pu.ad ?_
            first | refine TL.st ty_sz3 ?_ | refine TL.se ty_sz3 ?_
            refine TL.nil ?_
            refine TQ.blkN ?_
            refine TQ.rbN ((atI (fun d => decide (upH (moH H) i q = upH (moH H) j d)) (depH (moH H) H.n j))) ?_
            simp only [if_pos hno1, linM, List.cons_append, List.nil_append]
            exact KSub.cons (by repeat (first | exact Pick.hd | apply Pick.tl)) (KSub.cons (by repeat (first | exact Pick.hd | apply Pick.tl)) (KSub.cons (by repeat (first | exact Pick.hd | apply Pick.tl)) (KSub.cons (by repeat (first | exact Pick.hd | apply Pick.tl)) (KSub.valI (by repeat (first | exact Pick.hd | apply Pick.tl)) (by omega) (KSub.cons (by repeat (first | exact Pick.hd | apply Pick.tl)) (KSub.cons (by repeat (first | exact Pick.hd | apply Pick.tl)) (KSub.cons (by repeat (first | exact Pick.hd | apply Pick.tl)) (KSub.cons (by repeat (first | exact Pick.hd | apply Pick.tl)) KSub.nil))))))))
        · rintro DR r
          by_cases hno : allB (depH (moH H) H.n i) (fun u => !kinM (moH H) H.n i j u) = true
          case neg => exact fun a w hF hK => (no_bad hK (by rw [if_neg hno]; simp)).elim
          simp only [if_pos hno, List.nil_append]
          have hU : kinU (moH H) H.n i j = depH (moH H) H.n i := fst1_uniq (Nat.le_refl _) (fun u hu => by have := allB_iff.1 hno u hu; simpa using this) (fun h => by omega)
          have hc : kinC H ia ib = 6 := by unfold kinC; rw [hh, if_pos rfl, if_pos hab, ← hi9, ← hj9, hU, if_neg (by omega)]
          have hr : kinR H ia ib = (0, 0) := by unfold kinR; rw [hc]; rfl
          refine TQ.blkN ?_
          refine TQ.thenN (hY11 _ _ _ ?_)
          refine TW.seqD fun Y17 hY17 => ?_
          refine TW.region ?_
          first | refine TL.st ty_sz3 ?_ | refine TL.se ty_sz3 ?_
          first | refine TL.st ty_sz3 ?_ | refine TL.se ty_sz3 ?_
          first | refine TL.st ty_sz26 ?_ | refine TL.se ty_sz26 ?_
          refine TL.nil ?_
          refine TQ.thenN (hY17 _ _ _ ?_)
          refine TW.ret ?_
          refine TQ.retM Try.results10 (by repeat (first | exact Pick.hd | apply Pick.tl)) ((RV.c1 ty_sc3 (RV.c1 ty_sc3 (RV.c1 ty_sc26 .nil)))) ?_
          exact fun w hw => ⟨by rw [hr, hc]; rfl, Chg.ext (hw1.step hw).chg⟩
        · rintro DR ⟨u, hu1, hu2⟩
          have hc : kinC H ia ib = 0 := by unfold kinC; rw [hh, if_pos rfl, if_pos hab, ← hi9, ← hj9, hu2, if_pos hu1]
          have hr : kinR H ia ib = ((u : Int), atI (fun d => decide (upH (moH H) i u = upH (moH H) j d)) (depH (moH H) H.n j)) := by unfold kinR kinD; rw [if_pos hc, ← hi9, ← hj9, hu2]
          refine TW.ret ?_
          refine TQ.blkR ?_
          refine TQ.thenR ?_
          refine TQ.retM Try.results10 (by repeat (first | exact Pick.hd | apply Pick.tl)) ((RV.c1 ty_sc3 (RV.c1 ty_sc3 (RV.c1 ty_sc26 .nil)))) ?_
          exact fun w hw => ⟨by rw [hr, hc]; rfl, Chg.ext (hw1.step hw).chg⟩
    refine TW.region ?_
    refine TL.p Pu.mv ?_
    refine TL.p Pu.no ?_
    refine TL.p Pu.mv ?_
    refine TL.guard (t := 44) rfl (fun hg1 => ?_) (fun hg1 => ?_)
    · try simp only [decide_eq_true_eq, decide_eq_false_iff_not, Bool.not_eq_true', Bool.not_eq_false', Int.natCast_pos] at hg1
      refine TL.gs ?_
      refine TL.gs ?_
      refine TL.p Pu.kt ?_
      refine TL.nil ?_
      exact TQ.sub (by repeat (first | exact trivial | refine ⟨rfl, ?_⟩ | refine ⟨trivial, ?_⟩ | refine ⟨(by show some (Value.bool _) = some (Value.bool _); simp [hg1]), ?_⟩)) (by repeat (first | exact KSub.nil | refine KSub.cons (by repeat (first | exact Pick.hd | apply Pick.tl)) ?_ | exact KSub.refl _ | refine KSub.drop ?_)) hJ1
    · try simp only [decide_eq_true_eq, decide_eq_false_iff_not, Bool.not_eq_true', Bool.not_eq_false', Int.natCast_pos] at hg1
      refine TL.gd Pu.mv ?_
      refine TL.gd Pu.no ?_
      refine TL.p Pu.kf ?_
      refine TL.nil ?_
      exact TQ.sub (by repeat (first | exact trivial | refine ⟨rfl, ?_⟩ | refine ⟨trivial, ?_⟩ | refine ⟨(by show some (Value.bool _) = some (Value.bool _); simp [hg1]), ?_⟩)) (by repeat (first | exact KSub.nil | refine KSub.cons (by repeat (first | exact Pick.hd | apply Pick.tl)) ?_ | exact KSub.refl _ | refine KSub.drop ?_)) hJ1
end Go.Proofs.Ytlphecckplndnaa
