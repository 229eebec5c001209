/-
  The reference's copy of a land: each leg's gates in memory of their own.
-/
import Derived.Test.YtckiagbllkdfdaaTollL
namespace Go.Proofs.Ytckiagbllkdfdaa
set_option linter.all false
set_option linter.unusedVariables false
set_option linter.unusedSimpArgs false
open Go.RowKit
/-- Many lists, each in memory of its own. -/
def ownsE (E : TypeId) (sz : Nat) (A : Nat → Option Addr) (l c : Nat → Nat) (r : Nat → Nat → List Value) : Nat → List Fact
  | 0 => []
  | n + 1 => .own (A n) (l n) (c n) E sz (r n) :: ownsE E sz A l c r n
theorem ownsE_congr {E : TypeId} {sz : Nat} {A A2 : Nat → Option Addr} {l c c2 : Nat → Nat} {r : Nat → Nat → List Value} : ∀ {n : Nat}, (∀ i, i < n → A i = A2 i ∧ c i = c2 i) → ownsE E sz A l c r n = ownsE E sz A2 l c2 r n
  | 0, _ => rfl
  | n + 1, h => by
    obtain ⟨h1, h2⟩ := h n (by omega)
    simp only [ownsE, h1, h2, ownsE_congr (n := n) fun i hi => h i (by omega)]
theorem ownsE_mem {E : TypeId} {sz : Nat} {A : Nat → Option Addr} {l c : Nat → Nat} {r : Nat → Nat → List Value} {s : Nat} : ∀ {n : Nat}, s < n → Fact.own (A s) (l s) (c s) E sz (r s) ∈ ownsE E sz A l c r n
  | n + 1, h => by
    simp only [ownsE, List.mem_cons]
    by_cases hs : s = n
    · subst hs; exact .inl rfl
    · exact .inr (ownsE_mem (by omega))
def updA {α : Type} (f : Nat → α) (s : Nat) (x : α) : Nat → α := fun i => if i = s then x else f i
abbrev lgA (x : Leg) (a : Option Addr) (d : Nat) : Leg := ⟨x.u, a, x.n, d⟩
/-- The legs when k have gates of their own. -/
def lgT (x : Nat → Leg) (a : Nat → Option Addr) (d : Nat → Nat) (k i : Nat) : Leg := if i < k then lgA (x i) (a i) (d i) else x i
theorem lgT_self {x : Nat → Leg} {a : Nat → Option Addr} {d : Nat → Nat} {k : Nat} : lgT x a d k k = x k := if_neg (by omega)
abbrev TLx := ((Option Addr × Nat) × (Option Addr × Nat)) × (Nat → Option Addr) × (Nat → Nat)
def twL (nw nl : Nat) (f : Nat → Nat → Int) (x : Nat → Leg) (g : Nat → Nat → Nat → Int) (t : TLx) : List Fact :=
  .own t.1.1.1 nw t.1.1.2 83 9 (fun k => wellL (f k)) :: .own t.1.2.1 nl t.1.2.2 58 5 (fun k => legL (lgA (x k) (t.2.1 k) (t.2.2 k))) :: ownsE 85 4 t.2.1 (fun i => (x i).n) t.2.2 (fun i j => gateL (g i j)) nl
set_option maxRecDepth 100000 in
set_option maxHeartbeats 4000000 in
theorem twin3_any {W A : Option Addr} {nw cw nl cl : Nat} {f : Nat → Nat → Int} {x : Nat → Leg} {g : Nat → Nat → Nat → Int} {w : World} (h : LandIn w W nw A nl f x g) :
    CallsK Try.prog 5 #[.agg (landL W nw cw A nl cl).toArray] [] w TLx (fun t => .agg (landL t.1.1.1 nw t.1.1.2 t.1.2.1 nl t.1.2.2).toArray) (twL nw nl f x g) := by
  have hRW := h.hW
  have hRA := h.hA
  have hnw := h.hnw
  have hnl := h.hnl
  unfold landL
  refine K_enter (S := []) (K := []) Try.func5 rfl Try.ntmps5 rfl (Sat.start _) ?_
  refine TW.seq fun Y1 hY1 => ?_
  refine TW.region ?_
  refine TL.m Mk.bx ?_
  intro b1
  refine TL.m (Mk.al ty_zr25) ?_
  intro b2
  refine TL.nil ?_
  refine TQ.thenN (hY1 _ _ ?_)
  refine TW.seq fun Y2 hY2 => ?_
  refine TW.region ?_
  refine TL.m Mk.bl ?_
  intro b3
  refine TL.p (by first | exact Pu.fb ty_fa25_0 | exact Pu.fe ty_fa25_0) ?_
  refine TL.p (Pu.ld ty_sc22) ?_
  refine TL.ob (b := b3) (sz := 9) (r := fun _ => []) (by repeat (first | exact Pick.hd | apply Pick.tl)) rfl ?_
  first | refine TL.a0 ty_et22 ?_ | refine TL.ap ty_et22 ?_
  intro A4 c4
  refine TL.p (by first | exact Pu.fb ty_fa25_0 | exact Pu.fe ty_fa25_0) ?_
  first | refine TL.st ty_sz22 ?_ | refine TL.se ty_sz22 ?_
  refine TL.nil ?_
  refine TQ.thenN (hY2 _ _ ?_)
  refine TW.seq fun Y3 hY3 => ?_
  refine TW.region ?_
  refine TL.m Mk.bl ?_
  intro b5
  refine TL.p (by first | exact Pu.fb ty_fa25_1 | exact Pu.fe ty_fa25_1) ?_
  refine TL.p (Pu.ld ty_sc23) ?_
  refine TL.ob (b := b5) (sz := 5) (r := fun _ => []) (by repeat (first | exact Pick.hd | apply Pick.tl)) rfl ?_
  first | refine TL.a0 ty_et23 ?_ | refine TL.ap ty_et23 ?_
  intro A6 c6
  refine TL.p (by first | exact Pu.fb ty_fa25_1 | exact Pu.fe ty_fa25_1) ?_
  first | refine TL.st ty_sz23 ?_ | refine TL.se ty_sz23 ?_
  refine TL.nil ?_
  refine TQ.thenN (hY3 _ _ ?_)
  refine TW.seq fun Y4 hY4 => ?_
  refine TW.seq fun Y5 hY5 => ?_
  refine TW.region ?_
  refine TL.p Pu.as ?_
  refine TL.nil ?_
  refine TQ.thenN (hY5 _ _ ?_)
  refine TW.block ?_
  refine TW.loop3 (fun (k : Nat) (a : Nat → Option Addr) (d : Nat → Nat) => [(3, .int .i64 (k : Int)), (1, .pointer (some ⟨b1, 0, none⟩)), (2, .pointer (some ⟨b2, 0, none⟩))]) (fun k a d => .blk b1 25 [.slice A4 nw c4, .slice A6 nl c6] :: .blk b2 25 [.slice none 0 0, .slice none 0 0] :: .own A4 nw c4 83 9 (fun k => wellL (f k)) :: .own A6 nl c6 58 5 (fun i => legL (lgT x a d k i)) :: ownsE 85 4 a (fun i => (x i).n) d (fun i j => gateL (g i j)) k) (fun k a d => k ≤ nl) (fun k a d => nl - k) 0 (fun _ => none) (fun _ => 0) (by repeat (first | exact trivial | refine ⟨rfl, ?_⟩ | refine ⟨trivial, ?_⟩)) ?_ ?_ ?_
  · exact KSub.cons (by repeat (first | exact Pick.hd | apply Pick.tl)) (KSub.cons (by repeat (first | exact Pick.hd | apply Pick.tl)) (KSub.cons (by repeat (first | exact Pick.hd | apply Pick.tl)) (KSub.own (by repeat (first | exact Pick.hd | apply Pick.tl)) (fun i _ => by simp only [lgT, Nat.not_lt_zero, if_false]) KSub.nil)))
  · exact Nat.zero_le _
  rintro k a d hk Z0 hZ0
  refine TW.seq fun Y6 hY6 => ?_
  refine TW.seq fun Y7 hY7 => ?_
  refine TW.region ?_
  refine TL.p Pu.mv ?_
  refine TL.p (by first | exact Pu.fb ty_fa25_1 | exact Pu.fe ty_fa25_1) ?_
  refine TL.p (Pu.ld ty_sc23) ?_
  refine TL.p (Pu.ln Try.underlying23) ?_
  refine TL.p Pu.lt ?_
  refine TL.nil ?_
  refine TQ.thenN (hY7 _ _ ?_)
  refine TW.cond rfl (fun hc0 => ?_) (fun hc0 => ?_)
  · try simp only [decide_eq_true_eq, decide_eq_false_iff_not, Bool.not_eq_true', Bool.not_eq_false', Bool.and_eq_true, Bool.or_eq_true, Bool.and_eq_false_iff, Bool.or_eq_false_iff, Int.not_lt, Int.not_le] at hc0
    have hkn : k < nl := by omega
    have hGk : RdR w 4 (lgT x a d k k).A (lgT x a d k k).n (fun j => gateL (g k j)) := by rw [lgT_self]; exact h.hG k hkn
    have hnk : (lgT x a d k k).n ≤ 1000 := by rw [lgT_self]; exact h.hn k hkn
    refine TW.skip ?_
    refine TQ.thenN (hY6 _ _ ?_)
    refine TW.seq fun Y8 hY8 => ?_
    refine TW.block ?_
    refine TW.expk [.blk b1 25 [.slice A4 nw c4, .slice A6 nl c6]] (fun (⟨A10, c10⟩ : Option Addr × Nat) => ([(3, .int .i64 (k : Int)), (1, .pointer (some ⟨b1, 0, none⟩)), (2, .pointer (some ⟨b2, 0, none⟩))] : Fr)) (fun (⟨A10, c10⟩ : Option Addr × Nat) => .blk b1 25 [.slice A4 nw c4, .slice A6 nl c6] :: .blk b2 25 [.slice none 0 0, .slice none 0 0] :: .own A4 nw c4 83 9 (fun k => wellL (f k)) :: .own A6 nl c6 58 5 (updR (fun i => legL (lgT x a d k i)) k [.int .i64 ((lgT x a d k k).u 0), .int .i64 ((lgT x a d k k).u 1), .int .i64 ((lgT x a d k k).u 2), .int .i64 ((lgT x a d k k).u 3), .slice A10 (lgT x a d k k).n c10]) :: .own A10 (lgT x a d k k).n c10 85 4 (fun j => gateL (g k j)) :: ownsE 85 4 a (fun i => (x i).n) d (fun i j => gateL (g i j)) k) ?_ (fun hE => ?_)
    · rintro ⟨A10, c10⟩
      refine TQ.blkN ?_
      refine TQ.thenN (hY8 _ _ ?_)
      refine TW.region ?_
      refine TL.p Pu.mv ?_
      refine TL.p Pu.ad ?_
      refine TL.p Pu.as ?_
      refine TL.nil ?_
      refine TQ.thenN (hZ0 (k + 1) (updA a k A10) (updA d k c10) _ _ ?_ ?_ (by repeat (first | exact trivial | refine ⟨rfl, ?_⟩ | refine ⟨trivial, ?_⟩)) ?_)
      · exact (by omega)
      · exact (by first | omega | (simp only []; omega) | (simp; omega))
      · simp only [lgT_self]
        have e : ownsE 85 4 (updA a k A10) (fun i => (x i).n) (updA d k c10) (fun i j => gateL (g i j)) k = ownsE 85 4 a (fun i => (x i).n) d (fun i j => gateL (g i j)) k := ownsE_congr fun i hi => ⟨if_neg (by omega), if_neg (by omega)⟩
        simp only [ownsE, e]
        have ea : updA a k A10 k = A10 := if_pos rfl
        have ed : updA d k c10 k = c10 := if_pos rfl
        simp only [ea, ed]
        refine KSub.cons Pick.hd (KSub.cons Pick.hd (KSub.cons Pick.hd (KSub.own Pick.hd (fun i hi => ?_) (KSub.refl _))))
        simp only [updR]
        by_cases hik : i = k
        · subst hik
          rw [if_pos rfl, lgT, if_pos (by omega)]
          simp only [lgA, legL, ea, ed]
        · rw [if_neg hik]
          unfold lgT updA
          by_cases h9 : i < k
          · rw [if_pos h9, if_pos (by omega), if_neg hik, if_neg hik]
          · rw [if_neg h9, if_neg (by omega)]
    refine RG.tk 0 rfl (by first | exact Pu.fb ty_fa25_1 | exact Pu.fe ty_fa25_1) ?_
    refine RG.tk 1 rfl (Pu.ld ty_sc23) ?_
    refine RG.tk 2 rfl Pu.mv ?_
    refine RG.tk 4 rfl (by first | exact Pu.fb ty_fa25_1 | exact Pu.fe ty_fa25_1) ?_
    refine RG.tk 5 rfl (Pu.ld ty_sc23) ?_
    refine RG.tk 6 rfl Pu.mv ?_
    refine RG.a2 3 7 rfl rfl (fun X3 hX3 => ?_) (fun X7 hX7 => ?_)
    · refine TL.m Mk.bl ?_
      intro x3
      refine TL.nil ?_
      refine TQ.nxt (hX3 _ _ (by repeat (first | exact HasL.nil | refine HasL.cons (by repeat (first | exact Pick.hd | apply Pick.tl)) ?_)) ?_)
      refine RG.a1 7 rfl (fun X7 hX7 => ?_)
      refine TL.p (Pu.el ty_et23) ?_
      refine TL.nil ?_
      refine TQ.nxt (hX7 _ _ (by repeat (first | exact HasL.nil | refine HasL.cons (by repeat (first | exact Pick.hd | apply Pick.tl)) ?_)) ?_)
      refine RG.a1 8 rfl (fun X8 hX8 => ?_)
      refine TL.p (by first | exact Pu.fb ty_fa58_3 | exact Pu.fe ty_fa58_3) ?_
      refine TL.nil ?_
      refine TQ.nxt (hX8 _ _ (by repeat (first | exact HasL.nil | refine HasL.cons (by repeat (first | exact Pick.hd | apply Pick.tl)) ?_)) ?_)
      refine RG.a1 9 rfl (fun X9 hX9 => ?_)
      refine TL.p (Pu.ld ty_sc54) ?_
      refine TL.nil ?_
      refine TQ.nxt (hX9 _ _ (by repeat (first | exact HasL.nil | refine HasL.cons (by repeat (first | exact Pick.hd | apply Pick.tl)) ?_)) ?_)
      refine RG.a1 10 rfl (fun X10 hX10 => ?_)
      refine TL.ob (b := x3) (sz := 4) (r := fun _ => []) (by repeat (first | exact Pick.hd | apply Pick.tl)) rfl ?_
      first | refine TL.a0 ty_et54 ?_ | refine TL.ap ty_et54 ?_
      intro A10 c10
      refine TL.nil ?_
      refine TQ.nxt (hX10 _ _ (by repeat (first | exact HasL.nil | refine HasL.cons (by repeat (first | exact Pick.hd | apply Pick.tl)) ?_)) ?_)
      refine RG.a1 11 rfl (fun X11 hX11 => ?_)
      refine TL.p (Pu.el ty_et23) ?_
      refine TL.nil ?_
      refine TQ.nxt (hX11 _ _ (by repeat (first | exact HasL.nil | refine HasL.cons (by repeat (first | exact Pick.hd | apply Pick.tl)) ?_)) ?_)
      refine RG.a1 12 rfl (fun X12 hX12 => ?_)
      refine TL.p (by first | exact Pu.fb ty_fa58_3 | exact Pu.fe ty_fa58_3) ?_
      refine TL.nil ?_
      refine TQ.nxt (hX12 _ _ (by repeat (first | exact HasL.nil | refine HasL.cons (by repeat (first | exact Pick.hd | apply Pick.tl)) ?_)) ?_)
      refine RG.a1 13 rfl (fun X13 hX13 => ?_)
      first | refine TL.st ty_sz54 ?_ | refine TL.se ty_sz54 ?_
      refine TL.nil ?_
      refine TQ.nxt (hX13 _ _ (by repeat (first | exact HasL.nil | refine HasL.cons (by repeat (first | exact Pick.hd | apply Pick.tl)) ?_)) ?_)
      exact RG.nil (TQ.sub (by repeat (first | exact trivial | refine ⟨rfl, ?_⟩ | refine ⟨trivial, ?_⟩)) (by repeat (first | exact KSub.nil | refine KSub.cons (by repeat (first | exact Pick.hd | apply Pick.tl)) ?_ | exact KSub.refl _ | exact KSub.drop (KSub.refl _))) (hE ⟨A10, c10⟩)) (by kernel_rfl)
    · refine TL.p (Pu.el ty_et23) ?_
      refine TL.nil ?_
      refine TQ.nxt (hX7 _ _ (by repeat (first | exact HasL.nil | refine HasL.cons (by repeat (first | exact Pick.hd | apply Pick.tl)) ?_)) ?_)
      refine RG.a2 3 8 rfl rfl (fun X3 hX3 => ?_) (fun X8 hX8 => ?_)
      · refine TL.m Mk.bl ?_
        intro x3
        refine TL.nil ?_
        refine TQ.nxt (hX3 _ _ (by repeat (first | exact HasL.nil | refine HasL.cons (by repeat (first | exact Pick.hd | apply Pick.tl)) ?_)) ?_)
        refine RG.a1 8 rfl (fun X8 hX8 => ?_)
        refine TL.p (by first | exact Pu.fb ty_fa58_3 | exact Pu.fe ty_fa58_3) ?_
        refine TL.nil ?_
        refine TQ.nxt (hX8 _ _ (by repeat (first | exact HasL.nil | refine HasL.cons (by repeat (first | exact Pick.hd | apply Pick.tl)) ?_)) ?_)
        refine RG.a1 9 rfl (fun X9 hX9 => ?_)
        refine TL.p (Pu.ld ty_sc54) ?_
        refine TL.nil ?_
        refine TQ.nxt (hX9 _ _ (by repeat (first | exact HasL.nil | refine HasL.cons (by repeat (first | exact Pick.hd | apply Pick.tl)) ?_)) ?_)
        refine RG.a1 10 rfl (fun X10 hX10 => ?_)
        refine TL.ob (b := x3) (sz := 4) (r := fun _ => []) (by repeat (first | exact Pick.hd | apply Pick.tl)) rfl ?_
        first | refine TL.a0 ty_et54 ?_ | refine TL.ap ty_et54 ?_
        intro A10 c10
        refine TL.nil ?_
        refine TQ.nxt (hX10 _ _ (by repeat (first | exact HasL.nil | refine HasL.cons (by repeat (first | exact Pick.hd | apply Pick.tl)) ?_)) ?_)
        refine RG.a1 11 rfl (fun X11 hX11 => ?_)
        refine TL.p (Pu.el ty_et23) ?_
        refine TL.nil ?_
        refine TQ.nxt (hX11 _ _ (by repeat (first | exact HasL.nil | refine HasL.cons (by repeat (first | exact Pick.hd | apply Pick.tl)) ?_)) ?_)
        refine RG.a1 12 rfl (fun X12 hX12 => ?_)
        refine TL.p (by first | exact Pu.fb ty_fa58_3 | exact Pu.fe ty_fa58_3) ?_
        refine TL.nil ?_
        refine TQ.nxt (hX12 _ _ (by repeat (first | exact HasL.nil | refine HasL.cons (by repeat (first | exact Pick.hd | apply Pick.tl)) ?_)) ?_)
        refine RG.a1 13 rfl (fun X13 hX13 => ?_)
        first | refine TL.st ty_sz54 ?_ | refine TL.se ty_sz54 ?_
        refine TL.nil ?_
        refine TQ.nxt (hX13 _ _ (by repeat (first | exact HasL.nil | refine HasL.cons (by repeat (first | exact Pick.hd | apply Pick.tl)) ?_)) ?_)
        exact RG.nil (TQ.sub (by repeat (first | exact trivial | refine ⟨rfl, ?_⟩ | refine ⟨trivial, ?_⟩)) (by repeat (first | exact KSub.nil | refine KSub.cons (by repeat (first | exact Pick.hd | apply Pick.tl)) ?_ | exact KSub.refl _ | exact KSub.drop (KSub.refl _))) (hE ⟨A10, c10⟩)) (by kernel_rfl)
      · refine TL.p (by first | exact Pu.fb ty_fa58_3 | exact Pu.fe ty_fa58_3) ?_
        refine TL.nil ?_
        refine TQ.nxt (hX8 _ _ (by repeat (first | exact HasL.nil | refine HasL.cons (by repeat (first | exact Pick.hd | apply Pick.tl)) ?_)) ?_)
        refine RG.a2 3 9 rfl rfl (fun X3 hX3 => ?_) (fun X9 hX9 => ?_)
        · refine TL.m Mk.bl ?_
          intro x3
          refine TL.nil ?_
          refine TQ.nxt (hX3 _ _ (by repeat (first | exact HasL.nil | refine HasL.cons (by repeat (first | exact Pick.hd | apply Pick.tl)) ?_)) ?_)
          refine RG.a1 9 rfl (fun X9 hX9 => ?_)
          refine TL.p (Pu.ld ty_sc54) ?_
          refine TL.nil ?_
          refine TQ.nxt (hX9 _ _ (by repeat (first | exact HasL.nil | refine HasL.cons (by repeat (first | exact Pick.hd | apply Pick.tl)) ?_)) ?_)
          refine RG.a1 10 rfl (fun X10 hX10 => ?_)
          refine TL.ob (b := x3) (sz := 4) (r := fun _ => []) (by repeat (first | exact Pick.hd | apply Pick.tl)) rfl ?_
          first | refine TL.a0 ty_et54 ?_ | refine TL.ap ty_et54 ?_
          intro A10 c10
          refine TL.nil ?_
          refine TQ.nxt (hX10 _ _ (by repeat (first | exact HasL.nil | refine HasL.cons (by repeat (first | exact Pick.hd | apply Pick.tl)) ?_)) ?_)
          refine RG.a1 11 rfl (fun X11 hX11 => ?_)
          refine TL.p (Pu.el ty_et23) ?_
          refine TL.nil ?_
          refine TQ.nxt (hX11 _ _ (by repeat (first | exact HasL.nil | refine HasL.cons (by repeat (first | exact Pick.hd | apply Pick.tl)) ?_)) ?_)
          refine RG.a1 12 rfl (fun X12 hX12 => ?_)
          refine TL.p (by first | exact Pu.fb ty_fa58_3 | exact Pu.fe ty_fa58_3) ?_
          refine TL.nil ?_
          refine TQ.nxt (hX12 _ _ (by repeat (first | exact HasL.nil | refine HasL.cons (by repeat (first | exact Pick.hd | apply Pick.tl)) ?_)) ?_)
          refine RG.a1 13 rfl (fun X13 hX13 => ?_)
          first | refine TL.st ty_sz54 ?_ | refine TL.se ty_sz54 ?_
          refine TL.nil ?_
          refine TQ.nxt (hX13 _ _ (by repeat (first | exact HasL.nil | refine HasL.cons (by repeat (first | exact Pick.hd | apply Pick.tl)) ?_)) ?_)
          exact RG.nil (TQ.sub (by repeat (first | exact trivial | refine ⟨rfl, ?_⟩ | refine ⟨trivial, ?_⟩)) (by repeat (first | exact KSub.nil | refine KSub.cons (by repeat (first | exact Pick.hd | apply Pick.tl)) ?_ | exact KSub.refl _ | exact KSub.drop (KSub.refl _))) (hE ⟨A10, c10⟩)) (by kernel_rfl)
        · refine TL.p (Pu.ld ty_sc54) ?_
          refine TL.nil ?_
          refine TQ.nxt (hX9 _ _ (by repeat (first | exact HasL.nil | refine HasL.cons (by repeat (first | exact Pick.hd | apply Pick.tl)) ?_)) ?_)
          refine RG.a1 3 rfl (fun X3 hX3 => ?_)
          refine TL.m Mk.bl ?_
          intro x3
          refine TL.nil ?_
          refine TQ.nxt (hX3 _ _ (by repeat (first | exact HasL.nil | refine HasL.cons (by repeat (first | exact Pick.hd | apply Pick.tl)) ?_)) ?_)
          refine RG.a1 10 rfl (fun X10 hX10 => ?_)
          refine TL.ob (b := x3) (sz := 4) (r := fun _ => []) (by repeat (first | exact Pick.hd | apply Pick.tl)) rfl ?_
          first | refine TL.a0 ty_et54 ?_ | refine TL.ap ty_et54 ?_
          intro A10 c10
          refine TL.nil ?_
          refine TQ.nxt (hX10 _ _ (by repeat (first | exact HasL.nil | refine HasL.cons (by repeat (first | exact Pick.hd | apply Pick.tl)) ?_)) ?_)
          refine RG.a1 11 rfl (fun X11 hX11 => ?_)
          refine TL.p (Pu.el ty_et23) ?_
          refine TL.nil ?_
          refine TQ.nxt (hX11 _ _ (by repeat (first | exact HasL.nil | refine HasL.cons (by repeat (first | exact Pick.hd | apply Pick.tl)) ?_)) ?_)
          refine RG.a1 12 rfl (fun X12 hX12 => ?_)
          refine TL.p (by first | exact Pu.fb ty_fa58_3 | exact Pu.fe ty_fa58_3) ?_
          refine TL.nil ?_
          refine TQ.nxt (hX12 _ _ (by repeat (first | exact HasL.nil | refine HasL.cons (by repeat (first | exact Pick.hd | apply Pick.tl)) ?_)) ?_)
          refine RG.a1 13 rfl (fun X13 hX13 => ?_)
          first | refine TL.st ty_sz54 ?_ | refine TL.se ty_sz54 ?_
          refine TL.nil ?_
          refine TQ.nxt (hX13 _ _ (by repeat (first | exact HasL.nil | refine HasL.cons (by repeat (first | exact Pick.hd | apply Pick.tl)) ?_)) ?_)
          exact RG.nil (TQ.sub (by repeat (first | exact trivial | refine ⟨rfl, ?_⟩ | refine ⟨trivial, ?_⟩)) (by repeat (first | exact KSub.nil | refine KSub.cons (by repeat (first | exact Pick.hd | apply Pick.tl)) ?_ | exact KSub.refl _ | exact KSub.drop (KSub.refl _))) (hE ⟨A10, c10⟩)) (by kernel_rfl)
  · try simp only [decide_eq_true_eq, decide_eq_false_iff_not, Bool.not_eq_true', Bool.not_eq_false', Bool.and_eq_true, Bool.or_eq_true, Bool.and_eq_false_iff, Bool.or_eq_false_iff, Int.not_lt, Int.not_le] at hc0
    obtain rfl : nl = k := by omega
    refine TW.exit ?_
    refine TQ.thenX ?_
    refine TQ.thenX ?_
    refine TQ.blkX ?_
    refine TQ.thenN (hY4 _ _ ?_)
    refine TW.seq fun Y9 hY9 => ?_
    refine TW.region ?_
    refine TL.p (Pu.lds ty_ag25) ?_
    first | refine TL.st ty_sz25 ?_ | refine TL.se ty_sz25 ?_
    refine TL.nil ?_
    refine TQ.thenN (hY9 _ _ ?_)
    refine TW.ret ?_
    refine TQ.ret Try.results5 rfl ((RV.cs ty_ag25 .nil)) ?_
    exact fun w hw => ⟨(((A4, c4), (A6, c6)), a, d), rfl, hw.sub (by
      unfold twL
      refine KSub.cons (by repeat (first | exact Pick.hd | apply Pick.tl)) (KSub.own (by repeat (first | exact Pick.hd | apply Pick.tl)) (fun i hi => ?_) (by first | exact KSub.refl _ | exact KSub.drop (KSub.refl _) | exact KSub.drop (KSub.drop (KSub.refl _))))
      rw [lgT, if_pos hi])⟩
end Go.Proofs.Ytckiagbllkdfdaa
