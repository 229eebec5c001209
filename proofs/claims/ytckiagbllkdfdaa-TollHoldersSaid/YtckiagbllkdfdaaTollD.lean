/-
  toll: what is in force on which days; claims, feuds and borders, and whether customs are valid.
-/
import Derived.Test.YtckiagbllkdfdaaTollC
namespace Go.Proofs.Ytckiagbllkdfdaa
set_option linter.all false
set_option linter.unusedVariables false
set_option linter.unusedSimpArgs false
open Go.RowKit
def claimL (x : (Nat → Int) × Bool) : List Value := [.int .i64 (x.1 0), .int .i64 (x.1 1), .int .i64 (x.1 2), .int .i64 (x.1 3), .int .i64 (x.1 4), .int .i64 (x.1 5), .bool x.2]
def feudL (v : Nat → Int) : List Value := [.int .i64 (v 0), .int .i64 (v 1), .int .i64 (v 2), .int .i64 (v 3)]
def borderL (v : Nat → Int) : List Value := [.int .i64 (v 0), .int .i64 (v 1), .int .i64 (v 2)]
def custL (C : Option Addr) (nc cc : Nat) (D : Option Addr) (nd cd : Nat) (B : Option Addr) (nb cb : Nat) : List Value := [.slice C nc cc, .slice D nd cd, .slice B nb cb]
def dayOk (a b : Int) : Bool := decide (a ≤ b) && inB5 0 100000 a && inB5 0 100000 b
def claimOk (nl : Nat) (x : (Nat → Int) × Bool) : Bool := inB5 0 ((nl : Int) - 1) (x.1 0) && inB5 0 7 (x.1 1) && dayOk (x.1 2) (x.1 3) && inB5 0 1000000 (x.1 4) && inB5 0 1000 (x.1 5)
def feudOk (v : Nat → Int) : Bool := inB5 0 7 (v 0) && inB5 0 7 (v 1) && !decide (v 0 = v 1) && dayOk (v 2) (v 3)
def borderOk (nl : Nat) (v : Nat → Int) : Bool := inB5 0 ((nl : Int) - 1) (v 0) && dayOk (v 1) (v 2)
theorem indexClaim_any {g : FuncId} {fs cs : List Value} {A : Option Addr} {n cp : Nat} {v : Nat → (Nat → Int) × Bool} {p : Nat → Bool} {M : Nat → List Fact} {w : World} (hen : Enters Try.prog g) (hn : n ≤ 9223372036854775807)
    (hR : RdR w 7 A n (fun k => claimL (v k))) (hA : 0 < n → Apart (feet (M 0)) A) (hM : Sat (feet (M 0)) w (M 0) w) (hfe : ∀ k, feet (M k) = feet (M 0))
    (hg : ∀ k, k < n → (∀ j, j < k → p j = false) → ∀ w', Sat (feet (M 0)) w (M k) w' → CallsK Try.prog g (fs ++ [Value.agg (claimL (v k)).toArray] ++ cs).toArray (M k) w' Unit (fun _ => .bool (p k)) (fun _ => M (k + 1))) :
    CallsK Try.prog 57 #[.slice A n cp, .func (.func g) fs.toArray cs.toArray] (M 0) w (Fst p n) (fun x => .int .i64 (if x.1 < n then (x.1 : Int) else -1)) (fun x => M (aft n x.1)) := by
  refine K_enter (S := feet (M 0)) (K := M 0) Try.func57 rfl Try.ntmps57 rfl hM ?_
  refine TW.seq fun Y1 hY1 => ?_
  refine TW.region ?_
  refine TL.p Pu.as ?_
  refine TL.nil ?_
  refine TQ.thenN (hY1 _ _ ?_)
  refine TW.seq fun Y2 hY2 => ?_
  refine TW.seq fun Y3 hY3 => ?_
  refine TW.region ?_
  refine TL.p Pu.mv ?_
  refine TL.p (Pu.ln Try.underlying26) ?_
  refine TL.p Pu.mv ?_
  refine TL.nil ?_
  refine TQ.thenN (hY3 _ _ ?_)
  refine TW.block ?_
  refine TW.loop1 (fun (k : Nat) => [(8, .int .i64 (k : Int)), (7, .int .i64 (n : Int)), (0, .slice A n cp), (1, .func (.func g) fs.toArray cs.toArray)]) (fun k => M k) (fun k => k ≤ n ∧ ∀ j, j < k → p j = false) (fun k => n - k) 0 (by repeat (first | exact trivial | refine ⟨rfl, ?_⟩ | refine ⟨trivial, ?_⟩)) ?_ ?_ ?_
  · exact KSub.refl _
  · exact ⟨by omega, fun j hj => by omega⟩
  rintro k ⟨hk, hall⟩ Z0 hZ0
  refine TW.seq fun Y4 hY4 => ?_
  refine TW.region ?_
  refine TL.p Pu.lt ?_
  refine TL.nil ?_
  refine TQ.thenN (hY4 _ _ ?_)
  refine TW.seq fun Y5 hY5 => ?_
  refine TW.cond rfl (fun hc0 => ?_) (fun hc0 => ?_)
  · try simp only [decide_eq_true_eq, decide_eq_false_iff_not, Bool.not_eq_true', Bool.not_eq_false', Bool.and_eq_true, Bool.or_eq_true, Bool.and_eq_false_iff, Bool.or_eq_false_iff, Int.not_lt, Int.not_le] at hc0
    have hkn : k < n := by omega
    have hA := hA (by omega)
    refine TW.skip ?_
    refine TQ.thenN (hY5 _ _ ?_)
    refine TW.seq fun Y6 hY6 => ?_
    refine TW.block ?_
    refine TW.seq fun Y7 hY7 => ?_
    refine TW.region ?_
    refine TL.p Pu.mv ?_
    refine TL.p Pu.as ?_
    refine TL.nil ?_
    refine TQ.thenN (hY7 _ _ ?_)
    refine TW.seq fun Y8 hY8 => ?_
    refine TW.region ?_
    refine TL.p Pu.mv ?_
    refine TL.p Pu.mv ?_
    refine TL.p Pu.mv ?_
    refine TL.p (Pu.el ty_et26) ?_
    refine TL.p (Pu.lds ty_ag62) ?_
    refine TL.cvk rfl rfl hen (by rw [List.append_nil]) (fun w hw => by
        exact hg k (by omega) hall w hw) ?_
    intro _
    refine TL.nil ?_
    refine TQ.thenN (hY8 _ _ ?_)
    refine TW.cond rfl (fun hc1 => ?_) (fun hc1 => ?_)
    · try simp only [decide_eq_true_eq, decide_eq_false_iff_not, Bool.not_eq_true', Bool.not_eq_false', Bool.and_eq_true, Bool.or_eq_true, Bool.and_eq_false_iff, Bool.or_eq_false_iff, Int.not_lt, Int.not_le] at hc1
      refine TW.seq fun Y9 hY9 => ?_
      refine TW.region ?_
      refine TL.p Pu.mv ?_
      refine TL.p Pu.as ?_
      refine TL.nil ?_
      refine TQ.thenN (hY9 _ _ ?_)
      refine TW.ret ?_
      refine TQ.blkR ?_
      refine TQ.thenR ?_
      refine TQ.thenR ?_
      refine TQ.blkR ?_
      refine TQ.thenR ?_
      refine TQ.ret Try.results57 rfl ((.tmp rfl .nil)) ?_
      exact fun w hw => ⟨⟨k, by omega, hall, fun _ => hc1⟩, by simp [hkn]; rfl, by simpa [aft, hkn] using hw⟩
    · try simp only [decide_eq_true_eq, decide_eq_false_iff_not, Bool.not_eq_true', Bool.not_eq_false', Bool.and_eq_true, Bool.or_eq_true, Bool.and_eq_false_iff, Bool.or_eq_false_iff, Int.not_lt, Int.not_le] at hc1
      refine TW.skip ?_
      refine TQ.blkN ?_
      refine TQ.thenN (hY6 _ _ ?_)
      refine TW.region ?_
      refine TL.p Pu.ad ?_
      refine TL.p Pu.mv ?_
      refine TL.nil ?_
      refine TQ.thenN (hZ0 (k + 1) _ _ ?_ ?_ (by repeat (first | exact trivial | refine ⟨rfl, ?_⟩ | refine ⟨trivial, ?_⟩)) ?_)
      · refine ⟨by omega, fun j hj => ?_⟩
        by_cases h : j = k
        · subst h; exact hc1
        · exact hall j (by omega)
      · exact (by first | omega | (simp only []; omega) | (simp; omega))
      · rw [List.append_nil]; exact KSub.refl _
  · try simp only [decide_eq_true_eq, decide_eq_false_iff_not, Bool.not_eq_true', Bool.not_eq_false', Bool.and_eq_true, Bool.or_eq_true, Bool.and_eq_false_iff, Bool.or_eq_false_iff, Int.not_lt, Int.not_le] at hc0
    have hkn : k = n := by omega
    refine TW.exit ?_
    refine TQ.thenX ?_
    refine TQ.thenX ?_
    refine TQ.blkX ?_
    refine TQ.thenN (hY2 _ _ ?_)
    refine TW.seq fun Y10 hY10 => ?_
    refine TW.region ?_
    refine TL.p Pu.as ?_
    refine TL.nil ?_
    refine TQ.thenN (hY10 _ _ ?_)
    refine TW.ret ?_
    refine TQ.ret Try.results57 rfl ((.tmp rfl .nil)) ?_
    exact fun w hw => ⟨⟨k, by omega, hall, fun h => by omega⟩, by simp [hkn]; rfl, by simpa [aft, hkn] using hw⟩
theorem hasClaim_st {g : FuncId} {fs cs : List Value} {A : Option Addr} {n cp : Nat} {v : Nat → (Nat → Int) × Bool} {p : Nat → Bool} {M : Nat → List Fact} {w : World} (hen : Enters Try.prog g) (hn : n ≤ 9223372036854775807)
    (hR : RdR w 7 A n (fun k => claimL (v k))) (hA : 0 < n → Apart (feet (M 0)) A) (hM : Sat (feet (M 0)) w (M 0) w) (hfe : ∀ k, feet (M k) = feet (M 0))
    (hg : ∀ k, k < n → (∀ j, j < k → p j = false) → ∀ w', Sat (feet (M 0)) w (M k) w' → CallsK Try.prog g (fs ++ [Value.agg (claimL (v k)).toArray] ++ cs).toArray (M k) w' Unit (fun _ => .bool (p k)) (fun _ => M (k + 1))) :
    CallsK Try.prog 44 #[.slice A n cp, .func (.func g) fs.toArray cs.toArray] (M 0) w (Fst p n) (fun x => .bool (decide (x.1 < n))) (fun x => M (aft n x.1)) := by
  refine K_enter (S := feet (M 0)) (K := M 0) Try.func44 rfl Try.ntmps44 rfl hM ?_
  refine TW.seq fun Y1 hY1 => ?_
  refine TW.region ?_
  refine TL.p Pu.as ?_
  refine TL.nil ?_
  refine TQ.thenN (hY1 _ _ ?_)
  refine TW.seq fun Y2 hY2 => ?_
  refine TW.region ?_
  refine TL.p Pu.mv ?_
  refine TL.p Pu.mv ?_
  refine TL.call rfl (enters Try.func57 rfl rfl) (by rw [List.append_nil]) rfl (fun w hw => by
      exact indexClaim_any hen hn (hR.sat0 hw hA) hA hw.self hfe (fun k hk hp w' hw' => hg k hk hp w' (hw'.from hw.chg fun _ hb => .inl hb))) ?_
  intro x
  refine TL.p Pu.ge ?_
  refine TL.p Pu.as ?_
  refine TL.nil ?_
  refine TQ.thenN (hY2 _ _ ?_)
  refine TW.ret ?_
  refine TQ.ret Try.results44 rfl ((.tmp rfl .nil)) ?_
  exact fun w hw => ⟨x, by by_cases h : x.1 < n <;> simp [retV, h], by simpa using hw⟩
theorem hasClaim_any {g : FuncId} {fs cs : List Value} {A : Option Addr} {n cp : Nat} {v : Nat → (Nat → Int) × Bool} {p : Nat → Bool} {w : World} (hen : Enters Try.prog g) (hn : n ≤ 9223372036854775807)
    (hR : RdR w 7 A n (fun k => claimL (v k))) (hg : ∀ k, k < n → ∀ w', Below w.heap.size w w' → Calls Try.prog g (fs ++ [Value.agg (claimL (v k)).toArray] ++ cs).toArray w' (Ret w' (.bool (p k)))) :
    Calls Try.prog 44 #[.slice A n cp, .func (.func g) fs.toArray cs.toArray] w (Ret w (.bool (anyB n p))) :=
  CallsK.retOf (hasClaim_st (M := fun _ => []) hen hn hR (fun _ => Apart.nil) (Sat.start w) (fun _ => rfl) fun k hk _ w' hw' => CallsK.ret (hg k hk w' (Chg.ext hw'.chg))) fun x => by rw [x.any]; rfl
theorem indexFeud_any {g : FuncId} {fs cs : List Value} {A : Option Addr} {n cp : Nat} {v : Nat → Nat → Int} {p : Nat → Bool} {M : Nat → List Fact} {w : World} (hen : Enters Try.prog g) (hn : n ≤ 9223372036854775807)
    (hR : RdR w 4 A n (fun k => feudL (v k))) (hA : 0 < n → Apart (feet (M 0)) A) (hM : Sat (feet (M 0)) w (M 0) w) (hfe : ∀ k, feet (M k) = feet (M 0))
    (hg : ∀ k, k < n → (∀ j, j < k → p j = false) → ∀ w', Sat (feet (M 0)) w (M k) w' → CallsK Try.prog g (fs ++ [Value.agg (feudL (v k)).toArray] ++ cs).toArray (M k) w' Unit (fun _ => .bool (p k)) (fun _ => M (k + 1))) :
    CallsK Try.prog 58 #[.slice A n cp, .func (.func g) fs.toArray cs.toArray] (M 0) w (Fst p n) (fun x => .int .i64 (if x.1 < n then (x.1 : Int) else -1)) (fun x => M (aft n x.1)) := by
  refine K_enter (S := feet (M 0)) (K := M 0) Try.func58 rfl Try.ntmps58 rfl hM ?_
  refine TW.seq fun Y1 hY1 => ?_
  refine TW.region ?_
  refine TL.p Pu.as ?_
  refine TL.nil ?_
  refine TQ.thenN (hY1 _ _ ?_)
  refine TW.seq fun Y2 hY2 => ?_
  refine TW.seq fun Y3 hY3 => ?_
  refine TW.region ?_
  refine TL.p Pu.mv ?_
  refine TL.p (Pu.ln Try.underlying27) ?_
  refine TL.p Pu.mv ?_
  refine TL.nil ?_
  refine TQ.thenN (hY3 _ _ ?_)
  refine TW.block ?_
  refine TW.loop1 (fun (k : Nat) => [(8, .int .i64 (k : Int)), (7, .int .i64 (n : Int)), (0, .slice A n cp), (1, .func (.func g) fs.toArray cs.toArray)]) (fun k => M k) (fun k => k ≤ n ∧ ∀ j, j < k → p j = false) (fun k => n - k) 0 (by repeat (first | exact trivial | refine ⟨rfl, ?_⟩ | refine ⟨trivial, ?_⟩)) ?_ ?_ ?_
  · exact KSub.refl _
  · exact ⟨by omega, fun j hj => by omega⟩
  rintro k ⟨hk, hall⟩ Z0 hZ0
  refine TW.seq fun Y4 hY4 => ?_
  refine TW.region ?_
  refine TL.p Pu.lt ?_
  refine TL.nil ?_
  refine TQ.thenN (hY4 _ _ ?_)
  refine TW.seq fun Y5 hY5 => ?_
  refine TW.cond rfl (fun hc0 => ?_) (fun hc0 => ?_)
  · try simp only [decide_eq_true_eq, decide_eq_false_iff_not, Bool.not_eq_true', Bool.not_eq_false', Bool.and_eq_true, Bool.or_eq_true, Bool.and_eq_false_iff, Bool.or_eq_false_iff, Int.not_lt, Int.not_le] at hc0
    have hkn : k < n := by omega
    have hA := hA (by omega)
    refine TW.skip ?_
    refine TQ.thenN (hY5 _ _ ?_)
    refine TW.seq fun Y6 hY6 => ?_
    refine TW.block ?_
    refine TW.seq fun Y7 hY7 => ?_
    refine TW.region ?_
    refine TL.p Pu.mv ?_
    refine TL.p Pu.as ?_
    refine TL.nil ?_
    refine TQ.thenN (hY7 _ _ ?_)
    refine TW.seq fun Y8 hY8 => ?_
    refine TW.region ?_
    refine TL.p Pu.mv ?_
    refine TL.p Pu.mv ?_
    refine TL.p Pu.mv ?_
    refine TL.p (Pu.el ty_et27) ?_
    refine TL.p (Pu.lds ty_ag72) ?_
    refine TL.cvk rfl rfl hen (by rw [List.append_nil]) (fun w hw => by
        exact hg k (by omega) hall w hw) ?_
    intro _
    refine TL.nil ?_
    refine TQ.thenN (hY8 _ _ ?_)
    refine TW.cond rfl (fun hc1 => ?_) (fun hc1 => ?_)
    · try simp only [decide_eq_true_eq, decide_eq_false_iff_not, Bool.not_eq_true', Bool.not_eq_false', Bool.and_eq_true, Bool.or_eq_true, Bool.and_eq_false_iff, Bool.or_eq_false_iff, Int.not_lt, Int.not_le] at hc1
      refine TW.seq fun Y9 hY9 => ?_
      refine TW.region ?_
      refine TL.p Pu.mv ?_
      refine TL.p Pu.as ?_
      refine TL.nil ?_
      refine TQ.thenN (hY9 _ _ ?_)
      refine TW.ret ?_
      refine TQ.blkR ?_
      refine TQ.thenR ?_
      refine TQ.thenR ?_
      refine TQ.blkR ?_
      refine TQ.thenR ?_
      refine TQ.ret Try.results58 rfl ((.tmp rfl .nil)) ?_
      exact fun w hw => ⟨⟨k, by omega, hall, fun _ => hc1⟩, by simp [hkn]; rfl, by simpa [aft, hkn] using hw⟩
    · try simp only [decide_eq_true_eq, decide_eq_false_iff_not, Bool.not_eq_true', Bool.not_eq_false', Bool.and_eq_true, Bool.or_eq_true, Bool.and_eq_false_iff, Bool.or_eq_false_iff, Int.not_lt, Int.not_le] at hc1
      refine TW.skip ?_
      refine TQ.blkN ?_
      refine TQ.thenN (hY6 _ _ ?_)
      refine TW.region ?_
      refine TL.p Pu.ad ?_
      refine TL.p Pu.mv ?_
      refine TL.nil ?_
      refine TQ.thenN (hZ0 (k + 1) _ _ ?_ ?_ (by repeat (first | exact trivial | refine ⟨rfl, ?_⟩ | refine ⟨trivial, ?_⟩)) ?_)
      · refine ⟨by omega, fun j hj => ?_⟩
        by_cases h : j = k
        · subst h; exact hc1
        · exact hall j (by omega)
      · exact (by first | omega | (simp only []; omega) | (simp; omega))
      · rw [List.append_nil]; exact KSub.refl _
  · try simp only [decide_eq_true_eq, decide_eq_false_iff_not, Bool.not_eq_true', Bool.not_eq_false', Bool.and_eq_true, Bool.or_eq_true, Bool.and_eq_false_iff, Bool.or_eq_false_iff, Int.not_lt, Int.not_le] at hc0
    have hkn : k = n := by omega
    refine TW.exit ?_
    refine TQ.thenX ?_
    refine TQ.thenX ?_
    refine TQ.blkX ?_
    refine TQ.thenN (hY2 _ _ ?_)
    refine TW.seq fun Y10 hY10 => ?_
    refine TW.region ?_
    refine TL.p Pu.as ?_
    refine TL.nil ?_
    refine TQ.thenN (hY10 _ _ ?_)
    refine TW.ret ?_
    refine TQ.ret Try.results58 rfl ((.tmp rfl .nil)) ?_
    exact fun w hw => ⟨⟨k, by omega, hall, fun h => by omega⟩, by simp [hkn]; rfl, by simpa [aft, hkn] using hw⟩
theorem hasFeud_st {g : FuncId} {fs cs : List Value} {A : Option Addr} {n cp : Nat} {v : Nat → Nat → Int} {p : Nat → Bool} {M : Nat → List Fact} {w : World} (hen : Enters Try.prog g) (hn : n ≤ 9223372036854775807)
    (hR : RdR w 4 A n (fun k => feudL (v k))) (hA : 0 < n → Apart (feet (M 0)) A) (hM : Sat (feet (M 0)) w (M 0) w) (hfe : ∀ k, feet (M k) = feet (M 0))
    (hg : ∀ k, k < n → (∀ j, j < k → p j = false) → ∀ w', Sat (feet (M 0)) w (M k) w' → CallsK Try.prog g (fs ++ [Value.agg (feudL (v k)).toArray] ++ cs).toArray (M k) w' Unit (fun _ => .bool (p k)) (fun _ => M (k + 1))) :
    CallsK Try.prog 46 #[.slice A n cp, .func (.func g) fs.toArray cs.toArray] (M 0) w (Fst p n) (fun x => .bool (decide (x.1 < n))) (fun x => M (aft n x.1)) := by
  refine K_enter (S := feet (M 0)) (K := M 0) Try.func46 rfl Try.ntmps46 rfl hM ?_
  refine TW.seq fun Y1 hY1 => ?_
  refine TW.region ?_
  refine TL.p Pu.as ?_
  refine TL.nil ?_
  refine TQ.thenN (hY1 _ _ ?_)
  refine TW.seq fun Y2 hY2 => ?_
  refine TW.region ?_
  refine TL.p Pu.mv ?_
  refine TL.p Pu.mv ?_
  refine TL.call rfl (enters Try.func58 rfl rfl) (by rw [List.append_nil]) rfl (fun w hw => by
      exact indexFeud_any hen hn (hR.sat0 hw hA) hA hw.self hfe (fun k hk hp w' hw' => hg k hk hp w' (hw'.from hw.chg fun _ hb => .inl hb))) ?_
  intro x
  refine TL.p Pu.ge ?_
  refine TL.p Pu.as ?_
  refine TL.nil ?_
  refine TQ.thenN (hY2 _ _ ?_)
  refine TW.ret ?_
  refine TQ.ret Try.results46 rfl ((.tmp rfl .nil)) ?_
  exact fun w hw => ⟨x, by by_cases h : x.1 < n <;> simp [retV, h], by simpa using hw⟩
theorem hasFeud_any {g : FuncId} {fs cs : List Value} {A : Option Addr} {n cp : Nat} {v : Nat → Nat → Int} {p : Nat → Bool} {w : World} (hen : Enters Try.prog g) (hn : n ≤ 9223372036854775807)
    (hR : RdR w 4 A n (fun k => feudL (v k))) (hg : ∀ k, k < n → ∀ w', Below w.heap.size w w' → Calls Try.prog g (fs ++ [Value.agg (feudL (v k)).toArray] ++ cs).toArray w' (Ret w' (.bool (p k)))) :
    Calls Try.prog 46 #[.slice A n cp, .func (.func g) fs.toArray cs.toArray] w (Ret w (.bool (anyB n p))) :=
  CallsK.retOf (hasFeud_st (M := fun _ => []) hen hn hR (fun _ => Apart.nil) (Sat.start w) (fun _ => rfl) fun k hk _ w' hw' => CallsK.ret (hg k hk w' (Chg.ext hw'.chg))) fun x => by rw [x.any]; rfl
theorem indexBorder_any {g : FuncId} {fs cs : List Value} {A : Option Addr} {n cp : Nat} {v : Nat → Nat → Int} {p : Nat → Bool} {M : Nat → List Fact} {w : World} (hen : Enters Try.prog g) (hn : n ≤ 9223372036854775807)
    (hR : RdR w 3 A n (fun k => borderL (v k))) (hA : 0 < n → Apart (feet (M 0)) A) (hM : Sat (feet (M 0)) w (M 0) w) (hfe : ∀ k, feet (M k) = feet (M 0))
    (hg : ∀ k, k < n → (∀ j, j < k → p j = false) → ∀ w', Sat (feet (M 0)) w (M k) w' → CallsK Try.prog g (fs ++ [Value.agg (borderL (v k)).toArray] ++ cs).toArray (M k) w' Unit (fun _ => .bool (p k)) (fun _ => M (k + 1))) :
    CallsK Try.prog 59 #[.slice A n cp, .func (.func g) fs.toArray cs.toArray] (M 0) w (Fst p n) (fun x => .int .i64 (if x.1 < n then (x.1 : Int) else -1)) (fun x => M (aft n x.1)) := by
  refine K_enter (S := feet (M 0)) (K := M 0) Try.func59 rfl Try.ntmps59 rfl hM ?_
  refine TW.seq fun Y1 hY1 => ?_
  refine TW.region ?_
  refine TL.p Pu.as ?_
  refine TL.nil ?_
  refine TQ.thenN (hY1 _ _ ?_)
  refine TW.seq fun Y2 hY2 => ?_
  refine TW.seq fun Y3 hY3 => ?_
  refine TW.region ?_
  refine TL.p Pu.mv ?_
  refine TL.p (Pu.ln Try.underlying28) ?_
  refine TL.p Pu.mv ?_
  refine TL.nil ?_
  refine TQ.thenN (hY3 _ _ ?_)
  refine TW.block ?_
  refine TW.loop1 (fun (k : Nat) => [(8, .int .i64 (k : Int)), (7, .int .i64 (n : Int)), (0, .slice A n cp), (1, .func (.func g) fs.toArray cs.toArray)]) (fun k => M k) (fun k => k ≤ n ∧ ∀ j, j < k → p j = false) (fun k => n - k) 0 (by repeat (first | exact trivial | refine ⟨rfl, ?_⟩ | refine ⟨trivial, ?_⟩)) ?_ ?_ ?_
  · exact KSub.refl _
  · exact ⟨by omega, fun j hj => by omega⟩
  rintro k ⟨hk, hall⟩ Z0 hZ0
  refine TW.seq fun Y4 hY4 => ?_
  refine TW.region ?_
  refine TL.p Pu.lt ?_
  refine TL.nil ?_
  refine TQ.thenN (hY4 _ _ ?_)
  refine TW.seq fun Y5 hY5 => ?_
  refine TW.cond rfl (fun hc0 => ?_) (fun hc0 => ?_)
  · try simp only [decide_eq_true_eq, decide_eq_false_iff_not, Bool.not_eq_true', Bool.not_eq_false', Bool.and_eq_true, Bool.or_eq_true, Bool.and_eq_false_iff, Bool.or_eq_false_iff, Int.not_lt, Int.not_le] at hc0
    have hkn : k < n := by omega
    have hA := hA (by omega)
    refine TW.skip ?_
    refine TQ.thenN (hY5 _ _ ?_)
    refine TW.seq fun Y6 hY6 => ?_
    refine TW.block ?_
    refine TW.seq fun Y7 hY7 => ?_
    refine TW.region ?_
    refine TL.p Pu.mv ?_
    refine TL.p Pu.as ?_
    refine TL.nil ?_
    refine TQ.thenN (hY7 _ _ ?_)
    refine TW.seq fun Y8 hY8 => ?_
    refine TW.region ?_
    refine TL.p Pu.mv ?_
    refine TL.p Pu.mv ?_
    refine TL.p Pu.mv ?_
    refine TL.p (Pu.el ty_et28) ?_
    refine TL.p (Pu.lds ty_ag77) ?_
    refine TL.cvk rfl rfl hen (by rw [List.append_nil]) (fun w hw => by
        exact hg k (by omega) hall w hw) ?_
    intro _
    refine TL.nil ?_
    refine TQ.thenN (hY8 _ _ ?_)
    refine TW.cond rfl (fun hc1 => ?_) (fun hc1 => ?_)
    · try simp only [decide_eq_true_eq, decide_eq_false_iff_not, Bool.not_eq_true', Bool.not_eq_false', Bool.and_eq_true, Bool.or_eq_true, Bool.and_eq_false_iff, Bool.or_eq_false_iff, Int.not_lt, Int.not_le] at hc1
      refine TW.seq fun Y9 hY9 => ?_
      refine TW.region ?_
      refine TL.p Pu.mv ?_
      refine TL.p Pu.as ?_
      refine TL.nil ?_
      refine TQ.thenN (hY9 _ _ ?_)
      refine TW.ret ?_
      refine TQ.blkR ?_
      refine TQ.thenR ?_
      refine TQ.thenR ?_
      refine TQ.blkR ?_
      refine TQ.thenR ?_
      refine TQ.ret Try.results59 rfl ((.tmp rfl .nil)) ?_
      exact fun w hw => ⟨⟨k, by omega, hall, fun _ => hc1⟩, by simp [hkn]; rfl, by simpa [aft, hkn] using hw⟩
    · try simp only [decide_eq_true_eq, decide_eq_false_iff_not, Bool.not_eq_true', Bool.not_eq_false', Bool.and_eq_true, Bool.or_eq_true, Bool.and_eq_false_iff, Bool.or_eq_false_iff, Int.not_lt, Int.not_le] at hc1
      refine TW.skip ?_
      refine TQ.blkN ?_
      refine TQ.thenN (hY6 _ _ ?_)
      refine TW.region ?_
      refine TL.p Pu.ad ?_
      refine TL.p Pu.mv ?_
      refine TL.nil ?_
      refine TQ.thenN (hZ0 (k + 1) _ _ ?_ ?_ (by repeat (first | exact trivial | refine ⟨rfl, ?_⟩ | refine ⟨trivial, ?_⟩)) ?_)
      · refine ⟨by omega, fun j hj => ?_⟩
        by_cases h : j = k
        · subst h; exact hc1
        · exact hall j (by omega)
      · exact (by first | omega | (simp only []; omega) | (simp; omega))
      · rw [List.append_nil]; exact KSub.refl _
  · try simp only [decide_eq_true_eq, decide_eq_false_iff_not, Bool.not_eq_true', Bool.not_eq_false', Bool.and_eq_true, Bool.or_eq_true, Bool.and_eq_false_iff, Bool.or_eq_false_iff, Int.not_lt, Int.not_le] at hc0
    have hkn : k = n := by omega
    refine TW.exit ?_
    refine TQ.thenX ?_
    refine TQ.thenX ?_
    refine TQ.blkX ?_
    refine TQ.thenN (hY2 _ _ ?_)
    refine TW.seq fun Y10 hY10 => ?_
    refine TW.region ?_
    refine TL.p Pu.as ?_
    refine TL.nil ?_
    refine TQ.thenN (hY10 _ _ ?_)
    refine TW.ret ?_
    refine TQ.ret Try.results59 rfl ((.tmp rfl .nil)) ?_
    exact fun w hw => ⟨⟨k, by omega, hall, fun h => by omega⟩, by simp [hkn]; rfl, by simpa [aft, hkn] using hw⟩
theorem hasBorder_st {g : FuncId} {fs cs : List Value} {A : Option Addr} {n cp : Nat} {v : Nat → Nat → Int} {p : Nat → Bool} {M : Nat → List Fact} {w : World} (hen : Enters Try.prog g) (hn : n ≤ 9223372036854775807)
    (hR : RdR w 3 A n (fun k => borderL (v k))) (hA : 0 < n → Apart (feet (M 0)) A) (hM : Sat (feet (M 0)) w (M 0) w) (hfe : ∀ k, feet (M k) = feet (M 0))
    (hg : ∀ k, k < n → (∀ j, j < k → p j = false) → ∀ w', Sat (feet (M 0)) w (M k) w' → CallsK Try.prog g (fs ++ [Value.agg (borderL (v k)).toArray] ++ cs).toArray (M k) w' Unit (fun _ => .bool (p k)) (fun _ => M (k + 1))) :
    CallsK Try.prog 48 #[.slice A n cp, .func (.func g) fs.toArray cs.toArray] (M 0) w (Fst p n) (fun x => .bool (decide (x.1 < n))) (fun x => M (aft n x.1)) := by
  refine K_enter (S := feet (M 0)) (K := M 0) Try.func48 rfl Try.ntmps48 rfl hM ?_
  refine TW.seq fun Y1 hY1 => ?_
  refine TW.region ?_
  refine TL.p Pu.as ?_
  refine TL.nil ?_
  refine TQ.thenN (hY1 _ _ ?_)
  refine TW.seq fun Y2 hY2 => ?_
  refine TW.region ?_
  refine TL.p Pu.mv ?_
  refine TL.p Pu.mv ?_
  refine TL.call rfl (enters Try.func59 rfl rfl) (by rw [List.append_nil]) rfl (fun w hw => by
      exact indexBorder_any hen hn (hR.sat0 hw hA) hA hw.self hfe (fun k hk hp w' hw' => hg k hk hp w' (hw'.from hw.chg fun _ hb => .inl hb))) ?_
  intro x
  refine TL.p Pu.ge ?_
  refine TL.p Pu.as ?_
  refine TL.nil ?_
  refine TQ.thenN (hY2 _ _ ?_)
  refine TW.ret ?_
  refine TQ.ret Try.results48 rfl ((.tmp rfl .nil)) ?_
  exact fun w hw => ⟨x, by by_cases h : x.1 < n <;> simp [retV, h], by simpa using hw⟩
theorem hasBorder_any {g : FuncId} {fs cs : List Value} {A : Option Addr} {n cp : Nat} {v : Nat → Nat → Int} {p : Nat → Bool} {w : World} (hen : Enters Try.prog g) (hn : n ≤ 9223372036854775807)
    (hR : RdR w 3 A n (fun k => borderL (v k))) (hg : ∀ k, k < n → ∀ w', Below w.heap.size w w' → Calls Try.prog g (fs ++ [Value.agg (borderL (v k)).toArray] ++ cs).toArray w' (Ret w' (.bool (p k)))) :
    Calls Try.prog 48 #[.slice A n cp, .func (.func g) fs.toArray cs.toArray] w (Ret w (.bool (anyB n p))) :=
  CallsK.retOf (hasBorder_st (M := fun _ => []) hen hn hR (fun _ => Apart.nil) (Sat.start w) (fun _ => rfl) fun k hk _ w' hw' => CallsK.ret (hg k hk w' (Chg.ext hw'.chg))) fun x => by rw [x.any]; rfl
theorem everyClaim1_any {g : FuncId} {fs cs : List Value} {b : Nat} {u : (Nat → Int) × Bool} {p : Bool} {w : World} (hen : Enters Try.prog g) (hb : OldB w b [.func (.func g) fs.toArray cs.toArray])
    (hg : ∀ w', Below w.heap.size w w' → Calls Try.prog g (fs ++ [Value.agg (claimL u).toArray] ++ cs).toArray w' (Ret w' (.bool p))) :
    Calls Try.prog 45 #[Value.agg (claimL u).toArray, .pointer (some ⟨b, 0, none⟩)] w (Ret w (.bool (!p))) := by
  refine K_enter (S := []) (K := []) Try.func45 rfl Try.ntmps45 rfl (Sat.start _) ?_
  refine TW.seq fun Y1 hY1 => ?_
  refine TW.region ?_
  refine TL.m Mk.bx ?_
  intro b1
  refine TL.p Pu.as ?_
  refine TL.nil ?_
  refine TQ.thenN (hY1 _ _ ?_)
  refine TW.seq fun Y2 hY2 => ?_
  refine TW.region ?_
  refine TL.p (by first | exact (Pu.ld ty_sc69) | exact (Pu.ldo ty_sc69)) ?_
  refine TL.p (by first | exact (Pu.lds ty_ag62) | exact (Pu.ldso ty_ag62)) ?_
  refine TL.cv rfl rfl hen (fun w hw => by
      exact hg _ (Chg.ext hw.chg)) ?_
  refine TL.p Pu.no ?_
  refine TL.p Pu.as ?_
  refine TL.nil ?_
  refine TQ.thenN (hY2 _ _ ?_)
  refine TW.ret ?_
  refine TQ.ret Try.results45 rfl ((.tmp rfl .nil)) ?_
  exact fun w hw => Ret.of hw
theorem everyClaim_any {g : FuncId} {fs cs : List Value} {A : Option Addr} {n cp : Nat} {v : Nat → (Nat → Int) × Bool} {p : Nat → Bool} {w : World} (hen : Enters Try.prog g) (hn : n ≤ 9223372036854775807)
    (hR : RdR w 7 A n (fun k => claimL (v k))) (hg : ∀ k, k < n → ∀ w', Below w.heap.size w w' → Calls Try.prog g (fs ++ [Value.agg (claimL (v k)).toArray] ++ cs).toArray w' (Ret w' (.bool (p k)))) :
    Calls Try.prog 23 #[.slice A n cp, .func (.func g) fs.toArray cs.toArray] w (Ret w (.bool (allB n p))) := by
  refine K_enter (S := []) (K := []) Try.func23 rfl Try.ntmps23 rfl (Sat.start _) ?_
  refine TW.seq fun Y1 hY1 => ?_
  refine TW.region ?_
  refine TL.m Mk.bx ?_
  intro b1
  refine TL.p Pu.as ?_
  refine TL.nil ?_
  refine TQ.thenN (hY1 _ _ ?_)
  refine TW.seq fun Y2 hY2 => ?_
  refine TW.region ?_
  refine TL.p Pu.mv ?_
  refine TL.p Pu.fn ?_
  refine TL.cr rfl (enters Try.func44 rfl rfl) (fun w hw => by
      have h1 := OldB.of_blk (hw.holds (.blk b1 69 [.func (.func g) fs.toArray cs.toArray]) (by simp))
      exact hasClaim_any (fs := []) (v := v) (p := fun k => !p k) (enters Try.func45 rfl rfl) hn (hR.sat hw Apart.nil) fun k hk w' hb => everyClaim1_any hen (h1.ext hb) fun w'' hb' => hg k hk w'' (((Chg.ext hw.chg).trans (hb.mono (Chg.ext hw.chg).size)).trans (hb'.mono (Nat.le_trans (Chg.ext hw.chg).size hb.size)))) ?_
  refine TL.p Pu.no ?_
  refine TL.p Pu.as ?_
  refine TL.nil ?_
  refine TQ.thenN (hY2 _ _ ?_)
  refine TW.ret ?_
  refine TQ.ret Try.results23 rfl ((.tmp rfl .nil)) ?_
  exact fun w hw => ⟨ret_bool (by rw [not_anyB]; simp), Chg.ext hw.chg⟩
theorem everyFeud1_any {g : FuncId} {fs cs : List Value} {b : Nat} {u : Nat → Int} {p : Bool} {w : World} (hen : Enters Try.prog g) (hb : OldB w b [.func (.func g) fs.toArray cs.toArray])
    (hg : ∀ w', Below w.heap.size w w' → Calls Try.prog g (fs ++ [Value.agg (feudL u).toArray] ++ cs).toArray w' (Ret w' (.bool p))) :
    Calls Try.prog 47 #[Value.agg (feudL u).toArray, .pointer (some ⟨b, 0, none⟩)] w (Ret w (.bool (!p))) := by
  refine K_enter (S := []) (K := []) Try.func47 rfl Try.ntmps47 rfl (Sat.start _) ?_
  refine TW.seq fun Y1 hY1 => ?_
  refine TW.region ?_
  refine TL.m Mk.bx ?_
  intro b1
  refine TL.p Pu.as ?_
  refine TL.nil ?_
  refine TQ.thenN (hY1 _ _ ?_)
  refine TW.seq fun Y2 hY2 => ?_
  refine TW.region ?_
  refine TL.p (by first | exact (Pu.ld ty_sc74) | exact (Pu.ldo ty_sc74)) ?_
  refine TL.p (by first | exact (Pu.lds ty_ag72) | exact (Pu.ldso ty_ag72)) ?_
  refine TL.cv rfl rfl hen (fun w hw => by
      exact hg _ (Chg.ext hw.chg)) ?_
  refine TL.p Pu.no ?_
  refine TL.p Pu.as ?_
  refine TL.nil ?_
  refine TQ.thenN (hY2 _ _ ?_)
  refine TW.ret ?_
  refine TQ.ret Try.results47 rfl ((.tmp rfl .nil)) ?_
  exact fun w hw => Ret.of hw
theorem everyFeud_any {g : FuncId} {fs cs : List Value} {A : Option Addr} {n cp : Nat} {v : Nat → Nat → Int} {p : Nat → Bool} {w : World} (hen : Enters Try.prog g) (hn : n ≤ 9223372036854775807)
    (hR : RdR w 4 A n (fun k => feudL (v k))) (hg : ∀ k, k < n → ∀ w', Below w.heap.size w w' → Calls Try.prog g (fs ++ [Value.agg (feudL (v k)).toArray] ++ cs).toArray w' (Ret w' (.bool (p k)))) :
    Calls Try.prog 27 #[.slice A n cp, .func (.func g) fs.toArray cs.toArray] w (Ret w (.bool (allB n p))) := by
  refine K_enter (S := []) (K := []) Try.func27 rfl Try.ntmps27 rfl (Sat.start _) ?_
  refine TW.seq fun Y1 hY1 => ?_
  refine TW.region ?_
  refine TL.m Mk.bx ?_
  intro b1
  refine TL.p Pu.as ?_
  refine TL.nil ?_
  refine TQ.thenN (hY1 _ _ ?_)
  refine TW.seq fun Y2 hY2 => ?_
  refine TW.region ?_
  refine TL.p Pu.mv ?_
  refine TL.p Pu.fn ?_
  refine TL.cr rfl (enters Try.func46 rfl rfl) (fun w hw => by
      have h1 := OldB.of_blk (hw.holds (.blk b1 74 [.func (.func g) fs.toArray cs.toArray]) (by simp))
      exact hasFeud_any (fs := []) (v := v) (p := fun k => !p k) (enters Try.func47 rfl rfl) hn (hR.sat hw Apart.nil) fun k hk w' hb => everyFeud1_any hen (h1.ext hb) fun w'' hb' => hg k hk w'' (((Chg.ext hw.chg).trans (hb.mono (Chg.ext hw.chg).size)).trans (hb'.mono (Nat.le_trans (Chg.ext hw.chg).size hb.size)))) ?_
  refine TL.p Pu.no ?_
  refine TL.p Pu.as ?_
  refine TL.nil ?_
  refine TQ.thenN (hY2 _ _ ?_)
  refine TW.ret ?_
  refine TQ.ret Try.results27 rfl ((.tmp rfl .nil)) ?_
  exact fun w hw => ⟨ret_bool (by rw [not_anyB]; simp), Chg.ext hw.chg⟩
theorem everyBorder1_any {g : FuncId} {fs cs : List Value} {b : Nat} {u : Nat → Int} {p : Bool} {w : World} (hen : Enters Try.prog g) (hb : OldB w b [.func (.func g) fs.toArray cs.toArray])
    (hg : ∀ w', Below w.heap.size w w' → Calls Try.prog g (fs ++ [Value.agg (borderL u).toArray] ++ cs).toArray w' (Ret w' (.bool p))) :
    Calls Try.prog 49 #[Value.agg (borderL u).toArray, .pointer (some ⟨b, 0, none⟩)] w (Ret w (.bool (!p))) := by
  refine K_enter (S := []) (K := []) Try.func49 rfl Try.ntmps49 rfl (Sat.start _) ?_
  refine TW.seq fun Y1 hY1 => ?_
  refine TW.region ?_
  refine TL.m Mk.bx ?_
  intro b1
  refine TL.p Pu.as ?_
  refine TL.nil ?_
  refine TQ.thenN (hY1 _ _ ?_)
  refine TW.seq fun Y2 hY2 => ?_
  refine TW.region ?_
  refine TL.p (by first | exact (Pu.ld ty_sc79) | exact (Pu.ldo ty_sc79)) ?_
  refine TL.p (by first | exact (Pu.lds ty_ag77) | exact (Pu.ldso ty_ag77)) ?_
  refine TL.cv rfl rfl hen (fun w hw => by
      exact hg _ (Chg.ext hw.chg)) ?_
  refine TL.p Pu.no ?_
  refine TL.p Pu.as ?_
  refine TL.nil ?_
  refine TQ.thenN (hY2 _ _ ?_)
  refine TW.ret ?_
  refine TQ.ret Try.results49 rfl ((.tmp rfl .nil)) ?_
  exact fun w hw => Ret.of hw
theorem everyBorder_any {g : FuncId} {fs cs : List Value} {A : Option Addr} {n cp : Nat} {v : Nat → Nat → Int} {p : Nat → Bool} {w : World} (hen : Enters Try.prog g) (hn : n ≤ 9223372036854775807)
    (hR : RdR w 3 A n (fun k => borderL (v k))) (hg : ∀ k, k < n → ∀ w', Below w.heap.size w w' → Calls Try.prog g (fs ++ [Value.agg (borderL (v k)).toArray] ++ cs).toArray w' (Ret w' (.bool (p k)))) :
    Calls Try.prog 29 #[.slice A n cp, .func (.func g) fs.toArray cs.toArray] w (Ret w (.bool (allB n p))) := by
  refine K_enter (S := []) (K := []) Try.func29 rfl Try.ntmps29 rfl (Sat.start _) ?_
  refine TW.seq fun Y1 hY1 => ?_
  refine TW.region ?_
  refine TL.m Mk.bx ?_
  intro b1
  refine TL.p Pu.as ?_
  refine TL.nil ?_
  refine TQ.thenN (hY1 _ _ ?_)
  refine TW.seq fun Y2 hY2 => ?_
  refine TW.region ?_
  refine TL.p Pu.mv ?_
  refine TL.p Pu.fn ?_
  refine TL.cr rfl (enters Try.func48 rfl rfl) (fun w hw => by
      have h1 := OldB.of_blk (hw.holds (.blk b1 79 [.func (.func g) fs.toArray cs.toArray]) (by simp))
      exact hasBorder_any (fs := []) (v := v) (p := fun k => !p k) (enters Try.func49 rfl rfl) hn (hR.sat hw Apart.nil) fun k hk w' hb => everyBorder1_any hen (h1.ext hb) fun w'' hb' => hg k hk w'' (((Chg.ext hw.chg).trans (hb.mono (Chg.ext hw.chg).size)).trans (hb'.mono (Nat.le_trans (Chg.ext hw.chg).size hb.size)))) ?_
  refine TL.p Pu.no ?_
  refine TL.p Pu.as ?_
  refine TL.nil ?_
  refine TQ.thenN (hY2 _ _ ?_)
  refine TW.ret ?_
  refine TQ.ret Try.results29 rfl ((.tmp rfl .nil)) ?_
  exact fun w hw => ⟨ret_bool (by rw [not_anyB]; simp), Chg.ext hw.chg⟩
theorem in_any (a lo hi : Int) (w : World) : Calls Try.prog 17 #[.int .i64 a, .int .i64 lo, .int .i64 hi] w (Ret w (.bool (inB5 lo hi a))) := by
  refine K_enter (S := []) (K := []) Try.func17 rfl Try.ntmps17 rfl (Sat.start _) ?_
  refine TW.seq fun Y1 hY1 => ?_
  refine TW.region ?_
  refine TL.p Pu.as ?_
  refine TL.nil ?_
  refine TQ.thenN (hY1 _ _ ?_)
  refine TW.seq fun Y2 hY2 => ?_
  refine TW.join [(6, .bool (inB5 lo hi a))] ?_ (fun hJ1 => ?_)
  · refine TQ.thenN (hY2 _ _ ?_)
    refine TW.ret ?_
    refine TQ.ret Try.results17 rfl ((.tmp rfl .nil)) ?_
    exact fun w hw => Ret.of hw
  refine TW.region ?_
  refine TL.p Pu.mv ?_
  refine TL.p Pu.mv ?_
  refine TL.p Pu.ge ?_
  refine TL.p Pu.mv ?_
  refine TL.guard (t := 10) rfl (fun hg1 => ?_) (fun hg1 => ?_)
  · refine TL.gd Pu.mv ?_
    refine TL.gd Pu.mv ?_
    refine TL.gd Pu.le ?_
    refine TL.p Pu.kt ?_
    refine TL.p Pu.as ?_
    refine TL.nil ?_
    exact TQ.sub (by repeat (first | exact trivial | refine ⟨rfl, ?_⟩ | refine ⟨trivial, ?_⟩ | refine ⟨(by show some (Value.bool _) = some (Value.bool _); simp [hg1, inB5]), ?_⟩)) (by repeat (first | exact KSub.nil | refine KSub.cons (by repeat (first | exact Pick.hd | apply Pick.tl)) ?_)) hJ1
  · refine TL.gs ?_
    refine TL.gs ?_
    refine TL.gs ?_
    refine TL.p Pu.kf ?_
    refine TL.p Pu.as ?_
    refine TL.nil ?_
    exact TQ.sub (by repeat (first | exact trivial | refine ⟨rfl, ?_⟩ | refine ⟨trivial, ?_⟩ | refine ⟨(by show some (Value.bool _) = some (Value.bool _); simp [hg1, inB5]), ?_⟩)) (by repeat (first | exact KSub.nil | refine KSub.cons (by repeat (first | exact Pick.hd | apply Pick.tl)) ?_)) hJ1
theorem tribe_any (a : Int) (w : World) : Calls Try.prog 25 #[.int .i64 a] w (Ret w (.bool (inB5 0 7 a))) := by
  refine K_enter (S := []) (K := []) Try.func25 rfl Try.ntmps25 rfl (Sat.start _) ?_
  refine TW.seq fun Y1 hY1 => ?_
  refine TW.region ?_
  refine TL.p Pu.as ?_
  refine TL.nil ?_
  refine TQ.thenN (hY1 _ _ ?_)
  refine TW.seq fun Y2 hY2 => ?_
  refine TW.region ?_
  refine TL.p Pu.mv ?_
  refine TL.cr rfl (enters Try.func17 rfl rfl) (fun w hw => by
      exact in_any _ _ _ _) ?_
  refine TL.p Pu.as ?_
  refine TL.nil ?_
  refine TQ.thenN (hY2 _ _ ?_)
  refine TW.ret ?_
  refine TQ.ret Try.results25 rfl ((.tmp rfl .nil)) ?_
  exact fun w hw => Ret.of hw
theorem lasts_any {T : TypeId} {f : FuncId} {v : Value} {a b : Int} (w : World) (hm : Meth Try.prog T "azalai/toll.days" f) (hen : Enters Try.prog f) (hd : ∀ w, Calls Try.prog f #[v] w (Ret w (.tuple #[.int .i64 a, .int .i64 b]))) :
    Calls Try.prog 26 #[.iface T v] w (Ret w (.bool (dayOk a b))) := by
  refine K_enter (S := []) (K := []) Try.func26 rfl Try.ntmps26 rfl (Sat.start _) ?_
  refine TW.seq fun Y1 hY1 => ?_
  refine TW.region ?_
  refine TL.p Pu.as ?_
  refine TL.nil ?_
  refine TQ.thenN (hY1 _ _ ?_)
  refine TW.seq fun Y2 hY2 => ?_
  refine TW.region ?_
  refine TL.p Pu.mv ?_
  refine TL.iv rfl rfl hm hen (fun w hw => by
      exact hd _) ?_
  refine TL.p Pu.mv ?_
  refine TL.p Pu.ex ?_
  refine TL.p Pu.ex ?_
  refine TL.p Pu.as ?_
  refine TL.p Pu.as ?_
  refine TL.nil ?_
  refine TQ.thenN (hY2 _ _ ?_)
  refine TW.seq fun Y3 hY3 => ?_
  refine TW.join [(2, .bool (dayOk a b))] ?_ (fun hJ1 => ?_)
  · refine TQ.thenN (hY3 _ _ ?_)
    refine TW.ret ?_
    refine TQ.ret Try.results26 rfl ((.tmp rfl .nil)) ?_
    exact fun w hw => Ret.of hw
  refine TW.region ?_
  refine TL.p Pu.mv ?_
  refine TL.p Pu.mv ?_
  refine TL.p Pu.le ?_
  refine TL.p Pu.mv ?_
  refine TL.guard (t := 13) rfl (fun hg1 => ?_) (fun hg1 => ?_)
  · refine TL.gd Pu.mv ?_
    refine TL.cr rfl (enters Try.func17 rfl rfl) (fun w hw => by
        exact in_any _ _ _ _) ?_
    refine TL.p Pu.kt ?_
    refine TL.p Pu.mv ?_
    refine TL.guard (t := 17) rfl (fun hg2 => ?_) (fun hg2 => ?_)
    · refine TL.gd Pu.mv ?_
      refine TL.cr rfl (enters Try.func17 rfl rfl) (fun w hw => by
          exact in_any _ _ _ _) ?_
      refine TL.p Pu.kt ?_
      refine TL.p Pu.as ?_
      refine TL.nil ?_
      exact TQ.sub (by repeat (first | exact trivial | refine ⟨rfl, ?_⟩ | refine ⟨trivial, ?_⟩ | refine ⟨(by show some (Value.bool _) = some (Value.bool _); simp [hg1, hg2, dayOk]), ?_⟩)) (by repeat (first | exact KSub.nil | refine KSub.cons (by repeat (first | exact Pick.hd | apply Pick.tl)) ?_)) hJ1
    · refine TL.gs ?_
      refine TL.gs ?_
      refine TL.p Pu.kf ?_
      refine TL.p Pu.as ?_
      refine TL.nil ?_
      exact TQ.sub (by repeat (first | exact trivial | refine ⟨rfl, ?_⟩ | refine ⟨trivial, ?_⟩ | refine ⟨(by show some (Value.bool _) = some (Value.bool _); simp [hg1, hg2, dayOk]), ?_⟩)) (by repeat (first | exact KSub.nil | refine KSub.cons (by repeat (first | exact Pick.hd | apply Pick.tl)) ?_)) hJ1
  · refine TL.gs ?_
    refine TL.gs ?_
    refine TL.p Pu.kf ?_
    refine TL.p Pu.mv ?_
    refine TL.gs ?_
    refine TL.gs ?_
    refine TL.p Pu.kf ?_
    refine TL.p Pu.as ?_
    refine TL.nil ?_
    exact TQ.sub (by repeat (first | exact trivial | refine ⟨rfl, ?_⟩ | refine ⟨trivial, ?_⟩ | refine ⟨(by show some (Value.bool _) = some (Value.bool _); simp [hg1, dayOk]), ?_⟩)) (by repeat (first | exact KSub.nil | refine KSub.cons (by repeat (first | exact Pick.hd | apply Pick.tl)) ?_)) hJ1
theorem holds_any {T : TypeId} {f : FuncId} {v : Value} {a b : Int} (d : Int) (w : World) (hm : Meth Try.prog T "azalai/toll.days" f) (hen : Enters Try.prog f) (hd : ∀ w, Calls Try.prog f #[v] w (Ret w (.tuple #[.int .i64 a, .int .i64 b]))) :
    Calls Try.prog 36 #[.iface T v, .int .i64 d] w (Ret w (.bool (inB5 a b d))) := by
  refine K_enter (S := []) (K := []) Try.func36 rfl Try.ntmps36 rfl (Sat.start _) ?_
  refine TW.seq fun Y1 hY1 => ?_
  refine TW.region ?_
  refine TL.p Pu.as ?_
  refine TL.nil ?_
  refine TQ.thenN (hY1 _ _ ?_)
  refine TW.seq fun Y2 hY2 => ?_
  refine TW.region ?_
  refine TL.p Pu.mv ?_
  refine TL.iv rfl rfl hm hen (fun w hw => by
      exact hd _) ?_
  refine TL.p Pu.mv ?_
  refine TL.p Pu.ex ?_
  refine TL.p Pu.ex ?_
  refine TL.p Pu.as ?_
  refine TL.p Pu.as ?_
  refine TL.nil ?_
  refine TQ.thenN (hY2 _ _ ?_)
  refine TW.seq fun Y3 hY3 => ?_
  refine TW.region ?_
  refine TL.p Pu.mv ?_
  refine TL.p Pu.mv ?_
  refine TL.p Pu.mv ?_
  refine TL.cr rfl (enters Try.func17 rfl rfl) (fun w hw => by
      exact in_any _ _ _ _) ?_
  refine TL.p Pu.as ?_
  refine TL.nil ?_
  refine TQ.thenN (hY3 _ _ ?_)
  refine TW.ret ?_
  refine TQ.ret Try.results36 rfl ((.tmp rfl .nil)) ?_
  exact fun w hw => Ret.of hw
theorem claimMeth : Meth Try.prog 68 "azalai/toll.days" 82 := fun _ _ => by kernel_rfl
theorem feudMeth : Meth Try.prog 73 "azalai/toll.days" 83 := fun _ _ => by kernel_rfl
theorem borderMeth : Meth Try.prog 78 "azalai/toll.days" 84 := fun _ _ => by kernel_rfl
theorem claimDays_any (x : (Nat → Int) × Bool) (w : World) : Calls Try.prog 82 #[.agg (claimL x).toArray] w (Ret w (.tuple #[.int .i64 (x.1 2), .int .i64 (x.1 3)])) := by
  refine K_enter (S := []) (K := []) Try.func82 rfl Try.ntmps82 rfl (Sat.start _) ?_
  refine TW.seq fun Y1 hY1 => ?_
  refine TW.region ?_
  refine TL.m Mk.bx ?_
  intro b1
  refine TL.p Pu.as ?_
  refine TL.p Pu.as ?_
  refine TL.nil ?_
  refine TQ.thenN (hY1 _ _ ?_)
  refine TW.seq fun Y2 hY2 => ?_
  refine TW.dw 6 ?_
  refine RK.tk (by first | exact Pu.fb ty_fa68_2 | exact Pu.fe ty_fa68_2) ?_
  refine RK.tk (Pu.ld ty_sc3) ?_
  refine RK.tk (by first | exact Pu.fb ty_fa68_3 | exact Pu.fe ty_fa68_3) ?_
  refine RK.tk (Pu.ld ty_sc3) ?_
  refine RK.tk Pu.as ?_
  refine RK.tk Pu.as ?_
  refine RK.ch [] ?_ trivial
  refine WK.n ?_
  refine TL.nil ?_
  refine TQ.thenN (hY2 _ _ ?_)
  refine TW.ret ?_
  refine TQ.ret Try.results82 rfl ((.tmp rfl (.tmp rfl .nil))) ?_
  exact fun w hw => Ret.of hw
theorem feudDays_any (x : Nat → Int) (w : World) : Calls Try.prog 83 #[.agg (feudL x).toArray] w (Ret w (.tuple #[.int .i64 (x 2), .int .i64 (x 3)])) := by
  refine K_enter (S := []) (K := []) Try.func83 rfl Try.ntmps83 rfl (Sat.start _) ?_
  refine TW.seq fun Y1 hY1 => ?_
  refine TW.region ?_
  refine TL.m Mk.bx ?_
  intro b1
  refine TL.p Pu.as ?_
  refine TL.p Pu.as ?_
  refine TL.nil ?_
  refine TQ.thenN (hY1 _ _ ?_)
  refine TW.seq fun Y2 hY2 => ?_
  refine TW.dw 6 ?_
  refine RK.tk (by first | exact Pu.fb ty_fa73_2 | exact Pu.fe ty_fa73_2) ?_
  refine RK.tk (Pu.ld ty_sc3) ?_
  refine RK.tk (by first | exact Pu.fb ty_fa73_3 | exact Pu.fe ty_fa73_3) ?_
  refine RK.tk (Pu.ld ty_sc3) ?_
  refine RK.tk Pu.as ?_
  refine RK.tk Pu.as ?_
  refine RK.ch [] ?_ trivial
  refine WK.n ?_
  refine TL.nil ?_
  refine TQ.thenN (hY2 _ _ ?_)
  refine TW.ret ?_
  refine TQ.ret Try.results83 rfl ((.tmp rfl (.tmp rfl .nil))) ?_
  exact fun w hw => Ret.of hw
theorem borderDays_any (x : Nat → Int) (w : World) : Calls Try.prog 84 #[.agg (borderL x).toArray] w (Ret w (.tuple #[.int .i64 (x 1), .int .i64 (x 2)])) := by
  refine K_enter (S := []) (K := []) Try.func84 rfl Try.ntmps84 rfl (Sat.start _) ?_
  refine TW.seq fun Y1 hY1 => ?_
  refine TW.region ?_
  refine TL.m Mk.bx ?_
  intro b1
  refine TL.p Pu.as ?_
  refine TL.p Pu.as ?_
  refine TL.nil ?_
  refine TQ.thenN (hY1 _ _ ?_)
  refine TW.seq fun Y2 hY2 => ?_
  refine TW.dw 6 ?_
  refine RK.tk (by first | exact Pu.fb ty_fa78_1 | exact Pu.fe ty_fa78_1) ?_
  refine RK.tk (Pu.ld ty_sc3) ?_
  refine RK.tk (by first | exact Pu.fb ty_fa78_2 | exact Pu.fe ty_fa78_2) ?_
  refine RK.tk (Pu.ld ty_sc3) ?_
  refine RK.tk Pu.as ?_
  refine RK.tk Pu.as ?_
  refine RK.ch [] ?_ trivial
  refine WK.n ?_
  refine TL.nil ?_
  refine TQ.thenN (hY2 _ _ ?_)
  refine TW.ret ?_
  refine TQ.ret Try.results84 rfl ((.tmp rfl (.tmp rfl .nil))) ?_
  exact fun w hw => Ret.of hw
end Go.Proofs.Ytckiagbllkdfdaa
