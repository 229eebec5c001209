/-
  What jolts and days do to packs; the small functions under Jolted.
-/
import Derived.Test.YtagcnokaajinlaaDoorLoadM
namespace Go.Proofs.YtagcnokaajinlaaDoor
set_option linter.all false
set_option linter.unusedVariables false
set_option linter.unusedSimpArgs false
open Go.RowKit
def bump (f : Nat → Nat → Int) (x d : Int) : Nat → Nat → Int := fun q j => if (q : Int) = x ∧ j = 9 then f q j + d else f q j
def hit (f : Nat → Nat → Int) (h : Int) (top : Bool) (x : Int) : Nat → Nat → Int := if top then bump (bump f x h) x h else bump f x h
def hitL (f : Nat → Nat → Int) (h : Int) (top : Bool) (xs : List Int) : Nat → Nat → Int := xs.foldl (fun f x => hit f h top x) f
def hitJ (f : Nat → Nat → Int) (h : Int) (l : Nat → Nat) (v : Nat → Nat → Int) : Nat → Nat → Nat → Int
  | 0 => f
  | j + 1 => hitL (hitJ f h l v j) h (j == 2) (lst l v j)
def hitAll (f : Nat → Nat → Int) (jt : Nat → Nat → Int) (l : Nat → Nat → Nat) (v : Nat → Nat → Nat → Int) : Nat → Nat → Nat → Int
  | 0 => f
  | n + 1 => hitJ (hitAll f jt l v n) (jt n 1) (l (jt n 0).toNat) (v (jt n 0).toNat) 3
def aged (f : Nat → Nat → Int) (days : Int) (k : Nat) : Nat → Nat → Int := fun q j => if q < k ∧ j = 10 then f q j + days else f q j
def joltP (m : Nat) (j : Nat → Int) : Bool := inB5 0 ((m : Int) - 1) (j 0) && inB5 0 100000 (j 1)
/-- How much packs were hurt, and how long they were on the way. -/
def Bd (f : Nat → Nat → Int) (np : Nat) (B : Int) : Prop := ∀ q, q < np → 0 ≤ f q 9 ∧ f q 9 ≤ B ∧ 0 ≤ f q 10 ∧ f q 10 ≤ 100000
theorem Bd.bump {f : Nat → Nat → Int} {np : Nat} {B x d D : Int} (h : Bd f np B) (h0 : 0 ≤ d) (h1 : d ≤ D) : Bd (bump f x d) np (B + D) := fun q hq => by
  obtain ⟨a, b, c, e⟩ := h q hq
  simp only [Go.Proofs.YtagcnokaajinlaaDoor.bump]
  split <;> simp <;> omega
theorem Bd.mono {f : Nat → Nat → Int} {np : Nat} {B D : Int} (h : Bd f np B) (h1 : B ≤ D) : Bd f np D := fun q hq => by
  obtain ⟨a, b, c, e⟩ := h q hq
  exact ⟨a, by omega, c, e⟩
theorem Bd.hit {f : Nat → Nat → Int} {np : Nat} {B x h : Int} {top : Bool} (hb : Bd f np B) (h0 : 0 ≤ h) (h1 : h ≤ 100000) : Bd (hit f h top x) np (B + 200000) := by
  unfold Go.Proofs.YtagcnokaajinlaaDoor.hit
  split
  · exact ((hb.bump h0 h1).bump h0 h1).mono (by omega)
  · exact (hb.bump h0 h1).mono (by omega)
set_option maxRecDepth 100000 in
theorem clone_any {A : Option Addr} {n cp : Nat} {pk : Nat → Nat → Int} {w : World} (hn : n ≤ 1000000000) (hR : RdR w 11 A n (fun k => packL (pk k))) :
    CallsK Tryd.prog 36 #[.slice A n cp] [] w (Option Addr × Nat) (fun x => .slice x.1 n x.2) (fun x => [.own x.1 n x.2 25 11 (fun k => packL (pk k))]) := by
  cases A with
  | none =>
    have h0 : n = 0 := by
      rcases Nat.eq_zero_or_pos n with h | h
      · exact h
      · obtain ⟨b, o, e, _⟩ := hR.rd h
        cases e
    subst h0
    refine K_enter (S := []) (K := []) Tryd.func36 rfl Tryd.ntmps36 rfl (Sat.start _) ?_
    refine TW.seq fun Y1 hY1 => ?_
    refine TW.region ?_
    refine TL.p Pu.as ?_
    refine TL.nil ?_
    refine TQ.thenN (hY1 _ _ ?_)
    refine TW.seq fun Y2 hY2 => ?_
    refine TW.seq fun Y3 hY3 => ?_
    refine TW.region ?_
    refine TL.p Pu.mv ?_
    refine TL.p Pu.bn ?_
    refine TL.nil ?_
    refine TQ.thenN (hY3 _ _ ?_)
    refine TW.condT rfl (rfl) ?_
    refine TW.seq fun Y4 hY4 => ?_
    refine TW.region ?_
    refine TL.p Pu.as ?_
    refine TL.nil ?_
    refine TQ.thenN (hY4 _ _ ?_)
    refine TW.ret ?_
    refine TQ.thenR ?_
    refine TQ.ret Tryd.results36 rfl ((.tmp rfl .nil)) ?_
    exact fun w hw => ⟨(none, 0), rfl, hw.sub (KSub.nilOwn KSub.nil)⟩
  | some p =>
    refine K_enter (S := []) (K := []) Tryd.func36 rfl Tryd.ntmps36 rfl (Sat.start _) ?_
    refine TW.seq fun Y1 hY1 => ?_
    refine TW.region ?_
    refine TL.p Pu.as ?_
    refine TL.nil ?_
    refine TQ.thenN (hY1 _ _ ?_)
    refine TW.seq fun Y2 hY2 => ?_
    refine TW.seq fun Y3 hY3 => ?_
    refine TW.region ?_
    refine TL.p Pu.mv ?_
    refine TL.p Pu.bn ?_
    refine TL.nil ?_
    refine TQ.thenN (hY3 _ _ ?_)
    refine TW.condF rfl (rfl) ?_
    refine TW.skip ?_
    refine TQ.thenN (hY2 _ _ ?_)
    refine TW.seq fun Y4 hY4 => ?_
    refine TW.region ?_
    refine TL.m Mk.bl ?_
    intro b1
    refine TL.p Pu.mv ?_
    refine TL.subK (KSub.ofBlk (n := 0) (sz := 11) (r := fun _ => []) Pick.hd rfl (fun _ h => by omega) rfl rfl KSub.nil) ?_
    first | refine TL.a0 ty_et26 ?_ | refine TL.ap ty_et26 ?_
    intro A2 c2
    refine TL.p Pu.as ?_
    refine TL.nil ?_
    refine TQ.thenN (hY4 _ _ ?_)
    refine TW.ret ?_
    refine TQ.ret Tryd.results36 rfl ((.tmp rfl .nil)) ?_
    exact fun w hw => ⟨(A2, c2), rfl, hw⟩
theorem jolt1_any (m : Nat) (j : Nat → Int) (b : Nat) {A2 : Option Addr} {cp2 : Nat} (w : World) (hm : m ≤ 1000000000) (h1 : OldB w b [.slice A2 m cp2]) :
    Calls Tryd.prog 35 #[.agg (spL (j 0) (j 1)).toArray, .pointer (some ⟨b, 0, none⟩)] w (Ret w (.bool (joltP m j))) := by
  refine K_enter (S := []) (K := []) Tryd.func35 rfl Tryd.ntmps35 rfl (Sat.start _) ?_
  refine TW.seq fun Y1 hY1 => ?_
  refine TW.region ?_
  refine TL.m Mk.bx ?_
  intro b1
  refine TL.p Pu.as ?_
  refine TL.nil ?_
  refine TQ.thenN (hY1 _ _ ?_)
  refine TW.seq fun Y2 hY2 => ?_
  refine TW.join [(3, .bool (joltP m j))] ?_ (fun hJ1 => ?_)
  · refine TQ.thenN (hY2 _ _ ?_)
    refine TW.ret ?_
    refine TQ.ret Tryd.results35 rfl ((.tmp rfl .nil)) ?_
    exact fun w hw => Ret.of hw
  refine TW.region ?_
  refine TL.p (by first | exact (Pu.ld ty_sc27) | exact (Pu.ldo ty_sc27)) ?_
  refine TL.p (Pu.ln Tryd.underlying27) ?_
  refine TL.p Pu.sb ?_
  refine TL.p (by first | exact Pu.fb ty_fa44_0 | exact Pu.fe ty_fa44_0) ?_
  refine TL.p (by first | exact (Pu.ld ty_sc3) | exact (Pu.ldo ty_sc3)) ?_
  refine TL.m Mk.bl ?_
  intro b2
  refine TL.cr rfl (enters Tryd.func33 rfl rfl) (fun w hw => by
      exact inOne_any _ _ _ (hw.holds _ (List.mem_cons_self ..))) ?_
  refine TL.p Pu.mv ?_
  refine TL.guard (t := 11) rfl (fun hg1 => ?_) (fun hg1 => ?_)
  · refine TL.gd (by first | exact Pu.fb ty_fa44_1 | exact Pu.fe ty_fa44_1) ?_
    refine TL.gd (by first | exact (Pu.ld ty_sc3) | exact (Pu.ldo ty_sc3)) ?_
    refine TL.gm Mk.bl ?_
    intro b3
    refine TL.cr rfl (enters Tryd.func33 rfl rfl) (fun w hw => by
        exact inOne_any _ _ _ (hw.holds _ (List.mem_cons_self ..))) ?_
    refine TL.p Pu.kt ?_
    refine TL.p Pu.as ?_
    refine TL.nil ?_
    exact TQ.sub (by repeat (first | exact trivial | refine ⟨rfl, ?_⟩ | refine ⟨trivial, ?_⟩ | refine ⟨(by show some (Value.bool _) = some (Value.bool _); simp [hg1, joltP]), ?_⟩)) (by repeat (first | exact KSub.nil | refine KSub.cons (by repeat (first | exact Pick.hd | apply Pick.tl)) ?_)) hJ1
  · refine TL.gs ?_
    refine TL.gs ?_
    refine TL.gs ?_
    refine TL.gs ?_
    refine TL.p Pu.kf ?_
    refine TL.p Pu.as ?_
    refine TL.nil ?_
    exact TQ.sub (by repeat (first | exact trivial | refine ⟨rfl, ?_⟩ | refine ⟨trivial, ?_⟩ | refine ⟨(by show some (Value.bool _) = some (Value.bool _); simp [hg1, joltP]), ?_⟩)) (by repeat (first | exact KSub.nil | refine KSub.cons (by repeat (first | exact Pick.hd | apply Pick.tl)) ?_)) hJ1
theorem everyJolt_any {g : FuncId} {fs cs : List Value} {A : Option Addr} {n cp : Nat} {v : Nat → Nat → Int} {p : Nat → Bool} {w : World} (hen : Enters Tryd.prog g) (hn : n ≤ 9223372036854775807)
    (hR : RdR w 2 A n (fun k => spL (v k 0) (v k 1))) (hg : ∀ k, k < n → ∀ w', Below w.heap.size w w' → Calls Tryd.prog g (fs ++ [Value.agg (spL (v k 0) (v k 1)).toArray] ++ cs).toArray w' (Ret w' (.bool (p k)))) :
    Calls Tryd.prog 34 #[.slice A n cp, .func (.func g) fs.toArray cs.toArray] w (Ret w (.bool (allB n p))) :=
  CallsK.retOf (everyJolt_st (M := fun _ => []) hen hn hR (fun _ => Apart.nil) (Sat.start w) (fun _ => rfl) fun k hk _ w' hw' => CallsK.ret (hg k hk w' (Chg.ext hw'.chg))) fun x => by
    rw [x.any]
    show Value.bool (!anyB n fun k => !p k) = _
    rw [not_anyB]
    simp
end Go.Proofs.YtagcnokaajinlaaDoor
