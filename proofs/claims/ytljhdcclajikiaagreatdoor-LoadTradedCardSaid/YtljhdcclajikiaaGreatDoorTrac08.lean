/-
  Part 8 of the proof of loadTraded_holds: declarations of several texts, in build order. No condition on a program.
-/
import Derived.Test.YtljhdcclajikiaaGreatDoorTrac07
namespace Go.Proofs.YtljhdcclajikiaaGreatDoor
set_option linter.all false
set_option linter.unusedVariables false
set_option linter.unusedSimpArgs false
open Go.RowKit
def T0 (l : Nat → Nat → Nat) (v : Nat → Nat → Nat → Int) (s : Nat) : List Int := toI (v (s / 3) (s % 3)) (l (s / 3) (s % 3))
theorem T0_at {l : Nat → Nat → Nat} {v : Nat → Nat → Nat → Int} {i k : Nat} (hk : k < 3) : T0 l v (3 * i + k) = toI (v i k) (l i k) := by
  unfold T0
  rw [show (3 * i + k) / 3 = i by omega, show (3 * i + k) % 3 = k by omega]
def takeT (F : List Int) (T : Nat → List Int) (s : Nat) : List Int := (T s).filter fun x => !F.contains x
def cnt3 (T : Nat → List Int) (i : Nat) : Nat := (T (3 * i)).length + (T (3 * i + 1)).length + (T (3 * i + 2)).length
def takeZ (F : List Int) (T : Nat → List Int) : Nat → Int
  | 0 => F.length
  | i + 1 => takeZ F T i - ((cnt3 T i : Int) - cnt3 (takeT F T) i)
def takeC (np : Nat) (F : List Int) (T : Nat → List Int) (m : Nat) : Int := if (allB F.length (riseP (fun k => F.getD k 0) np) && decide (takeZ F T m = 0)) = true then 0 else 54
theorem takeT_len {F : List Int} {T : Nat → List Int} {s : Nat} : (takeT F T s).length ≤ (T s).length := List.length_filter_le _ _
theorem takeZ_bd {F : List Int} {T : Nat → List Int} {m : Nat} (hT : ∀ i, i < m → cnt3 T i ≤ 1000) : ∀ i, i ≤ m → takeZ F T i ≤ F.length ∧ (F.length : Int) - 1000 * i ≤ takeZ F T i
  | 0, _ => by simp [takeZ]
  | i + 1, h => by
    have h1 := takeZ_bd (F := F) hT i (by omega)
    have h2 := hT i (by omega)
    have a := takeT_len (F := F) (T := T) (s := 3 * i)
    have b := takeT_len (F := F) (T := T) (s := 3 * i + 1)
    have c := takeT_len (F := F) (T := T) (s := 3 * i + 2)
    simp only [takeZ, cnt3] at *
    omega
theorem Sat.apart {S : List Nat} {w0 w : World} {K K' : List Fact} {φ ψ : Fact} (hs : Sat S w0 K w) (hp : Pick K φ K') (hq : ψ ∈ K') : ∀ b ∈ φ.foot, b ∉ ψ.foot := fun b hb hc => by
  have h1 := (hs.perm hp.perm).nd
  rw [feet_cons] at h1
  exact (List.nodup_append.1 h1).2.2 b hb b (List.mem_flatMap.2 ⟨ψ, hq, hc⟩) rfl
theorem take1_any {w : World} {bx m cm : Nat} {B : Option Addr} {M : List Int} (x : Int) (hm : m = M.length) (h1 : m ≤ 1000000) (hb : OldB w bx [.slice B m cm]) (hM : RdR w 1 B m (iL M)) :
    Calls Tryz.prog 59 #[.int .i64 x, .pointer (some ⟨bx, 0, none⟩)] w (Ret w (.bool (M.contains x))) := by
  refine K_enter (S := []) (K := []) Tryz.func59 rfl Tryz.ntmps59 rfl (Sat.start _) ?_
  refine TW.seq fun Y1 hY1 => ?_
  refine TW.region ?_
  refine TL.p Pu.as ?_
  refine TL.nil ?_
  refine TQ.thenN (hY1 _ _ ?_)
  refine TW.seq fun Y2 hY2 => ?_
  refine TW.region ?_
  refine TL.p (by first | exact (Pu.ld ty_sc24) | exact (Pu.ldo ty_sc24)) ?_
  refine TL.p Pu.mv ?_
  refine TL.cr rfl (enters Tryz.func60 rfl rfl) (fun w hw => by
      exact hasI_any x hm h1 (hM.sat hw Apart.nil)) ?_
  refine TL.p Pu.as ?_
  refine TL.nil ?_
  refine TQ.thenN (hY2 _ _ ?_)
  refine TW.ret ?_
  refine TQ.ret Tryz.results59 rfl ((.tmp rfl .nil)) ?_
  exact fun w hw => Ret.of hw
def arrR (X : Nat → Option Addr) (T : Nat → List Int) (D : Nat → Nat) (a : Nat → Option Addr) (l c : Nat → Nat) (s k j : Nat) : List Value := if j < k then [.slice (X (s + j)) (T (s + j)).length (D (s + j))] else [.slice (a j) (l j) (c j)]
theorem arrR_here {X : Nat → Option Addr} {T : Nat → List Int} {D : Nat → Nat} {a : Nat → Option Addr} {l c : Nat → Nat} {s k : Nat} : arrR X T D a l c s k k = [.slice (a k) (l k) (c k)] := if_neg (by omega)
theorem tieX_congr {X X2 : Nat → Option Addr} {T T2 : Nat → List Int} {D D2 : Nat → Nat} {i : Nat} (h : ∀ s, s < 3 * i + 3 → X s = X2 s ∧ T s = T2 s ∧ D s = D2 s) : tieX X T D i = tieX X2 T2 D2 i := by
  obtain ⟨a1, a2, a3⟩ := h (3 * i) (by omega)
  obtain ⟨b1, b2, b3⟩ := h (3 * i + 1) (by omega)
  obtain ⟨c1, c2, c3⟩ := h (3 * i + 2) (by omega)
  simp only [tieX, a1, a2, a3, b1, b2, b3, c1, c2, c3]
abbrev TKx := (Option Addr × Nat) × (Nat → Option Addr) × (Nat → Nat)
def tiesX (m : Nat) (T : Nat → List Int) (x : TKx) : List Fact := .own x.1.1 m x.1.2 34 3 (tieX x.2.1 T x.2.2) :: ownsT x.2.1 T x.2.2 (3 * m)
set_option maxRecDepth 100000 in
set_option maxHeartbeats 4000000 in
theorem take_any {W : World} {AT Af : Option Addr} {m cT nf cf np : Nat} {a : Nat → Nat → Option Addr} {l c : Nat → Nat → Nat} {v : Nat → Nat → Nat → Int} {F : List Int} (hm : m ≤ 1000) (hnf : nf = F.length) (hf : nf ≤ 1000) (hnp : np ≤ 1000000000) (hl : ∀ i, i < m → tot (l i) 3 ≤ 1000)
    (hT : RdR W 3 AT m (fun i => tieL (a i) (l i) (c i))) (hI : ∀ i, i < m → ∀ j, j < 3 → RdR W 1 (a i j) (l i j) (fun k => [.int .i64 (v i j k)])) (hF : RdR W 1 Af nf (iL F)) :
    TryK Tryz.prog 31 #[.slice AT m cT, .slice Af nf cf, .int .i64 (np : Int)] [] TKx (fun x => .slice x.1.1 m x.1.2) (tiesX m (takeT F (T0 l v))) errs (takeC np F (T0 l v) m) W := by
  unfold TryK
  have hc3 : ∀ i, cnt3 (T0 l v) i = tot (l i) 3 := fun i => by
    unfold cnt3
    have e0 : T0 l v (3 * i) = toI (v i 0) (l i 0) := T0_at (k := 0) (by omega)
    rw [tot3, e0, T0_at (by omega), T0_at (by omega), toI_len, toI_len, toI_len]
  have hzb := takeZ_bd (F := F) (T := T0 l v) (m := m) fun i hi => by rw [hc3]; exact hl i hi
  generalize hTt : takeT F (T0 l v) = Tt at *
  have hTl : ∀ s, (Tt s).length ≤ (T0 l v s).length := fun s => by rw [← hTt]; exact takeT_len
  replace hnf : nf ≤ F.length ∧ F.length ≤ nf := ⟨Nat.le_of_eq hnf, Nat.le_of_eq hnf.symm⟩
  have hC1 : ∀ {e : Int}, (if (allB nf (riseP (fun k => F.getD k 0) np)) = true then (0 : Int) else e) ≠ 0 → takeC np F (T0 l v) m = 54 := fun h => by
    unfold takeC
    rw [show F.length = nf by omega, (need_no h).1]
    rfl
  have hC2 : ∀ {e z : Int}, (if decide (z = 0) = true then (0 : Int) else e) ≠ 0 → z = takeZ F (T0 l v) m → takeC np F (T0 l v) m = 54 := fun h h2 => by
    unfold takeC
    rw [← h2, (need_no h).1, Bool.and_false]
    rfl
  refine K_enter (S := []) (K := []) Tryz.func31 rfl Tryz.ntmps31 rfl (Sat.start _) ?_
  refine TW.seq fun Y1 hY1 => ?_
  refine TW.region ?_
  refine TL.m Mk.bx ?_
  intro b1
  refine TL.p Pu.as ?_
  refine TL.nil ?_
  refine TQ.thenN (hY1 _ _ ?_)
  refine TW.seq fun Y2 hY2 => ?_
  refine TW.region ?_
  refine TL.p (Pu.ld ty_sc24) ?_
  refine TL.p Pu.mv ?_
  refine TL.cr rfl (enters Tryz.func57 rfl rfl) (fun w hw => by
      exact rising_any (v := fun k => F.getD k 0) (by omega) (hF.sat hw Apart.nil) (by omega) (by omega)) ?_
  refine TL.ct rfl (enters Tryz.func40 rfl rfl) (fun w hw => by
      exact need_any _ _ _ (by decide)) (fun hp1 => ?_) (fun hp1 => ?_)
  rotate_left
  · refine TQ.thenP ?_
    refine TQ.pan rfl ?_
    exact fun w hw => .inr ⟨by first | (rw [hC2 hp2 hz]; decide) | (rw [hC1 hp1]; decide), by first | (rw [hC2 hp2 hz, (need_no hp2).2]) | (rw [hC1 hp1, (need_no hp1).2]), hw.sub KSub.nil⟩
  refine TL.nil ?_
  refine TQ.thenN (hY2 _ _ ?_)
  refine TW.seq fun Y3 hY3 => ?_
  refine TW.region ?_
  refine TL.p (Pu.ld ty_sc24) ?_
  refine TL.p (Pu.ln Tryz.underlying24) ?_
  refine TL.p Pu.as ?_
  refine TL.nil ?_
  refine TQ.thenN (hY3 _ _ ?_)
  refine TW.seq fun Y4 hY4 => ?_
  refine TW.region ?_
  refine TL.p Pu.as ?_
  refine TL.nil ?_
  refine TQ.thenN (hY4 _ _ ?_)
  refine TW.seq fun Y5 hY5 => ?_
  refine TW.seq fun Y6 hY6 => ?_
  refine TW.region ?_
  refine TL.p Pu.mv ?_
  refine TL.p (Pu.ln Tryz.underlying23) ?_
  refine TL.p Pu.mv ?_
  refine TL.nil ?_
  refine TQ.thenN (hY6 _ _ ?_)
  refine TW.block ?_
  refine TW.loop6 (fun (i : Nat) (z : Int) (An : Option Addr) (cn : Nat) (X : Nat → Option Addr) (D : Nat → Nat) => [(22, .int .i64 (i : Int)), (21, .int .i64 (m : Int)), (20, .slice AT m cT), (7, .int .i64 z), (8, .slice An i cn), (4, .pointer (some ⟨b1, 0, none⟩))]) (fun i z An cn X D => .own An i cn 34 3 (tieX X Tt D) :: .blk b1 24 [.slice Af nf cf] :: ownsT X Tt D (3 * i)) (fun i z An cn X D => i ≤ m ∧ z = takeZ F (T0 l v) i) (fun i z An cn X D => m - i) 0 _ none 0 (fun _ => none) (fun _ => 0) (by repeat (first | exact trivial | refine ⟨rfl, ?_⟩ | refine ⟨trivial, ?_⟩)) ?_ ?_ ?_
  · exact KSub.nilOwn (KSub.cons Pick.hd KSub.nil)
  · exact ⟨Nat.zero_le _, by simp only [takeZ]; omega⟩
  rintro i z An cn X D ⟨hi, hz⟩ Z0 hZ0
  have hzi := hzb i hi
  refine TW.seq fun Y7 hY7 => ?_
  refine TW.region ?_
  refine TL.p Pu.lt ?_
  refine TL.nil ?_
  refine TQ.thenN (hY7 _ _ ?_)
  refine TW.seq fun Y8 hY8 => ?_
  refine TW.cond rfl (fun hc0 => ?_) (fun hc0 => ?_)
  · try simp only [decide_eq_true_eq, decide_eq_false_iff_not, Bool.not_eq_true', Bool.not_eq_false', Bool.and_eq_true, Bool.or_eq_true, Bool.and_eq_false_iff, Bool.or_eq_false_iff, Int.not_lt, Int.not_le] at hc0
    have him : i < m := by omega
    have hli := hl i him
    refine TW.skip ?_
    refine TQ.thenN (hY8 _ _ ?_)
    refine TW.seq fun Y9 hY9 => ?_
    refine TW.block ?_
    refine TW.seq fun Y10 hY10 => ?_
    refine TW.region ?_
    refine TL.p (Pu.el ty_et23) ?_
    refine TL.p (Pu.lds ty_ag34) ?_
    refine TL.m (Mk.al ty_zr34) ?_
    intro b2
    first | refine TL.st ty_sz34 ?_ | refine TL.se ty_sz34 ?_
    refine TL.nil ?_
    refine TQ.thenN (hY10 _ _ ?_)
    refine TW.seq fun Y11 hY11 => ?_
    refine TW.region ?_
    refine TL.p (Pu.lds ty_ag34) ?_
    refine TL.cr rfl (enters Tryz.func56 rfl rfl) (fun w hw => by
        exact lists_any _ _ _ _) ?_
    refine TL.m (Mk.al ty_zr35) ?_
    intro b3
    first | refine TL.st ty_sz35 ?_ | refine TL.se ty_sz35 ?_
    refine TL.nil ?_
    refine TQ.thenN (hY11 _ _ ?_)
    refine TW.seq fun Y12 hY12 => ?_
    refine TW.seq fun Y13 hY13 => ?_
    refine TW.region ?_
    refine TL.p Pu.mv ?_
    refine TL.nil ?_
    refine TQ.thenN (hY13 _ _ ?_)
    refine TW.block ?_
    refine TW.loop3 (fun (k : Nat) (X : Nat → Option Addr) (D : Nat → Nat) => [(28, .int .i64 (k : Int)), (11, .pointer (some ⟨b3, 0, none⟩)), (10, .pointer (some ⟨b2, 0, none⟩)), (22, .int .i64 (i : Int)), (21, .int .i64 (m : Int)), (20, .slice AT m cT), (7, .int .i64 z), (8, .slice An i cn), (4, .pointer (some ⟨b1, 0, none⟩))]) (fun k X D => .own (some ⟨b3, 0, none⟩) 3 3 35 1 (arrR X Tt D (a i) (l i) (c i) (3 * i) k) :: .blk b2 34 (tieL (a i) (l i) (c i)) :: .own An i cn 34 3 (tieX X Tt D) :: .blk b1 24 [.slice Af nf cf] :: ownsT X Tt D (3 * i + k)) (fun k X D => k ≤ 3) (fun k X D => 3 - k) 0 X D (by repeat (first | exact trivial | refine ⟨rfl, ?_⟩ | refine ⟨trivial, ?_⟩)) ?_ ?_ ?_
    · refine KSub.ofBlk (by repeat (first | exact Pick.hd | apply Pick.tl)) rfl (fun j hj => ?_) rfl rfl (KSub.cons (by repeat (first | exact Pick.hd | apply Pick.tl)) (KSub.cons (by repeat (first | exact Pick.hd | apply Pick.tl)) (KSub.cons (by repeat (first | exact Pick.hd | apply Pick.tl)) (KSub.refl _))))
      unfold arrR
      rw [if_neg (by omega)]
      rfl
    · exact Nat.zero_le _
    rintro k X D hk Z1 hZ1
    refine TW.seq fun Y14 hY14 => ?_
    refine TW.region ?_
    refine TL.p Pu.lt ?_
    refine TL.nil ?_
    refine TQ.thenN (hY14 _ _ ?_)
    refine TW.seq fun Y15 hY15 => ?_
    refine TW.cond rfl (fun hc1 => ?_) (fun hc1 => ?_)
    · try simp only [decide_eq_true_eq, decide_eq_false_iff_not, Bool.not_eq_true', Bool.not_eq_false', Bool.and_eq_true, Bool.or_eq_true, Bool.and_eq_false_iff, Bool.or_eq_false_iff, Int.not_lt, Int.not_le] at hc1
      have hk3 : k < 3 := by omega
      have hIk := (hI i him k hk3).toI
      have hTk : (toI (v i k) (l i k)).filter (fun x => !F.contains x) = Tt (3 * i + k) := by rw [← hTt]; unfold takeT; rw [T0_at hk3]
      have hlk : l i k ≤ 1000 := by
        rw [tot3] at hli
        have : k = 0 ∨ k = 1 ∨ k = 2 := by omega
        rcases this with rfl | rfl | rfl <;> omega
      rw [toI_len] at hIk
      refine TW.skip ?_
      refine TQ.thenN (hY15 _ _ ?_)
      refine TW.seq fun Y16 hY16 => ?_
      refine TW.block ?_
      refine TW.seq fun Y17 hY17 => ?_
      refine TW.region ?_
      refine TL.p Pu.mv ?_
      refine TL.p Pu.as ?_
      refine TL.nil ?_
      refine TQ.thenN (hY17 _ _ ?_)
      refine TW.region ?_
      refine TL.p Pu.mv ?_
      refine TL.p Pu.mv ?_
      refine TL.p (Pu.ea (q := k) arr3) ?_
      refine TL.p (Pu.ld ty_sc24 (hq := Cells.own (m := 1) (by repeat (first | exact Pick.hd | apply Pick.tl)) (by omega) (by rw [arrR_here]; exact SubL.take SubL.nil))) ?_
      refine TL.call (M := []) rfl (enters Tryz.func45 rfl rfl) (List.Perm.refl _) rfl (fun w hw => by
          exact cloneI_any (v := fun q => (toI (v i k) (l i k)).getD q 0) (by omega) (hIk.sat hw Apart.nil)) ?_
      rintro ⟨A4, c4⟩
      refine TL.p Pu.fn ?_
      refine TL.call rfl (enters Tryz.func58 rfl rfl) (List.Perm.refl _) rfl (fun w hw => by
          have hO : OwnR w A4 (l i k) c4 3 1 (iL (toI (v i k) (l i k))) := hw.holds (.own A4 (l i k) c4 3 1 (fun q => [.int .i64 ((toI (v i k) (l i k)).getD q 0)])) (List.mem_cons_self ..)
          have hge := hw.ge
          have hB : OldB w b1 [.slice Af nf cf] := OldB.of_blk (hw.holds (.blk b1 24 [.slice Af nf cf]) (by simp))
          have hdis := hw.apart (φ := .own A4 (l i k) c4 3 1 (fun q => [.int .i64 ((toI (v i k) (l i k)).getD q 0)])) (ψ := .blk b1 24 [.slice Af nf cf]) Pick.hd (by simp)
          refine deleteI_any (fs := []) (cs := [.pointer (some ⟨b1, 0, none⟩)]) (p := fun x => F.contains x) toI_len.symm (by omega) (enters Tryz.func59 rfl rfl) hO fun x w' hc => ?_
          have hfe : feet [Fact.own A4 (l i k) c4 3 1 (iL (toI (v i k) (l i k)))] = (Fact.own A4 (l i k) c4 3 1 (fun q => [.int .i64 ((toI (v i k) (l i k)).getD q 0)])).foot := by simp [feet]; rfl
          have hap : ∀ b ∈ feet [Fact.own A4 (l i k) c4 3 1 (iL (toI (v i k) (l i k)))], W.heap.size ≤ b := fun b hb9 => by
            rcases hge b (by rw [hfe] at hb9; exact List.mem_append_left _ hb9) with h | h
            · cases h
            · exact h
          exact take1_any x (by omega) (by omega) (hB.chg hc (fun h => by rw [hfe] at h; exact hdis b1 h (by simp [Fact.foot]))) ((hF.sat hw Apart.nil).chg0 hc (hF.apart hap))) ?_
      intro _
      refine TL.p (Pu.ea (q := k) arr3) ?_
      refine TL.se ty_sz24 ?_ (hput := by rw [arrR_here]; exact PutL.put PutL.nil)
      refine TL.nil ?_
      refine TQ.blkN ?_
      refine TQ.thenN (hY16 _ _ ?_)
      refine TW.region ?_
      refine TL.p Pu.ad ?_
      refine TL.p Pu.mv ?_
      refine TL.nil ?_
      refine TQ.thenN (hZ1 (k + 1) (updN X (3 * i + k) A4) (updN D (3 * i + k) c4) _ _ ?_ ?_ (by repeat (first | exact trivial | refine ⟨rfl, ?_⟩ | refine ⟨trivial, ?_⟩)) ?_)
      · exact (by omega)
      · exact (by first | omega | (simp only []; omega) | (simp; omega))
      · have eX : updN X (3 * i + k) A4 (3 * i + k) = A4 := if_pos rfl
        have eD : updN D (3 * i + k) c4 (3 * i + k) = c4 := if_pos rfl
        have eT : updN Tt (3 * i + k) (Tt (3 * i + k)) = Tt := by funext s; unfold updN; split <;> simp_all
        have hn := ownsT_next (X := X) (T := Tt) (D := D) (n := 3 * i + k) (A := A4) (c2 := c4) (L := Tt (3 * i + k)) (k2 := ((toI (v i k) (l i k)).filter fun x => !F.contains x).length) (r := iL ((toI (v i k) (l i k)).filter fun x => !F.contains x)) (by rw [hTk]) (fun q _ => by rw [hTk])
        rw [eT] at hn
        refine KSub.own (by repeat (first | exact Pick.hd | apply Pick.tl)) (fun j hj => ?_) (KSub.cons (by repeat (first | exact Pick.hd | apply Pick.tl)) (KSub.own (by repeat (first | exact Pick.hd | apply Pick.tl)) (fun q hq => ?_) (KSub.cons (by repeat (first | exact Pick.hd | apply Pick.tl)) hn)))
        · unfold updR
          by_cases hjk : j = k
          · subst hjk
            rw [if_pos rfl]
            unfold arrR
            rw [if_pos (by omega), eX, eD, hTk]
          · rw [if_neg hjk]
            unfold arrR updN
            by_cases h9 : j < k
            · rw [if_pos h9, if_pos (by omega), if_neg (by omega), if_neg (by omega)]
            · rw [if_neg h9, if_neg (by omega)]
        · exact tieX_congr fun s hs => ⟨(if_neg (by omega)).symm, rfl, (if_neg (by omega)).symm⟩
    · try simp only [decide_eq_true_eq, decide_eq_false_iff_not, Bool.not_eq_true', Bool.not_eq_false', Bool.and_eq_true, Bool.or_eq_true, Bool.and_eq_false_iff, Bool.or_eq_false_iff, Int.not_lt, Int.not_le] at hc1
      obtain rfl : k = 3 := by omega
      have hcn : tot (fun j => (Tt (3 * i + j)).length) 3 = cnt3 Tt i := by rw [tot3]; rfl
      have hcl : cnt3 Tt i ≤ 1000 := by
        have h1 := hTl (3 * i)
        have h2 := hTl (3 * i + 1)
        have h3 := hTl (3 * i + 2)
        have h4 := hc3 i
        unfold cnt3 at *
        omega
      refine TW.exit ?_
      refine TQ.thenX ?_
      refine TQ.thenX ?_
      refine TQ.blkX ?_
      refine TQ.thenN (hY12 _ _ ?_)
      refine TW.seq fun Y18 hY18 => ?_
      refine TW.region ?_
      refine TL.subK (KSub.own (s := fun j => [.slice (X (3 * i + j)) (Tt (3 * i + j)).length (D (3 * i + j))]) Pick.hd (fun j hj => if_pos hj) (KSub.refl _)) ?_
      refine TL.p (Pu.ea (q := 0) arr3) ?_
      refine TL.p (Pu.ld ty_sc24) ?_
      refine TL.p (Pu.ea (q := 1) arr3) ?_
      refine TL.p (Pu.ld ty_sc24) ?_
      refine TL.p (Pu.ea (q := 2) arr3) ?_
      refine TL.p (Pu.ld ty_sc24) ?_
      refine TL.p Pu.bd ?_
      refine TL.m (Mk.al ty_zr34) ?_
      intro b4
      first | refine TL.st ty_sz34 ?_ | refine TL.se ty_sz34 ?_
      refine TL.nil ?_
      refine TQ.thenN (hY18 _ _ ?_)
      refine TW.seq fun Y19 hY19 => ?_
      refine TW.dw 10 ?_
      refine RK.tk Pu.mv ?_
      refine RK.tk (Pu.lds ty_ag34) ?_
      refine RK.keep ?_
      refine RK.keep ?_
      refine RK.tk (Pu.lds ty_ag34) ?_
      refine RK.keep ?_
      refine RK.keep ?_
      refine RK.keep ?_
      refine RK.keep ?_
      refine RK.keep ?_
      refine RK.ch [false, true, false, true, true, true, true] ?_ trivial
      refine WK.call rfl (enters Tryz.func44 rfl rfl) rfl (fun w hw => by
          exact all_any (a := a i) (l := l i) (c := c i) (v := v i) (by omega) (fun j hj => (hI i him j hj).sat hw Apart.nil)) ?_
      rintro ⟨Ab, cb⟩
      refine WK.p (Pu.ln Tryz.underlying24) ?_
      refine WK.call rfl (enters Tryz.func44 rfl rfl) rfl (fun w hw => by
          exact all_any (a := fun j => X (3 * i + j)) (l := fun j => (Tt (3 * i + j)).length) (c := fun j => D (3 * i + j)) (v := fun j q => (Tt (3 * i + j)).getD q 0) (by rw [hcn]; omega) (fun j hj => OwnR.rdr (hw.holds (.own (X (3 * i + j)) (Tt (3 * i + j)).length (D (3 * i + j)) 3 1 (iL (Tt (3 * i + j)))) (by have hm9 := ownsT_mem (X := X) (T := Tt) (D := D) (n := 3 * i + 3) (show 3 * i + j < 3 * i + 3 by omega); simp only [List.mem_cons, List.mem_append]; simp [hm9])))) ?_
      rintro ⟨Ac, cc⟩
      refine WK.p (Pu.ln Tryz.underlying24) ?_
      refine WK.p (Pu.sb (h := by rw [hcn]; omega)) ?_
      refine WK.p (Pu.sb (h := by rw [hcn]; omega)) ?_
      refine WK.p Pu.as ?_
      refine WK.n ?_
      refine TL.nil ?_
      refine TQ.thenN (hY19 _ _ ?_)
      refine TW.region ?_
      refine TL.p Pu.mv ?_
      refine TL.p (Pu.lds ty_ag34) ?_
      refine TL.m Mk.bl ?_
      intro b5
      first | refine TL.a0 ty_et23 ?_ | refine TL.ap ty_et23 ?_
      intro A6 c6
      refine TL.p Pu.as ?_
      refine TL.nil ?_
      refine TQ.blkN ?_
      refine TQ.thenN (hY9 _ _ ?_)
      refine TW.region ?_
      refine TL.p Pu.ad ?_
      refine TL.p Pu.mv ?_
      refine TL.nil ?_
      refine TQ.thenN (hZ0 (i + 1) _ _ _ X D _ _ ?_ ?_ (by repeat (first | exact trivial | refine ⟨rfl, ?_⟩ | refine ⟨trivial, ?_⟩)) ?_)
      · exact ⟨by omega, by rw [hz, hcn]; simp only [takeZ]; rw [hc3, ← hTt]⟩
      · exact (by first | omega | (simp only []; omega) | (simp; omega))
      · refine KSub.own Pick.hd (fun q hq => ?_) (KSub.cons (by repeat (first | exact Pick.hd | apply Pick.tl)) ?_)
        · unfold catR
          by_cases h9 : q < i
          · rw [if_pos h9]
          · obtain rfl : q = i := by omega
            rw [if_neg h9]
            rfl
        · repeat (first | exact KSub.refl _ | refine KSub.drop ?_)
  · try simp only [decide_eq_true_eq, decide_eq_false_iff_not, Bool.not_eq_true', Bool.not_eq_false', Bool.and_eq_true, Bool.or_eq_true, Bool.and_eq_false_iff, Bool.or_eq_false_iff, Int.not_lt, Int.not_le] at hc0
    obtain rfl : m = i := by omega
    refine TW.exit ?_
    refine TQ.thenX ?_
    refine TQ.thenX ?_
    refine TQ.blkX ?_
    refine TQ.thenN (hY5 _ _ ?_)
    refine TW.seq fun Y20 hY20 => ?_
    refine TW.region ?_
    refine TL.p Pu.mv ?_
    refine TL.p Pu.eq ?_
    refine TL.ct rfl (enters Tryz.func40 rfl rfl) (fun w hw => by
        exact need_any _ _ _ (by decide)) (fun hp2 => ?_) (fun hp2 => ?_)
    rotate_left
    · refine TQ.thenP ?_
      refine TQ.pan rfl ?_
      exact fun w hw => .inr ⟨by first | (rw [hC2 hp2 hz]; decide) | (rw [hC1 hp1]; decide), by first | (rw [hC2 hp2 hz, (need_no hp2).2]) | (rw [hC1 hp1, (need_no hp1).2]), hw.sub KSub.nil⟩
    refine TL.nil ?_
    refine TQ.thenN (hY20 _ _ ?_)
    refine TW.seq fun Y21 hY21 => ?_
    refine TW.region ?_
    refine TL.p Pu.mv ?_
    refine TL.p Pu.as ?_
    refine TL.nil ?_
    refine TQ.thenN (hY21 _ _ ?_)
    refine TW.ret ?_
    refine TQ.ret Tryz.results31 rfl ((.tmp rfl .nil)) ?_
    exact fun w hw => .inl ⟨by
      unfold takeC
      rw [show F.length = nf by omega, need_yes (by decide) hp1, ← hz, need_yes (by decide) hp2]
      rfl, ((An, cn), X, D), rfl, hw.sub (by unfold tiesX; exact KSub.cons Pick.hd (KSub.drop (KSub.refl _)))⟩
end Go.Proofs.YtljhdcclajikiaaGreatDoor
namespace Go.Proofs.YtljhdcclajikiaaGreatDoor
set_option linter.all false
set_option linter.unusedVariables false
set_option linter.unusedSimpArgs false
open Go.RowKit
theorem indexTied_any {g : FuncId} {fs cs : List Value} {A : Option Addr} {n cp : Nat} {v : Nat → Nat → Value} {p : Nat → Bool} {M : Nat → List Fact} {w : World} (hen : Enters Tryz.prog g) (hn : n ≤ 9223372036854775807)
    (hR : RdR w 3 A n (fun k => [v k 0, v k 1, v k 2])) (hA : 0 < n → Apart (feet (M 0)) A) (hM : Sat (feet (M 0)) w (M 0) w) (hfe : ∀ k, feet (M k) = feet (M 0))
    (hg : ∀ k, k < n → (∀ j, j < k → p j = false) → ∀ w', Sat (feet (M 0)) w (M k) w' → CallsK Tryz.prog g (fs ++ [Value.agg #[v k 0, v k 1, v k 2]] ++ cs).toArray (M k) w' Unit (fun _ => .bool (p k)) (fun _ => M (k + 1))) :
    CallsK Tryz.prog 113 #[.slice A n cp, .func (.func g) fs.toArray cs.toArray] (M 0) w (Fst p n) (fun x => .int .i64 (if x.1 < n then (x.1 : Int) else -1)) (fun x => M (aft n x.1)) := by
  refine K_enter (S := feet (M 0)) (K := M 0) Tryz.func113 rfl Tryz.ntmps113 rfl hM ?_
  refine TW.seq fun Y1 hY1 => ?_
  refine TW.region ?_
  refine TL.p Pu.as ?_
  refine TL.nil ?_
  refine TQ.thenN (hY1 _ _ ?_)
  refine TW.seq fun Y2 hY2 => ?_
  refine TW.seq fun Y3 hY3 => ?_
  refine TW.region ?_
  refine TL.p Pu.mv ?_
  refine TL.p (Pu.ln Tryz.underlying23) ?_
  refine TL.p Pu.mv ?_
  refine TL.nil ?_
  refine TQ.thenN (hY3 _ _ ?_)
  refine TW.block ?_
  refine TW.loop1 (fun (k : Nat) => [(8, .int .i64 (k : Int)), (7, .int .i64 (n : Int)), (0, .slice A n cp), (1, .func (.func g) fs.toArray cs.toArray)]) (fun k => M k) (fun k => k ≤ n ∧ ∀ j, j < k → p j = false) (fun k => n - k) 0 (by repeat (first | exact trivial | refine ⟨rfl, ?_⟩ | refine ⟨trivial, ?_⟩)) ?_ ?_ ?_
  · exact KSub.refl _
  · exact ⟨by omega, fun j hj => by omega⟩
  rintro k ⟨hk, hall⟩ Z0 hZ0
  refine TW.seq fun Y4 hY4 => ?_
  refine TW.region ?_
  refine TL.p Pu.lt ?_
  refine TL.nil ?_
  refine TQ.thenN (hY4 _ _ ?_)
  refine TW.seq fun Y5 hY5 => ?_
  refine TW.cond rfl (fun hc0 => ?_) (fun hc0 => ?_)
  · try simp only [decide_eq_true_eq, decide_eq_false_iff_not, Bool.not_eq_true', Bool.not_eq_false', Bool.and_eq_true, Bool.or_eq_true, Bool.and_eq_false_iff, Bool.or_eq_false_iff, Int.not_lt, Int.not_le] at hc0
    have hkn : k < n := by omega
    have hA := hA (by omega)
    refine TW.skip ?_
    refine TQ.thenN (hY5 _ _ ?_)
    refine TW.seq fun Y6 hY6 => ?_
    refine TW.block ?_
    refine TW.seq fun Y7 hY7 => ?_
    refine TW.region ?_
    refine TL.p Pu.mv ?_
    refine TL.p Pu.as ?_
    refine TL.nil ?_
    refine TQ.thenN (hY7 _ _ ?_)
    refine TW.seq fun Y8 hY8 => ?_
    refine TW.region ?_
    refine TL.p Pu.mv ?_
    refine TL.p Pu.mv ?_
    refine TL.p Pu.mv ?_
    refine TL.p (Pu.el ty_et23) ?_
    refine TL.p (Pu.lds ty_ag34) ?_
    refine TL.cvk rfl rfl hen (by rw [List.append_nil]) (fun w hw => by
        exact hg k (by omega) hall w hw) ?_
    intro _
    refine TL.nil ?_
    refine TQ.thenN (hY8 _ _ ?_)
    refine TW.cond rfl (fun hc1 => ?_) (fun hc1 => ?_)
    · try simp only [decide_eq_true_eq, decide_eq_false_iff_not, Bool.not_eq_true', Bool.not_eq_false', Bool.and_eq_true, Bool.or_eq_true, Bool.and_eq_false_iff, Bool.or_eq_false_iff, Int.not_lt, Int.not_le] at hc1
      refine TW.seq fun Y9 hY9 => ?_
      refine TW.region ?_
      refine TL.p Pu.mv ?_
      refine TL.p Pu.as ?_
      refine TL.nil ?_
      refine TQ.thenN (hY9 _ _ ?_)
      refine TW.ret ?_
      refine TQ.blkR ?_
      refine TQ.thenR ?_
      refine TQ.thenR ?_
      refine TQ.blkR ?_
      refine TQ.thenR ?_
      refine TQ.ret Tryz.results113 rfl ((.tmp rfl .nil)) ?_
      exact fun w hw => ⟨⟨k, by omega, hall, fun _ => hc1⟩, by simp [hkn]; rfl, by simpa [aft, hkn] using hw⟩
    · try simp only [decide_eq_true_eq, decide_eq_false_iff_not, Bool.not_eq_true', Bool.not_eq_false', Bool.and_eq_true, Bool.or_eq_true, Bool.and_eq_false_iff, Bool.or_eq_false_iff, Int.not_lt, Int.not_le] at hc1
      refine TW.skip ?_
      refine TQ.blkN ?_
      refine TQ.thenN (hY6 _ _ ?_)
      refine TW.region ?_
      refine TL.p Pu.ad ?_
      refine TL.p Pu.mv ?_
      refine TL.nil ?_
      refine TQ.thenN (hZ0 (k + 1) _ _ ?_ ?_ (by repeat (first | exact trivial | refine ⟨rfl, ?_⟩ | refine ⟨trivial, ?_⟩)) ?_)
      · refine ⟨by omega, fun j hj => ?_⟩
        by_cases h : j = k
        · subst h; exact hc1
        · exact hall j (by omega)
      · exact (by first | omega | (simp only []; omega) | (simp; omega))
      · rw [List.append_nil]; exact KSub.refl _
  · try simp only [decide_eq_true_eq, decide_eq_false_iff_not, Bool.not_eq_true', Bool.not_eq_false', Bool.and_eq_true, Bool.or_eq_true, Bool.and_eq_false_iff, Bool.or_eq_false_iff, Int.not_lt, Int.not_le] at hc0
    have hkn : k = n := by omega
    refine TW.exit ?_
    refine TQ.thenX ?_
    refine TQ.thenX ?_
    refine TQ.blkX ?_
    refine TQ.thenN (hY2 _ _ ?_)
    refine TW.seq fun Y10 hY10 => ?_
    refine TW.region ?_
    refine TL.p Pu.as ?_
    refine TL.nil ?_
    refine TQ.thenN (hY10 _ _ ?_)
    refine TW.ret ?_
    refine TQ.ret Tryz.results113 rfl ((.tmp rfl .nil)) ?_
    exact fun w hw => ⟨⟨k, by omega, hall, fun h => by omega⟩, by simp [hkn]; rfl, by simpa [aft, hkn] using hw⟩
theorem hasTied_st {g : FuncId} {fs cs : List Value} {A : Option Addr} {n cp : Nat} {v : Nat → Nat → Value} {p : Nat → Bool} {M : Nat → List Fact} {w : World} (hen : Enters Tryz.prog g) (hn : n ≤ 9223372036854775807)
    (hR : RdR w 3 A n (fun k => [v k 0, v k 1, v k 2])) (hA : 0 < n → Apart (feet (M 0)) A) (hM : Sat (feet (M 0)) w (M 0) w) (hfe : ∀ k, feet (M k) = feet (M 0))
    (hg : ∀ k, k < n → (∀ j, j < k → p j = false) → ∀ w', Sat (feet (M 0)) w (M k) w' → CallsK Tryz.prog g (fs ++ [Value.agg #[v k 0, v k 1, v k 2]] ++ cs).toArray (M k) w' Unit (fun _ => .bool (p k)) (fun _ => M (k + 1))) :
    CallsK Tryz.prog 90 #[.slice A n cp, .func (.func g) fs.toArray cs.toArray] (M 0) w (Fst p n) (fun x => .bool (decide (x.1 < n))) (fun x => M (aft n x.1)) := by
  refine K_enter (S := feet (M 0)) (K := M 0) Tryz.func90 rfl Tryz.ntmps90 rfl hM ?_
  refine TW.seq fun Y1 hY1 => ?_
  refine TW.region ?_
  refine TL.p Pu.as ?_
  refine TL.nil ?_
  refine TQ.thenN (hY1 _ _ ?_)
  refine TW.seq fun Y2 hY2 => ?_
  refine TW.region ?_
  refine TL.p Pu.mv ?_
  refine TL.p Pu.mv ?_
  refine TL.call rfl (enters Tryz.func113 rfl rfl) (by rw [List.append_nil]) rfl (fun w hw => by
      exact indexTied_any hen hn (hR.sat0 hw hA) hA hw.self hfe (fun k hk hp w' hw' => hg k hk hp w' (hw'.from hw.chg fun _ hb => .inl hb))) ?_
  intro x
  refine TL.p Pu.ge ?_
  refine TL.p Pu.as ?_
  refine TL.nil ?_
  refine TQ.thenN (hY2 _ _ ?_)
  refine TW.ret ?_
  refine TQ.ret Tryz.results90 rfl ((.tmp rfl .nil)) ?_
  exact fun w hw => ⟨x, by by_cases h : x.1 < n <;> simp [retV, h], by simpa using hw⟩
theorem hasTied_any {g : FuncId} {fs cs : List Value} {A : Option Addr} {n cp : Nat} {v : Nat → Nat → Value} {p : Nat → Bool} {w : World} (hen : Enters Tryz.prog g) (hn : n ≤ 9223372036854775807)
    (hR : RdR w 3 A n (fun k => [v k 0, v k 1, v k 2])) (hg : ∀ k, k < n → ∀ w', Below w.heap.size w w' → Calls Tryz.prog g (fs ++ [Value.agg #[v k 0, v k 1, v k 2]] ++ cs).toArray w' (Ret w' (.bool (p k)))) :
    Calls Tryz.prog 90 #[.slice A n cp, .func (.func g) fs.toArray cs.toArray] w (Ret w (.bool (anyB n p))) :=
  CallsK.retOf (hasTied_st (M := fun _ => []) hen hn hR (fun _ => Apart.nil) (Sat.start w) (fun _ => rfl) fun k hk _ w' hw' => CallsK.ret (hg k hk w' (Chg.ext hw'.chg))) fun x => by rw [x.any]; rfl
theorem everyTied1_any {g : FuncId} {fs cs : List Value} {b : Nat} {u : Nat → Value} {p : Bool} {w : World} (hen : Enters Tryz.prog g) (hb : OldB w b [.func (.func g) fs.toArray cs.toArray])
    (hg : ∀ w', Below w.heap.size w w' → Calls Tryz.prog g (fs ++ [Value.agg #[u 0, u 1, u 2]] ++ cs).toArray w' (Ret w' (.bool p))) :
    Calls Tryz.prog 91 #[Value.agg #[u 0, u 1, u 2], .pointer (some ⟨b, 0, none⟩)] w (Ret w (.bool (!p))) := by
  refine K_enter (S := []) (K := []) Tryz.func91 rfl Tryz.ntmps91 rfl (Sat.start _) ?_
  refine TW.seq fun Y1 hY1 => ?_
  refine TW.region ?_
  refine TL.m Mk.bx ?_
  intro b1
  refine TL.p Pu.as ?_
  refine TL.nil ?_
  refine TQ.thenN (hY1 _ _ ?_)
  refine TW.seq fun Y2 hY2 => ?_
  refine TW.region ?_
  refine TL.p (by first | exact (Pu.ld ty_sc115) | exact (Pu.ldo ty_sc115)) ?_
  refine TL.p (by first | exact (Pu.lds ty_ag34) | exact (Pu.ldso ty_ag34)) ?_
  refine TL.cv rfl rfl hen (fun w hw => by
      exact hg _ (Chg.ext hw.chg)) ?_
  refine TL.p Pu.no ?_
  refine TL.p Pu.as ?_
  refine TL.nil ?_
  refine TQ.thenN (hY2 _ _ ?_)
  refine TW.ret ?_
  refine TQ.ret Tryz.results91 rfl ((.tmp rfl .nil)) ?_
  exact fun w hw => Ret.of hw
theorem everyTied_any {g : FuncId} {fs cs : List Value} {A : Option Addr} {n cp : Nat} {v : Nat → Nat → Value} {p : Nat → Bool} {w : World} (hen : Enters Tryz.prog g) (hn : n ≤ 9223372036854775807)
    (hR : RdR w 3 A n (fun k => [v k 0, v k 1, v k 2])) (hg : ∀ k, k < n → ∀ w', Below w.heap.size w w' → Calls Tryz.prog g (fs ++ [Value.agg #[v k 0, v k 1, v k 2]] ++ cs).toArray w' (Ret w' (.bool (p k)))) :
    Calls Tryz.prog 61 #[.slice A n cp, .func (.func g) fs.toArray cs.toArray] w (Ret w (.bool (allB n p))) := by
  refine K_enter (S := []) (K := []) Tryz.func61 rfl Tryz.ntmps61 rfl (Sat.start _) ?_
  refine TW.seq fun Y1 hY1 => ?_
  refine TW.region ?_
  refine TL.m Mk.bx ?_
  intro b1
  refine TL.p Pu.as ?_
  refine TL.nil ?_
  refine TQ.thenN (hY1 _ _ ?_)
  refine TW.seq fun Y2 hY2 => ?_
  refine TW.region ?_
  refine TL.p Pu.mv ?_
  refine TL.p Pu.fn ?_
  refine TL.cr rfl (enters Tryz.func90 rfl rfl) (fun w hw => by
      have h1 := OldB.of_blk (hw.holds (.blk b1 115 [.func (.func g) fs.toArray cs.toArray]) (by simp))
      exact hasTied_any (fs := []) (v := v) (p := fun k => !p k) (enters Tryz.func91 rfl rfl) hn (hR.sat hw Apart.nil) fun k hk w' hb => everyTied1_any hen (h1.ext hb) fun w'' hb' => hg k hk w'' (((Chg.ext hw.chg).trans (hb.mono (Chg.ext hw.chg).size)).trans (hb'.mono (Nat.le_trans (Chg.ext hw.chg).size hb.size)))) ?_
  refine TL.p Pu.no ?_
  refine TL.p Pu.as ?_
  refine TL.nil ?_
  refine TQ.thenN (hY2 _ _ ?_)
  refine TW.ret ?_
  refine TQ.ret Tryz.results61 rfl ((.tmp rfl .nil)) ?_
  exact fun w hw => ⟨ret_bool (by rw [not_anyB]; simp), Chg.ext hw.chg⟩
def flatT (T : Nat → List Int) : Nat → List Int
  | 0 => []
  | s + 1 => flatT T s ++ T s
def putL (x : Nat → Int) : List Value := [.int .i64 (x 0), .int .i64 (x 1), .int .u8 (x 2)]
def putS (x : Nat → Int) : Nat := 3 * (x 1).toNat + (x 2).toNat
def putT (T : Nat → List Int) (P : Nat → Nat → Int) : Nat → Nat → List Int
  | 0 => T
  | k + 1 => updN (putT T P k) (putS (P k)) (srt (putT T P k (putS (P k)) ++ [P k 0]))
def usedP (m : Nat) (T : Nat → List Int) (P : Nat → Nat → Int) (k : Nat) : List Int := flatT T (3 * m) ++ toI (fun q => P q 0) k
def okPut (n m : Nat) (T : Nat → List Int) (P : Nat → Nat → Int) (k : Nat) : Bool := inB5 0 ((n : Int) - 1) (P k 0) && !decide (P k 0 ∈ usedP m T P k) && inB5 0 ((m : Int) - 1) (P k 1) && decide (P k 2 ≤ 2)
def putC (n m : Nat) (T : Nat → List Int) (P : Nat → Nat → Int) (np : Nat) : Int := if (allB np (okPut n m T P) && allB m fun i => decide (cnt3 (putT T P np) i ≤ 10)) = true then 0 else 54
theorem putT_len {T : Nat → List Int} {P : Nat → Nat → Int} {s : Nat} : ∀ k, (putT T P k s).length ≤ (T s).length + k
  | 0 => Nat.le_refl _
  | k + 1 => by
    have h := putT_len (T := T) (P := P) (s := s) k
    simp only [putT, updN]
    split
    · rename_i e
      rw [srt_len, List.length_append, ← e]
      simp only [List.length_cons, List.length_nil]
      omega
    · omega
theorem mark_mem (xs : List Int) (x : Int) : (mlook x (markAll xs)).getD (.bool false) = .bool (decide (x ∈ xs)) := by
  have key : ∀ (ys : List Int) (m : List (Int × Value)), (∀ y u, mlook y m = some u → u = .bool true) → ∀ y u, mlook y (ys.foldl (fun m x => mput x (.bool true) m) m) = some u → u = .bool true := by
    intro ys
    induction ys with
    | nil => intro m h; exact h
    | cons z zs ih =>
      intro m h
      rw [List.foldl_cons]
      refine ih _ fun y u hy => ?_
      rw [mlook_mput] at hy
      split at hy
      · injection hy with hy; exact hy.symm
      · exact h y u hy
  have h1 := mark_look x xs []
  have h2 := key xs [] (fun y u h => by simp [mlook] at h) x
  change (mlook x (markAll xs)).isSome = _ at h1
  change ∀ u, mlook x (markAll xs) = some u → _ at h2
  simp only [mlook, Option.isSome_none, Bool.or_false] at h1
  cases h : mlook x (markAll xs) with
  | none => rw [h] at h1; simp only [Option.isSome_none] at h1; rw [← h1]; rfl
  | some u => rw [h] at h1; simp only [Option.isSome_some] at h1; rw [← h1, h2 u h]; rfl
theorem all3_any {w : World} {A0 A1 A2 : Option Addr} {n0 n1 n2 c0 c1 c2 : Nat} {L0 L1 L2 : List Int} (h0 : n0 = L0.length) (h1 : n1 = L1.length) (h2 : n2 = L2.length) (ht : n0 + n1 + n2 ≤ 1000000) (hR0 : RdR w 1 A0 n0 (iL L0)) (hR1 : RdR w 1 A1 n1 (iL L1)) (hR2 : RdR w 1 A2 n2 (iL L2)) :
    CallsK Tryz.prog 44 #[.agg #[.slice A0 n0 c0, .slice A1 n1 c1, .slice A2 n2 c2]] [] w (Option Addr × Nat) (fun x => .slice x.1 (L0 ++ L1 ++ L2).length x.2) (fun x => [.own x.1 (L0 ++ L1 ++ L2).length x.2 3 1 (iL (L0 ++ L1 ++ L2))]) := by
  subst h0 h1 h2
  have e : tot (fun j => if j = 0 then L0.length else if j = 1 then L1.length else L2.length) 3 = (L0 ++ L1 ++ L2).length := by simp [tot]; omega
  refine (all_any (a := fun j => if j = 0 then A0 else if j = 1 then A1 else A2) (l := fun j => if j = 0 then L0.length else if j = 1 then L1.length else L2.length) (c := fun j => if j = 0 then c0 else if j = 1 then c1 else c2) (v := fun j => if j = 0 then fun k => L0.getD k 0 else if j = 1 then fun k => L1.getD k 0 else fun k => L2.getD k 0) (by rw [e, List.length_append, List.length_append]; omega)
    (fun j hj => ?_)).mono ?_
  · have : j = 0 ∨ j = 1 ∨ j = 2 := by omega
    rcases this with rfl | rfl | rfl
    · exact hR0
    · exact hR1
    · exact hR2
  rintro e' w' ⟨x, rfl, hs⟩
  refine ⟨x, by rw [e], ?_⟩
  rw [e] at hs
  refine hs.sub (KSub.own Pick.hd (fun i hi => ?_) KSub.nil)
  rw [cat3, ← iL_cat rfl, List.length_append]
  simp only [catR]
  have h10 : ¬ (1 : Nat) = 0 := by decide
  have h20 : ¬ (2 : Nat) = 0 := by decide
  have h21 : ¬ (2 : Nat) = 1 := by decide
  simp only [if_true, if_neg h10, if_neg h20, if_neg h21]
  by_cases h : i < L0.length + L1.length
  · rw [if_pos h, if_pos h, ← iL_cat rfl]
    simp only [catR]
    by_cases h9 : i < L0.length
    · rw [if_pos h9, if_pos h9]; rfl
    · rw [if_neg h9, if_neg h9]; rfl
  · rw [if_neg h, if_neg h]; rfl
theorem put1_any {w : World} {A0 A1 A2 : Option Addr} {n0 n1 n2 c0 c1 c2 : Nat} {L0 L1 L2 : List Int} (h0 : n0 = L0.length) (h1 : n1 = L1.length) (h2 : n2 = L2.length) (ht : n0 + n1 + n2 ≤ 1000000) (hR0 : RdR w 1 A0 n0 (iL L0)) (hR1 : RdR w 1 A1 n1 (iL L1)) (hR2 : RdR w 1 A2 n2 (iL L2)) :
    Calls Tryz.prog 62 #[.agg #[.slice A0 n0 c0, .slice A1 n1 c1, .slice A2 n2 c2]] w (Ret w (.bool (decide (n0 + n1 + n2 ≤ 10)))) := by
  refine K_enter (S := []) (K := []) Tryz.func62 rfl Tryz.ntmps62 rfl (Sat.start _) ?_
  refine TW.seq fun Y1 hY1 => ?_
  refine TW.region ?_
  refine TL.m Mk.bx ?_
  intro b1
  refine TL.p Pu.as ?_
  refine TL.nil ?_
  refine TQ.thenN (hY1 _ _ ?_)
  refine TW.seq fun Y2 hY2 => ?_
  refine TW.region ?_
  refine TL.p (Pu.lds ty_ag34) ?_
  refine TL.call (M := []) rfl (enters Tryz.func44 rfl rfl) (List.Perm.refl _) rfl (fun w hw => by
      exact all3_any h0 h1 h2 ht (hR0.sat hw Apart.nil) (hR1.sat hw Apart.nil) (hR2.sat hw Apart.nil)) ?_
  rintro ⟨Ac, cc⟩
  refine TL.p (Pu.ln Tryz.underlying24) ?_
  refine TL.p Pu.le ?_
  refine TL.p Pu.as ?_
  refine TL.nil ?_
  refine TQ.thenN (hY2 _ _ ?_)
  refine TW.ret ?_
  refine TQ.ret Tryz.results62 rfl ((.tmp rfl .nil)) ?_
  exact fun w hw => ⟨ret_bool (by
    have e : (L0 ++ L1 ++ L2).length = n0 + n1 + n2 := by rw [List.length_append, List.length_append]; omega
    rw [e]
    rw [decide_eq_decide]
    omega), Chg.ext hw.chg⟩
theorem index_ptr3 {An : Option Addr} (q p : Nat) (hp : p < 3) (w : World) : (Instr.index 113 (.agg #[.pointer (elA An q 3 0), .pointer (elA An q 3 1), .pointer (elA An q 3 2)]) (.int .u8 (p : Int))).run Tryz.prog w = .ok (.pointer (elA An q 3 p)) w := by
  have : p = 0 ∨ p = 1 ∨ p = 2 := by omega
  rcases this with rfl | rfl | rfl <;> simp [Instr.index, asIntOf, run_underlying Tryz.underlying113, part, Tryz.isAgg112, Tryz.sizeOf112]
theorem subl_tie {X : Nat → Option Addr} {T : Nat → List Int} {D : Nat → Nat} {q p : Nat} (hp : p < 3) : SubL (tieX X T D q) p 1 [.slice (X (3 * q + p)) (T (3 * q + p)).length (D (3 * q + p))] := by
  have : p = 0 ∨ p = 1 ∨ p = 2 := by omega
  rcases this with rfl | rfl | rfl
  · exact SubL.take SubL.nil
  · exact SubL.drop (SubL.take SubL.nil)
  · exact SubL.drop (SubL.drop (SubL.take SubL.nil))
theorem subl_tie0 {X : Nat → Option Addr} {T : Nat → List Int} {D : Nat → Nat} {q p : Nat} (hp : p < 3) : SubL (tieX X T D q) p 0 [] := by
  have : p = 0 ∨ p = 1 ∨ p = 2 := by omega
  rcases this with rfl | rfl | rfl
  · exact SubL.nil
  · exact SubL.drop SubL.nil
  · exact SubL.drop (SubL.drop SubL.nil)
theorem putl_tie {X : Nat → Option Addr} {T : Nat → List Int} {D : Nat → Nat} {q p : Nat} {v : Value} (hp : p < 3) : PutL (tieX X T D q) p [v] ((tieX X T D q).set p v) := by
  have : p = 0 ∨ p = 1 ∨ p = 2 := by omega
  rcases this with rfl | rfl | rfl
  · exact PutL.put PutL.nil
  · exact PutL.pass (PutL.put PutL.nil)
  · exact PutL.pass (PutL.pass (PutL.put PutL.nil))
theorem tieX_upd {X : Nat → Option Addr} {T : Nat → List Int} {D : Nat → Nat} {q p n2 c2 : Nat} {A : Option Addr} {L : List Int} (hp : p < 3) (hn : n2 = L.length) (i : Nat) : updR (tieX X T D) q ((tieX X T D q).set p (.slice A n2 c2)) i = tieX (updN X (3 * q + p) A) (updN T (3 * q + p) L) (updN D (3 * q + p) c2) i := by
  subst hn
  unfold updR
  by_cases hi : i = q
  · subst hi
    rw [if_pos rfl]
    have : p = 0 ∨ p = 1 ∨ p = 2 := by omega
    rcases this with rfl | rfl | rfl <;> simp [tieX, updN]
  · rw [if_neg hi]
    unfold tieX updN
    rw [if_neg (by omega), if_neg (by omega), if_neg (by omega), if_neg (by omega), if_neg (by omega), if_neg (by omega), if_neg (by omega), if_neg (by omega), if_neg (by omega)]
theorem tieX_len {X : Nat → Option Addr} {T T2 : Nat → List Int} {D : Nat → Nat} (h : ∀ s, (T s).length = (T2 s).length) (i : Nat) : tieX X T D i = tieX X T2 D i := by
  unfold tieX
  rw [h, h, h]
end Go.Proofs.YtljhdcclajikiaaGreatDoor
namespace Go.Proofs.YtljhdcclajikiaaGreatDoor
set_option linter.all false
set_option linter.unusedVariables false
set_option linter.unusedSimpArgs false
open Go.RowKit
set_option maxRecDepth 100000 in
set_option maxHeartbeats 8000000 in
theorem put_any {W : World} {An AP : Option Addr} {cn m nP cP n : Nat} {X0 : Nat → Option Addr} {D0 : Nat → Nat} {T : Nat → List Int} {P : Nat → Nat → Int} (hm : m ≤ 1000) (hnP : nP ≤ 1000) (hn : n ≤ 1000000000) (hT : ∀ s, s < 3 * m → (T s).length ≤ 1000) (hP2 : ∀ k, k < nP → 0 ≤ P k 2)
    (hPR : RdR W 3 AP nP (fun k => putL (P k))) (hA : 0 < nP → Apart (feet (tiesX m T ((An, cn), X0, D0))) AP) (hM : Sat (feet (tiesX m T ((An, cn), X0, D0))) W (tiesX m T ((An, cn), X0, D0)) W) :
    TryK Tryz.prog 32 #[.slice An m cn, .slice AP nP cP, .int .i64 (n : Int)] (tiesX m T ((An, cn), X0, D0)) ((Nat → Option Addr) × (Nat → Nat)) (fun _ => .tuple #[]) (fun y => tiesX m (putT T P nP) ((An, cn), y.1, y.2)) errs (putC n m T P nP) W := by
  unfold TryK
  generalize hS : feet (tiesX m T ((An, cn), X0, D0)) = S at *
  have hTk : ∀ k s, s < 3 * m → (putT T P k s).length ≤ 1000 + k := fun k s hs => by have := putT_len (T := T) (P := P) (s := s) k; have := hT s hs; omega
  have hC1 : ∀ k, k < nP → okPut n m T P k = false → putC n m T P nP = 54 := fun k hk h => by
    unfold putC
    have : allB nP (okPut n m T P) = false := by
      cases h2 : allB nP (okPut n m T P) with
      | false => rfl
      | true => rw [allB_iff.1 h2 k hk] at h; cases h
    rw [this]
    rfl
  have hC2 : (allB m fun i => decide (cnt3 (putT T P nP) i ≤ 10)) = false → putC n m T P nP = 54 := fun h => by
    unfold putC
    rw [h, Bool.and_false]
    rfl
  refine K_enter (S := S) (K := .own An m cn 34 3 (tieX X0 T D0) :: ownsT X0 T D0 (3 * m)) Tryz.func32 rfl Tryz.ntmps32 rfl hM ?_
  refine TW.seq fun Y1 hY1 => ?_
  refine TW.region ?_
  refine TL.mm (kk := .i64) ?_
  intro b1
  refine TL.p Pu.as ?_
  refine TL.nil ?_
  refine TQ.thenN (hY1 _ _ ?_)
  refine TW.seq fun Y2 hY2 => ?_
  refine TW.seq fun Y3 hY3 => ?_
  refine TW.region ?_
  refine TL.p Pu.mv ?_
  refine TL.p (Pu.ln Tryz.underlying23) ?_
  refine TL.p Pu.mv ?_
  refine TL.nil ?_
  refine TQ.thenN (hY3 _ _ ?_)
  refine TW.block ?_
  refine TW.loop1 (fun (i : Nat) => [(18, .int .i64 (i : Int)), (17, .int .i64 (m : Int)), (16, .slice An m cn), (6, .map (some b1)), (0, .slice An m cn), (1, .slice AP nP cP), (2, .int .i64 (n : Int))]) (fun i => .obj b1 (mapO .i64 (markAll (flatT T (3 * i)))) :: .own An m cn 34 3 (tieX X0 T D0) :: ownsT X0 T D0 (3 * m)) (fun i => i ≤ m) (fun i => m - i) 0 (by repeat (first | exact trivial | refine ⟨rfl, ?_⟩ | refine ⟨trivial, ?_⟩)) ?_ ?_ ?_
  · exact KSub.refl _
  · exact Nat.zero_le _
  rintro i hi Z0 hZ0
  refine TW.seq fun Y4 hY4 => ?_
  refine TW.region ?_
  refine TL.p Pu.lt ?_
  refine TL.nil ?_
  refine TQ.thenN (hY4 _ _ ?_)
  refine TW.seq fun Y5 hY5 => ?_
  refine TW.cond rfl (fun hc0 => ?_) (fun hc0 => ?_)
  · try simp only [decide_eq_true_eq, decide_eq_false_iff_not, Bool.not_eq_true', Bool.not_eq_false', Bool.and_eq_true, Bool.or_eq_true, Bool.and_eq_false_iff, Bool.or_eq_false_iff, Int.not_lt, Int.not_le] at hc0
    have him : i < m := by omega
    have t0 := hT (3 * i) (by omega)
    have t1 := hT (3 * i + 1) (by omega)
    have t2 := hT (3 * i + 2) (by omega)
    refine TW.skip ?_
    refine TQ.thenN (hY5 _ _ ?_)
    refine TW.seq fun Y6 hY6 => ?_
    refine TW.block ?_
    refine TW.seq fun Y7 hY7 => ?_
    refine TW.region ?_
    refine TL.p (Pu.el ty_et23) ?_
    refine TL.p (Pu.lds ty_ag34) ?_
    refine TL.m (Mk.al ty_zr34) ?_
    intro b2
    first | refine TL.st ty_sz34 ?_ | refine TL.se ty_sz34 ?_
    refine TL.nil ?_
    refine TQ.thenN (hY7 _ _ ?_)
    refine TW.seq fun Y8 hY8 => ?_
    refine TW.region ?_
    refine TL.p (Pu.lds ty_ag34) ?_
    refine TL.call (M := []) rfl (enters Tryz.func44 rfl rfl) (List.Perm.refl _) rfl (fun w hw => by
        have m0 := ownsT_mem (X := X0) (T := T) (D := D0) (n := 3 * m) (show 3 * i < 3 * m by omega)
        have m1 := ownsT_mem (X := X0) (T := T) (D := D0) (n := 3 * m) (show 3 * i + 1 < 3 * m by omega)
        have m2 := ownsT_mem (X := X0) (T := T) (D := D0) (n := 3 * m) (show 3 * i + 2 < 3 * m by omega)
        exact all3_any rfl rfl rfl (by omega) (OwnR.rdr (hw.holds (.own (X0 (3 * i)) (T (3 * i)).length (D0 (3 * i)) 3 1 (iL (T (3 * i)))) (by simp [m0]))) (OwnR.rdr (hw.holds (.own (X0 (3 * i + 1)) (T (3 * i + 1)).length (D0 (3 * i + 1)) 3 1 (iL (T (3 * i + 1)))) (by simp [m1]))) (OwnR.rdr (hw.holds (.own (X0 (3 * i + 2)) (T (3 * i + 2)).length (D0 (3 * i + 2)) 3 1 (iL (T (3 * i + 2)))) (by simp [m2])))) ?_
    rintro ⟨A3, c3⟩
    obtain ⟨L, hL⟩ : ∃ L, L = T (3 * i) ++ T (3 * i + 1) ++ T (3 * i + 2) := ⟨_, rfl⟩
    simp only [← hL]
    have hLl : L.length ≤ 3000 := by rw [hL, List.length_append, List.length_append]; omega
    have hf : flatT T (3 * (i + 1)) = flatT T (3 * i) ++ L := by rw [hL, show 3 * (i + 1) = 3 * i + 3 from rfl]; simp only [flatT, List.append_assoc]
    refine TL.p (Pu.ln Tryz.underlying24) ?_
    refine TL.p Pu.mv ?_
    refine TL.nil ?_
    refine TQ.thenN (hY8 _ _ ?_)
    refine TW.block ?_
    refine TW.loop1 (fun (q : Nat) => [(25, .int .i64 (q : Int)), (24, .int .i64 (L.length : Int)), (23, .slice A3 L.length c3), (18, .int .i64 (i : Int)), (17, .int .i64 (m : Int)), (16, .slice An m cn), (6, .map (some b1)), (0, .slice An m cn), (1, .slice AP nP cP), (2, .int .i64 (n : Int))]) (fun q => .own A3 L.length c3 3 1 (iL L) :: .obj b1 (mapO .i64 (markAll (flatT T (3 * i) ++ L.take q))) :: .own An m cn 34 3 (tieX X0 T D0) :: ownsT X0 T D0 (3 * m)) (fun q => q ≤ L.length) (fun q => L.length - q) 0 (by repeat (first | exact trivial | refine ⟨rfl, ?_⟩ | refine ⟨trivial, ?_⟩)) ?_ ?_ ?_
    · rw [List.take_zero, List.append_nil]
      repeat (first | exact KSub.nil | refine KSub.cons (by repeat (first | exact Pick.hd | apply Pick.tl)) ?_ | exact KSub.refl _ | refine KSub.drop ?_)
    · exact Nat.zero_le _
    rintro q hq Z1 hZ1
    refine TW.seq fun Y9 hY9 => ?_
    refine TW.region ?_
    refine TL.p Pu.lt ?_
    refine TL.nil ?_
    refine TQ.thenN (hY9 _ _ ?_)
    refine TW.seq fun Y10 hY10 => ?_
    refine TW.cond rfl (fun hc1 => ?_) (fun hc1 => ?_)
    · try simp only [decide_eq_true_eq, decide_eq_false_iff_not, Bool.not_eq_true', Bool.not_eq_false', Bool.and_eq_true, Bool.or_eq_true, Bool.and_eq_false_iff, Bool.or_eq_false_iff, Int.not_lt, Int.not_le] at hc1
      have hql : q < L.length := by omega
      have htk := take_succ hql
      refine TW.skip ?_
      refine TQ.thenN (hY10 _ _ ?_)
      refine TW.seq fun Y11 hY11 => ?_
      refine TW.block ?_
      refine TW.seq fun Y12 hY12 => ?_
      refine TW.region ?_
      refine TL.p (Pu.el ty_et24) ?_
      refine TL.p (Pu.ld ty_sc3) ?_
      refine TL.p Pu.as ?_
      refine TL.nil ?_
      refine TQ.thenN (hY12 _ _ ?_)
      refine TW.region ?_
      refine TL.p Pu.mv ?_
      refine TL.p Pu.mv ?_
      refine TL.mu ty_mp108 ?_
      refine TL.nil ?_
      refine TQ.blkN ?_
      refine TQ.thenN (hY11 _ _ ?_)
      refine TW.region ?_
      refine TL.p Pu.ad ?_
      refine TL.p Pu.mv ?_
      refine TL.nil ?_
      refine TQ.thenN (hZ1 (q + 1) _ _ ?_ ?_ (by repeat (first | exact trivial | refine ⟨rfl, ?_⟩ | refine ⟨trivial, ?_⟩)) ?_)
      · exact (by omega)
      · exact (by first | omega | (simp only []; omega) | (simp; omega))
      · rw [htk, ← List.append_assoc, markAll_snoc]
        repeat (first | exact KSub.nil | refine KSub.cons (by repeat (first | exact Pick.hd | apply Pick.tl)) ?_ | exact KSub.refl _ | refine KSub.drop ?_)
    · try simp only [decide_eq_true_eq, decide_eq_false_iff_not, Bool.not_eq_true', Bool.not_eq_false', Bool.and_eq_true, Bool.or_eq_true, Bool.and_eq_false_iff, Bool.or_eq_false_iff, Int.not_lt, Int.not_le] at hc1
      obtain rfl : q = L.length := by omega
      refine TW.exit ?_
      refine TQ.thenX ?_
      refine TQ.thenX ?_
      refine TQ.blkX ?_
      refine TQ.blkN ?_
      refine TQ.thenN (hY6 _ _ ?_)
      refine TW.region ?_
      refine TL.p Pu.ad ?_
      refine TL.p Pu.mv ?_
      refine TL.nil ?_
      refine TQ.thenN (hZ0 (i + 1) _ _ ?_ ?_ (by repeat (first | exact trivial | refine ⟨rfl, ?_⟩ | refine ⟨trivial, ?_⟩)) ?_)
      · exact (by omega)
      · exact (by first | omega | (simp only []; omega) | (simp; omega))
      · rw [List.take_length, hf]
        exact KSub.drop (KSub.refl _)
  · try simp only [decide_eq_true_eq, decide_eq_false_iff_not, Bool.not_eq_true', Bool.not_eq_false', Bool.and_eq_true, Bool.or_eq_true, Bool.and_eq_false_iff, Bool.or_eq_false_iff, Int.not_lt, Int.not_le] at hc0
    obtain rfl : m = i := by omega
    refine TW.exit ?_
    refine TQ.thenX ?_
    refine TQ.thenX ?_
    refine TQ.blkX ?_
    refine TQ.thenN (hY2 _ _ ?_)
    refine TW.seq fun Y13 hY13 => ?_
    refine TW.seq fun Y14 hY14 => ?_
    refine TW.region ?_
    refine TL.p Pu.mv ?_
    refine TL.p (Pu.ln Tryz.underlying25) ?_
    refine TL.p Pu.mv ?_
    refine TL.nil ?_
    refine TQ.thenN (hY14 _ _ ?_)
    refine TW.block ?_
    refine TW.loop3 (fun (k : Nat) (X : Nat → Option Addr) (D : Nat → Nat) => [(35, .int .i64 (k : Int)), (34, .int .i64 (nP : Int)), (33, .slice AP nP cP), (6, .map (some b1)), (0, .slice An m cn), (1, .slice AP nP cP), (2, .int .i64 (n : Int))]) (fun k X D => .obj b1 (mapO .i64 (markAll (usedP m T P k))) :: .own An m cn 34 3 (tieX X (putT T P k) D) :: ownsT X (putT T P k) D (3 * m)) (fun k X D => k ≤ nP ∧ ∀ j, j < k → okPut n m T P j = true) (fun k X D => nP - k) 0 X0 D0 (by repeat (first | exact trivial | refine ⟨rfl, ?_⟩ | refine ⟨trivial, ?_⟩)) ?_ ?_ ?_
    · unfold usedP
      simp only [toI, List.range_zero, List.map_nil, List.append_nil, putT]
      exact KSub.refl _
    · exact ⟨Nat.zero_le _, fun j hj => by omega⟩
    rintro k X D ⟨hk, hall⟩ Z2 hZ2
    refine TW.seq fun Y15 hY15 => ?_
    refine TW.region ?_
    refine TL.p Pu.lt ?_
    refine TL.nil ?_
    refine TQ.thenN (hY15 _ _ ?_)
    refine TW.seq fun Y16 hY16 => ?_
    refine TW.cond rfl (fun hc2 => ?_) (fun hc2 => ?_)
    · try simp only [decide_eq_true_eq, decide_eq_false_iff_not, Bool.not_eq_true', Bool.not_eq_false', Bool.and_eq_true, Bool.or_eq_true, Bool.and_eq_false_iff, Bool.or_eq_false_iff, Int.not_lt, Int.not_le] at hc2
      have hkn : k < nP := by omega
      have hA' := hA (by omega)
      have hp0 := hP2 k hkn
      have hTk' := hTk k
      generalize hTn : putT T P k = Tk at *
      refine TW.skip ?_
      refine TQ.thenN (hY16 _ _ ?_)
      refine TW.seq fun Y17 hY17 => ?_
      refine TW.block ?_
      refine TW.seq fun Y18 hY18 => ?_
      refine TW.region ?_
      refine TL.p (Pu.el ty_et25) ?_
      refine TL.p (Pu.lds ty_ag37) ?_
      refine TL.m (Mk.al ty_zr37) ?_
      intro b3
      first | refine TL.st ty_sz37 ?_ | refine TL.se ty_sz37 ?_
      refine TL.nil ?_
      refine TQ.thenN (hY18 _ _ ?_)
      refine TW.seq fun Y19 hY19 => ?_
      refine TW.region ?_
      refine TL.p Pu.mv ?_
      refine TL.p Pu.sb ?_
      refine TL.p (by first | exact Pu.fb ty_fa37_0 | exact Pu.fe ty_fa37_0) ?_
      refine TL.p (Pu.ld ty_sc3) ?_
      refine TL.m Mk.bl ?_
      intro b4
      refine TL.cr rfl (enters Tryz.func41 rfl rfl) (fun w hw => by
          exact inOne_any _ _ _ (hw.holds _ (List.mem_cons_self ..))) ?_
      refine TL.mid 27 [(65, .bool (okPut n m T P k))] ?_ (fun hM1 => ?_)
      · simp only [List.toList_toArray, List.drop_succ_cons, List.drop_zero]
        refine TL.ct rfl (enters Tryz.func40 rfl rfl) (fun w hw => by
            exact need_any _ _ _ (by decide)) (fun hp1 => ?_) (fun hp1 => ?_)
        rotate_left
        · refine TQ.thenP ?_
          refine TQ.blkP ?_
          refine TQ.thenP ?_
          refine TQ.thenP ?_
          refine TQ.blkP ?_
          refine TQ.thenP ?_
          refine TQ.pan rfl ?_
          exact fun w hw => .inr ⟨by first | (rw [hC1 k hkn (need_no hp1).1]; decide) | (rw [hC2 (need_no hp2).1]; decide), by first | (rw [hC1 k hkn (need_no hp1).1, (need_no hp1).2]) | (rw [hC2 (need_no hp2).1, (need_no hp2).2]), hw.sub KSub.nil⟩
        refine TL.nil ?_
        refine TQ.thenN (hY19 _ _ ?_)
        refine TW.seq fun Y20 hY20 => ?_
        refine TW.region ?_
        have hok := need_yes (by decide) hp1
        have hok2 := hok
        unfold okPut at hok2
        simp only [inB5, Bool.and_eq_true, decide_eq_true_eq] at hok2
        obtain ⟨⟨⟨⟨g1, g2⟩, _⟩, ⟨g3, g4⟩⟩, g5⟩ := hok2
        obtain ⟨q, hq⟩ : ∃ q : Nat, P k 1 = q := ⟨(P k 1).toNat, by omega⟩
        obtain ⟨p, hp⟩ : ∃ p : Nat, P k 2 = p := ⟨(P k 2).toNat, by omega⟩
        have hqm : q < m := by omega
        have hp3 : p < 3 := by omega
        have hs3 : 3 * q + p < 3 * m := by omega
        have hls := hTk' (3 * q + p) hs3
        have hS9 : putS (P k) = 3 * q + p := by unfold putS; rw [hq, hp]; omega
        have ek : putT T P (k + 1) = updN Tk (3 * q + p) (srt (Tk (3 * q + p) ++ [P k 0])) := by simp only [putT, hS9, hTn]
        have eu : usedP m T P (k + 1) = usedP m T P k ++ [P k 0] := by unfold usedP; rw [toI_succ, List.append_assoc]
        refine TL.p Pu.mv ?_
        refine TL.p (by first | exact Pu.fb ty_fa37_0 | exact Pu.fe ty_fa37_0) ?_
        refine TL.p (Pu.ld ty_sc3) ?_
        refine TL.mu ty_mp108 ?_
        refine TL.nil ?_
        refine TQ.thenN (hY20 _ _ ?_)
        refine TW.seq fun Y21 hY21 => ?_
        refine TW.region ?_
        refine TL.perm (by repeat (first | exact ownsT_perm hs3 | apply List.Perm.cons)) ?_
        refine TL.p Pu.mv ?_
        refine TL.p (by first | exact Pu.fb ty_fa37_1 | exact Pu.fe ty_fa37_1) ?_
        refine TL.p (Pu.ld ty_sc3) ?_
        refine TL.p (Pu.el (q := q) ty_et23 (hk := by omega)) ?_
        refine TL.p Pu.as ?_
        refine TL.nil ?_
        refine TQ.thenN (hY21 _ _ ?_)
        refine TW.seq fun Y22 hY22 => ?_
        refine TW.dw 14 ?_
        refine RK.tk Pu.mv ?_
        refine RK.tk (by first | exact Pu.nn | exact Pu.nc) ?_
        refine RK.tk (by first | exact Pu.fb ty_fa34_0 | exact Pu.fe ty_fa34_0) ?_
        refine RK.tk Pu.mv ?_
        refine RK.tk (by first | exact Pu.nn | exact Pu.nc) ?_
        refine RK.tk (by first | exact Pu.fb ty_fa34_1 | exact Pu.fe ty_fa34_1) ?_
        refine RK.tk Pu.mv ?_
        refine RK.tk (by first | exact Pu.nn | exact Pu.nc) ?_
        refine RK.tk (by first | exact Pu.fb ty_fa34_2 | exact Pu.fe ty_fa34_2) ?_
        refine RK.tk Pu.bd ?_
        refine RK.tk (by first | exact Pu.fb ty_fa37_2 | exact Pu.fe ty_fa37_2) ?_
        refine RK.tk (Pu.ld ty_sc5) ?_
        refine RK.tk (Pu.ix (v := .pointer (elA An q 3 p)) (hr := fun w => by rw [hp]; exact index_ptr3 q p hp3 w)) ?_
        refine RK.tk Pu.as ?_
        refine RK.ch [] ?_ trivial
        refine WK.n ?_
        refine TL.nil ?_
        refine TQ.thenN (hY22 _ _ ?_)
        refine TW.seq fun Y23 hY23 => ?_
        refine TW.expk [.blk b3 37 (putL (P k))] (fun (⟨A7, c7⟩ : Option Addr × Nat) => ([(14, .pointer (elA An q 3 p)), (35, .int .i64 (k : Int)), (34, .int .i64 (nP : Int)), (33, .slice AP nP cP), (6, .map (some b1)), (0, .slice An m cn), (1, .slice AP nP cP), (2, .int .i64 (n : Int))] : Fr)) (fun (⟨A7, c7⟩ : Option Addr × Nat) => .own An m cn 34 3 (updR (tieX X Tk D) q ((tieX X Tk D q).set p (.slice A7 ((Tk (3 * q + p)).length + 1) c7))) :: .own A7 ((Tk (3 * q + p)).length + 1) c7 3 1 (catR (Tk (3 * q + p)).length (iL (Tk (3 * q + p))) (fun _ => [.int .i64 (P k 0)])) :: .obj b1 (mapO .i64 (mput (P k 0) (.bool true) (markAll (usedP m T P k)))) :: ownsTX X Tk D (3 * q + p) (3 * m)) ?_ (fun hE => ?_)
        · rintro ⟨A7, c7⟩
          refine TQ.thenN (hY23 _ _ ?_)
          refine TW.region ?_
          obtain ⟨Lx, hLx⟩ : ∃ y, y = Tk (3 * q + p) ++ [P k 0] := ⟨_, rfl⟩
          have hLn : (Tk (3 * q + p)).length + 1 = Lx.length := by rw [hLx, List.length_append]; rfl
          have eX : updN X (3 * q + p) A7 (3 * q + p) = A7 := if_pos rfl
          have eD : updN D (3 * q + p) c7 (3 * q + p) = c7 := if_pos rfl
          have eT : updN Tk (3 * q + p) Lx (3 * q + p) = Lx := if_pos rfl
          refine TL.subK (K' := .own An m cn 34 3 (tieX (updN X (3 * q + p) A7) (updN Tk (3 * q + p) Lx) (updN D (3 * q + p) c7)) :: .own A7 ((Tk (3 * q + p)).length + 1) c7 3 1 (iL Lx) :: .obj b1 (mapO .i64 (mput (P k 0) (.bool true) (markAll (usedP m T P k)))) :: ownsTX X Tk D (3 * q + p) (3 * m)) (KSub.own Pick.hd (fun i _ => tieX_upd hp3 hLn i) (KSub.own Pick.hd (iL_app rfl hLx rfl) (KSub.refl _))) ?_
          refine TL.p Pu.mv ?_
          refine TL.p (Pu.nc (hq := CellsN.own (by repeat (first | exact Pick.hd | apply Pick.tl)) hqm (subl_tie0 hp3))) ?_
          refine TL.p (Pu.ld (v := .slice A7 ((Tk (3 * q + p)).length + 1) c7) ty_sc24 (hq := by have h9 := subl_tie (X := updN X (3 * q + p) A7) (T := updN Tk (3 * q + p) Lx) (D := updN D (3 * q + p) c7) (q := q) hp3; rw [eX, eD, eT, ← hLn] at h9; exact Cells.own (by repeat (first | exact Pick.hd | apply Pick.tl)) hqm h9)) ?_
          refine TL.call rfl (enters Tryz.func36 rfl rfl) (List.Perm.swap _ _ _) rfl (fun w hw => by
              exact sortI_any hLn (by omega) (hw.holds (.own A7 ((Tk (3 * q + p)).length + 1) c7 3 1 (iL Lx)) (by simp))) ?_
          intro _
          refine TL.nil ?_
          refine TQ.blkN ?_
          refine TQ.thenN (hY17 _ _ ?_)
          refine TW.region ?_
          refine TL.p Pu.ad ?_
          refine TL.p Pu.mv ?_
          refine TL.nil ?_
          refine TQ.thenN (hZ2 (k + 1) (updN X (3 * q + p) A7) (updN D (3 * q + p) c7) _ _ ?_ ?_ (by repeat (first | exact trivial | refine ⟨rfl, ?_⟩ | refine ⟨trivial, ?_⟩)) ?_)
          · refine ⟨by omega, fun j hj => ?_⟩
            by_cases h : j = k
            · subst h; exact hok
            · exact hall j (by omega)
          · exact (by first | omega | (simp only []; omega) | (simp; omega))
          · rw [eu, markAll_snoc, ek, ← hLx]
            refine KSub.cons (by repeat (first | exact Pick.hd | apply Pick.tl)) (KSub.own (by repeat (first | exact Pick.hd | apply Pick.tl)) (fun i _ => tieX_len (fun s => ?_) i) ?_)
            · unfold updN
              split
              · exact (srt_len _).symm
              · rfl
            · exact ownsT_put (by rw [srt_len]; exact hLn) (fun i _ => rfl) hs3
        refine RG.tk 0 rfl Pu.mv ?_
        refine RG.tk 1 rfl Pu.mv ?_
        refine RG.tk 4 rfl (by first | exact Pu.fb ty_fa37_0 | exact Pu.fe ty_fa37_0) ?_
        refine RG.tk 5 rfl (Pu.ld ty_sc3) ?_
        refine RG.a2 2 6 rfl rfl (fun X2 hX2 => ?_) (fun X6 hX6 => ?_)
        · refine TL.p (Pu.nc (hq := CellsN.own (by repeat (first | exact Pick.hd | apply Pick.tl)) hqm (subl_tie0 hp3))) ?_
          refine TL.nil ?_
          refine TQ.nxt (hX2 _ _ (by repeat (first | exact HasL.nil | refine HasL.cons (by repeat (first | exact Pick.hd | apply Pick.tl)) ?_)) ?_)
          refine RG.a2 3 6 rfl rfl (fun X3 hX3 => ?_) (fun X6 hX6 => ?_)
          · refine TL.p (Pu.ld ty_sc24 (hq := Cells.own (by repeat (first | exact Pick.hd | apply Pick.tl)) hqm (subl_tie hp3))) ?_
            refine TL.nil ?_
            refine TQ.nxt (hX3 _ _ (by repeat (first | exact HasL.nil | refine HasL.cons (by repeat (first | exact Pick.hd | apply Pick.tl)) ?_)) ?_)
            refine RG.a1 6 rfl (fun X6 hX6 => ?_)
            refine TL.m Mk.bl ?_
            intro x6
            refine TL.nil ?_
            refine TQ.nxt (hX6 _ _ (by repeat (first | exact HasL.nil | refine HasL.cons (by repeat (first | exact Pick.hd | apply Pick.tl)) ?_)) ?_)
            refine RG.a1 7 rfl (fun X7 hX7 => ?_)
            first | refine TL.a0 ty_et24 ?_ | refine TL.ap ty_et24 ?_
            intro A7 c7
            refine TL.nil ?_
            refine TQ.nxt (hX7 _ _ (by repeat (first | exact HasL.nil | refine HasL.cons (by repeat (first | exact Pick.hd | apply Pick.tl)) ?_)) ?_)
            refine RG.a1 8 rfl (fun X8 hX8 => ?_)
            refine TL.p (Pu.nc (hq := CellsN.own (by repeat (first | exact Pick.hd | apply Pick.tl)) hqm (subl_tie0 hp3))) ?_
            refine TL.nil ?_
            refine TQ.nxt (hX8 _ _ (by repeat (first | exact HasL.nil | refine HasL.cons (by repeat (first | exact Pick.hd | apply Pick.tl)) ?_)) ?_)
            refine RG.a1 9 rfl (fun X9 hX9 => ?_)
            refine TL.se ty_sz24 ?_ (hput := putl_tie hp3)
            refine TL.nil ?_
            refine TQ.nxt (hX9 _ _ (by repeat (first | exact HasL.nil | refine HasL.cons (by repeat (first | exact Pick.hd | apply Pick.tl)) ?_)) ?_)
            exact RG.nil (TQ.sub (by repeat (first | exact trivial | refine ⟨rfl, ?_⟩ | refine ⟨trivial, ?_⟩)) (by repeat (first | exact KSub.nil | refine KSub.cons (by repeat (first | exact Pick.hd | apply Pick.tl)) ?_ | exact KSub.refl _ | refine KSub.drop ?_)) (hE ⟨A7, c7⟩)) (by kernel_rfl)
          · refine TL.m Mk.bl ?_
            intro x6
            refine TL.nil ?_
            refine TQ.nxt (hX6 _ _ (by repeat (first | exact HasL.nil | refine HasL.cons (by repeat (first | exact Pick.hd | apply Pick.tl)) ?_)) ?_)
            refine RG.a1 3 rfl (fun X3 hX3 => ?_)
            refine TL.p (Pu.ld ty_sc24 (hq := Cells.own (by repeat (first | exact Pick.hd | apply Pick.tl)) hqm (subl_tie hp3))) ?_
            refine TL.nil ?_
            refine TQ.nxt (hX3 _ _ (by repeat (first | exact HasL.nil | refine HasL.cons (by repeat (first | exact Pick.hd | apply Pick.tl)) ?_)) ?_)
            refine RG.a1 7 rfl (fun X7 hX7 => ?_)
            first | refine TL.a0 ty_et24 ?_ | refine TL.ap ty_et24 ?_
            intro A7 c7
            refine TL.nil ?_
            refine TQ.nxt (hX7 _ _ (by repeat (first | exact HasL.nil | refine HasL.cons (by repeat (first | exact Pick.hd | apply Pick.tl)) ?_)) ?_)
            refine RG.a1 8 rfl (fun X8 hX8 => ?_)
            refine TL.p (Pu.nc (hq := CellsN.own (by repeat (first | exact Pick.hd | apply Pick.tl)) hqm (subl_tie0 hp3))) ?_
            refine TL.nil ?_
            refine TQ.nxt (hX8 _ _ (by repeat (first | exact HasL.nil | refine HasL.cons (by repeat (first | exact Pick.hd | apply Pick.tl)) ?_)) ?_)
            refine RG.a1 9 rfl (fun X9 hX9 => ?_)
            refine TL.se ty_sz24 ?_ (hput := putl_tie hp3)
            refine TL.nil ?_
            refine TQ.nxt (hX9 _ _ (by repeat (first | exact HasL.nil | refine HasL.cons (by repeat (first | exact Pick.hd | apply Pick.tl)) ?_)) ?_)
            exact RG.nil (TQ.sub (by repeat (first | exact trivial | refine ⟨rfl, ?_⟩ | refine ⟨trivial, ?_⟩)) (by repeat (first | exact KSub.nil | refine KSub.cons (by repeat (first | exact Pick.hd | apply Pick.tl)) ?_ | exact KSub.refl _ | refine KSub.drop ?_)) (hE ⟨A7, c7⟩)) (by kernel_rfl)
        · refine TL.m Mk.bl ?_
          intro x6
          refine TL.nil ?_
          refine TQ.nxt (hX6 _ _ (by repeat (first | exact HasL.nil | refine HasL.cons (by repeat (first | exact Pick.hd | apply Pick.tl)) ?_)) ?_)
          refine RG.a1 2 rfl (fun X2 hX2 => ?_)
          refine TL.p (Pu.nc (hq := CellsN.own (by repeat (first | exact Pick.hd | apply Pick.tl)) hqm (subl_tie0 hp3))) ?_
          refine TL.nil ?_
          refine TQ.nxt (hX2 _ _ (by repeat (first | exact HasL.nil | refine HasL.cons (by repeat (first | exact Pick.hd | apply Pick.tl)) ?_)) ?_)
          refine RG.a1 3 rfl (fun X3 hX3 => ?_)
          refine TL.p (Pu.ld ty_sc24 (hq := Cells.own (by repeat (first | exact Pick.hd | apply Pick.tl)) hqm (subl_tie hp3))) ?_
          refine TL.nil ?_
          refine TQ.nxt (hX3 _ _ (by repeat (first | exact HasL.nil | refine HasL.cons (by repeat (first | exact Pick.hd | apply Pick.tl)) ?_)) ?_)
          refine RG.a1 7 rfl (fun X7 hX7 => ?_)
          first | refine TL.a0 ty_et24 ?_ | refine TL.ap ty_et24 ?_
          intro A7 c7
          refine TL.nil ?_
          refine TQ.nxt (hX7 _ _ (by repeat (first | exact HasL.nil | refine HasL.cons (by repeat (first | exact Pick.hd | apply Pick.tl)) ?_)) ?_)
          refine RG.a1 8 rfl (fun X8 hX8 => ?_)
          refine TL.p (Pu.nc (hq := CellsN.own (by repeat (first | exact Pick.hd | apply Pick.tl)) hqm (subl_tie0 hp3))) ?_
          refine TL.nil ?_
          refine TQ.nxt (hX8 _ _ (by repeat (first | exact HasL.nil | refine HasL.cons (by repeat (first | exact Pick.hd | apply Pick.tl)) ?_)) ?_)
          refine RG.a1 9 rfl (fun X9 hX9 => ?_)
          refine TL.se ty_sz24 ?_ (hput := putl_tie hp3)
          refine TL.nil ?_
          refine TQ.nxt (hX9 _ _ (by repeat (first | exact HasL.nil | refine HasL.cons (by repeat (first | exact Pick.hd | apply Pick.tl)) ?_)) ?_)
          exact RG.nil (TQ.sub (by repeat (first | exact trivial | refine ⟨rfl, ?_⟩ | refine ⟨trivial, ?_⟩)) (by repeat (first | exact KSub.nil | refine KSub.cons (by repeat (first | exact Pick.hd | apply Pick.tl)) ?_ | exact KSub.refl _ | refine KSub.drop ?_)) (hE ⟨A7, c7⟩)) (by kernel_rfl)
      refine TL.p Pu.mv ?_
      refine TL.guard (t := 45) rfl (fun hg1 => ?_) (fun hg1 => ?_)
      · refine TL.gd Pu.mv ?_
        refine TL.gd (by first | exact Pu.fb ty_fa37_0 | exact Pu.fe ty_fa37_0) ?_
        refine TL.gd (Pu.ld ty_sc3) ?_
        refine TL.gd (show Pu _ _ _ _ (.bool (decide (P k 0 ∈ usedP m T P k))) from by rw [← mark_mem]; exact Pu.l1 ty_mp108 ty_zv4) ?_
        refine TL.gd Pu.no ?_
        refine TL.p Pu.kt ?_
        refine TL.p Pu.mv ?_
        refine TL.guard (t := 52) rfl (fun hg2 => ?_) (fun hg2 => ?_)
        · refine TL.gd Pu.mv ?_
          refine TL.gd (Pu.ln Tryz.underlying23) ?_
          refine TL.gd Pu.sb ?_
          refine TL.gd (by first | exact Pu.fb ty_fa37_1 | exact Pu.fe ty_fa37_1) ?_
          refine TL.gd (Pu.ld ty_sc3) ?_
          refine TL.gm Mk.bl ?_
          intro b5
          refine TL.cr rfl (enters Tryz.func41 rfl rfl) (fun w hw => by
              exact inOne_any _ _ _ (hw.holds _ (List.mem_cons_self ..))) ?_
          refine TL.p Pu.kt ?_
          refine TL.p Pu.mv ?_
          refine TL.guard (t := 61) rfl (fun hg3 => ?_) (fun hg3 => ?_)
          · refine TL.gd (by first | exact Pu.fb ty_fa37_2 | exact Pu.fe ty_fa37_2) ?_
            refine TL.gd (Pu.ld ty_sc5) ?_
            refine TL.gd Pu.le ?_
            refine TL.p Pu.kt ?_
            exact TL.sub (by repeat (first | exact trivial | refine ⟨rfl, ?_⟩ | refine ⟨trivial, ?_⟩ | refine ⟨(by show some (Value.bool _) = some (Value.bool _); simp [hg1, hg2, hg3, okPut]), ?_⟩)) (by repeat (first | exact KSub.nil | refine KSub.cons (by repeat (first | exact Pick.hd | apply Pick.tl)) ?_ | exact KSub.refl _ | refine KSub.drop ?_)) hM1
          · refine TL.gs ?_
            refine TL.gs ?_
            refine TL.gs ?_
            refine TL.p Pu.kf ?_
            exact TL.sub (by repeat (first | exact trivial | refine ⟨rfl, ?_⟩ | refine ⟨trivial, ?_⟩ | refine ⟨(by show some (Value.bool _) = some (Value.bool _); simp [hg1, hg2, hg3, okPut]), ?_⟩)) (by repeat (first | exact KSub.nil | refine KSub.cons (by repeat (first | exact Pick.hd | apply Pick.tl)) ?_ | exact KSub.refl _ | refine KSub.drop ?_)) hM1
        · refine TL.gs ?_
          refine TL.gs ?_
          refine TL.gs ?_
          refine TL.gs ?_
          refine TL.gs ?_
          refine TL.gs ?_
          refine TL.gs ?_
          refine TL.p Pu.kf ?_
          refine TL.p Pu.mv ?_
          refine TL.gs ?_
          refine TL.gs ?_
          refine TL.gs ?_
          refine TL.p Pu.kf ?_
          exact TL.sub (by repeat (first | exact trivial | refine ⟨rfl, ?_⟩ | refine ⟨trivial, ?_⟩ | refine ⟨(by show some (Value.bool _) = some (Value.bool _); simp [hg1, hg2, okPut]), ?_⟩)) (by repeat (first | exact KSub.nil | refine KSub.cons (by repeat (first | exact Pick.hd | apply Pick.tl)) ?_ | exact KSub.refl _ | refine KSub.drop ?_)) hM1
      · refine TL.gs ?_
        refine TL.gs ?_
        refine TL.gs ?_
        refine TL.gs ?_
        refine TL.gs ?_
        refine TL.p Pu.kf ?_
        refine TL.p Pu.mv ?_
        refine TL.gs ?_
        refine TL.gs ?_
        refine TL.gs ?_
        refine TL.gs ?_
        refine TL.gs ?_
        refine TL.gs ?_
        refine TL.gs ?_
        refine TL.p Pu.kf ?_
        refine TL.p Pu.mv ?_
        refine TL.gs ?_
        refine TL.gs ?_
        refine TL.gs ?_
        refine TL.p Pu.kf ?_
        exact TL.sub (by repeat (first | exact trivial | refine ⟨rfl, ?_⟩ | refine ⟨trivial, ?_⟩ | refine ⟨(by show some (Value.bool _) = some (Value.bool _); simp [hg1, okPut]), ?_⟩)) (by repeat (first | exact KSub.nil | refine KSub.cons (by repeat (first | exact Pick.hd | apply Pick.tl)) ?_ | exact KSub.refl _ | refine KSub.drop ?_)) hM1
    · try simp only [decide_eq_true_eq, decide_eq_false_iff_not, Bool.not_eq_true', Bool.not_eq_false', Bool.and_eq_true, Bool.or_eq_true, Bool.and_eq_false_iff, Bool.or_eq_false_iff, Int.not_lt, Int.not_le] at hc2
      obtain rfl : nP = k := by omega
      refine TW.exit ?_
      refine TQ.thenX ?_
      refine TQ.thenX ?_
      refine TQ.blkX ?_
      refine TQ.thenN (hY13 _ _ ?_)
      refine TW.region ?_
      refine TL.p Pu.mv ?_
      refine TL.cr rfl (enters Tryz.func61 rfl rfl) (fun w hw => by
          have hR := OwnR.rdr (hw.holds (.own An m cn 34 3 (tieX X (putT T P nP) D)) (by simp))
          refine everyTied_any (fs := []) (cs := []) (v := fun i j => .slice (X (3 * i + j)) (putT T P nP (3 * i + j)).length (D (3 * i + j))) (p := fun i => decide (cnt3 (putT T P nP) i ≤ 10)) (enters Tryz.func62 rfl rfl) (by omega) hR fun i hi w' hb => ?_
          have m0 := ownsT_mem (X := X) (T := putT T P nP) (D := D) (n := 3 * m) (show 3 * i < 3 * m by omega)
          have m1 := ownsT_mem (X := X) (T := putT T P nP) (D := D) (n := 3 * m) (show 3 * i + 1 < 3 * m by omega)
          have m2 := ownsT_mem (X := X) (T := putT T P nP) (D := D) (n := 3 * m) (show 3 * i + 2 < 3 * m by omega)
          have l0 := hTk nP (3 * i) (by omega)
          have l1 := hTk nP (3 * i + 1) (by omega)
          have l2 := hTk nP (3 * i + 2) (by omega)
          exact put1_any (L0 := putT T P nP (3 * i)) (L1 := putT T P nP (3 * i + 1)) (L2 := putT T P nP (3 * i + 2)) rfl rfl rfl (by show (putT T P nP (3 * i)).length + (putT T P nP (3 * i + 1)).length + (putT T P nP (3 * i + 2)).length ≤ 1000000; omega) ((OwnR.rdr (hw.holds (.own (X (3 * i)) (putT T P nP (3 * i)).length (D (3 * i)) 3 1 (iL (putT T P nP (3 * i)))) (by simp [m0]))).chg (Chg.of_ext hb) Apart.nil) ((OwnR.rdr (hw.holds (.own (X (3 * i + 1)) (putT T P nP (3 * i + 1)).length (D (3 * i + 1)) 3 1 (iL (putT T P nP (3 * i + 1)))) (by simp [m1]))).chg (Chg.of_ext hb) Apart.nil) ((OwnR.rdr (hw.holds (.own (X (3 * i + 2)) (putT T P nP (3 * i + 2)).length (D (3 * i + 2)) 3 1 (iL (putT T P nP (3 * i + 2)))) (by simp [m2]))).chg (Chg.of_ext hb) Apart.nil)) ?_
      refine TL.ct rfl (enters Tryz.func40 rfl rfl) (fun w hw => by
          exact need_any _ _ _ (by decide)) (fun hp2 => ?_) (fun hp2 => ?_)
      rotate_left
      · refine TQ.pan rfl ?_
        exact fun w hw => .inr ⟨by first | (rw [hC1 k hkn (need_no hp1).1]; decide) | (rw [hC2 (need_no hp2).1]; decide), by first | (rw [hC1 k hkn (need_no hp1).1, (need_no hp1).2]) | (rw [hC2 (need_no hp2).1, (need_no hp2).2]), hw.sub KSub.nil⟩
      refine TL.nil ?_
      refine TQ.end Tryz.results32 rfl (.nil) ?_
      exact fun w hw => .inl ⟨by
        unfold putC
        rw [allB_iff.2 hall, need_yes (by decide) hp2]
        rfl, (X, D), rfl, hw.sub (KSub.drop (KSub.refl _))⟩
end Go.Proofs.YtljhdcclajikiaaGreatDoor
namespace Go.Proofs.YtljhdcclajikiaaGreatDoor
set_option linter.all false
set_option linter.unusedVariables false
set_option linter.unusedSimpArgs false
open Go.RowKit
theorem pick_of_mem {φ : Fact} : ∀ {K : List Fact}, φ ∈ K → ∃ K1, Pick K φ K1
  | ψ :: K, h => by
    rcases List.mem_cons.1 h with rfl | h
    · exact ⟨K, .hd⟩
    · obtain ⟨K1, hp⟩ := pick_of_mem h
      exact ⟨ψ :: K1, .tl hp⟩
theorem pick_weak {φ : Fact} {K K1 K' R : List Fact} (hp : Pick K φ K1) (h : K'.Perm (R ++ K)) : ∃ K1', Pick K' φ K1' ∧ K1'.Perm (R ++ K1) := by
  obtain ⟨K1', hp'⟩ := pick_of_mem (h.mem_iff.2 (List.mem_append_right R hp.mem))
  refine ⟨K1', hp', ?_⟩
  have h1 : (φ :: K1').Perm (φ :: (R ++ K1)) := hp'.perm.symm.trans (h.trans ((hp.perm.append_left R).trans List.perm_middle))
  exact (List.perm_cons φ).1 h1
theorem KSub.weaken {K L : List Fact} (h : KSub K L) : ∀ {K' R : List Fact}, K'.Perm (R ++ K) → KSub K' L := by
  induction h with
  | nil => exact fun _ => .nil
  | nilOwn _ ih => exact fun h => .nilOwn (ih h)
  | cons hp _ ih =>
    intro K' R h
    obtain ⟨K1', hp', h1⟩ := pick_weak hp h
    exact .cons hp' (ih h1)
  | own hp he _ ih =>
    intro K' R h
    obtain ⟨K1', hp', h1⟩ := pick_weak hp h
    exact .own hp' he (ih h1)
  | ofBlk hp a b c d _ ih =>
    intro K' R h
    obtain ⟨K1', hp', h1⟩ := pick_weak hp h
    exact .ofBlk hp' a b c d (ih h1)
theorem ownsT_set {X : Nat → Option Addr} {T : Nat → List Int} {D : Nat → Nat} {s n k2 c2 : Nat} {A : Option Addr} {L : List Int} {r : Nat → List Value} (hs : s < n) (hk : k2 = L.length) (hr : ∀ i, i < k2 → r i = iL L i) : KSub (.own A k2 c2 3 1 r :: ownsT X T D n) (ownsT (updN X s A) (updN T s L) (updN D s c2) n) :=
  KSub.weaken (R := [.own (X s) (T s).length (D s) 3 1 (iL (T s))]) (ownsT_put (X := X) (T := T) (D := D) hk hr hs) (((ownsT_perm hs).cons _).trans (List.Perm.swap _ _ _))
theorem feet_new2 {S : List Nat} {w0 w : World} {K M R : List Fact} (hs : Sat S w0 K w) (hp : K.Perm (M ++ R)) (hS : ∀ b ∈ S, b ∈ feet R) : Sat (feet M) w M w ∧ ∀ b ∈ feet M, w0.heap.size ≤ b := by
  have h1 := hs.perm hp
  refine ⟨(Has.sat ⟨R, List.Perm.refl _⟩ h1).self, fun b hb => ?_⟩
  rcases h1.ge b (by rw [feet_append]; simp [hb]) with h2 | h2
  · have hnd := h1.nd
    rw [feet_append] at hnd
    exact absurd rfl ((List.nodup_append.1 hnd).2.2 b hb b (hS b h2))
  · exact h2
section
variable (r0 r1 : Nat → Int) (b : Int) (T : Nat → List Int)
def trB (i : Nat) : List Int × Nat := bestE r0 r1 b (T (3 * i)) (T (3 * i + 1))
def trD (i : Nat) : Int := bestC r0 r1 b (T (3 * i)) (T (3 * i + 1))
def tr3 : Nat → Nat → List Int
  | 0 => T
  | i + 1 => updN (updN (tr3 i) (3 * i) (mvd (T (3 * i)) (T (3 * i + 1)) (trB r0 r1 b T i).1)) (3 * i + 1) (mvd (T (3 * i + 1)) (T (3 * i)) (trB r0 r1 b T i).1)
def movs : Nat → List Int
  | 0 => []
  | i + 1 => movs i ++ (trB r0 r1 b T i).1
variable {r0 r1 b T}
theorem tr3_at : ∀ {i s : Nat}, 3 * i ≤ s → tr3 r0 r1 b T i s = T s
  | 0, _, _ => rfl
  | i + 1, s, h => by
    simp only [tr3, updN]
    rw [if_neg (by omega), if_neg (by omega)]
    exact tr3_at (by omega)
theorem bestE_len {L0 L1 : List Int} : (bestE r0 r1 b L0 L1).1.length ≤ L0.length + L1.length := by
  have := (setRun_le (L := sidesL L0 L1) (ok := mvOk r0 r1 b L0 L1) (2 ^ (L0.length + L1.length))).2
  rw [sides_len] at this
  exact this
theorem movs_len {m : Nat} (hT : ∀ i, i < m → cnt3 T i ≤ 10) : ∀ i, i ≤ m → (movs r0 r1 b T i).length ≤ 10 * i
  | 0, _ => by simp [movs]
  | i + 1, h => by
    have h1 := movs_len hT i (by omega)
    have h2 := hT i (by omega)
    have h3 := bestE_len (r0 := r0) (r1 := r1) (b := b) (L0 := T (3 * i)) (L1 := T (3 * i + 1))
    simp only [movs, List.length_append, trB, cnt3] at *
    omega
end
theorem InxL.filter {L : List Int} {p : Int → Bool} {n : Nat} (h : InxL L n) : InxL (L.filter p) n := fun x hx => h x (List.mem_filter.1 hx).1
theorem putT_inx {n m : Nat} {T : Nat → List Int} {P : Nat → Nat → Int} {nP : Nat} (hT : ∀ s, s < 3 * m → InxL (T s) n) (hok : ∀ k, k < nP → okPut n m T P k = true) : ∀ k, k ≤ nP → ∀ s, s < 3 * m → InxL (putT T P k s) n
  | 0, _, s, hs => hT s hs
  | k + 1, hk, s, hs => by
    have ih := putT_inx hT hok k (by omega)
    have h1 := hok k (by omega)
    unfold okPut at h1
    simp only [inB5, Bool.and_eq_true, decide_eq_true_eq] at h1
    obtain ⟨⟨⟨⟨g1, g2⟩, _⟩, _⟩, _⟩ := h1
    simp only [putT, updN]
    split
    · rename_i e
      intro x hx
      rw [mem_srt, List.mem_append] at hx
      rcases hx with hx | hx
      · rw [← e] at hx; exact ih s hs x hx
      · obtain rfl := List.mem_singleton.1 hx
        omega
    · exact ih s hs
theorem putC_ok {n m : Nat} {T : Nat → List Int} {P : Nat → Nat → Int} {nP : Nat} (h : putC n m T P nP = 0) : (∀ k, k < nP → okPut n m T P k = true) ∧ ∀ i, i < m → cnt3 (putT T P nP) i ≤ 10 := by
  unfold putC at h
  split at h
  · rename_i h1
    rw [Bool.and_eq_true] at h1
    exact ⟨allB_iff.1 h1.1, fun i hi => of_decide_eq_true (allB_iff.1 h1.2 i hi)⟩
  · cases h
section
variable (np : Nat) (pk : Nat → Nat → Int) (m : Nat) (l : Nat → Nat → Nat) (v : Nat → Nat → Nat → Int) (F : List Int) (P : Nat → Nat → Int) (nP : Nat) (b : Int)
def askT : Int := if checkV np pk m l v = 0 then (if inB5 0 1000000000 b then 0 else 2) else checkV np pk m l v
def tr2 : Nat → List Int := putT (takeT F (T0 l v)) P nP
def tradeC : Int :=
  if askT np pk m l v b = 0 then
    if takeC np F (T0 l v) m = 0 then
      if putC np m (takeT F (T0 l v)) P nP = 0 then
        if (allB m fun i => decide (trD (fun q => rl (pk q)) (fun q => rh (pk q)) b (tr2 l v F P nP) i = 0)) = true then 0 else 52
      else putC np m (takeT F (T0 l v)) P nP
    else takeC np F (T0 l v) m
  else askT np pk m l v b
def tradeN : Nat := if tradeC np pk m l v F P nP b = 0 then m else 0
def tradeT : Nat → List Int := tr3 (fun q => rl (pk q)) (fun q => rh (pk q)) b (tr2 l v F P nP) m
def tradeM : List Int := if tradeC np pk m l v F P nP b = 0 then srt (movs (fun q => rl (pk q)) (fun q => rh (pk q)) b (tr2 l v F P nP) m) else []
end
theorem bestC_or (r0 r1 : Nat → Int) (b : Int) (L0 L1 : List Int) : bestC r0 r1 b L0 L1 = 0 ∨ bestC r0 r1 b L0 L1 = 52 := by
  unfold bestC
  split
  · exact .inl rfl
  · exact .inr rfl
abbrev TRx := TKx × (Option Addr × Nat)
def tradeF (x y n : Nat) (T : Nat → List Int) (M : List Int) (z : TRx) : List Fact := .blk y 24 [.slice z.2.1 M.length z.2.2] :: .blk x 23 [.slice z.1.1.1 n z.1.1.2] :: .own z.2.1 M.length z.2.2 3 1 (iL M) :: tiesX n T z.1
end Go.Proofs.YtljhdcclajikiaaGreatDoor
namespace Go.Proofs.YtljhdcclajikiaaGreatDoor
set_option linter.all false
set_option linter.unusedVariables false
set_option linter.unusedSimpArgs false
open Go.RowKit
theorem trade_no {M K : List Fact} {x y : Nat} {np m nP : Nat} {pk : Nat → Nat → Int} {l : Nat → Nat → Nat} {v : Nat → Nat → Nat → Int} {F : List Int} {P : Nat → Nat → Int} {b : Int} {w w' : World} {code : Int} (hc : code ≠ 0) (e : tradeC np pk m l v F P nP b = code) (hs : Sat (feet M) w K w') (hK : KSub K [.blk y 24 [.slice none 0 0], .blk x 23 [.slice none 0 0]]) :
    ∃ z : TRx, Sat (feet M) w (tradeF x y (tradeN np pk m l v F P nP b) (tradeT pk m l v F P nP b) (tradeM np pk m l v F P nP b) z) w' ∧ Ending.panicked (errs code) = if tradeC np pk m l v F P nP b = 0 then .returned (.tuple #[]) else .panicked (errs (tradeC np pk m l v F P nP b)) := by
  subst e
  refine ⟨(((none, 0), fun _ => none, fun _ => 0), (none, 0)), ?_, by rw [if_neg hc]⟩
  unfold tradeF tradeN tradeM
  rw [if_neg hc, if_neg hc]
  exact (hs.sub hK).sub (KSub.cons Pick.hd (KSub.cons Pick.hd (KSub.nilOwn (KSub.nilOwn KSub.nil))))
theorem tie_set2 {X : Nat → Option Addr} {T : Nat → List Int} {D : Nat → Nat} {i : Nat} {A1 A2 : Option Addr} {c1 c2 : Nat} {L1 L2 : List Int} (j : Nat) : updR (tieX X T D) i [.slice A1 L1.length c1, .slice A2 L2.length c2, .slice (X (3 * i + 2)) (T (3 * i + 2)).length (D (3 * i + 2))] j = tieX (updN (updN X (3 * i) A1) (3 * i + 1) A2) (updN (updN T (3 * i) L1) (3 * i + 1) L2) (updN (updN D (3 * i) c1) (3 * i + 1) c2) j := by
  unfold updR
  by_cases hj : j = i
  · subst hj
    rw [if_pos rfl]
    simp [tieX, updN]
  · rw [if_neg hj]
    unfold tieX updN
    repeat rw [if_neg (by omega)]
section
variable {np m nP : Nat} {pk : Nat → Nat → Int} {l : Nat → Nat → Nat} {v : Nat → Nat → Nat → Int} {F : List Int} {P : Nat → Nat → Int} {b : Int}
theorem T0_bd {n : Nat} (h : ∀ i, i < m → (∀ j, j < 3 → allB (l i j) (riseP (v i j) n) = true) ∧ tot (l i) 3 ≤ 10) : ∀ s, s < 3 * m → InxL (T0 l v s) n ∧ (T0 l v s).length ≤ 10 := fun s hs => by
  obtain ⟨h1, h2⟩ := h (s / 3) (by omega)
  rw [tot3] at h2
  refine ⟨inxL_toI (rise_inx (h1 (s % 3) (by omega))), ?_⟩
  unfold T0
  rw [toI_len]
  have : s % 3 = 0 ∨ s % 3 = 1 ∨ s % 3 = 2 := by omega
  rcases this with h | h | h <;> rw [h] <;> omega
end
set_option maxRecDepth 100000 in
set_option maxHeartbeats 8000000 in
theorem trade1_any {W0 w : World} {A AT Af AP : Option Addr} {np cp m cT nf cf nP cP bp bt bb bo bn x y : Nat} {pk : Nat → Nat → Int} {a : Nat → Nat → Option Addr} {l c : Nat → Nat → Nat} {v : Nat → Nat → Nat → Int} {F : List Int} {P : Nat → Nat → Int} {b : Int}
    (hL : Lay W0 A AT np m pk a l c v) (hF : RdR W0 1 Af nf (iL F)) (hnf : nf = F.length) (hf : nf ≤ 1000) (hPR : RdR W0 3 AP nP (fun k => putL (P k))) (hnP : nP ≤ 1000) (hP2 : ∀ k, k < nP → 0 ≤ P k 2)
    (hb : Below W0.heap.size W0 w) (hS : ∀ b ∈ [y, x], W0.heap.size ≤ b)
    (h1 : OldB w bp [.slice A np cp]) (h2 : OldB w bt [.slice AT m cT]) (h3 : OldB w bb [.int .i64 b]) (h4 : OldB w bo [.slice Af nf cf]) (h5 : OldB w bn [.slice AP nP cP]) (n1 : bp ∉ [y, x]) (n2 : bt ∉ [y, x]) (n3 : bb ∉ [y, x]) (n4 : bo ∉ [y, x]) (n5 : bn ∉ [y, x])
    (hM : Sat [y, x] w [.blk y 24 [.slice none 0 0], .blk x 23 [.slice none 0 0]] w) :
    Doing Tryz.prog 28 #[.pointer (some ⟨bp, 0, none⟩), .pointer (some ⟨bt, 0, none⟩), .pointer (some ⟨bb, 0, none⟩), .pointer (some ⟨bo, 0, none⟩), .pointer (some ⟨bn, 0, none⟩), .pointer (some ⟨x, 0, none⟩), .pointer (some ⟨y, 0, none⟩)] [.blk y 24 [.slice none 0 0], .blk x 23 [.slice none 0 0]] TRx
      (tradeF x y (tradeN np pk m l v F P nP b) (tradeT pk m l v F P nP b) (tradeM np pk m l v F P nP b)) (tradeC np pk m l v F P nP b) w := by
  have hnp := hL.hnp
  have hm := hL.hm
  have ap1 := apart_of n1
  have ap2 := apart_of n2
  have ap3 := apart_of n3
  have ap4 := apart_of n4
  have ap5 := apart_of n5
  refine K_enter (args := [.pointer (some ⟨bp, 0, none⟩), .pointer (some ⟨bt, 0, none⟩), .pointer (some ⟨bb, 0, none⟩), .pointer (some ⟨bo, 0, none⟩), .pointer (some ⟨bn, 0, none⟩), .pointer (some ⟨x, 0, none⟩), .pointer (some ⟨y, 0, none⟩)]) (S := [y, x]) (K := [.blk y 24 [.slice none 0 0], .blk x 23 [.slice none 0 0]]) Tryz.func28 rfl Tryz.ntmps28 rfl hM ?_
  refine TW.seq fun Y1 hY1 => ?_
  refine TW.region ?_
  refine TL.p (by first | exact (Pu.ld ty_sc22) | exact (Pu.ldo ty_sc22)) ?_
  refine TL.p (by first | exact (Pu.ld ty_sc23) | exact (Pu.ldo ty_sc23)) ?_
  refine TL.ct rfl (enters Tryz.func29 rfl rfl) (fun w hw => by
      exact (hL.ext (old_below hb hw hS)).check) (fun hp1 => ?_) (fun hp1 => ?_)
  rotate_left
  · have hp1' : checkV np pk m l v ≠ 0 := hp1
    have hcode : tradeC np pk m l v F P nP b = checkV np pk m l v := by unfold tradeC askT; rw [if_neg hp1', if_neg hp1']
    refine TQ.thenP ?_
    refine TQ.pan rfl ?_
    exact fun w hw => trade_no (by first | exact hp5 | exact hp4 | exact hp3 | exact hp2 | exact hp1) hcode hw (by repeat (first | exact KSub.nil | refine KSub.cons (by repeat (first | exact Pick.hd | apply Pick.tl)) ?_))
  refine TL.nil ?_
  refine TQ.thenN (hY1 _ _ ?_)
  refine TW.seq fun Y2 hY2 => ?_
  refine TW.region ?_
  refine TL.p (by first | exact (Pu.ld ty_sc3) | exact (Pu.ldo ty_sc3)) ?_
  refine TL.ct rfl (enters Tryz.func30 rfl rfl) (fun w hw => by
      exact bounded_any _ _) (fun hp2 => ?_) (fun hp2 => ?_)
  rotate_left
  · have hp1' : checkV np pk m l v = 0 := hp1
    have hcode : tradeC np pk m l v F P nP b = (if inB5 0 1000000000 b then 0 else 2) := by unfold tradeC askT; rw [if_pos hp1', if_neg hp2]
    refine TQ.thenP ?_
    refine TQ.pan rfl ?_
    exact fun w hw => trade_no (by first | exact hp5 | exact hp4 | exact hp3 | exact hp2 | exact hp1) hcode hw (by repeat (first | exact KSub.nil | refine KSub.cons (by repeat (first | exact Pick.hd | apply Pick.tl)) ?_))
  refine TL.nil ?_
  refine TQ.thenN (hY2 _ _ ?_)
  refine TW.seq fun Y3 hY3 => ?_
  refine TW.region ?_
  refine TL.p (by first | exact (Pu.ld ty_sc23) | exact (Pu.ldo ty_sc23)) ?_
  refine TL.p (by first | exact (Pu.ld ty_sc24) | exact (Pu.ldo ty_sc24)) ?_
  refine TL.p (by first | exact (Pu.ld ty_sc22) | exact (Pu.ldo ty_sc22)) ?_
  refine TL.p (Pu.ln Tryz.underlying22) ?_
  refine TL.ctk rfl (enters Tryz.func31 rfl rfl) (M := []) (List.Perm.refl _) (fun w hw => by
      have hLw := hL.ext (old_below hb hw hS)
      exact take_any hm hnf hf hnp hLw.hL hLw.hT hLw.hI (hF.chg (Chg.of_ext (old_below hb hw hS)) Apart.nil)) ?_ (fun hp3 => ?_)
  rotate_left
  · have hask : askT np pk m l v b = 0 := by unfold askT; rw [if_pos (show checkV np pk m l v = 0 from hp1)]; exact hp2
    have hcode : tradeC np pk m l v F P nP b = takeC np F (T0 l v) m := by unfold tradeC; rw [if_pos hask, if_neg hp3]
    refine TQ.thenP ?_
    refine TQ.pan rfl ?_
    exact fun w hw => trade_no (by first | exact hp5 | exact hp4 | exact hp3 | exact hp2 | exact hp1) hcode hw (by repeat (first | exact KSub.nil | refine KSub.cons (by repeat (first | exact Pick.hd | apply Pick.tl)) ?_))
  rintro ⟨⟨An, cn⟩, X, D⟩ hp3
  refine TL.perm List.perm_append_comm ?_
  refine TL.p Pu.as ?_
  refine TL.nil ?_
  refine TQ.thenN (hY3 _ _ ?_)
  refine TW.seq fun Y4 hY4 => ?_
  refine TW.region ?_
  refine TL.p Pu.mv ?_
  refine TL.p (by first | exact (Pu.ld ty_sc25) | exact (Pu.ldo ty_sc25)) ?_
  refine TL.p (by first | exact (Pu.ld ty_sc22) | exact (Pu.ldo ty_sc22)) ?_
  refine TL.p (Pu.ln Tryz.underlying22) ?_
  refine TL.ctk rfl (enters Tryz.func32 rfl rfl) (M := tiesX m (takeT F (T0 l v)) ((An, cn), X, D)) List.perm_append_comm (fun w hw => by
      obtain ⟨hself, hge⟩ := feet_new2 (M := tiesX m (takeT F (T0 l v)) ((An, cn), X, D)) (R := [.blk y 24 [.slice none 0 0], .blk x 23 [.slice none 0 0]]) hw List.perm_append_comm (by intro b hb9; simpa [feet, Fact.foot] using hb9)
      have hPw := hPR.chg (Chg.of_ext (old_below hb hw hS)) Apart.nil
      have hbd := T0_bd (l := l) (v := v) (check_ok hp1).2.2
      have hS9 : ∀ b9 ∈ feet (tiesX m (takeT F (T0 l v)) ((An, cn), X, D)), W0.heap.size ≤ b9 := fun b9 h9 => Nat.le_trans hb.size (hge b9 h9)
      exact put_any hm hnP hnp (fun s hs => Nat.le_trans takeT_len (by have := (hbd s hs).2; omega)) hP2 hPw (hPR.apart hS9) hself) ?_ (fun hp4 => ?_)
  rotate_left
  · have hask : askT np pk m l v b = 0 := by unfold askT; rw [if_pos (show checkV np pk m l v = 0 from hp1)]; exact hp2
    have hcode : tradeC np pk m l v F P nP b = putC np m (takeT F (T0 l v)) P nP := by unfold tradeC; rw [if_pos hask, if_pos hp3, if_neg hp4]
    refine TQ.thenP ?_
    refine TQ.pan rfl ?_
    exact fun w hw => trade_no (by first | exact hp5 | exact hp4 | exact hp3 | exact hp2 | exact hp1) hcode hw (by repeat (first | exact KSub.nil | refine KSub.cons (by repeat (first | exact Pick.hd | apply Pick.tl)) ?_))
  rintro ⟨X2, D2⟩ hp4
  refine TL.perm List.perm_append_comm ?_
  refine TL.nil ?_
  refine TQ.thenN (hY4 _ _ ?_)
  refine TW.seq fun Y5 hY5 => ?_
  refine TW.region ?_
  refine TL.p (by first | exact (Pu.ld ty_sc22) | exact (Pu.ldo ty_sc22)) ?_
  refine TL.call (M := []) rfl (enters Tryz.func33 rfl rfl) (List.Perm.refl _) rfl (fun w hw => by
      have hLw := hL.ext (old_below hb hw hS)
      exact rests_any hLw.hG hnp (check_ok hp1).2.1 hLw.hR) ?_
  rintro ⟨Ar, cr⟩
  generalize hT2 : putT (takeT F (T0 l v)) P nP = T2
  simp only [tiesX, List.cons_append, List.nil_append]
  refine TL.p Pu.as ?_
  refine TL.nil ?_
  refine TQ.thenN (hY5 _ _ ?_)
  refine TW.seq fun Y6 hY6 => ?_
  refine TW.region ?_
  refine TL.p Pu.as ?_
  refine TL.nil ?_
  refine TQ.thenN (hY6 _ _ ?_)
  refine TW.seq fun Y7 hY7 => ?_
  refine TW.seq fun Y8 hY8 => ?_
  refine TW.region ?_
  refine TL.p Pu.mv ?_
  refine TL.p (Pu.ln Tryz.underlying23) ?_
  refine TL.p Pu.mv ?_
  refine TL.nil ?_
  refine TQ.thenN (hY8 _ _ ?_)
  refine TW.block ?_
  obtain ⟨hok, hcnt⟩ := putC_ok hp4
  rw [hT2] at hcnt
  have hbd := T0_bd (l := l) (v := v) (check_ok hp1).2.2
  have hinx : ∀ s, s < 3 * m → InxL (T2 s) np := fun s hs => by
    rw [← hT2]
    exact putT_inx (fun s hs => (hbd s hs).1.filter) hok nP (Nat.le_refl _) s hs
  have hbb := need_yes (by decide) hp2
  simp only [inB5, Bool.and_eq_true, decide_eq_true_eq] at hbb
  have hRo := RestOk.of_packs (check_ok hp1).2.1
  have hask : askT np pk m l v b = 0 := by unfold askT; rw [if_pos (show checkV np pk m l v = 0 from hp1)]; exact hp2
  have hcodeD : tradeC np pk m l v F P nP b = if (allB m fun i => decide (trD (fun q => rl (pk q)) (fun q => rh (pk q)) b T2 i = 0)) = true then 0 else 52 := by
    unfold tradeC
    rw [if_pos hask, if_pos hp3, if_pos hp4, show tr2 l v F P nP = T2 from hT2]
  obtain ⟨r0, hr0⟩ : ∃ r : Nat → Int, r = fun q => rl (pk q) := ⟨_, rfl⟩
  obtain ⟨r1, hr1⟩ : ∃ r : Nat → Int, r = fun q => rh (pk q) := ⟨_, rfl⟩
  have hRr : (fun q => spL (rl (pk q)) (rh (pk q))) = fun q => spL (r0 q) (r1 q) := by rw [hr0, hr1]
  rw [← hr0, ← hr1] at hRo hcodeD
  have hTT : tradeT pk m l v F P nP b = tr3 r0 r1 b T2 m := by unfold tradeT; rw [show tr2 l v F P nP = T2 from hT2, ← hr0, ← hr1]
  have hMM : tradeC np pk m l v F P nP b = 0 → tradeM np pk m l v F P nP b = srt (movs r0 r1 b T2 m) := fun h => by unfold tradeM; rw [if_pos h, show tr2 l v F P nP = T2 from hT2, ← hr0, ← hr1]
  clear hr0 hr1
  have hml := movs_len (r0 := r0) (r1 := r1) (b := b) hcnt
  refine TW.loop6 (fun (i : Nat) (X : Nat → Option Addr) (D : Nat → Nat) (Am : Option Addr) (cm : Nat) (g : Nat) => [(33, .int .i64 (i : Int)), (32, .int .i64 (m : Int)), (31, .slice An m cn), (7, .slice An m cn), (8, .slice Ar np cr), (9, .slice Am g cm), (2, .pointer (some ⟨bb, 0, none⟩)), (5, .pointer (some ⟨x, 0, none⟩)), (6, .pointer (some ⟨y, 0, none⟩))]) (fun i X D Am cm g => .own Am g cm 3 1 (iL (movs r0 r1 b T2 i)) :: .own An m cn 34 3 (tieX X (tr3 r0 r1 b T2 i) D) :: .own Ar np cr 47 2 (fun q => spL (r0 q) (r1 q)) :: .blk y 24 [.slice none 0 0] :: .blk x 23 [.slice none 0 0] :: ownsT X (tr3 r0 r1 b T2 i) D (3 * m)) (fun i X D Am cm g => i ≤ m ∧ g = (movs r0 r1 b T2 i).length ∧ ∀ j, j < i → trD r0 r1 b T2 j = 0) (fun i X D Am cm g => m - i) 0 X2 D2 none 0 0 (by repeat (first | exact trivial | refine ⟨rfl, ?_⟩ | refine ⟨trivial, ?_⟩)) ?_ ?_ ?_
  · rw [hRr]
    refine KSub.nilOwn ?_
    repeat (first | refine KSub.cons (by repeat (first | exact Pick.hd | apply Pick.tl)) ?_ | exact KSub.refl _ | refine KSub.drop ?_)
  · exact ⟨Nat.zero_le _, rfl, fun j hj => by omega⟩
  rintro i X D Am cm g ⟨hi, hg, hall⟩ Z0 hZ0
  clear hRr
  have hmi := hml i hi
  refine TW.seq fun Y9 hY9 => ?_
  refine TW.region ?_
  refine TL.p Pu.lt ?_
  refine TL.nil ?_
  refine TQ.thenN (hY9 _ _ ?_)
  refine TW.seq fun Y10 hY10 => ?_
  refine TW.cond rfl (fun hc0 => ?_) (fun hc0 => ?_)
  · try simp only [decide_eq_true_eq, decide_eq_false_iff_not, Bool.not_eq_true', Bool.not_eq_false', Bool.and_eq_true, Bool.or_eq_true, Bool.and_eq_false_iff, Bool.or_eq_false_iff, Int.not_lt, Int.not_le] at hc0
    have him : i < m := by omega
    have hci := hcnt i him
    have m0 := ownsT_mem (X := X) (T := tr3 r0 r1 b T2 i) (D := D) (n := 3 * m) (show 3 * i < 3 * m by omega)
    have m1 := ownsT_mem (X := X) (T := tr3 r0 r1 b T2 i) (D := D) (n := 3 * m) (show 3 * i + 1 < 3 * m by omega)
    have i0 := hinx (3 * i) (by omega)
    have i1 := hinx (3 * i + 1) (by omega)
    have hcc : (T2 (3 * i)).length + (T2 (3 * i + 1)).length ≤ 10 := by unfold cnt3 at hci; omega
    have hbl := bestE_len (r0 := r0) (r1 := r1) (b := b) (L0 := T2 (3 * i)) (L1 := T2 (3 * i + 1))
    have hml2 := hml (i + 1) (by omega)
    have hmm : (movs r0 r1 b T2 (i + 1)).length = (movs r0 r1 b T2 i).length + (bestE r0 r1 b (T2 (3 * i)) (T2 (3 * i + 1))).1.length := by simp only [movs, List.length_append, trB]
    refine TW.skip ?_
    refine TQ.thenN (hY10 _ _ ?_)
    refine TW.seq fun Y11 hY11 => ?_
    refine TW.block ?_
    refine TW.seq fun Y12 hY12 => ?_
    refine TW.region ?_
    refine TL.p Pu.mv ?_
    refine TL.p (Pu.el ty_et23) ?_
    refine TL.p (by first | exact (Pu.lds ty_ag34) | exact (Pu.ldso ty_ag34)) ?_
    refine TL.m (Mk.al ty_zr34) ?_
    intro b1
    refine TL.p Pu.as ?_
    first | refine TL.st ty_sz34 ?_ | refine TL.se ty_sz34 ?_
    refine TL.nil ?_
    refine TQ.thenN (hY12 _ _ ?_)
    refine TW.seq fun Y13 hY13 => ?_
    refine TW.region ?_
    refine TL.p (by first | exact (Pu.lds ty_ag34) | exact (Pu.ldso ty_ag34)) ?_
    refine TL.p Pu.mv ?_
    refine TL.p Pu.bd ?_
    refine TL.m (Mk.al ty_zr84) ?_
    intro b2
    first | refine TL.st ty_sz84 ?_ | refine TL.se ty_sz84 ?_
    refine TL.nil ?_
    refine TQ.thenN (hY13 _ _ ?_)
    refine TW.seq fun Y14 hY14 => ?_
    refine TW.region ?_
    refine TL.p (by first | exact (Pu.lds ty_ag84) | exact (Pu.ldso ty_ag84)) ?_
    refine TL.p (by first | exact (Pu.ld ty_sc3) | exact (Pu.ldo ty_sc3)) ?_
    refine TL.ctk rfl (enters Tryz.func34 rfl rfl) (M := []) (List.Perm.refl _) (fun w hw => by
        have e0 : tr3 r0 r1 b T2 i (3 * i) = T2 (3 * i) := tr3_at (by omega)
        have e1 : tr3 r0 r1 b T2 i (3 * i + 1) = T2 (3 * i + 1) := tr3_at (by omega)
        have q0 := OwnR.rdr (hw.holds (.own (X (3 * i)) (tr3 r0 r1 b T2 i (3 * i)).length (D (3 * i)) 3 1 (iL (tr3 r0 r1 b T2 i (3 * i)))) (by simp [m0]))
        have q1 := OwnR.rdr (hw.holds (.own (X (3 * i + 1)) (tr3 r0 r1 b T2 i (3 * i + 1)).length (D (3 * i + 1)) 3 1 (iL (tr3 r0 r1 b T2 i (3 * i + 1)))) (by simp [m1]))
        rw [show iL (tr3 r0 r1 b T2 i (3 * i)) = iL (T2 (3 * i)) by rw [e0]] at q0
        rw [show iL (tr3 r0 r1 b T2 i (3 * i + 1)) = iL (T2 (3 * i + 1)) by rw [e1]] at q1
        exact settle_any (a := fun j => X (3 * i + j)) (l := fun j => (tr3 r0 r1 b T2 i (3 * i + j)).length) (c := fun j => D (3 * i + j)) (Ar := Ar) (cr := cr) (L0 := T2 (3 * i)) (L1 := T2 (3 * i + 1)) (by show (tr3 r0 r1 b T2 i (3 * i)).length = _; rw [e0]) (by show (tr3 r0 r1 b T2 i (3 * i + 1)).length = _; rw [e1]) (by show (tr3 r0 r1 b T2 i (3 * i)).length + (tr3 r0 r1 b T2 i (3 * i + 1)).length ≤ 30; rw [e0, e1]; omega) hRo (by omega) i0 i1 (OwnR.rdr (hw.holds (.own Ar np cr 47 2 (fun q => spL (r0 q) (r1 q))) (by simp))) q0 q1) ?_ (fun hp5 => ?_)
    rotate_left
    · have hcode : tradeC np pk m l v F P nP b = bestC r0 r1 b (T2 (3 * i)) (T2 (3 * i + 1)) := by
        rw [hcodeD]
        have h52 := (bestC_or r0 r1 b (T2 (3 * i)) (T2 (3 * i + 1))).resolve_left hp5
        have : (allB m fun i => decide (trD r0 r1 b T2 i = 0)) = false := by
          cases h : (allB m fun i => decide (trD r0 r1 b T2 i = 0)) with
          | false => rfl
          | true => exact absurd (of_decide_eq_true (allB_iff.1 h i him)) hp5
        rw [this, h52]
        rfl
      refine TQ.thenP ?_
      refine TQ.blkP ?_
      refine TQ.thenP ?_
      refine TQ.thenP ?_
      refine TQ.blkP ?_
      refine TQ.thenP ?_
      refine TQ.pan rfl ?_
      exact fun w hw => trade_no (by first | exact hp5 | exact hp4 | exact hp3 | exact hp2 | exact hp1) hcode hw (by repeat (first | exact KSub.nil | refine KSub.cons (by repeat (first | exact Pick.hd | apply Pick.tl)) ?_))
    rintro ⟨As, cs⟩ hp5
    refine TL.p Pu.as ?_
    refine TL.nil ?_
    refine TQ.thenN (hY14 _ _ ?_)
    refine TW.seq fun Y15 hY15 => ?_
    refine TW.region ?_
    refine TL.p Pu.mv ?_
    refine TL.p Pu.mv ?_
    first | refine TL.a0 ty_et24 ?_ | refine TL.ap ty_et24 ?_
    intro A3 c3
    refine TL.p Pu.as ?_
    refine TL.nil ?_
    refine TQ.thenN (hY15 _ _ ?_)
    refine TW.region ?_
    refine TL.p Pu.mv ?_
    refine TL.p Pu.mv ?_
    refine TL.p (by first | exact (Pu.lds ty_ag84) | exact (Pu.ldso ty_ag84)) ?_
    refine TL.p Pu.mv ?_
    refine TL.call (M := []) rfl (enters Tryz.func35 rfl rfl) (List.Perm.refl _) rfl (fun w hw => by
        have e0 : tr3 r0 r1 b T2 i (3 * i) = T2 (3 * i) := tr3_at (by omega)
        have e1 : tr3 r0 r1 b T2 i (3 * i + 1) = T2 (3 * i + 1) := tr3_at (by omega)
        have q0 := OwnR.rdr (hw.holds (.own (X (3 * i)) (tr3 r0 r1 b T2 i (3 * i)).length (D (3 * i)) 3 1 (iL (tr3 r0 r1 b T2 i (3 * i)))) (by simp [m0]))
        have q1 := OwnR.rdr (hw.holds (.own (X (3 * i + 1)) (tr3 r0 r1 b T2 i (3 * i + 1)).length (D (3 * i + 1)) 3 1 (iL (tr3 r0 r1 b T2 i (3 * i + 1)))) (by simp [m1]))
        rw [show iL (tr3 r0 r1 b T2 i (3 * i)) = iL (T2 (3 * i)) by rw [e0]] at q0
        rw [show iL (tr3 r0 r1 b T2 i (3 * i + 1)) = iL (T2 (3 * i + 1)) by rw [e1]] at q1
        exact moved_any (a := fun j => X (3 * i + j)) (l := fun j => (tr3 r0 r1 b T2 i (3 * i + j)).length) (c := fun j => D (3 * i + j)) (L0 := T2 (3 * i)) (L1 := T2 (3 * i + 1)) (M := (bestE r0 r1 b (T2 (3 * i)) (T2 (3 * i + 1))).1) (by show (tr3 r0 r1 b T2 i (3 * i)).length = _; rw [e0]) (by show (tr3 r0 r1 b T2 i (3 * i + 1)).length = _; rw [e1]) rfl (by show (tr3 r0 r1 b T2 i (3 * i)).length ≤ 1000; rw [e0]; omega) (by show (tr3 r0 r1 b T2 i (3 * i + 1)).length ≤ 1000; rw [e1]; omega) (by omega) q0 q1 (OwnR.rdr (hw.holds (.own As (bestE r0 r1 b (T2 (3 * i)) (T2 (3 * i + 1))).1.length cs 3 1 (iL (bestE r0 r1 b (T2 (3 * i)) (T2 (3 * i + 1))).1)) (by simp)))) ?_
    rintro ⟨⟨A1, c1⟩, ⟨A2, c2⟩⟩
    simp only [mvT, mvK, List.cons_append, List.nil_append]
    refine TL.p Pu.fd ?_
    refine TL.p (Pu.el ty_et23) ?_
    first | refine TL.st ty_sz34 ?_ | refine TL.se ty_sz34 ?_
    refine TL.nil ?_
    refine TQ.blkN ?_
    refine TQ.thenN (hY11 _ _ ?_)
    refine TW.region ?_
    have s0 : 3 * i < 3 * m := by omega
    have s1 : 3 * i + 1 < 3 * m := by omega
    obtain ⟨Ms, hMs⟩ : ∃ y, y = (bestE r0 r1 b (T2 (3 * i)) (T2 (3 * i + 1))).1 := ⟨_, rfl⟩
    simp only [← hMs]
    have hset1 := ownsT_set (X := X) (T := tr3 r0 r1 b T2 i) (D := D) (A := A1) (c2 := c1) (L := mvd (T2 (3 * i)) (T2 (3 * i + 1)) Ms) (r := iL (mvd (T2 (3 * i)) (T2 (3 * i + 1)) Ms)) s0 rfl (fun _ _ => rfl)
    have hset2 := ownsT_set (X := updN X (3 * i) A1) (T := updN (tr3 r0 r1 b T2 i) (3 * i) (mvd (T2 (3 * i)) (T2 (3 * i + 1)) Ms)) (D := updN D (3 * i) c1) (A := A2) (c2 := c2) (L := mvd (T2 (3 * i + 1)) (T2 (3 * i)) Ms) (r := iL (mvd (T2 (3 * i + 1)) (T2 (3 * i)) Ms)) s1 rfl (fun _ _ => rfl)
    refine TL.subK (K' := .own An m cn 34 3 (updR (tieX X (tr3 r0 r1 b T2 i) D) i [.slice A1 (mvd (T2 (3 * i)) (T2 (3 * i + 1)) Ms).length c1, .slice A2 (mvd (T2 (3 * i + 1)) (T2 (3 * i)) Ms).length c2, .slice (X (3 * i + 2)) (tr3 r0 r1 b T2 i (3 * i + 2)).length (D (3 * i + 2))]) :: .own A3 (g + Ms.length) c3 3 1 (catR g (iL (movs r0 r1 b T2 i)) (iL Ms)) :: .own Ar np cr 47 2 (fun q => spL (r0 q) (r1 q)) :: .blk y 24 [.slice none 0 0] :: .blk x 23 [.slice none 0 0] :: .own A2 (mvd (T2 (3 * i + 1)) (T2 (3 * i)) Ms).length c2 3 1 (iL (mvd (T2 (3 * i + 1)) (T2 (3 * i)) Ms)) :: .own A1 (mvd (T2 (3 * i)) (T2 (3 * i + 1)) Ms).length c1 3 1 (iL (mvd (T2 (3 * i)) (T2 (3 * i + 1)) Ms)) :: ownsT X (tr3 r0 r1 b T2 i) D (3 * m)) (by repeat (first | refine KSub.cons (by repeat (first | exact Pick.hd | apply Pick.tl)) ?_ | exact KSub.refl _ | refine KSub.drop ?_)) ?_
    refine TL.subK (KSub.cons Pick.hd (KSub.cons Pick.hd (KSub.cons Pick.hd (KSub.cons Pick.hd (KSub.cons Pick.hd (KSub.cons Pick.hd hset1)))))) ?_
    refine TL.subK (KSub.cons Pick.hd (KSub.cons Pick.hd (KSub.cons Pick.hd (KSub.cons Pick.hd (KSub.cons Pick.hd hset2))))) ?_
    refine TL.p Pu.ad ?_
    refine TL.p Pu.mv ?_
    refine TL.nil ?_
    refine TQ.thenN (hZ0 (i + 1) (updN (updN X (3 * i) A1) (3 * i + 1) A2) (updN (updN D (3 * i) c1) (3 * i + 1) c2) _ _ _ _ _ ?_ ?_ (by repeat (first | exact trivial | refine ⟨rfl, ?_⟩ | refine ⟨trivial, ?_⟩)) ?_)
    · refine ⟨by omega, by rw [hmm, ← hg, hMs], fun j hj => ?_⟩
      by_cases h : j = i
      · subst h; exact hp5
      · exact hall j (by omega)
    · exact (by first | omega | (simp only []; omega) | (simp; omega))
    · have e3 : tr3 r0 r1 b T2 (i + 1) = updN (updN (tr3 r0 r1 b T2 i) (3 * i) (mvd (T2 (3 * i)) (T2 (3 * i + 1)) Ms)) (3 * i + 1) (mvd (T2 (3 * i + 1)) (T2 (3 * i)) Ms) := by rw [hMs]; rfl
      have e4 : movs r0 r1 b T2 (i + 1) = movs r0 r1 b T2 i ++ Ms := by rw [hMs]; rfl
      rw [e3, e4]
      refine KSub.own (by repeat (first | exact Pick.hd | apply Pick.tl)) (fun q _ => iL_cat hg q) (KSub.own (by repeat (first | exact Pick.hd | apply Pick.tl)) (fun q _ => tie_set2 q) (KSub.cons (by repeat (first | exact Pick.hd | apply Pick.tl)) (KSub.cons (by repeat (first | exact Pick.hd | apply Pick.tl)) (KSub.cons (by repeat (first | exact Pick.hd | apply Pick.tl)) (KSub.refl _)))))
  · try simp only [decide_eq_true_eq, decide_eq_false_iff_not, Bool.not_eq_true', Bool.not_eq_false', Bool.and_eq_true, Bool.or_eq_true, Bool.and_eq_false_iff, Bool.or_eq_false_iff, Int.not_lt, Int.not_le] at hc0
    obtain rfl : m = i := by omega
    refine TW.exit ?_
    refine TQ.thenX ?_
    refine TQ.thenX ?_
    refine TQ.blkX ?_
    refine TQ.thenN (hY7 _ _ ?_)
    refine TW.seq fun Y16 hY16 => ?_
    refine TW.region ?_
    refine TL.p Pu.mv ?_
    refine TL.call rfl (enters Tryz.func36 rfl rfl) (M := [.own Am g cm 3 1 (iL (movs r0 r1 b T2 m))]) (List.Perm.refl _) rfl (fun w hw => by
        exact sortI_any hg (by omega) (hw.holds (.own Am g cm 3 1 (iL (movs r0 r1 b T2 m))) (List.mem_cons_self ..))) ?_
    intro _
    refine TL.nil ?_
    refine TQ.thenN (hY16 _ _ ?_)
    refine TW.region ?_
    refine TL.p Pu.mv ?_
    refine TL.p Pu.mv ?_
    first | refine TL.st ty_sz23 ?_ | refine TL.se ty_sz23 ?_
    first | refine TL.st ty_sz24 ?_ | refine TL.se ty_sz24 ?_
    refine TL.nil ?_
    refine TQ.end Tryz.results28 rfl (.nil) ?_
    have hc0' : tradeC np pk m l v F P nP b = 0 := by
      rw [hcodeD, if_pos (allB_iff.2 fun j hj => decide_eq_true (hall j hj))]
    have hMe := hMM hc0'
    have hNe : tradeN np pk m l v F P nP b = m := if_pos hc0'
    have hgl : g = (srt (movs r0 r1 b T2 m)).length := by rw [srt_len]; exact hg
    exact fun w hw => ⟨(((An, cn), X, D), (Am, cm)), by
      unfold tradeF
      rw [hMe, hNe, hTT, ← hgl]
      unfold tiesX
      exact hw.sub (by repeat (first | refine KSub.cons (by repeat (first | exact Pick.hd | apply Pick.tl)) ?_ | exact KSub.refl _ | refine KSub.drop ?_)), by rw [if_pos hc0']; rfl⟩
end Go.Proofs.YtljhdcclajikiaaGreatDoor
