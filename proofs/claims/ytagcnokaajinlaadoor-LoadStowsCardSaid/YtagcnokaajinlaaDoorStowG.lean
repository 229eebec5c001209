/-
  The reference of layer 5: spread: the loads of a way.
-/
import Derived.Test.YtagcnokaajinlaaDoorStowF
namespace Go.Proofs.YtagcnokaajinlaaDoor
set_option linter.all false
set_option linter.unusedVariables false
set_option linter.unusedSimpArgs false
open Go.RowKit
/-- What is left of a way's number behind m digits; the packs at side s by these digits; their worth. -/
def dg (P w : Nat) : Nat → Nat
  | 0 => w
  | m + 1 => dg P w m / P
def suf (P np w : Nat) : Nat → Nat → List Nat
  | 0, _ => []
  | m + 1, s => (if dg P w m % P = s + 1 then [np - m - 1] else []) ++ suf P np w m s
def accW (P np w : Nat) (wv : Nat → Int) : Nat → Int
  | 0 => 0
  | m + 1 => accW P np w wv m + (if dg P w m % P = 0 then 0 else wv (np - m - 1))
def ul (P np w m s : Nat) : Nat := (suf P np w m s).length
def uv (P np w m s k : Nat) : Int := ((suf P np w m s).getD k 0 : Nat)
theorem suf_side {P np w s : Nat} : ∀ {m : Nat}, m ≤ np → side P (np - m) (dg P w m) s ++ suf P np w m s = side P np w s
  | 0, _ => by simp [suf, dg]
  | m + 1, h => by
    have ih := suf_side (P := P) (np := np) (w := w) (s := s) (m := m) (by omega)
    rw [show np - m = (np - (m + 1)) + 1 by omega] at ih
    simp only [side] at ih
    simp only [suf, dg]
    rw [show np - m - 1 = np - (m + 1) by omega, ← List.append_assoc]
    exact ih
theorem accW_sum {P np w : Nat} {wv : Nat → Int} : ∀ {m : Nat}, m ≤ np → wsum P wv (np - m) (dg P w m) + accW P np w wv m = wsum P wv np w
  | 0, _ => by simp [accW, dg]
  | m + 1, h => by
    have ih := accW_sum (P := P) (np := np) (w := w) (wv := wv) (m := m) (by omega)
    rw [show np - m = (np - (m + 1)) + 1 by omega] at ih
    simp only [wsum] at ih
    simp only [accW, dg]
    rw [show np - m - 1 = np - (m + 1) by omega]
    omega
theorem suf_all {P np w s : Nat} : suf P np w np s = side P np w s := by
  have h := suf_side (P := P) (np := np) (w := w) (s := s) (m := np) (Nat.le_refl _)
  rw [Nat.sub_self] at h
  exact h
theorem accW_all {P np w : Nat} {wv : Nat → Int} : accW P np w wv np = wsum P wv np w := by
  have h := accW_sum (P := P) (np := np) (w := w) (wv := wv) (m := np) (Nat.le_refl _)
  rw [Nat.sub_self] at h
  simpa [wsum] using h
theorem ul_all {P np w : Nat} : ul P np w np = sln P np w := funext fun s => by unfold ul sln; rw [suf_all]
theorem uv_all {P np w : Nat} : uv P np w np = svl P np w := funext fun s => funext fun k => by unfold uv svl; rw [suf_all]
theorem ul_le {P np w : Nat} : ∀ {m s : Nat}, ul P np w m s ≤ m
  | 0, _ => by simp [ul, suf]
  | m + 1, s => by
    have := ul_le (P := P) (np := np) (w := w) (m := m) (s := s)
    unfold ul at *
    simp only [suf, List.length_append]
    split <;> simp <;> omega
theorem accW_bd {P np w : Nat} {wv : Nat → Int} (hw : ∀ k, k < np → 0 ≤ wv k ∧ wv k ≤ 1000000000000) : ∀ {m : Nat}, m ≤ np → 0 ≤ accW P np w wv m ∧ accW P np w wv m ≤ m * 1000000000000
  | 0, _ => by simp [accW]
  | m + 1, h => by
    have h1 := accW_bd (P := P) (w := w) hw (m := m) (by omega)
    have h2 := hw (np - m - 1) (by omega)
    simp only [accW]
    have e : ((m + 1 : Nat) : Int) * 1000000000000 = m * 1000000000000 + 1000000000000 := by omega
    split <;> omega
section
variable {P np w m s : Nat}
theorem ul_same (h : dg P w m % P ≠ s + 1) : ul P np w (m + 1) s = ul P np w m s := by unfold ul; simp only [suf, if_neg h, List.nil_append]
theorem uv_same (h : dg P w m % P ≠ s + 1) : uv P np w (m + 1) s = uv P np w m s := by funext k; unfold uv; simp only [suf, if_neg h, List.nil_append]
theorem ul_put (h : dg P w m % P = s + 1) : ul P np w (m + 1) s = 1 + ul P np w m s := by unfold ul; simp only [suf, if_pos h, List.length_append]; rfl
theorem uv_first (h : dg P w m % P = s + 1) : uv P np w (m + 1) s 0 = (np - m - 1 : Nat) := by unfold uv; simp only [suf, if_pos h]; rfl
theorem uv_next (h : dg P w m % P = s + 1) (k : Nat) : uv P np w (m + 1) s (k + 1) = uv P np w m s k := by unfold uv; simp only [suf, if_pos h]; rfl
end
section
variable {c : Cx} {F : Fr} {K : List Fact} {d : Option Tmp} {ty : TypeId} {pos : String} {af : Array Edge} {g : Option (Nat × Bool)} {x y : Operand} {xt yt : TypeId} {i j : Nat}
theorem Pu.rmN (hx : ev F x = some (.int .i64 (i : Int)) := by rfl) (hy : ev F y = some (.int .i64 (j : Int)) := by rfl) (h0 : 0 < j := by omega) : Pu c F K ⟨d, .binOp .rem xt x y yt, ty, pos, af, g⟩ (.int .i64 ((i % j : Nat) : Int)) := by
  rw [Int.natCast_emod]
  exact Pu.rm hx hy (by omega)
theorem Pu.quN (hx : ev F x = some (.int .i64 (i : Int)) := by rfl) (hy : ev F y = some (.int .i64 (j : Int)) := by rfl) (h0 : 0 < j := by omega) (h1 : i ≤ 9223372036854775807 := by omega) : Pu c F K ⟨d, .binOp .quo xt x y yt, ty, pos, af, g⟩ (.int .i64 ((i / j : Nat) : Int)) := by
  rw [Int.natCast_ediv]
  exact Pu.qu hx hy (by omega)
end
theorem dg_le {P w : Nat} : ∀ {m : Nat}, dg P w m ≤ w
  | 0 => Nat.le_refl _
  | m + 1 => Nat.le_trans (Nat.div_le_self _ _) dg_le
theorem nil_owns2 {K L : List Fact} {l : Nat → Nat} {v : Nat → Nat → Int} (hl : ∀ s, l s = 0) (h : KSub K L) : ∀ n, KSub K (ownsK (fun _ => none) l (fun _ => 0) v n ++ L)
  | 0 => h
  | n + 1 => by
    simp only [ownsK, hl, List.cons_append]
    exact KSub.nilOwn (nil_owns2 hl h n)
theorem pre_row {P np w m s k : Nat} {i : Int} (hi : i = (np - m - 1 : Nat)) (h : dg P w m % P = s + 1) : catR 1 (fun _ => [Value.int .i64 i]) (fun k => [.int .i64 (uv P np w m s k)]) k = [.int .i64 (uv P np w (m + 1) s k)] := by
  simp only [catR]
  cases k with
  | zero => rw [if_pos (by omega), uv_first h, hi]
  | succ k => rw [if_neg (by omega), uv_next h, Nat.add_sub_cancel]
theorem tieS_same {P np w m : Nat} {A : Nat → Option Addr} {c : Nat → Nat} (h : dg P w m % P = 0) : tieS A (ul P np w m) c = tieS A (ul P np w (m + 1)) c := by
  rw [show ul P np w (m + 1) = ul P np w m from funext fun s => ul_same (by omega)]
section
variable {P np w m k i : Nat} {A : Nat → Option Addr} {c : Nat → Nat} {A2 : Option Addr} {c2 : Nat}
theorem rowL (h : dg P w m % P = 2 * k + 1) : updR (tieS A (ul P np w m) c) k [.slice A2 (1 + ul P np w m (2 * k)) c2, .slice (A (2 * k + 1)) (ul P np w m (2 * k + 1)) (c (2 * k + 1)), .slice none 0 0] i = tieS (updN A (2 * k) A2) (ul P np w (m + 1)) (updN c (2 * k) c2) i := by
  unfold updR
  by_cases hi : i = k
  · subst hi
    have e1 : ¬ 2 * i + 1 = 2 * i := by omega
    rw [if_pos rfl]
    simp only [tieS, updN, if_true, if_neg e1]
    rw [ul_put h, ul_same (s := 2 * i + 1) (by omega)]
  · have e1 : ¬ 2 * i = 2 * k := by omega
    have e2 : ¬ 2 * i + 1 = 2 * k := by omega
    rw [if_neg hi]
    simp only [tieS, updN, if_neg e1, if_neg e2]
    rw [ul_same (s := 2 * i) (by omega), ul_same (s := 2 * i + 1) (by omega)]
theorem rowR (h : dg P w m % P = 2 * k + 1 + 1) : updR (tieS A (ul P np w m) c) k [.slice (A (2 * k)) (ul P np w m (2 * k)) (c (2 * k)), .slice A2 (1 + ul P np w m (2 * k + 1)) c2, .slice none 0 0] i = tieS (updN A (2 * k + 1) A2) (ul P np w (m + 1)) (updN c (2 * k + 1) c2) i := by
  unfold updR
  by_cases hi : i = k
  · subst hi
    have e1 : ¬ 2 * i = 2 * i + 1 := by omega
    rw [if_pos rfl]
    simp only [tieS, updN, if_true, if_neg e1]
    rw [ul_put h, ul_same (s := 2 * i) (by omega)]
  · have e1 : ¬ 2 * i = 2 * k + 1 := by omega
    have e2 : ¬ 2 * i + 1 = 2 * k + 1 := by omega
    rw [if_neg hi]
    simp only [tieS, updN, if_neg e1, if_neg e2]
    rw [ul_same (s := 2 * i) (by omega), ul_same (s := 2 * i + 1) (by omega)]
theorem owns_put {s l8 : Nat} {r : Nat → List Value} {n : Nat} (hs : s < n) (h : dg P w m % P = s + 1) (hl : l8 = 1 + ul P np w m s) (hr : ∀ j, r j = catR 1 (fun _ => [Value.int .i64 ((np - m - 1 : Nat) : Int)]) (fun k => [.int .i64 (uv P np w m s k)]) j) : KSub (.own A2 l8 c2 3 1 r :: (ownsX A (ul P np w m) c (uv P np w m) s n ++ [])) (ownsK (updN A s A2) (ul P np w (m + 1)) (updN c s c2) (uv P np w (m + 1)) n ++ []) :=
  ownsK_put (A := A) (A2 := updN A s A2) (l := ul P np w m) (l2 := ul P np w (m + 1)) (c := c) (c2 := updN c s c2) (v := uv P np w m) (v2 := uv P np w (m + 1)) (s := s) (if_pos rfl) (by rw [ul_put h, hl]) (if_pos rfl) (fun j _ => by rw [hr j]; exact pre_row rfl h) hs
    (fun j hj hne => ⟨(if_neg hne).symm, (ul_same (P := P) (np := np) (w := w) (m := m) (s := j) (by omega)).symm, (if_neg hne).symm, (uv_same (P := P) (np := np) (w := w) (m := m) (s := j) (by omega)).symm⟩)
end
set_option maxRecDepth 100000 in
set_option maxHeartbeats 1000000 in
theorem spread_any {w : World} {P np nc cv way : Nat} {Av : Option Addr} {wv : Nat → Int} (hnp : np ≤ 7) (hnc : nc ≤ 2) (hP : P ≤ 2 * nc + 1 ∧ 2 * nc + 1 ≤ P) (hway : way ≤ 1000000000) (hw : ∀ k, k < np → 0 ≤ wv k ∧ wv k ≤ 1000000000000) (hV : RdR w 1 Av np (fun k => [.int .i64 (wv k)])) :
    CallsK Tryd.prog 52 #[.int .i64 (way : Int), .int .i64 (P : Int), .int .i64 (np : Int), .int .i64 (nc : Int), .slice Av np cv] [] w TX (fun x => .tuple #[.slice x.1.1 nc x.1.2, .int .i64 (wsum P wv np way)]) (fun x => tiesL P np way nc x) := by
  refine K_enter (S := []) (K := []) Tryd.func52 rfl Tryd.ntmps52 rfl (Sat.start _) ?_
  refine TW.seq fun Y1 hY1 => ?_
  refine TW.region ?_
  refine TL.p Pu.as ?_
  refine TL.p Pu.as ?_
  refine TL.nil ?_
  refine TQ.thenN (hY1 _ _ ?_)
  refine TW.seq fun Y2 hY2 => ?_
  refine TW.region ?_
  refine TL.p Pu.mv ?_
  refine TL.ms (k := nc) ty_et27 ty_zr59 ?_ (hk := by omega)
  intro bm
  refine TL.p Pu.as ?_
  refine TL.nil ?_
  refine TQ.thenN (hY2 _ _ ?_)
  refine TW.seq fun Y3 hY3 => ?_
  refine TW.region ?_
  refine TL.p Pu.as ?_
  refine TL.nil ?_
  refine TQ.thenN (hY3 _ _ ?_)
  refine TW.seq fun Y4 hY4 => ?_
  refine TW.seq fun Y5 hY5 => ?_
  refine TW.region ?_
  refine TL.p Pu.mv ?_
  refine TL.p Pu.sb ?_
  refine TL.p Pu.as ?_
  refine TL.nil ?_
  refine TQ.thenN (hY5 _ _ ?_)
  refine TW.block ?_
  refine TW.loop3 (fun (m : Nat) (A : Nat → Option Addr) (c : Nat → Nat) => [(14, .int .i64 ((np : Int) - 1 - m)), (0, .int .i64 (dg P way m : Int)), (13, .int .i64 (accW P np way wv m)), (12, .slice (some ⟨bm, 0, none⟩) nc nc), (1, .int .i64 (P : Int)), (4, .slice Av np cv)]) (fun m A c => .own (some ⟨bm, 0, none⟩) nc nc 59 3 (tieS A (ul P np way m) c) :: (ownsK A (ul P np way m) c (uv P np way m) (2 * nc) ++ [])) (fun m A c => m ≤ np) (fun m A c => np - m) 0 (fun _ => none) (fun _ => 0) (by repeat (first | exact trivial | refine ⟨rfl, ?_⟩ | refine ⟨trivial, ?_⟩ | refine ⟨(by show some (Value.int _ _) = some (Value.int _ _); simp), ?_⟩)) ?_ ?_ ?_
  · exact KSub.own Pick.hd (fun i _ => rfl) (nil_owns2 (fun _ => rfl) KSub.nil _)
  · exact Nat.zero_le _
  rintro m A c hm Z0 hZ0
  refine TW.seq fun Y6 hY6 => ?_
  refine TW.seq fun Y7 hY7 => ?_
  refine TW.region ?_
  refine TL.p Pu.mv ?_
  refine TL.p Pu.ge ?_
  refine TL.nil ?_
  refine TQ.thenN (hY7 _ _ ?_)
  refine TW.cond rfl (fun hc0 => ?_) (fun hc0 => ?_)
  · try simp only [decide_eq_true_eq, decide_eq_false_iff_not, Bool.not_eq_true', Bool.not_eq_false', Bool.and_eq_true, Bool.or_eq_true, Bool.and_eq_false_iff, Bool.or_eq_false_iff, Int.not_lt, Int.not_le] at hc0
    have hmn : m < np := by omega
    have hwk := hw (np - m - 1) (by omega)
    have hac := accW_bd (P := P) (w := way) hw (m := m) (by omega)
    have hdl := dg_le (P := P) (w := way) (m := m)
    refine TW.skip ?_
    refine TQ.thenN (hY6 _ _ ?_)
    refine TW.seq fun Y8 hY8 => ?_
    refine TW.block ?_
    refine TW.seq fun Y9 hY9 => ?_
    refine TW.region ?_
    refine TL.p Pu.mv ?_
    refine TL.p Pu.mv ?_
    refine TL.p Pu.rmN ?_
    refine TL.p Pu.as ?_
    refine TL.nil ?_
    refine TQ.thenN (hY9 _ _ ?_)
    refine TW.seq fun Y10 hY10 => ?_
    refine TW.region ?_
    refine TL.p Pu.mv ?_
    refine TL.p Pu.mv ?_
    refine TL.p Pu.quN ?_
    refine TL.p Pu.as ?_
    refine TL.nil ?_
    refine TQ.thenN (hY10 _ _ ?_)
    refine TW.seq fun Y11 hY11 => ?_
    refine TW.seq fun Y12 hY12 => ?_
    refine TW.region ?_
    refine TL.p Pu.mv ?_
    refine TL.p Pu.eq ?_
    refine TL.nil ?_
    refine TQ.thenN (hY12 _ _ ?_)
    refine TW.cond rfl (fun hc1 => ?_) (fun hc1 => ?_)
    · try simp only [decide_eq_true_eq, decide_eq_false_iff_not, Bool.not_eq_true', Bool.not_eq_false', Bool.and_eq_true, Bool.or_eq_true, Bool.and_eq_false_iff, Bool.or_eq_false_iff, Int.not_lt, Int.not_le] at hc1
      have hd0 : dg P way m % P = 0 := by omega
      have hacc : accW P np way wv (m + 1) = accW P np way wv m := by simp only [accW, if_pos hd0]; omega
      obtain ⟨An, hAn⟩ : ∃ x, x = A := ⟨_, rfl⟩
      obtain ⟨cn, hcn⟩ : ∃ x, x = c := ⟨_, rfl⟩
      refine TW.exit ?_
      refine TQ.thenX ?_
      refine TQ.blkX ?_
      refine TQ.thenN (hY8 _ _ ?_)
      refine TW.region ?_
      refine TL.p Pu.mv ?_
      refine TL.p Pu.sb ?_
      refine TL.p Pu.as ?_
      refine TL.nil ?_
      refine TQ.thenN (hZ0 (m + 1) An cn _ _ ?_ ?_ (by repeat (first | exact trivial | refine ⟨rfl, ?_⟩ | refine ⟨trivial, ?_⟩ | refine ⟨(by show some (Value.int .i64 _) = some (Value.int .i64 _); congr 2; omega), ?_⟩)) ?_)
      · exact (by omega)
      · exact (by first | omega | (simp only []; omega) | (simp; omega))
      · subst hAn hcn
        have ei : (np : Int) - 1 - m = ((np - m - 1 : Nat) : Int) := by omega
        first
          | (rw [show ul P np way (m + 1) = ul P np way m from funext fun s => ul_same (by omega), show uv P np way (m + 1) = uv P np way m from funext fun s => uv_same (by omega)]; exact KSub.refl _)
          | exact KSub.own Pick.hd (fun i hi => rowL hkL) (owns_put (by omega) hkL rfl (fun j => by rw [ei]))
          | exact KSub.own Pick.hd (fun i hi => rowR hkR) (owns_put (by omega) hkR rfl (fun j => by rw [ei]))
    · try simp only [decide_eq_true_eq, decide_eq_false_iff_not, Bool.not_eq_true', Bool.not_eq_false', Bool.and_eq_true, Bool.or_eq_true, Bool.and_eq_false_iff, Bool.or_eq_false_iff, Int.not_lt, Int.not_le] at hc1
      have hd1 : dg P way m % P ≠ 0 := by omega
      have hdP : dg P way m % P < P := Nat.mod_lt _ (by omega)
      have hacc : accW P np way wv (m + 1) = accW P np way wv m + wv (np - m - 1) := by simp only [accW, if_neg hd1]
      refine TW.skip ?_
      refine TQ.thenN (hY11 _ _ ?_)
      refine TW.seq fun Y13 hY13 => ?_
      refine TW.region ?_
      refine TL.p Pu.mv ?_
      refine TL.p Pu.mv ?_
      refine TL.p Pu.mv ?_
      refine TL.p (Pu.el (q := np - m - 1) ty_et47 (hk := by omega)) ?_
      refine TL.p (Pu.ld ty_sc3) ?_
      refine TL.p Pu.ad ?_
      refine TL.p Pu.as ?_
      refine TL.nil ?_
      refine TQ.thenN (hY13 _ _ ?_)
      refine TW.seq fun Y14 hY14 => ?_
      refine TW.region ?_
      refine TL.p Pu.mv ?_
      refine TL.p Pu.sb ?_
      refine TL.p Pu.qu ?_
      refine TL.p Pu.as ?_
      refine TL.nil ?_
      refine TQ.thenN (hY14 _ _ ?_)
      refine TW.seq fun Y15 hY15 => ?_
      refine TW.region ?_
      refine TL.p Pu.mv ?_
      refine TL.p Pu.rm ?_
      refine TL.p Pu.eq ?_
      refine TL.nil ?_
      refine TQ.thenN (hY15 _ _ ?_)
      refine TW.cond rfl (fun hc2 => ?_) (fun hc2 => ?_)
      · try simp only [decide_eq_true_eq, decide_eq_false_iff_not, Bool.not_eq_true', Bool.not_eq_false', Bool.and_eq_true, Bool.or_eq_true, Bool.and_eq_false_iff, Bool.or_eq_false_iff, Int.not_lt, Int.not_le] at hc2
        obtain ⟨k, hkL⟩ : ∃ k, dg P way m % P = 2 * k + 1 := ⟨(dg P way m % P - 1) / 2, by omega⟩
        have hkn : k < nc := by omega
        have hul := ul_le (P := P) (np := np) (w := way) (m := m) (s := 2 * k)
        refine TW.region ?_
        refine TL.perm (by repeat (first | exact ownsK_perm2 (s := 2 * k) (by omega) | apply List.Perm.cons)) ?_
        refine TL.p Pu.mv ?_
        refine TL.p Pu.mv ?_
        refine TL.p Pu.mv ?_
        refine TL.m Mk.bl ?_
        intro b1
        refine TL.p Pu.mv ?_
        refine TL.p Pu.mv ?_
        refine TL.p (Pu.el (q := k) ty_et27 (hk := by omega)) ?_
        refine TL.p (by first | exact Pu.fb ty_fa59_0 | exact Pu.fe ty_fa59_0) ?_
        refine TL.p (Pu.ld ty_sc47) ?_
        refine TL.subK (KSub.ofBlk (n := 1) (sz := 1) (r := fun _ => [.int .i64 ((np : Int) - 1 - m)]) Pick.hd rfl (fun _ _ => rfl) rfl rfl (KSub.refl _)) ?_
        first | refine TL.a0 ty_et47 ?_ | refine TL.ap ty_et47 ?_
        intro A2 c2
        refine TL.subK (KSub.cons Pick.hd (KSub.cons Pick.hd (KSub.drop (KSub.refl _)))) ?_
        obtain ⟨An, hAn⟩ : ∃ x, x = updN A (2 * k) A2 := ⟨_, rfl⟩
        obtain ⟨cn, hcn⟩ : ∃ x, x = updN c (2 * k) c2 := ⟨_, rfl⟩
        refine TL.p (Pu.el (q := k) ty_et27 (hk := by omega)) ?_
        refine TL.p (by first | exact Pu.fb ty_fa59_0 | exact Pu.fe ty_fa59_0) ?_
        first | refine TL.st ty_sz47 ?_ | refine TL.se ty_sz47 ?_
        refine TL.nil ?_
        refine TQ.blkN ?_
        refine TQ.thenN (hY8 _ _ ?_)
        refine TW.region ?_
        refine TL.p Pu.mv ?_
        refine TL.p Pu.sb ?_
        refine TL.p Pu.as ?_
        refine TL.nil ?_
        refine TQ.thenN (hZ0 (m + 1) An cn _ _ ?_ ?_ (by repeat (first | exact trivial | refine ⟨rfl, ?_⟩ | refine ⟨trivial, ?_⟩ | refine ⟨(by show some (Value.int .i64 _) = some (Value.int .i64 _); congr 2; omega), ?_⟩)) ?_)
        · exact (by omega)
        · exact (by first | omega | (simp only []; omega) | (simp; omega))
        · subst hAn hcn
          have ei : (np : Int) - 1 - m = ((np - m - 1 : Nat) : Int) := by omega
          first
            | (rw [show ul P np way (m + 1) = ul P np way m from funext fun s => ul_same (by omega), show uv P np way (m + 1) = uv P np way m from funext fun s => uv_same (by omega)]; exact KSub.refl _)
            | exact KSub.own Pick.hd (fun i hi => rowL hkL) (owns_put (by omega) hkL rfl (fun j => by rw [ei]))
            | exact KSub.own Pick.hd (fun i hi => rowR hkR) (owns_put (by omega) hkR rfl (fun j => by rw [ei]))
      · try simp only [decide_eq_true_eq, decide_eq_false_iff_not, Bool.not_eq_true', Bool.not_eq_false', Bool.and_eq_true, Bool.or_eq_true, Bool.and_eq_false_iff, Bool.or_eq_false_iff, Int.not_lt, Int.not_le] at hc2
        obtain ⟨k, hkR⟩ : ∃ k, dg P way m % P = 2 * k + 1 + 1 := ⟨(dg P way m % P - 1) / 2, by omega⟩
        have hkn : k < nc := by omega
        have hul := ul_le (P := P) (np := np) (w := way) (m := m) (s := 2 * k + 1)
        refine TW.region ?_
        refine TL.perm (by repeat (first | exact ownsK_perm2 (s := 2 * k + 1) (by omega) | apply List.Perm.cons)) ?_
        refine TL.p Pu.mv ?_
        refine TL.p Pu.mv ?_
        refine TL.p Pu.mv ?_
        refine TL.m Mk.bl ?_
        intro b3
        refine TL.p Pu.mv ?_
        refine TL.p Pu.mv ?_
        refine TL.p (Pu.el (q := k) ty_et27 (hk := by omega)) ?_
        refine TL.p (by first | exact Pu.fb ty_fa59_1 | exact Pu.fe ty_fa59_1) ?_
        refine TL.p (Pu.ld ty_sc47) ?_
        refine TL.subK (KSub.ofBlk (n := 1) (sz := 1) (r := fun _ => [.int .i64 ((np : Int) - 1 - m)]) Pick.hd rfl (fun _ _ => rfl) rfl rfl (KSub.refl _)) ?_
        first | refine TL.a0 ty_et47 ?_ | refine TL.ap ty_et47 ?_
        intro A4 c4
        refine TL.subK (KSub.cons Pick.hd (KSub.cons Pick.hd (KSub.drop (KSub.refl _)))) ?_
        obtain ⟨An, hAn⟩ : ∃ x, x = updN A (2 * k + 1) A4 := ⟨_, rfl⟩
        obtain ⟨cn, hcn⟩ : ∃ x, x = updN c (2 * k + 1) c4 := ⟨_, rfl⟩
        refine TL.p (Pu.el (q := k) ty_et27 (hk := by omega)) ?_
        refine TL.p (by first | exact Pu.fb ty_fa59_1 | exact Pu.fe ty_fa59_1) ?_
        first | refine TL.st ty_sz47 ?_ | refine TL.se ty_sz47 ?_
        refine TL.nil ?_
        refine TQ.blkN ?_
        refine TQ.thenN (hY8 _ _ ?_)
        refine TW.region ?_
        refine TL.p Pu.mv ?_
        refine TL.p Pu.sb ?_
        refine TL.p Pu.as ?_
        refine TL.nil ?_
        refine TQ.thenN (hZ0 (m + 1) An cn _ _ ?_ ?_ (by repeat (first | exact trivial | refine ⟨rfl, ?_⟩ | refine ⟨trivial, ?_⟩ | refine ⟨(by show some (Value.int .i64 _) = some (Value.int .i64 _); congr 2; omega), ?_⟩)) ?_)
        · exact (by omega)
        · exact (by first | omega | (simp only []; omega) | (simp; omega))
        · subst hAn hcn
          have ei : (np : Int) - 1 - m = ((np - m - 1 : Nat) : Int) := by omega
          first
            | (rw [show ul P np way (m + 1) = ul P np way m from funext fun s => ul_same (by omega), show uv P np way (m + 1) = uv P np way m from funext fun s => uv_same (by omega)]; exact KSub.refl _)
            | exact KSub.own Pick.hd (fun i hi => rowL hkL) (owns_put (by omega) hkL rfl (fun j => by rw [ei]))
            | exact KSub.own Pick.hd (fun i hi => rowR hkR) (owns_put (by omega) hkR rfl (fun j => by rw [ei]))
  · try simp only [decide_eq_true_eq, decide_eq_false_iff_not, Bool.not_eq_true', Bool.not_eq_false', Bool.and_eq_true, Bool.or_eq_true, Bool.and_eq_false_iff, Bool.or_eq_false_iff, Int.not_lt, Int.not_le] at hc0
    obtain rfl : np = m := by omega
    refine TW.exit ?_
    refine TQ.thenX ?_
    refine TQ.thenX ?_
    refine TQ.blkX ?_
    refine TQ.thenN (hY4 _ _ ?_)
    refine TW.seq fun Y16 hY16 => ?_
    refine TW.region ?_
    refine TL.p Pu.mv ?_
    refine TL.p Pu.mv ?_
    refine TL.p Pu.as ?_
    refine TL.p Pu.as ?_
    refine TL.nil ?_
    refine TQ.thenN (hY16 _ _ ?_)
    refine TW.ret ?_
    refine TQ.ret Tryd.results52 rfl ((.tmp rfl (.tmp rfl .nil))) ?_
    exact fun w hw => ⟨((some ⟨bm, 0, none⟩, nc), A, c), by rw [← accW_all]; rfl, by
      have h := hw
      rw [List.append_nil, ul_all, uv_all] at h
      exact h⟩
end Go.Proofs.YtagcnokaajinlaaDoor
