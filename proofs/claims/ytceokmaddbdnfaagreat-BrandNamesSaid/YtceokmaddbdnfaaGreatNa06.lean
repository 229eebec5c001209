/-
  Part 6 of the proof of brandNames_holds: declarations of several texts, in build order. No condition on a program.
-/
import Derived.Test.YtceokmaddbdnfaaGreatNa05
import Derived.Test.YtceokmaddbdnfaaGreatNa04
import Derived.IntWalk
import Derived.Test.YtceokmaddbdnfaaGreatNa03
namespace Go.Proofs.YtceokmaddbdnfaaGreat
set_option linter.all false
set_option linter.unusedVariables false
set_option linter.unusedSimpArgs false
section
variable {H : Hd} {L : Nat → Lk} {nc nl : Nat} {dm yg : Nat → Int}
def mayL (H : Hd) (L : Nat → Lk) (i : Nat) : List Nat := (List.range H.n).filter (maB H (L i))
theorem mem_mayL {i k : Nat} : k ∈ mayL H L i ↔ k < H.n ∧ maB H (L i) k = true := by simp [mayL]
theorem mayL_len {i : Nat} : (mayL H L i).length ≤ H.n := by
 have := List.length_filter_le (maB H (L i)) (List.range H.n)
 rwa [List.length_range] at this
def mayK (H : Hd) (L : Nat → Lk) (i k : Nat) : List Nat := (List.range k).filter (maB H (L i))
theorem mayK_succ {i k : Nat} : mayK H L i (k + 1) = if maB H (L i) k = true then mayK H L i k ++ [k] else mayK H L i k := by
 unfold mayK
 rw [List.range_succ, List.filter_append]
 by_cases h : maB H (L i) k = true
 · rw [if_pos h]; simp [h]
 · rw [if_neg h]; simp [h]
theorem mayK_len {i k : Nat} : (mayK H L i k).length ≤ k := by
 have := List.length_filter_le (maB H (L i)) (List.range k)
 rwa [List.length_range] at this
def totN (H : Hd) (L : Nat → Lk) : Nat → Nat
 | 0 => 1
 | k + 1 => totN H L k * (mayL H L k).length
def rstT (H : Hd) (L : Nat → Lk) (t : Nat) : Nat → Nat
 | 0 => t
 | k + 1 => rstT H L t k / (mayL H L k).length
def atT (H : Hd) (L : Nat → Lk) (t : Nat) : Nat → List Nat
 | 0 => []
 | k + 1 => atT H L t k ++ [(mayL H L k).getD (rstT H L t k % (mayL H L k).length) 0]
theorem atT_len {t : Nat} : ∀ k, (atT H L t k).length = k
 | 0 => rfl
 | k + 1 => by simp only [atT, List.length_append, List.length_singleton, atT_len k]
theorem tot_le (h16 : H.n ≤ 16) : ∀ k, totN H L k ≤ 16 ^ k
 | 0 => Nat.le_refl _
 | k + 1 => by
  have h1 := tot_le h16 k
  have h2 := mayL_len (H := H) (L := L) (i := k)
  simp only [totN, Nat.pow_succ]
  exact Nat.mul_le_mul h1 (by omega)
theorem tot_pos {k : Nat} : ∀ {n}, 0 < totN H L n → k < n → 0 < (mayL H L k).length
 | 0, _, hk => absurd hk (Nat.not_lt_zero k)
 | n + 1, h, hk => by
  simp only [totN] at h
  have h1 : 0 < totN H L n := Nat.pos_of_mul_pos_right h
  have h2 : 0 < (mayL H L n).length := Nat.pos_of_mul_pos_left h
  by_cases e : k = n
  · subst e; exact h2
  · exact tot_pos h1 (by omega)
theorem getD_mem9 {A : List Nat} {j : Nat} (h : j < A.length) : A.getD j 0 ∈ A := by
 rw [List.getD_eq_getElem?_getD, List.getElem?_eq_getElem h]
 exact List.getElem_mem h
theorem atT_in {t k j : Nat} (hp : ∀ i, i < k → 0 < (mayL H L i).length) (hj : j < k) : (atT H L t k).getD j 0 ∈ mayL H L j := by
  induction k with
  | zero => omega
  | succ k ih =>
    simp only [atT]
    by_cases e : j = k
    · subst e
      have e2 := getD_apps (a := atT H L t j) (b := []) (i := (mayL H L j).getD (rstT H L t j % (mayL H L j).length) 0)
      rw [atT_len] at e2
      rw [e2]
      exact getD_mem9 (Nat.mod_lt _ (hp j (by omega)))
    · rw [getD_appl (by rw [atT_len]; omega)]
      exact ih (fun i hi => hp i (by omega)) (by omega)
theorem atT_all {x : List Nat} : ∀ {k}, k ≤ x.length → (∀ i, i < k → x.getD i 0 ∈ mayL H L i) → ∃ t, t < totN H L k ∧ ∀ q, atT H L (t + q * totN H L k) k = x.take k ∧ rstT H L (t + q * totN H L k) k = q
 | 0, _, _ => ⟨0, Nat.one_pos, fun q => ⟨by simp [atT], by simp [rstT, totN]⟩⟩
 | k + 1, hk, hm => by
  obtain ⟨t, ht, ih⟩ := atT_all (k := k) (by omega) fun i hi => hm i (by omega)
  obtain ⟨j, hj, e⟩ := mem_nat_getD.1 (hm k (by omega))
  refine ⟨t + j * totN H L k, ?_, fun q => ?_⟩
  · simp only [totN]
    have : totN H L k * (j + 1) ≤ totN H L k * (mayL H L k).length := Nat.mul_le_mul_left _ hj
    rw [Nat.mul_add, Nat.mul_one, Nat.mul_comm] at this
    omega
  · have e1 : t + j * totN H L k + q * totN H L (k + 1) = t + (j + q * (mayL H L k).length) * totN H L k := by
     simp only [totN]
     rw [Nat.add_mul, Nat.add_assoc, Nat.mul_assoc, Nat.mul_comm (totN H L k) (mayL H L k).length]
    obtain ⟨h1, h2⟩ := ih (j + q * (mayL H L k).length)
    rw [e1]
    simp only [atT, rstT]
    rw [h1, h2, Nat.add_mul_mod_self_right, Nat.mod_eq_of_lt hj, e, Nat.add_mul_div_right _ _ (by omega), Nat.div_eq_of_lt hj, Nat.zero_add]
    refine ⟨?_, rfl⟩
    rw [List.take_succ, List.getD_eq_getElem?_getD, List.getElem?_eq_getElem (by omega)]
    rfl
def nm1B (H : Hd) (L : Nat → Lk) (x : List Nat) (i : Nat) : Bool := (allB i fun k => !decide (x.getD k 0 = x.getD i 0)) && maB H (L i) (x.getD i 0)
def nm2B (H : Hd) (dm yg : Nat → Int) (x : List Nat) (c : Nat) : Bool := decide (H.mo (x.getD (yg c).toNat 0) = H.id (x.getD (dm c).toNat 0))
def nmdB (H : Hd) (L : Nat → Lk) (nl nc : Nat) (dm yg : Nat → Int) (x : List Nat) : Bool := allB nl (nm1B H L x) && allB nc (nm2B H dm yg x) && bthOk (moH H) H.n (nrw L (bornH H) 0 x)
theorem mo_id (hk : HOk H) {i j : Nat} (hi : i < H.n) (hj : j < H.n) : H.mo i = H.id j ↔ moH H i = (j : Int) := by
 have hid := hk.id j hj
 constructor
 · intro h
   unfold moH
   rw [if_neg (by omega), h]
   exact hk.at_ j hj
 · intro h
   have h0 : 0 ≤ moH H i := by omega
   obtain ⟨h1, h2, h3⟩ := hk.mid hi h0
   rw [← h1, h]
   simp
theorem nmdB_iff (hk : HOk H) (hc : cvB nl nc dm yg = true) {x : List Nat} (hx : x.length = nl) (hb : ∀ k, k < nl → x.getD k 0 < H.n) : nmdB H L nl nc dm yg x = true ↔ Vld H L nl nc dm yg x := by
 have hc : ∀ c, c < nc → (0 ≤ dm c ∧ dm c < nl) ∧ (0 ≤ yg c ∧ yg c < nl) := fun c h => by
   have := allB_iff.1 hc c h
   simp only [inB5, Bool.and_eq_true, decide_eq_true_eq] at this
   omega
 unfold nmdB
 simp only [Bool.and_eq_true, allB_iff]
 constructor
 · rintro ⟨⟨h1, h2⟩, h3⟩
   have h1' : ∀ i, i < nl → (∀ k, k < i → x.getD k 0 ≠ x.getD i 0) ∧ maB H (L i) (x.getD i 0) = true := fun i hi => by
     have := h1 i hi
     unfold nm1B at this
     simp only [Bool.and_eq_true, allB_iff, Bool.not_eq_true', decide_eq_false_iff_not] at this
     exact this
   refine ⟨hx, hb, fun k h => (h1' k h).2, fun k j h h4 => (h1' j h4).1 k h, fun c h => ?_, h3⟩
   have h5 := h2 c h
   unfold nm2B at h5
   obtain ⟨h6, h7⟩ := hc c h
   exact (mo_id hk (hb _ (by omega)) (hb _ (by omega))).1 (of_decide_eq_true h5)
 · intro h
   refine ⟨⟨fun i hi => ?_, fun c hcn => ?_⟩, h.bt⟩
   · unfold nm1B
     simp only [Bool.and_eq_true, allB_iff, Bool.not_eq_true', decide_eq_false_iff_not]
     exact ⟨fun k hk => h.nd k i hk hi, h.ma i hi⟩
   · unfold nm2B
     obtain ⟨h6, h7⟩ := hc c hcn
     exact decide_eq_true ((mo_id hk (hb _ (by omega)) (hb _ (by omega))).2 (h.kn c hcn))
def isT (H : Hd) (L : Nat → Lk) (nl nc : Nat) (dm yg : Nat → Int) (i : Nat) (v : Int) : Nat → Bool
 | 0 => false
 | t + 1 => isT H L nl nc dm yg i v t || nmdB H L nl nc dm yg (atT H L t nl) && decide (H.id ((atT H L t nl).getD i 0) = v)
def fndT (H : Hd) (L : Nat → Lk) (nl nc : Nat) (dm yg : Nat → Int) : Nat → Bool
 | 0 => false
 | t + 1 => fndT H L nl nc dm yg t || nmdB H L nl nc dm yg (atT H L t nl)
theorem isT_iff {i : Nat} {v : Int} : ∀ {t}, isT H L nl nc dm yg i v t = true ↔ ∃ s, s < t ∧ nmdB H L nl nc dm yg (atT H L s nl) = true ∧ H.id ((atT H L s nl).getD i 0) = v
 | 0 => by simp [isT]
 | t + 1 => by
  simp only [isT, Bool.or_eq_true, Bool.and_eq_true, decide_eq_true_eq, isT_iff (t := t)]
  constructor
  · rintro (⟨s, h1, h2⟩ | h)
    · exact ⟨s, by omega, h2⟩
    · exact ⟨t, by omega, h⟩
  · rintro ⟨s, h1, h2⟩
    by_cases e : s = t
    · subst e; exact .inr h2
    · exact .inl ⟨s, by omega, h2⟩
theorem fndT_iff : ∀ {t}, fndT H L nl nc dm yg t = true ↔ ∃ s, s < t ∧ nmdB H L nl nc dm yg (atT H L s nl) = true
 | 0 => by simp [fndT]
 | t + 1 => by
  simp only [fndT, Bool.or_eq_true, fndT_iff (t := t)]
  constructor
  · rintro (⟨s, h1, h2⟩ | h)
    · exact ⟨s, by omega, h2⟩
    · exact ⟨t, by omega, h⟩
  · rintro ⟨s, h1, h2⟩
    by_cases e : s = t
    · subst e; exact .inr h2
    · exact .inl ⟨s, by omega, h2⟩
theorem tried (hk : HOk H) (hc : cvB nl nc dm yg = true) {x : List Nat} : Vld H L nl nc dm yg x ↔ ∃ s, s < totN H L nl ∧ nmdB H L nl nc dm yg (atT H L s nl) = true ∧ atT H L s nl = x := by
 constructor
 · intro h
   obtain ⟨t, ht, h1⟩ := atT_all (H := H) (L := L) (x := x) (k := nl) (by rw [h.len]; exact Nat.le_refl _) fun i hi => mem_mayL.2 ⟨h.bd i hi, h.ma i hi⟩
   have h2 := (h1 0).1
   rw [Nat.zero_mul, Nat.add_zero, List.take_of_length_le (by rw [h.len]; exact Nat.le_refl _)] at h2
   exact ⟨t, ht, by rw [h2]; exact (nmdB_iff hk hc h.len h.bd).2 h, h2⟩
 · rintro ⟨s, hs, h1, rfl⟩
   refine (nmdB_iff hk hc (atT_len _) fun k hkn => ?_).1 h1
   exact (mem_mayL.1 (atT_in (fun i hi => tot_pos (by omega) hi) hkn)).1
def refL (H : Hd) (L : Nat → Lk) (nl nc : Nat) (dm yg : Nat → Int) (i : Nat) : Nat → List Int
 | 0 => []
 | k + 1 => if isT H L nl nc dm yg i (k : Int) (totN H L nl) = true then refL H L nl nc dm yg i k ++ [(k : Int)] else refL H L nl nc dm yg i k
theorem mem_refL {i : Nat} {v : Int} : ∀ {k}, v ∈ refL H L nl nc dm yg i k ↔ (0 ≤ v ∧ v < k) ∧ isT H L nl nc dm yg i v (totN H L nl) = true
 | 0 => by simp only [refL, List.not_mem_nil, false_iff]; omega
 | k + 1 => by
  have ih := mem_refL (i := i) (v := v) (k := k)
  simp only [refL]
  by_cases e : isT H L nl nc dm yg i (k : Int) (totN H L nl) = true
  · rw [if_pos e, List.mem_append, ih, List.mem_singleton]
    constructor
    · rintro (h | rfl)
      · exact ⟨by omega, h.2⟩
      · exact ⟨by omega, e⟩
    · rintro ⟨h1, h2⟩
      by_cases e2 : v = k
      · exact .inr e2
      · exact .inl ⟨by omega, h2⟩
  · rw [if_neg e, ih]
    constructor
    · rintro ⟨h1, h2⟩; exact ⟨by omega, h2⟩
    · rintro ⟨h1, h2⟩
      refine ⟨?_, h2⟩
      by_cases e2 : v = k
      · subst e2; exact absurd h2 e
      · omega
theorem refL_asc {i : Nat} : ∀ {k}, (refL H L nl nc dm yg i k).Pairwise (· < ·)
  | 0 => List.Pairwise.nil
  | k + 1 => by
    have ih := refL_asc (i := i) (k := k)
    simp only [refL]
    split
    · refine List.pairwise_append.2 ⟨ih, by simp, fun a ha b hb => ?_⟩
      have := (mem_refL.1 ha).1
      have := List.mem_singleton.1 hb
      omega
    · exact ih
theorem refL_len {i : Nat} : ∀ {k}, (refL H L nl nc dm yg i k).length ≤ k
 | 0 => Nat.le_refl _
 | k + 1 => by
  have ih := refL_len (i := i) (k := k)
  simp only [refL]
  split
  · simp only [List.length_append, List.length_singleton]; omega
  · omega
theorem ref_names (hk : HOk H) (hc : cvB nl nc dm yg = true) {i : Nat} (hi : i < nl) : refL H L nl nc dm yg i 10000 = nmL H nl L nc dm yg i := by
 refine asc_uniq refL_asc idsL_asc fun v => ?_
 rw [mem_refL, nmL_mem hk hc, isT_iff]
 constructor
 · rintro ⟨_, s, h1, h2, h3⟩
   exact ⟨_, (tried hk hc).2 ⟨s, h1, h2, rfl⟩, h3⟩
 · rintro ⟨a, ha, e⟩
   obtain ⟨s, h1, h2, rfl⟩ := (tried hk hc).1 ha
   have := hk.id _ (ha.bd i hi)
   exact ⟨by omega, s, h1, h2, e⟩
theorem nmL_len (hk : HOk H) (hc : cvB nl nc dm yg = true) {i : Nat} (hi : i < nl) : (nmL H nl L nc dm yg i).length ≤ 10000 := by
 rw [← ref_names hk hc hi]
 exact refL_len
theorem ref_none (hk : HOk H) (hc : cvB nl nc dm yg = true) : fndT H L nl nc dm yg (totN H L nl) = decide ((nmR H nl L nc dm yg).length ≠ 0) := by
 rw [Bool.eq_iff_iff, fndT_iff, decide_eq_true_eq]
 constructor
 · rintro ⟨s, h1, h2⟩ h0
   have := (srch_vld hk hc).2 ((tried hk hc).2 ⟨s, h1, h2, rfl⟩)
   have h3 : nmR H nl L nc dm yg = [] := List.length_eq_zero_iff.1 h0
   unfold nmR at h3
   rw [h3] at this
   cases this
 · intro h0
   obtain ⟨x, hx⟩ := List.exists_mem_of_length_pos (Nat.pos_of_ne_zero h0)
   obtain ⟨s, h1, h2, _⟩ := (tried hk hc).1 ((srch_vld hk hc).1 hx)
   exact ⟨s, h1, h2⟩
theorem srN_len {g : Nat → List (List Nat)} {p : Nat → Bool} {m : Nat} (h : ∀ i, (g i).length ≤ m) : ∀ n, (srN g p n).length ≤ n * m
 | 0 => by simp [srN]
 | n + 1 => by
  have ih := srN_len (p := p) h n
  have h1 := h n
  simp only [srN, List.length_append, Nat.add_mul, Nat.one_mul]
  split
  · omega
  · simp; omega
theorem srch_len (h16 : H.n ≤ 16) : ∀ (r : Nat) (S : BSt) (at_ : List Nat), (srch H L nc dm yg r S at_).length ≤ 16 ^ r
 | 0, S, at_ => by
  simp only [srch]
  split
  · simp
  · simp
 | r + 1, S, at_ => by
  simp only [srch]
  split
  · have := srN_len (g := fun i => srch H L nc dm yg r (putS1 S i (agd (S i) (L at_.length))) (at_ ++ [i])) (p := stpB H L nc dm yg at_) (m := 16 ^ r) (fun i => srch_len h16 r _ _) H.n
    refine Nat.le_trans this ?_
    rw [Nat.pow_succ, Nat.mul_comm]
    exact Nat.mul_le_mul_left _ h16
  · exact Nat.zero_le _
end
end Go.Proofs.YtceokmaddbdnfaaGreat
namespace Go.Proofs.YtceokmaddbdnfaaGreat
set_option linter.all false
set_option linter.unusedVariables false
set_option linter.unusedSimpArgs false
open Go.RowKit
theorem ofI32 {m : Nat} (hm : m ≤ 4294967295) : (BitVec.ofInt 32 (m : Int)).toNat = m := by
 rw [BitVec.toNat_ofInt]
 omega
theorem bitsW_and {a b : Nat} (ha : a ≤ 4294967295) (hb : b ≤ 4294967295) : bits .and .u32 (a : Int) (b : Int) = ((a &&& b : Nat) : Int) := by
 have h2 : bits .and .u32 (a : Int) (b : Int) = IntKind.u32.wrap ((BitVec.ofInt 32 (a : Int) &&& BitVec.ofInt 32 (b : Int)).toNat : Int) := rfl
 rw [h2, BitVec.toNat_and, ofI32 ha, ofI32 hb]
 have : a &&& b ≤ a := Nat.and_le_left
 exact IntWalk.u32_in _ (by omega)
section
variable {c : Cx} {F : Fr} {K : List Fact} {d : Option Tmp} {ty xt yt : TypeId} {pos : String} {af : Array Edge} {g : Option (Nat × Bool)} {x y : Operand}
theorem Pu.srW {b i : Nat} (hx : ev F x = some (.int .u32 (b : Int)) := by rfl) (hy : ev F y = some (.int .i64 (i : Int)) := by rfl) (hj : i ≤ 32 := by omega) : Pu c F K ⟨d, .binOp .shr xt x y yt, ty, pos, af, g⟩ (.int .u32 ((b / 2 ^ i : Nat) : Int)) := Pu.bin hx hy fun w => by
 have h9 : Min.min i 32 = i := Nat.min_eq_left hj
 go_simp
theorem Pu.srW64 {b i : Nat} (hx : ev F x = some (.int .u32 (b : Int)) := by rfl) (hy : ev F y = some (.int .u64 (i : Int)) := by rfl) (hj : i ≤ 32 := by omega) : Pu c F K ⟨d, .binOp .shr xt x y yt, ty, pos, af, g⟩ (.int .u32 ((b / 2 ^ i : Nat) : Int)) := Pu.bin hx hy fun w => by
 have h9 : Min.min i 32 = i := Nat.min_eq_left hj
 go_simp
theorem Pu.anW {m : Nat} (hx : ev F x = some (.int .u32 (m : Int)) := by rfl) (hy : ev F y = some (.int .u32 1) := by rfl) (hm : m ≤ 4294967295 := by omega) : Pu c F K ⟨d, .binOp .and xt x y yt, ty, pos, af, g⟩ (.int .u32 ((m % 2 : Nat) : Int)) := Pu.bin hx hy fun w => by
 have h := bitsW_and (a := m) (b := 1) hm (by decide)
 rw [Nat.and_one_is_mod] at h
 have h : bits .and .u32 (m : Int) 1 = ((m % 2 : Nat) : Int) := h
 go_simp
end
end Go.Proofs.YtceokmaddbdnfaaGreat
namespace Go.Proofs.YtceokmaddbdnfaaGreat
set_option linter.all false
set_option linter.unusedVariables false
set_option linter.unusedSimpArgs false
open Go.RowKit
theorem sortI_any {w : World} {A : Option Addr} {n cp : Nat} {L : List Int} (hn : n = L.length) (h1 : n ≤ 1000000) (h : OwnR w A n cp 3 1 (iL L)) :
   CallsK Tryz.prog 121 #[.slice A n cp] [.own A n cp 3 1 (iL L)] w Unit (fun _ => .tuple #[]) (fun _ => [.own A n cp 3 1 (iL (srt L))]) := by
 subst hn
 rcases h.own.2 with ⟨e, h0⟩ | ⟨g, cap, cur, e, hg, hh, hnc, hcm, hcs, ht⟩
 · have hL : L = [] := List.length_eq_zero_iff.1 h0
   subst hL
   refine (Tryz.slices_Sort_int_none A cp w).mono ?_
   rintro e' w' ⟨rfl, rfl⟩
   refine ⟨(), rfl, ?_⟩
   rw [srt_nil]
   exact Sat.own1 h
 · simp only [Value.slice.injEq] at e
   obtain ⟨rfl, _, rfl⟩ := e
   have hlt := lt_of_get hh
   have hH : Sort.Holds (Value.int .i64) w g 0 L.toArray := fun j hj => by
    have hj' : j < L.length := by simpa using hj
    have hrd := h.own.form1 (by omega)
    obtain ⟨g', c', e, _, _, _, hcell, hfr⟩ := hrd
    cases e
    refine ⟨?_, hfr _⟩
    have := hcell j 0 hj' (by omega)
    rw [Nat.mul_one, Nat.add_zero] at this
    rw [Nat.zero_add, this]
    simp [rowF, iL, List.getD_eq_getElem?_getD, hj']
   refine (Tryz.slices_Sort_int g 0 cp L w hH hlt (by omega)).mono ?_
   rintro e' w' ⟨rfl, n, os, rfl⟩
   rw [ms_srt]
   exact ⟨(), rfl, own_putRow os n (srt_len L) h⟩
end Go.Proofs.YtceokmaddbdnfaaGreat
namespace Go.Proofs.YtceokmaddbdnfaaGreat
set_option linter.all false
set_option linter.unusedVariables false
set_option linter.unusedSimpArgs false
open Go.RowKit
theorem indexU32_any {g : FuncId} {fs cs : List Value} {A : Option Addr} {n cp : Nat} {v : Nat → Nat} {p : Nat → Bool} {M : Nat → List Fact} {w : World} (hen : Enters Tryz.prog g) (hn : n ≤ 9223372036854775807)
  (hR : RdR w 1 A n (fun k => [.int .u32 (v k : Int)])) (hA : 0 < n → Apart (feet (M 0)) A) (hM : Sat (feet (M 0)) w (M 0) w) (hfe : ∀ k, feet (M k) = feet (M 0))
  (hg : ∀ k, k < n → (∀ j, j < k → p j = false) → ∀ w', Sat (feet (M 0)) w (M k) w' → CallsK Tryz.prog g (fs ++ [Value.int .u32 (v k : Int)] ++ cs).toArray (M k) w' Unit (fun _ => .bool (p k)) (fun _ => M (k + 1))) :
  CallsK Tryz.prog 120 #[.slice A n cp, .func (.func g) fs.toArray cs.toArray] (M 0) w (Fst p n) (fun x => .int .i64 (if x.1 < n then (x.1 : Int) else -1)) (fun x => M (aft n x.1)) := by
 refine K_enter (S := feet (M 0)) (K := M 0) Tryz.func120 rfl Tryz.ntmps120 rfl hM ?_
 refine TW.seq fun Y1 hY1 => TW.region ?_
 refine TL.p Pu.as ?_
 refine TL.nil (TQ.thenN (hY1 _ _ ?_))
 refine TW.seq fun Y2 hY2 => ?_
 refine TW.seq fun Y3 hY3 => TW.region ?_
 refine TL.p Pu.mv ?_
 refine TL.p (Pu.ln Tryz.underlying23) ?_
 refine TL.p Pu.mv ?_
 refine TL.nil (TQ.thenN (hY3 _ _ ?_))
 refine TW.block ?_
 refine TW.loop1 (fun (k : Nat) => [(8, .int .i64 (k : Int)), (7, .int .i64 (n : Int)), (0, .slice A n cp), (1, .func (.func g) fs.toArray cs.toArray)]) (fun k => M k) (fun k => k ≤ n ∧ ∀ j, j < k → p j = false) (fun k => n - k) 0 fs9 ?_ ?_ ?_
 exact KSub.refl _
 exact ⟨by omega, fun j hj => by omega⟩
 rintro k ⟨hk, hall⟩ Z0 hZ0
 refine TW.seq fun Y4 hY4 => TW.region ?_
 refine TL.p Pu.lt ?_
 refine TL.nil (TQ.thenN (hY4 _ _ ?_))
 refine TW.seq fun Y5 hY5 => ?_
 refine TW.cond rfl (fun hc0 => ?_) (fun hc0 => ?_)
 try simp only [zcb9] at hc0
 have hkn : k < n := by omega
 have hA := hA (by omega)
 refine TW.skip ?_
 refine TQ.thenN (hY5 _ _ ?_)
 refine TW.seq fun Y6 hY6 => ?_
 refine TW.block ?_
 refine TW.seq fun Y7 hY7 => TW.region ?_
 refine TL.p Pu.mv ?_
 refine TL.p Pu.as ?_
 refine TL.nil (TQ.thenN (hY7 _ _ ?_))
 refine TW.seq fun Y8 hY8 => TW.region ?_
 refine TL.p Pu.mv ?_
 refine TL.p Pu.mv ?_
 refine TL.p Pu.mv ?_
 refine TL.p (Pu.el ty_et23) ?_
 refine TL.p (Pu.ld ty_sc53) ?_
 refine TL.cvk rfl rfl hen (by rw [List.append_nil]) (fun w hw => by
   exact hg k (by omega) hall w hw) ?_
 intro _
 refine TL.nil (TQ.thenN (hY8 _ _ ?_))
 refine TW.cond rfl (fun hc1 => ?_) (fun hc1 => ?_)
 try simp only [zcb9] at hc1
 refine TW.seq fun Y9 hY9 => TW.region ?_
 refine TL.p Pu.mv ?_
 refine TL.p Pu.as ?_
 refine TL.nil (TQ.thenN (hY9 _ _ ?_))
 refine TW.ret ?_
 refine TQ.blkR ?_
 refine TQ.thenR ?_
 refine TQ.thenR ?_
 refine TQ.blkR ?_
 refine TQ.thenR ?_
 refine TQ.ret Tryz.results120 rfl ((.tmp rfl .nil)) ?_
 exact fun w hw => ⟨⟨k, by omega, hall, fun _ => hc1⟩, by simp [hkn]; rfl, by simpa [aft, hkn] using hw⟩
 try simp only [zcb9] at hc1
 refine TW.skip ?_
 refine TQ.blkN ?_
 refine TQ.thenN (hY6 _ _ ?_)
 refine TW.region ?_
 refine TL.p Pu.ad ?_
 refine TL.p Pu.mv ?_
 refine TL.nil ?_
 refine TQ.thenN (hZ0 (k + 1) _ _ ?_ ?_ fs9 ?_)
 refine ⟨by omega, fun j hj => ?_⟩
 by_cases h : j = k
 subst h; exact hc1
 exact hall j (by omega)
 exact zom9
 rw [List.append_nil]; exact KSub.refl _
 try simp only [zcb9] at hc0
 have hkn : k = n := by omega
 refine TW.exit ?_
 refine TQ.thenX ?_
 refine TQ.thenX ?_
 refine TQ.blkX ?_
 refine TQ.thenN (hY2 _ _ ?_)
 refine TW.seq fun Y10 hY10 => TW.region ?_
 refine TL.p Pu.as ?_
 refine TL.nil (TQ.thenN (hY10 _ _ ?_))
 refine TW.ret ?_
 refine TQ.ret Tryz.results120 rfl ((.tmp rfl .nil)) ?_
 exact fun w hw => ⟨⟨k, by omega, hall, fun h => by omega⟩, by simp [hkn]; rfl, by simpa [aft, hkn] using hw⟩
theorem hasU32_st {g : FuncId} {fs cs : List Value} {A : Option Addr} {n cp : Nat} {v : Nat → Nat} {p : Nat → Bool} {M : Nat → List Fact} {w : World} (hen : Enters Tryz.prog g) (hn : n ≤ 9223372036854775807)
  (hR : RdR w 1 A n (fun k => [.int .u32 (v k : Int)])) (hA : 0 < n → Apart (feet (M 0)) A) (hM : Sat (feet (M 0)) w (M 0) w) (hfe : ∀ k, feet (M k) = feet (M 0))
  (hg : ∀ k, k < n → (∀ j, j < k → p j = false) → ∀ w', Sat (feet (M 0)) w (M k) w' → CallsK Tryz.prog g (fs ++ [Value.int .u32 (v k : Int)] ++ cs).toArray (M k) w' Unit (fun _ => .bool (p k)) (fun _ => M (k + 1))) :
  CallsK Tryz.prog 99 #[.slice A n cp, .func (.func g) fs.toArray cs.toArray] (M 0) w (Fst p n) (fun x => .bool (decide (x.1 < n))) (fun x => M (aft n x.1)) := by
 refine K_enter (S := feet (M 0)) (K := M 0) Tryz.func99 rfl Tryz.ntmps99 rfl hM ?_
 refine TW.seq fun Y1 hY1 => TW.region ?_
 refine TL.p Pu.as ?_
 refine TL.nil (TQ.thenN (hY1 _ _ ?_))
 refine TW.seq fun Y2 hY2 => TW.region ?_
 refine TL.p Pu.mv ?_
 refine TL.p Pu.mv ?_
 refine TL.call rfl (enters Tryz.func120 rfl rfl) (by rw [List.append_nil]) rfl (fun w hw => by
   exact indexU32_any hen hn (hR.sat0 hw hA) hA hw.self hfe (fun k hk hp w' hw' => hg k hk hp w' (hw'.from hw.chg fun _ hb => .inl hb))) ?_
 intro x
 refine TL.p Pu.ge ?_
 refine TL.p Pu.as ?_
 refine TL.nil (TQ.thenN (hY2 _ _ ?_))
 refine TW.ret ?_
 refine TQ.ret Tryz.results99 rfl ((.tmp rfl .nil)) ?_
 exact fun w hw => ⟨x, by by_cases h : x.1 < n <;> simp [retV, h], by simpa using hw⟩
theorem hasU32_any {g : FuncId} {fs cs : List Value} {A : Option Addr} {n cp : Nat} {v : Nat → Nat} {p : Nat → Bool} {w : World} (hen : Enters Tryz.prog g) (hn : n ≤ 9223372036854775807)
  (hR : RdR w 1 A n (fun k => [.int .u32 (v k : Int)])) (hg : ∀ k, k < n → ∀ w', Below w.heap.size w w' → Calls Tryz.prog g (fs ++ [Value.int .u32 (v k : Int)] ++ cs).toArray w' (Ret w' (.bool (p k)))) :
  Calls Tryz.prog 99 #[.slice A n cp, .func (.func g) fs.toArray cs.toArray] w (Ret w (.bool (anyB n p))) :=
 CallsK.retOf (hasU32_st (M := fun _ => []) hen hn hR (fun _ => Apart.nil) (Sat.start w) (fun _ => rfl) fun k hk _ w' hw' => CallsK.ret (hg k hk w' (Chg.ext hw'.chg))) fun x => by rw [x.any]; rfl
def lkL (l : Lk) (A : Option Addr) (c : Nat) : List Value := [.slice A l.ns c, .int .i64 l.day, .int .i64 l.alo, .int .i64 l.ahi]
structure LkIn (w : World) (l : Lk) (A : Option Addr) : Prop where
 hn : l.ns ≤ 1000
 hR : RdR w 1 A l.ns (fun k => [.int .u32 (l.sg k : Int)])
 hb : ∀ k, k < l.ns → l.sg k ≤ 4294967295
theorem LkIn.sat {w w' : World} {l : Lk} {A : Option Addr} {K : List Fact} (h : LkIn w l A) (hs : Sat [] w K w') : LkIn w' l A := ⟨h.hn, h.hR.sat hs Apart.nil, h.hb⟩
theorem LkIn.ext {w w' : World} {l : Lk} {A : Option Addr} (h : LkIn w l A) (hb : Below w.heap.size w w') : LkIn w' l A := ⟨h.hn, ⟨h.hR.rd.below hb, h.hR.len⟩, h.hb⟩
theorem large_any (v : Nat) (hv : v ≤ 4294967295) (w : World) : Calls Tryz.prog 98 #[.int .u32 (v : Int)] w (Ret w (.bool (decide (2097152 ≤ v)))) := by
 refine K_enter (S := []) (K := []) Tryz.func98 rfl Tryz.ntmps98 rfl (Sat.start _) ?_
 refine TW.seq fun Y1 hY1 => TW.region ?_
 refine TL.p Pu.as ?_
 refine TL.nil (TQ.thenN (hY1 _ _ ?_))
 refine TW.seq fun Y2 hY2 => TW.region ?_
 refine TL.p Pu.mv ?_
 refine TL.p (Pu.srW64 (b := v) (i := 21)) ?_
 refine TL.p Pu.gt ?_
 refine TL.p Pu.as ?_
 refine TL.nil (TQ.thenN (hY2 _ _ ?_))
 refine TW.ret ?_
 refine TQ.ret Tryz.results98 rfl ((.tmp rfl .nil)) ?_
 exact fun w hw => ⟨ret_bool (decide_eq_decide.2 ⟨fun h => by omega, fun h => by omega⟩), Chg.ext hw.chg⟩
theorem seen_eq (l : Lk) : (decide ((l.ns : Int) = 8) && !(anyB l.ns fun k => decide (2097152 ≤ l.sg k)) && inB5 0 100000 l.day && ordB5 0 200000 l.alo l.ahi) = lkB l := by
  unfold lkB
  by_cases h : l.ns = 8
  · rw [h, not_anyB]
    congr 3
    unfold allB
    congr 1
    funext k
    rw [Bool.eq_iff_iff]; simp
  · rw [decide_eq_false h, decide_eq_false (by omega)]
    rfl
set_option maxRecDepth 100000 in
theorem seen_any {l : Lk} {A : Option Addr} {c : Nat} {w : World} (h : LkIn w l A) : Calls Tryz.prog 50 #[.agg (lkL l A c).toArray] w (Ret w (.bool (lkB l))) := by
 have hn := h.hn
 unfold lkL
 refine K_enter (S := []) (K := []) Tryz.func50 rfl Tryz.ntmps50 rfl (Sat.start _) ?_
 refine TW.seq fun Y1 hY1 => TW.region ?_
 refine TL.m Mk.bx ?_
 intro b1
 refine TL.p Pu.as ?_
 refine TL.nil (TQ.thenN (hY1 _ _ ?_))
 refine TW.seq fun Y2 hY2 => TW.region ?_
 refine TL.p Pu.as ?_
 refine TL.nil (TQ.thenN (hY2 _ _ ?_))
 refine TW.seq fun Y3 hY3 => ?_
 refine TW.join [(2, .bool (decide ((l.ns : Int) = 8) && !(anyB l.ns fun k => decide (2097152 ≤ l.sg k)) && inB5 0 100000 l.day && ordB5 0 200000 l.alo l.ahi))] ?_ (fun hJ1 => ?_)
 refine TQ.thenN (hY3 _ _ ?_)
 refine TW.ret ?_
 refine TQ.ret Tryz.results50 rfl ((.tmp rfl .nil)) ?_
 exact fun w hw => ⟨ret_bool (seen_eq l).symm, Chg.ext hw.chg⟩
 refine TW.region ?_
 refine TL.p (by first | exact Pu.fb ty_fa27_0 | exact Pu.fe ty_fa27_0) ?_
 refine TL.p (Pu.ld ty_sc23) ?_
 refine TL.p (Pu.ln Tryz.underlying23) ?_
 refine TL.p Pu.eq ?_
 refine TL.p Pu.mv ?_
 refine TL.guard (t := 8) rfl (fun hg1 => ?_) (fun hg1 => ?_)
 refine TL.gd (by first | exact Pu.fb ty_fa27_0 | exact Pu.fe ty_fa27_0) ?_
 refine TL.gd (Pu.ld ty_sc23) ?_
 refine TL.gd Pu.mv ?_
 refine TL.cr rfl (enters Tryz.func99 rfl rfl) (fun w hw => by
  exact hasU32_any (fs := []) (cs := []) (v := l.sg) (p := fun k => decide (2097152 ≤ l.sg k)) (enters Tryz.func98 rfl rfl) (by omega) (h.hR.sat hw Apart.nil) fun k hk w' hb => large_any _ (h.hb k hk) _) ?_
 refine TL.gd Pu.no ?_
 refine TL.p Pu.kt ?_
 refine TL.p Pu.mv ?_
 refine TL.guard (t := 15) rfl (fun hg2 => ?_) (fun hg2 => ?_)
 refine TL.gd (by first | exact Pu.fb ty_fa27_1 | exact Pu.fe ty_fa27_1) ?_
 refine TL.gd (Pu.ld ty_sc3) ?_
 refine TL.gm Mk.bl ?_
 intro b2
 refine TL.cr rfl (enters Tryz.func60 rfl rfl) (fun w hw => by
  exact bInOne_any _ _ _ (hw.holds _ (List.mem_cons_self ..))) ?_
 refine TL.p Pu.kt ?_
 refine TL.p Pu.mv ?_
 refine TL.guard (t := 21) rfl (fun hg3 => ?_) (fun hg3 => ?_)
 refine TL.gd (by first | exact Pu.fb ty_fa27_2 | exact Pu.fe ty_fa27_2) ?_
 refine TL.gd (Pu.lds ty_ag25) ?_
 refine TL.gm Mk.bl ?_
 intro b3
 refine TL.cr rfl (enters Tryz.func86 rfl rfl) (fun w hw => by
  exact bProperOne_any _ _ _ _ (hw.holds _ (List.mem_cons_self ..))) ?_
 refine TL.p Pu.kt ?_
 refine TL.p Pu.as ?_
 refine TL.nil ?_
 exact TQ.sub (by repeat (first | exact trivial | refine ⟨rfl, ?_⟩ | refine ⟨trivial, ?_⟩ | refine ⟨(by show some (Value.bool _) = some (Value.bool _); first | (simp [hg1, hg2, hg3]; done) | (refine congrArg (fun z => some (Value.bool z)) (Bool.eq_iff_iff.2 ?_); simp [hg1, hg2, hg3]; omega)), ?_⟩)) ks9 hJ1
 refine TL.gs ?_
 refine TL.gs ?_
 refine TL.gs ?_
 refine TL.gs ?_
 refine TL.p Pu.kf ?_
 refine TL.p Pu.as ?_
 refine TL.nil ?_
 exact TQ.sub (by repeat (first | exact trivial | refine ⟨rfl, ?_⟩ | refine ⟨trivial, ?_⟩ | refine ⟨(by show some (Value.bool _) = some (Value.bool _); first | (simp [hg1, hg2, hg3]; done) | (refine congrArg (fun z => some (Value.bool z)) (Bool.eq_iff_iff.2 ?_); simp [hg1, hg2, hg3]; omega)), ?_⟩)) ks9 hJ1
 refine TL.gs ?_
 refine TL.gs ?_
 refine TL.gs ?_
 refine TL.gs ?_
 refine TL.p Pu.kf ?_
 refine TL.p Pu.mv ?_
 refine TL.gs ?_
 refine TL.gs ?_
 refine TL.gs ?_
 refine TL.gs ?_
 refine TL.p Pu.kf ?_
 refine TL.p Pu.as ?_
 refine TL.nil ?_
 exact TQ.sub (by repeat (first | exact trivial | refine ⟨rfl, ?_⟩ | refine ⟨trivial, ?_⟩ | refine ⟨(by show some (Value.bool _) = some (Value.bool _); first | (simp [hg1, hg2]; done) | (refine congrArg (fun z => some (Value.bool z)) (Bool.eq_iff_iff.2 ?_); simp [hg1, hg2]; omega)), ?_⟩)) ks9 hJ1
 refine TL.gs ?_
 refine TL.gs ?_
 refine TL.gs ?_
 refine TL.gs ?_
 refine TL.gs ?_
 refine TL.p Pu.kf ?_
 refine TL.p Pu.mv ?_
 refine TL.gs ?_
 refine TL.gs ?_
 refine TL.gs ?_
 refine TL.gs ?_
 refine TL.p Pu.kf ?_
 refine TL.p Pu.mv ?_
 refine TL.gs ?_
 refine TL.gs ?_
 refine TL.gs ?_
 refine TL.gs ?_
 refine TL.p Pu.kf ?_
 refine TL.p Pu.as ?_
 refine TL.nil ?_
 exact TQ.sub (by repeat (first | exact trivial | refine ⟨rfl, ?_⟩ | refine ⟨trivial, ?_⟩ | refine ⟨(by show some (Value.bool _) = some (Value.bool _); first | (simp [hg1]; done) | (refine congrArg (fun z => some (Value.bool z)) (Bool.eq_iff_iff.2 ?_); simp [hg1]; omega)), ?_⟩)) ks9 hJ1
theorem sg_bd {H : Hd} (hk : HOk H) {i s : Nat} (hi : i < H.n) : 0 ≤ sgH H i s ∧ sgH H i s ≤ 20 := by
 have h := allB_iff.1 (hk.mks i hi)
 have := sgK_pos (H := H) (i := i) (k := H.ml i) (s := s) fun j hj => by
  have := h j hj
  unfold markB at this
  simp only [Bool.and_eq_true] at this
  exact this.1
 exact ⟨this.1, this.2.1⟩
set_option maxRecDepth 100000 in
set_option maxHeartbeats 1000000 in
theorem bears_any {H : Hd} {i : Nat} {l : Lk} {A : Option Addr} {c : Nat} {w : World} (hk : HOk H) (hi : i < H.n) (h : LkIn w l A) (h8 : l.ns = 8) : Calls Tryz.prog 52 #[.agg (octL (sgH H i)).toArray, .agg (lkL l A c).toArray] w (Ret w (.bool (maB H l i))) := by
 have hs := fun s => sg_bd hk (s := s) hi
 have hR := h.hR
 have hb8 := h.hb
 unfold lkL
 rw [h8] at hR hb8 ⊢
 refine K_enter (S := []) (K := []) Tryz.func52 rfl Tryz.ntmps52 rfl (Sat.start _) ?_
 refine TW.seq fun Y1 hY1 => TW.region ?_
 refine TL.m Mk.bx ?_
 intro b1
 refine TL.m Mk.bx ?_
 intro b2
 refine TL.p Pu.as ?_
 refine TL.nil (TQ.thenN (hY1 _ _ ?_))
 refine TW.seq fun Y2 hY2 => ?_
 refine TW.seq fun Y3 hY3 => TW.region ?_
 refine TL.p (Pu.lds ty_ag108) ?_
 refine TL.p Pu.mv ?_
 refine TL.nil (TQ.thenN (hY3 _ _ ?_))
 refine TW.block ?_
 refine TW.loop1 (fun (k : Nat) => [(8, .int .i64 (k : Int)), (7, .agg (octL (sgH H i)).toArray), (3, .pointer (some ⟨b2, 0, none⟩))]) (fun k => [.blk b2 27 [.slice A 8 c, .int .i64 l.day, .int .i64 l.alo, .int .i64 l.ahi]]) (fun k => k ≤ 8 ∧ ∀ j, j < k → l.sg j / 2 ^ (sgH H i j).toNat % 2 = 1) (fun k => 8 - k) 0 fs9 ?_ ?_ ?_
 exact ks9
 exact ⟨by omega, fun j hj => by omega⟩
 rintro k ⟨hk8, hall⟩ Z0 hZ0
 refine TW.seq fun Y4 hY4 => TW.region ?_
 refine TL.p Pu.lt ?_
 refine TL.nil (TQ.thenN (hY4 _ _ ?_))
 refine TW.seq fun Y5 hY5 => ?_
 refine TW.cond rfl (fun hc0 => ?_) (fun hc0 => ?_)
 try simp only [zcb9] at hc0
 have hkn : k < 8 := by omega
 have hsk := hs k
 have hbk := hb8 k (by omega)
 have hdv : l.sg k / 2 ^ (sgH H i k).toNat ≤ 4294967295 := Nat.le_trans (Nat.div_le_self _ _) hbk
 refine TW.skip ?_
 refine TQ.thenN (hY5 _ _ ?_)
 refine TW.seq fun Y6 hY6 => ?_
 refine TW.block ?_
 refine TW.seq fun Y7 hY7 => TW.region ?_
 refine TL.p Pu.mv ?_
 refine TL.p (Pu.ix (v := .int .i64 (sgH H i k)) (hr := by intro w; rcases (by omega : k = 0 ∨ k = 1 ∨ k = 2 ∨ k = 3 ∨ k = 4 ∨ k = 5 ∨ k = 6 ∨ k = 7) with rfl | rfl | rfl | rfl | rfl | rfl | rfl | rfl <;> (unfold octL; go_simp; rfl))) ?_
 refine TL.p Pu.as ?_
 refine TL.p Pu.as ?_
 refine TL.nil (TQ.thenN (hY7 _ _ ?_))
 refine TW.seq fun Y8 hY8 => TW.region ?_
 refine TL.p (by first | exact Pu.fb ty_fa27_0 | exact Pu.fe ty_fa27_0) ?_
 refine TL.p (Pu.ld ty_sc23) ?_
 refine TL.p Pu.mv ?_
 refine TL.p (Pu.el ty_et23) ?_
 refine TL.p (Pu.ld ty_sc53) ?_
 refine TL.p Pu.mv ?_
 refine TL.p (Pu.srW (b := l.sg k) (i := (sgH H i k).toNat) (hy := congrArg (fun z => some (Value.int .i64 z)) (Int.toNat_of_nonneg hsk.1).symm)) ?_
 refine TL.p (Pu.anW (m := l.sg k / 2 ^ (sgH H i k).toNat)) ?_
 refine TL.p Pu.eq ?_
 refine TL.nil (TQ.thenN (hY8 _ _ ?_))
 refine TW.cond rfl (fun hc1 => ?_) (fun hc1 => ?_)
 try simp only [zcb9] at hc1
 have hno : ¬ l.sg k / 2 ^ (sgH H i k).toNat % 2 = 1 := by omega
 refine TW.seq fun Y9 hY9 => TW.region ?_
 refine TL.p Pu.as ?_
 refine TL.nil (TQ.thenN (hY9 _ _ ?_))
 refine TW.ret ?_
 refine TQ.blkR ?_
 refine TQ.thenR ?_
 refine TQ.thenR ?_
 refine TQ.blkR ?_
 refine TQ.thenR ?_
 refine TQ.ret Tryz.results52 rfl ((.tmp rfl .nil)) ?_
 exact fun w hw => ⟨ret_bool (by
  cases hm : maB H l i with
  | false => rfl
  | true => exact absurd (of_decide_eq_true (allB_iff.1 hm k hkn)) hno), Chg.ext hw.chg⟩
 try simp only [zcb9] at hc1
 have hyes : l.sg k / 2 ^ (sgH H i k).toNat % 2 = 1 := by omega
 refine TW.skip ?_
 refine TQ.blkN ?_
 refine TQ.thenN (hY6 _ _ ?_)
 refine TW.region ?_
 refine TL.p Pu.ad ?_
 refine TL.p Pu.mv ?_
 refine TL.nil ?_
 refine TQ.thenN (hZ0 (k + 1) _ _ ?_ ?_ fs9 ?_)
 refine ⟨by omega, fun j hj => ?_⟩
 by_cases e : j = k
 subst e; exact hyes
 exact hall j (by omega)
 exact zom9
 exact ks9
 try simp only [zcb9] at hc0
 refine TW.exit ?_
 refine TQ.thenX ?_
 refine TQ.thenX ?_
 refine TQ.blkX ?_
 refine TQ.thenN (hY2 _ _ ?_)
 refine TW.seq fun Y10 hY10 => TW.region ?_
 refine TL.p Pu.as ?_
 refine TL.nil (TQ.thenN (hY10 _ _ ?_))
 refine TW.ret ?_
 refine TQ.ret Tryz.results52 rfl ((.tmp rfl .nil)) ?_
 exact fun w hw => ⟨ret_bool (allB_iff.2 fun j hj => decide_eq_true (hall j (by omega))), Chg.ext hw.chg⟩
set_option maxRecDepth 100000 in
theorem age_any {a b : Int} {l : Lk} {A : Option Addr} {c : Nat} {w : World} (h : lkB l = true) : Calls Tryz.prog 51 #[.agg #[.int .i64 a, .int .i64 b], .agg (lkL l A c).toArray] w (Ret w (.agg #[.int .i64 (agd (a, b) l).1, .int .i64 (agd (a, b) l).2])) := by
 unfold lkB inB5 ordB5 at h
 simp only [Bool.and_eq_true, decide_eq_true_eq] at h
 obtain ⟨⟨⟨h1, h2⟩, h3⟩, h4⟩ := h
 unfold lkL
 refine K_enter (S := []) (K := []) Tryz.func51 rfl Tryz.ntmps51 rfl (Sat.start _) ?_
 refine TW.seq fun Y1 hY1 => TW.region ?_
 refine TL.m Mk.bx ?_
 intro b1
 refine TL.m Mk.bx ?_
 intro b2
 refine TL.m (Mk.al ty_zr25) ?_
 intro b3
 refine TL.nil (TQ.thenN (hY1 _ _ ?_))
 refine TW.seq fun Y2 hY2 => TW.region ?_
 refine TL.p (Pu.lds ty_ag25) ?_
 refine TL.p (by first | exact Pu.fb ty_fa27_1 | exact Pu.fe ty_fa27_1) ?_
 refine TL.p (Pu.ld ty_sc3) ?_
 refine TL.p (by first | exact Pu.fb ty_fa27_2 | exact Pu.fe ty_fa27_2) ?_
 refine TL.p (by first | exact Pu.fb ty_fa25_1 | exact Pu.fe ty_fa25_1) ?_
 refine TL.p (Pu.ld ty_sc3) ?_
 refine TL.p Pu.sb ?_
 refine TL.p (by first | exact Pu.fb ty_fa27_1 | exact Pu.fe ty_fa27_1) ?_
 refine TL.p (Pu.ld ty_sc3) ?_
 refine TL.p (by first | exact Pu.fb ty_fa27_2 | exact Pu.fe ty_fa27_2) ?_
 refine TL.p (by first | exact Pu.fb ty_fa25_0 | exact Pu.fe ty_fa25_0) ?_
 refine TL.p (Pu.ld ty_sc3) ?_
 refine TL.p Pu.sb ?_
 refine TL.p Pu.bd ?_
 refine TL.cr rfl (enters Tryz.func87 rfl rfl) (fun w hw => by
  exact bCommon_any _ _ _ _ _) ?_
 first | refine TL.st ty_sz25 ?_ | refine TL.se ty_sz25 ?_
 refine TL.nil (TQ.thenN (hY2 _ _ ?_))
 refine TW.ret ?_
 refine TQ.ret Tryz.results51 rfl ((RV.cs ty_ag25 .nil)) ?_
 exact fun w hw => Ret.of hw
theorem HIn.ext {w w' : World} {A : Option Addr} {H : Hd} {a : Nat → Option Addr} {c : Nat → Nat} (h : HIn w A H a c) (hb : Below w.heap.size w w') : HIn w' A H a c :=
 ⟨h.hn, ⟨h.hR.rd.below hb, h.hR.len⟩, fun i hi => ⟨(h.hM i hi).rd.below hb, (h.hM i hi).len⟩, h.hl⟩
theorem HwIn.ext {w w' : World} {H : Hd} {A : Option Addr} {cp : Nat} {x : OpX} (h : HwIn w H A cp x) (hb : Below w.heap.size w w') : HwIn w' H A cp x :=
 ⟨h.oB.ext hb, (by obtain ⟨_, _, _, _, hB⟩ := hb; exact (hB _ (lt_of_get h.oP)).trans h.oP), ⟨h.oM.rd.below hb, h.oM.len⟩, ⟨h.oK.rd.below hb, h.oK.len⟩⟩
theorem ids1_any {H : Hd} {A : Option Addr} {cp b i : Nat} {x : OpX} {a : Nat → Option Addr} {c : Nat → Nat} {w : World} (hI : HIn w A H a c) (hB : OldB w b [.pointer (some ⟨x.1.1, 0, none⟩)]) (hW : HwIn w H A cp x) (hi : i < H.n) : Calls Tryz.prog 101 #[.int .i64 (i : Int), .pointer (some ⟨b, 0, none⟩)] w (Ret w (.int .i64 (H.id i))) := by
 have hR := hI.hR
 have hoB := hW.oB
 unfold anL at hR
 refine K_enter (S := []) (K := []) Tryz.func101 rfl Tryz.ntmps101 rfl (Sat.start _) ?_
 refine TW.seq fun Y1 hY1 => TW.region ?_
 refine TL.p Pu.as ?_
 refine TL.nil (TQ.thenN (hY1 _ _ ?_))
 refine TW.seq fun Y2 hY2 => TW.region ?_
 refine TL.p (by first | exact (Pu.ld ty_sc100) | exact (Pu.ldo ty_sc100)) ?_
 refine TL.p (by first | exact Pu.nn | exact Pu.nc) ?_
 refine TL.p (by first | exact Pu.fb ty_fa106_0 | exact Pu.fe ty_fa106_0) ?_
 refine TL.p (by first | exact (Pu.ld ty_sc22) | exact (Pu.ldo ty_sc22)) ?_
 refine TL.p Pu.mv ?_
 refine TL.p (Pu.el ty_et22) ?_
 refine TL.p (by first | exact Pu.fb ty_fa65_0 | exact Pu.fe ty_fa65_0) ?_
 refine TL.p (by first | exact (Pu.ld ty_sc3) | exact (Pu.ldo ty_sc3)) ?_
 refine TL.p Pu.as ?_
 refine TL.nil (TQ.thenN (hY2 _ _ ?_))
 refine TW.ret ?_
 refine TQ.ret Tryz.results101 rfl ((.tmp rfl .nil)) ?_
 exact fun w hw => Ret.of hw
set_option maxRecDepth 100000 in
set_option maxHeartbeats 1000000 in
theorem ordered_any {g : FuncId} {cs : List Value} {A : Option Addr} {n cp : Nat} {v u : Nat → Int} {w : World} (hen : Enters Tryz.prog g) (hn : n ≤ 1000000) (hR : RdR w 1 A n (fun k => [.int .i64 (v k)])) (hg : ∀ k, k < n → ∀ w', Below w.heap.size w w' → Calls Tryz.prog g ([] ++ [Value.int .i64 (v k)] ++ cs).toArray w' (Ret w' (.int .i64 (u k)))) :
  CallsK Tryz.prog 100 #[.slice A n cp, .func (.func g) #[] cs.toArray] [] w (Option Addr × Nat) (fun y => .slice y.1 (ascL (toI u n)).length y.2) (fun y => [.own y.1 (ascL (toI u n)).length y.2 3 1 (iL (ascL (toI u n)))]) := by
 have hl : (toI u n).length = n := toI_len
 refine K_enter (S := []) (K := []) Tryz.func100 rfl Tryz.ntmps100 rfl (Sat.start _) ?_
 refine TW.seq fun Y1 hY1 => TW.region ?_
 refine TL.p Pu.as ?_
 refine TL.nil (TQ.thenN (hY1 _ _ ?_))
 refine TW.seq fun Y2 hY2 => TW.region ?_
 refine TL.p Pu.as ?_
 refine TL.nil (TQ.thenN (hY2 _ _ ?_))
 refine TW.seq fun Y3 hY3 => ?_
 refine TW.seq fun Y4 hY4 => TW.region ?_
 refine TL.p Pu.mv ?_
 refine TL.p (Pu.ln Tryz.underlying33) ?_
 refine TL.p Pu.mv ?_
 refine TL.nil (TQ.thenN (hY4 _ _ ?_))
 refine TW.block ?_
 refine TW.loop3 (fun (k : Nat) (A5 : Option Addr) (c5 : Nat) => [(10, .int .i64 (k : Int)), (9, .int .i64 (n : Int)), (8, .slice A n cp), (1, .func (.func g) #[] cs.toArray), (5, .slice A5 k c5)]) (fun k A5 c5 => [.own A5 k c5 3 1 (iL (toI u k))]) (fun k A5 c5 => k ≤ n) (fun k A5 c5 => n - k) 0 none 0 fs9 ?_ ?_ ?_
 exact KSub.nilOwn KSub.nil
 exact (by omega)
 rintro k A5 c5 hk Z0 hZ0
 refine TW.seq fun Y5 hY5 => TW.region ?_
 refine TL.p Pu.lt ?_
 refine TL.nil (TQ.thenN (hY5 _ _ ?_))
 refine TW.seq fun Y6 hY6 => ?_
 refine TW.cond rfl (fun hc0 => ?_) (fun hc0 => ?_)
 try simp only [zcb9] at hc0
 have hkn : k < n := by omega
 refine TW.skip ?_
 refine TQ.thenN (hY6 _ _ ?_)
 refine TW.seq fun Y7 hY7 => ?_
 refine TW.block ?_
 refine TW.seq fun Y8 hY8 => TW.region ?_
 refine TL.p (Pu.el ty_et33) ?_
 refine TL.p (Pu.ld ty_sc3) ?_
 refine TL.p Pu.as ?_
 refine TL.nil (TQ.thenN (hY8 _ _ ?_))
 refine TW.region ?_
 refine TL.p Pu.mv ?_
 refine TL.p Pu.mv ?_
 refine TL.p Pu.mv ?_
 refine TL.cv rfl rfl hen (fun w hw => by
   exact hg k hkn _ (Chg.ext hw.chg)) ?_
 refine TL.m Mk.bl ?_
 intro b1
 first | refine TL.a0 ty_et33 ?_ | refine TL.ap ty_et33 ?_
 intro A2 c2
 refine TL.p Pu.as ?_
 refine TL.nil ?_
 refine TQ.blkN ?_
 refine TQ.thenN (hY7 _ _ ?_)
 refine TW.region ?_
 refine TL.p Pu.ad ?_
 refine TL.p Pu.mv ?_
 refine TL.nil ?_
 refine TQ.thenN (hZ0 (k + 1) A2 c2 _ _ ?_ ?_ fs9 ?_)
 exact (by omega)
 exact zom9
 exact KSub.own Pick.hd (iL_app toI_len.symm toI_succ rfl) KSub.nil
 try simp only [zcb9] at hc0
 have hkn : k = n := by omega
 subst hkn
 refine TW.exit ?_
 refine TQ.thenX ?_
 refine TQ.thenX ?_
 refine TQ.blkX ?_
 refine TQ.thenN (hY3 _ _ ?_)
 refine TW.seq fun Y9 hY9 => TW.region ?_
 refine TL.p Pu.mv ?_
 refine TL.call rfl (enters Tryz.func121 rfl rfl) (List.Perm.refl _) rfl (fun w hw => by
   exact sortI_any (L := toI u k) toI_len.symm (by omega) (hw.holds _ (List.mem_cons_self ..))) ?_
 intro _
 refine TL.nil (TQ.thenN (hY9 _ _ ?_))
 refine TW.seq fun Y10 hY10 => TW.region ?_
 refine TL.p Pu.mv ?_
 refine TL.call rfl (enters Tryz.func122 rfl rfl) (List.Perm.refl _) rfl (fun w hw => by
   exact compact_any (L := srt (toI u k)) (by rw [srt_len, toI_len]) (by omega) (hw.holds _ (List.mem_cons_self ..))) ?_
 intro _
 refine TL.p Pu.as ?_
 refine TL.nil (TQ.thenN (hY10 _ _ ?_))
 refine TW.ret ?_
 refine TQ.ret Tryz.results100 rfl ((.tmp rfl .nil)) ?_
 exact fun w hw => ⟨(A5, c5), rfl, hw.sub (KSub.cons Pick.hd KSub.nil)⟩
theorem toI_map {H : Hd} {X : List Nat} : toI (fun k => H.id (X.getD k 0)) X.length = X.map H.id := by
 apply List.ext_getElem
 · simp [toI]
 · intro i h1 h2
   simp [toI, List.getD_eq_getElem?_getD, show i < X.length by simpa using h2]
def nL (X : List Nat) : Nat → List Value := fun k => [.int .i64 (X.getD k 0 : Int)]
theorem nL_app {X X' : List Nat} {m k : Nat} {s : Nat → List Value} (hm : m = X.length) (hX : X' = X ++ [k]) (hs : s 0 = [.int .i64 (k : Int)]) : ∀ i, i < m + 1 → catR m (nL X) s i = nL X' i := fun i hi => by
  subst hm hX
  simp only [catR, nL]
  by_cases h : i < X.length
  · rw [if_pos h, getD_appl h]
  · obtain rfl : i = X.length := by omega
    rw [if_neg h, Nat.sub_self, hs, getD_apps (b := [])]
set_option maxRecDepth 100000 in
theorem ids_any {H : Hd} {A P : Option Addr} {cp n cn : Nat} {x : OpX} {a : Nat → Option Addr} {c : Nat → Nat} {X : List Nat} {w : World} (hn : n = X.length) (hl : n ≤ 1000000) (hI : HIn w A H a c) (hW : HwIn w H A cp x) (hR : RdR w 1 P n (nL X)) (hX : ∀ i ∈ X, i < H.n) :
  CallsK Tryz.prog 53 #[.pointer (some ⟨x.1.1, 0, none⟩), .slice P n cn] [] w (Option Addr × Nat) (fun y => .slice y.1 (idsL H X).length y.2) (fun y => [.own y.1 (idsL H X).length y.2 3 1 (iL (idsL H X))]) := by
 subst hn
 have fO := fun (w' : World) (b : Nat) (h1 : OldB w' b [.pointer (some ⟨x.1.1, 0, none⟩)]) (h2 : HIn w' A H a c) (h3 : HwIn w' H A cp x) (h4 : RdR w' 1 P X.length (nL X)) => ordered_any (cp := cn) (cs := [.pointer (some ⟨b, 0, none⟩)]) (u := fun k => H.id (X.getD k 0)) (enters Tryz.func101 rfl rfl) hl h4 (fun k hk w2 hb => ids1_any (h2.ext hb) (h1.ext hb) (h3.ext hb) (hX _ (getD_memN hk)))
 rw [toI_map] at fO
 refine K_enter (S := []) (K := []) Tryz.func53 rfl Tryz.ntmps53 rfl (Sat.start _) ?_
 refine TW.seq fun Y1 hY1 => TW.region ?_
 refine TL.m Mk.bx ?_
 intro b1
 refine TL.p Pu.as ?_
 refine TL.nil (TQ.thenN (hY1 _ _ ?_))
 refine TW.seq fun Y2 hY2 => TW.region ?_
 refine TL.p Pu.mv ?_
 refine TL.p Pu.fn ?_
 refine TL.call (M := []) rfl (enters Tryz.func100 rfl rfl) (List.Perm.refl _) rfl (fun w hw => by
   exact fO _ b1 (OldB.of_blk (hw.holds _ (List.mem_cons_self ..))) (hI.sat hw) (hW.ext (Chg.ext hw.chg)) (hR.sat hw Apart.nil)) ?_
 rintro ⟨A7, c7⟩
 refine TL.p Pu.as ?_
 refine TL.nil (TQ.thenN (hY2 _ _ ?_))
 refine TW.ret ?_
 refine TQ.ret Tryz.results53 rfl ((.tmp rfl .nil)) ?_
 exact fun w hw => ⟨(A7, c7), rfl, hw.sub (KSub.cons Pick.hd KSub.nil)⟩
end Go.Proofs.YtceokmaddbdnfaaGreat
namespace Go.Proofs.YtceokmaddbdnfaaGreat
set_option linter.all false
set_option linter.unusedVariables false
set_option linter.unusedSimpArgs false
open Go.RowKit
set_option maxRecDepth 100000 in
theorem bIndex_any {w : World} {A : Option Addr} {n cp : Nat} {v : Nat → Int} (y : Int) (hn : n ≤ 1000000) (hR : RdR w 1 A n (fun k => [.int .i64 (v k)])) :
  Calls Tryz.prog 97 #[.slice A n cp, .int .i64 y] w (Ret w (.int .i64 (atI (fun k => decide (y = v k)) n))) := by
 refine K_enter (S := []) (K := []) Tryz.func97 rfl Tryz.ntmps97 rfl (Sat.start _) ?_
 refine TW.seq fun Y1 hY1 => TW.region ?_
 refine TL.p Pu.as ?_
 refine TL.nil (TQ.thenN (hY1 _ _ ?_))
 refine TW.seq fun Y2 hY2 => ?_
 refine TW.seq fun Y3 hY3 => TW.region ?_
 refine TL.p Pu.mv ?_
 refine TL.p (Pu.ln Tryz.underlying33) ?_
 refine TL.p Pu.mv ?_
 refine TL.nil (TQ.thenN (hY3 _ _ ?_))
 refine TW.block ?_
 refine TW.loop1 (fun (k : Nat) => [(8, .int .i64 (k : Int)), (7, .int .i64 (n : Int)), (0, .slice A n cp), (1, .int .i64 y)]) (fun k => []) (fun k => k ≤ n ∧ ∀ j, j < k → y ≠ v j) (fun k => n - k) 0 fs9 ?_ ?_ ?_
 exact ks9
 exact ⟨Nat.zero_le _, fun j hj => by omega⟩
 rintro k ⟨hk, hno⟩ Z0 hZ0
 refine TW.seq fun Y4 hY4 => TW.region ?_
 refine TL.p Pu.lt ?_
 refine TL.nil (TQ.thenN (hY4 _ _ ?_))
 refine TW.seq fun Y5 hY5 => ?_
 refine TW.cond rfl (fun hc0 => ?_) (fun hc0 => ?_)
 try simp only [zcb9] at hc0
 have hkn : k < n := by omega
 refine TW.skip ?_
 refine TQ.thenN (hY5 _ _ ?_)
 refine TW.seq fun Y6 hY6 => ?_
 refine TW.block ?_
 refine TW.seq fun Y7 hY7 => TW.region ?_
 refine TL.p Pu.mv ?_
 refine TL.p Pu.as ?_
 refine TL.nil (TQ.thenN (hY7 _ _ ?_))
 refine TW.seq fun Y8 hY8 => TW.region ?_
 refine TL.p Pu.mv ?_
 refine TL.p Pu.mv ?_
 refine TL.p Pu.mv ?_
 refine TL.p (Pu.el ty_et33) ?_
 refine TL.p (Pu.ld ty_sc3) ?_
 refine TL.p Pu.eq ?_
 refine TL.nil (TQ.thenN (hY8 _ _ ?_))
 refine TW.cond rfl (fun hc1 => ?_) (fun hc1 => ?_)
 try simp only [zcb9] at hc1
 refine TW.seq fun Y9 hY9 => TW.region ?_
 refine TL.p Pu.mv ?_
 refine TL.p Pu.as ?_
 refine TL.nil (TQ.thenN (hY9 _ _ ?_))
 refine TW.ret ?_
 refine TQ.blkR ?_
 refine TQ.thenR ?_
 refine TQ.thenR ?_
 refine TQ.blkR ?_
 refine TQ.thenR ?_
 refine TQ.ret Tryz.results97 rfl ((.tmp rfl .nil)) ?_
 have e := atI_eq (p := fun k => decide (y = v k)) hkn (by simpa using hc1) (fun j hj => by simpa using hno j hj)
 exact fun w hw => ⟨by rw [e]; rfl, Chg.ext hw.chg⟩
 try simp only [zcb9] at hc1
 refine TW.skip ?_
 refine TQ.blkN ?_
 refine TQ.thenN (hY6 _ _ ?_)
 refine TW.region ?_
 refine TL.p Pu.ad ?_
 refine TL.p Pu.mv ?_
 refine TL.nil ?_
 refine TQ.thenN (hZ0 (k + 1) _ _ ?_ ?_ fs9 ?_)
 refine ⟨by omega, fun j hj => ?_⟩
 by_cases e : j = k
 subst e; exact hc1
 exact hno j (by omega)
 exact zom9
 exact ks9
 try simp only [zcb9] at hc0
 obtain rfl : k = n := by omega
 refine TW.exit ?_
 refine TQ.thenX ?_
 refine TQ.thenX ?_
 refine TQ.blkX ?_
 refine TQ.thenN (hY2 _ _ ?_)
 refine TW.seq fun Y10 hY10 => TW.region ?_
 refine TL.p Pu.as ?_
 refine TL.nil (TQ.thenN (hY10 _ _ ?_))
 refine TW.ret ?_
 refine TQ.ret Tryz.results97 rfl ((.tmp rfl .nil)) ?_
 have e := atI_none (p := fun k => decide (y = v k)) (n := k) (fun j hj => by simpa using hno j hj)
 exact fun w hw => ⟨by rw [e]; rfl, Chg.ext hw.chg⟩
section
variable {w : World} {f : Nat → Int} {n i bi bp bh cm : Nat} {Am : Option Addr} {va vm vk : Value}
end
end Go.Proofs.YtceokmaddbdnfaaGreat
namespace Go.Proofs.YtceokmaddbdnfaaGreat
set_option linter.all false
set_option linter.unusedVariables false
set_option linter.unusedSimpArgs false
open Go.RowKit
theorem rWithin_any (a lo hi : Int) (w : World) : Calls Tryz.prog 83 #[.int .i64 a, .int .i64 lo, .int .i64 hi] w (Ret w (.bool (inB5 lo hi a))) := by
 refine K_enter (S := []) (K := []) Tryz.func83 rfl Tryz.ntmps83 rfl (Sat.start _) ?_
 refine TW.seq fun Y1 hY1 => TW.region ?_
 refine TL.p Pu.as ?_
 refine TL.nil (TQ.thenN (hY1 _ _ ?_))
 refine TW.seq fun Y2 hY2 => ?_
 refine TW.join [(6, .bool (inB5 lo hi a))] ?_ (fun hJ1 => ?_)
 refine TQ.thenN (hY2 _ _ ?_)
 refine TW.ret ?_
 refine TQ.ret Tryz.results83 rfl ((.tmp rfl .nil)) ?_
 exact fun w hw => Ret.of hw
 refine TW.region ?_
 refine TL.p Pu.mv ?_
 refine TL.p Pu.mv ?_
 refine TL.p Pu.ge ?_
 refine TL.p Pu.mv ?_
 refine TL.guard (t := 10) rfl (fun hg1 => ?_) (fun hg1 => ?_)
 refine TL.gd Pu.mv ?_
 refine TL.gd Pu.mv ?_
 refine TL.gd Pu.le ?_
 refine TL.p Pu.kt ?_
 refine TL.p Pu.as ?_
 refine TL.nil ?_
 exact TQ.sub (by repeat (first | exact trivial | refine ⟨rfl, ?_⟩ | refine ⟨trivial, ?_⟩ | refine ⟨(by show some (Value.bool _) = some (Value.bool _); first | (simp [hg1, inB5]; done) | (refine congrArg (fun z => some (Value.bool z)) (Bool.eq_iff_iff.2 ?_); simp [hg1, inB5]; omega)), ?_⟩)) ks9 hJ1
 refine TL.gs ?_
 refine TL.gs ?_
 refine TL.gs ?_
 refine TL.p Pu.kf ?_
 refine TL.p Pu.as ?_
 refine TL.nil ?_
 exact TQ.sub (by repeat (first | exact trivial | refine ⟨rfl, ?_⟩ | refine ⟨trivial, ?_⟩ | refine ⟨(by show some (Value.bool _) = some (Value.bool _); first | (simp [hg1, inB5]; done) | (refine congrArg (fun z => some (Value.bool z)) (Bool.eq_iff_iff.2 ?_); simp [hg1, inB5]; omega)), ?_⟩)) ks9 hJ1
theorem rOrdered_any (a b lo hi : Int) (w : World) : Calls Tryz.prog 102 #[.agg #[.int .i64 a, .int .i64 b], .int .i64 lo, .int .i64 hi] w (Ret w (.bool (ordB5 lo hi a b))) := by
 refine K_enter (S := []) (K := []) Tryz.func102 rfl Tryz.ntmps102 rfl (Sat.start _) ?_
 refine TW.seq fun Y1 hY1 => TW.region ?_
 refine TL.m Mk.bx ?_
 intro b1
 refine TL.p Pu.as ?_
 refine TL.nil (TQ.thenN (hY1 _ _ ?_))
 refine TW.seq fun Y2 hY2 => ?_
 refine TW.join [(6, .bool (ordB5 lo hi a b))] ?_ (fun hJ1 => ?_)
 refine TQ.thenN (hY2 _ _ ?_)
 refine TW.ret ?_
 refine TQ.ret Tryz.results102 rfl ((.tmp rfl .nil)) ?_
 exact fun w hw => Ret.of hw
 refine TW.region ?_
 refine TL.p (by first | exact Pu.fb ty_fa25_0 | exact Pu.fe ty_fa25_0) ?_
 refine TL.p (Pu.ld ty_sc3) ?_
 refine TL.p Pu.mv ?_
 refine TL.p Pu.ge ?_
 refine TL.p Pu.mv ?_
 refine TL.guard (t := 11) rfl (fun hg1 => ?_) (fun hg1 => ?_)
 refine TL.gd (by first | exact Pu.fb ty_fa25_0 | exact Pu.fe ty_fa25_0) ?_
 refine TL.gd (Pu.ld ty_sc3) ?_
 refine TL.gd (by first | exact Pu.fb ty_fa25_1 | exact Pu.fe ty_fa25_1) ?_
 refine TL.gd (Pu.ld ty_sc3) ?_
 refine TL.gd Pu.le ?_
 refine TL.p Pu.kt ?_
 refine TL.p Pu.mv ?_
 refine TL.guard (t := 18) rfl (fun hg2 => ?_) (fun hg2 => ?_)
 refine TL.gd (by first | exact Pu.fb ty_fa25_1 | exact Pu.fe ty_fa25_1) ?_
 refine TL.gd (Pu.ld ty_sc3) ?_
 refine TL.gd Pu.mv ?_
 refine TL.gd Pu.le ?_
 refine TL.p Pu.kt ?_
 refine TL.p Pu.as ?_
 refine TL.nil ?_
 exact TQ.sub (by repeat (first | exact trivial | refine ⟨rfl, ?_⟩ | refine ⟨trivial, ?_⟩ | refine ⟨(by show some (Value.bool _) = some (Value.bool _); first | (simp [hg1, hg2, ordB5]; done) | (refine congrArg (fun z => some (Value.bool z)) (Bool.eq_iff_iff.2 ?_); simp [hg1, hg2, ordB5]; omega)), ?_⟩)) ks9 hJ1
 refine TL.gs ?_
 refine TL.gs ?_
 refine TL.gs ?_
 refine TL.gs ?_
 refine TL.p Pu.kf ?_
 refine TL.p Pu.as ?_
 refine TL.nil ?_
 exact TQ.sub (by repeat (first | exact trivial | refine ⟨rfl, ?_⟩ | refine ⟨trivial, ?_⟩ | refine ⟨(by show some (Value.bool _) = some (Value.bool _); first | (simp [hg1, hg2, ordB5]; done) | (refine congrArg (fun z => some (Value.bool z)) (Bool.eq_iff_iff.2 ?_); simp [hg1, hg2, ordB5]; omega)), ?_⟩)) ks9 hJ1
 refine TL.gs ?_
 refine TL.gs ?_
 refine TL.gs ?_
 refine TL.gs ?_
 refine TL.gs ?_
 refine TL.p Pu.kf ?_
 refine TL.p Pu.mv ?_
 refine TL.gs ?_
 refine TL.gs ?_
 refine TL.gs ?_
 refine TL.gs ?_
 refine TL.p Pu.kf ?_
 refine TL.p Pu.as ?_
 refine TL.nil ?_
 exact TQ.sub (by repeat (first | exact trivial | refine ⟨rfl, ?_⟩ | refine ⟨trivial, ?_⟩ | refine ⟨(by show some (Value.bool _) = some (Value.bool _); first | (simp [hg1, ordB5]; done) | (refine congrArg (fun z => some (Value.bool z)) (Bool.eq_iff_iff.2 ?_); simp [hg1, ordB5]; omega)), ?_⟩)) ks9 hJ1
set_option maxRecDepth 100000 in
theorem rAt_any {w : World} {A : Option Addr} {cp : Nat} {H : Hd} {a : Nat → Option Addr} {c : Nat → Nat} (x : Int) (hn : H.n ≤ 1000) (hR : RdR w 5 A H.n (fun i => anL H a c i)) :
  Calls Tryz.prog 75 #[.slice A H.n cp, .int .i64 x] w (Ret w (.int .i64 (atH H x))) := by
 refine K_enter (S := []) (K := []) Tryz.func75 rfl Tryz.ntmps75 rfl (Sat.start _) ?_
 refine TW.seq fun Y1 hY1 => TW.region ?_
 refine TL.p Pu.as ?_
 refine TL.nil (TQ.thenN (hY1 _ _ ?_))
 refine TW.seq fun Y2 hY2 => ?_
 refine TW.seq fun Y3 hY3 => TW.region ?_
 refine TL.p Pu.as ?_
 refine TL.nil (TQ.thenN (hY3 _ _ ?_))
 refine TW.block ?_
 refine TW.loop1 (fun (k : Nat) => [(5, .int .i64 (k : Int)), (0, .slice A H.n cp), (1, .int .i64 x)]) (fun k => []) (fun k => k ≤ H.n ∧ ∀ j, j < k → H.id j ≠ x) (fun k => H.n - k) 0 fs9 ?_ ?_ ?_
 exact ks9
 exact ⟨Nat.zero_le _, fun j hj => by omega⟩
 rintro k ⟨hk, hno⟩ Z0 hZ0
 refine TW.seq fun Y4 hY4 => ?_
 refine TW.seq fun Y5 hY5 => TW.region ?_
 refine TL.p Pu.mv ?_
 refine TL.p Pu.mv ?_
 refine TL.p (Pu.ln Tryz.underlying22) ?_
 refine TL.p Pu.lt ?_
 refine TL.nil (TQ.thenN (hY5 _ _ ?_))
 refine TW.cond rfl (fun hc0 => ?_) (fun hc0 => ?_)
 try simp only [zcb9] at hc0
 have hkn : k < H.n := by omega
 refine TW.skip ?_
 refine TQ.thenN (hY4 _ _ ?_)
 refine TW.seq fun Y6 hY6 => ?_
 refine TW.block ?_
 refine TW.seq fun Y7 hY7 => TW.region ?_
 refine TL.p Pu.mv ?_
 refine TL.p Pu.mv ?_
 refine TL.p (Pu.el ty_et22) ?_
 refine TL.p (by first | exact Pu.fb ty_fa65_0 | exact Pu.fe ty_fa65_0) ?_
 refine TL.p (Pu.ld ty_sc3) ?_
 refine TL.p Pu.mv ?_
 refine TL.p Pu.eq ?_
 refine TL.nil (TQ.thenN (hY7 _ _ ?_))
 refine TW.cond rfl (fun hc1 => ?_) (fun hc1 => ?_)
 try simp only [zcb9] at hc1
 refine TW.seq fun Y8 hY8 => TW.region ?_
 refine TL.p Pu.mv ?_
 refine TL.p Pu.as ?_
 refine TL.nil (TQ.thenN (hY8 _ _ ?_))
 refine TW.ret ?_
 refine TQ.blkR ?_
 refine TQ.thenR ?_
 refine TQ.thenR ?_
 refine TQ.blkR ?_
 refine TQ.thenR ?_
 refine TQ.ret Tryz.results75 rfl ((.tmp rfl .nil)) ?_
 have e : atH H x = (k : Int) := atI_eq (p := fun j => decide (H.id j = x)) hkn (by simpa using hc1) (fun j hj => by simpa using hno j hj)
 exact fun w hw => ⟨by rw [e]; rfl, Chg.ext hw.chg⟩
 try simp only [zcb9] at hc1
 refine TW.skip ?_
 refine TQ.blkN ?_
 refine TQ.thenN (hY6 _ _ ?_)
 refine TW.region ?_
 refine TL.p Pu.mv ?_
 refine TL.p Pu.ad ?_
 refine TL.p Pu.as ?_
 refine TL.nil ?_
 refine TQ.thenN (hZ0 (k + 1) _ _ ?_ ?_ fs9 ?_)
 refine ⟨by omega, fun j hj => ?_⟩
 by_cases e : j = k
 subst e; exact hc1
 exact hno j (by omega)
 exact zom9
 exact ks9
 try simp only [zcb9] at hc0
 obtain rfl : k = H.n := by omega
 refine TW.exit ?_
 refine TQ.thenX ?_
 refine TQ.thenX ?_
 refine TQ.blkX ?_
 refine TQ.thenN (hY2 _ _ ?_)
 refine TW.seq fun Y9 hY9 => TW.region ?_
 refine TL.p Pu.as ?_
 refine TL.nil (TQ.thenN (hY9 _ _ ?_))
 refine TW.ret ?_
 refine TQ.ret Tryz.results75 rfl ((.tmp rfl .nil)) ?_
 have e : atH H x = -1 := atI_none (p := fun j => decide (H.id j = x)) (fun j hj => by simpa using hno j hj)
 exact fun w hw => ⟨by rw [e]; rfl, Chg.ext hw.chg⟩
def headB (H : Hd) (i : Nat) : Bool := inB5 0 9999 (H.id i) && decide (atH H (H.id i) = (i : Int)) && an2B H i && ordB5 (-100000) 100000 (H.lo i) (H.hi i)
theorem an_head {H : Hd} {i : Nat} : (an1B H i && an2B H i) = (headB H i && marksB H i) := by
 unfold an1B headB
 cases inB5 0 9999 (H.id i) <;> cases decide (atH H (H.id i) = (i : Int)) <;> cases an2B H i <;> cases ordB5 (-100000) 100000 (H.lo i) (H.hi i) <;> cases marksB H i <;> rfl
theorem head_no {H : Hd} {i : Nat} (hi : i < H.n) (h : (headB H i && marksB H i) = false) : herdB H = false := by
 rw [← an_head, Bool.and_eq_false_iff] at h
 rcases h with h | h
 · exact herd_no1 hi h
 · exact herd_no2 hi h
set_option maxRecDepth 100000 in
set_option maxHeartbeats 2000000 in
theorem rHerd_any {w : World} {A : Option Addr} {cp : Nat} {H : Hd} {a : Nat → Option Addr} {c : Nat → Nat} (hI : HIn w A H a c) :
  Calls Tryz.prog 74 #[.slice A H.n cp] w (Ret w (.bool (herdB H))) := by
 have hn := hI.hn
 have hR := hI.hR
 refine K_enter (S := []) (K := []) Tryz.func74 rfl Tryz.ntmps74 rfl (Sat.start _) ?_
 refine TW.seq fun Y1 hY1 => TW.region ?_
 refine TL.p Pu.as ?_
 refine TL.nil (TQ.thenN (hY1 _ _ ?_))
 refine TW.seq fun Y2 hY2 => ?_
 refine TW.seq fun Y3 hY3 => TW.region ?_
 refine TL.p Pu.mv ?_
 refine TL.p (Pu.ln Tryz.underlying22) ?_
 refine TL.p Pu.gt ?_
 refine TL.nil (TQ.thenN (hY3 _ _ ?_))
 refine TW.cond rfl (fun hc0 => ?_) (fun hc0 => ?_)
 try simp only [zcb9] at hc0
 refine TW.seq fun Y4 hY4 => TW.region ?_
 refine TL.p Pu.as ?_
 refine TL.nil (TQ.thenN (hY4 _ _ ?_))
 refine TW.ret ?_
 refine TQ.thenR ?_
 refine TQ.ret Tryz.results74 rfl ((.tmp rfl .nil)) ?_
 have hno := herd_no0 (H := H) hc0
 exact fun w hw => ⟨by rw [hno]; rfl, Chg.ext hw.chg⟩
 try simp only [zcb9] at hc0
 have h16 : (H.n : Int) ≤ 16 := by omega
 refine TW.skip ?_
 refine TQ.thenN (hY2 _ _ ?_)
 refine TW.seq fun Y5 hY5 => ?_
 refine TW.seq fun Y6 hY6 => TW.region ?_
 refine TL.p Pu.as ?_
 refine TL.nil (TQ.thenN (hY6 _ _ ?_))
 refine TW.block ?_
 refine TW.loop1 (fun (i : Nat) => [(3, .int .i64 (i : Int)), (0, .slice A H.n cp)]) (fun i => []) (fun i => i ≤ H.n ∧ ∀ j, j < i → (headB H j && marksB H j) = true) (fun i => H.n - i) 0 fs9 ?_ ?_ ?_
 exact ks9
 exact ⟨Nat.zero_le _, fun j hj => by omega⟩
 rintro i ⟨hi, h1⟩ Z0 hZ0
 refine TW.seq fun Y7 hY7 => ?_
 refine TW.seq fun Y8 hY8 => TW.region ?_
 refine TL.p Pu.mv ?_
 refine TL.p Pu.mv ?_
 refine TL.p (Pu.ln Tryz.underlying22) ?_
 refine TL.p Pu.lt ?_
 refine TL.nil (TQ.thenN (hY8 _ _ ?_))
 refine TW.cond rfl (fun hc1 => ?_) (fun hc1 => ?_)
 try simp only [zcb9] at hc1
 have hin : i < H.n := by omega
 have hml := hI.hl i hin
 have hMi := hI.hM i hin
 refine TW.skip ?_
 refine TQ.thenN (hY7 _ _ ?_)
 refine TW.seq fun Y9 hY9 => ?_
 refine TW.block ?_
 refine TW.seq fun Y10 hY10 => TW.region ?_
 refine TL.p Pu.mv ?_
 refine TL.p Pu.mv ?_
 refine TL.p (Pu.el ty_et22) ?_
 refine TL.p (Pu.lds ty_ag65) ?_
 refine TL.m (Mk.al ty_zr65) ?_
 intro b1
 first | refine TL.st ty_sz65 ?_ | refine TL.se ty_sz65 ?_
 refine TL.nil (TQ.thenN (hY10 _ _ ?_))
 refine TW.seq fun Y11 hY11 => ?_
 refine TW.seq fun Y12 hY12 => ?_
 refine TW.join [(52, .bool (!headB H i))] ?_ (fun hJ1 => ?_)
 refine TQ.thenN (hY12 _ _ ?_)
 refine TW.cond rfl (fun hc2 => ?_) (fun hc2 => ?_)
 try simp only [zcb9] at hc2
 have hno := head_no hin (by rw [show headB H i = false from hc2]; rfl)
 refine TW.seq fun Y13 hY13 => TW.region ?_
 refine TL.p Pu.as ?_
 refine TL.nil (TQ.thenN (hY13 _ _ ?_))
 refine TW.ret ?_
 refine TQ.thenR ?_
 refine TQ.blkR ?_
 refine TQ.thenR ?_
 refine TQ.thenR ?_
 refine TQ.blkR ?_
 refine TQ.thenR ?_
 refine TQ.ret Tryz.results74 rfl ((.tmp rfl .nil)) ?_
 exact fun w hw => ⟨by rw [hno]; rfl, Chg.ext hw.chg⟩
 try simp only [zcb9] at hc2
 have hhd : headB H i = true := hc2
 refine TW.skip ?_
 refine TQ.thenN (hY11 _ _ ?_)
 refine TW.seq fun Y14 hY14 => TW.region ?_
 refine TL.p Pu.as ?_
 refine TL.nil (TQ.thenN (hY14 _ _ ?_))
 refine TW.block ?_
 refine TW.loop1 (fun (k : Nat) => [(5, .int .i64 (k : Int)), (4, .pointer (some ⟨b1, 0, none⟩)), (3, .int .i64 (i : Int)), (0, .slice A H.n cp)]) (fun k => [.blk b1 65 (anL H a c i)]) (fun k => k ≤ H.ml i ∧ ∀ q, q < k → markB H i q = true) (fun k => H.ml i - k) 0 fs9 ?_ ?_ ?_
 exact ks9
 exact ⟨Nat.zero_le _, fun j hj => by omega⟩
 rintro k ⟨hk, hm⟩ Z1 hZ1
 refine TW.seq fun Y15 hY15 => ?_
 refine TW.seq fun Y16 hY16 => TW.region ?_
 refine TL.p Pu.mv ?_
 refine TL.p (by first | exact Pu.fb ty_fa65_3 | exact Pu.fe ty_fa65_3) ?_
 refine TL.p (Pu.ld ty_sc63) ?_
 refine TL.p (Pu.ln Tryz.underlying63) ?_
 refine TL.p Pu.lt ?_
 refine TL.nil (TQ.thenN (hY16 _ _ ?_))
 refine TW.cond rfl (fun hc3 => ?_) (fun hc3 => ?_)
 try simp only [zcb9] at hc3
 have hkl : k < H.ml i := by omega
 refine TW.skip ?_
 refine TQ.thenN (hY15 _ _ ?_)
 refine TW.seq fun Y17 hY17 => ?_
 refine TW.block ?_
 refine TW.seq fun Y18 hY18 => ?_
 refine TW.seq fun Y19 hY19 => ?_
 refine TW.join [(77, .bool (!(inB5 0 7 (H.sp i k) && inB5 1 20 (H.sg i k))))] ?_ (fun hJ2 => ?_)
 refine TQ.thenN (hY19 _ _ ?_)
 refine TW.cond rfl (fun hc4 => ?_) (fun hc4 => ?_)
 try simp only [zcb9] at hc4
 have hbad : (inB5 0 7 (H.sp i k) && inB5 1 20 (H.sg i k)) = false := by rw [Bool.and_eq_false_iff]; exact hc4
 have hno := head_no hin (by rw [marks_no hkl (by unfold markB; rw [hbad]; rfl), Bool.and_false])
 refine TW.seq fun Y20 hY20 => TW.region ?_
 refine TL.p Pu.as ?_
 refine TL.nil (TQ.thenN (hY20 _ _ ?_))
 refine TW.ret ?_
 refine TQ.thenR ?_
 refine TQ.blkR ?_
 refine TQ.thenR ?_
 refine TQ.thenR ?_
 refine TQ.blkR ?_
 refine TQ.blkR ?_
 refine TQ.thenR ?_
 refine TQ.thenR ?_
 refine TQ.blkR ?_
 refine TQ.thenR ?_
 refine TQ.ret Tryz.results74 rfl ((.tmp rfl .nil)) ?_
 exact fun w hw => ⟨by rw [hno]; rfl, Chg.ext hw.chg⟩
 try simp only [zcb9] at hc4
 have hgood : (inB5 0 7 (H.sp i k) && inB5 1 20 (H.sg i k)) = true := by simpa using hc4
 refine TW.skip ?_
 refine TQ.thenN (hY18 _ _ ?_)
 refine TW.seq fun Y21 hY21 => TW.region ?_
 refine TL.p Pu.as ?_
 refine TL.nil (TQ.thenN (hY21 _ _ ?_))
 refine TW.block ?_
 refine TW.loop1 (fun (q : Nat) => [(6, .int .i64 (q : Int)), (5, .int .i64 (k : Int)), (4, .pointer (some ⟨b1, 0, none⟩)), (3, .int .i64 (i : Int)), (0, .slice A H.n cp)]) (fun q => [.blk b1 65 (anL H a c i)]) (fun q => q ≤ k ∧ ∀ r, r < q → H.sp i r ≠ H.sp i k) (fun q => k - q) 0 fs9 ?_ ?_ ?_
 exact ks9
 exact ⟨Nat.zero_le _, fun j hj => by omega⟩
 rintro q ⟨hq, hs⟩ Z2 hZ2
 refine TW.seq fun Y22 hY22 => ?_
 refine TW.seq fun Y23 hY23 => TW.region ?_
 refine TL.p Pu.mv ?_
 refine TL.p Pu.mv ?_
 refine TL.p Pu.lt ?_
 refine TL.nil (TQ.thenN (hY23 _ _ ?_))
 refine TW.cond rfl (fun hc5 => ?_) (fun hc5 => ?_)
 try simp only [zcb9] at hc5
 have hqk : q < k := by omega
 refine TW.skip ?_
 refine TQ.thenN (hY22 _ _ ?_)
 refine TW.seq fun Y24 hY24 => ?_
 refine TW.block ?_
 refine TW.seq fun Y25 hY25 => ?_
 refine TW.dw 13 ?_
 refine RK.tk (by first | exact Pu.fb ty_fa65_3 | exact Pu.fe ty_fa65_3) ?_
 refine RK.tk (Pu.ld ty_sc63) ?_
 refine RK.tk Pu.mv ?_
 refine RK.tk (Pu.el ty_et63) ?_
 refine RK.tk (by first | exact Pu.fb ty_fa97_0 | exact Pu.fe ty_fa97_0) ?_
 refine RK.tk (Pu.ld ty_sc3) ?_
 refine RK.tk (by first | exact Pu.fb ty_fa65_3 | exact Pu.fe ty_fa65_3) ?_
 refine RK.tk (Pu.ld ty_sc63) ?_
 refine RK.tk Pu.mv ?_
 refine RK.tk (Pu.el ty_et63) ?_
 refine RK.tk (by first | exact Pu.fb ty_fa97_0 | exact Pu.fe ty_fa97_0) ?_
 refine RK.tk (Pu.ld ty_sc3) ?_
 refine RK.tk Pu.eq ?_
 refine RK.ch [] ?_ trivial
 refine WK.n ?_
 refine TL.nil (TQ.thenN (hY25 _ _ ?_))
 refine TW.cond rfl (fun hc6 => ?_) (fun hc6 => ?_)
 try simp only [zcb9] at hc6
 have hno := head_no hin (by rw [marks_no hkl (by unfold markB; rw [hgood, Bool.true_and, Bool.eq_false_iff]; intro h; have := allB_iff.1 h q hqk; simp [hc6] at this), Bool.and_false])
 refine TW.seq fun Y26 hY26 => TW.region ?_
 refine TL.p Pu.as ?_
 refine TL.nil (TQ.thenN (hY26 _ _ ?_))
 refine TW.ret ?_
 refine TQ.blkR ?_
 refine TQ.thenR ?_
 refine TQ.thenR ?_
 refine TQ.blkR ?_
 refine TQ.blkR ?_
 refine TQ.thenR ?_
 refine TQ.thenR ?_
 refine TQ.blkR ?_
 refine TQ.blkR ?_
 refine TQ.thenR ?_
 refine TQ.thenR ?_
 refine TQ.blkR ?_
 refine TQ.thenR ?_
 refine TQ.ret Tryz.results74 rfl ((.tmp rfl .nil)) ?_
 exact fun w hw => ⟨by rw [hno]; rfl, Chg.ext hw.chg⟩
 try simp only [zcb9] at hc6
 have hne : H.sp i q ≠ H.sp i k := hc6
 refine TW.skip ?_
 refine TQ.blkN ?_
 refine TQ.thenN (hY24 _ _ ?_)
 refine TW.region ?_
 refine TL.p Pu.mv ?_
 refine TL.p Pu.ad ?_
 refine TL.p Pu.as ?_
 refine TL.nil ?_
 refine TQ.thenN (hZ2 (q + 1) _ _ ?_ ?_ fs9 ?_)
 refine ⟨by omega, fun r hr => ?_⟩
 by_cases e : r = q
 subst e; exact hne
 exact hs r (by omega)
 exact zom9
 exact ks9
 try simp only [zcb9] at hc5
 obtain rfl : q = k := by omega
 refine TW.exit ?_
 refine TQ.thenX ?_
 refine TQ.thenX ?_
 refine TQ.blkX ?_
 refine TQ.blkN ?_
 refine TQ.thenN (hY17 _ _ ?_)
 refine TW.region ?_
 refine TL.p Pu.mv ?_
 refine TL.p Pu.ad ?_
 refine TL.p Pu.as ?_
 refine TL.nil ?_
 refine TQ.thenN (hZ1 (q + 1) _ _ ?_ ?_ fs9 ?_)
 refine ⟨by omega, fun r hr => ?_⟩
 by_cases e : r = q
 subst e
 unfold markB
 rw [hgood, Bool.true_and, allB_iff]
 intro j hj
 simpa using hs j hj
 exact hm r (by omega)
 exact zom9
 exact ks9
 refine TW.region ?_
 refine TL.p (by first | exact Pu.fb ty_fa65_3 | exact Pu.fe ty_fa65_3) ?_
 refine TL.p (Pu.ld ty_sc63) ?_
 refine TL.p Pu.mv ?_
 refine TL.p (Pu.el ty_et63) ?_
 refine TL.p (by first | exact Pu.fb ty_fa97_0 | exact Pu.fe ty_fa97_0) ?_
 refine TL.p (Pu.ld ty_sc3) ?_
 refine TL.cr rfl (enters Tryz.func83 rfl rfl) (fun w hw => by
   exact rWithin_any _ _ _ _) ?_
 refine TL.p Pu.no ?_
 refine TL.p Pu.mv ?_
 refine TL.guard (t := 68) rfl (fun hg1 => ?_) (fun hg1 => ?_)
 try simp only [zgb9] at hg1
 refine TL.gs ?_
 refine TL.gs ?_
 refine TL.gs ?_
 refine TL.gs ?_
 refine TL.gs ?_
 refine TL.gs ?_
 refine TL.gs ?_
 refine TL.gs ?_
 refine TL.p Pu.kt ?_
 refine TL.nil ?_
 exact TQ.sub (by repeat (first | exact trivial | refine ⟨rfl, ?_⟩ | refine ⟨trivial, ?_⟩ | refine ⟨(by show some (Value.bool _) = some (Value.bool _); first | (simp [hg1]; done) | (refine congrArg (fun z => some (Value.bool z)) (Bool.eq_iff_iff.2 ?_); simp [hg1]; omega)), ?_⟩)) ks9 hJ2
 try simp only [zgb9] at hg1
 refine TL.gd (by first | exact Pu.fb ty_fa65_3 | exact Pu.fe ty_fa65_3) ?_
 refine TL.gd (Pu.ld ty_sc63) ?_
 refine TL.gd Pu.mv ?_
 refine TL.gd (Pu.el ty_et63) ?_
 refine TL.gd (by first | exact Pu.fb ty_fa97_1 | exact Pu.fe ty_fa97_1) ?_
 refine TL.gd (Pu.ld ty_sc3) ?_
 refine TL.cr rfl (enters Tryz.func83 rfl rfl) (fun w hw => by
   exact rWithin_any _ _ _ _) ?_
 refine TL.gd Pu.no ?_
 refine TL.p Pu.kf ?_
 refine TL.nil ?_
 exact TQ.sub (by repeat (first | exact trivial | refine ⟨rfl, ?_⟩ | refine ⟨trivial, ?_⟩ | refine ⟨(by show some (Value.bool _) = some (Value.bool _); first | (simp [hg1]; done) | (refine congrArg (fun z => some (Value.bool z)) (Bool.eq_iff_iff.2 ?_); simp [hg1]; omega)), ?_⟩)) ks9 hJ2
 try simp only [zcb9] at hc3
 obtain rfl : k = H.ml i := by omega
 refine TW.exit ?_
 refine TQ.thenX ?_
 refine TQ.thenX ?_
 refine TQ.blkX ?_
 refine TQ.blkN ?_
 refine TQ.thenN (hY9 _ _ ?_)
 refine TW.region ?_
 refine TL.p Pu.mv ?_
 refine TL.p Pu.ad ?_
 refine TL.p Pu.as ?_
 refine TL.nil ?_
 refine TQ.thenN (hZ0 (i + 1) _ _ ?_ ?_ fs9 ?_)
 refine ⟨by omega, fun j hj => ?_⟩
 by_cases e : j = i
 subst e; rw [hhd, Bool.true_and]; exact allB_iff.2 hm
 exact h1 j (by omega)
 exact zom9
 exact ks9
 refine TW.region ?_
 refine TL.p (by first | exact Pu.fb ty_fa65_0 | exact Pu.fe ty_fa65_0) ?_
 refine TL.p (Pu.ld ty_sc3) ?_
 refine TL.cr rfl (enters Tryz.func83 rfl rfl) (fun w hw => by
   exact rWithin_any _ _ _ _) ?_
 refine TL.p Pu.no ?_
 refine TL.p Pu.mv ?_
 refine TL.guard (t := 27) rfl (fun hg2 => ?_) (fun hg2 => ?_)
 try simp only [zgb9] at hg2
 refine TL.gs ?_
 refine TL.gs ?_
 refine TL.gs ?_
 refine TL.gs ?_
 refine TL.gs ?_
 refine TL.gs ?_
 refine TL.p Pu.kt ?_
 refine TL.p Pu.mv ?_
 refine TL.gs ?_
 refine TL.gs ?_
 refine TL.gs ?_
 refine TL.gs ?_
 refine TL.gs ?_
 refine TL.gs ?_
 refine TL.gs ?_
 refine TL.gs ?_
 refine TL.gs ?_
 refine TL.gs ?_
 refine TL.p Pu.kt ?_
 refine TL.p Pu.mv ?_
 refine TL.gs ?_
 refine TL.gs ?_
 refine TL.gs ?_
 refine TL.gs ?_
 refine TL.p Pu.kt ?_
 refine TL.nil ?_
 exact TQ.sub (by repeat (first | exact trivial | refine ⟨rfl, ?_⟩ | refine ⟨trivial, ?_⟩ | refine ⟨(by show some (Value.bool _) = some (Value.bool _); first | (simp [hg2, headB, an2B]; done) | (refine congrArg (fun z => some (Value.bool z)) (Bool.eq_iff_iff.2 ?_); simp [hg2, headB, an2B]; omega)), ?_⟩)) ks9 hJ1
 try simp only [zgb9] at hg2
 refine TL.gd Pu.mv ?_
 refine TL.gd (by first | exact Pu.fb ty_fa65_0 | exact Pu.fe ty_fa65_0) ?_
 refine TL.gd (Pu.ld ty_sc3) ?_
 refine TL.cr rfl (enters Tryz.func75 rfl rfl) (fun w hw => by
   exact rAt_any _ hn (hR.sat hw Apart.nil)) ?_
 refine TL.gd Pu.mv ?_
 refine TL.gd Pu.ne ?_
 refine TL.p Pu.kf ?_
 refine TL.p Pu.mv ?_
 refine TL.guard (t := 35) rfl (fun hg3 => ?_) (fun hg3 => ?_)
 try simp only [zgb9] at hg3
 refine TL.gs ?_
 refine TL.gs ?_
 refine TL.gs ?_
 refine TL.gs ?_
 refine TL.gs ?_
 refine TL.gs ?_
 refine TL.gs ?_
 refine TL.gs ?_
 refine TL.gs ?_
 refine TL.gs ?_
 refine TL.p Pu.kt ?_
 refine TL.p Pu.mv ?_
 refine TL.gs ?_
 refine TL.gs ?_
 refine TL.gs ?_
 refine TL.gs ?_
 refine TL.p Pu.kt ?_
 refine TL.nil ?_
 exact TQ.sub (by repeat (first | exact trivial | refine ⟨rfl, ?_⟩ | refine ⟨trivial, ?_⟩ | refine ⟨(by show some (Value.bool _) = some (Value.bool _); first | (simp [hg2, hg3, headB, an2B]; done) | (refine congrArg (fun z => some (Value.bool z)) (Bool.eq_iff_iff.2 ?_); simp [hg2, hg3, headB, an2B]; omega)), ?_⟩)) ks9 hJ1
 try simp only [zgb9] at hg3
 refine TL.gd (by first | exact Pu.fb ty_fa65_1 | exact Pu.fe ty_fa65_1) ?_
 refine TL.gd (Pu.ld ty_sc3) ?_
 refine TL.gd Pu.ne ?_
 refine TL.gd Pu.mv ?_
 refine TL.guard (t := 39) rfl (fun hg4 => ?_) (fun hg4 => ?_)
 try simp only [zgb9] at hg4
 refine TL.gd Pu.mv ?_
 refine TL.gd (by first | exact Pu.fb ty_fa65_1 | exact Pu.fe ty_fa65_1) ?_
 refine TL.gd (Pu.ld ty_sc3) ?_
 refine TL.cr rfl (enters Tryz.func75 rfl rfl) (fun w hw => by
   exact rAt_any _ hn (hR.sat hw Apart.nil)) ?_
 refine TL.gd Pu.lt ?_
 refine TL.gd Pu.kt ?_
 refine TL.p Pu.kf ?_
 refine TL.p Pu.mv ?_
 refine TL.guard (t := 47) rfl (fun hg5 => ?_) (fun hg5 => ?_)
 try simp only [zgb9] at hg5
 refine TL.gs ?_
 refine TL.gs ?_
 refine TL.gs ?_
 refine TL.gs ?_
 refine TL.p Pu.kt ?_
 refine TL.nil ?_
 exact TQ.sub (by repeat (first | exact trivial | refine ⟨rfl, ?_⟩ | refine ⟨trivial, ?_⟩ | refine ⟨(by show some (Value.bool _) = some (Value.bool _); first | (simp [hg2, hg3, hg4, hg5, headB, an2B]; done) | (refine congrArg (fun z => some (Value.bool z)) (Bool.eq_iff_iff.2 ?_); simp [hg2, hg3, hg4, hg5, headB, an2B]; omega)), ?_⟩)) ks9 hJ1
 try simp only [zgb9] at hg5
 refine TL.gd (by first | exact Pu.fb ty_fa65_2 | exact Pu.fe ty_fa65_2) ?_
 refine TL.gd (Pu.lds ty_ag25) ?_
 refine TL.cr rfl (enters Tryz.func102 rfl rfl) (fun w hw => by
   exact rOrdered_any _ _ _ _ _) ?_
 refine TL.gd Pu.no ?_
 refine TL.p Pu.kf ?_
 refine TL.nil ?_
 exact TQ.sub (by repeat (first | exact trivial | refine ⟨rfl, ?_⟩ | refine ⟨trivial, ?_⟩ | refine ⟨(by show some (Value.bool _) = some (Value.bool _); first | (simp [hg2, hg3, hg4, hg5, headB, an2B]; done) | (refine congrArg (fun z => some (Value.bool z)) (Bool.eq_iff_iff.2 ?_); simp [hg2, hg3, hg4, hg5, headB, an2B]; omega)), ?_⟩)) ks9 hJ1
 try simp only [zgb9] at hg4
 refine TL.gs ?_
 refine TL.gs ?_
 refine TL.gs ?_
 refine TL.gs ?_
 refine TL.gs ?_
 refine TL.gd Pu.kf ?_
 refine TL.p Pu.kf ?_
 refine TL.p Pu.mv ?_
 refine TL.gd (by first | exact Pu.fb ty_fa65_2 | exact Pu.fe ty_fa65_2) ?_
 refine TL.gd (Pu.lds ty_ag25) ?_
 refine TL.cr rfl (enters Tryz.func102 rfl rfl) (fun w hw => by
   exact rOrdered_any _ _ _ _ _) ?_
 refine TL.gd Pu.no ?_
 refine TL.p Pu.kf ?_
 refine TL.nil ?_
 exact TQ.sub (by repeat (first | exact trivial | refine ⟨rfl, ?_⟩ | refine ⟨trivial, ?_⟩ | refine ⟨(by show some (Value.bool _) = some (Value.bool _); first | (simp [hg2, hg3, hg4, headB, an2B]; done) | (refine congrArg (fun z => some (Value.bool z)) (Bool.eq_iff_iff.2 ?_); simp [hg2, hg3, hg4, headB, an2B]; omega)), ?_⟩)) ks9 hJ1
 try simp only [zcb9] at hc1
 obtain rfl : i = H.n := by omega
 have h2 : ∀ j, j < H.n → an1B H j = true ∧ an2B H j = true := fun j hj => by
  have := h1 j hj
  rw [← an_head, Bool.and_eq_true] at this
  exact this
 refine TW.exit ?_
 refine TQ.thenX ?_
 refine TQ.thenX ?_
 refine TQ.blkX ?_
 refine TQ.thenN (hY5 _ _ ?_)
 refine TW.seq fun Y27 hY27 => ?_
 refine TW.seq fun Y28 hY28 => TW.region ?_
 refine TL.p Pu.as ?_
 refine TL.nil (TQ.thenN (hY28 _ _ ?_))
 refine TW.block ?_
 refine TW.loop1 (fun (i : Nat) => [(7, .int .i64 (i : Int)), (0, .slice A H.n cp)]) (fun i => []) (fun i => i ≤ H.n ∧ ∀ j, j < i → endB H j = true) (fun i => H.n - i) 0 fs9 ?_ ?_ ?_
 exact ks9
 exact ⟨Nat.zero_le _, fun j hj => by omega⟩
 rintro i ⟨hi, h3⟩ Z3 hZ3
 refine TW.seq fun Y29 hY29 => ?_
 refine TW.seq fun Y30 hY30 => TW.region ?_
 refine TL.p Pu.mv ?_
 refine TL.p Pu.mv ?_
 refine TL.p (Pu.ln Tryz.underlying22) ?_
 refine TL.p Pu.lt ?_
 refine TL.nil (TQ.thenN (hY30 _ _ ?_))
 refine TW.cond rfl (fun hc7 => ?_) (fun hc7 => ?_)
 try simp only [zcb9] at hc7
 have hin : i < H.n := by omega
 refine TW.skip ?_
 refine TQ.thenN (hY29 _ _ ?_)
 refine TW.seq fun Y31 hY31 => ?_
 refine TW.block ?_
 refine TW.seq fun Y32 hY32 => TW.region ?_
 refine TL.p Pu.mv ?_
 refine TL.p Pu.as ?_
 refine TL.p Pu.as ?_
 refine TL.nil (TQ.thenN (hY32 _ _ ?_))
 refine TW.block ?_
 refine TW.loop1 (fun (s : Nat) => [(8, .int .i64 (upH (moH H) i s)), (9, .int .i64 (s : Int)), (7, .int .i64 (i : Int)), (0, .slice A H.n cp)]) (fun s => []) (fun s => s ≤ H.n ∧ 0 ≤ upH (moH H) i s) (fun s => H.n + 1 - s) 0 fs9 ?_ ?_ ?_
 exact ks9
 exact ⟨Nat.zero_le _, by simp [upH]⟩
 rintro s ⟨hs, hup⟩ Z4 hZ4
 have hub := upH_bd (moH_Mo (H := H)) hin s
 have hmo : moH H (upH (moH H) i s).toNat = upH (moH H) i (s + 1) := (if_neg (by omega)).symm
 refine TW.seq fun Y33 hY33 => ?_
 refine TW.seq fun Y34 hY34 => TW.region ?_
 refine TL.p Pu.mv ?_
 refine TL.p Pu.mv ?_
 refine TL.p (Pu.el (q := (upH (moH H) i s).toNat) ty_et22 (hk := rfl)) ?_
 refine TL.p (by first | exact Pu.fb ty_fa65_1 | exact Pu.fe ty_fa65_1) ?_
 refine TL.p (Pu.ld ty_sc3) ?_
 refine TL.p Pu.ne ?_
 refine TL.nil (TQ.thenN (hY34 _ _ ?_))
 refine TW.cond rfl (fun hc8 => ?_) (fun hc8 => ?_)
 try simp only [zcb9] at hc8
 have hm1 : H.mo (upH (moH H) i s).toNat ≠ -1 := hc8
 have hat : atH H (H.mo (upH (moH H) i s).toNat) = upH (moH H) i (s + 1) := by rw [← hmo]; exact (if_neg hm1).symm
 have hge : 0 ≤ upH (moH H) i (s + 1) := by
  rw [← hat]
  have := (h2 (upH (moH H) i s).toNat (by omega)).2
  unfold an2B at this
  simp only [Bool.or_eq_true, decide_eq_true_eq] at this
  rcases this with h | h
  exact absurd h hm1
  exact h
 refine TW.skip ?_
 refine TQ.thenN (hY33 _ _ ?_)
 refine TW.block ?_
 refine TW.seq fun Y35 hY35 => TW.region ?_
 refine TL.p Pu.mv ?_
 refine TL.p Pu.mv ?_
 refine TL.p Pu.mv ?_
 refine TL.p (Pu.el (q := (upH (moH H) i s).toNat) ty_et22 (hk := rfl)) ?_
 refine TL.p (by first | exact Pu.fb ty_fa65_1 | exact Pu.fe ty_fa65_1) ?_
 refine TL.p (Pu.ld ty_sc3) ?_
 refine TL.cr rfl (enters Tryz.func75 rfl rfl) (fun w hw => by
   exact rAt_any _ hn (hR.sat hw Apart.nil)) ?_
 refine TL.p Pu.as ?_
 refine TL.nil (TQ.thenN (hY35 _ _ ?_))
 refine TW.seq fun Y36 hY36 => TW.region ?_
 refine TL.p Pu.mv ?_
 refine TL.p Pu.ad ?_
 refine TL.p Pu.as ?_
 refine TL.nil (TQ.thenN (hY36 _ _ ?_))
 refine TW.seq fun Y37 hY37 => TW.region ?_
 refine TL.p Pu.mv ?_
 refine TL.p Pu.mv ?_
 refine TL.p (Pu.ln Tryz.underlying22) ?_
 refine TL.p Pu.gt ?_
 refine TL.nil (TQ.thenN (hY37 _ _ ?_))
 refine TW.cond rfl (fun hc9 => ?_) (fun hc9 => ?_)
 try simp only [zcb9] at hc9
 have hno := herd_no3 hin (by
  unfold endB
  refine decide_eq_false fun h => ?_
  have := upH_mono h (show H.n ≤ s + 1 by omega)
  omega)
 refine TW.seq fun Y38 hY38 => TW.region ?_
 refine TL.p Pu.as ?_
 refine TL.nil (TQ.thenN (hY38 _ _ ?_))
 refine TW.ret ?_
 refine TQ.blkR ?_
 refine TQ.thenR ?_
 refine TQ.blkR ?_
 refine TQ.blkR ?_
 refine TQ.thenR ?_
 refine TQ.thenR ?_
 refine TQ.blkR ?_
 refine TQ.thenR ?_
 refine TQ.ret Tryz.results74 rfl ((.tmp rfl .nil)) ?_
 exact fun w hw => ⟨by rw [hno]; rfl, Chg.ext hw.chg⟩
 try simp only [zcb9] at hc9
 refine TW.skip ?_
 refine TQ.blkN ?_
 refine TQ.thenN (hZ4 (s + 1) _ _ ?_ ?_ ⟨(by rw [hat]; rfl), rfl, rfl, rfl, trivial⟩ ?_)
 exact ⟨by omega, hge⟩
 exact zom9
 exact ks9
 try simp only [zcb9] at hc8
 have hm1 : H.mo (upH (moH H) i s).toNat = -1 := hc8
 have hlt : upH (moH H) i (s + 1) < 0 := by rw [← hmo, show moH H (upH (moH H) i s).toNat = -1 from if_pos hm1]; omega
 have hend : endB H i = true := by
  unfold endB
  exact decide_eq_true ((upH_ends moH_Mo hin).1 (upH_mono hlt (by omega)))
 refine TW.exit ?_
 refine TQ.thenX ?_
 refine TQ.thenX ?_
 refine TQ.blkX ?_
 refine TQ.blkN ?_
 refine TQ.thenN (hY31 _ _ ?_)
 refine TW.region ?_
 refine TL.p Pu.mv ?_
 refine TL.p Pu.ad ?_
 refine TL.p Pu.as ?_
 refine TL.nil ?_
 refine TQ.thenN (hZ3 (i + 1) _ _ ?_ ?_ fs9 ?_)
 refine ⟨by omega, fun j hj => ?_⟩
 by_cases e : j = i
 subst e; exact hend
 exact h3 j (by omega)
 exact zom9
 exact ks9
 try simp only [zcb9] at hc7
 obtain rfl : i = H.n := by omega
 refine TW.exit ?_
 refine TQ.thenX ?_
 refine TQ.thenX ?_
 refine TQ.blkX ?_
 refine TQ.thenN (hY27 _ _ ?_)
 refine TW.seq fun Y39 hY39 => TW.region ?_
 refine TL.p Pu.as ?_
 refine TL.nil (TQ.thenN (hY39 _ _ ?_))
 refine TW.ret ?_
 refine TQ.ret Tryz.results74 rfl ((.tmp rfl .nil)) ?_
 have hyes := herd_yes h16 (fun j hj => (h2 j hj).1) (fun j hj => (h2 j hj).2) h3
 exact fun w hw => ⟨by rw [hyes]; rfl, Chg.ext hw.chg⟩
end Go.Proofs.YtceokmaddbdnfaaGreat
namespace Go.Proofs.YtceokmaddbdnfaaGreat
set_option linter.all false
set_option linter.unusedVariables false
set_option linter.unusedSimpArgs false
open Go.RowKit
theorem ne2_span (w : World) (x y : Operand) (i j m n : Int) : (do eqGuard .neq 25 x y (.agg #[.int .i64 i, .int .i64 j]) (.agg #[.int .i64 m, .int .i64 n]); binOp .neq 25 (.agg #[.int .i64 i, .int .i64 j]) (.agg #[.int .i64 m, .int .i64 n]) : Sem Value).run Tryz.prog w = .ok (.bool (!(decide (i = m) && decide (j = n)))) w := by
 by_cases h1 : i = m
 · by_cases h2 : j = n
   · subst h1 h2; go_simp
   · subst h1; go_simp
 · by_cases h2 : j = n
   · subst h2; go_simp
   · go_simp
theorem ne2_is {i j m n : Int} {b : Bool} (h : (!(decide (i = m) && decide (j = n))) = b) (w : World) (x y : Operand) : (do eqGuard .neq 25 x y (.agg #[.int .i64 i, .int .i64 j]) (.agg #[.int .i64 m, .int .i64 n]); binOp .neq 25 (.agg #[.int .i64 i, .int .i64 j]) (.agg #[.int .i64 m, .int .i64 n]) : Sem Value).run Tryz.prog w = .ok (.bool b) w := by
 subst h; exact ne2_span w x y i j m n
set_option maxRecDepth 100000 in
theorem rBorn_any {w : World} {H : Hd} {A : Option Addr} {cp : Nat} {a : Nat → Option Addr} {c : Nat → Nat} (hI : HIn w A H a c) :
  CallsK Tryz.prog 84 #[.slice A H.n cp] [] w (Option Addr × Nat) (fun y => .slice y.1 H.n y.2) (fun y => [.own y.1 H.n y.2 25 2 (fun j => spL (bornH H j).1 (bornH H j).2)]) := by
 have hn := hI.hn
 have hR := hI.hR
 refine K_enter (S := []) (K := []) Tryz.func84 rfl Tryz.ntmps84 rfl (Sat.start _) ?_
 refine TW.seq fun Y1 hY1 => TW.region ?_
 refine TL.p Pu.as ?_
 refine TL.nil (TQ.thenN (hY1 _ _ ?_))
 refine TW.seq fun Y2 hY2 => TW.region ?_
 refine TL.p Pu.as ?_
 refine TL.nil (TQ.thenN (hY2 _ _ ?_))
 refine TW.seq fun Y3 hY3 => ?_
 refine TW.seq fun Y4 hY4 => TW.region ?_
 refine TL.p Pu.as ?_
 refine TL.nil (TQ.thenN (hY4 _ _ ?_))
 refine TW.block ?_
 refine TW.loop3 (fun (i : Nat) (B : Option Addr) (cb : Nat) => [(4, .int .i64 (i : Int)), (0, .slice A H.n cp), (3, .slice B i cb)]) (fun i B cb => [.own B i cb 25 2 (fun j => spL (bornH H j).1 (bornH H j).2)]) (fun i B cb => i ≤ H.n) (fun i B cb => H.n - i) 0 none 0 fs9 ?_ ?_ ?_
 exact KSub.nilOwn KSub.nil
 exact Nat.zero_le _
 rintro i B cb hi Z0 hZ0
 refine TW.seq fun Y5 hY5 => ?_
 refine TW.seq fun Y6 hY6 => TW.region ?_
 refine TL.p Pu.mv ?_
 refine TL.p Pu.mv ?_
 refine TL.p (Pu.ln Tryz.underlying22) ?_
 refine TL.p Pu.lt ?_
 refine TL.nil (TQ.thenN (hY6 _ _ ?_))
 refine TW.cond rfl (fun hc0 => ?_) (fun hc0 => ?_)
 try simp only [zcb9] at hc0
 have hin : i < H.n := by omega
 refine TW.skip ?_
 refine TQ.thenN (hY5 _ _ ?_)
 refine TW.seq fun Y7 hY7 => ?_
 refine TW.block ?_
 refine TW.region ?_
 refine TL.p Pu.mv ?_
 refine TL.p Pu.mv ?_
 refine TL.p Pu.mv ?_
 refine TL.p (Pu.el ty_et22) ?_
 refine TL.p (by first | exact Pu.fb ty_fa65_2 | exact Pu.fe ty_fa65_2) ?_
 refine TL.p (Pu.lds ty_ag25) ?_
 refine TL.m Mk.bl ?_
 intro b1
 first | refine TL.a0 ty_et57 ?_ | refine TL.ap ty_et57 ?_
 intro A2 c2
 refine TL.p Pu.as ?_
 refine TL.nil ?_
 refine TQ.blkN ?_
 refine TQ.thenN (hY7 _ _ ?_)
 refine TW.region ?_
 refine TL.p Pu.mv ?_
 refine TL.p Pu.ad ?_
 refine TL.p Pu.as ?_
 refine TL.nil ?_
 refine TQ.thenN (hZ0 (i + 1) A2 c2 _ _ ?_ ?_ fs9 ?_)
 exact (by omega)
 exact zom9
 exact KSub.own pk9 (fun j hj => by exact cat_rows (r := fun j => spL (bornH H j).1 (bornH H j).2) rfl hj) KSub.nil
 try simp only [zcb9] at hc0
 obtain rfl : i = H.n := by omega
 refine TW.exit ?_
 refine TQ.thenX ?_
 refine TQ.thenX ?_
 refine TQ.blkX ?_
 refine TQ.thenN (hY3 _ _ ?_)
 refine TW.seq fun Y8 hY8 => TW.region ?_
 refine TL.p Pu.mv ?_
 refine TL.p Pu.as ?_
 refine TL.nil (TQ.thenN (hY8 _ _ ?_))
 refine TW.ret ?_
 refine TQ.ret Tryz.results84 rfl ((.tmp rfl .nil)) ?_
 exact fun w hw => ⟨(B, cb), rfl, hw⟩
structure NrP (f : Nat → Int) (n B : Nat) (S O : BSt) : Prop where
 top : ∀ C, Con f n C → SubS n C S → SubS n C O
 sub : SubS n O S
 bd : BdS n B O
def NrE (f : Nat → Int) (O : BSt) (j : Nat) : Prop := (O j).1 ≤ (O j).2 ∧ (0 ≤ f j → (O (f j).toNat).1 + 1400 ≤ (O j).1 ∧ (O j).2 ≤ (O (f j).toNat).2 + 10000 ∧ (O j).1 - 10000 ≤ (O (f j).toNat).1 ∧ (O (f j).toNat).2 ≤ (O j).2 - 1400)
theorem nr_empty {f : Nat → Int} {n B i : Nat} {S O : BSt} (hf : Mo f n) (ha : Acyc f n) (h : NrP f n B S O) (hi : i < n) (he : (O i).2 < (O i).1) : bthOk f n S = false := by
 rw [Bool.eq_false_iff]
 intro hb
 have hw := bth_w (S := S) hf ha
 have h1 := h.top _ hw.con hw.sub i hi
 have h2 := bthOk_iff.1 hb i hi
 omega
theorem nr_done {f : Nat → Int} {n B : Nat} {S O : BSt} (hf : Mo f n) (ha : Acyc f n) (h : NrP f n B S O) (he : ∀ j, j < n → NrE f O j) : (∀ i, i < n → O i = bth f n S i) ∧ bthOk f n S = true := by
 have hw : Wid f n S O := ⟨fun i hi h0 => (he i hi).2 h0, h.sub, h.top⟩
 have e := bth_eq hf ha hw
 exact ⟨e, bthOk_iff.2 fun i hi => by rw [← e i hi]; exact (he i hi).1⟩
theorem nr_next {f : Nat → Int} {n B i : Nat} {S O : BSt} (hf : Mo f n) (h : NrP f n B S O) (hi : i < n) (h0 : 0 ≤ f i) (him : i ≠ (f i).toNat) (hA : (nrA O i (f i).toNat).1 ≤ (nrA O i (f i).toNat).2) (hB : (nrB O i (f i).toNat).1 ≤ (nrB O i (f i).toNat).2) : NrP f n B S (nrS O i (f i).toNat) := by
 have hm : (f i).toNat < n := by have := hf i hi; omega
 refine ⟨fun C hc hs => nr_top hf hc hi h0 (h.top C hc hs), nr_sub.trans h.sub, fun j hj => ?_⟩
 have h1 := h.bd j hj
 have h2 := nr_sub (n := n) (S := O) (i := i) (m := (f i).toNat) j hj
 have h3 : (nrS O i (f i).toNat j).1 ≤ (nrS O i (f i).toNat j).2 ∨ (nrS O i (f i).toNat j) = O j := by
   unfold nrS
   by_cases e : j = (f i).toNat
   · rw [e, putS1_at]; exact .inl hB
   · rw [putS1_ne e]
     by_cases e2 : j = i
     · rw [e2, putS1_at]; exact .inl hA
     · rw [putS1_ne e2]; exact .inr rfl
 rcases h3 with h3 | h3
 · omega
 · rw [h3]; exact h1
theorem nr_empty2 {f : Nat → Int} {n B i m : Nat} {S O : BSt} (hf : Mo f n) (ha : Acyc f n) (h : NrP f n B S O) (hi : i < n) (h0 : 0 ≤ f i) (hm : m = (f i).toNat) (hmn : m < n) (him : i ≠ m) (he : (nrA O i m).2 < (nrA O i m).1 ∨ (nrB O i m).2 < (nrB O i m).1) : bthOk f n S = false := by
 rw [Bool.eq_false_iff]
 intro hb
 subst hm
 have hw := bth_w (S := S) hf ha
 have h1 := nr_top hf hw.con hi h0 (h.top _ hw.con hw.sub)
 have ei : nrS O i (f i).toNat i = nrA O i (f i).toNat := by unfold nrS; rw [putS1_ne him, putS1_at]
 have em : nrS O i (f i).toNat (f i).toNat = nrB O i (f i).toNat := putS1_at
 rcases he with he | he
 · have h2 := h1 i hi
   rw [ei] at h2
   have h3 := bthOk_iff.1 hb i hi
   omega
 · have h2 := h1 _ hmn
   rw [em] at h2
   have h3 := bthOk_iff.1 hb _ hmn
   omega
theorem nr_step {f : Nat → Int} {n B i m : Nat} {S O O2 : BSt} {ch2 ch9 : Bool} (hf : Mo f n) (h : NrP f n B S O2) (hi : i < n) (h0 : 0 ≤ f i) (hm : m = (f i).toNat) (hmn : m < n) (him : i ≠ m) (hne : (O2 i).1 ≤ (O2 i).2) (hA : (nrA O2 i m).1 ≤ (nrA O2 i m).2) (hB : (nrB O2 i m).1 ≤ (nrB O2 i m).2)
   (hD : (ch2 = false ∧ O2 = O ∧ ∀ j, j < i → NrE f O2 j) ∨ (ch2 = true ∧ wid O2 n < wid O n)) (hc : (ch9 = true ∧ (nrA O2 i m ≠ O2 i ∨ nrB O2 i m ≠ O2 m)) ∨ (ch9 = ch2 ∧ nrA O2 i m = O2 i ∧ nrB O2 i m = O2 m)) :
   NrP f n B S (nrS O2 i m) ∧ ((ch9 = false ∧ nrS O2 i m = O ∧ ∀ j, j < i + 1 → NrE f (nrS O2 i m) j) ∨ (ch9 = true ∧ wid (nrS O2 i m) n < wid O n)) := by
 subst hm
 refine ⟨nr_next hf h hi h0 him hA hB, ?_⟩
 rcases hc with ⟨e, hx⟩ | ⟨e, e1, e2⟩
 · have hw := nr_wid hi hmn him hA hB hx
   refine .inr ⟨e, ?_⟩
   rcases hD with ⟨_, e3, _⟩ | ⟨_, h3⟩
   · rw [e3] at hw ⊢; exact hw
   · omega
 · obtain ⟨h5, h6⟩ := nr_same e1 e2
   rw [h6]
   rcases hD with ⟨h1, h2, h3⟩ | ⟨h1, h2⟩
   · refine .inl ⟨e.trans h1, h2, fun j hj => ?_⟩
     by_cases ej : j = i
     · subst ej; exact ⟨hne, fun _ => h5⟩
     · exact h3 j (by omega)
   · exact .inr ⟨e.trans h1, h2⟩
inductive Hid1 (p : Prop) : Prop
 | mk : p → Hid1 p
theorem hid1 {p : Prop} (h : p) : Hid1 p := ⟨h⟩
theorem Hid1.out {p : Prop} : Hid1 p → p
 | ⟨h⟩ => h
set_option maxRecDepth 100000 in
set_option maxHeartbeats 4000000 in
theorem rbirths_any {w : World} {H : Hd} {A : Option Addr} {cp : Nat} {a : Nat → Option Addr} {c : Nat → Nat} {Ao : Option Addr} {co B : Nat} {S : BSt} (hk : HOk H) (hI : HIn w A H a c) (hRS : RdR w 2 Ao H.n (fun j => spL (S j).1 (S j).2)) (hS : BdS H.n B S) (hB : B ≤ 1000000) :
  CallsK Tryz.prog 85 #[.slice A H.n cp, .slice Ao H.n co] [] w (Option Addr × Nat) (fun y => .tuple #[.slice y.1 (if bthOk (moH H) H.n S then H.n else 0) y.2, .bool (bthOk (moH H) H.n S)]) (fun y => [.own y.1 (if bthOk (moH H) H.n S then H.n else 0) y.2 25 2 (fun j => spL (bth (moH H) H.n S j).1 (bth (moH H) H.n S j).2)]) := by
 have h16 := hk.n16
 have hn := hI.hn
 have hR := hI.hR
 have hMo := moH_Mo (H := H)
 refine K_enter (S := []) (K := []) Tryz.func85 rfl Tryz.ntmps85 rfl (Sat.start _) ?_
 refine TW.seq fun Y1 hY1 => TW.region ?_
 refine TL.p Pu.as ?_
 refine TL.p Pu.as ?_
 refine TL.nil (TQ.thenN (hY1 _ _ ?_))
 refine TW.seq fun Y2 hY2 => TW.region ?_
 refine TL.m Mk.bl ?_
 intro b1
 refine TL.p Pu.mv ?_
 refine TL.subK (KSub.ofBlk (n := 0) (sz := 2) (r := fun _ => []) Pick.hd rfl (fun _ h => by omega) rfl rfl KSub.nil) ?_
 first | refine TL.a0 ty_et57 ?_ | refine TL.ap ty_et57 ?_
 intro A2 c2
 refine TL.p Pu.as ?_
 refine TL.nil (TQ.thenN (hY2 _ _ ?_))
 refine TW.seq fun Y3 hY3 => ?_
 refine TW.seq fun Y4 hY4 => TW.region ?_
 refine TL.p Pu.as ?_
 refine TL.nil (TQ.thenN (hY4 _ _ ?_))
 refine TW.block ?_
 refine TW.loop2 (fun (O : BSt) (ch : Bool) => [(7, .bool ch), (6, .slice A2 H.n c2), (0, .slice A H.n cp)]) (fun O ch => [.own A2 H.n c2 25 2 (fun j => spL (O j).1 (O j).2)]) (fun O ch => NrP (moH H) H.n B S O ∧ (ch = false → ∀ j, j < H.n → NrE (moH H) O j)) (fun O ch => wid O H.n + (if ch = true then 1 else 0)) S true fs9 ?_ ?_ ?_
 exact KSub.cons pk9 KSub.nil
 exact ⟨⟨fun C _ h => h, SubS.refl, hS⟩, fun h => by cases h⟩
 rintro O ch ⟨hP, hE⟩ Z0 hZ0
 refine TW.seq fun Y5 hY5 => ?_
 refine TW.seq fun Y6 hY6 => TW.region ?_
 refine TL.p Pu.mv ?_
 refine TL.nil (TQ.thenN (hY6 _ _ ?_))
 refine TW.cond rfl (fun hc0 => ?_) (fun hc0 => ?_)
 try simp only [zcb9] at hc0
 subst hc0
 refine TW.skip ?_
 refine TQ.thenN (hY5 _ _ ?_)
 refine TW.block ?_
 refine TW.seq fun Y7 hY7 => TW.region ?_
 refine TL.p Pu.as ?_
 refine TL.nil (TQ.thenN (hY7 _ _ ?_))
 refine TW.seq fun Y8 hY8 => TW.region ?_
 refine TL.p Pu.as ?_
 refine TL.nil (TQ.thenN (hY8 _ _ ?_))
 refine TW.block ?_
 refine TW.loop3 (fun (i : Nat) (O2 : BSt) (ch2 : Bool) => [(8, .int .i64 (i : Int)), (7, .bool ch2), (6, .slice A2 H.n c2), (0, .slice A H.n cp)]) (fun i O2 ch2 => [.own A2 H.n c2 25 2 (fun j => spL (O2 j).1 (O2 j).2)]) (fun i O2 ch2 => i ≤ H.n ∧ NrP (moH H) H.n B S O2 ∧ ((ch2 = false ∧ O2 = O ∧ ∀ j, j < i → NrE (moH H) O2 j) ∨ (ch2 = true ∧ wid O2 H.n < wid O H.n))) (fun i O2 ch2 => H.n - i) 0 O false fs9 ?_ ?_ ?_
 exact ks9
 exact ⟨Nat.zero_le _, hP, .inl ⟨rfl, rfl, fun j hj => by omega⟩⟩
 rintro i O2 ch2 ⟨hi, hP2, hD⟩ Z1 hZ1
 refine TW.seq fun Y9 hY9 => ?_
 refine TW.seq fun Y10 hY10 => TW.region ?_
 refine TL.p Pu.mv ?_
 refine TL.p Pu.mv ?_
 refine TL.p (Pu.ln Tryz.underlying22) ?_
 refine TL.p Pu.lt ?_
 refine TL.nil (TQ.thenN (hY10 _ _ ?_))
 refine TW.cond rfl (fun hc1 => ?_) (fun hc1 => ?_)
 try simp only [zcb9] at hc1
 have hin : i < H.n := by omega
 have hbi := hP2.bd i hin
 refine TW.skip ?_
 refine TQ.thenN (hY9 _ _ ?_)
 refine TW.seq fun Y11 hY11 => ?_
 refine TW.block ?_
 refine TW.seq fun Y12 hY12 => ?_
 refine TW.seq fun Y13 hY13 => ?_
 refine TW.dw 11 ?_
 refine RK.tk Pu.mv ?_
 refine RK.tk Pu.mv ?_
 refine RK.tk (Pu.el ty_et57) ?_
 refine RK.tk (by first | exact Pu.fb ty_fa25_0 | exact Pu.fe ty_fa25_0) ?_
 refine RK.tk (Pu.ld ty_sc3) ?_
 refine RK.tk Pu.mv ?_
 refine RK.tk Pu.mv ?_
 refine RK.tk (Pu.el ty_et57) ?_
 refine RK.tk (by first | exact Pu.fb ty_fa25_1 | exact Pu.fe ty_fa25_1) ?_
 refine RK.tk (Pu.ld ty_sc3) ?_
 refine RK.tk Pu.gt ?_
 refine RK.ch [] ?_ trivial
 refine WK.n ?_
 refine TL.nil (TQ.thenN (hY13 _ _ ?_))
 refine TW.cond rfl (fun hc2 => ?_) (fun hc2 => ?_)
 try simp only [zcb9] at hc2
 have hno := nr_empty hMo hk.ac hP2 hin (by omega)
 refine TW.seq fun Y14 hY14 => TW.region ?_
 refine TL.p Pu.as ?_
 refine TL.p Pu.as ?_
 refine TL.nil (TQ.thenN (hY14 _ _ ?_))
 refine TW.ret ?_
 refine TQ.thenR ?_
 refine TQ.blkR ?_
 refine TQ.thenR ?_
 refine TQ.thenR ?_
 refine TQ.blkR ?_
 refine TQ.blkR ?_
 refine TQ.thenR ?_
 refine TQ.blkR ?_
 refine TQ.thenR ?_
 refine TQ.ret Tryz.results85 rfl ((.tmp rfl (.tmp rfl .nil))) ?_
 refine fun w hw => ⟨(none, 0), ?_, ?_⟩
 simp only [hno]; rfl
 simp only [hno]
 exact hw.sub (KSub.nilOwn KSub.nil)
 try simp only [zcb9] at hc2
 have hne : (O2 i).1 ≤ (O2 i).2 := by omega
 refine TW.skip ?_
 refine TQ.thenN (hY12 _ _ ?_)
 refine TW.seq fun Y15 hY15 => ?_
 refine TW.seq fun Y16 hY16 => TW.region ?_
 refine TL.p Pu.mv ?_
 refine TL.p Pu.mv ?_
 refine TL.p (Pu.el ty_et22) ?_
 refine TL.p (by first | exact Pu.fb ty_fa65_1 | exact Pu.fe ty_fa65_1) ?_
 refine TL.p (Pu.ld ty_sc3) ?_
 refine TL.p Pu.eq ?_
 refine TL.nil (TQ.thenN (hY16 _ _ ?_))
 refine TW.cond rfl (fun hc3 => ?_) (fun hc3 => ?_)
 try simp only [zcb9] at hc3
 have hm1 : H.mo i = -1 := hc3
 have hm0 : ¬ 0 ≤ moH H i := by rw [show moH H i = -1 from if_pos hm1]; omega
 have hEi : NrE (moH H) O2 i := ⟨hne, fun h => absurd h hm0⟩
 obtain ⟨O9, hO9⟩ : ∃ y : BSt, y = O2 := ⟨_, rfl⟩
 obtain ⟨ch9, hch9⟩ : ∃ y : Bool, y = ch2 := ⟨_, rfl⟩
 have hNx : NrP (moH H) H.n B S O9 ∧ ((ch9 = false ∧ O9 = O ∧ ∀ j, j < i + 1 → NrE (moH H) O9 j) ∨ (ch9 = true ∧ wid O9 H.n < wid O H.n)) := by
  rw [hO9, hch9]
  refine ⟨hP2, ?_⟩
  rcases hD with ⟨h1, h2, h3⟩ | h1
  refine .inl ⟨h1, h2, fun j hj => ?_⟩
  by_cases ej : j = i
  subst ej; exact hEi
  exact h3 j (by omega)
  exact .inr h1
 refine TW.exit ?_
 refine TQ.thenX ?_
 refine TQ.blkX ?_
 refine TQ.thenN (hY11 _ _ ?_)
 refine TW.region ?_
 refine TL.p Pu.mv ?_
 refine TL.p Pu.ad ?_
 refine TL.p Pu.as ?_
 refine TL.nil ?_
 refine TQ.thenN (hZ1 (i + 1) O9 ch9 _ _ ?_ ?_ ⟨rfl, (by rw [hch9]; rfl), rfl, rfl, trivial⟩ ?_)
 exact ⟨by omega, hNx⟩
 exact zom9
 rw [hO9]
 first
  | (refine KSub.own pk9 (fun j hj => ?_) KSub.nil; exact row_put (S := putS1 O2 i (nrA O2 i m)) (T := nrS O2 i m) (a := (nrB O2 i m).1) (b := (nrB O2 i m).2) rfl)
  | exact KSub.cons pk9 KSub.nil
 try simp only [zcb9] at hc3
 have hm1 : H.mo i ≠ -1 := hc3
 have hmo : moH H i = atH H (H.mo i) := if_neg hm1
 have hm0 : 0 ≤ atH H (H.mo i) := (hk.mo i hin).resolve_left hm1
 have hm0' : 0 ≤ moH H i := by rw [hmo]; exact hm0
 obtain ⟨m, hm⟩ : ∃ m, m = (moH H i).toNat := ⟨_, rfl⟩
 have hmi : atH H (H.mo i) = (m : Int) := by rw [hm, ← hmo]; omega
 have hmn : m < H.n := by have := hMo i hin; omega
 have him : i ≠ m := fun e => by
  have := dep_mother hk.ac hMo hin hm0'
  rw [← hm, ← e] at this
  omega
 have hbm := hP2.bd m hmn
 obtain ⟨cA, hcA⟩ : ∃ b : Bool, (!(decide ((nrA O2 i m).1 = (O2 i).1) && decide ((nrA O2 i m).2 = (O2 i).2))) = b := ⟨_, rfl⟩
 obtain ⟨cB, hcB⟩ : ∃ b : Bool, (!(decide ((nrB O2 i m).1 = (O2 m).1) && decide ((nrB O2 i m).2 = (O2 m).2))) = b := ⟨_, rfl⟩
 have hidM := hid1 (And.intro hm hmo)
 clear hm hmo
 replace hmi : atH H (H.mo i) ≤ (m : Int) ∧ (m : Int) ≤ atH H (H.mo i) := by omega
 refine TW.skip ?_
 refine TQ.thenN (hY15 _ _ ?_)
 refine TW.seq fun Y17 hY17 => TW.region ?_
 refine TL.p Pu.mv ?_
 refine TL.p Pu.mv ?_
 refine TL.p Pu.mv ?_
 refine TL.p (Pu.el ty_et22) ?_
 refine TL.p (by first | exact Pu.fb ty_fa65_1 | exact Pu.fe ty_fa65_1) ?_
 refine TL.p (Pu.ld ty_sc3) ?_
 refine TL.cr rfl (enters Tryz.func75 rfl rfl) (fun w hw => by
   exact rAt_any _ hn (hR.sat hw Apart.nil)) ?_
 refine TL.p Pu.as ?_
 refine TL.nil (TQ.thenN (hY17 _ _ ?_))
 refine TW.seq fun Y18 hY18 => ?_
 refine TW.dw 26 ?_
 refine RK.tk Pu.mv ?_
 refine RK.tk Pu.mv ?_
 refine RK.tk (Pu.el ty_et57) ?_
 refine RK.tk (by first | exact Pu.fb ty_fa25_0 | exact Pu.fe ty_fa25_0) ?_
 refine RK.tk (Pu.ld ty_sc3) ?_
 refine RK.tk Pu.mv ?_
 refine RK.tk Pu.mv ?_
 refine RK.tk (Pu.el (q := m) ty_et57 (hk := by omega)) ?_
 refine RK.tk (by first | exact Pu.fb ty_fa25_0 | exact Pu.fe ty_fa25_0) ?_
 refine RK.tk (Pu.ld ty_sc3) ?_
 refine RK.tk Pu.ad ?_
 refine RK.tk Pu.mx ?_
 refine RK.tk Pu.mv ?_
 refine RK.tk Pu.mv ?_
 refine RK.tk (Pu.el ty_et57) ?_
 refine RK.tk (by first | exact Pu.fb ty_fa25_1 | exact Pu.fe ty_fa25_1) ?_
 refine RK.tk (Pu.ld ty_sc3) ?_
 refine RK.tk Pu.mv ?_
 refine RK.tk Pu.mv ?_
 refine RK.tk (Pu.el (q := m) ty_et57 (hk := by omega)) ?_
 refine RK.tk (by first | exact Pu.fb ty_fa25_1 | exact Pu.fe ty_fa25_1) ?_
 refine RK.tk (Pu.ld ty_sc3) ?_
 refine RK.tk Pu.ad ?_
 refine RK.tk Pu.mn ?_
 refine RK.tk Pu.bd ?_
 refine RK.float [.int .i64 0, .int .i64 0] ?_
 refine RK.ch [] ?_ ⟨ty_zr25, trivial⟩
 refine WK.n ?_
 intro b3
 first | refine TL.st ty_sz25 ?_ | refine TL.se ty_sz25 ?_
 refine TL.nil (TQ.thenN (hY18 _ _ ?_))
 refine TW.seq fun Y19 hY19 => ?_
 refine TW.dw 26 ?_
 refine RK.tk Pu.mv ?_
 refine RK.tk Pu.mv ?_
 refine RK.tk (Pu.el (q := m) ty_et57 (hk := by omega)) ?_
 refine RK.tk (by first | exact Pu.fb ty_fa25_0 | exact Pu.fe ty_fa25_0) ?_
 refine RK.tk (Pu.ld ty_sc3) ?_
 refine RK.tk Pu.mv ?_
 refine RK.tk Pu.mv ?_
 refine RK.tk (Pu.el ty_et57) ?_
 refine RK.tk (by first | exact Pu.fb ty_fa25_0 | exact Pu.fe ty_fa25_0) ?_
 refine RK.tk (Pu.ld ty_sc3) ?_
 refine RK.tk Pu.sb ?_
 refine RK.tk Pu.mx ?_
 refine RK.tk Pu.mv ?_
 refine RK.tk Pu.mv ?_
 refine RK.tk (Pu.el (q := m) ty_et57 (hk := by omega)) ?_
 refine RK.tk (by first | exact Pu.fb ty_fa25_1 | exact Pu.fe ty_fa25_1) ?_
 refine RK.tk (Pu.ld ty_sc3) ?_
 refine RK.tk Pu.mv ?_
 refine RK.tk Pu.mv ?_
 refine RK.tk (Pu.el ty_et57) ?_
 refine RK.tk (by first | exact Pu.fb ty_fa25_1 | exact Pu.fe ty_fa25_1) ?_
 refine RK.tk (Pu.ld ty_sc3) ?_
 refine RK.tk Pu.sb ?_
 refine RK.tk Pu.mn ?_
 refine RK.tk Pu.bd ?_
 refine RK.float [.int .i64 0, .int .i64 0] ?_
 refine RK.ch [] ?_ ⟨ty_zr25, trivial⟩
 refine WK.n ?_
 intro b4
 first | refine TL.st ty_sz25 ?_ | refine TL.se ty_sz25 ?_
 refine TL.nil (TQ.thenN (hY19 _ _ ?_))
 refine TW.seq fun Y20 hY20 => ?_
 refine TW.seq fun Y21 hY21 => ?_
 refine TW.join [(109, .bool (cA || cB))] ?_ (fun hJ1 => ?_)
 refine TQ.thenN (hY21 _ _ ?_)
 refine TW.cond rfl (fun hc4 => ?_) (fun hc4 => ?_)
 try simp only [zcb9] at hc4
 obtain ⟨O9, hO9⟩ : ∃ y : BSt, y = nrS O2 i m := ⟨_, rfl⟩
 obtain ⟨ch9, hch9⟩ : ∃ y : Bool, y = true := ⟨_, rfl⟩
 have hcs : (ch9 = true ∧ (nrA O2 i m ≠ O2 i ∨ nrB O2 i m ≠ O2 m)) ∨ (ch9 = ch2 ∧ nrA O2 i m = O2 i ∧ nrB O2 i m = O2 m) := by
  refine .inl ⟨hch9, ?_⟩
  by_cases e1 : nrA O2 i m = O2 i
  by_cases e2 : nrB O2 i m = O2 m
  have a1 : cA = false := by rw [← hcA, e1]; simp
  have a2 : cB = false := by rw [← hcB, e2]; simp
  rw [a1, a2] at hc4
  simp at hc4
  exact .inr e2
  exact .inl e1
 refine TW.region ?_
 refine TL.p Pu.as ?_
 refine TL.nil (TQ.thenN (hY20 _ _ ?_))
 refine TW.seq fun Y22 hY22 => ?_
 refine TW.ex0k [.blk b3 25 [.int .i64 (nrA O2 i m).1, .int .i64 (nrA O2 i m).2], .blk b4 25 [.int .i64 (nrB O2 i m).1, .int .i64 (nrB O2 i m).2]] ?_
 refine RG.tk 0 rfl Pu.mv ?_
 refine RG.tk 1 rfl Pu.mv ?_
 refine RG.tk 2 rfl Pu.mv ?_
 refine RG.tk 3 rfl Pu.mv ?_
 refine RG.tk 4 rfl (Pu.lds ty_ag25) ?_
 refine RG.tk 5 rfl (Pu.lds ty_ag25) ?_
 refine RG.a1 6 rfl (fun X6 hX6 => ?_)
 refine TL.p (Pu.el ty_et57) ?_
 refine TL.nil ?_
 refine TQ.nxt (hX6 _ _ hl9 ?_)
 refine RG.a1 7 rfl (fun X7 hX7 => ?_)
 first | refine TL.st ty_sz25 ?_ | refine TL.se ty_sz25 ?_
 refine TL.nil ?_
 refine TQ.nxt (hX7 _ _ hl9 ?_)
 refine RG.a1 8 rfl (fun X8 hX8 => ?_)
 refine TL.p (Pu.el (q := m) ty_et57 (hk := by omega)) ?_
 refine TL.nil ?_
 refine TQ.nxt (hX8 _ _ hl9 ?_)
 refine RG.a1 9 rfl (fun X9 hX9 => ?_)
 refine TL.subK (KSub.own (s := fun j => spL (putS1 O2 i (nrA O2 i m) j).1 (putS1 O2 i (nrA O2 i m) j).2) pk9 (fun j hj => row_put rfl) (KSub.cons pk9 (KSub.cons pk9 KSub.nil))) ?_
 first | refine TL.st ty_sz25 ?_ | refine TL.se ty_sz25 ?_
 refine TL.nil ?_
 refine TQ.nxt (hX9 _ _ hl9 ?_)
 refine RG.nil ?_ (by kernel_rfl)
 refine TQ.thenN (hY22 _ _ ?_)
 refine TW.seq fun Y23 hY23 => ?_
 refine TW.join [(129, .bool (decide (min (O2 i).2 ((O2 m).2 + 10000) < max (O2 i).1 ((O2 m).1 + 1400)) || decide (min (O2 m).2 ((O2 i).2 - 1400) < max (O2 m).1 ((O2 i).1 - 10000))))] ?_ (fun hJ2 => ?_)
 refine TQ.thenN (hY23 _ _ ?_)
 refine TW.cond rfl (fun hc5 => ?_) (fun hc5 => ?_)
 try simp only [zcb9] at hc5
 have hno := nr_empty2 hMo hk.ac hP2 hin hm0' hidM.out.1 hmn him (show (nrA O2 i m).2 < (nrA O2 i m).1 ∨ (nrB O2 i m).2 < (nrB O2 i m).1 from hc5)
 refine TW.seq fun Y24 hY24 => TW.region ?_
 refine TL.p Pu.as ?_
 refine TL.p Pu.as ?_
 refine TL.nil (TQ.thenN (hY24 _ _ ?_))
 refine TW.ret ?_
 refine TQ.blkR ?_
 refine TQ.thenR ?_
 refine TQ.thenR ?_
 refine TQ.blkR ?_
 refine TQ.blkR ?_
 refine TQ.thenR ?_
 refine TQ.blkR ?_
 refine TQ.thenR ?_
 refine TQ.ret Tryz.results85 rfl ((.tmp rfl (.tmp rfl .nil))) ?_
 refine fun w hw => ⟨(none, 0), ?_, ?_⟩
 simp only [hno]; rfl
 simp only [hno]
 exact hw.sub (KSub.nilOwn KSub.nil)
 try simp only [zcb9] at hc5
 have hA9 : (nrA O2 i m).1 ≤ (nrA O2 i m).2 := hc5.1
 have hB9 : (nrB O2 i m).1 ≤ (nrB O2 i m).2 := hc5.2
 have hNx := nr_step hMo hP2 hin hm0' hidM.out.1 hmn him hne hA9 hB9 hD hcs
 rw [← hO9] at hNx
 refine TW.skip ?_
 refine TQ.blkN ?_
 refine TQ.thenN (hY11 _ _ ?_)
 refine TW.region ?_
 refine TL.p Pu.mv ?_
 refine TL.p Pu.ad ?_
 refine TL.p Pu.as ?_
 refine TL.nil ?_
 refine TQ.thenN (hZ1 (i + 1) O9 ch9 _ _ ?_ ?_ ⟨rfl, (by rw [hch9]; rfl), rfl, rfl, trivial⟩ ?_)
 exact ⟨by omega, hNx⟩
 exact zom9
 rw [hO9]
 first
  | (refine KSub.own pk9 (fun j hj => ?_) KSub.nil; exact row_put (S := putS1 O2 i (nrA O2 i m)) (T := nrS O2 i m) (a := (nrB O2 i m).1) (b := (nrB O2 i m).2) rfl)
  | exact KSub.cons pk9 KSub.nil
 refine TW.region ?_
 refine TL.p (by first | exact Pu.fb ty_fa25_0 | exact Pu.fe ty_fa25_0) ?_
 refine TL.p (Pu.ld ty_sc3) ?_
 refine TL.p (by first | exact Pu.fb ty_fa25_1 | exact Pu.fe ty_fa25_1) ?_
 refine TL.p (Pu.ld ty_sc3) ?_
 refine TL.p Pu.gt ?_
 refine TL.p Pu.mv ?_
 refine TL.guard (t := 123) rfl (fun hg1 => ?_) (fun hg1 => ?_)
 try simp only [zgb9] at hg1
 refine TL.gs ?_
 refine TL.gs ?_
 refine TL.gs ?_
 refine TL.gs ?_
 refine TL.gs ?_
 refine TL.p Pu.kt ?_
 refine TL.nil ?_
 exact TQ.sub (by repeat (first | exact trivial | refine ⟨rfl, ?_⟩ | refine ⟨trivial, ?_⟩ | refine ⟨(by show some (Value.bool _) = some (Value.bool _); first | (simp [hg1]; done) | (refine congrArg (fun z => some (Value.bool z)) (Bool.eq_iff_iff.2 ?_); simp [hg1]; omega)), ?_⟩)) ks9 hJ2
 try simp only [zgb9] at hg1
 refine TL.gd (by first | exact Pu.fb ty_fa25_0 | exact Pu.fe ty_fa25_0) ?_
 refine TL.gd (Pu.ld ty_sc3) ?_
 refine TL.gd (by first | exact Pu.fb ty_fa25_1 | exact Pu.fe ty_fa25_1) ?_
 refine TL.gd (Pu.ld ty_sc3) ?_
 refine TL.gd Pu.gt ?_
 refine TL.p Pu.kf ?_
 refine TL.nil ?_
 exact TQ.sub (by repeat (first | exact trivial | refine ⟨rfl, ?_⟩ | refine ⟨trivial, ?_⟩ | refine ⟨(by show some (Value.bool _) = some (Value.bool _); first | (simp [hg1]; done) | (refine congrArg (fun z => some (Value.bool z)) (Bool.eq_iff_iff.2 ?_); simp [hg1]; omega)), ?_⟩)) ks9 hJ2
 try simp only [zcb9] at hc4
 obtain ⟨O9, hO9⟩ : ∃ y : BSt, y = nrS O2 i m := ⟨_, rfl⟩
 obtain ⟨ch9, hch9⟩ : ∃ y : Bool, y = ch2 := ⟨_, rfl⟩
 have hcs : (ch9 = true ∧ (nrA O2 i m ≠ O2 i ∨ nrB O2 i m ≠ O2 m)) ∨ (ch9 = ch2 ∧ nrA O2 i m = O2 i ∧ nrB O2 i m = O2 m) := by
  rw [hc4.1] at hcA
  rw [hc4.2] at hcB
  simp at hcA hcB
  exact .inr ⟨hch9, Prod.ext hcA.1 hcA.2, Prod.ext hcB.1 hcB.2⟩
 refine TW.skip ?_
 refine TQ.thenN (hY20 _ _ ?_)
 refine TW.seq fun Y25 hY25 => ?_
 refine TW.ex0k [.blk b3 25 [.int .i64 (nrA O2 i m).1, .int .i64 (nrA O2 i m).2], .blk b4 25 [.int .i64 (nrB O2 i m).1, .int .i64 (nrB O2 i m).2]] ?_
 refine RG.tk 0 rfl Pu.mv ?_
 refine RG.tk 1 rfl Pu.mv ?_
 refine RG.tk 2 rfl Pu.mv ?_
 refine RG.tk 3 rfl Pu.mv ?_
 refine RG.tk 4 rfl (Pu.lds ty_ag25) ?_
 refine RG.tk 5 rfl (Pu.lds ty_ag25) ?_
 refine RG.a1 6 rfl (fun X6 hX6 => ?_)
 refine TL.p (Pu.el ty_et57) ?_
 refine TL.nil ?_
 refine TQ.nxt (hX6 _ _ hl9 ?_)
 refine RG.a1 7 rfl (fun X7 hX7 => ?_)
 first | refine TL.st ty_sz25 ?_ | refine TL.se ty_sz25 ?_
 refine TL.nil ?_
 refine TQ.nxt (hX7 _ _ hl9 ?_)
 refine RG.a1 8 rfl (fun X8 hX8 => ?_)
 refine TL.p (Pu.el (q := m) ty_et57 (hk := by omega)) ?_
 refine TL.nil ?_
 refine TQ.nxt (hX8 _ _ hl9 ?_)
 refine RG.a1 9 rfl (fun X9 hX9 => ?_)
 refine TL.subK (KSub.own (s := fun j => spL (putS1 O2 i (nrA O2 i m) j).1 (putS1 O2 i (nrA O2 i m) j).2) pk9 (fun j hj => row_put rfl) (KSub.cons pk9 (KSub.cons pk9 KSub.nil))) ?_
 first | refine TL.st ty_sz25 ?_ | refine TL.se ty_sz25 ?_
 refine TL.nil ?_
 refine TQ.nxt (hX9 _ _ hl9 ?_)
 refine RG.nil ?_ (by kernel_rfl)
 refine TQ.thenN (hY25 _ _ ?_)
 refine TW.seq fun Y26 hY26 => ?_
 refine TW.join [(129, .bool (decide (min (O2 i).2 ((O2 m).2 + 10000) < max (O2 i).1 ((O2 m).1 + 1400)) || decide (min (O2 m).2 ((O2 i).2 - 1400) < max (O2 m).1 ((O2 i).1 - 10000))))] ?_ (fun hJ3 => ?_)
 refine TQ.thenN (hY26 _ _ ?_)
 refine TW.cond rfl (fun hc5 => ?_) (fun hc5 => ?_)
 try simp only [zcb9] at hc5
 have hno := nr_empty2 hMo hk.ac hP2 hin hm0' hidM.out.1 hmn him (show (nrA O2 i m).2 < (nrA O2 i m).1 ∨ (nrB O2 i m).2 < (nrB O2 i m).1 from hc5)
 refine TW.seq fun Y27 hY27 => TW.region ?_
 refine TL.p Pu.as ?_
 refine TL.p Pu.as ?_
 refine TL.nil (TQ.thenN (hY27 _ _ ?_))
 refine TW.ret ?_
 refine TQ.blkR ?_
 refine TQ.thenR ?_
 refine TQ.thenR ?_
 refine TQ.blkR ?_
 refine TQ.blkR ?_
 refine TQ.thenR ?_
 refine TQ.blkR ?_
 refine TQ.thenR ?_
 refine TQ.ret Tryz.results85 rfl ((.tmp rfl (.tmp rfl .nil))) ?_
 refine fun w hw => ⟨(none, 0), ?_, ?_⟩
 simp only [hno]; rfl
 simp only [hno]
 exact hw.sub (KSub.nilOwn KSub.nil)
 try simp only [zcb9] at hc5
 have hA9 : (nrA O2 i m).1 ≤ (nrA O2 i m).2 := hc5.1
 have hB9 : (nrB O2 i m).1 ≤ (nrB O2 i m).2 := hc5.2
 have hNx := nr_step hMo hP2 hin hm0' hidM.out.1 hmn him hne hA9 hB9 hD hcs
 rw [← hO9] at hNx
 refine TW.skip ?_
 refine TQ.blkN ?_
 refine TQ.thenN (hY11 _ _ ?_)
 refine TW.region ?_
 refine TL.p Pu.mv ?_
 refine TL.p Pu.ad ?_
 refine TL.p Pu.as ?_
 refine TL.nil ?_
 refine TQ.thenN (hZ1 (i + 1) O9 ch9 _ _ ?_ ?_ ⟨rfl, (by rw [hch9]; rfl), rfl, rfl, trivial⟩ ?_)
 exact ⟨by omega, hNx⟩
 exact zom9
 rw [hO9]
 first
  | (refine KSub.own pk9 (fun j hj => ?_) KSub.nil; exact row_put (S := putS1 O2 i (nrA O2 i m)) (T := nrS O2 i m) (a := (nrB O2 i m).1) (b := (nrB O2 i m).2) rfl)
  | exact KSub.cons pk9 KSub.nil
 refine TW.region ?_
 refine TL.p (by first | exact Pu.fb ty_fa25_0 | exact Pu.fe ty_fa25_0) ?_
 refine TL.p (Pu.ld ty_sc3) ?_
 refine TL.p (by first | exact Pu.fb ty_fa25_1 | exact Pu.fe ty_fa25_1) ?_
 refine TL.p (Pu.ld ty_sc3) ?_
 refine TL.p Pu.gt ?_
 refine TL.p Pu.mv ?_
 refine TL.guard (t := 123) rfl (fun hg2 => ?_) (fun hg2 => ?_)
 try simp only [zgb9] at hg2
 refine TL.gs ?_
 refine TL.gs ?_
 refine TL.gs ?_
 refine TL.gs ?_
 refine TL.gs ?_
 refine TL.p Pu.kt ?_
 refine TL.nil ?_
 exact TQ.sub (by repeat (first | exact trivial | refine ⟨rfl, ?_⟩ | refine ⟨trivial, ?_⟩ | refine ⟨(by show some (Value.bool _) = some (Value.bool _); first | (simp [hg2]; done) | (refine congrArg (fun z => some (Value.bool z)) (Bool.eq_iff_iff.2 ?_); simp [hg2]; omega)), ?_⟩)) ks9 hJ3
 try simp only [zgb9] at hg2
 refine TL.gd (by first | exact Pu.fb ty_fa25_0 | exact Pu.fe ty_fa25_0) ?_
 refine TL.gd (Pu.ld ty_sc3) ?_
 refine TL.gd (by first | exact Pu.fb ty_fa25_1 | exact Pu.fe ty_fa25_1) ?_
 refine TL.gd (Pu.ld ty_sc3) ?_
 refine TL.gd Pu.gt ?_
 refine TL.p Pu.kf ?_
 refine TL.nil ?_
 exact TQ.sub (by repeat (first | exact trivial | refine ⟨rfl, ?_⟩ | refine ⟨trivial, ?_⟩ | refine ⟨(by show some (Value.bool _) = some (Value.bool _); first | (simp [hg2]; done) | (refine congrArg (fun z => some (Value.bool z)) (Bool.eq_iff_iff.2 ?_); simp [hg2]; omega)), ?_⟩)) ks9 hJ3
 refine TW.dw 14 ?_
 refine RK.tk (Pu.lds ty_ag25) ?_
 refine RK.tk Pu.mv ?_
 refine RK.tk Pu.mv ?_
 refine RK.tk (Pu.el ty_et57) ?_
 refine RK.tk (Pu.lds ty_ag25) ?_
 refine RK.tk (Pu.bin rfl rfl (fun w => ne2_is hcA w _ _)) ?_
 refine RK.tk Pu.mv ?_
 refine RK.guard (t := 102) rfl (fun hg3 => ?_) (fun hg3 => ?_)
 try simp only [zgb9] at hg3
 refine RK.s ?_
 refine RK.s ?_
 refine RK.s ?_
 refine RK.s ?_
 refine RK.s ?_
 refine RK.s ?_
 refine RK.tk Pu.kt ?_
 refine RK.ch [] ?_ trivial
 refine WK.n ?_
 refine TL.nil ?_
 exact TQ.sub (by repeat (first | exact trivial | refine ⟨rfl, ?_⟩ | refine ⟨trivial, ?_⟩ | refine ⟨(by show some (Value.bool _) = some (Value.bool _); first | (simp [hg3]; done) | (refine congrArg (fun z => some (Value.bool z)) (Bool.eq_iff_iff.2 ?_); simp [hg3]; omega)), ?_⟩)) ks9 hJ1
 try simp only [zgb9] at hg3
 refine RK.tk (Pu.lds ty_ag25) ?_
 refine RK.tk Pu.mv ?_
 refine RK.tk Pu.mv ?_
 refine RK.tk (Pu.el (q := m) ty_et57 (hk := by omega)) ?_
 refine RK.tk (Pu.lds ty_ag25) ?_
 refine RK.tk (Pu.bin rfl rfl (fun w => ne2_is hcB w _ _)) ?_
 refine RK.tk Pu.kf ?_
 refine RK.ch [] ?_ trivial
 refine WK.n ?_
 refine TL.nil ?_
 exact TQ.sub (by repeat (first | exact trivial | refine ⟨rfl, ?_⟩ | refine ⟨trivial, ?_⟩ | refine ⟨(by show some (Value.bool _) = some (Value.bool _); first | (simp [hg3]; done) | (refine congrArg (fun z => some (Value.bool z)) (Bool.eq_iff_iff.2 ?_); simp [hg3]; omega)), ?_⟩)) ks9 hJ1
 try simp only [zcb9] at hc1
 obtain rfl : i = H.n := by omega
 refine TW.exit ?_
 refine TQ.thenX ?_
 refine TQ.thenX ?_
 refine TQ.blkX ?_
 refine TQ.blkN ?_
 refine TQ.thenN (hZ0 O2 ch2 _ _ ?_ ?_ fs9 ?_)
 refine ⟨hP2, fun h => ?_⟩
 rcases hD with ⟨_, _, h3⟩ | ⟨h1, _⟩
 exact h3
 rw [h1] at h; cases h
 rcases hD with ⟨h1, h2, _⟩ | ⟨h1, h2⟩
 rw [h1, h2]; simp
 rw [h1]; simp; omega
 exact KSub.cons pk9 KSub.nil
 try simp only [zcb9] at hc0
 subst hc0
 obtain ⟨hRe, hok⟩ := nr_done hMo hk.ac hP (hE rfl)
 refine TW.exit ?_
 refine TQ.thenX ?_
 refine TQ.thenX ?_
 refine TQ.blkX ?_
 refine TQ.thenN (hY3 _ _ ?_)
 refine TW.seq fun Y28 hY28 => TW.region ?_
 refine TL.p Pu.mv ?_
 refine TL.p Pu.as ?_
 refine TL.p Pu.as ?_
 refine TL.nil (TQ.thenN (hY28 _ _ ?_))
 refine TW.ret ?_
 refine TQ.ret Tryz.results85 rfl ((.tmp rfl (.tmp rfl .nil))) ?_
 refine fun w hw => ⟨(A2, c2), ?_, ?_⟩
 simp only [hok]; rfl
 simp only [hok, if_true]
 exact hw.sub (KSub.own pk9 (fun j hj => by rw [hRe j hj]) KSub.nil)
end Go.Proofs.YtceokmaddbdnfaaGreat
