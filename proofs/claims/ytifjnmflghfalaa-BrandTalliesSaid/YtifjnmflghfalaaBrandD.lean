/-
  slices.Backward at rows: the iterator's contract. No condition beyond the length.
-/
import Derived.Test.YtifjnmflghfalaaBrandC
import Derived.Test.YtifjnmflghfalaaIn
namespace Go.Proofs.Ytifjnmflghfalaa
set_option linter.all false
set_option linter.unusedVariables false
set_option linter.unusedSimpArgs false
open Go.RowKit
attribute [local go_sem] Oper.semAt_some
def backL (n : Nat) : Nat → List { i : Nat // i < n }
  | 0 => []
  | k + 1 => if h : k < n then backL n k ++ [⟨n - 1 - k, by omega⟩] else backL n k
theorem backL_len {n : Nat} : ∀ {k : Nat}, k ≤ n → (backL n k).length = k
  | 0, _ => rfl
  | k + 1, h => by rw [backL, dif_pos (by omega), List.length_append, backL_len (by omega)]; rfl
/-- What comes of n elements from the last one on, k rounds being over. -/
theorem backward_row (A : Option Addr) (n c : Nat) (w : World) :
    Calls Try.prog 25 #[.slice A n c] w fun e w' => e = .returned (.func (.func 50) #[] #[.pointer (some ⟨w.heap.size, 0, none⟩)]) ∧ w' = w.alloc (.cells #[.slice A n c] 24) := by
  go_enter Try.func25, Try.ntmps25
  go_wp2
  go_ret
  exact ⟨rfl, rfl⟩
set_option maxHeartbeats 1000000 in
set_option maxRecDepth 100000 in
theorem backIter_row (bx : Nat) (A : Option Addr) (n c : Nat) (f : Nat → Nat → Value) (Kp : World → World → Prop) (w0 : World) (hn : n ≤ 1000000) (hbx : w0.cell? ⟨bx, 0, none⟩ = some (.slice A n c)) (hR : Rd w0 14 A n f)
    (hk : ∀ W W', Kp W W' → W.cell? ⟨bx, 0, none⟩ = some (.slice A n c) → Rd W 14 A n f → W'.cell? ⟨bx, 0, none⟩ = some (.slice A n c) ∧ Rd W' 14 A n f) :
    SeqStopsK Fence.wide 1 Try.prog 50 #[.pointer (some ⟨bx, 0, none⟩)] (fun i : { i : Nat // i < n } => #[.int .i64 i.1, .agg #[f i.1 0, f i.1 1, f i.1 2, f i.1 3, f i.1 4, f i.1 5, f i.1 6, f i.1 7, f i.1 8, f i.1 9, f i.1 10, f i.1 11, f i.1 12, f i.1 13]]) Kp (fun xs => xs = backL n n) (fun pre => ∃ k, k ≤ n ∧ pre = backL n k) n w0 := by
  intro l J Jx W hW _ _ hY h0
  have hbx' := (hW.cell (p := ⟨bx, 0, none⟩) (cell_lt hbx)).trans hbx
  have hR' := hR.below hW
  refine callsIn_of_wp Try.func50 rfl trivial ?_ rfl
  simp only [Try.ntmps50, List.size_toArray, List.length_cons, List.length_nil, Nat.reduceAdd, Nat.reduceSub, Array.replicate_succ, Array.replicate_zero, List.push_toArray, List.append_toArray, List.nil_append, List.cons_append]
  have HY := hid hY
  have HR0 := hid hR'
  have HK := hid hk
  clear hY hR hR' hk hbx
  gi_wp2
  gi_loopw [3] (fun i wr => ∃ k q : Nat, k + q = n ∧ ((q = 0 ∧ i = .int .i64 (-1)) ∨ ∃ q' : Nat, q = q' + 1 ∧ i = .int .i64 q') ∧ wr.cell? ⟨bx, 0, none⟩ = some (.slice A n c) ∧ Rd wr 14 A n f ∧ J (backL n k) wr) (fun i _ => (intOf i + 1).toNat)
  case atStart =>
    refine ⟨0, n, by omega, ?_, hbx', HR0.out, h0⟩
    rcases n with _ | n
    · exact .inl ⟨rfl, rfl⟩
    · exact .inr ⟨n, rfl, by simp⟩
  case round =>
    obtain ⟨k, q, hkq, hq, hc3, hR3, hJ3⟩ := hrel
    rcases hq with ⟨rfl, rfl⟩ | ⟨q, rfl, rfl⟩
    · obtain rfl : k = n := by omega
      have H9 := hid hR3
      clear hR3
      gi_wp2
      go_end0
      exact ⟨⟨_, rfl⟩, .inl ⟨_, rfl, hJ3⟩⟩
    · have hq : q < n := by omega
      have hlen : (backL n k).length < n := by rw [backL_len (by omega)]; omega
      obtain ⟨fn, tmps, assign, body, hy, hR⟩ := HY.out (backL n k) ⟨q, hq⟩ wr hJ3 hlen
      dsimp only at hy
      have hsn : backL n k ++ [⟨q, hq⟩] = backL n (k + 1) := by
        rw [backL, dif_pos (by omega)]
        congr 3
        omega
      rw [hsn] at hR
      have HR := hid hR
      have Hhk := hid (HK.out wr)
      have i1 : (0 : Int) ≤ (q : Int) := by omega
      have i2 : (q : Int) < (n : Int) := by omega
      have HR4 := hid hR3
      obtain ⟨b, off, rfl, cB, cA⟩ := hR3.atn hq (Below.refl _ _)
      have c0 : wr.cell? ⟨b, off + q * 14, none⟩ = some (f q 0) := by simpa using cA 0 (by omega)
      have c1 : wr.cell? ⟨b, off + q * 14 + 1, none⟩ = some (f q 1) := by simpa using cA 1 (by omega)
      have c2 : wr.cell? ⟨b, off + q * 14 + 2, none⟩ = some (f q 2) := by simpa using cA 2 (by omega)
      have c3 : wr.cell? ⟨b, off + q * 14 + 3, none⟩ = some (f q 3) := by simpa using cA 3 (by omega)
      have c4 : wr.cell? ⟨b, off + q * 14 + 4, none⟩ = some (f q 4) := by simpa using cA 4 (by omega)
      have c5 : wr.cell? ⟨b, off + q * 14 + 5, none⟩ = some (f q 5) := by simpa using cA 5 (by omega)
      have c6 : wr.cell? ⟨b, off + q * 14 + 6, none⟩ = some (f q 6) := by simpa using cA 6 (by omega)
      have c7 : wr.cell? ⟨b, off + q * 14 + 7, none⟩ = some (f q 7) := by simpa using cA 7 (by omega)
      have c8 : wr.cell? ⟨b, off + q * 14 + 8, none⟩ = some (f q 8) := by simpa using cA 8 (by omega)
      have c9 : wr.cell? ⟨b, off + q * 14 + 9, none⟩ = some (f q 9) := by simpa using cA 9 (by omega)
      have c10 : wr.cell? ⟨b, off + q * 14 + 10, none⟩ = some (f q 10) := by simpa using cA 10 (by omega)
      have c11 : wr.cell? ⟨b, off + q * 14 + 11, none⟩ = some (f q 11) := by simpa using cA 11 (by omega)
      have c12 : wr.cell? ⟨b, off + q * 14 + 12, none⟩ = some (f q 12) := by simpa using cA 12 (by omega)
      have c13 : wr.cell? ⟨b, off + q * 14 + 13, none⟩ = some (f q 13) := by simpa using cA 13 (by omega)
      clear cA
      have HJ := hid hJ3
      clear hJ3 hR hR3 hsn
      gi_wp2
      refine HR.out.mono ?_
      rintro e W3 (⟨rfl, hJ4, hk3⟩ | ⟨rfl, hJx3⟩)
      · obtain ⟨hc5, hR5⟩ := Hhk.out W3 hk3 hc3 HR4.out
        have H5 := hid hR5
        have H6 := hid hJ4
        clear hR5 hJ4 hk3
        gi_wp2
        go_roundw
        case rel =>
          refine ⟨k + 1, q, by omega, ?_, hc5, H5.out, H6.out⟩
          rcases q with _ | q
          · exact .inl ⟨rfl, rfl⟩
          · exact .inr ⟨q, rfl, by simp⟩
        case measure => simp [intOf] <;> omega
      · have H6 := hid hJx3
        clear hJx3
        gi_wp2
        refine bodyPost_ret (results_none rfl _ _ _) rfl ?_
        exact ⟨⟨_, rfl⟩, .inr ⟨_, ⟨k + 1, by omega, rfl⟩, H6.out⟩⟩
end Go.Proofs.Ytifjnmflghfalaa
