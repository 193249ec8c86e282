/- Contracts of the program's functions, walked. No condition. -/
import Derived.Test.YthpbiamicidakaaDoorA5
namespace Go.Proofs.YthpbiamicidakaaDoor
open Go Go.Proofs Go.PW
open Go.PW.Enc (enc val)

theorem whole_0 {n : UInt64} (h : ¬n = 0) : (0 : UInt64).toNat < 64 ∧ 1 ≤ n.toNat / 2 ^ (0 : UInt64).toNat := by
  have : n.toNat ≠ 0 := fun e => h (UInt64.toNat_inj.1 e)
  have e : (0 : UInt64).toNat = 0 := rfl
  rw [e]; omega
theorem whole_up {n p : UInt64} (h1 : p.toNat < 64) (h2 : 1 < n.toNat / 2 ^ p.toNat) : (p + 1).toNat = p.toNat + 1 ∧ p.toNat + 1 < 64 ∧ 2 ^ (p.toNat + 1) ≤ n.toNat := by
  have hn := n.toNat_lt
  have h3 : (p + 1).toNat = p.toNat + 1 := by rw [UInt64.toNat_add]; show (p.toNat + 1) % 2 ^ 64 = _; omega
  have h4 : 2 * 2 ^ p.toNat ≤ n.toNat := (Nat.le_div_iff_mul_le (Nat.two_pow_pos _)).1 h2
  have h5 : 2 ^ (p.toNat + 1) ≤ n.toNat := by rw [Nat.pow_succ]; omega
  refine ⟨h3, ?_, h5⟩
  rcases Nat.lt_or_ge (p.toNat + 1) 64 with h | h
  · exact h
  · have : (2 : Nat) ^ 64 ≤ 2 ^ (p.toNat + 1) := Nat.pow_le_pow_right (by decide) h
    omega
theorem whole_on {n p : UInt64} (h1 : p.toNat < 64) (h2 : 1 < n.toNat / 2 ^ p.toNat) : (p + 1).toNat < 64 ∧ 1 ≤ n.toNat / 2 ^ (p + 1).toNat := by
  obtain ⟨h3, h4, h5⟩ := whole_up h1 h2
  rw [h3]
  exact ⟨h4, (Nat.le_div_iff_mul_le (Nat.two_pow_pos _)).2 (by omega)⟩
theorem whole_z {n : UInt64} (h : n = 0) : wholeV n = 0 := by unfold wholeV; rw [if_pos h]
theorem whole_hi {n p : UInt64} (h : ¬n = 0) (h1 : p.toNat < 64) (h2 : 1 ≤ n.toNat / 2 ^ p.toNat) (h3 : n.toNat / 2 ^ p.toNat ≤ 1) (h4 : 52 < p.toNat) : wholeV n = shlU64 (1023 + p) 52 := by
  have e : Nat.log2 n.toNat = p.toNat := log2_unique h2 h3
  unfold wholeV; rw [if_neg h, e, UInt64.ofNat_toNat, if_pos h4]
theorem whole_lo {n p : UInt64} (h : ¬n = 0) (h1 : p.toNat < 64) (h2 : 1 ≤ n.toNat / 2 ^ p.toNat) (h3 : n.toNat / 2 ^ p.toNat ≤ 1) (h4 : ¬52 < p.toNat) : wholeV n = shlU64 (1023 + p) 52 + shlU64 n (52 - p).toNat - 4503599627370496 := by
  have e : Nat.log2 n.toNat = p.toNat := log2_unique h2 h3
  unfold wholeV; rw [if_neg h, e, UInt64.ofNat_toNat, if_neg h4]

set_option maxRecDepth 20000 in
set_option maxHeartbeats 4000000 in
theorem whole_ct (n : UInt64) (hn : n.toNat < 9223372036854775808) : Ct Tryd.prog 71 [.int .u64 (n.toNat : Int)] [] [] (fun v o r => v = .int .u64 (wholeV n).toNat ∧ o = [] ∧ r = []) := by
  refine ct_enter Tryd.func71 rfl Tryd.ntmps71 (by kernel_rfl) rfl fun w0 => ?_
  refine c_seq ?_
  refine c_reg ?_
  refine asg (.int _ _) rfl ?_
  refine jt ?_
  refine c_seq ?_
  refine c_seq ?_
  refine c_reg ?_
  refine mv (.int _ _) rfl ?_
  refine equ64 (a := n) (b := (0 : UInt64)) _ rfl rfl rfl ?_
  refine jt ?_
  refine c_cond rfl (fun h1 => ?_) (fun h1 => ?_)
  · replace h1 := of_decide_eq_true h1
    refine c_seq ?_
    refine c_reg ?_
    refine asg (.int _ _) rfl ?_
    refine jt ?_
    refine c_ret ?_
    exact j_end (own0 := []) (ro0 := []) (.inl rfl) rfl (hr1 Tryd.results71 (rvt (v := (.int _ _)) rfl)) [] [] [] [] [] _ rfl rfl (by kernel_rfl) rfl impl_nil (⟨by rw [whole_z h1]; rfl, rfl, rfl⟩)
  · replace h1 := of_decide_eq_false h1
    refine c_skip ?_
    refine e_then ?_
    refine c_seq ?_
    refine c_reg ?_
    refine asg (.int _ _) rfl ?_
    refine jt ?_
    refine c_seq ?_
    refine c_block ?_
    refine c_loop (σ := UInt64) (fun p => p.toNat < 64 ∧ 1 ≤ n.toNat / 2 ^ p.toNat) (fun p => 64 - p.toNat) (fun p => [(3, .int .u64 (p.toNat : Int))]) (fun p => []) (fun p => []) [3, 6, 7, 8, 9, 10, 11] 0 (whole_0 h1) ⟨rfl, trivial⟩ rfl rfl ?_
    rintro p g1 hI1
    try dsimp only at hI1 ⊢
    refine c_seq ?_
    refine c_seq ?_
    refine c_reg ?_
    refine mv (.int _ _) rfl ?_
    refine mv (.int _ _) rfl ?_
    refine shrRU64 (a := n) p.toNat rfl rfl rfl ?_
    refine cmp _ rfl rfl rfl ?_
    refine jt ?_
    refine c_cond rfl (fun h2 => ?_) (fun h2 => ?_)
    · replace h2 := of_decide_eq_true h2
      refine c_skip ?_
      refine e_then ?_
      refine c_block ?_
      refine c_reg ?_
      refine mv (.int _ _) rfl ?_
      refine addU64 (a := p) (b := (1 : UInt64)) rfl rfl ?_
      refine asg (.int _ _) rfl ?_
      refine jn ?_
      refine e_in ?_
      exact e_loop (p + 1) (whole_on (p := p) hI1.1 (by rw [shrU64_toNat] at h2; omega)) (by have h9 := whole_up (n := n) (p := p) hI1.1 (by rw [shrU64_toNat] at h2; omega); (try dsimp only); omega) (⟨rfl, trivial⟩) rfl rfl rfl
    · replace h2 := of_decide_eq_false h2
      refine c_exit rfl ?_
      refine e_then ?_
      refine c_seq ?_
      refine c_seq ?_
      refine c_reg ?_
      refine mv (.int _ _) rfl ?_
      refine cmp _ rfl rfl rfl ?_
      refine jt ?_
      refine c_cond rfl (fun h3 => ?_) (fun h3 => ?_)
      · replace h3 := of_decide_eq_true h3
        refine c_seq ?_
        refine c_reg ?_
        refine mv (.int _ _) rfl ?_
        refine addU64 (a := (1023 : UInt64)) (b := p) rfl rfl ?_
        refine shlRU64 (a := ((1023 : UInt64) + p)) 52 rfl rfl rfl ?_
        refine asg (.int _ _) rfl ?_
        refine jt ?_
        refine c_ret ?_
        exact j_end (own0 := []) (ro0 := []) (.inl rfl) rfl (hr1 Tryd.results71 (rvt (v := (.int _ _)) rfl)) [] [] [] [] [] _ rfl rfl (by kernel_rfl) rfl impl_nil (⟨by rw [whole_hi h1 hI1.1 hI1.2 (by rw [shrU64_toNat] at h2; omega) (by omega)], rfl, rfl⟩)
      · replace h3 := of_decide_eq_false h3
        refine c_skip ?_
        refine e_then ?_
        refine c_seq ?_
        refine c_reg ?_
        refine mv (.int _ _) rfl ?_
        refine addU64 (a := (1023 : UInt64)) (b := p) rfl rfl ?_
        refine shlRU64 (a := ((1023 : UInt64) + p)) 52 rfl rfl rfl ?_
        refine mv (.int _ _) rfl ?_
        refine mv (.int _ _) rfl ?_
        refine subU64 (a := (52 : UInt64)) (b := p) rfl rfl ?_
        refine shlRU64 (a := n) ((52 - p).toNat) rfl rfl rfl ?_
        refine addU64 (a := (shlU64 ((1023 : UInt64) + p) 52)) (b := (shlU64 n ((52 - p).toNat))) rfl rfl ?_
        refine subU64 (a := ((shlU64 ((1023 : UInt64) + p) 52) + (shlU64 n ((52 - p).toNat)))) (b := (4503599627370496 : UInt64)) rfl rfl ?_
        refine asg (.int _ _) rfl ?_
        refine jt ?_
        refine c_ret ?_
        exact j_end (own0 := []) (ro0 := []) (.inl rfl) rfl (hr1 Tryd.results71 (rvt (v := (.int _ _)) rfl)) [] [] [] [] [] _ rfl rfl (by kernel_rfl) rfl impl_nil (⟨by rw [whole_lo h1 hI1.1 hI1.2 (by rw [shrU64_toNat] at h2; omega) (by omega)], rfl, rfl⟩)
end Go.Proofs.YthpbiamicidakaaDoor
