/- Contracts of the program's functions, walked. No condition. -/
import Derived.Test.YthpbiamicidakaaA1
namespace Go.Proofs.Ythpbiamicidakaa
open Go Go.Proofs Go.PW
open Go.PW.Enc (enc val)

def mant (r : Nat) : Nat := if r / 4503599627370496 = 0 then r % 4503599627370496 else 4503599627370496 + r % 4503599627370496
def shf (r : Nat) : Nat := 1075 - max (r / 4503599627370496) 1
def nrN (r : Nat) : Nat := mant r * 10000000 / 2 ^ shf r
def nrS (r : Nat) : Int := cmpN (mant r * 10000000 % 2 ^ shf r) (2 ^ (shf r - 1))
theorem and52 (x : UInt64) : (x &&& 4503599627370495).toNat = x.toNat % 4503599627370496 := by rw [UInt64.toNat_and]; exact Nat.and_two_pow_sub_one_eq_mod x.toNat 52
theorem mant_zero {b : UInt64} {e : Nat} (he : e = b.toNat / 4503599627370496) (h : e = 0) : (b &&& 4503599627370495).toNat = mant b.toNat := by
  rw [and52]; unfold mant; rw [if_pos (by omega)]
theorem mant_pos {b : UInt64} {e : Nat} (he : e = b.toNat / 4503599627370496) (h : 0 < e) : ((b &&& 4503599627370495) ||| 4503599627370496).toNat = mant b.toNat := by
  rw [UInt64.toNat_or, and52]; unfold mant; rw [if_neg (by omega)]
  have h1 := Nat.two_pow_add_eq_or_of_lt (i := 52) (b := b.toNat % 4503599627370496) (by omega) 1
  rw [Nat.or_comm]
  exact h1.symm
theorem mant_lt {m : UInt64} {r : Nat} (h : m.toNat = mant r) : m.toNat < 9007199254740992 := by
  rw [h]; unfold mant; split <;> omega
theorem mhi_small {m : UInt64} (h : m.toNat < 9007199254740992) : (mhi m 10000000).toNat < 8192 := by
  unfold mhi
  rw [UInt64.toNat_ofNat', show (10000000 : UInt64).toNat = 10000000 from rfl]
  exact Nat.lt_of_le_of_lt (Nat.mod_le _ _) (Nat.div_lt_of_lt_mul (by omega))
theorem mhi_val {m : UInt64} (h : m.toNat < 9007199254740992) : (mhi m 10000000).toNat = m.toNat * 10000000 / 18446744073709551616 := by
  unfold mhi
  rw [UInt64.toNat_ofNat', show (10000000 : UInt64).toNat = 10000000 from rfl]
  have h1 : m.toNat * 10000000 / 18446744073709551616 < 8192 := Nat.div_lt_of_lt_mul (by omega)
  exact Nat.mod_eq_of_lt (Nat.lt_of_lt_of_le h1 (by decide))
theorem mlo_val {m : UInt64} : (m * 10000000).toNat = m.toNat * 10000000 % 18446744073709551616 := by rw [UInt64.toNat_mul]; rfl
theorem hi_small {m : UInt64} (j : Nat) (h : m.toNat < 9007199254740992) : (shrU64 (mhi m 10000000) j).toNat < 8192 := by
  rw [shrU64_toNat]; exact Nat.lt_of_le_of_lt (Nat.div_le_self _ _) (mhi_small h)
theorem pow_le (k : Nat) (h : 45 ≤ k) : 35184372088832 ≤ 2 ^ k := Nat.pow_le_pow_right (n := 2) (by decide) h
theorem mask_val (x : UInt64) (j : Nat) (h1 : j < 64) : (x &&& (shlU64 1 j - 1)).toNat = x.toNat % 2 ^ j := by
  have h2 : (2 : Nat) ^ j < 18446744073709551616 := Nat.pow_lt_pow_right (a := 2) (by decide) h1
  have h3 : 0 < 2 ^ j := Nat.two_pow_pos j
  have e : (shlU64 1 j - 1).toNat = 2 ^ j - 1 := by
    rw [UInt64.toNat_sub, shlU64_toNat, show (1 : UInt64).toNat = 1 from rfl]; omega
  rw [UInt64.toNat_and, e]; exact Nat.and_two_pow_sub_one_eq_mod _ _
theorem one_val (j : Nat) (h1 : j < 64) : (shlU64 1 j).toNat = 2 ^ j := by
  have h2 : (2 : Nat) ^ j < 18446744073709551616 := Nat.pow_lt_pow_right (a := 2) (by decide) h1
  rw [shlU64_toNat, show (1 : UInt64).toNat = 1 from rfl]; omega
theorem near_0 {m : UInt64} {r : Nat} (hm : m.toNat = mant r) (hk : shf r ≥ 128) : Value.tuple #[.int .i64 (nrN r : Int), .int .i64 (nrS r)] = .tuple #[.int .i64 0, .int .i64 (-1)] := by
  have h1 := mant_lt hm
  have h2 : (2 : Nat) ^ 127 ≤ 2 ^ (shf r - 1) := Nat.pow_le_pow_right (by decide) (by omega)
  have h3 : (2 : Nat) ^ (shf r - 1) ≤ 2 ^ shf r := Nat.pow_le_pow_right (by decide) (by omega)
  have h4 : mant r * 10000000 < 2 ^ (shf r - 1) := by rw [← hm]; omega
  have e1 : nrN r = 0 := Nat.div_eq_of_lt (by omega)
  have e2 : nrS r = -1 := by unfold nrS; rw [Nat.mod_eq_of_lt (by omega)]; exact cmpN_lt h4
  rw [e1, e2]; rfl
theorem near_core (M j B : Nat) : ((M / B / 2 ^ j : Nat) : Int) = ((M / (B * 2 ^ j) : Nat) : Int) ∧ cmpN (M / B % 2 ^ j * B + M % B) (2 ^ (j - 1) * B) = cmpN (M % (B * 2 ^ j)) (2 ^ (j - 1) * B) := by
  rw [Nat.mod_mul, Nat.div_div_eq_div_mul]
  refine ⟨rfl, ?_⟩
  rw [Nat.add_comm (M % B), Nat.mul_comm B]
theorem near_hi {m : UInt64} {r j : Nat} (hm : m.toNat = mant r) (h53 : m.toNat < 9007199254740992) (hk : shf r = 64 + j) (h1 : 1 ≤ j) (h2 : j < 64) :
    ((shrU64 (mhi m 10000000) j).toNat : Int) = (nrN r : Int) ∧ cmpN ((mhi m 10000000 &&& (shlU64 1 j - 1)).toNat * 18446744073709551616 + (m * 10000000).toNat) ((shlU64 1 (j - 1)).toNat * 18446744073709551616 + (0 : UInt64).toNat) = nrS r := by
  unfold nrN nrS
  have e1 : (2 : Nat) ^ (64 + j) = 18446744073709551616 * 2 ^ j := Nat.pow_add 2 64 j
  have e2 : (2 : Nat) ^ (64 + j - 1) = 2 ^ (j - 1) * 18446744073709551616 := by rw [show 64 + j - 1 = (j - 1) + 64 by omega]; exact Nat.pow_add 2 (j - 1) 64
  rw [shrU64_toNat, mask_val _ _ h2, one_val _ (show j - 1 < 64 by omega), mhi_val h53, mlo_val, ← hm, hk, e1, e2, show (0 : UInt64).toNat = 0 from rfl, Nat.add_zero]
  exact near_core _ _ _
theorem near_64 {m : UInt64} {r : Nat} (hm : m.toNat = mant r) (h53 : m.toNat < 9007199254740992) (hk : shf r = 64) :
    ((mhi m 10000000).toNat : Int) = (nrN r : Int) ∧ cmpN ((0 : UInt64).toNat * 18446744073709551616 + (m * 10000000).toNat) ((0 : UInt64).toNat * 18446744073709551616 + (9223372036854775808 : UInt64).toNat) = nrS r := by
  unfold nrN nrS
  rw [mhi_val h53, mlo_val, ← hm, hk]
  refine ⟨rfl, ?_⟩
  rw [show (0 : UInt64).toNat = 0 from rfl, Nat.zero_mul, Nat.zero_add, Nat.zero_add]; rfl
theorem lo_val {m : UInt64} {k : Nat} (h53 : m.toNat < 9007199254740992) (h1 : 45 ≤ k) (h2 : k < 64) : (shlU64 (mhi m 10000000) (64 - k) ||| shrU64 (m * 10000000) k).toNat = m.toNat * 10000000 / 2 ^ k := by
  have hp : (2 : Nat) ^ (64 - k) ≤ 2 ^ 19 := Nat.pow_le_pow_right (by decide) (by omega)
  have hs := mhi_small h53
  have hpp : 2 ^ (64 - k) * 2 ^ k = 18446744073709551616 := by rw [← Nat.pow_add, show 64 - k + k = 64 by omega]
  have hsm : (mhi m 10000000).toNat * 2 ^ (64 - k) < 18446744073709551616 := by
    have := Nat.mul_le_mul (Nat.le_of_lt hs) hp
    omega
  have hl : (m * 10000000).toNat / 2 ^ k < 2 ^ (64 - k) := by
    rw [Nat.div_lt_iff_lt_mul (Nat.two_pow_pos k), hpp]; exact (m * 10000000).toNat_lt
  rw [UInt64.toNat_or, shlU64_toNat, shrU64_toNat, Nat.mod_eq_of_lt hsm, ← Nat.shiftLeft_eq, ← Nat.shiftLeft_add_eq_or_of_lt hl, Nat.shiftLeft_eq, mhi_val h53, mlo_val]
  have hM : m.toNat * 10000000 = m.toNat * 10000000 / 18446744073709551616 * 18446744073709551616 + m.toNat * 10000000 % 18446744073709551616 := by omega
  conv => rhs; rw [hM, ← hpp, ← Nat.mul_assoc, Nat.add_comm, Nat.add_mul_div_right _ _ (Nat.two_pow_pos k)]
  rw [hpp]; omega
theorem lo_small {m : UInt64} {k : Nat} (h53 : m.toNat < 9007199254740992) (h1 : 45 ≤ k) (h2 : k < 64) : (shlU64 (mhi m 10000000) (64 - k) ||| shrU64 (m * 10000000) k).toNat < 9007199254740992 := by
  rw [lo_val h53 h1 h2]
  have hp := pow_le k h1
  rw [Nat.div_lt_iff_lt_mul (Nat.two_pow_pos k)]
  have := Nat.mul_le_mul (Nat.le_refl 9007199254740992) hp
  omega
theorem near_lo {m : UInt64} {r k : Nat} (hm : m.toNat = mant r) (h53 : m.toNat < 9007199254740992) (hk : shf r = k) (h1 : 45 ≤ k) (h2 : k < 64) :
    ((shlU64 (mhi m 10000000) (64 - k) ||| shrU64 (m * 10000000) k).toNat : Int) = (nrN r : Int) ∧ cmpN ((0 : UInt64).toNat * 18446744073709551616 + (m * 10000000 &&& (shlU64 1 k - 1)).toNat) ((0 : UInt64).toNat * 18446744073709551616 + (shlU64 1 (k - 1)).toNat) = nrS r := by
  unfold nrN nrS
  rw [lo_val h53 h1 h2, mask_val _ _ h2, one_val _ (show k - 1 < 64 by omega), mlo_val, ← hm, hk, show (0 : UInt64).toNat = 0 from rfl, Nat.zero_mul, Nat.zero_add, Nat.zero_add]
  refine ⟨rfl, ?_⟩
  rw [show (18446744073709551616 : Nat) = 2 ^ 64 from rfl, Nat.mod_mod_of_dvd _ (Nat.pow_dvd_pow 2 (by omega))]

set_option maxRecDepth 20000 in
set_option maxHeartbeats 4000000 in
theorem nearest_ct (b : UInt64) (hb : b.toNat ≤ 4640537203540230144) : Ct Try.prog 13 [.int .u64 (b.toNat : Int)] [] [] (fun v o r => v = .tuple #[.int .i64 (nrN b.toNat : Int), .int .i64 (nrS b.toNat)] ∧ o = [] ∧ r = []) := by
  obtain ⟨e, he⟩ : ∃ e : Nat, (shrU64 b 52).toNat = e := ⟨_, rfl⟩
  have he2 : e = b.toNat / 4503599627370496 := by rw [← he, shrU64_toNat]
  refine ct_enter Try.func13 rfl Try.ntmps13 (by kernel_rfl) rfl fun w0 => ?_
  refine c_seq ?_
  refine c_reg ?_
  refine asg (.int _ _) rfl ?_
  refine asg (.int _ _) rfl ?_
  refine jt ?_
  refine c_seq ?_
  refine c_reg ?_
  refine mv (.int _ _) rfl ?_
  refine shrRU64 (a := b) 52 rfl rfl rfl ?_
  refine cvI (e : Int) rfl Try.underlying22 Try.underlying3 (by rw [he]; exact wI64 (by omega)) ?_
  refine mv (.int _ _) rfl ?_
  refine andU64 (a := b) (b := (4503599627370495 : UInt64)) rfl rfl ?_
  refine asg (.int _ _) rfl ?_
  refine asg (.int _ _) rfl ?_
  refine jt ?_
  refine c_cut (σ := UInt64) (fun m => m.toNat = mant b.toNat) (fun m => [(5, .int .u64 (m.toNat : Int))]) (fun m => []) (fun m => []) [5, 15, 16, 17, 18] ?_ ?_
  · refine c_seq ?_
    refine c_reg ?_
    refine mv (.int _ _) rfl ?_
    refine cmp _ rfl rfl rfl ?_
    refine jt ?_
    refine c_cond rfl (fun h1 => ?_) (fun h1 => ?_)
    · replace h1 := of_decide_eq_true h1
      refine c_reg ?_
      refine mv (.int _ _) rfl ?_
      refine orU64 (a := (b &&& (4503599627370495 : UInt64))) (b := (4503599627370496 : UInt64)) rfl rfl ?_
      refine asg (.int _ _) rfl ?_
      refine jn ?_
      exact e_lp ((b &&& (4503599627370495 : UInt64)) ||| (4503599627370496 : UInt64)) (by repeat (first | exact out_self | refine out_hav (by kernel_rfl) ?_ | refine out_look (by kernel_rfl) ?_)) (mant_pos (show e = b.toNat / 4503599627370496 from he2) (by omega)) trivial (⟨rfl, trivial⟩) rfl rfl rfl
    · replace h1 := of_decide_eq_false h1
      refine c_skip ?_
      exact e_lp (b &&& (4503599627370495 : UInt64)) (by repeat (first | exact out_self | refine out_hav (by kernel_rfl) ?_ | refine out_look (by kernel_rfl) ?_)) (mant_zero he2 (by omega)) trivial (⟨rfl, trivial⟩) rfl rfl rfl
  · rintro m g hC1
    try dsimp only at hC1 ⊢
    have hm53 := mant_lt hC1
    have hkk : e = b.toNat / 4503599627370496 := he2
    refine c_seq ?_
    refine c_reg ?_
    refine mv (.int _ _) rfl ?_
    refine mx2 rfl rfl ?_
    refine subi rfl rfl rfl (by omega) ?_
    obtain ⟨k, hk⟩ : ∃ k : Nat, (1075 : Int) - max (e : Int) 1 = (k : Int) := ⟨((1075 : Int) - max (e : Int) 1).toNat, by omega⟩
    refine j_re 21 (.int .i64 (k : Int)) (congrArg (Value.int .i64) hk) ?_
    refine asg (.int _ _) rfl ?_
    refine jt ?_
    refine c_seq ?_
    refine c_reg ?_
    refine mv (.int _ _) rfl ?_
    refine cal (Mul64_ct m (10000000 : UInt64)) [] [] [] rfl rfl rfl (by kernel_rfl) impl_nil rfl ?_; rintro _ _ _ ⟨rfl, rfl, rfl⟩; refine ⟨trivial, ?_⟩
    refine mv (.tuple _) rfl ?_
    refine xtr (.int _ _) rfl rfl ?_
    refine xtr (.int _ _) rfl rfl ?_
    refine asg (.int _ _) rfl ?_
    refine asg (.int _ _) rfl ?_
    refine jt ?_
    refine c_seq ?_
    refine c_block ?_
    refine c_seq ?_
    refine c_reg ?_
    refine mv (.int _ _) rfl ?_
    refine cmp _ rfl rfl rfl ?_
    refine asg (.bool _) rfl ?_
    refine jt ?_
    refine c_cond rfl (fun h2 => ?_) (fun h2 => ?_)
    · replace h2 := of_decide_eq_true h2
      refine c_seq ?_
      refine c_reg ?_
      refine asg (.int _ _) rfl ?_
      refine asg (.int _ _) rfl ?_
      refine jt ?_
      refine c_ret ?_
      exact j_end (own0 := []) (ro0 := []) (.inl rfl) rfl (hr2 Try.results13 (rvt (v := (.int _ _)) rfl) (rvt (v := (.int _ _)) rfl)) [] [] [] [] [] _ rfl rfl (by kernel_rfl) rfl impl_nil (⟨by rw [near_0 (hC1) (show shf b.toNat ≥ 128 by unfold shf; omega)], rfl, rfl⟩)
    · replace h2 := of_decide_eq_false h2
      refine c_seq ?_
      refine c_reg ?_
      refine mv (.int _ _) rfl ?_
      refine cmp _ rfl rfl rfl ?_
      refine asg (.bool _) rfl ?_
      refine jt ?_
      refine c_cond rfl (fun h3 => ?_) (fun h3 => ?_)
      · replace h3 := of_decide_eq_true h3
        refine c_seq ?_
        refine c_reg ?_
        refine mv (.int _ _) rfl ?_
        refine subi rfl rfl rfl (by omega) ?_
        obtain ⟨j, hj⟩ : ∃ j : Nat, (k : Int) - 64 = (j : Int) := ⟨((k : Int) - 64).toNat, by omega⟩
        refine j_re 34 (.int .i64 (j : Int)) (congrArg (Value.int .i64) hj) ?_
        refine asg (.int _ _) rfl ?_
        refine jt ?_
        refine c_seq ?_
        refine c_dr [] [] [(0, 0), (1, 0), (2, 0), (3, 0), (4, 0), (5, 0), (6, 0), (7, 0), (8, 0), (9, 0), (10, 0), (11, 0), (12, 0), (13, 1), (14, 0), (15, 0)] follows (by kernel_rfl) calm_body (keepS [] rfl) ?_
        refine mv (.int _ _) rfl ?_
        refine mv (.int _ _) rfl ?_
        refine shrRU64 (a := (mhi m (10000000 : UInt64))) j rfl rfl rfl ?_
        refine cvI ((shrU64 (mhi m 10000000) j).toNat : Int) rfl Try.underlying22 Try.underlying2 (wI64 (by have := hi_small j hm53; omega)) ?_
        refine mv (.int _ _) rfl ?_
        refine mv (.int _ _) rfl ?_
        refine shlRU64 (a := (1 : UInt64)) j rfl rfl rfl ?_
        refine subU64 (a := (shlU64 (1 : UInt64) j)) (b := (1 : UInt64)) rfl rfl ?_
        refine andU64 (a := (mhi m (10000000 : UInt64))) (b := ((shlU64 (1 : UInt64) j) - (1 : UInt64))) rfl rfl ?_
        refine mv (.int _ _) rfl ?_
        refine mv (.int _ _) rfl ?_
        refine subi rfl rfl rfl (by omega) ?_
        refine shlRU64 (a := (1 : UInt64)) (j - 1) rfl rfl (by omega) ?_
        refine cal (beside_ct ((mhi m (10000000 : UInt64)) &&& ((shlU64 (1 : UInt64) j) - (1 : UInt64))) (m * (10000000 : UInt64)) (shlU64 (1 : UInt64) (j - 1)) (0 : UInt64)) [] [] [] rfl rfl rfl (by kernel_rfl) impl_nil rfl ?_; rintro _ _ _ ⟨rfl, rfl, rfl⟩; refine ⟨keepI [] rfl, ?_⟩
        refine asg (.int _ _) rfl ?_
        refine asg (.int _ _) rfl ?_
        refine jt ?_
        refine c_ret ?_
        exact j_end (own0 := []) (ro0 := []) (.inl rfl) rfl (hr2 Try.results13 (rvt (v := (.int _ _)) rfl) (rvt (v := (.int _ _)) rfl)) [] [] [] [] [] _ rfl rfl (by kernel_rfl) rfl impl_nil (⟨by rw [(near_hi hC1 hm53 (show shf b.toNat = 64 + j by unfold shf; omega) (by omega) (by omega)).1, (near_hi hC1 hm53 (show shf b.toNat = 64 + j by unfold shf; omega) (by omega) (by omega)).2], rfl, rfl⟩)
      · replace h3 := of_decide_eq_false h3
        refine c_seq ?_
        refine c_reg ?_
        refine mv (.int _ _) rfl ?_
        refine cmp _ rfl rfl rfl ?_
        refine asg (.bool _) rfl ?_
        refine jt ?_
        refine c_cond rfl (fun h4 => ?_) (fun h4 => ?_)
        · replace h4 := of_decide_eq_true h4
          refine c_seq ?_
          refine c_reg ?_
          refine mv (.int _ _) rfl ?_
          refine cvI ((mhi m 10000000).toNat : Int) rfl Try.underlying22 Try.underlying2 (wI64 (by have := mhi_small hm53; omega)) ?_
          refine mv (.int _ _) rfl ?_
          refine cal (beside_ct (0 : UInt64) (m * (10000000 : UInt64)) (0 : UInt64) (9223372036854775808 : UInt64)) [] [] [] rfl rfl rfl (by kernel_rfl) impl_nil rfl ?_; rintro _ _ _ ⟨rfl, rfl, rfl⟩; refine ⟨trivial, ?_⟩
          refine asg (.int _ _) rfl ?_
          refine asg (.int _ _) rfl ?_
          refine jt ?_
          refine c_ret ?_
          exact j_end (own0 := []) (ro0 := []) (.inl rfl) rfl (hr2 Try.results13 (rvt (v := (.int _ _)) rfl) (rvt (v := (.int _ _)) rfl)) [] [] [] [] [] _ rfl rfl (by kernel_rfl) rfl impl_nil (⟨by rw [(near_64 hC1 hm53 (show shf b.toNat = 64 by unfold shf; omega)).1, (near_64 hC1 hm53 (show shf b.toNat = 64 by unfold shf; omega)).2], rfl, rfl⟩)
        · replace h4 := of_decide_eq_false h4
          refine c_skip ?_
          refine e_in ?_
          refine e_then ?_
          refine c_seq ?_
          refine c_dr [] [] [(0, 0), (1, 0), (2, 0), (3, 0), (4, 0), (5, 0), (6, 0), (7, 0), (8, 0), (9, 0), (10, 0), (11, 0), (12, 0), (13, 0), (14, 0), (15, 0), (16, 0), (17, 1), (18, 0), (19, 0)] follows (by kernel_rfl) calm_body (keepS [] rfl) ?_
          refine mv (.int _ _) rfl ?_
          refine mv (.int _ _) rfl ?_
          refine subi rfl rfl rfl (by omega) ?_
          refine shlRU64 (a := (mhi m (10000000 : UInt64))) (64 - k) rfl rfl (by omega) ?_
          refine mv (.int _ _) rfl ?_
          refine mv (.int _ _) rfl ?_
          refine shrRU64 (a := (m * (10000000 : UInt64))) k rfl rfl rfl ?_
          refine orU64 (a := (shlU64 (mhi m (10000000 : UInt64)) (64 - k))) (b := (shrU64 (m * (10000000 : UInt64)) k)) rfl rfl ?_
          refine cvI ((shlU64 (mhi m 10000000) (64 - k) ||| shrU64 (m * 10000000) k).toNat : Int) rfl Try.underlying22 Try.underlying2 (wI64 (by have := lo_small hm53 (show 45 ≤ k by omega) (show k < 64 by omega); omega)) ?_
          refine mv (.int _ _) rfl ?_
          refine mv (.int _ _) rfl ?_
          refine shlRU64 (a := (1 : UInt64)) k rfl rfl rfl ?_
          refine subU64 (a := (shlU64 (1 : UInt64) k)) (b := (1 : UInt64)) rfl rfl ?_
          refine andU64 (a := (m * (10000000 : UInt64))) (b := ((shlU64 (1 : UInt64) k) - (1 : UInt64))) rfl rfl ?_
          refine mv (.int _ _) rfl ?_
          refine subi rfl rfl rfl (by omega) ?_
          refine shlRU64 (a := (1 : UInt64)) (k - 1) rfl rfl (by omega) ?_
          refine cal (beside_ct (0 : UInt64) ((m * (10000000 : UInt64)) &&& ((shlU64 (1 : UInt64) k) - (1 : UInt64))) (0 : UInt64) (shlU64 (1 : UInt64) (k - 1))) [] [] [] rfl rfl rfl (by kernel_rfl) impl_nil rfl ?_; rintro _ _ _ ⟨rfl, rfl, rfl⟩; refine ⟨keepI [] rfl, ?_⟩
          refine asg (.int _ _) rfl ?_
          refine asg (.int _ _) rfl ?_
          refine jt ?_
          refine c_ret ?_
          exact j_end (own0 := []) (ro0 := []) (.inl rfl) rfl (hr2 Try.results13 (rvt (v := (.int _ _)) rfl) (rvt (v := (.int _ _)) rfl)) [] [] [] [] [] _ rfl rfl (by kernel_rfl) rfl impl_nil (⟨by rw [(near_lo hC1 hm53 (show shf b.toNat = k by unfold shf; omega) (by omega) (by omega)).1, (near_lo hC1 hm53 (show shf b.toNat = k by unfold shf; omega) (by omega) (by omega)).2], rfl, rfl⟩)
end Go.Proofs.Ythpbiamicidakaa
