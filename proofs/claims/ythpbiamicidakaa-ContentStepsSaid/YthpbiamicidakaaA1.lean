/- Contracts of the program's functions, walked. No condition. -/
import Derived.Test.YthpbiamicidakaaProg
import Derived.Test.YthpbiamicidakaaEp
namespace Go.Proofs.Ythpbiamicidakaa
open Go Go.Proofs Go.PW
open Go.PW.Enc (enc val)
theorem follows : Try.prog.follows .mixedOrders = true := by kernel_rfl
def absF (f : F64) : F64 := ⟨f.b &&& ~~~9223372036854775808⟩
def cmpN (x y : Nat) : Int := if x < y then -1 else if y < x then 1 else 0
theorem cmpN_lt {x y : Nat} (h : x < y) : cmpN x y = -1 := if_pos h
theorem cmpN_gt {x y : Nat} (h : y < x) : cmpN x y = 1 := by unfold cmpN; rw [if_neg (by omega), if_pos h]
theorem cmpN_eq {x y : Nat} (h : x = y) : cmpN x y = 0 := by subst h; simp [cmpN]
theorem beside_1 {a b c d : UInt64} (h : ¬ a = c) : cmpN (a.toNat * 18446744073709551616 + b.toNat) (c.toNat * 18446744073709551616 + d.toNat) = cmpN a.toNat c.toNat := by
  have hb := b.toNat_lt; have hd := d.toNat_lt
  have hne : a.toNat ≠ c.toNat := fun e => h (UInt64.toNat_inj.1 e)
  unfold cmpN
  rcases Nat.lt_or_gt_of_ne hne with h1 | h1
  · rw [if_pos (by omega), if_pos h1]
  · rw [if_neg (by omega), if_pos (by omega), if_neg (by omega), if_pos h1]
theorem beside_2 {a b c d : UInt64} (h : a = c) : cmpN (a.toNat * 18446744073709551616 + b.toNat) (c.toNat * 18446744073709551616 + d.toNat) = cmpN b.toNat d.toNat := by
  subst h; unfold cmpN
  rcases Nat.lt_trichotomy b.toNat d.toNat with h1 | h1 | h1
  · rw [if_pos (by omega), if_pos h1]
  · simp [h1]
  · rw [if_neg (by omega), if_pos (by omega), if_neg (by omega), if_pos h1]
def mhi (x y : UInt64) : UInt64 := UInt64.ofNat (x.toNat * y.toNat / 18446744073709551616)
theorem mul_halves (x y : Nat) (hx : x < 18446744073709551616) (hy : y < 18446744073709551616) :
    x * y / 18446744073709551616 = (x / 4294967296) * (y / 4294967296) + ((x / 4294967296) * (y % 4294967296) + (x % 4294967296) * (y % 4294967296) / 4294967296) / 4294967296 + (((x / 4294967296) * (y % 4294967296) + (x % 4294967296) * (y % 4294967296) / 4294967296) % 4294967296 + (x % 4294967296) * (y / 4294967296)) / 4294967296 := by
  have ex : x = (x / 4294967296) * 4294967296 + x % 4294967296 := by omega
  have ey : y = (y / 4294967296) * 4294967296 + y % 4294967296 := by omega
  generalize hA : x / 4294967296 = A at *
  generalize hB : x % 4294967296 = B at *
  generalize hC : y / 4294967296 = C at *
  generalize hD : y % 4294967296 = D at *
  have e : x * y = (A * C) * 18446744073709551616 + (A * D + B * C) * 4294967296 + B * D := by
    rw [ex, ey]; simp only [Nat.add_mul, Nat.mul_add]
    have e1 : A * 4294967296 * (C * 4294967296) = A * C * 18446744073709551616 := by
      rw [Nat.mul_mul_mul_comm]
    have e2 : A * 4294967296 * D = A * D * 4294967296 := by rw [Nat.mul_right_comm]
    have e3 : B * (C * 4294967296) = B * C * 4294967296 := by rw [Nat.mul_assoc]
    omega
  rw [e]
  generalize A * C = p
  generalize A * D = q
  generalize B * C = r
  generalize B * D = s
  omega
theorem and32 (x : UInt64) : (x &&& 4294967295).toNat = x.toNat % 4294967296 := by rw [UInt64.toNat_and]; exact Nat.and_two_pow_sub_one_eq_mod x.toNat 32
theorem mhi_eq (x y : UInt64) : shrU64 x 32 * shrU64 y 32 + shrU64 (shrU64 x 32 * (y &&& 4294967295) + shrU64 ((x &&& 4294967295) * (y &&& 4294967295)) 32) 32 +
    shrU64 ((shrU64 x 32 * (y &&& 4294967295) + shrU64 ((x &&& 4294967295) * (y &&& 4294967295)) 32 &&& 4294967295) + (x &&& 4294967295) * shrU64 y 32) 32 = mhi x y := by
  apply UInt64.toNat_inj.1
  simp only [UInt64.toNat_add, UInt64.toNat_mul, shrU64_toNat, and32, mhi, UInt64.toNat_ofNat', show (2 : Nat) ^ 32 = 4294967296 from rfl, show (2 : Nat) ^ 64 = 18446744073709551616 from rfl]
  have hx := x.toNat_lt; have hy := y.toNat_lt
  rw [mul_halves x.toNat y.toNat hx hy]
  have hA : x.toNat / 4294967296 ≤ 4294967295 := by omega
  have hB : x.toNat % 4294967296 ≤ 4294967295 := by omega
  have hC : y.toNat / 4294967296 ≤ 4294967295 := by omega
  have hD : y.toNat % 4294967296 ≤ 4294967295 := by omega
  generalize x.toNat / 4294967296 = A at *
  generalize x.toNat % 4294967296 = B at *
  generalize y.toNat / 4294967296 = C at *
  generalize y.toNat % 4294967296 = D at *
  have h1 := Nat.mul_le_mul hA hC
  have h2 := Nat.mul_le_mul hA hD
  have h3 := Nat.mul_le_mul hB hC
  have h4 := Nat.mul_le_mul hB hD
  generalize A * C = p at *
  generalize A * D = q at *
  generalize B * C = r at *
  generalize B * D = s at *
  omega

theorem IsNaN_ct (f : F64) : Ct Try.prog 11 [.float .f64 f.b.toNat] [] [] (fun v o r => v = .bool (fNe f.b.toNat f.b.toNat) ∧ o = [] ∧ r = []) := by
  refine ct_enter Try.func11 rfl Try.ntmps11 (by kernel_rfl) rfl fun w0 => ?_
  refine c_seq ?_
  refine c_reg ?_
  refine asg (.bool _) rfl ?_
  refine jt ?_
  refine c_seq ?_
  refine c_reg ?_
  refine mv (.float _ _) rfl ?_
  refine mv (.float _ _) rfl ?_
  refine fcmp (fNe f.b.toNat f.b.toNat) rfl rfl rfl ?_
  refine asg (.bool _) rfl ?_
  refine jt ?_
  refine c_ret ?_
  exact j_end (own0 := []) (ro0 := []) (.inl rfl) rfl (hr1 Try.results11 (rvt (v := (.bool _)) rfl)) [] [] [] [] [] _ rfl rfl (by kernel_rfl) rfl impl_nil (⟨rfl, rfl, rfl⟩)

theorem Abs_ct (f : F64) : Ct Try.prog 12 [.float .f64 f.b.toNat] [] [] (fun v o r => v = .float .f64 (absF f).b.toNat ∧ o = [] ∧ r = []) := by
  refine ct_enter Try.func12 rfl Try.ntmps12 (by kernel_rfl) rfl fun w0 => ?_
  refine c_seq ?_
  refine c_reg ?_
  refine asg (.float _ _) rfl ?_
  refine jt ?_
  refine c_seq ?_
  refine c_reg ?_
  refine mv (.float _ _) rfl ?_
  refine xcal (args := [.float .f64 f.b.toNat]) (.int .u64 (f.b.toNat : Int)) Try.func8 (by kernel_rfl) (by kernel_rfl) (by kernel_rfl) (fun w => rfl) (by kernel_rfl) rfl ?_
  refine andNotU64 (a := f.b) (b := (9223372036854775808 : UInt64)) rfl rfl ?_
  refine xcal (args := [.int .u64 ((f.b &&& ~~~(9223372036854775808 : UInt64)).toNat : Int)]) (.float .f64 (f.b &&& ~~~(9223372036854775808 : UInt64)).toNat) Try.func5 (by kernel_rfl) (by kernel_rfl) (by kernel_rfl) (fun w => rfl) (by kernel_rfl) rfl ?_
  refine asg (.float _ _) rfl ?_
  refine jt ?_
  refine c_ret ?_
  exact j_end (own0 := []) (ro0 := []) (.inl rfl) rfl (hr1 Try.results12 (rvt (v := (.float _ _)) rfl)) [] [] [] [] [] _ rfl rfl (by kernel_rfl) rfl impl_nil (⟨rfl, rfl, rfl⟩)

theorem isNaNu_ct (x : UInt64) : Ct Try.prog 17 [.int .u64 (x.toNat : Int)] [] [] (fun v o r => v = .bool false ∧ o = [] ∧ r = []) := by
  refine ct_enter Try.func17 rfl Try.ntmps17 (by kernel_rfl) rfl fun w0 => ?_
  refine c_seq ?_
  refine c_reg ?_
  refine asg (.bool _) rfl ?_
  refine jt ?_
  refine c_seq ?_
  refine c_reg ?_
  refine mv (.int _ _) rfl ?_
  refine mv (.int _ _) rfl ?_
  refine cmp false rfl rfl (by simp [cmpV]) ?_
  refine asg (.bool _) rfl ?_
  refine jt ?_
  refine c_ret ?_
  exact j_end (own0 := []) (ro0 := []) (.inl rfl) rfl (hr1 Try.results17 (rvt (v := (.bool _)) rfl)) [] [] [] [] [] _ rfl rfl (by kernel_rfl) rfl impl_nil (⟨rfl, rfl, rfl⟩)

theorem Compare_ct (x y : UInt64) : Ct Try.prog 16 [.int .u64 (x.toNat : Int), .int .u64 (y.toNat : Int)] [] [] (fun v o r => v = .int .i64 (cmpN x.toNat y.toNat) ∧ o = [] ∧ r = []) := by
  refine ct_enter Try.func16 rfl Try.ntmps16 (by kernel_rfl) rfl fun w0 => ?_
  refine c_seq ?_
  refine c_reg ?_
  refine asg (.int _ _) rfl ?_
  refine jt ?_
  refine c_seq ?_
  refine c_reg ?_
  refine mv (.int _ _) rfl ?_
  refine cal (isNaNu_ct x) [] [] [] rfl rfl rfl (by kernel_rfl) impl_nil rfl ?_; rintro _ _ _ ⟨rfl, rfl, rfl⟩; refine ⟨trivial, ?_⟩
  refine asg (.bool _) rfl ?_
  refine jt ?_
  refine c_seq ?_
  refine c_reg ?_
  refine mv (.int _ _) rfl ?_
  refine cal (isNaNu_ct y) [] [] [] rfl rfl rfl (by kernel_rfl) impl_nil rfl ?_; rintro _ _ _ ⟨rfl, rfl, rfl⟩; refine ⟨trivial, ?_⟩
  refine asg (.bool _) rfl ?_
  refine jt ?_
  refine c_seq ?_
  refine c_seq ?_
  refine c_reg ?_
  refine mv (.bool _) rfl ?_
  refine jt ?_
  refine c_false rfl ?_
  refine c_skip ?_
  refine e_then ?_
  refine c_seq ?_
  refine c_seq ?_
  refine c_reg ?_
  refine mv (.bool _) rfl ?_
  refine jt ?_
  refine c_false rfl ?_
  refine c_skip ?_
  refine e_then ?_
  refine c_seq ?_
  refine c_seq ?_
  refine c_reg ?_
  refine mv (.int _ _) rfl ?_
  refine mv (.int _ _) rfl ?_
  refine cmp _ rfl rfl rfl ?_
  refine jt ?_
  refine c_cond rfl (fun h1 => ?_) (fun h1 => ?_)
  · replace h1 := of_decide_eq_true h1
    refine c_seq ?_
    refine c_reg ?_
    refine asg (.int _ _) rfl ?_
    refine jt ?_
    refine c_ret ?_
    exact j_end (own0 := []) (ro0 := []) (.inl rfl) rfl (hr1 Try.results16 (rvt (v := (.int _ _)) rfl)) [] [] [] [] [] _ rfl rfl (by kernel_rfl) rfl impl_nil (⟨by rw [cmpN_lt (by omega)], rfl, rfl⟩)
  · replace h1 := of_decide_eq_false h1
    refine c_skip ?_
    refine e_then ?_
    refine c_seq ?_
    refine c_seq ?_
    refine c_reg ?_
    refine mv (.int _ _) rfl ?_
    refine mv (.int _ _) rfl ?_
    refine cmp _ rfl rfl rfl ?_
    refine jt ?_
    refine c_cond rfl (fun h2 => ?_) (fun h2 => ?_)
    · replace h2 := of_decide_eq_true h2
      refine c_seq ?_
      refine c_reg ?_
      refine asg (.int _ _) rfl ?_
      refine jt ?_
      refine c_ret ?_
      exact j_end (own0 := []) (ro0 := []) (.inl rfl) rfl (hr1 Try.results16 (rvt (v := (.int _ _)) rfl)) [] [] [] [] [] _ rfl rfl (by kernel_rfl) rfl impl_nil (⟨by rw [cmpN_gt (by omega)], rfl, rfl⟩)
    · replace h2 := of_decide_eq_false h2
      refine c_skip ?_
      refine e_then ?_
      refine c_seq ?_
      refine c_reg ?_
      refine asg (.int _ _) rfl ?_
      refine jt ?_
      refine c_ret ?_
      exact j_end (own0 := []) (ro0 := []) (.inl rfl) rfl (hr1 Try.results16 (rvt (v := (.int _ _)) rfl)) [] [] [] [] [] _ rfl rfl (by kernel_rfl) rfl impl_nil (⟨by rw [cmpN_eq (by omega)], rfl, rfl⟩)

theorem beside_ct (a b c d : UInt64) : Ct Try.prog 15 [.int .u64 (a.toNat : Int), .int .u64 (b.toNat : Int), .int .u64 (c.toNat : Int), .int .u64 (d.toNat : Int)] [] [] (fun v o r => v = .int .i64 (cmpN (a.toNat * 18446744073709551616 + b.toNat) (c.toNat * 18446744073709551616 + d.toNat)) ∧ o = [] ∧ r = []) := by
  refine ct_enter Try.func15 rfl Try.ntmps15 (by kernel_rfl) rfl fun w0 => ?_
  refine c_seq ?_
  refine c_reg ?_
  refine asg (.int _ _) rfl ?_
  refine jt ?_
  refine c_seq ?_
  refine c_seq ?_
  refine c_reg ?_
  refine mv (.int _ _) rfl ?_
  refine mv (.int _ _) rfl ?_
  refine equ64 (a := a) (b := c) _ rfl rfl rfl ?_
  refine jt ?_
  refine c_cond rfl (fun h1 => ?_) (fun h1 => ?_)
  · replace h1 := ndt h1
    refine c_seq ?_
    refine c_reg ?_
    refine mv (.int _ _) rfl ?_
    refine mv (.int _ _) rfl ?_
    refine cal (Compare_ct a c) [] [] [] rfl rfl rfl (by kernel_rfl) impl_nil rfl ?_; rintro _ _ _ ⟨rfl, rfl, rfl⟩; refine ⟨trivial, ?_⟩
    refine asg (.int _ _) rfl ?_
    refine jt ?_
    refine c_ret ?_
    exact j_end (own0 := []) (ro0 := []) (.inl rfl) rfl (hr1 Try.results15 (rvt (v := (.int _ _)) rfl)) [] [] [] [] [] _ rfl rfl (by kernel_rfl) rfl impl_nil (⟨by rw [beside_1 h1], rfl, rfl⟩)
  · replace h1 := ndf h1
    refine c_skip ?_
    refine e_then ?_
    refine c_seq ?_
    refine c_reg ?_
    refine mv (.int _ _) rfl ?_
    refine mv (.int _ _) rfl ?_
    refine cal (Compare_ct b d) [] [] [] rfl rfl rfl (by kernel_rfl) impl_nil rfl ?_; rintro _ _ _ ⟨rfl, rfl, rfl⟩; refine ⟨trivial, ?_⟩
    refine asg (.int _ _) rfl ?_
    refine jt ?_
    refine c_ret ?_
    exact j_end (own0 := []) (ro0 := []) (.inl rfl) rfl (hr1 Try.results15 (rvt (v := (.int _ _)) rfl)) [] [] [] [] [] _ rfl rfl (by kernel_rfl) rfl impl_nil (⟨by rw [beside_2 h1], rfl, rfl⟩)

set_option maxRecDepth 20000 in
set_option maxHeartbeats 4000000 in
theorem Mul64_ct (x y : UInt64) : Ct Try.prog 14 [.int .u64 (x.toNat : Int), .int .u64 (y.toNat : Int)] [] [] (fun v o r => v = .tuple #[.int .u64 (mhi x y).toNat, .int .u64 (x * y).toNat] ∧ o = [] ∧ r = []) := by
  refine ct_enter Try.func14 rfl Try.ntmps14 (by kernel_rfl) rfl fun w0 => ?_
  refine c_seq ?_
  refine c_reg ?_
  refine asg (.int _ _) rfl ?_
  refine asg (.int _ _) rfl ?_
  refine jt ?_
  refine c_seq ?_
  refine c_reg ?_
  refine mv (.int _ _) rfl ?_
  refine andU64 (a := x) (b := (4294967295 : UInt64)) rfl rfl ?_
  refine asg (.int _ _) rfl ?_
  refine jt ?_
  refine c_seq ?_
  refine c_reg ?_
  refine mv (.int _ _) rfl ?_
  refine shrRU64 (a := x) 32 rfl rfl rfl ?_
  refine asg (.int _ _) rfl ?_
  refine jt ?_
  refine c_seq ?_
  refine c_reg ?_
  refine mv (.int _ _) rfl ?_
  refine andU64 (a := y) (b := (4294967295 : UInt64)) rfl rfl ?_
  refine asg (.int _ _) rfl ?_
  refine jt ?_
  refine c_seq ?_
  refine c_reg ?_
  refine mv (.int _ _) rfl ?_
  refine shrRU64 (a := y) 32 rfl rfl rfl ?_
  refine asg (.int _ _) rfl ?_
  refine jt ?_
  refine c_seq ?_
  refine c_reg ?_
  refine mv (.int _ _) rfl ?_
  refine mv (.int _ _) rfl ?_
  refine mulU64 (a := (x &&& (4294967295 : UInt64))) (b := (y &&& (4294967295 : UInt64))) rfl rfl ?_
  refine asg (.int _ _) rfl ?_
  refine jt ?_
  refine c_seq ?_
  refine c_reg ?_
  refine mv (.int _ _) rfl ?_
  refine mv (.int _ _) rfl ?_
  refine mulU64 (a := (shrU64 x 32)) (b := (y &&& (4294967295 : UInt64))) rfl rfl ?_
  refine mv (.int _ _) rfl ?_
  refine shrRU64 (a := ((x &&& (4294967295 : UInt64)) * (y &&& (4294967295 : UInt64)))) 32 rfl rfl rfl ?_
  refine addU64 (a := ((shrU64 x 32) * (y &&& (4294967295 : UInt64)))) (b := (shrU64 ((x &&& (4294967295 : UInt64)) * (y &&& (4294967295 : UInt64))) 32)) rfl rfl ?_
  refine asg (.int _ _) rfl ?_
  refine jt ?_
  refine c_seq ?_
  refine c_reg ?_
  refine mv (.int _ _) rfl ?_
  refine andU64 (a := (((shrU64 x 32) * (y &&& (4294967295 : UInt64))) + (shrU64 ((x &&& (4294967295 : UInt64)) * (y &&& (4294967295 : UInt64))) 32))) (b := (4294967295 : UInt64)) rfl rfl ?_
  refine asg (.int _ _) rfl ?_
  refine jt ?_
  refine c_seq ?_
  refine c_reg ?_
  refine mv (.int _ _) rfl ?_
  refine shrRU64 (a := (((shrU64 x 32) * (y &&& (4294967295 : UInt64))) + (shrU64 ((x &&& (4294967295 : UInt64)) * (y &&& (4294967295 : UInt64))) 32))) 32 rfl rfl rfl ?_
  refine asg (.int _ _) rfl ?_
  refine jt ?_
  refine c_seq ?_
  refine c_reg ?_
  refine mv (.int _ _) rfl ?_
  refine mv (.int _ _) rfl ?_
  refine mv (.int _ _) rfl ?_
  refine mulU64 (a := (x &&& (4294967295 : UInt64))) (b := (shrU64 y 32)) rfl rfl ?_
  refine addU64 (a := ((((shrU64 x 32) * (y &&& (4294967295 : UInt64))) + (shrU64 ((x &&& (4294967295 : UInt64)) * (y &&& (4294967295 : UInt64))) 32)) &&& (4294967295 : UInt64))) (b := ((x &&& (4294967295 : UInt64)) * (shrU64 y 32))) rfl rfl ?_
  refine asg (.int _ _) rfl ?_
  refine jt ?_
  refine c_seq ?_
  refine c_reg ?_
  refine mv (.int _ _) rfl ?_
  refine mv (.int _ _) rfl ?_
  refine mulU64 (a := (shrU64 x 32)) (b := (shrU64 y 32)) rfl rfl ?_
  refine mv (.int _ _) rfl ?_
  refine addU64 (a := ((shrU64 x 32) * (shrU64 y 32))) (b := (shrU64 (((shrU64 x 32) * (y &&& (4294967295 : UInt64))) + (shrU64 ((x &&& (4294967295 : UInt64)) * (y &&& (4294967295 : UInt64))) 32)) 32)) rfl rfl ?_
  refine mv (.int _ _) rfl ?_
  refine shrRU64 (a := (((((shrU64 x 32) * (y &&& (4294967295 : UInt64))) + (shrU64 ((x &&& (4294967295 : UInt64)) * (y &&& (4294967295 : UInt64))) 32)) &&& (4294967295 : UInt64)) + ((x &&& (4294967295 : UInt64)) * (shrU64 y 32)))) 32 rfl rfl rfl ?_
  refine addU64 (a := (((shrU64 x 32) * (shrU64 y 32)) + (shrU64 (((shrU64 x 32) * (y &&& (4294967295 : UInt64))) + (shrU64 ((x &&& (4294967295 : UInt64)) * (y &&& (4294967295 : UInt64))) 32)) 32))) (b := (shrU64 (((((shrU64 x 32) * (y &&& (4294967295 : UInt64))) + (shrU64 ((x &&& (4294967295 : UInt64)) * (y &&& (4294967295 : UInt64))) 32)) &&& (4294967295 : UInt64)) + ((x &&& (4294967295 : UInt64)) * (shrU64 y 32))) 32)) rfl rfl ?_
  refine asg (.int _ _) rfl ?_
  refine jt ?_
  refine c_seq ?_
  refine c_reg ?_
  refine mv (.int _ _) rfl ?_
  refine mv (.int _ _) rfl ?_
  refine mulU64 (a := x) (b := y) rfl rfl ?_
  refine asg (.int _ _) rfl ?_
  refine jt ?_
  refine c_ret ?_
  exact j_end (own0 := []) (ro0 := []) (.inl rfl) rfl (hr2 Try.results14 (rvt (v := (.int _ _)) rfl) (rvt (v := (.int _ _)) rfl)) [] [] [] [] [] _ rfl rfl (by kernel_rfl) rfl impl_nil (⟨by rw [mhi_eq], rfl, rfl⟩)
end Go.Proofs.Ythpbiamicidakaa
