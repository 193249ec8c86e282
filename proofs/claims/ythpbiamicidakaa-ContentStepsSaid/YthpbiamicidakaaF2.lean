/- Steps of degrees as whole numbers: to the nearest, between two to the even one. No condition. -/
import Derived.Test.YthpbiamicidakaaF1
namespace Go.Proofs.Ythpbiamicidakaa
open Go Go.PW

def rheN (r : Nat) : Nat := nrN r + (if 0 < nrS r ∨ (nrS r = 0 ∧ nrN r % 2 = 1) then 1 else 0)
def stE (d : F64) : Int := if 4640537203540230144 < rung d.b.toNat then 91 else 0
def stV (d : F64) : Int := if 4640537203540230144 < rung d.b.toNat then 0 else if sgn d.b.toNat then -(rheN (rung d.b.toNat) : Int) else (rheN (rung d.b.toNat) : Int)
/-- x / 2h to the nearest. -/
def rhe (x h : Nat) : Nat := x / (2 * h) + (if h < x % (2 * h) ∨ (x % (2 * h) = h ∧ x / (2 * h) % 2 = 1) then 1 else 0)
theorem rhe_mono {x y h : Nat} (hh : 0 < h) (hxy : x ≤ y) : rhe x h ≤ rhe y h := by
  unfold rhe
  have h1 : x / (2 * h) ≤ y / (2 * h) := Nat.div_le_div_right hxy
  rcases Nat.lt_or_ge (x / (2 * h)) (y / (2 * h)) with h2 | h2
  · split <;> split <;> omega
  · have e : x / (2 * h) = y / (2 * h) := by omega
    have ex := Nat.div_add_mod x (2 * h)
    have ey := Nat.div_add_mod y (2 * h)
    rw [e] at ex ⊢
    have h3 : x % (2 * h) ≤ y % (2 * h) := by omega
    split <;> split <;> omega
theorem cmpN_pos {x y : Nat} : 0 < cmpN x y ↔ y < x := by unfold cmpN; split <;> (try split) <;> omega
theorem cmpN_zero {x y : Nat} : cmpN x y = 0 ↔ x = y := by unfold cmpN; split <;> (try split) <;> omega
theorem rheN_eq (r : Nat) (hs : 1 ≤ shf r) : rheN r = rhe (mant r * 10000000) (2 ^ (shf r - 1)) := by
  unfold rheN rhe nrS nrN
  have e : 2 * 2 ^ (shf r - 1) = 2 ^ shf r := by rw [Nat.mul_comm, ← Nat.pow_succ]; congr 1; omega
  rw [e]
  simp only [cmpN_pos, cmpN_zero]
theorem rhe_scale (x h p : Nat) (hp : 0 < p) : rhe (x * p) (h * p) = rhe x h := by
  unfold rhe
  rw [show 2 * (h * p) = (2 * h) * p by rw [Nat.mul_assoc], Nat.mul_div_mul_right _ _ hp, Nat.mul_mod_mul_right]
  have h1 : h * p < x % (2 * h) * p ↔ h < x % (2 * h) := Nat.mul_lt_mul_right hp
  have h2 : x % (2 * h) * p = h * p ↔ x % (2 * h) = h := Nat.mul_left_inj (by omega)
  simp only [h1, h2]
/-- Half of what a number of steps is told in. -/
def HDe : Nat := 1073
theorem HDe_eq : HDe = 1073 := rfl
attribute [irreducible] HDe
def HD : Nat := 2 ^ HDe
theorem HD_of {a b : Nat} (h : a + b = HDe) : 2 ^ a * 2 ^ b = HD := by rw [← Nat.pow_add, h]; rfl
theorem HD_pos : 0 < HD := Nat.two_pow_pos _
theorem rheN_vl {r : Nat} (h : r ≤ 4640537203540230144) : rheN r = rhe (vl r * 10000000) HD := by
  have he : r / 4503599627370496 ≤ 1030 := by omega
  have hs : shf r - 1 + plc r = HDe := by rw [HDe_eq]; unfold shf plc; omega
  rw [rheN_eq r (by unfold shf; omega), ← rhe_scale (mant r * 10000000) (2 ^ (shf r - 1)) (2 ^ plc r) (Nat.two_pow_pos _), HD_of hs]
  unfold vl; rw [Nat.mul_right_comm]
theorem rheN_mono {a b : Nat} (hab : a ≤ b) (h : b ≤ 4640537203540230144) : rheN a ≤ rheN b := by
  rw [rheN_vl h, rheN_vl (by omega)]
  exact rhe_mono HD_pos (Nat.mul_le_mul_right _ (vl_le_iff.2 hab))
theorem rheN_180 : rheN 4640537203540230144 = 1800000000 := by decide +kernel
theorem rheN_le {r : Nat} (h : r ≤ 4640537203540230144) : rheN r ≤ 1800000000 := by rw [← rheN_180]; exact rheN_mono h (Nat.le_refl _)
theorem nrN_le {r : Nat} (h : r ≤ 4640537203540230144) : nrN r ≤ 1800000000 := Nat.le_trans (Nat.le_add_right _ _) (rheN_le h)
theorem rheN_0 : rheN 0 = 0 := by decide +kernel
theorem absF_b (f : F64) : (absF f).b.toNat = rung f.b.toNat := by
  show (f.b &&& ~~~9223372036854775808).toNat = _
  rw [show (~~~9223372036854775808 : UInt64) = 9223372036854775807 by decide, UInt64.toNat_and]
  exact Nat.and_two_pow_sub_one_eq_mod f.b.toNat 63
/-- A float that is no place. -/
theorem off_1 {f : F64} (h : fNe f.b.toNat f.b.toNat = true) : 4640537203540230144 < rung f.b.toNat := by
  rw [fNe_self] at h; have := of_decide_eq_true h; omega
theorem off_2 {f : F64} (h1 : fNe f.b.toNat f.b.toNat = false) (h : fGt (absF f).b.toNat 4640537203540230144 = true) : 4640537203540230144 < rung f.b.toNat := by
  rw [fNe_self] at h1; have h2 := of_decide_eq_false h1
  rw [absF_b, fGt_180 (by omega)] at h; exact of_decide_eq_true h
theorem on_1 {f : F64} (h1 : fNe f.b.toNat f.b.toNat = false) (h : fGt (absF f).b.toNat 4640537203540230144 = false) : rung f.b.toNat ≤ 4640537203540230144 := by
  rw [fNe_self] at h1; have h2 := of_decide_eq_false h1
  rw [absF_b, fGt_180 (by omega)] at h; have := of_decide_eq_false h; omega
theorem st_off {f : F64} (h : 4640537203540230144 < rung f.b.toNat) : stE f = 91 ∧ stV f = 0 := ⟨if_pos h, if_pos h⟩
theorem st_on {f : F64} (h : rung f.b.toNat ≤ 4640537203540230144) : stE f = 0 ∧ stV f = if sgn f.b.toNat then -(rheN (rung f.b.toNat) : Int) else (rheN (rung f.b.toNat) : Int) := ⟨if_neg (by omega), if_neg (by omega)⟩
theorem st_neg {f : F64} (h : rung f.b.toNat ≤ 4640537203540230144) (h1 : fLt f.b.toNat 0 = true) : stV f = -(rheN (rung f.b.toNat) : Int) := by
  rw [(st_on h).2]; rw [fLt_0 (by omega)] at h1; simp only [Bool.and_eq_true] at h1; rw [if_pos h1.1]
theorem st_pos {f : F64} (h : rung f.b.toNat ≤ 4640537203540230144) (h1 : fLt f.b.toNat 0 = false) : stV f = (rheN (rung f.b.toNat) : Int) := by
  rw [(st_on h).2]; rw [fLt_0 (by omega)] at h1
  split
  · next h2 =>
    rw [h2, Bool.true_and] at h1
    have : rung f.b.toNat = 0 := by have := of_decide_eq_false h1; omega
    rw [this, rheN_0]; rfl
  · rfl
theorem st_bd {f : F64} : -1800000000 ≤ stV f ∧ stV f ≤ 1800000000 := by
  unfold stV
  split
  · omega
  · next h => have := rheN_le (r := rung f.b.toNat) (by omega); split <;> omega
end Go.Proofs.Ythpbiamicidakaa
