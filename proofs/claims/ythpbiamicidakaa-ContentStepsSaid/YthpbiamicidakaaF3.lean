/- A number of steps as degrees, and back. No condition. -/
import Derived.Test.YthpbiamicidakaaF2
namespace Go.Proofs.Ythpbiamicidakaa
open Go Go.PW

def degB (n : Int) : Nat := (Ieee.double.div (FloatKind.f64.nearest n) 4711630319722168320).getD 0
def degF (n : Int) : F64 := ⟨UInt64.ofNat (degB n)⟩

theorem word_rung {s : Bool} {r : Nat} (h : r < 9223372036854775808) : rung (Ieee.double.word s r) = r ∧ sgn (Ieee.double.word s r) = s := by
  unfold Ieee.Format.word
  rw [show Ieee.double.signWeight = 9223372036854775808 from rfl]
  unfold rung sgn
  cases s
  · simp only [Bool.false_eq_true, if_false]
    exact ⟨Nat.mod_eq_of_lt h, by rw [Nat.div_eq_of_lt h]; rfl⟩
  · simp only [if_true]
    refine ⟨by omega, ?_⟩
    have : (9223372036854775808 + r) / 9223372036854775808 = 1 := by omega
    rw [this]; rfl
/-- A rung by its binade and what is kept. -/
theorem rung_parts {t kk : Nat} (h1 : 4503599627370496 ≤ kk) (h2 : kk < 9007199254740992) : mant (t * 4503599627370496 + kk) = kk ∧ plc (t * 4503599627370496 + kk) = t := by
  have e1 : (t * 4503599627370496 + kk) / 4503599627370496 = t + 1 := by omega
  have e2 : (t * 4503599627370496 + kk) % 4503599627370496 = kk - 4503599627370496 := by omega
  unfold mant plc
  rw [e1, e2, if_neg (by omega), Nat.max_eq_left (by omega)]
  omega
theorem vl_parts {t kk : Nat} (h1 : 4503599627370496 ≤ kk) (h2 : kk ≤ 9007199254740992) : vl (t * 4503599627370496 + kk) = kk * 2 ^ t := by
  rcases Nat.lt_or_ge kk 9007199254740992 with h | h
  · unfold vl; rw [(rung_parts h1 h).1, (rung_parts h1 h).2]
  · have e : t * 4503599627370496 + kk = (t + 1) * 4503599627370496 + 4503599627370496 := by omega
    unfold vl
    rw [e, (rung_parts (Nat.le_refl _) (by decide)).1, (rung_parts (Nat.le_refl _) (by decide)).2, Nat.pow_succ]
    have : kk = 9007199254740992 := by omega
    subst this; omega
theorem log2_bd {n : Nat} (h : 0 < n) : 2 ^ n.log2 ≤ n ∧ n < 2 ^ (n.log2 + 1) := ⟨Nat.log2_self_le (by omega), Nat.lt_log2_self⟩
theorem log2_le {n k : Nat} (h : 0 < n) (hk : n < 2 ^ (k + 1)) : n.log2 ≤ k := by
  have h1 := (log2_bd h).1
  apply Classical.byContradiction
  intro hn
  have : 2 ^ (k + 1) ≤ 2 ^ n.log2 := Nat.pow_le_pow_right (by decide) (by omega)
  omega
theorem le_log2 {n k : Nat} (h : 2 ^ k ≤ n) : k ≤ n.log2 := by
  have h0 : 0 < n := Nat.lt_of_lt_of_le (Nat.two_pow_pos k) h
  have h1 := (log2_bd h0).2
  apply Classical.byContradiction
  intro hn
  have : 2 ^ (n.log2 + 1) ≤ 2 ^ k := Nat.pow_le_pow_right (by decide) (by omega)
  omega
theorem cut_0 (s : Bool) (n : Nat) : Ieee.Toward.even.cut s n 0 = n := by
  unfold Ieee.Toward.cut
  simp [Nat.mod_one]
/-- A whole number as a float: what it reads as. -/
theorem read_int {s : Bool} {N : Nat} (h0 : 0 < N) (h1 : N ≤ 2147483648) : Ieee.double.read (Ieee.double.nearest s N 0) = .number s (N * 2 ^ (52 - N.log2)) ((N.log2 : Int) - 52) := by
  have hL : N.log2 ≤ 31 := log2_le h0 (by omega)
  have hb := log2_bd h0
  have hk1 : 4503599627370496 ≤ N * 2 ^ (52 - N.log2) := by
    have h2 : 2 ^ N.log2 * 2 ^ (52 - N.log2) = 4503599627370496 := by rw [← Nat.pow_add, show N.log2 + (52 - N.log2) = 52 by omega]
    rw [← h2]; exact Nat.mul_le_mul_right _ hb.1
  have hk2 : N * 2 ^ (52 - N.log2) < 9007199254740992 := by
    have h2 : 2 ^ (N.log2 + 1) * 2 ^ (52 - N.log2) = 9007199254740992 := by rw [← Nat.pow_add, show N.log2 + 1 + (52 - N.log2) = 53 by omega]
    rw [← h2]; exact Nat.mul_lt_mul_of_pos_right hb.2 (Nat.two_pow_pos _)
  have e : Ieee.double.nearest s N 0 = Ieee.double.word s ((N.log2 + 1022) * 4503599627370496 + N * 2 ^ (52 - N.log2)) := by
    unfold Ieee.Format.nearest
    rw [if_neg (by omega), show Ieee.double.leastPlace = -1074 from rfl, show Ieee.double.binade = 4503599627370496 from rfl, show Ieee.double.infRung = 9218868437227405312 from rfl, show Ieee.double.fractionBits = 52 from rfl]
    dsimp only
    have e1 : max ((0 : Int) + (N.log2 : Int) - (52 : Nat)) (-1074) = (N.log2 : Int) - 52 := by omega
    rw [e1, show ((0 : Int) - ((N.log2 : Int) - 52)).toNat = 52 - N.log2 by omega, show ((N.log2 : Int) - 52 - 0).toNat = 0 by omega, show ((N.log2 : Int) - 52 - -1074).toNat = N.log2 + 1022 by omega, cut_0, Nat.shiftLeft_eq]
    rw [Nat.min_eq_left (by omega)]
  have hr := word_rung (s := s) (r := (N.log2 + 1022) * 4503599627370496 + N * 2 ^ (52 - N.log2)) (by omega)
  rw [e, read_fin (by rw [hr.1]; omega), hr.1, hr.2, (rung_parts hk1 hk2).1, (rung_parts hk1 hk2).2, show (-1074 : Int) + ((N.log2 + 1022 : Nat) : Int) = (N.log2 : Int) - 52 by omega]
theorem read_1e7 : Ieee.double.read 4711630319722168320 = .number false 5368709120000000 (-29) := by decide +kernel
theorem log2_mc : Nat.log2 5368709120000000 = 52 := by decide +kernel
theorem read_zero {s : Bool} : Ieee.double.read (Ieee.double.nearest s 0 0) = .number s 0 (-1074) := by cases s <;> decide +kernel
theorem f64_nearest (n : Int) : FloatKind.f64.nearest n = Ieee.double.nearest (decide (n < 0)) n.natAbs 0 := rfl
theorem div_0 {n : Int} (h : n = 0) : Ieee.double.div (FloatKind.f64.nearest n) 4711630319722168320 = some 0 := by subst h; decide +kernel
/-- Twice a quotient, and whether anything is left. -/
def qm (Z : Nat) : Nat := 2 * (Z / 10000000) + (if Z % 10000000 = 0 then 0 else 1)
/-- The quotient, ahead of its rounding. -/
theorem div_eq {n : Int} (h : n ≠ 0) (h1 : n.natAbs ≤ 2147483648) : Ieee.double.div (FloatKind.f64.nearest n) 4711630319722168320 =
    some (Ieee.double.nearest (decide (n < 0)) (qm (n.natAbs * 2 ^ (77 - n.natAbs.log2))) ((n.natAbs.log2 : Int) - 78)) := by
  have h0 : 0 < n.natAbs := by omega
  have hL : n.natAbs.log2 ≤ 31 := log2_le h0 (by omega)
  have hb := log2_bd h0
  unfold Ieee.Format.div
  rw [f64_nearest, read_int h0 h1, read_1e7]
  generalize hN : n.natAbs = N at *
  have hk1 : 4503599627370496 ≤ N * 2 ^ (52 - N.log2) := by
    have h2 : 2 ^ N.log2 * 2 ^ (52 - N.log2) = 4503599627370496 := by rw [← Nat.pow_add, show N.log2 + (52 - N.log2) = 52 by omega]
    rw [← h2]; exact Nat.mul_le_mul_right _ hb.1
  have hk2 : N * 2 ^ (52 - N.log2) < 9007199254740992 := by
    have h2 : 2 ^ (N.log2 + 1) * 2 ^ (52 - N.log2) = 9007199254740992 := by rw [← Nat.pow_add, show N.log2 + 1 + (52 - N.log2) = 53 by omega]
    rw [← h2]; exact Nat.mul_lt_mul_of_pos_right hb.2 (Nat.two_pow_pos _)
  have hlg : (N * 2 ^ (52 - N.log2)).log2 = 52 := by
    have a := log2_le (n := N * 2 ^ (52 - N.log2)) (k := 52) (by omega) (by omega)
    have b := le_log2 (n := N * 2 ^ (52 - N.log2)) (k := 52) (by omega)
    omega
  simp only [Ieee.Datum.quotient, show Ieee.double.fractionBits = 52 from rfl, hlg, log2_mc, Option.map_some]
  rw [if_neg (by decide : ¬ (5368709120000000 : Nat) = 0)]
  simp only [Option.map_some, Ieee.Format.write, Bool.xor_false]
  have e : (N * 2 ^ (52 - N.log2)) <<< (52 + 2 + 52 - 52) = N * 2 ^ (77 - N.log2) * 536870912 := by
    rw [Nat.shiftLeft_eq, Nat.mul_assoc, ← Nat.pow_add, Nat.mul_assoc, show (536870912 : Nat) = 2 ^ 29 from rfl, ← Nat.pow_add]
    congr 2; omega
  rw [e, show (5368709120000000 : Nat) = 10000000 * 536870912 from rfl, Nat.mul_div_mul_right _ _ (by decide), Nat.mul_mod_mul_right]
  have e2 : ∀ Z : Nat, 2 * (Z / 10000000) + (Z % 10000000 * 536870912 != 0).toNat = qm Z := fun Z => by
    unfold qm
    by_cases hz : Z % 10000000 = 0
    · rw [hz]; rfl
    · rw [if_neg hz]
      have : (Z % 10000000 * 536870912 != 0) = true := by rw [bne_iff_ne]; omega
      rw [this]; rfl
  rw [e2, show ((N.log2 : Int) - 52 - -29 - ((52 + 2 + 52 - 52 : Nat) : Int) - 1) = (N.log2 : Int) - 78 by omega]
theorem deg_some {n : Int} (h1 : n.natAbs ≤ 2147483648) : Ieee.double.div (FloatKind.f64.nearest n) 4711630319722168320 = some (degB n) := by
  unfold degB
  by_cases h : n = 0
  · rw [div_0 h]; rfl
  · rw [div_eq h h1]; rfl
theorem deg_b {n : Int} (h1 : n.natAbs ≤ 2147483648) : (degF n).b.toNat = degB n := by
  have h := Ieee.double.div_lt (deg_some h1)
  show (UInt64.ofNat (degB n)).toNat = _
  rw [UInt64.toNat_ofNat']
  exact Nat.mod_eq_of_lt h
theorem deg_ok {n : Int} (h1 : n.natAbs ≤ 2147483648) : floatBits .quo .f64 (FloatKind.f64.nearest n) 4711630319722168320 = some (degF n).b.toNat := by
  rw [deg_b h1]; exact deg_some h1
end Go.Proofs.Ythpbiamicidakaa
