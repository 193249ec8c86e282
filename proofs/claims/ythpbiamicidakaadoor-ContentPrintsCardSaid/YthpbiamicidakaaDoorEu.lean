/- Floats by their bits: how two of them stand to each other. No condition. -/
import Derived.Test.YthpbiamicidakaaDoorEt
namespace Go.PW
open Go

def mant (r : Nat) : Nat := if r / 4503599627370496 = 0 then r % 4503599627370496 else 4503599627370496 + r % 4503599627370496
def absF (f : F64) : F64 := ⟨f.b &&& ~~~9223372036854775808⟩
def negF (f : F64) : Bool := decide (IntKind.i64.wrap (f.b.toNat : Int) < 0)

def rung (b : Nat) : Nat := b % 9223372036854775808
def sgn (b : Nat) : Bool := b / 9223372036854775808 % 2 == 1
/-- The place of a rung's last digit, above the least. -/
def plcF (r : Nat) : Nat := max (r / 4503599627370496) 1 - 1
/-- A finite rung's size, in units of the least place. -/
def vl (r : Nat) : Nat := mant r * 2 ^ plcF r
def sv (b : Nat) : Int := if sgn b then -(vl (rung b) : Int) else (vl (rung b) : Int)

theorem read_fin {b : Nat} (h : rung b < 9218868437227405312) : Ieee.double.read b = .number (sgn b) (mant (rung b)) (-1074 + (plcF (rung b) : Int)) := by
  unfold Ieee.Format.read
  rw [show Ieee.double.signWeight = 9223372036854775808 from rfl, show Ieee.double.binade = 4503599627370496 from rfl, show Ieee.double.infRung = 9218868437227405312 from rfl, show Ieee.double.leastPlace = -1074 from rfl]
  show (if rung b < 4503599627370496 then Ieee.Datum.number (sgn b) (rung b) (-1074) else if rung b < 9218868437227405312 then _ else _) = _
  unfold mant plcF
  split
  · next h1 =>
    have e : rung b / 4503599627370496 = 0 := by omega
    rw [if_pos e, e, Nat.mod_eq_of_lt h1]; rfl
  · next h1 =>
    have e : ¬ rung b / 4503599627370496 = 0 := by omega
    rw [if_neg e, Nat.max_eq_left (by omega)]; first | rfl | (rw [if_pos h]; rfl)
theorem read_inf {b : Nat} (h : rung b = 9218868437227405312) : Ieee.double.read b = .infinity (sgn b) := by
  unfold Ieee.Format.read
  rw [show Ieee.double.signWeight = 9223372036854775808 from rfl, show Ieee.double.binade = 4503599627370496 from rfl, show Ieee.double.infRung = 9218868437227405312 from rfl]
  show (if rung b < 4503599627370496 then _ else if rung b < 9218868437227405312 then _ else if rung b = 9218868437227405312 then Ieee.Datum.infinity (sgn b) else _) = _
  rw [if_neg (by omega), if_neg (by omega), if_pos h]
theorem read_nan {b : Nat} (h : 9218868437227405312 < rung b) : ∃ f, Ieee.double.read b = .nan (sgn b) f := by
  refine ⟨rung b - 9218868437227405312, ?_⟩
  unfold Ieee.Format.read
  rw [show Ieee.double.signWeight = 9223372036854775808 from rfl, show Ieee.double.binade = 4503599627370496 from rfl, show Ieee.double.infRung = 9218868437227405312 from rfl]
  show (if rung b < 4503599627370496 then _ else if rung b < 9218868437227405312 then _ else if rung b = 9218868437227405312 then _ else Ieee.Datum.nan (sgn b) (rung b - 9218868437227405312)) = _
  rw [if_neg (by omega), if_neg (by omega), if_neg (by omega)]

theorem vl_succ (r : Nat) : vl r < vl (r + 1) := by
  unfold vl mant plcF
  have hr : r = r / 4503599627370496 * 4503599627370496 + r % 4503599627370496 := by omega
  generalize hq : r / 4503599627370496 = q at *
  generalize hf : r % 4503599627370496 = f at *
  have hfl : f < 4503599627370496 := by omega
  by_cases hc : f + 1 < 4503599627370496
  · have e1 : (r + 1) / 4503599627370496 = q := by omega
    have e2 : (r + 1) % 4503599627370496 = f + 1 := by omega
    rw [e1, e2]
    have hp := Nat.two_pow_pos (max q 1 - 1)
    split <;> exact Nat.mul_lt_mul_of_pos_right (by omega) hp
  · have e1 : (r + 1) / 4503599627370496 = q + 1 := by omega
    have e2 : (r + 1) % 4503599627370496 = 0 := by omega
    rw [e1, e2, if_neg (by omega : ¬ q + 1 = 0), Nat.max_eq_left (by omega : 1 ≤ q + 1), Nat.add_sub_cancel]
    have hp := Nat.two_pow_pos q
    split
    · next h0 => subst h0; simp; omega
    · next h0 =>
      obtain ⟨j, rfl⟩ : ∃ j, q = j + 1 := ⟨q - 1, by omega⟩
      rw [Nat.max_eq_left (by omega), Nat.add_sub_cancel, Nat.pow_succ]
      have hj := Nat.two_pow_pos j
      generalize 2 ^ j = P at *
      have : (4503599627370496 + f) * P < 9007199254740992 * P := Nat.mul_lt_mul_of_pos_right (by omega) hj
      omega
theorem vl_lt {a b : Nat} (h : a < b) : vl a < vl b := by
  induction b with
  | zero => omega
  | succ b ih =>
    rcases Nat.lt_or_ge a b with h1 | h1
    · exact Nat.lt_trans (ih h1) (vl_succ b)
    · have : a = b := by omega
      subst this; exact vl_succ a
theorem vl_lt_iff {a b : Nat} : vl a < vl b ↔ a < b := by
  refine ⟨fun h => ?_, vl_lt⟩
  rcases Nat.lt_trichotomy a b with h1 | h1 | h1
  · exact h1
  · subst h1; omega
  · have := vl_lt h1; omega
theorem vl_le_iff {a b : Nat} : vl a ≤ vl b ↔ a ≤ b := by
  rw [← Nat.not_lt, ← Nat.not_lt, vl_lt_iff]

theorem cmp_scale {a b : Int} {c : Int} (hc : 0 < c) : compare (a * c) (b * c) = compare a b := by
  simp only [compare, compareOfLessAndEq]
  have h1 : a * c < b * c ↔ a < b := Int.mul_lt_mul_right hc
  have h2 : a * c = b * c ↔ a = b := ⟨fun h => Int.eq_of_mul_eq_mul_right (by omega) h, fun h => by rw [h]⟩
  simp only [h1, h2]
theorem signed_eq (s : Bool) (m n : Nat) : Ieee.signed s m n = (if s then -((m * 2 ^ n : Nat) : Int) else ((m * 2 ^ n : Nat) : Int)) := by
  unfold Ieee.signed; rw [Nat.shiftLeft_eq]
theorem order_fin {a b : Nat} (ha : rung a < 9218868437227405312) (hb : rung b < 9218868437227405312) : Ieee.double.order a b = some (compare (sv a) (sv b)) := by
  unfold Ieee.Format.order
  rw [read_fin ha, read_fin hb]
  simp only [Ieee.Datum.order]
  congr 1
  rw [signed_eq, signed_eq]
  generalize hp : plcF (rung a) = p
  generalize hq : plcF (rung b) = q
  have e1 : ((-1074 + (p : Int)) - min (-1074 + (p : Int)) (-1074 + (q : Int))).toNat = p - min p q := by omega
  have e2 : ((-1074 + (q : Int)) - min (-1074 + (p : Int)) (-1074 + (q : Int))).toNat = q - min p q := by omega
  rw [e1, e2]
  have hc : (0 : Int) < ((2 ^ min p q : Nat) : Int) := by have := Nat.two_pow_pos (min p q); omega
  rw [← cmp_scale (c := ((2 ^ min p q : Nat) : Int)) hc]
  have h1 : mant (rung a) * 2 ^ (p - min p q) * 2 ^ min p q = vl (rung a) := by
    unfold vl; rw [hp, Nat.mul_assoc, ← Nat.pow_add, Nat.sub_add_cancel (Nat.min_le_left _ _)]
  have h2 : mant (rung b) * 2 ^ (q - min p q) * 2 ^ min p q = vl (rung b) := by
    unfold vl; rw [hq, Nat.mul_assoc, ← Nat.pow_add, Nat.sub_add_cancel (Nat.min_le_right _ _)]
  unfold sv
  congr 1
  · split
    · rw [Int.neg_mul, ← Int.natCast_mul, h1]
    · rw [← Int.natCast_mul, h1]
  · split
    · rw [Int.neg_mul, ← Int.natCast_mul, h2]
    · rw [← Int.natCast_mul, h2]

theorem cmp_lt {a b : Int} : (some (compare a b) == some Ordering.lt) = decide (a < b) := by
  simp only [compare, compareOfLessAndEq]
  split
  · next h => simp [h]
  · next h => split <;> simp [h]
theorem cmp_gt {a b : Int} : (some (compare a b) == some Ordering.gt) = decide (b < a) := by
  simp only [compare, compareOfLessAndEq]
  split
  · next h => simp; omega
  · next h =>
    split
    · next h2 => simp; omega
    · next h2 => simp; omega
theorem cmp_eq {a b : Int} : (some (compare a b) == some Ordering.eq) = decide (a = b) := by
  simp only [compare, compareOfLessAndEq]
  split
  · next h => simp; omega
  · next h => split <;> simp_all
theorem fLt_fin {a b : Nat} (ha : rung a < 9218868437227405312) (hb : rung b < 9218868437227405312) : fLt a b = decide (sv a < sv b) := by unfold fLt; rw [order_fin ha hb, cmp_lt]
theorem fGt_fin {a b : Nat} (ha : rung a < 9218868437227405312) (hb : rung b < 9218868437227405312) : fGt a b = decide (sv b < sv a) := by unfold fGt; rw [order_fin ha hb, cmp_gt]
theorem fLe_fin {a b : Nat} (ha : rung a < 9218868437227405312) (hb : rung b < 9218868437227405312) : fLe a b = decide (sv a ≤ sv b) := by
  unfold fLe; rw [order_fin ha hb, cmp_lt, cmp_eq, Bool.eq_iff_iff]; simp; omega
theorem fGe_fin {a b : Nat} (ha : rung a < 9218868437227405312) (hb : rung b < 9218868437227405312) : fGe a b = decide (sv b ≤ sv a) := by
  unfold fGe; rw [order_fin ha hb, cmp_gt, cmp_eq, Bool.eq_iff_iff]; simp; omega
theorem order_inf {a b : Nat} (ha : rung a = 9218868437227405312) (hb : rung b < 9218868437227405312) : Ieee.double.order a b = some (if sgn a then .lt else .gt) := by
  unfold Ieee.Format.order; rw [read_inf ha, read_fin hb]; rfl
theorem order_nan {a b : Nat} (ha : 9218868437227405312 < rung a) : Ieee.double.order a b = none := by
  unfold Ieee.Format.order
  obtain ⟨f, h⟩ := read_nan ha
  rw [h]; cases Ieee.double.read b <;> rfl
/-- Is it no number? -/
theorem fNe_self (b : Nat) : fNe b b = decide (9218868437227405312 < rung b) := by
  unfold fNe
  rcases Nat.lt_trichotomy (rung b) 9218868437227405312 with h | h | h
  · rw [order_fin h h, show compare (sv b) (sv b) = .eq by simp [compare, compareOfLessAndEq]]
    simp; omega
  · unfold Ieee.Format.order; rw [read_inf h]
    simp only [Ieee.Datum.order, show compare (sgn b).toNat (sgn b).toNat = .eq by simp [compare, compareOfLessAndEq]]
    simp; omega
  · rw [order_nan h]; simp [h]

/-! the bounds of the earth -/
theorem rung_lt (b : Nat) : rung b < 9223372036854775808 := Nat.mod_lt _ (by decide)
theorem fGt_pos {r c : Nat} (hc : c < 9218868437227405312) (h : r ≤ 9218868437227405312) : fGt r c = decide (c < r) := by
  have hr : rung r = r := Nat.mod_eq_of_lt (by omega)
  have hs : sgn r = false := by unfold sgn; rw [Nat.div_eq_of_lt (by omega)]; rfl
  have hr2 : rung c = c := Nat.mod_eq_of_lt (by omega)
  have hs2 : sgn c = false := by unfold sgn; rw [Nat.div_eq_of_lt (by omega)]; rfl
  rcases Nat.lt_or_ge r 9218868437227405312 with h1 | h1
  · rw [fGt_fin (by rw [hr]; exact h1) (by rw [hr2]; exact hc), Bool.eq_iff_iff]
    unfold sv; rw [hs, hr, hs2, hr2]
    simp only [Bool.false_eq_true, if_false, decide_eq_true_iff, Int.ofNat_lt, vl_lt_iff]
  · have e : r = 9218868437227405312 := by omega
    unfold fGt
    rw [order_inf (by rw [hr]; exact e) (by rw [hr2]; exact hc), hs]
    simp; omega
theorem vl_0 : vl 0 = 0 := rfl
theorem fEq_0 {b : Nat} (h : rung b < 9218868437227405312) : fEq b 0 = decide (rung b = 0) := by
  unfold fEq
  rw [order_fin h (by decide), cmp_eq, Bool.eq_iff_iff, show sv 0 = 0 from rfl]
  unfold sv
  have h1 := vl_lt_iff (a := 0) (b := rung b)
  rw [vl_0] at h1
  simp only [decide_eq_true_iff]
  cases sgn b
  · simp only [Bool.false_eq_true, if_false]; omega
  · simp only [if_true]; omega
theorem absF_b (f : F64) : (absF f).b.toNat = rung f.b.toNat := by
  show (f.b &&& ~~~9223372036854775808).toNat = _
  rw [show (~~~9223372036854775808 : UInt64) = 9223372036854775807 by decide, UInt64.toNat_and]
  exact Nat.and_two_pow_sub_one_eq_mod f.b.toNat 63
theorem negF_eq (f : F64) : negF f = decide (9223372036854775808 ≤ f.b.toNat) := by
  have := f.b.toNat_lt
  unfold negF; rw [wrapI64, Bool.eq_iff_iff]; simp only [decide_eq_true_iff]; omega
/-- What no place on earth is. -/
def oddB (x m : F64) : Bool := (fNe x.b.toNat x.b.toNat || fGt (absF x).b.toNat m.b.toNat) || (fEq x.b.toNat 0 && negF x)
theorem oddB_eq (x m : F64) (hm : m.b.toNat < 9218868437227405312) : oddB x m = (decide (m.b.toNat < rung x.b.toNat) || decide (x.b.toNat = 9223372036854775808)) := by
  have hx := x.b.toNat_lt
  unfold oddB
  rw [fNe_self, absF_b, negF_eq]
  rcases Nat.lt_or_ge 9218868437227405312 (rung x.b.toNat) with h | h
  · have h1 : m.b.toNat < rung x.b.toNat := by omega
    simp [h, h1]
  · rw [fGt_pos hm h]
    rcases Nat.lt_or_ge (rung x.b.toNat) 9218868437227405312 with h2 | h2
    · rw [fEq_0 h2, Bool.eq_iff_iff]
      simp only [Bool.or_eq_true, Bool.and_eq_true, decide_eq_true_eq]
      unfold rung at *; omega
    · have h1 : m.b.toNat < rung x.b.toNat := by omega
      simp [h1]
/-- A whole number as a float's bits. -/
def wholeV (n : UInt64) : UInt64 :=
  if n = 0 then 0 else if 52 < (UInt64.ofNat (Nat.log2 n.toNat)).toNat then shlU64 (1023 + UInt64.ofNat (Nat.log2 n.toNat)) 52
  else shlU64 (1023 + UInt64.ofNat (Nat.log2 n.toNat)) 52 + shlU64 n (52 - UInt64.ofNat (Nat.log2 n.toNat)).toNat - 4503599627370496
def floatV (b m : UInt64) : Int := if 9218868437227405312 ≤ (b % 9223372036854775808).toNat ∨ b = 9223372036854775808 then 84 else if (wholeV m).toNat < (b % 9223372036854775808).toNat then 83 else 0
theorem onEarth_eq (f : F64) (m : UInt64) (hm : (wholeV m).toNat < 9218868437227405312) : decide (floatV f.b m = 0) = !oddB f ⟨wholeV m⟩ := by
  have ho := oddB_eq f ⟨wholeV m⟩ hm
  rw [ho]
  have hs : (f.b % 9223372036854775808).toNat = rung f.b.toNat := by rw [UInt64.toNat_mod]; rfl
  have hz : f.b = 9223372036854775808 ↔ f.b.toNat = 9223372036854775808 := by rw [← UInt64.toNat_inj]; rfl
  unfold floatV
  rw [hs, Bool.eq_iff_iff]
  simp only [hz]
  simp only [decide_eq_true_eq, Bool.not_eq_true', Bool.or_eq_false_iff, decide_eq_false_iff_not]
  split
  · constructor
    · intro h; omega
    · rintro ⟨h1, h2⟩; omega
  · split
    · constructor
      · intro h; omega
      · rintro ⟨h1, h2⟩; omega
    · constructor
      · intro _; omega
      · intro _; rfl
theorem whole_90 : wholeV 90 = 4636033603912859648 := by decide +kernel
theorem whole_180 : wholeV 180 = 4640537203540230144 := by decide +kernel
theorem log2_unique {n p : Nat} (h1 : 1 ≤ n / 2 ^ p) (h2 : n / 2 ^ p ≤ 1) : Nat.log2 n = p := by
  have h3 : 0 < 2 ^ p := Nat.two_pow_pos p
  have h4 : 2 ^ p ≤ n := by
    rcases Nat.lt_or_ge n (2 ^ p) with h | h
    · rw [Nat.div_eq_of_lt h] at h1; omega
    · exact h
  have h5 : n < 2 ^ (p + 1) := by
    rw [Nat.pow_succ]
    have h6 := Nat.lt_mul_div_succ n h3
    have h7 : n / 2 ^ p = 1 := by omega
    rw [h7] at h6
    generalize 2 ^ p = q at *; omega
  exact (Nat.log2_eq_iff (by omega)).2 ⟨h4, h5⟩
end Go.PW
