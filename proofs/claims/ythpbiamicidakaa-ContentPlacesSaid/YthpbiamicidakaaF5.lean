/- The document's way to steps comes to the same. No condition. -/
import Derived.Test.YthpbiamicidakaaF4
namespace Go.Proofs.Ythpbiamicidakaa
open Go Go.PW

theorem ref_e (b : UInt64) : (shrU64 b 52 % 2048).toNat = rung b.toNat / 4503599627370496 := by
  rw [UInt64.toNat_mod, shrU64_toNat, show (2048 : UInt64).toNat = 2048 from rfl, show (2 : Nat) ^ 52 = 4503599627370496 from rfl]
  unfold rung; have := b.toNat_lt; omega
theorem ref_off0 {b : Nat} {e : Nat} (he : e = rung b / 4503599627370496) (h : e = 2047) : 4640537203540230144 < rung b := by omega
theorem ref_off1 {b : Nat} (h0 : rung b < 9218868437227405312) (h : fLt b 13863909240395005952 = true) : 4640537203540230144 < rung b := by
  rw [fLt_n180 h0] at h; simp only [Bool.and_eq_true, decide_eq_true_iff] at h; exact h.2
theorem ref_off2 {b : Nat} (h0 : rung b < 9218868437227405312) (h : fGt b 4640537203540230144 = true) : 4640537203540230144 < rung b := by
  rw [fGt_p180 h0] at h; simp only [Bool.and_eq_true, decide_eq_true_iff] at h; exact h.2
theorem ref_on {b : Nat} (h0 : rung b < 9218868437227405312) (h1 : fLt b 13863909240395005952 = false) (h : fGt b 4640537203540230144 = false) : rung b ≤ 4640537203540230144 := by
  rw [fLt_n180 h0] at h1; rw [fGt_p180 h0] at h
  cases hs : sgn b <;> rw [hs] at h h1 <;> simp at h h1 <;> assumption
theorem mod52 (b : UInt64) : (b % 4503599627370496).toNat = rung b.toNat % 4503599627370496 := by
  rw [UInt64.toNat_mod, show (4503599627370496 : UInt64).toNat = 4503599627370496 from rfl]; unfold rung; omega
theorem ref_m0 {b : UInt64} (h : rung b.toNat / 4503599627370496 = 0) : (b % 4503599627370496).toNat = mant (rung b.toNat) := by
  rw [mod52]; unfold mant; rw [if_pos h]
theorem ref_m1 {b : UInt64} (h : ¬ rung b.toNat / 4503599627370496 = 0) : (b % 4503599627370496 + 4503599627370496).toNat = mant (rung b.toNat) := by
  rw [UInt64.toNat_add, mod52, show (4503599627370496 : UInt64).toNat = 4503599627370496 from rfl]; unfold mant; rw [if_neg h]; omega
theorem ofInt_k {k : Nat} (h1 : 26 ≤ k) (h2 : k < 86) : ((UInt64.ofInt ((k : Int) - 26)).toNat : Int) = ((k - 26 : Nat) : Int) := by
  show (((UInt64.ofNat (((k : Int) - 26) % 2 ^ 64).toNat).toNat : Nat) : Int) = _
  rw [UInt64.toNat_ofNat']; omega
theorem ref_parts {m : UInt64} (h : m.toNat < 9007199254740992) : (shrU64 m 26 * 10000000 + shrU64 (m % 67108864 * 10000000) 26).toNat = m.toNat * 10000000 / 67108864 ∧ (m % 67108864 * 10000000 % 67108864).toNat = m.toNat * 10000000 % 67108864 := by
  rw [UInt64.toNat_add, UInt64.toNat_mul, shrU64_toNat, shrU64_toNat, UInt64.toNat_mod (m % 67108864 * 10000000), UInt64.toNat_mul, UInt64.toNat_mod, show (67108864 : UInt64).toNat = 67108864 from rfl, show (10000000 : UInt64).toNat = 10000000 from rfl, show (2 : Nat) ^ 26 = 67108864 from rfl]
  have hA : m.toNat / 67108864 < 134217728 := by omega
  have hB : m.toNat % 67108864 < 67108864 := by omega
  have hm : m.toNat = m.toNat / 67108864 * 67108864 + m.toNat % 67108864 := by omega
  generalize m.toNat / 67108864 = A at *
  generalize m.toNat % 67108864 = B at *
  rw [hm, Nat.mod_eq_of_lt (show A * 10000000 < 2 ^ 64 by omega), Nat.mod_eq_of_lt (show B * 10000000 < 2 ^ 64 by omega), Nat.mod_eq_of_lt (show A * 10000000 + B * 10000000 / 67108864 < 2 ^ 64 by omega)]
  omega
theorem unit_ne {u : UInt64} {j : Nat} (h : u.toNat = 2 ^ j) : u ≠ 0 := fun e => by
  subst e; have := Nat.two_pow_pos j; rw [← h] at this; exact absurd this (by decide)
theorem quo_k {hi u : UInt64} {M k : Nat} (h1 : hi.toNat = M / 67108864) (h2 : u.toNat = 2 ^ (k - 26)) (hk : 26 ≤ k) : (hi / u).toNat = M / 2 ^ k := by
  have e : 2 ^ k = 67108864 * 2 ^ (k - 26) := by rw [show (67108864 : Nat) = 2 ^ 26 from rfl, ← Nat.pow_add]; congr 1; omega
  rw [UInt64.toNat_div, h1, h2, e, Nat.div_div_eq_div_mul]
/-- What is left, in two parts. -/
theorem rem_k {hi lo u : UInt64} {M k : Nat} (h1 : hi.toNat = M / 67108864) (h3 : lo.toNat = M % 67108864) (h2 : u.toNat = 2 ^ (k - 26)) (hk : 27 ≤ k) :
    (hi % u).toNat * 67108864 + lo.toNat = M % 2 ^ k ∧ u.toNat = 2 * 2 ^ (k - 27) ∧ (u / 2).toNat = 2 ^ (k - 27) ∧ 2 ^ (k - 1) = 2 ^ (k - 27) * 67108864 := by
  have e : 2 ^ k = 67108864 * 2 ^ (k - 26) := by rw [show (67108864 : Nat) = 2 ^ 26 from rfl, ← Nat.pow_add]; congr 1; omega
  have e2 : 2 ^ (k - 26) = 2 * 2 ^ (k - 27) := by rw [Nat.mul_comm, ← Nat.pow_succ]; congr 1; omega
  refine ⟨?_, h2.trans e2, ?_, ?_⟩
  · rw [UInt64.toNat_mod, h1, h2, h3, e, Nat.mod_mul]; omega
  · rw [UInt64.toNat_div, h2, e2, show (2 : UInt64).toNat = 2 from rfl]; omega
  · rw [show (67108864 : Nat) = 2 ^ 26 from rfl, ← Nat.pow_add]; congr 1; omega
theorem ref_rhe {r k M : Nat} {q rs lo H : Nat} (hk : k = shf r) (h45 : 45 ≤ k) (hM : M = mant r * 10000000) (hq : q = M / 2 ^ k) (hr : rs * 67108864 + lo = M % 2 ^ k) (hl : lo < 67108864) (hH : 2 ^ (k - 1) = H * 67108864) :
    rheN r = q + (if (H < rs ∨ (rs = H ∧ 0 < lo)) ∨ (rs = H ∧ lo = 0 ∧ q % 2 = 1) then 1 else 0) := by
  have e2 : 2 * 2 ^ (k - 1) = 2 ^ k := by rw [Nat.mul_comm, ← Nat.pow_succ]; congr 1; omega
  rw [rheN_eq r (by omega), ← hM, ← hk]
  unfold rhe
  rw [e2, ← hq, ← hr, hH]
  congr 1
  have : (H * 67108864 < rs * 67108864 + lo ∨ (rs * 67108864 + lo = H * 67108864 ∧ q % 2 = 1)) ↔ ((H < rs ∨ (rs = H ∧ 0 < lo)) ∨ (rs = H ∧ lo = 0 ∧ q % 2 = 1)) := by omega
  simp only [this]
theorem ref_inc {q rs lo u : UInt64} {H R : Nat} {ab : Bool} (hrh : R = q.toNat + (if (H < rs.toNat ∨ (rs.toNat = H ∧ 0 < lo.toNat)) ∨ (rs.toNat = H ∧ lo.toNat = 0 ∧ q.toNat % 2 = 1) then 1 else 0)) (hb : R ≤ 1800000000) (hu : (u / 2).toNat = H)
    (hab : ab = true ↔ (H < rs.toNat ∨ (rs.toNat = H ∧ 0 < lo.toNat))) :
    (ab = true → (q + 1).toNat = R) ∧ (ab = false → rs = u / 2 → lo = 0 → q % 2 = 1 → (q + 1).toNat = R) ∧ (ab = false → ¬ rs = u / 2 → q.toNat = R) ∧ (ab = false → rs = u / 2 → ¬ lo = 0 → q.toNat = R) ∧ (ab = false → rs = u / 2 → lo = 0 → ¬ q % 2 = 1 → q.toNat = R) := by
  have hE : (rs = u / 2) ↔ rs.toNat = H := by rw [← UInt64.toNat_inj, hu]
  have hE0 : (lo = 0) ↔ lo.toNat = 0 := by rw [← UInt64.toNat_inj]; rfl
  have hE1 : (q % 2 = 1) ↔ q.toNat % 2 = 1 := by rw [← UInt64.toNat_inj, UInt64.toNat_mod]; rfl
  have hq : q.toNat ≤ 1800000000 := by omega
  have e1 : (q + 1).toNat = q.toNat + 1 := by
    rw [UInt64.toNat_add]; show (q.toNat + 1) % 18446744073709551616 = q.toNat + 1; omega
  have hF : ab = false ↔ ¬ (H < rs.toNat ∨ (rs.toNat = H ∧ 0 < lo.toNat)) := by rw [← hab]; simp
  rw [hE, hE0, hE1, e1, hab, hF]
  refine ⟨fun h => ?_, fun h1 h2 h3 h4 => ?_, fun h1 h2 => ?_, fun h1 h2 h3 => ?_, fun h1 h2 h3 h4 => ?_⟩
  · rw [hrh, if_pos (.inl h)]
  · rw [hrh, if_pos (.inr ⟨h2, h3, h4⟩)]
  · rw [hrh, if_neg (fun h => h.elim h1 fun h => h2 h.1)]; rfl
  · rw [hrh, if_neg (fun h => h.elim h1 fun h => h3 h.2.1)]; rfl
  · rw [hrh, if_neg (fun h => h.elim h1 fun h => h4 h.2.2)]; rfl
theorem ref_zero {r : Nat} {m : UInt64} (hm : m.toNat = mant r) (h53 : m.toNat < 9007199254740992) (hk : 86 ≤ shf r) : rheN r = 0 := by
  have h2 : (2 : Nat) ^ 85 ≤ 2 ^ (shf r - 1) := Nat.pow_le_pow_right (by decide) (by omega)
  rw [rheN_eq r (by omega), ← hm]
  unfold rhe
  rw [Nat.div_eq_of_lt (by omega), Nat.mod_eq_of_lt (by omega), if_neg (by omega)]
theorem sgn_63 {b : UInt64} : (shrU64 b 63 = 1) ↔ sgn b.toNat = true := by
  rw [← UInt64.toNat_inj, shrU64_toNat, show (1 : UInt64).toNat = 1 from rfl, show (2 : Nat) ^ 63 = 9223372036854775808 from rfl]
  unfold sgn; rw [beq_iff_eq]; have := b.toNat_lt; omega
end Go.Proofs.Ythpbiamicidakaa
