/- The steps of the degrees of a number of steps are that number. No condition. -/
import Derived.Test.YthpbiamicidakaaF3
namespace Go.Proofs.Ythpbiamicidakaa
open Go Go.PW

theorem rhe_near {x h N : Nat} (h1 : N * (2 * h) < x + h) (h2 : x < N * (2 * h) + h) : rhe x h = N := by
  unfold rhe
  have hh : 0 < h := by omega
  rcases Nat.lt_or_ge x (N * (2 * h)) with h3 | h3
  · obtain ⟨M, rfl⟩ : ∃ M, N = M + 1 := ⟨N - 1, by
      have : N ≠ 0 := fun e => by subst e; omega
      omega⟩
    have e : x = (x - M * (2 * h)) + M * (2 * h) := by rw [Nat.add_mul] at *; omega
    have hl : x - M * (2 * h) < 2 * h := by rw [Nat.add_mul] at *; omega
    have hg : h < x - M * (2 * h) := by rw [Nat.add_mul] at *; omega
    have e1 : x / (2 * h) = M := by rw [e, Nat.add_mul_div_right _ _ (by omega), Nat.div_eq_of_lt hl]; omega
    have e2 : x % (2 * h) = x - M * (2 * h) := by conv => lhs; rw [e, Nat.add_mul_mod_self_right, Nat.mod_eq_of_lt hl]
    rw [e1, e2, if_pos (.inl hg)]
  · have e : x = (x - N * (2 * h)) + N * (2 * h) := by omega
    have hl : x - N * (2 * h) < 2 * h := by omega
    have e1 : x / (2 * h) = N := by rw [e, Nat.add_mul_div_right _ _ (by omega), Nat.div_eq_of_lt hl]; omega
    have e2 : x % (2 * h) = x - N * (2 * h) := by conv => lhs; rw [e, Nat.add_mul_mod_self_right, Nat.mod_eq_of_lt hl]
    rw [e1, e2, if_neg (by omega)]; omega

/-- What is kept of a quotient. -/
def kp (g Z : Nat) : Nat := qm Z / g + (if g < 2 * (qm Z % g) ∨ (g = 2 * (qm Z % g) ∧ qm Z / g % 2 = 1) then 1 else 0)
theorem cut_eq (s : Bool) (Z g drop : Nat) (hd : 1 <<< min drop ((qm Z).log2 + 2) = g) : Ieee.Toward.even.cut s (qm Z) drop = kp g Z := by
  unfold Ieee.Toward.cut kp
  simp only [hd]
  congr 1
  by_cases h : g < 2 * (qm Z % g) ∨ (g = 2 * (qm Z % g) ∧ qm Z / g % 2 = 1)
  · rw [if_pos h]
    have : (decide (g < 2 * (qm Z % g)) || g == 2 * (qm Z % g) && qm Z / g % 2 == 1) = true := by simpa using h
    rw [this]; rfl
  · rw [if_neg h]
    have : (decide (g < 2 * (qm Z % g)) || g == 2 * (qm Z % g) && qm Z / g % 2 == 1) = false := by
      rw [← Bool.not_eq_true]; simpa using h
    rw [this]; rfl
theorem kp_4 {Z E : Nat} (h : 2 * Z = E * 4) : E ≤ kp 4 Z * 10000000 + 7500000 ∧ kp 4 Z * 10000000 ≤ E + 7500000 := by
  unfold kp qm; split <;> split <;> omega
theorem kp_8 {Z E : Nat} (h : 2 * Z = E * 8) : E ≤ kp 8 Z * 10000000 + 7500000 ∧ kp 8 Z * 10000000 ≤ E + 7500000 := by
  unfold kp qm; split <;> split <;> omega

theorem back_core {N L lg t d kk rg : Nat} (hN : N ≤ 1800000000) (hL : L ≤ 31) (hlg : lg = 54 ∨ lg = 55) (ht : t = L + lg + 944) (hd : d = 130 - L - lg) (hk1 : 4503599627370496 ≤ kk) (hk2 : kk ≤ 9007199254740992)
    (hb1 : N * 2 ^ d ≤ kk * 10000000 + 7500000) (hb2 : kk * 10000000 ≤ N * 2 ^ d + 7500000) (hr : rg = t * 4503599627370496 + kk) : rg ≤ 4640537203540230144 ∧ rheN rg = N := by
  have hle : rg ≤ 4640537203540230144 := by
    rcases Nat.lt_trichotomy t 1029 with h | h | h
    · omega
    · have : d = 45 := by omega
      subst this; omega
    · have hd2 : d ≤ 44 := by omega
      have hp : 2 ^ d ≤ 2 ^ 44 := Nat.pow_le_pow_right (by decide) hd2
      have := Nat.mul_le_mul hN hp
      omega
  refine ⟨hle, ?_⟩
  have hd1 : 44 ≤ d := by omega
  have hdt : d - 1 + t = HDe := by rw [HDe_eq]; omega
  have e2 : 2 * 2 ^ (d - 1) = 2 ^ d := by rw [Nat.mul_comm, ← Nat.pow_succ]; congr 1; omega
  have hp : 2 ^ 43 ≤ 2 ^ (d - 1) := Nat.pow_le_pow_right (by decide) (by omega)
  rw [rheN_vl hle, hr, vl_parts hk1 hk2, ← HD_of hdt, Nat.mul_right_comm, rhe_scale _ _ _ (Nat.two_pow_pos t)]
  refine rhe_near ?_ ?_
  · rw [e2]; omega
  · rw [e2]; omega

theorem back_pos {s : Bool} {N : Nat} (h0 : 0 < N) (h1 : N ≤ 1800000000) : ∃ rg, Ieee.double.nearest s (qm (N * 2 ^ (77 - N.log2))) ((N.log2 : Int) - 78) = Ieee.double.word s rg ∧ rg ≤ 4640537203540230144 ∧ rheN rg = N := by
  have hL : N.log2 ≤ 31 := log2_le h0 (by omega)
  have hb := log2_bd h0
  generalize hl : N.log2 = L at *
  have z1 : 151115727451828646838272 ≤ N * 2 ^ (77 - L) := by
    have h2 : 2 ^ L * 2 ^ (77 - L) = 151115727451828646838272 := by rw [← Nat.pow_add, show L + (77 - L) = 77 by omega]
    rw [← h2]; exact Nat.mul_le_mul_right _ hb.1
  have z2 : N * 2 ^ (77 - L) < 302231454903657293676544 := by
    have h2 : 2 ^ (L + 1) * 2 ^ (77 - L) = 302231454903657293676544 := by rw [← Nat.pow_add, show L + 1 + (77 - L) = 78 by omega]
    rw [← h2]; exact Nat.mul_lt_mul_of_pos_right hb.2 (Nat.two_pow_pos _)
  generalize hZ : N * 2 ^ (77 - L) = Z at *
  have q1 : 18014398509481984 ≤ qm Z := by unfold qm; split <;> omega
  have q2 : qm Z < 72057594037927936 := by unfold qm; split <;> omega
  have lg1 : 54 ≤ (qm Z).log2 := le_log2 (by omega)
  have lg2 : (qm Z).log2 ≤ 55 := log2_le (by omega) (by omega)
  have hqb := log2_bd (n := qm Z) (by omega)
  have hE : ∀ g j : Nat, j ≤ 47 → 2 ^ j = g → 2 * Z = N * 2 ^ (78 - L - j) * g := fun g j hj hg => by
    rw [← hZ, ← hg, Nat.mul_assoc N, ← Nat.pow_add, show 78 - L - j + j = (77 - L) + 1 by omega, Nat.pow_succ, Nat.mul_comm 2, Nat.mul_assoc]
  have key : ∀ lg g : Nat, (qm Z).log2 = lg → (lg = 54 ∨ lg = 55) → 2 ^ (lg - 52) = g → 1 <<< min (lg - 52) (lg + 2) = g →
      Ieee.double.nearest s (qm Z) ((L : Int) - 78) = Ieee.double.word s (min ((L + lg + 944) * 4503599627370496 + kp g Z) 9218868437227405312) := by
    intro lg g hlg hc hg hs
    unfold Ieee.Format.nearest
    rw [if_neg (by omega), show Ieee.double.leastPlace = -1074 from rfl, show Ieee.double.binade = 4503599627370496 from rfl, show Ieee.double.infRung = 9218868437227405312 from rfl, show Ieee.double.fractionBits = 52 from rfl, hlg]
    dsimp only
    have e1 : max (((L : Int) - 78) + (lg : Int) - (52 : Nat)) (-1074) = (L : Int) + lg - 130 := by omega
    rw [e1, show (((L : Int) - 78) - ((L : Int) + lg - 130)).toNat = 0 by omega, show ((L : Int) + lg - 130 - ((L : Int) - 78)).toNat = lg - 52 by omega, show ((L : Int) + lg - 130 - -1074).toNat = L + lg + 944 by omega, Nat.shiftLeft_zero, cut_eq s Z g (lg - 52) (by rw [hlg]; exact hs)]
  rcases (show (qm Z).log2 = 54 ∨ (qm Z).log2 = 55 by omega) with h | h
  · rw [h] at hqb
    have hk := kp_4 (hE 4 2 (by omega) rfl)
    have hk1 : 4503599627370496 ≤ kp 4 Z := by unfold kp; omega
    have hk2 : kp 4 Z ≤ 9007199254740992 := by unfold kp; split <;> omega
    have hm : min ((L + 54 + 944) * 4503599627370496 + kp 4 Z) 9218868437227405312 = (L + 54 + 944) * 4503599627370496 + kp 4 Z := Nat.min_eq_left (by omega)
    refine ⟨(L + 54 + 944) * 4503599627370496 + kp 4 Z, ?_, ?_⟩
    · rw [key 54 4 h (.inl rfl) rfl rfl, hm]
    · exact back_core (d := 78 - L - 2) h1 hL (.inl rfl) rfl (by omega) hk1 hk2 hk.1 hk.2 rfl
  · rw [h] at hqb
    have hk := kp_8 (hE 8 3 (by omega) rfl)
    have hk1 : 4503599627370496 ≤ kp 8 Z := by unfold kp; omega
    have hk2 : kp 8 Z ≤ 9007199254740992 := by unfold kp; split <;> omega
    have hm : min ((L + 55 + 944) * 4503599627370496 + kp 8 Z) 9218868437227405312 = (L + 55 + 944) * 4503599627370496 + kp 8 Z := Nat.min_eq_left (by omega)
    refine ⟨(L + 55 + 944) * 4503599627370496 + kp 8 Z, ?_, ?_⟩
    · rw [key 55 8 h (.inr rfl) rfl rfl, hm]
    · exact back_core (d := 78 - L - 3) h1 hL (.inr rfl) rfl (by omega) hk1 hk2 hk.1 hk.2 rfl

theorem deg_back {n : Int} (h : n.natAbs ≤ 1800000000) : stE (degF n) = 0 ∧ stV (degF n) = n := by
  have hb := deg_b (n := n) (by omega)
  by_cases h0 : n = 0
  · subst h0
    have e : degB 0 = 0 := by unfold degB; rw [div_0 rfl]; rfl
    rw [e] at hb
    unfold stE stV
    rw [hb]
    exact ⟨rfl, by decide +kernel⟩
  · have e : degB n = Ieee.double.nearest (decide (n < 0)) (qm (n.natAbs * 2 ^ (77 - n.natAbs.log2))) ((n.natAbs.log2 : Int) - 78) := by
      unfold degB; rw [div_eq h0 (by omega)]; rfl
    obtain ⟨rg, h1, h2, h3⟩ := back_pos (s := decide (n < 0)) (N := n.natAbs) (by omega) h
    have hw := word_rung (s := decide (n < 0)) (r := rg) (by omega)
    have hr : rung (degF n).b.toNat = rg := by rw [hb, e, h1]; exact hw.1
    have hs : sgn (degF n).b.toNat = decide (n < 0) := by rw [hb, e, h1]; exact hw.2
    have h4 := st_on (f := degF n) (by rw [hr]; exact h2)
    rw [hr, hs, h3] at h4
    refine ⟨h4.1, h4.2.trans ?_⟩
    split <;> simp_all <;> omega
end Go.Proofs.Ythpbiamicidakaa
