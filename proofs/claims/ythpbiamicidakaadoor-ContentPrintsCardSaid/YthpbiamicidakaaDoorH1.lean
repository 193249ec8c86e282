/- Digits of numbers. No condition. -/
import Derived.Test.YthpbiamicidakaaDoorEz
namespace Go.PW
open Go

/-- A digit's sign. -/
def dch (n : Nat) : UInt8 := if n < 10 then UInt8.ofNat (48 + n) else UInt8.ofNat (87 + n)
/-- The k lowest digits to a base, the greatest first. -/
def digs (b : Nat) : Nat → Nat → Str
  | 0, _ => []
  | k + 1, n => digs b k (n / b) ++ [dch (n % b)]
/-- How many digits. -/
def ndg (b : Nat) : Nat → Nat → Nat
  | 0, _ => 1
  | f + 1, n => if n < b then 1 else ndg b f (n / b) + 1
/-- A number to a base. -/
def fmtN (b n : Nat) : Str := digs b (ndg b 64 n) n

theorem digs_length (b : Nat) : ∀ k n, (digs b k n).length = k
  | 0, _ => rfl
  | k + 1, n => by simp [digs, digs_length b k]
theorem digs_add (b j : Nat) : ∀ k n, digs b (j + k) n = digs b j (n / b ^ k) ++ digs b k n
  | 0, n => by simp [digs]
  | k + 1, n => by
    show digs b (j + k) (n / b) ++ [dch (n % b)] = _
    rw [digs_add b j k (n / b), Nat.div_div_eq_div_mul, ← Nat.pow_succ']
    simp [digs]
theorem digs_head (b k n : Nat) : digs b (k + 1) n = dch (n / b ^ k % b) :: digs b k n := by
  rw [Nat.add_comm, digs_add]; rfl
theorem ndg_of {b : Nat} (hb : 2 ≤ b) : ∀ {f k n : Nat}, 1 ≤ k → k ≤ f + 1 → n < b ^ k → (k = 1 ∨ b ^ (k - 1) ≤ n) → ndg b f n = k
  | 0, k, n, h1, h2, _, _ => by simp [ndg]; omega
  | f + 1, k, n, h1, h2, h3, h4 => by
    unfold ndg
    by_cases hn : n < b
    · rw [if_pos hn]
      rcases h4 with h4 | h4
      · exact h4.symm
      · by_cases hk : k = 1
        · exact hk.symm
        · have : b ^ 1 ≤ b ^ (k - 1) := Nat.pow_le_pow_right (by omega) (by omega)
          rw [Nat.pow_one] at this; omega
    · rw [if_neg hn]
      obtain ⟨j, rfl⟩ : ∃ j, k = j + 1 := ⟨k - 1, by omega⟩
      have hj : 1 ≤ j := by
        rcases Nat.eq_zero_or_pos j with h | h
        · subst h; simp at h3; omega
        · exact h
      have h5 : n / b < b ^ j := by
        rw [Nat.div_lt_iff_lt_mul (by omega)]; rw [Nat.pow_succ] at h3; exact h3
      have h6 : j = 1 ∨ b ^ (j - 1) ≤ n / b := by
        rcases h4 with h4 | h4
        · exact .inl (by omega)
        · by_cases hj1 : j = 1
          · exact .inl hj1
          · refine .inr ?_
            rw [Nat.le_div_iff_mul_le (by omega), ← Nat.pow_succ]
            have : (j - 1).succ = j + 1 - 1 := by omega
            rw [this]; exact h4
      rw [ndg_of hb (k := j) hj (by omega) h5 h6]
theorem fmtN_of {b k n : Nat} (hb : 2 ≤ b) (h1 : 1 ≤ k) (h2 : k ≤ 65) (h3 : n < b ^ k) (h4 : k = 1 ∨ b ^ (k - 1) ≤ n) : fmtN b n = digs b k n := by
  unfold fmtN; rw [ndg_of hb h1 h2 h3 h4]
theorem fmtN_small {b n : Nat} (hb : 2 ≤ b) (h : n < b) : fmtN b n = [dch n] := by
  rw [fmtN_of (k := 1) hb (by omega) (by omega) (by rw [Nat.pow_one]; exact h) (.inl rfl)]
  simp [digs, Nat.mod_eq_of_lt h]
theorem ndg_pos (b : Nat) : ∀ f n, 1 ≤ ndg b f n
  | 0, _ => Nat.le_refl _
  | f + 1, n => by unfold ndg; split <;> omega
theorem ndg_le (b : Nat) : ∀ f n, ndg b f n ≤ f + 1
  | 0, _ => Nat.le_refl _
  | f + 1, n => by unfold ndg; have := ndg_le b f (n / b); split <;> omega
theorem fmtN_length (b n : Nat) : 1 ≤ (fmtN b n).length ∧ (fmtN b n).length ≤ 65 := by
  unfold fmtN; rw [digs_length]; exact ⟨ndg_pos _ _ _, ndg_le _ _ _⟩

/-- The digits, one after another. -/
def digitsL : Str := [48, 49, 50, 51, 52, 53, 54, 55, 56, 57, 97, 98, 99, 100, 101, 102, 103, 104, 105, 106, 107, 108, 109, 110, 111, 112, 113, 114, 115, 116, 117, 118, 119, 120, 121, 122]
def hexL : Str := [48, 49, 50, 51, 52, 53, 54, 55, 56, 57, 97, 98, 99, 100, 101, 102]
/-- 00 to 99. -/
def smallsL : Str := [48, 48, 48, 49, 48, 50, 48, 51, 48, 52, 48, 53, 48, 54, 48, 55, 48, 56, 48, 57, 49, 48, 49, 49, 49, 50, 49, 51, 49, 52, 49, 53, 49, 54, 49, 55, 49, 56, 49, 57, 50, 48, 50, 49, 50, 50, 50, 51, 50, 52, 50, 53, 50, 54, 50, 55, 50, 56, 50, 57, 51, 48, 51, 49, 51, 50, 51, 51, 51, 52, 51, 53, 51, 54, 51, 55, 51, 56, 51, 57, 52, 48, 52, 49, 52, 50, 52, 51, 52, 52, 52, 53, 52, 54, 52, 55, 52, 56, 52, 57, 53, 48, 53, 49, 53, 50, 53, 51, 53, 52, 53, 53, 53, 54, 53, 55, 53, 56, 53, 57, 54, 48, 54, 49, 54, 50, 54, 51, 54, 52, 54, 53, 54, 54, 54, 55, 54, 56, 54, 57, 55, 48, 55, 49, 55, 50, 55, 51, 55, 52, 55, 53, 55, 54, 55, 55, 55, 56, 55, 57, 56, 48, 56, 49, 56, 50, 56, 51, 56, 52, 56, 53, 56, 54, 56, 55, 56, 56, 56, 57, 57, 48, 57, 49, 57, 50, 57, 51, 57, 52, 57, 53, 57, 54, 57, 55, 57, 56, 57, 57]
theorem digitsL_at : ∀ k, k < 36 → digitsL.getD k 0 = dch k := by decide
theorem hexL_at : ∀ k, k < 16 → hexL.getD k 0 = dch k := by decide
theorem smallsL_at : ∀ k, k < 100 → smallsL.getD (2 * k) 0 = dch (k / 10) ∧ smallsL.getD (2 * k + 1) 0 = dch (k % 10) := by decide +kernel
theorem smallsL_length : smallsL.length = 200 := by decide +kernel
theorem small_one : ∀ k, k < 10 → (digitsL.drop k).take 1 = fmtN 10 k := by decide
theorem small_two : ∀ k, k < 100 → 10 ≤ k → (smallsL.drop (2 * k)).take 2 = fmtN 10 k := by decide +kernel
end Go.PW
