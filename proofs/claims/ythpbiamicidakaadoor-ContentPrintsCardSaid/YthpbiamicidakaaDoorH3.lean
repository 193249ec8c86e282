/- How many digits: tables and laws. No condition. -/
import Derived.Test.YthpbiamicidakaaDoorH2
namespace Go.PW
open Enc (enc val)
open Go
/-- How many bits. -/
def blen (n : Nat) : Nat := if n = 0 then 0 else Nat.log2 n + 1
def len8L : Str := [0, 1, 2, 2, 3, 3, 3, 3, 4, 4, 4, 4, 4, 4, 4, 4, 5, 5, 5, 5, 5, 5, 5, 5, 5, 5, 5, 5, 5, 5, 5, 5, 6, 6, 6, 6, 6, 6, 6, 6, 6, 6, 6, 6, 6, 6, 6, 6, 6, 6, 6, 6, 6, 6, 6, 6, 6, 6, 6, 6, 6, 6, 6, 6, 7, 7, 7, 7, 7, 7, 7, 7, 7, 7, 7, 7, 7, 7, 7, 7, 7, 7, 7, 7, 7, 7, 7, 7, 7, 7, 7, 7, 7, 7, 7, 7, 7, 7, 7, 7, 7, 7, 7, 7, 7, 7, 7, 7, 7, 7, 7, 7, 7, 7, 7, 7, 7, 7, 7, 7, 7, 7, 7, 7, 7, 7, 7, 7, 8, 8, 8, 8, 8, 8, 8, 8, 8, 8, 8, 8, 8, 8, 8, 8, 8, 8, 8, 8, 8, 8, 8, 8, 8, 8, 8, 8, 8, 8, 8, 8, 8, 8, 8, 8, 8, 8, 8, 8, 8, 8, 8, 8, 8, 8, 8, 8, 8, 8, 8, 8, 8, 8, 8, 8, 8, 8, 8, 8, 8, 8, 8, 8, 8, 8, 8, 8, 8, 8, 8, 8, 8, 8, 8, 8, 8, 8, 8, 8, 8, 8, 8, 8, 8, 8, 8, 8, 8, 8, 8, 8, 8, 8, 8, 8, 8, 8, 8, 8, 8, 8, 8, 8, 8, 8, 8, 8, 8, 8, 8, 8, 8, 8, 8, 8, 8, 8, 8, 8, 8, 8, 8, 8, 8, 8, 8, 8]
def pow10L : List UInt64 := (List.range 20).map fun k => UInt64.ofNat (10 ^ k)
def dbL : Str := [0, 1, 56, 2, 57, 49, 28, 3, 61, 58, 42, 50, 38, 29, 17, 4, 62, 47, 59, 36, 45, 43, 51, 22, 53, 39, 33, 30, 24, 18, 12, 5, 63, 55, 48, 27, 60, 41, 37, 16, 46, 35, 44, 21, 52, 32, 23, 11, 54, 26, 40, 15, 34, 20, 31, 10, 25, 14, 19, 9, 13, 8, 7, 6]
def tPow10 (b : Nat) : Seg := [(b, .view 0 (encs pow10L))]
def tDb64 (b : Nat) : Seg := [(b, .view 0 (encs dbL))]

theorem blen_bd (n : Nat) : n < 2 ^ blen n ∧ (n = 0 ∨ 2 ^ (blen n - 1) ≤ n) := by
  unfold blen
  by_cases h : n = 0
  · subst h; simp
  · rw [if_neg h]
    exact ⟨Nat.lt_log2_self, .inr (by rw [Nat.add_sub_cancel]; exact Nat.log2_self_le h)⟩
theorem blen_of {n k : Nat} (h1 : n < 2 ^ k) (h2 : k = 0 ∨ 2 ^ (k - 1) ≤ n) : blen n = k := by
  have hb := blen_bd n
  rcases Nat.lt_trichotomy (blen n) k with h | h | h
  · rcases h2 with h2 | h2
    · omega
    · have : 2 ^ blen n ≤ 2 ^ (k - 1) := Nat.pow_le_pow_right (by omega) (by omega)
      omega
  · exact h
  · rcases hb.2 with h3 | h3
    · subst h3; simp [blen] at h
    · have : 2 ^ k ≤ 2 ^ (blen n - 1) := Nat.pow_le_pow_right (by omega) (by omega)
      omega
theorem blen_up (n s : Nat) (h : 1 ≤ n / 2 ^ s) : blen n = s + blen (n / 2 ^ s) := by
  have hb := blen_bd (n / 2 ^ s)
  refine blen_of ?_ (.inr ?_)
  · rw [Nat.pow_add]
    have h1 := hb.1
    rw [Nat.div_lt_iff_lt_mul (Nat.two_pow_pos s)] at h1
    rw [Nat.mul_comm]; exact h1
  · rcases hb.2 with h3 | h3
    · omega
    · have hp : 1 ≤ blen (n / 2 ^ s) := by
        unfold blen; rw [if_neg (by omega)]; omega
      rw [show s + blen (n / 2 ^ s) - 1 = s + (blen (n / 2 ^ s) - 1) by omega, Nat.pow_add]
      rw [Nat.le_div_iff_mul_le (Nat.two_pow_pos s)] at h3
      rw [Nat.mul_comm]; exact h3
theorem len8_at : ∀ k, k < 256 → (len8L.getD k 0).toNat = blen k := by decide +kernel
theorem len8_length : len8L.length = 256 := by decide +kernel
theorem blen_le {n : Nat} (h : n < 18446744073709551616) : blen n ≤ 64 := by
  rcases (blen_bd n).2 with h2 | h2
  · subst h2; simp [blen]
  · refine Nat.le_of_not_lt fun h3 => ?_
    have : 2 ^ 64 ≤ 2 ^ (blen n - 1) := Nat.pow_le_pow_right (by omega) (by omega)
    omega
theorem blen_pos {n : Nat} (h : 1 ≤ n) : 1 ≤ blen n := by unfold blen; rw [if_neg (by omega)]; omega
theorem pow10_at : ∀ k, k < 20 → (pow10L.getD k 0).toNat = 10 ^ k := by decide +kernel
theorem pow10_length : pow10L.length = 20 := by decide
theorem nd_tab : ∀ l, l < 65 → 1 ≤ l → 2 ^ l ≤ 10 ^ (l * 78913 / 262144 + 1) ∧ (l * 78913 / 262144 = 0 ∨ 10 ^ (l * 78913 / 262144 - 1) ≤ 2 ^ (l - 1)) ∧ l * 78913 / 262144 < 20 := by decide +kernel
/-- How many decimal digits: by the bits. -/
theorem nd_law {n : Nat} (h1 : 1 ≤ n) (h2 : n < 18446744073709551616) : (blen n * 78913 / 262144) + (if 10 ^ (blen n * 78913 / 262144) ≤ n then 1 else 0) = ndg 10 64 n := by
  have hl := blen_le h2
  have hp := blen_pos h1
  have hb := blen_bd n
  obtain ⟨t1, t2, t3⟩ := nd_tab (blen n) (by omega) hp
  generalize hP : blen n * 78913 / 262144 = p at *
  symm
  by_cases h : 10 ^ p ≤ n
  · rw [if_pos h]
    exact ndg_of (by omega) (by omega) (by omega) (by omega) (.inr (by rw [Nat.add_sub_cancel]; exact h))
  · rw [if_neg h, Nat.add_zero]
    have hp0 : p ≠ 0 := fun e => by subst e; simp at h; omega
    refine ndg_of (by omega) (by omega) (by omega) (by omega) (.inr ?_)
    rcases t2 with t2 | t2
    · omega
    · rcases hb.2 with h3 | h3 <;> omega

theorem len_p {n m s : Nat} (hm : m % 256 = n / 2 ^ s) (h : s = 0 ∨ 1 ≤ n / 2 ^ s) : (s : Int) + ((blen (m % 256) : Nat) : Int) = ((blen n : Nat) : Int) := by
  rw [hm]
  rcases h with rfl | h
  · simp
  · rw [blen_up n s h]; omega
theorem nd_int {d : UInt64} (hd : 1 ≤ d.toNat) : ((blen d.toNat * 78913 / 262144 : Nat) : Int) + (if decide (((List.getD pow10L (blen d.toNat * 78913 / 262144) 0).toNat : Int) ≤ (d.toNat : Int)) = true then (1 : Int) else 0) = ((ndg 10 64 d.toNat : Nat) : Int) := by
  have hx := d.toNat_lt
  have h1 := nd_law hd (by omega)
  have hl := blen_le (n := d.toNat) (by omega)
  have hp := blen_pos hd
  obtain ⟨_, _, t3⟩ := nd_tab (blen d.toNat) (by omega) hp
  rw [pow10_at _ t3, ← h1]
  by_cases h : 10 ^ (blen d.toNat * 78913 / 262144) ≤ d.toNat
  · rw [if_pos h, if_pos (by rw [decide_eq_true_eq]; exact_mod_cast h)]; omega
  · rw [if_neg h, if_neg (by rw [decide_eq_true_eq]; exact_mod_cast h)]; omega
/-! rows of digits, filled from the end -/
structure FB (N u0 nd : Nat) (ys : Str) (u : Nat) : Prop where
  le : nd ≤ N
  len : ys.length = N
  eq : digs 10 N u0 = digs 10 nd u ++ ys.drop nd
  lt : u < 10 ^ nd
theorem FB.begin {N u0 : Nat} {ys : Str} (hl : ys.length = N) (h : u0 < 10 ^ N) : FB N u0 N ys u0 := ⟨Nat.le_refl _, hl, by rw [List.drop_of_length_le (by omega)]; simp, h⟩
theorem FB.fin {N u0 u : Nat} {ys : Str} (h : FB N u0 0 ys u) : ys = digs 10 N u0 := by rw [h.eq]; simp [digs]
theorem FB.fin0 {N u0 nd u : Nat} {ys : Str} (h : FB N u0 nd ys u) (h0 : nd = 0) : ys = digs 10 N u0 := by subst h0; exact h.fin
theorem set_drop {ys : Str} {k : Nat} {v : UInt8} (h : k < ys.length) : (ys.set k v).drop k = v :: ys.drop (k + 1) := by
  rw [List.drop_eq_getElem_cons (by simpa using h), List.drop_set_of_lt (by omega)]; simp
theorem set_drop_lt {ys : Str} {j k : Nat} {v : UInt8} (h : j < k) : (ys.set j v).drop k = ys.drop k := List.drop_set_of_lt h
/-- One digit more. -/
theorem FB.one {N u0 nd u : Nat} {ys : Str} {c : UInt8} (h : FB N u0 nd ys u) (h1 : 1 ≤ nd) (hc : c = dch (u % 10)) : FB N u0 (nd - 1) (ys.set (nd - 1) c) (u / 10) := by
  obtain ⟨k, rfl⟩ : ∃ k, nd = k + 1 := ⟨nd - 1, by omega⟩
  rw [Nat.add_sub_cancel]
  refine ⟨by have := h.le; omega, by simpa using h.len, ?_, ?_⟩
  · rw [h.eq, set_drop (by have := h.le; have := h.len; omega), hc]
    simp [digs]
  · have := h.lt; rw [Nat.pow_succ] at this; omega
theorem FB.two {N u0 nd u : Nat} {ys : Str} {c d : UInt8} (h : FB N u0 nd ys u) (h1 : 2 ≤ nd) (hc : c = dch (u % 10)) (hd : d = dch (u / 10 % 10)) : FB N u0 (nd - 2) ((ys.set (nd - 1) c).set (nd - 2) d) (u / 100) := by
  have h2 := (h.one (by omega) hc).one (c := d) (by omega) hd
  rw [Nat.div_div_eq_div_mul] at h2
  exact h2
theorem FB.four {N u0 nd u : Nat} {ys : Str} {c0 c1 c2 c3 : UInt8} (h : FB N u0 nd ys u) (h1 : 4 ≤ nd) (e0 : c0 = dch (u % 10)) (e1 : c1 = dch (u / 10 % 10)) (e2 : c2 = dch (u / 100 % 10)) (e3 : c3 = dch (u / 1000 % 10)) :
    FB N u0 (nd - 4) ((((ys.set (nd - 1) c0).set (nd - 2) c1).set (nd - 3) c2).set (nd - 4) c3) (u / 10000) := by
  have h2 := (h.two (by omega) e0 e1).two (c := c2) (d := c3) (by omega) e2 (by rw [Nat.div_div_eq_div_mul]; exact e3)
  rw [Nat.div_div_eq_div_mul] at h2
  exact h2
theorem FB.eight {N u0 nd u : Nat} {ys : Str} {c0 c1 c2 c3 c4 c5 c6 c7 : UInt8} (h : FB N u0 nd ys u) (h1 : 8 ≤ nd) (e0 : c0 = dch (u % 10)) (e1 : c1 = dch (u / 10 % 10)) (e2 : c2 = dch (u / 100 % 10)) (e3 : c3 = dch (u / 1000 % 10))
    (e4 : c4 = dch (u / 10000 % 10)) (e5 : c5 = dch (u / 100000 % 10)) (e6 : c6 = dch (u / 1000000 % 10)) (e7 : c7 = dch (u / 10000000 % 10)) :
    FB N u0 (nd - 8) ((((((((ys.set (nd - 1) c0).set (nd - 2) c1).set (nd - 3) c2).set (nd - 4) c3).set (nd - 5) c4).set (nd - 6) c5).set (nd - 7) c6).set (nd - 8) c7) (u / 100000000) := by
  have h2 := (h.four (by omega) e0 e1 e2 e3).four (c0 := c4) (c1 := c5) (c2 := c6) (c3 := c7) (by omega) e4 (by rw [Nat.div_div_eq_div_mul]; exact e5) (by rw [Nat.div_div_eq_div_mul]; exact e6) (by rw [Nat.div_div_eq_div_mul]; exact e7)
  rw [Nat.div_div_eq_div_mul] at h2
  exact h2
/-- The two digits of a number below a hundred, in the table. -/
theorem sml {x k : Nat} (h : x = 2 * k) (hk : k < 100) : smallsL.getD x 0 = dch (k / 10) := by subst h; exact (smallsL_at k hk).1
theorem smh {x k : Nat} (h : x = 2 * k + 1) (hk : k < 100) : smallsL.getD x 0 = dch (k % 10) := by subst h; exact (smallsL_at k hk).2

theorem sml2 {x k u : Nat} (h : x = 2 * k) (hk : k < 100) (hu : k / 10 = u) : smallsL.getD x 0 = dch u := by subst hu; exact sml h hk
theorem smh2 {x k u : Nat} (h : x = 2 * k + 1) (hk : k < 100) (hu : k % 10 = u) : smallsL.getD x 0 = dch u := by subst hu; exact smh h hk
theorem fb_x {w : UInt64} {nd : Nat} (h : w.toNat < 10 ^ nd) (hn : nd < 8) : (UInt32.ofNat w.toNat).toNat = w.toNat := by
  have : 10 ^ nd ≤ 10 ^ 7 := Nat.pow_le_pow_right (by omega) (by omega)
  rw [UInt32.toNat_ofNat']; omega
theorem dch_small {x : UInt32} {n : Nat} (h : x.toNat = 48 + n) (hn : n < 10) : UInt8.ofNat x.toNat = dch (n % 10) := by
  rw [h, Nat.mod_eq_of_lt hn]; unfold dch; rw [if_pos hn]
/-! digits by shifts -/
structure FX (u0 k : Nat) (a : Arr UInt8 65) (u : Nat) : Prop where
  le : k ≤ 15
  eq : a.l.drop (65 - k) = digs 16 k u0
  u : u = u0 / 16 ^ k
  ge : k = 0 ∨ 16 ^ k ≤ u0
theorem FX.begin (u0 : Nat) (a : Arr UInt8 65) : FX u0 0 a u0 := ⟨by omega, by rw [List.drop_of_length_le (by rw [a.h]; omega)]; rfl, by simp, .inl rfl⟩
theorem FX.put {u0 k : Nat} {a : Arr UInt8 65} {u : Nat} {c : UInt8} (h : FX u0 k a u) (hc : c = dch (u % 16)) : (a.set (64 - k) c).l.drop (64 - k) = digs 16 (k + 1) u0 := by
  have := h.le
  show (a.l.set (64 - k) c).drop (64 - k) = _
  rw [set_drop (by rw [a.h]; omega), show 64 - k + 1 = 65 - k by omega, h.eq, digs_head, hc, h.u]
theorem FX.step {u0 k : Nat} {a : Arr UInt8 65} {u : Nat} {c : UInt8} (h : FX u0 k a u) (h0 : u0 < 18446744073709551616) (hu : 16 ≤ u) (hc : c = dch (u % 16)) : FX u0 (k + 1) (a.set (64 - k) c) (u / 16) := by
  have hge : 16 ^ (k + 1) ≤ u0 := by
    have h1 := h.u
    rw [h1, Nat.le_div_iff_mul_le (Nat.pow_pos (by omega))] at hu
    rw [Nat.pow_succ, Nat.mul_comm]; exact hu
  have hle : k + 1 ≤ 15 := Nat.le_of_not_lt fun hn => by
    have : 16 ^ 16 ≤ 16 ^ (k + 1) := Nat.pow_le_pow_right (by omega) hn
    omega
  exact ⟨hle, by rw [show 65 - (k + 1) = 64 - k by omega]; exact h.put hc, by rw [h.u, Nat.div_div_eq_div_mul, ← Nat.pow_succ], .inr hge⟩
theorem FX.fin {u0 k : Nat} {a : Arr UInt8 65} {u : Nat} {c : UInt8} (h : FX u0 k a u) (hu : u < 16) (hc : c = dch u) : List.take (65 - (64 - k)) (List.drop (64 - k) (a.set (64 - k) c).l) = fmtN 16 u0 := by
  have hle := h.le
  rw [h.put (by rw [hc, Nat.mod_eq_of_lt hu]), List.take_of_length_le (by rw [digs_length]; omega)]
  symm
  refine fmtN_of (by omega) (by omega) (by omega) ?_ ?_
  · have h1 := h.u
    rw [h1, Nat.div_lt_iff_lt_mul (Nat.pow_pos (by omega))] at hu
    rw [Nat.pow_succ, Nat.mul_comm]; exact hu
  · rcases h.ge with h2 | h2
    · exact .inl (by omega)
    · exact .inr (by rw [Nat.add_sub_cancel]; exact h2)
theorem fx_and (w : UInt64) : (w &&& 15).toNat = w.toNat % 16 := by
  rw [UInt64.toNat_and, show (15 : UInt64).toNat = 2 ^ 4 - 1 from rfl, Nat.and_two_pow_sub_one_eq_mod]
theorem ndg_lt {b : Nat} (hb : 2 ≤ b) : ∀ f n, n < b ^ (f + 1) → n < b ^ ndg b f n
  | 0, n, h => by simpa [ndg] using h
  | f + 1, n, h => by
    unfold ndg
    by_cases hn : n < b
    · rw [if_pos hn, Nat.pow_one]; exact hn
    · rw [if_neg hn, Nat.pow_succ, ← Nat.div_lt_iff_lt_mul (by omega)]
      exact ndg_lt hb f (n / b) (by rw [Nat.div_lt_iff_lt_mul (by omega), ← Nat.pow_succ]; exact h)
theorem nd_lt {u : UInt64} : u.toNat < 10 ^ ndg 10 64 u.toNat := ndg_lt (by omega) 64 _ (Nat.lt_of_lt_of_le u.toNat_lt (by decide))
theorem nd_20 {u : UInt64} (h : 1 ≤ u.toNat) : ndg 10 64 u.toNat ≤ 20 := by
  have hx := u.toNat_lt
  rw [← nd_law h (by omega)]
  have hl := blen_le (n := u.toNat) (by omega)
  obtain ⟨_, _, t3⟩ := nd_tab (blen u.toNat) (by omega) (blen_pos h)
  split <;> omega
end Go.PW
