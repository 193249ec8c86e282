/- Characters of a text, and the text between its marks. No condition. -/
import Derived.Test.YthpbiamicidakaaDoorH3
import Derived.Test.YthpbiamicidakaaDoorEt
import Derived.Lib.DecodeN
namespace Go.PW
open Go

structure U1 (t : Str) : Prop where
  k : u8step t = 1
  a : (List.getD t 0 0).toNat < 128
structure U2 (t : Str) : Prop where
  k : u8step t = 2
  a : 194 ≤ (List.getD t 0 0).toNat ∧ (List.getD t 0 0).toNat < 224
  b : 128 ≤ (List.getD t 1 0).toNat ∧ (List.getD t 1 0).toNat < 192
structure U3 (t : Str) : Prop where
  k : u8step t = 3
  a : 224 ≤ (List.getD t 0 0).toNat ∧ (List.getD t 0 0).toNat < 240
  b : 128 ≤ (List.getD t 1 0).toNat ∧ (List.getD t 1 0).toNat < 192
  c : 128 ≤ (List.getD t 2 0).toNat ∧ (List.getD t 2 0).toNat < 192
  lo : (List.getD t 0 0).toNat = 224 → 160 ≤ (List.getD t 1 0).toNat
  hi : (List.getD t 0 0).toNat = 237 → (List.getD t 1 0).toNat < 160
structure U4 (t : Str) : Prop where
  k : u8step t = 4
  a : 240 ≤ (List.getD t 0 0).toNat ∧ (List.getD t 0 0).toNat < 245
  b : 128 ≤ (List.getD t 1 0).toNat ∧ (List.getD t 1 0).toNat < 192
  c : 128 ≤ (List.getD t 2 0).toNat ∧ (List.getD t 2 0).toNat < 192
  d : 128 ≤ (List.getD t 3 0).toNat ∧ (List.getD t 3 0).toNat < 192
  lo : (List.getD t 0 0).toNat = 240 → 144 ≤ (List.getD t 1 0).toNat
  hi : (List.getD t 0 0).toNat = 244 → (List.getD t 1 0).toNat < 144

theorem u8_cases {t : Str} (h : u8step t ≠ 0) : U1 t ∨ U2 t ∨ U3 t ∨ U4 t := by
  unfold u8step at h
  by_cases h1 : bt t 0 < 128
  · exact .inl ⟨by unfold u8step; rw [if_pos h1], h1⟩
  rw [if_neg h1] at h
  by_cases h2 : bt t 0 < 194
  · rw [if_pos h2] at h; exact absurd rfl h
  rw [if_neg h2] at h
  by_cases h3 : bt t 0 < 224
  · rw [if_pos h3] at h
    by_cases hc : cont (bt t 1) = true
    · refine .inr (.inl ⟨by unfold u8step; rw [if_neg h1, if_neg h2, if_pos h3, if_pos hc], ⟨Nat.le_of_not_lt h2, h3⟩, ?_⟩)
      simp only [cont, Bool.and_eq_true, decide_eq_true_eq] at hc
      exact hc
    · rw [if_neg hc] at h; exact absurd rfl h
  rw [if_neg h3] at h
  by_cases h4 : bt t 0 < 240
  · rw [if_pos h4] at h
    by_cases hc : (cont (bt t 1) && cont (bt t 2) && decide (bt t 0 = 224 → 160 ≤ bt t 1) && decide (bt t 0 = 237 → bt t 1 < 160)) = true
    · refine .inr (.inr (.inl ?_))
      have hk : u8step t = 3 := by unfold u8step; rw [if_neg h1, if_neg h2, if_neg h3, if_pos h4, if_pos hc]
      simp only [cont, Bool.and_eq_true, decide_eq_true_eq] at hc
      exact ⟨hk, ⟨Nat.le_of_not_lt h3, h4⟩, hc.1.1.1, hc.1.1.2, hc.1.2, hc.2⟩
    · rw [if_neg hc] at h; exact absurd rfl h
  rw [if_neg h4] at h
  by_cases h5 : bt t 0 < 245
  · rw [if_pos h5] at h
    by_cases hc : (cont (bt t 1) && cont (bt t 2) && cont (bt t 3) && decide (bt t 0 = 240 → 144 ≤ bt t 1) && decide (bt t 0 = 244 → bt t 1 < 144)) = true
    · refine .inr (.inr (.inr ?_))
      have hk : u8step t = 4 := by unfold u8step; rw [if_neg h1, if_neg h2, if_neg h3, if_neg h4, if_pos h5, if_pos hc]
      simp only [cont, Bool.and_eq_true, decide_eq_true_eq] at hc
      exact ⟨hk, ⟨Nat.le_of_not_lt h4, h5⟩, hc.1.1.1.1, hc.1.1.1.2, hc.1.1.2, hc.1.2, hc.2⟩
    · rw [if_neg hc] at h; exact absurd rfl h
  · rw [if_neg h5] at h; exact absurd rfl h

theorem getD_in {t : Str} {i : Nat} (h : 0 < (List.getD t i 0).toNat) : i < t.length := Nat.lt_of_not_le fun hn => by
  have := bt_out hn
  have h2 : bt t i = (List.getD t i 0).toNat := rfl
  omega
theorem u8step_le {t : Str} (h : u8step t ≠ 0) (hl : 0 < t.length) : 1 ≤ u8step t ∧ u8step t ≤ t.length ∧ u8step t ≤ 4 := by
  rcases u8_cases h with c | c | c | c
  · have := c.k; omega
  · have := c.k; have := c.b; have := getD_in (t := t) (i := 1) (by omega); omega
  · have := c.k; have := c.c; have := getD_in (t := t) (i := 2) (by omega); omega
  · have := c.k; have := c.d; have := getD_in (t := t) (i := 3) (by omega); omega
theorem u8ok_step {t : Str} (h : u8ok t = true) (hl : 0 < t.length) : u8step t ≠ 0 := fun h0 => by
  rw [u8ok_bad hl h0] at h; cases h
theorem u8ok_rest {t : Str} (h : u8ok t = true) (hl : 0 < t.length) : u8ok (t.drop (u8step t)) = true := by
  have h1 := u8ok_step h hl
  have h2 := u8step_le h1 hl
  rw [u8ok_go (u8step t) hl rfl (by omega)]; exact h

/-- The first character's number. -/
def chr (t : Str) : Nat :=
  if (List.getD t 0 0).toNat < 128 then (List.getD t 0 0).toNat
  else if (List.getD t 0 0).toNat < 224 then (List.getD t 0 0).toNat % 32 * 64 + (List.getD t 1 0).toNat % 64
  else if (List.getD t 0 0).toNat < 240 then ((List.getD t 0 0).toNat % 16 * 64 + (List.getD t 1 0).toNat % 64) * 64 + (List.getD t 2 0).toNat % 64
  else (((List.getD t 0 0).toNat % 8 * 64 + (List.getD t 1 0).toNat % 64) * 64 + (List.getD t 2 0).toNat % 64) * 64 + (List.getD t 3 0).toNat % 64

theorem U1.chr {t : Str} (c : U1 t) : chr t = (List.getD t 0 0).toNat := by unfold PW.chr; rw [if_pos c.a]
theorem U2.chr {t : Str} (c : U2 t) : chr t = (List.getD t 0 0).toNat % 32 * 64 + (List.getD t 1 0).toNat % 64 := by
  have := c.a
  unfold PW.chr; rw [if_neg (by omega), if_pos (by omega)]
theorem U3.chr {t : Str} (c : U3 t) : chr t = ((List.getD t 0 0).toNat % 16 * 64 + (List.getD t 1 0).toNat % 64) * 64 + (List.getD t 2 0).toNat % 64 := by
  have := c.a
  unfold PW.chr; rw [if_neg (by omega), if_neg (by omega), if_pos (by omega)]
theorem U4.chr {t : Str} (c : U4 t) : chr t = (((List.getD t 0 0).toNat % 8 * 64 + (List.getD t 1 0).toNat % 64) * 64 + (List.getD t 2 0).toNat % 64) * 64 + (List.getD t 3 0).toNat % 64 := by
  have := c.a
  unfold PW.chr; rw [if_neg (by omega), if_neg (by omega), if_neg (by omega)]
theorem chr_lt (t : Str) : chr t < 2097152 := by
  have := bt_lt t 0
  unfold chr
  repeat' split
  all_goals omega
/-- A small character is one byte. -/
theorem chr_asc {t : Str} (h : u8step t ≠ 0) (hc : chr t < 128) : u8step t = 1 ∧ (List.getD t 0 0).toNat = chr t := by
  rcases u8_cases h with c | c | c | c
  · exact ⟨c.k, c.chr.symm⟩
  · have := c.chr; have := c.a; have := c.b; omega
  · have := c.chr; have := c.a; have := c.b; have := c.lo; omega
  · have := c.chr; have := c.a; have := c.b; have := c.lo; omega
theorem chr_take {t : Str} (h : u8step t ≠ 0) (hl : 0 < t.length) (hc : chr t < 128) : t.take 1 = [UInt8.ofNat (chr t)] := by
  obtain ⟨_, h2⟩ := chr_asc h hc
  cases t with
  | nil => simp at hl
  | cons a r =>
    rw [← h2]
    simp

theorem get_mk (s : Str) (j : Nat) : (⟨⟨s⟩⟩ : ByteArray).get! j = List.getD s j 0 := by
  show (⟨s⟩ : Array UInt8)[j]! = _
  by_cases h : j < s.length
  · rw [getElem!_pos _ j (by simpa using h)]; simp [List.getD, h]
  · rw [getElem!_neg _ j (by simpa using h)]; simp [List.getD, h]; rfl
/-- The machine tells the same characters. -/
theorem decA_eq {s : Str} {i : Nat} (hi : i < s.length) (h : u8step (s.drop i) ≠ 0) : decA s i = (chr (s.drop i), u8step (s.drop i)) := by
  have hg : ∀ k, List.getD (s.drop i) k 0 = List.getD s (i + k) 0 := fun k => by simp [List.getD, List.getElem?_drop]
  have hle := u8step_le h (by simp; omega)
  rw [List.length_drop] at hle
  unfold decA
  rw [Lib.decode_at, show (⟨⟨s⟩⟩ : ByteArray).size = s.length from rfl, get_mk, get_mk, get_mk, get_mk]
  rcases u8_cases h with c | c | c | c
  · have ha := c.a; have hk := c.k; have hc := c.chr
    rw [hg] at ha hc
    simp only [Nat.add_zero] at ha hc
    unfold Lib.decodeN
    rw [if_pos ha, hc, hk]
  · have ha := c.a; have hb := c.b; have hk := c.k; have hc := c.chr
    simp only [hg, Nat.add_zero] at ha hb hc
    unfold Lib.decodeN
    rw [if_neg (by omega), if_pos (by omega), if_pos (by omega), hc, hk]
  · have ha := c.a; have hb := c.b; have hd := c.c; have hk := c.k; have hc := c.chr; have hlo := c.lo; have hhi := c.hi
    simp only [hg, Nat.add_zero] at ha hb hd hc hlo hhi
    unfold Lib.decodeN
    rw [if_neg (by omega), if_neg (by omega), if_pos (by omega), if_pos (by omega), hc, hk]
    congr 1; omega
  · have ha := c.a; have hb := c.b; have hd := c.c; have he := c.d; have hk := c.k; have hc := c.chr; have hlo := c.lo; have hhi := c.hi
    simp only [hg, Nat.add_zero] at ha hb hd he hc hlo hhi
    unfold Lib.decodeN
    rw [if_neg (by omega), if_neg (by omega), if_neg (by omega), if_pos (by omega), if_pos (by omega), hc, hk]
    congr 1; omega

/-- What is written for a character. -/
def qstep (c : Nat) : Str := if c = 34 ∨ c = 92 then [92, UInt8.ofNat c] else if 32 ≤ c ∧ c ≤ 126 then [UInt8.ofNat c] else [92, 117, 123] ++ fmtN 16 c ++ [125]
theorem qstep_q {c : Nat} (h : c = 34 ∨ c = 92) : qstep c = [92, UInt8.ofNat c] := if_pos h
theorem qstep_p {c : Nat} (h : ¬(c = 34 ∨ c = 92)) (h2 : 32 ≤ c ∧ c ≤ 126) : qstep c = [UInt8.ofNat c] := by unfold qstep; rw [if_neg h, if_pos h2]
theorem qstep_u {c : Nat} (h : ¬(c = 34 ∨ c = 92)) (h2 : ¬(32 ≤ c ∧ c ≤ 126)) : qstep c = [92, 117, 123] ++ fmtN 16 c ++ [125] := by unfold qstep; rw [if_neg h, if_neg h2]
/-- What stands between the marks. -/
def qbody (t : Str) : Str :=
  if t.length = 0 then []
  else if u8step t = 0 then []
  else qstep (chr t) ++ qbody (t.drop (u8step t))
termination_by t.length
decreasing_by simp; omega
theorem qbody_nil {t : Str} (h : t.length = 0) : qbody t = [] := by rw [qbody, if_pos h]
theorem qbody_go {t : Str} (h : u8step t ≠ 0) (hl : 0 < t.length) : qbody t = qstep (chr t) ++ qbody (t.drop (u8step t)) := by
  rw [qbody, if_neg (by omega), if_neg h]
/-- A text between its marks. -/
def quoteS (s : Str) : Str := [34] ++ qbody s ++ [34]
theorem qbody_at {s : Str} {i : Nat} (hi : i < s.length) (h : u8ok (s.drop i) = true) : qbody (s.drop i) = qstep (decA s i).1 ++ qbody (s.drop (i + (decA s i).2)) ∧ u8ok (s.drop (i + (decA s i).2)) = true ∧ 1 ≤ (decA s i).2 ∧ i + (decA s i).2 ≤ s.length ∧ (decA s i).1 < 2097152 ∧ (decA s i).2 ≤ 4 := by
  have hl : 0 < (s.drop i).length := by simp; omega
  have h1 := u8ok_step h hl
  have h2 := u8step_le h1 hl
  rw [decA_eq hi h1, ← List.drop_drop]
  rw [List.length_drop] at h2
  exact ⟨qbody_go h1 hl, u8ok_rest h hl, h2.1, by show i + u8step (s.drop i) ≤ _; omega, chr_lt _, h2.2.2⟩

theorem ndg_bound {b : Nat} (hb : 2 ≤ b) : ∀ {f k n : Nat}, 1 ≤ k → n < b ^ k → ndg b f n ≤ k
  | 0, k, n, h1, _ => by simpa [ndg] using h1
  | f + 1, k, n, h1, h2 => by
    unfold ndg
    by_cases hn : n < b
    · rw [if_pos hn]; exact h1
    · rw [if_neg hn]
      obtain ⟨j, rfl⟩ : ∃ j, k = j + 1 := ⟨k - 1, by omega⟩
      have hj : 1 ≤ j := by
        rcases Nat.eq_zero_or_pos j with h | h
        · subst h; simp at h2; omega
        · exact h
      have := ndg_bound hb (f := f) hj (show n / b < b ^ j by rw [Nat.div_lt_iff_lt_mul (by omega), ← Nat.pow_succ]; exact h2)
      omega
theorem fmt16_le (u : UInt64) : (fmtN 16 u.toNat).length ≤ 16 := by
  unfold fmtN; rw [digs_length]
  exact ndg_bound (by omega) (by omega) (Nat.lt_of_lt_of_le u.toNat_lt (by decide))
theorem fmt10_le (u : UInt64) : (fmtN 10 u.toNat).length ≤ 20 := by
  unfold fmtN; rw [digs_length]
  exact ndg_bound (by omega) (by omega) (Nat.lt_of_lt_of_le u.toNat_lt (by decide))
/-- So many signs at least. -/
def padN (k : Nat) (s : Str) : Str := List.replicate (k - s.length) 48 ++ s
theorem pad_done {k : Nat} {s : Str} (h : k ≤ s.length) : padN k s = s := by unfold padN; rw [Nat.sub_eq_zero_of_le h]; rfl
theorem pad_step {k : Nat} {s : Str} (h : s.length < k) : padN k ([48] ++ s) = padN k s := by
  unfold padN
  rw [show k - s.length = (k - ([48] ++ s).length) + 1 by simp; omega, List.replicate_succ']
  simp
theorem pad_length {k : Nat} {s : Str} : (padN k s).length = max k s.length := by unfold padN; simp; omega
theorem pad_one (b n : Nat) : padN 1 (fmtN b n) = fmtN b n := pad_done (fmtN_length b n).1
theorem pad_byte : ∀ x : Nat, x < 256 → padN 2 (fmtN 16 x) = [dch (x / 16), dch (x % 16)] := by decide +kernel
/-- Bytes as digits. -/
def hexS (l : Str) : Str := l.flatMap fun x => [dch (x.toNat / 16), dch (x.toNat % 16)]
theorem hexS_take {l : Str} {i : Nat} (h : i < l.length) : hexS (l.take (i + 1)) = hexS (l.take i) ++ [dch ((List.getD l i 0).toNat / 16), dch ((List.getD l i 0).toNat % 16)] := by
  unfold hexS
  rw [List.take_succ_eq_append_getElem h, List.flatMap_append]
  simp [List.getD, h]
theorem hexS_length (l : Str) : (hexS l).length = 2 * l.length := by
  unfold hexS
  induction l with
  | nil => rfl
  | cons a r ih => simp only [List.flatMap_cons, List.length_append, ih, List.length_cons, List.length_nil]; omega
theorem shr_hex (x : UInt8) : hexL.getD (shrU8 x 4).toNat 0 = dch (x.toNat / 16) := by
  have h := x.toNat_lt
  rw [shrU8_toNat]; exact hexL_at _ (by omega)
theorem and_hex (x : UInt8) : (x &&& 15).toNat = x.toNat % 16 := by
  rw [UInt8.toNat_and, show (15 : UInt8).toNat = 2 ^ 4 - 1 from rfl, Nat.and_two_pow_sub_one_eq_mod]
theorem and_hex' (x : UInt8) : hexL.getD (x &&& 15).toNat 0 = dch (x.toNat % 16) := by
  rw [and_hex]; exact hexL_at _ (by omega)
theorem take_rep (c : Nat) (h : c ≤ 64) : List.take c (List.replicate 64 (48 : UInt8)) = List.replicate c 48 := by
  rw [List.take_replicate, Nat.min_eq_left h]
/-- Once so much, in two words. -/
theorem mul1_hi : ∀ c, c < 65 → True := fun _ _ => trivial
/-- Whether a text begins with another. -/
def pfx (s p : Str) : Bool := decide (p.length ≤ s.length) && decide (s.take p.length = p)
end Go.PW
