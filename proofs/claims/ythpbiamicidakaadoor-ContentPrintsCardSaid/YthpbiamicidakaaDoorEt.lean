/- Texts that are well made: what the two checks of UTF-8 come to. No condition. -/
import Derived.Test.YthpbiamicidakaaDoorEs
namespace Go.PW
open Enc (enc val)
open Go

/-- The byte at place i; 0 past the end. -/
abbrev bt (l : Str) (i : Nat) : Nat := (l.getD i 0).toNat
def cont (n : Nat) : Bool := decide (128 ≤ n) && decide (n < 192)
/-- How many bytes the first character takes; 0: it is none. -/
def u8step (l : Str) : Nat :=
  if bt l 0 < 128 then 1
  else if bt l 0 < 194 then 0
  else if bt l 0 < 224 then (if cont (bt l 1) then 2 else 0)
  else if bt l 0 < 240 then (if cont (bt l 1) && cont (bt l 2) && decide (bt l 0 = 224 → 160 ≤ bt l 1) && decide (bt l 0 = 237 → bt l 1 < 160) then 3 else 0)
  else if bt l 0 < 245 then (if cont (bt l 1) && cont (bt l 2) && cont (bt l 3) && decide (bt l 0 = 240 → 144 ≤ bt l 1) && decide (bt l 0 = 244 → bt l 1 < 144) then 4 else 0)
  else 0

def u8ok (l : Str) : Bool :=
  if l.length = 0 then true
  else if u8step l = 0 then false
  else u8ok (l.drop (u8step l))
termination_by l.length
decreasing_by simp; omega

theorem u8ok_nil {l : Str} (h : l.length = 0) : u8ok l = true := by rw [u8ok, if_pos h]
theorem u8ok_bad {l : Str} (h : 0 < l.length) (hs : u8step l = 0) : u8ok l = false := by rw [u8ok, if_neg (by omega), if_pos hs]
theorem u8ok_go {l : Str} (k : Nat) (h : 0 < l.length) (hs : u8step l = k) (hk : 0 < k) : u8ok (l.drop k) = u8ok l := by
  conv => rhs; rw [u8ok, if_neg (by omega), if_neg (by omega), hs]
theorem bt_drop (l : Str) (i j : Nat) : bt (l.drop i) j = bt l (i + j) := by
  simp only [bt, List.getD_eq_getElem?_getD, List.getElem?_drop]
theorem bt_out {l : Str} {i : Nat} (h : l.length ≤ i) : bt l i = 0 := by
  simp only [bt, List.getD_eq_getElem?_getD, List.getElem?_eq_none h]; rfl
theorem bt_lt (l : Str) (i : Nat) : bt l i < 256 := UInt8.toNat_lt _
theorem u8_asc {l : Str} (h : 0 < l.length) (ha : bt l 0 < 128) : u8ok (l.drop 1) = u8ok l := u8ok_go 1 h (by unfold u8step; rw [if_pos ha]) (by omega)
theorem u8_ascs : ∀ (n : Nat) {l : Str}, n ≤ l.length → (∀ i, i < n → bt l i < 128) → u8ok (l.drop n) = u8ok l
  | 0, l, _, _ => by simp
  | n + 1, l, h, ha => by
    have h1 := u8_ascs n (l := l) (by omega) (fun i hi => ha i (by omega))
    rw [← h1, show n + 1 = n + 1 from rfl, ← List.drop_drop]
    exact u8_asc (by simp; omega) (by rw [bt_drop]; exact ha n (by omega))

/-- Eight bytes as one word. -/
def w8 (s : Str) : UInt64 :=
  UInt64.ofNat (s.getD 0 0).toNat ||| shlU64 (UInt64.ofNat (s.getD 1 0).toNat) 8 ||| shlU64 (UInt64.ofNat (s.getD 2 0).toNat) 16 ||| shlU64 (UInt64.ofNat (s.getD 3 0).toNat) 24
    ||| shlU64 (UInt64.ofNat (s.getD 4 0).toNat) 32 ||| shlU64 (UInt64.ofNat (s.getD 5 0).toNat) 40 ||| shlU64 (UInt64.ofNat (s.getD 6 0).toNat) 48 ||| shlU64 (UInt64.ofNat (s.getD 7 0).toNat) 56

def msk : Nat := 9259542123273814144
theorem byte_bit {n : Nat} (h : n < 256) : n < 128 ↔ n.testBit 7 = false := by
  have e : n.testBit 7 = decide (n / 128 % 2 = 1) := by rw [Nat.testBit_eq_decide_div_mod_eq]
  rw [e]; simp; omega
theorem and_zero_bit {a : UInt64} (h : a &&& 9259542123273814144 = 0) (i : Nat) (hi : i < 8) : a.toNat.testBit (8 * i + 7) = false := by
  have h1 : (a &&& 9259542123273814144).toNat = 0 := by rw [h]; rfl
  rw [UInt64.toNat_and] at h1
  have h2 : (a.toNat &&& 9259542123273814144).testBit (8 * i + 7) = false := by rw [show (a.toNat &&& 9259542123273814144) = 0 from h1]; simp
  rw [Nat.testBit_and] at h2
  have h3 : ∀ i : Fin 8, (9259542123273814144 : Nat).testBit (8 * i.val + 7) = true := by decide
  rw [h3 ⟨i, hi⟩, Bool.and_true] at h2
  exact h2
theorem or_mask {a b : UInt64} (h : (a ||| b) &&& 9259542123273814144 = 0) : a &&& 9259542123273814144 = 0 ∧ b &&& 9259542123273814144 = 0 := by
  have h1 : ((a ||| b) &&& 9259542123273814144).toNat = 0 := by rw [h]; rfl
  have key : ∀ x y m : Nat, (x ||| y) &&& m = 0 → x &&& m = 0 := fun x y m h => by
    apply Nat.eq_of_testBit_eq; intro i
    have := congrArg (fun n => Nat.testBit n i) h
    simp only [Nat.testBit_and, Nat.testBit_or, Nat.zero_testBit] at this ⊢
    cases hx : x.testBit i <;> cases hm : m.testBit i <;> simp_all
  rw [UInt64.toNat_and, UInt64.toNat_or] at h1
  constructor
  · apply UInt64.toNat_inj.1; rw [UInt64.toNat_and]; exact key _ _ _ h1
  · apply UInt64.toNat_inj.1; rw [UInt64.toNat_and]; exact key _ _ _ (by rw [Nat.or_comm]; exact h1)

theorem part_bit (s : Str) (j : Nat) (hj : j < 8) (i : Nat) (hi : i < 8) : (shlU64 (UInt64.ofNat (bt s j)) (8 * j)).toNat.testBit (8 * i + 7) = (decide (i = j) && (bt s j).testBit 7) := by
  have hb := bt_lt s j
  rw [shlU64_toNat, UInt64.toNat_ofNat', Nat.mod_eq_of_lt (show bt s j < 2 ^ 64 by omega)]
  have h2 : (2 : Nat) ^ (8 * j) * 256 ≤ 18446744073709551616 := by
    have : (2 : Nat) ^ (8 * j) ≤ 2 ^ 56 := Nat.pow_le_pow_right (by decide) (by omega)
    omega
  have h3 : bt s j * 2 ^ (8 * j) < 18446744073709551616 := by
    have : bt s j * 2 ^ (8 * j) < 256 * 2 ^ (8 * j) := Nat.mul_lt_mul_of_pos_right hb (Nat.two_pow_pos _)
    omega
  rw [Nat.mod_eq_of_lt h3, Nat.testBit_mul_two_pow]
  rcases Nat.lt_trichotomy i j with h | h | h
  · have : ¬ 8 * j ≤ 8 * i + 7 := by omega
    simp [this, Nat.ne_of_lt h]
  · subst h; simp
  · have h4 : (bt s j).testBit (8 * i + 7 - 8 * j) = false := Nat.testBit_lt_two_pow (Nat.lt_of_lt_of_le hb (by
      have : (2 : Nat) ^ 8 ≤ 2 ^ (8 * i + 7 - 8 * j) := Nat.pow_le_pow_right (by decide) (by omega)
      omega))
    simp [h4, Nat.ne_of_gt h]

theorem shl0 (a : UInt64) : shlU64 a 0 = a := by
  apply UInt64.toNat_inj.1; rw [shlU64_toNat]; have := a.toNat_lt; omega
theorem w8_bit (s : Str) (i : Nat) (hi : i < 8) : (w8 s).toNat.testBit (8 * i + 7) = (bt s i).testBit 7 := by
  have e : w8 s = shlU64 (UInt64.ofNat (bt s 0)) (8 * 0) ||| shlU64 (UInt64.ofNat (bt s 1)) (8 * 1) ||| shlU64 (UInt64.ofNat (bt s 2)) (8 * 2) ||| shlU64 (UInt64.ofNat (bt s 3)) (8 * 3)
    ||| shlU64 (UInt64.ofNat (bt s 4)) (8 * 4) ||| shlU64 (UInt64.ofNat (bt s 5)) (8 * 5) ||| shlU64 (UInt64.ofNat (bt s 6)) (8 * 6) ||| shlU64 (UInt64.ofNat (bt s 7)) (8 * 7) := by
    rw [show 8 * 0 = 0 from rfl, shl0]; rfl
  rw [e]
  simp only [UInt64.toNat_or, Nat.testBit_or]
  rw [part_bit s 0 (by omega) i hi, part_bit s 1 (by omega) i hi, part_bit s 2 (by omega) i hi, part_bit s 3 (by omega) i hi, part_bit s 4 (by omega) i hi, part_bit s 5 (by omega) i hi, part_bit s 6 (by omega) i hi, part_bit s 7 (by omega) i hi]
  have hc : i = 0 ∨ i = 1 ∨ i = 2 ∨ i = 3 ∨ i = 4 ∨ i = 5 ∨ i = 6 ∨ i = 7 := by omega
  rcases hc with rfl | rfl | rfl | rfl | rfl | rfl | rfl | rfl <;> simp
theorem w8_asc {s : Str} (h : w8 s &&& 9259542123273814144 = 0) (i : Nat) (hi : i < 8) : bt s i < 128 :=
  (byte_bit (bt_lt s i)).2 (by rw [← w8_bit s i hi]; exact and_zero_bit h i hi)
theorem w8_skip {s : Str} (hl : 8 ≤ s.length) (h : w8 s &&& 9259542123273814144 = 0) : u8ok (s.drop 8) = u8ok s := u8_ascs 8 hl fun i hi => w8_asc h i hi
theorem w8_skip2 {s : Str} (hl : 16 ≤ s.length) (h : (w8 s ||| w8 (s.drop 8)) &&& 9259542123273814144 = 0) : u8ok (s.drop 16) = u8ok s := by
  have h1 := or_mask h
  rw [← w8_skip (by omega) h1.1, ← w8_skip (s := s.drop 8) (by simp; omega) h1.2, List.drop_drop]
theorem w8_skip4 {s : Str} (hl : 32 ≤ s.length) (h : (w8 s ||| w8 (s.drop 8) ||| (w8 (s.drop 16) ||| w8 (s.drop 24))) &&& 9259542123273814144 = 0) : u8ok (s.drop 32) = u8ok s := by
  have h1 := or_mask h
  have h2 := w8_skip2 (s := s.drop 16) (by simp; omega) (by rw [List.drop_drop]; exact h1.2)
  rw [← w8_skip2 (by omega) h1.1, ← h2, List.drop_drop]

/-- The table of the first bytes. -/
def firstF (n : Nat) : UInt8 :=
  if n < 128 then 240 else if n < 194 then 241 else if n < 224 then 2 else if n = 224 then 19 else if n < 237 then 3 else if n = 237 then 35 else if n < 240 then 3
  else if n = 240 then 52 else if n < 244 then 4 else if n = 244 then 68 else 241
def firstL : Str := (List.range 256).map firstF
def accL : List AccR := [⟨128, 191⟩, ⟨160, 191⟩, ⟨128, 159⟩, ⟨144, 191⟩, ⟨128, 143⟩, ⟨0, 0⟩, ⟨0, 0⟩, ⟨0, 0⟩, ⟨0, 0⟩, ⟨0, 0⟩, ⟨0, 0⟩, ⟨0, 0⟩, ⟨0, 0⟩, ⟨0, 0⟩, ⟨0, 0⟩, ⟨0, 0⟩]
def tFirst (b : Nat) : Seg := [(b, .view 0 (encs firstL))]
def tAcc (b : Nat) : Seg := [(b, .view 0 (encs accL))]
theorem first_at (a : Nat) (h : a < 256) : firstL.getD a 0 = firstF a := by
  simp [firstL, List.getD_eq_getElem?_getD, h]

structure FirstSaid (a : Nat) (x : UInt8) (y : AccR) : Prop where
  two : (x &&& 7).toNat = 2 → 194 ≤ a ∧ a < 224 ∧ y.lo.toNat = 128 ∧ y.hi.toNat = 191
  three : (x &&& 7).toNat = 3 → 224 ≤ a ∧ a < 240 ∧ y.lo.toNat = (if a = 224 then 160 else 128) ∧ y.hi.toNat = (if a = 237 then 159 else 191)
  four : (x &&& 7).toNat = 4 → 240 ≤ a ∧ a < 245 ∧ y.lo.toNat = (if a = 240 then 144 else 128) ∧ y.hi.toNat = (if a = 244 then 143 else 191)
  none : (x &&& 7).toNat ≠ 2 → (x &&& 7).toNat ≠ 3 → (x &&& 7).toNat ≠ 4 → a < 194 ∨ 245 ≤ a
  le : (shrU8 x 4).toNat < 16
def firstSaidB (a : Nat) (x : UInt8) (y : AccR) : Bool :=
  (!decide ((x &&& 7).toNat = 2) || decide (194 ≤ a ∧ a < 224 ∧ y.lo.toNat = 128 ∧ y.hi.toNat = 191)) &&
  (!decide ((x &&& 7).toNat = 3) || decide (224 ≤ a ∧ a < 240 ∧ y.lo.toNat = (if a = 224 then 160 else 128) ∧ y.hi.toNat = (if a = 237 then 159 else 191))) &&
  (!decide ((x &&& 7).toNat = 4) || decide (240 ≤ a ∧ a < 245 ∧ y.lo.toNat = (if a = 240 then 144 else 128) ∧ y.hi.toNat = (if a = 244 then 143 else 191))) &&
  (decide ((x &&& 7).toNat = 2) || decide ((x &&& 7).toNat = 3) || decide ((x &&& 7).toNat = 4) || decide (a < 194 ∨ 245 ≤ a)) && decide ((shrU8 x 4).toNat < 16)
theorem firstSaid_of {a : Nat} {x : UInt8} {y : AccR} (h : firstSaidB a x y = true) : FirstSaid a x y := by
  simp only [firstSaidB, Bool.and_eq_true, Bool.or_eq_true, Bool.not_eq_true', decide_eq_true_eq, decide_eq_false_iff_not] at h
  obtain ⟨⟨⟨⟨h2, h3⟩, h4⟩, h5⟩, h6⟩ := h
  refine ⟨fun h => ?_, fun h => ?_, fun h => ?_, fun a b c => ?_, h6⟩
  · rcases h2 with h2 | h2; exact absurd h h2; exact h2
  · rcases h3 with h3 | h3; exact absurd h h3; exact h3
  · rcases h4 with h4 | h4; exact absurd h h4; exact h4
  · rcases h5 with ((h5 | h5) | h5) | h5
    · exact absurd h5 a
    · exact absurd h5 b
    · exact absurd h5 c
    · exact h5
theorem firstSaid (a : Nat) (h : a < 256) (hn : 128 ≤ a) : FirstSaid a (firstL.getD a 0) (accL.getD (shrU8 (firstL.getD a 0) 4).toNat ⟨0, 0⟩) := by
  rw [first_at a h]
  have h1 : (List.range 256).all (fun a => Nat.blt a 128 || firstSaidB a (firstF a) (accL.getD (shrU8 (firstF a) 4).toNat ⟨0, 0⟩)) = true := by kernel_rfl
  have h2 := List.all_eq_true.1 h1 a (List.mem_range.2 h)
  rcases Bool.or_eq_true_iff.1 h2 with h3 | h3
  · have := Nat.ble_eq.mp h3; omega
  · exact firstSaid_of h3
theorem first_in (t : Str) (i : Nat) : (t.getD i 0).toNat < firstL.length := by
  have : firstL.length = 256 := by simp [firstL]
  rw [this]; exact UInt8.toNat_lt _
theorem acc_in {x : UInt8} (h : (shrU8 x 4).toNat < 16) : (shrU8 x 4).toNat < accL.length := h

theorem u8_two {t : Str} {x : UInt8} {y : AccR} (FS : FirstSaid (bt t 0) x y) (hs : (x &&& 7).toNat = 2) (h1 : y.lo.toNat ≤ bt t 1) (h2 : bt t 1 ≤ y.hi.toNat) : u8step t = 2 := by
  obtain ⟨a, b, c, d⟩ := FS.two hs
  unfold u8step
  rw [if_neg (by omega), if_neg (by omega), if_pos (by omega), if_pos (by simp only [cont, Bool.and_eq_true, decide_eq_true_eq]; omega)]
theorem u8_three {t : Str} {x : UInt8} {y : AccR} (FS : FirstSaid (bt t 0) x y) (hs : (x &&& 7).toNat = 3) (h1 : y.lo.toNat ≤ bt t 1) (h2 : bt t 1 ≤ y.hi.toNat) (h3 : 128 ≤ bt t 2) (h4 : bt t 2 ≤ 191) : u8step t = 3 := by
  obtain ⟨a, b, c, d⟩ := FS.three hs
  unfold u8step
  rw [if_neg (by omega), if_neg (by omega), if_neg (by omega), if_pos (by omega), if_pos (by
    simp only [cont, Bool.and_eq_true, decide_eq_true_eq]; split at c <;> split at d <;> omega)]
theorem u8_four {t : Str} {x : UInt8} {y : AccR} (FS : FirstSaid (bt t 0) x y) (hs : (x &&& 7).toNat = 4) (h1 : y.lo.toNat ≤ bt t 1) (h2 : bt t 1 ≤ y.hi.toNat) (h3 : 128 ≤ bt t 2) (h4 : bt t 2 ≤ 191) (h5 : 128 ≤ bt t 3) (h6 : bt t 3 ≤ 191) : u8step t = 4 := by
  obtain ⟨a, b, c, d⟩ := FS.four hs
  unfold u8step
  rw [if_neg (by omega), if_neg (by omega), if_neg (by omega), if_neg (by omega), if_pos (by omega), if_pos (by
    simp only [cont, Bool.and_eq_true, decide_eq_true_eq]; split at c <;> split at d <;> omega)]
theorem u8_bad {t s : Str} {x : UInt8} {y : AccR} (hI : u8ok t = u8ok s) (h0 : 0 < t.length) (hn : 128 ≤ bt t 0) (FS : FirstSaid (bt t 0) x y)
    (h2 : (x &&& 7).toNat = 2 → t.length < 2 ∨ bt t 1 < y.lo.toNat ∨ y.hi.toNat < bt t 1)
    (h3 : (x &&& 7).toNat = 3 → t.length < 3 ∨ bt t 1 < y.lo.toNat ∨ y.hi.toNat < bt t 1 ∨ bt t 2 < 128 ∨ 191 < bt t 2)
    (h4 : (x &&& 7).toNat = 4 → t.length < 4 ∨ bt t 1 < y.lo.toNat ∨ y.hi.toNat < bt t 1 ∨ bt t 2 < 128 ∨ 191 < bt t 2 ∨ bt t 3 < 128 ∨ 191 < bt t 3) : Value.bool false = .bool (u8ok s) := by
  rw [← hI, u8ok_bad h0]
  unfold u8step
  rw [if_neg (by omega)]
  have o1 : t.length < 2 → bt t 1 = 0 := fun h => bt_out (by omega)
  have o2 : t.length < 3 → bt t 2 = 0 := fun h => bt_out (by omega)
  have o3 : t.length < 4 → bt t 3 = 0 := fun h => bt_out (by omega)
  have hx : (x &&& 7).toNat = 2 ∨ (x &&& 7).toNat = 3 ∨ (x &&& 7).toNat = 4 ∨ ((x &&& 7).toNat ≠ 2 ∧ (x &&& 7).toNat ≠ 3 ∧ (x &&& 7).toNat ≠ 4) := by omega
  rcases hx with hx | hx | hx | ⟨hx, hy, hz⟩
  · obtain ⟨a, b, c, d⟩ := FS.two hx
    have := h2 hx
    rw [if_neg (by omega), if_pos (by omega), if_neg (by simp only [cont, Bool.and_eq_true, decide_eq_true_eq]; omega)]
  · obtain ⟨a, b, c, d⟩ := FS.three hx
    have := h3 hx
    rw [if_neg (by omega), if_neg (by omega), if_pos (by omega), if_neg (by
      simp only [cont, Bool.and_eq_true, decide_eq_true_eq]; split at c <;> split at d <;> omega)]
  · obtain ⟨a, b, c, d⟩ := FS.four hx
    have := h4 hx
    rw [if_neg (by omega), if_neg (by omega), if_neg (by omega), if_pos (by omega), if_neg (by
      simp only [cont, Bool.and_eq_true, decide_eq_true_eq]; split at c <;> split at d <;> omega)]
  · rcases FS.none hx hy hz with h | h
    · rw [if_pos h]
    · rw [if_neg (by omega), if_neg (by omega), if_neg (by omega), if_neg (by omega)]

/-! the other check: by the characters' numbers -/
def Cls (a : Nat) (n c mn : Int) : Prop :=
  (n = 1 ∧ c = a ∧ mn = 0 ∧ a < 128) ∨ (n = 2 ∧ c = a - 192 ∧ mn = 128 ∧ 192 ≤ a ∧ a < 224) ∨ (n = 3 ∧ c = a - 224 ∧ mn = 2048 ∧ 224 ≤ a ∧ a < 240) ∨ (n = 4 ∧ c = a - 240 ∧ mn = 65536 ∧ 240 ≤ a ∧ a < 248)
def accC (xs : Str) (i : Nat) (c : Int) : Nat → Int
  | 0 => c
  | 1 => c
  | k + 2 => accC xs i c (k + 1) * 64 + ((xs.getD (i + (k + 1)) 0).toNat - 128)
structure TxtI (xs : Str) (i : Nat) (n c : Int) (k : Nat) (v : Int) : Prop where
  k1 : 1 ≤ k
  k2 : (k : Int) ≤ n
  hv : v = accC xs i c k
  hc : ∀ j, 1 ≤ j → j < k → 128 ≤ (xs.getD (i + j) 0).toNat ∧ (xs.getD (i + j) 0).toNat < 192
  v0 : 0 ≤ v
  b1 : k = 1 → v < 256
  b2 : k = 2 → v < 16384
  b3 : k = 3 → v < 1048576
  b4 : k = 4 → v < 67108864
theorem TxtI.start {xs i a n c mn} (h : Cls a n c mn) : TxtI xs i n c 1 c := by
  unfold Cls at h
  exact ⟨by omega, by omega, rfl, fun j h1 h2 => by omega, by omega, fun _ => by omega, by omega, by omega, by omega⟩
theorem sub128 {x : UInt8} (h : 128 ≤ x.toNat) : (x - 128).toNat = x.toNat - 128 := by
  rw [UInt8.toNat_sub]; have := x.toNat_lt; simp; omega
theorem TxtI.next {xs i a n c mn k v} (hC : Cls a n c mn) (h : TxtI xs i n c k v) (hk : (k : Int) < n) (h1 : 128 ≤ (xs.getD (i + k) 0).toNat) (h2 : (xs.getD (i + k) 0).toNat < 192) :
    TxtI xs i n c (k + 1) (v * 64 + ((xs.getD (i + k) 0 - 128).toNat : Int)) := by
  have hk1 := h.k1; have v0 := h.v0; have b1 := h.b1; have b2 := h.b2; have b3 := h.b3
  have hn : n ≤ 4 := by unfold Cls at hC; omega
  rw [sub128 h1]
  obtain ⟨k, rfl⟩ : ∃ m, k = m + 1 := ⟨k - 1, by omega⟩
  refine ⟨by omega, by omega, ?_, fun j g1 g2 => ?_, by omega, by omega, by omega, by omega, by omega⟩
  · rw [h.hv]; show _ = accC xs i c (k + 1) * 64 + _; omega
  · by_cases e : j = k + 1
    · subst e; exact ⟨h1, h2⟩
    · exact h.hc j g1 (by omega)

theorem step_drop (xs : Str) (i : Nat) : u8step (xs.drop i) =
    (if bt xs i < 128 then 1
    else if bt xs i < 194 then 0
    else if bt xs i < 224 then (if cont (bt xs (i + 1)) then 2 else 0)
    else if bt xs i < 240 then (if cont (bt xs (i + 1)) && cont (bt xs (i + 2)) && decide (bt xs i = 224 → 160 ≤ bt xs (i + 1)) && decide (bt xs i = 237 → bt xs (i + 1) < 160) then 3 else 0)
    else if bt xs i < 245 then (if cont (bt xs (i + 1)) && cont (bt xs (i + 2)) && cont (bt xs (i + 3)) && decide (bt xs i = 240 → 144 ≤ bt xs (i + 1)) && decide (bt xs i = 244 → bt xs (i + 1) < 144) then 4 else 0)
    else 0) := by
  unfold u8step
  rw [bt_drop, bt_drop, bt_drop, bt_drop]; rfl

theorem txt_good {xs : Str} {i : Nat} {n c mn v : Int} {k : Nat} (hC : Cls (xs.getD i 0).toNat n c mn) (h : TxtI xs i n c k v) (hk : ¬ (k : Int) < n) (h1 : mn ≤ v) (h2 : v ≤ 1114111) (h3 : v < 55296 ∨ 57343 < v) : ((u8step (xs.drop i) : Nat) : Int) = n := by
  have hkn : (k : Int) = n := by have := h.k2; omega
  have hv := h.hv; have hc := h.hc
  rw [step_drop]
  unfold Cls at hC
  rcases hC with ⟨rfl, rfl, rfl, ha⟩ | ⟨rfl, rfl, rfl, ha, hb⟩ | ⟨rfl, rfl, rfl, ha, hb⟩ | ⟨rfl, rfl, rfl, ha, hb⟩
  · rw [if_pos ha]; rfl
  · obtain rfl : k = 2 := by omega
    have c1 := hc 1 (by omega) (by omega)
    simp only [accC, Nat.zero_add, Nat.reduceAdd] at hv
    rw [if_neg (by unfold bt; omega), if_neg (by unfold bt; omega), if_pos (by unfold bt; omega), if_pos (by simp only [cont, Bool.and_eq_true, decide_eq_true_eq, bt]; omega)]; rfl
  · obtain rfl : k = 3 := by omega
    have c1 := hc 1 (by omega) (by omega)
    have c2 := hc 2 (by omega) (by omega)
    simp only [accC, Nat.zero_add, Nat.reduceAdd] at hv
    rw [if_neg (by unfold bt; omega), if_neg (by unfold bt; omega), if_neg (by unfold bt; omega), if_pos (by unfold bt; omega), if_pos (by simp only [cont, Bool.and_eq_true, decide_eq_true_eq, bt]; omega)]; rfl
  · obtain rfl : k = 4 := by omega
    have c1 := hc 1 (by omega) (by omega)
    have c2 := hc 2 (by omega) (by omega)
    have c3 := hc 3 (by omega) (by omega)
    simp only [accC, Nat.zero_add, Nat.reduceAdd] at hv
    rw [if_neg (by unfold bt; omega), if_neg (by unfold bt; omega), if_neg (by unfold bt; omega), if_neg (by unfold bt; omega), if_pos (by unfold bt; omega), if_pos (by simp only [cont, Bool.and_eq_true, decide_eq_true_eq, bt]; omega)]; rfl
theorem txt_wide {xs : Str} {i : Nat} {n c mn v : Int} {k : Nat} (hC : Cls (xs.getD i 0).toNat n c mn) (h : TxtI xs i n c k v) (hk : ¬ (k : Int) < n) (h1 : v < mn ∨ 1114111 < v ∨ (55296 ≤ v ∧ v ≤ 57343)) : u8step (xs.drop i) = 0 := by
  have hkn : (k : Int) = n := by have := h.k2; omega
  have hv := h.hv; have hc := h.hc
  rw [step_drop]
  unfold Cls at hC
  rcases hC with ⟨rfl, rfl, rfl, ha⟩ | ⟨rfl, rfl, rfl, ha, hb⟩ | ⟨rfl, rfl, rfl, ha, hb⟩ | ⟨rfl, rfl, rfl, ha, hb⟩
  · obtain rfl : k = 1 := by omega
    simp only [accC, Nat.zero_add, Nat.reduceAdd] at hv
    omega
  · obtain rfl : k = 2 := by omega
    have c1 := hc 1 (by omega) (by omega)
    simp only [accC, Nat.zero_add, Nat.reduceAdd] at hv
    rw [if_neg (by unfold bt; omega), if_pos (by unfold bt; omega)]
  · obtain rfl : k = 3 := by omega
    have c1 := hc 1 (by omega) (by omega)
    have c2 := hc 2 (by omega) (by omega)
    simp only [accC, Nat.zero_add, Nat.reduceAdd] at hv
    rw [if_neg (by unfold bt; omega), if_neg (by unfold bt; omega), if_neg (by unfold bt; omega), if_pos (by unfold bt; omega), if_neg (by simp only [cont, Bool.and_eq_true, decide_eq_true_eq, bt]; omega)]
  · obtain rfl : k = 4 := by omega
    have c1 := hc 1 (by omega) (by omega)
    have c2 := hc 2 (by omega) (by omega)
    have c3 := hc 3 (by omega) (by omega)
    simp only [accC, Nat.zero_add, Nat.reduceAdd] at hv
    rw [if_neg (by unfold bt; omega), if_neg (by unfold bt; omega), if_neg (by unfold bt; omega), if_neg (by unfold bt; omega)]
    split
    · rw [if_neg (by simp only [cont, Bool.and_eq_true, decide_eq_true_eq, bt] at *; omega)]
    · rfl
theorem txt_head {xs : Str} {i : Nat} (h1 : 128 ≤ (xs.getD i 0).toNat) (h2 : (xs.getD i 0).toNat < 192 ∨ 248 ≤ (xs.getD i 0).toNat) : u8step (xs.drop i) = 0 := by
  rw [step_drop, if_neg (by unfold bt; omega)]
  by_cases h : bt xs i < 194
  · rw [if_pos h]
  · rw [if_neg h, if_neg (by unfold bt at *; omega), if_neg (by unfold bt at *; omega), if_neg (by unfold bt at *; omega)]
theorem txt_cont {xs : Str} {i : Nat} {n c mn : Int} (hC : Cls (xs.getD i 0).toNat n c mn) (k : Nat) (k1 : 1 ≤ k) (hk : (k : Int) < n) (hb : (xs.getD (i + k) 0).toNat < 128 ∨ 192 ≤ (xs.getD (i + k) 0).toNat) : u8step (xs.drop i) = 0 := by
  rw [step_drop]
  unfold Cls at hC
  have hkc : k = 1 ∨ k = 2 ∨ k = 3 := by omega
  rcases hC with ⟨rfl, rfl, rfl, ha⟩ | ⟨rfl, rfl, rfl, ha, hb2⟩ | ⟨rfl, rfl, rfl, ha, hb2⟩ | ⟨rfl, rfl, rfl, ha, hb2⟩
  · omega
  · obtain rfl : k = 1 := by omega
    rw [if_neg (by unfold bt; omega)]
    by_cases h : bt xs i < 194
    · rw [if_pos h]
    · rw [if_neg h, if_pos (by unfold bt at *; omega), if_neg (by simp only [cont, Bool.and_eq_true, decide_eq_true_eq, bt]; omega)]
  · rw [if_neg (by unfold bt; omega), if_neg (by unfold bt; omega), if_neg (by unfold bt; omega), if_pos (by unfold bt; omega), if_neg (by
      simp only [cont, Bool.and_eq_true, decide_eq_true_eq, bt]; rcases hkc with rfl | rfl | rfl <;> omega)]
  · rw [if_neg (by unfold bt; omega), if_neg (by unfold bt; omega), if_neg (by unfold bt; omega), if_neg (by unfold bt; omega)]
    split
    · rw [if_neg (by simp only [cont, Bool.and_eq_true, decide_eq_true_eq, bt]; rcases hkc with rfl | rfl | rfl <;> omega)]
    · rfl
theorem txt_short {xs : Str} {i : Nat} {n c mn : Int} (hC : Cls (xs.getD i 0).toNat n c mn) (h0 : i < xs.length) (h : (xs.length : Int) < i + n) : u8step (xs.drop i) = 0 := by
  have hn := hC
  unfold Cls at hn
  refine txt_cont hC (xs.length - i) (by omega) (by omega) (.inl ?_)
  have := bt_out (l := xs) (i := i + (xs.length - i)) (by omega)
  unfold bt at this; omega
theorem txt_no {xs : Str} {i : Nat} (hI : u8ok (xs.drop i) = u8ok xs) (h0 : i < xs.length) (h : u8step (xs.drop i) = 0) : Value.bool false = .bool (u8ok xs) := by
  rw [← hI, u8ok_bad (by simp; omega) h]
theorem txt_on {xs : Str} {i m : Nat} {n : Int} (hI : u8ok (xs.drop i) = u8ok xs) (h0 : i < xs.length) (h : ((u8step (xs.drop i) : Nat) : Int) = n) (hn : 1 ≤ n) (hm : (m : Int) = i + n) : u8ok (xs.drop m) = u8ok xs := by
  rw [← hI, ← u8ok_go (l := xs.drop i) (u8step (xs.drop i)) (by simp; omega) rfl (by omega), List.drop_drop]
  congr 2; omega
end Go.PW
