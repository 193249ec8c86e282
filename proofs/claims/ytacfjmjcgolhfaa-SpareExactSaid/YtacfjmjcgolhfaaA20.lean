/- Contracts of the program's functions, walked. No condition. -/
import Derived.Test.YtacfjmjcgolhfaaA19
import Derived.Test.YtacfjmjcgolhfaaEx
namespace Go.Proofs.Ytacfjmjcgolhfaa
open Go Go.Proofs Go.PW
open Go.PW.Enc (enc val)

/-- A key of one byte, over and over. -/
def rep (c : UInt8) : Key := ⟨List.replicate 32 c, by simp⟩
def mk (i : Int) : Spare := ⟨rep (UInt8.ofInt (77 + i)), 4000000000, rep (UInt8.ofInt (77 + i))⟩
def mks : List Spare := [mk 0, mk 1, mk 2]
theorem rep_of {a : Key} {c : UInt8} {k : Nat} (h : a.l.take k = List.replicate k c) (hk : ¬k < 32) (hk2 : k ≤ 32) : a = rep c := by
  obtain rfl : k = 32 := by omega
  apply Arr.ext
  rw [List.take_of_length_le (by rw [a.h]; exact Nat.le_refl _)] at h
  exact h
theorem rep_next {a : Key} {c : UInt8} {k : Nat} (h : a.l.take k = List.replicate k c) (hk : k < 32) : (Arr.set a k c).l.take (k + 1) = List.replicate (k + 1) c := by
  have hl : k < (a.l.set k c).length := by rw [List.length_set, a.h]; exact hk
  show (a.l.set k c).take (k + 1) = _
  rw [List.take_succ_eq_append_getElem hl, List.take_set_of_le (Nat.le_refl _), h, List.getElem_set_self, List.replicate_succ']
theorem mks_next (xs : List Spare) {k : Nat} (hk : k < 3) : (xs ++ mks.take k) ++ [mk (k : Int)] = xs ++ mks.take (k + 1) := by
  have : k = 0 ∨ k = 1 ∨ k = 2 := by omega
  rcases this with rfl | rfl | rfl <;> simp [mks]
theorem mks_at (xs : List Spare) {k : Nat} (hk : k < 3) (h : xs.length + k < (xs ++ mks).length) : (xs ++ mks)[xs.length + k] = mk (k : Int) := by
  rw [List.getElem_append_right (by omega)]
  have : k = 0 ∨ k = 1 ∨ k = 2 := by omega
  rcases this with rfl | rfl | rfl <;> simp [mks]

theorem mark_ct (i : Int) (hi : 0 ≤ i ∧ i ≤ 100) : Ct Try.prog 47 [.int .i64 i] [] [] (fun v o r => v = val (mk i) ∧ o = [] ∧ r = []) := by
  refine ct_enter Try.func47 rfl Try.ntmps47 (by kernel_rfl) rfl fun w0 => ?_
  refine c_seq ?_
  refine c_reg ?_
  refine alo [pt (zarr : Key), p1 (.int .u32 0), pt (zarr : Key)] _ z33 rfl fun b2 => ⟨trivial, ?_⟩
  refine jt ?_
  refine c_seq ?_
  refine c_reg ?_
  refine alo [pt (zarr : Key)] _ z30 rfl fun b3 => ⟨trivial, ?_⟩
  refine jt ?_
  refine c_seq ?_
  refine c_seq ?_
  refine c_reg ?_
  refine asg (.int _ _) rfl ?_
  refine jt ?_
  refine c_block ?_
  refine c_loop (σ := Nat × Key) (fun ⟨k, a⟩ => k ≤ 32 ∧ a.l.take k = List.replicate k (UInt8.ofInt (77 + i))) (fun ⟨k, a⟩ => 32 - k) (fun ⟨k, a⟩ => [(4, .int .i64 (k : Int))]) (fun ⟨k, a⟩ => [[(b2, .cells (cat [pt (zarr : Key), p1 (.int .u32 0), pt (zarr : Key)]) 33)], [(b3, .cells (cat [pt a]) 30)]]) (fun ⟨k, a⟩ => []) [4, 5, 6, 7, 8, 9, 10, 11, 12, 13] (0, zarr) (⟨by omega, rfl⟩) ⟨rfl, trivial⟩ rfl rfl ?_
  rintro ⟨k, a⟩ g1 hI1
  try dsimp only at hI1 ⊢
  refine c_seq ?_
  refine c_seq ?_
  refine c_reg ?_
  refine mv (.int _ _) rfl ?_
  refine cmp _ rfl rfl rfl ?_
  refine jt ?_
  refine c_cond rfl (fun h1 => ?_) (fun h1 => ?_)
  · replace h1 := of_decide_eq_true h1
    refine c_skip ?_
    refine e_then ?_
    refine c_seq ?_
    refine c_block ?_
    refine c_reg ?_
    refine mv (.int _ _) rfl ?_
    refine mv (.int _ _) rfl ?_
    refine addi rfl rfl rfl (by omega) ?_
    refine cvZU8 (n := (77 + i)) rfl Try.underlying3 Try.underlying5 ?_
    refine ixaA k rfl rfl Try.underlying30 ty5.sz rfl (by first | omega | (simp; done) | (simp; omega) | (simp at *; omega)) ?_
    refine sta 1 0 _ a k (UInt8.ofInt (77 + i)) rfl rfl rfl rfl rfl (by first | omega | (simp; done) | (simp; omega) | (simp at *; omega)) ty5 ⟨trivial, ?_⟩
    refine jn ?_
    refine e_in ?_
    refine e_then ?_
    refine c_reg ?_
    refine mv (.int _ _) rfl ?_
    refine addi rfl rfl rfl (by omega) ?_
    refine asg (.int _ _) rfl ?_
    refine jn ?_
    exact e_loop (k + 1, Arr.set a k (UInt8.ofInt (77 + i))) (⟨by omega, rep_next hI1.2 (by omega)⟩) (by (try dsimp only); omega) (⟨rfl, trivial⟩) rfl rfl rfl
  · replace h1 := of_decide_eq_false h1
    refine c_exit rfl ?_
    refine e_then ?_
    refine c_seq ?_
    refine c_reg ?_
    refine ldp 1 0 _ rfl rfl rfl rfl ty30 ?_
    refine ldp 1 0 _ rfl rfl rfl rfl ty30 ?_
    refine bld [pt (zarr : Key), p1 (.int .u32 0), pt (zarr : Key)] [(0, pt a), (1, pt (4000000000 : UInt32)), (2, pt a)] _ Try.underlying33 (lay33 _ Try.underlying33) z33 rfl rfl rfl ?_
    refine stw 0 _ [pt a, pt (4000000000 : UInt32), pt a] rfl rfl rfl rfl ty33 ⟨trivial, ?_⟩
    refine jt ?_
    refine c_ret ?_
    exact j_end (own0 := []) (ro0 := []) (.inl rfl) rfl (hr1 Try.results47 (rvc (p := pa [pt a, pt (4000000000 : UInt32), pt a]) 0 rfl rfl rfl ty33)) [] [0, 1] [] [_, _] [] _ rfl rfl (by kernel_rfl) rfl impl_nil (⟨by rw [rep_of hI1.2 (by omega) hI1.1]; rfl, rfl, rfl⟩)

theorem hand_ct (s : Vs) (xs : List Spare) (hs : s.ok xs) (hx : xs.length ≤ 2069668946341) : Ct Try.prog 45 [s.v xs.length] [] [s.seg xs] (fun v o r => ∃ o' : Ow, o'.ok (xs ++ mks) ∧ v = .slice o'.adr (xs ++ mks).length o'.cap ∧ o = [o'.seg (xs ++ mks) 33] ∧ r = []) := by
  refine ct_enter Try.func45 rfl Try.ntmps45 (by kernel_rfl) rfl fun w0 => ?_
  refine c_seq ?_
  refine c_reg ?_
  refine asg (.slice _ _ _) rfl ?_
  refine jt ?_
  refine c_seq ?_
  refine c_reg ?_
  refine bsl (α := Spare) ([]) Try.underlying22 ty33.sz rfl (by decide) z33 rfl fun b5 => ⟨trivial, ?_⟩
  refine mv (.slice _ _ _) rfl ?_
  refine app 0 (⟨false, b5, 0, []⟩) ([] : List Spare) xs (⟨by simp, fun _ => rfl, Nat.le_refl _⟩) rfl ⟨rfl, rfl, rfl⟩ rfl rfl (gives_vs 1 hs rfl) Try.underlying22 Try.underlying22 (.inl ⟨_, rfl⟩) ty33.sz by33 z33 rfl (by simp; omega) rfl fun o7_1 hk7_1 => ⟨trivial, ?_⟩
  refine asg (.slice _ _ _) rfl ?_
  refine jt ?_
  refine c_seq ?_
  refine c_seq ?_
  refine c_reg ?_
  refine asg (.int _ _) rfl ?_
  refine jt ?_
  refine c_block ?_
  refine c_loop (σ := Nat × Ow) (fun ⟨k, o2⟩ => k ≤ 3 ∧ o2.ok (xs ++ mks.take k)) (fun ⟨k, o2⟩ => 3 - k) (fun ⟨k, o2⟩ => [(4, .int .i64 (k : Int)), (3, .slice o2.adr (xs ++ mks.take k).length o2.cap)]) (fun ⟨k, o2⟩ => [o2.seg (xs ++ mks.take k) 33]) (fun ⟨k, o2⟩ => [s.seg xs]) [3, 4, 8, 9, 10, 11, 12, 13, 14, 15, 16] (⟨0, o7_1⟩ : Nat × Ow) (⟨by omega, by simpa using hk7_1⟩) ⟨rfl, (by first | rfl | (simp; done) | (simp; rfl)), trivial⟩ (by first | rfl | (simp; done) | (simp; rfl)) rfl ?_
  rintro ⟨k, o2⟩ g1 hI1
  try dsimp only at hI1 ⊢
  refine c_seq ?_
  refine c_seq ?_
  refine c_reg ?_
  refine mv (.int _ _) rfl ?_
  refine cmp _ rfl rfl rfl ?_
  refine jt ?_
  refine c_cond rfl (fun h1 => ?_) (fun h1 => ?_)
  · replace h1 := of_decide_eq_true h1
    refine c_skip ?_
    refine e_then ?_
    refine c_seq ?_
    refine c_block ?_
    refine c_reg ?_
    refine mv (.slice _ _ _) rfl ?_
    refine mv (.int _ _) rfl ?_
    refine cal (mark_ct (k : Int) (by omega)) [] [0] [_] rfl rfl rfl (by kernel_rfl) impl_nil rfl ?_; rintro _ _ _ ⟨rfl, rfl, rfl⟩; refine ⟨trivial, ?_⟩
    refine bsl (α := Spare) ([(mk (k : Int))]) Try.underlying22 ty33.sz rfl (by decide) z33 rfl fun b15 => ⟨trivial, ?_⟩
    refine app 0 o2 (xs ++ mks.take k) ([(mk (k : Int))] : List Spare) hI1.2 rfl ⟨rfl, rfl, rfl⟩ rfl rfl (gives_own (ys := ([(mk (k : Int))] : List Spare)) (pre := []) (post := []) 1 rfl (by simp) rfl) Try.underlying22 Try.underlying22 (.inl ⟨_, rfl⟩) ty33.sz by33 z33 rfl (by simp [mks]; omega) rfl fun o16_2 hk16_2 => ⟨trivial, ?_⟩
    refine asg (.slice _ _ _) rfl ?_
    refine jn ?_
    refine e_in ?_
    refine e_then ?_
    refine c_reg ?_
    refine mv (.int _ _) rfl ?_
    refine addi rfl rfl rfl (by omega) ?_
    refine asg (.int _ _) rfl ?_
    refine jn ?_
    refine e_keep [0] [1] [_] rfl (by kernel_rfl) ?_
    exact e_loop (⟨k + 1, o16_2⟩ : Nat × Ow) (⟨by omega, by rw [← mks_next xs (by omega)]; exact hk16_2⟩) (by (try dsimp only); omega) (by simp only [← mks_next xs (show k < 3 by omega)] <;> exact ⟨rfl, rfl, trivial⟩) rfl (by simp only [← mks_next xs (show k < 3 by omega)] <;> rfl) rfl
  · replace h1 := of_decide_eq_false h1
    refine c_exit rfl ?_
    refine e_then ?_
    refine c_seq ?_
    refine c_reg ?_
    refine mv (.slice _ _ _) rfl ?_
    refine asg (.slice _ _ _) rfl ?_
    refine jt ?_
    refine c_ret ?_
    exact j_end (own0 := []) (ro0 := [s.seg xs]) (.inl rfl) rfl (hr1 Try.results45 (rvt (v := (.slice _ _ _)) rfl)) [0] [] [_] [] [] _ rfl rfl (by kernel_rfl) rfl impl_nil (⟨o2, by simpa [show mks.take k = mks from List.take_of_length_le (show 3 ≤ k by omega)] using hI1.2, by rw [show mks.take k = mks from List.take_of_length_le (show 3 ≤ k by omega)], by rw [show mks.take k = mks from List.take_of_length_le (show 3 ≤ k by omega)], rfl⟩)

theorem left_ct (t s : Vs) (xs : List Spare) (ht : t.ok (xs ++ mks)) (hs : s.ok xs) (hx : xs.length ≤ 2069668946341) : Ct Try.prog 46 [t.v (xs ++ mks).length, s.v xs.length] [] [t.seg (xs ++ mks), s.seg xs] (fun v o r => v = .bool true ∧ o = [] ∧ r = []) := by
  refine ct_enter Try.func46 rfl Try.ntmps46 (by kernel_rfl) rfl fun w0 => ?_
  refine c_seq ?_
  refine c_reg ?_
  refine asg (.bool _) rfl ?_
  refine jt ?_
  refine c_seq ?_
  refine c_seq ?_
  refine c_reg ?_
  refine asg (.int _ _) rfl ?_
  refine jt ?_
  refine c_block ?_
  refine c_loop (σ := Nat) (fun k => k ≤ 3) (fun k => 3 - k) (fun k => [(5, .int .i64 (k : Int))]) (fun k => []) (fun k => [t.seg (xs ++ mks), s.seg xs]) [4, 5, 6, 7, 8, 9, 10, 11, 12, 13, 14, 15, 16, 17, 18, 19] 0 (by omega) ⟨rfl, trivial⟩ rfl rfl ?_
  rintro k g1 hI1
  try dsimp only at hI1 ⊢
  refine c_seq ?_
  refine c_seq ?_
  refine c_reg ?_
  refine mv (.int _ _) rfl ?_
  refine cmp _ rfl rfl rfl ?_
  refine jt ?_
  refine c_cond rfl (fun h1 => ?_) (fun h1 => ?_)
  · replace h1 := of_decide_eq_true h1
    refine c_skip ?_
    refine e_then ?_
    refine c_seq ?_
    refine c_block ?_
    refine c_seq ?_
    refine c_dr [_, _] [] [(0, 0), (1, 0), (2, 0), (3, 0), (4, 0), (5, 0), (6, 0), (7, 0), (8, 1), (9, 0)] follows (by kernel_rfl) calm_body (keepS [0, 1] rfl) ?_
    refine mv (.slice _ _ _) rfl ?_
    refine mv (.slice _ _ _) rfl ?_
    refine lenS rfl Try.underlying22 ?_
    refine mv (.int _ _) rfl ?_
    refine addi rfl rfl rfl (by omega) ?_
    refine ixs t (xs ++ mks) (xs.length + k) ht rfl rfl rfl Try.underlying22 ty33.sz (by omega) (by simp [mks]; omega) ?_
    refine ldvs 0 _ ht rfl rfl rfl rfl (by simp [mks]; omega) ty33 ?_
    refine j_re 16 (val (mk (k : Int))) (congrArg val (mks_at xs (by omega) (by simp [mks]; omega))) ?_
    refine mv (.int _ _) rfl ?_
    refine cal (mark_ct (k : Int) (by omega)) [] [] [] rfl rfl rfl (by kernel_rfl) impl_nil rfl ?_; rintro _ _ _ ⟨rfl, rfl, rfl⟩; refine ⟨keepI [0, 1] rfl, ?_⟩
    refine eqA (mk (k : Int)) (mk (k : Int)) false rfl rfl rfl rfl eq33 rfl Try.eqGuardType33 (by simp) ?_
    refine jt ?_
    refine c_false rfl ?_
    refine c_skip ?_
    refine e_in ?_
    refine e_then ?_
    refine c_reg ?_
    refine mv (.int _ _) rfl ?_
    refine addi rfl rfl rfl (by omega) ?_
    refine asg (.int _ _) rfl ?_
    refine jn ?_
    exact e_loop (k + 1) (by omega) (by (try dsimp only); omega) (⟨rfl, trivial⟩) rfl rfl rfl
  · replace h1 := of_decide_eq_false h1
    refine c_exit rfl ?_
    refine e_then ?_
    refine c_seq ?_
    refine c_reg ?_
    refine mv (.slice _ _ _) rfl ?_
    refine mv (.slice _ _ _) rfl ?_
    refine lenS rfl Try.underlying22 ?_
    refine sli t 0 xs.length rfl Try.underlying22 ty33.sz rfl (⟨_, rfl⟩) (by simp) (by have := ht.le; simp [mks] at this; omega) (by have := ht.le; omega) ?_
    refine mv (.slice _ _ _) rfl ?_
    refine cal (sameSpares_ct (Vs.sub t 0 65) s ((List.drop 0 (xs ++ mks)).take xs.length) xs (Vs.sub_ok ht 0 xs.length 65 (by simp)) hs (by simp; omega)) [] [] [] rfl (hx_cons rfl (hx_len (by simp)) (hx_cons rfl rfl rfl)) rfl (by kernel_rfl) (impl_cons (Vs.sub_impl ht 0 xs.length (by simp) 0 rfl) (impl_cons (impl_at 1 rfl) impl_nil)) rfl ?_; rintro _ _ _ ⟨rfl, rfl, rfl⟩; refine ⟨trivial, ?_⟩
    refine j_re 25 (.bool true) (congrArg Value.bool (decide_eq_true (by simp))) ?_
    refine asg (.bool _) rfl ?_
    refine jt ?_
    refine c_ret ?_
    exact j_end (own0 := []) (ro0 := [t.seg (xs ++ mks), s.seg xs]) (.inl rfl) rfl (hr1 Try.results46 (rvt (v := (.bool _)) rfl)) [] [] [] [] [] _ rfl rfl (by kernel_rfl) rfl impl_nil (⟨rfl, rfl, rfl⟩)
end Go.Proofs.Ytacfjmjcgolhfaa
