/- Contracts of the program's functions, walked. No condition. -/
import Derived.Test.YthpbiamicidakaaDoorB4
namespace Go.Proofs.YthpbiamicidakaaDoor
open Go Go.Proofs Go.PW
open Go.PW.Enc (enc val)


set_option maxRecDepth 20000 in
set_option maxHeartbeats 4000000 in
theorem character_ct (t : Str) (hs : u8step t ≠ 0) (hl : 0 < t.length) : Ct Tryd.prog 57 [strV t] [] [] (fun v o r => v = .tuple #[.int .i64 (chr t : Int), .int .i64 (u8step t : Int)] ∧ o = [] ∧ r = []) := by
  refine ct_enter Tryd.func57 rfl Tryd.ntmps57 (by kernel_rfl) rfl fun w0 => ?_
  refine c_seq ?_
  refine c_reg ?_
  refine asg (.int _ _) rfl ?_
  refine asg (.int _ _) rfl ?_
  refine jt ?_
  refine c_seq ?_
  refine c_reg ?_
  refine mv (.string _) rfl ?_
  refine idxT (s := t) 0 rfl rfl Tryd.underlying9 rfl hl ?_
  refine cvI ((List.getD t 0 0).toNat : Int) rfl Tryd.underlying5 Tryd.underlying3 (wI64 (by have := UInt8.toNat_lt (List.getD t 0 0); omega)) ?_
  refine asg (.int _ _) rfl ?_
  refine jt ?_
  refine c_seq ?_
  refine c_reg ?_
  refine asg (.int _ _) rfl ?_
  refine jt ?_
  refine c_seq ?_
  refine c_seq ?_
  refine c_reg ?_
  refine mv (.int _ _) rfl ?_
  refine cmp _ rfl rfl rfl ?_
  refine jt ?_
  refine c_cond rfl (fun h1 => ?_) (fun h1 => ?_)
  · replace h1 := of_decide_eq_true h1
    refine c_reg ?_
    refine mv (.int _ _) rfl ?_
    refine remn (a := (List.getD t 0 0).toNat) (b := 8) rfl rfl (by decide) ?_
    refine asg (.int _ _) rfl ?_
    refine asg (.int _ _) rfl ?_
    refine jt ?_
    refine c_seq ?_
    refine c_seq ?_
    have HB0 := UInt8.toNat_lt (List.getD t 0 0)
    have HC : chr t = (((((List.getD t 0 0).toNat % 8)) * 64 + (List.getD t 1 0).toNat % 64) * 64 + (List.getD t 2 0).toNat % 64) * 64 + (List.getD t 3 0).toNat % 64 ∧ u8step t = 4 := by rcases u8_cases hs with c | c | c | c <;> first | exact ⟨c.chr, c.k⟩ | (have := c.a; omega)
    have HLN : 4 ≤ t.length := by have := u8step_le hs hl; have := HC.2; omega
    refine c_reg ?_
    refine asg (.int _ _) rfl ?_
    refine jt ?_
    refine c_block ?_
    refine c_loop (σ := Nat × Nat) (fun (i, c) => (i = 1 ∧ c = ((List.getD t 0 0).toNat % 8)) ∨ (i = 2 ∧ c = (((List.getD t 0 0).toNat % 8)) * 64 + (List.getD t 1 0).toNat % 64) ∨ (i = 3 ∧ c = ((((List.getD t 0 0).toNat % 8)) * 64 + (List.getD t 1 0).toNat % 64) * 64 + (List.getD t 2 0).toNat % 64) ∨ (i = 4 ∧ c = (((((List.getD t 0 0).toNat % 8)) * 64 + (List.getD t 1 0).toNat % 64) * 64 + (List.getD t 2 0).toNat % 64) * 64 + (List.getD t 3 0).toNat % 64)) (fun (i, c) => 4 - i) (fun (i, c) => [(6, .int .i64 (i : Int)), (4, .int .i64 (c : Int))]) (fun (i, c) => []) (fun (i, c) => []) [4, 6, 22, 23, 24, 25, 26, 27, 28, 29, 30, 31, 32, 33, 34] (1, ((List.getD t 0 0).toNat % 8)) (by simp) ⟨rfl, rfl, trivial⟩ rfl rfl ?_
    rintro ⟨i, c⟩ g1 hI1
    try dsimp only at hI1 ⊢
    have HB1 := UInt8.toNat_lt (List.getD t i 0)
    refine c_seq ?_
    refine c_seq ?_
    refine c_reg ?_
    refine mv (.int _ _) rfl ?_
    refine mv (.int _ _) rfl ?_
    refine cmp _ rfl rfl rfl ?_
    refine jt ?_
    refine c_cond rfl (fun h2 => ?_) (fun h2 => ?_)
    · replace h2 := of_decide_eq_true h2
      refine c_skip ?_
      refine e_then ?_
      refine c_seq ?_
      refine c_block ?_
      refine c_reg ?_
      refine mv (.int _ _) rfl ?_
      refine muli rfl rfl rfl (by omega) ?_
      refine mv (.string _) rfl ?_
      refine mv (.int _ _) rfl ?_
      refine idxT (s := t) i rfl rfl Tryd.underlying9 rfl (by omega) ?_
      refine cvI ((List.getD t i 0).toNat : Int) rfl Tryd.underlying5 Tryd.underlying3 (wI64 (by have := UInt8.toNat_lt (List.getD t i 0); omega)) ?_
      refine remn (a := (List.getD t i 0).toNat) (b := 64) rfl rfl (by decide) ?_
      refine addi rfl rfl rfl (by omega) ?_
      refine asg (.int _ _) rfl ?_
      refine jn ?_
      refine e_in ?_
      refine e_then ?_
      refine c_reg ?_
      refine mv (.int _ _) rfl ?_
      refine addi rfl rfl rfl (by omega) ?_
      refine asg (.int _ _) rfl ?_
      refine jn ?_
      exact e_loop (i + 1, c * 64 + (List.getD t i 0).toNat % 64) (by rcases hI1 with ⟨hi, hc⟩ | ⟨hi, hc⟩ | ⟨hi, hc⟩ | ⟨hi, hc⟩ <;> subst hi <;> omega) (by show 4 - (i + 1) < 4 - i; omega) (⟨rfl, congrArg (Value.int _) (by omega), trivial⟩) rfl rfl rfl
    · replace h2 := of_decide_eq_false h2
      refine c_exit rfl ?_
      refine e_then ?_
      refine c_seq ?_
      refine c_reg ?_
      refine mv (.int _ _) rfl ?_
      refine mv (.int _ _) rfl ?_
      refine asg (.int _ _) rfl ?_
      refine asg (.int _ _) rfl ?_
      refine jt ?_
      refine c_ret ?_
      exact j_end (own0 := []) (ro0 := []) (.inl rfl) rfl (hr2 Tryd.results57 (rvt (v := (.int _ _)) rfl) (rvt (v := (.int _ _)) rfl)) [] [] [] [] [] _ rfl rfl (by kernel_rfl) rfl impl_nil (⟨by rw [HC.1, HC.2, show c = (((((List.getD t 0 0).toNat % 8)) * 64 + (List.getD t 1 0).toNat % 64) * 64 + (List.getD t 2 0).toNat % 64) * 64 + (List.getD t 3 0).toNat % 64 by omega]; rfl, rfl, rfl⟩)
  · replace h1 := of_decide_eq_false h1
    refine c_seq ?_
    refine c_reg ?_
    refine mv (.int _ _) rfl ?_
    refine cmp _ rfl rfl rfl ?_
    refine jt ?_
    refine c_cond rfl (fun h3 => ?_) (fun h3 => ?_)
    · replace h3 := of_decide_eq_true h3
      refine c_reg ?_
      refine mv (.int _ _) rfl ?_
      refine remn (a := (List.getD t 0 0).toNat) (b := 16) rfl rfl (by decide) ?_
      refine asg (.int _ _) rfl ?_
      refine asg (.int _ _) rfl ?_
      refine jt ?_
      refine c_seq ?_
      refine c_seq ?_
      have HB0 := UInt8.toNat_lt (List.getD t 0 0)
      have HC : chr t = ((((List.getD t 0 0).toNat % 16)) * 64 + (List.getD t 1 0).toNat % 64) * 64 + (List.getD t 2 0).toNat % 64 ∧ u8step t = 3 := by rcases u8_cases hs with c | c | c | c <;> first | exact ⟨c.chr, c.k⟩ | (have := c.a; omega)
      have HLN : 3 ≤ t.length := by have := u8step_le hs hl; have := HC.2; omega
      refine c_reg ?_
      refine asg (.int _ _) rfl ?_
      refine jt ?_
      refine c_block ?_
      refine c_loop (σ := Nat × Nat) (fun (i, c) => (i = 1 ∧ c = ((List.getD t 0 0).toNat % 16)) ∨ (i = 2 ∧ c = (((List.getD t 0 0).toNat % 16)) * 64 + (List.getD t 1 0).toNat % 64) ∨ (i = 3 ∧ c = ((((List.getD t 0 0).toNat % 16)) * 64 + (List.getD t 1 0).toNat % 64) * 64 + (List.getD t 2 0).toNat % 64)) (fun (i, c) => 4 - i) (fun (i, c) => [(6, .int .i64 (i : Int)), (4, .int .i64 (c : Int))]) (fun (i, c) => []) (fun (i, c) => []) [4, 6, 22, 23, 24, 25, 26, 27, 28, 29, 30, 31, 32, 33, 34] (1, ((List.getD t 0 0).toNat % 16)) (by simp) ⟨rfl, rfl, trivial⟩ rfl rfl ?_
      rintro ⟨i, c⟩ g1 hI1
      try dsimp only at hI1 ⊢
      have HB1 := UInt8.toNat_lt (List.getD t i 0)
      refine c_seq ?_
      refine c_seq ?_
      refine c_reg ?_
      refine mv (.int _ _) rfl ?_
      refine mv (.int _ _) rfl ?_
      refine cmp _ rfl rfl rfl ?_
      refine jt ?_
      refine c_cond rfl (fun h4 => ?_) (fun h4 => ?_)
      · replace h4 := of_decide_eq_true h4
        refine c_skip ?_
        refine e_then ?_
        refine c_seq ?_
        refine c_block ?_
        refine c_reg ?_
        refine mv (.int _ _) rfl ?_
        refine muli rfl rfl rfl (by omega) ?_
        refine mv (.string _) rfl ?_
        refine mv (.int _ _) rfl ?_
        refine idxT (s := t) i rfl rfl Tryd.underlying9 rfl (by omega) ?_
        refine cvI ((List.getD t i 0).toNat : Int) rfl Tryd.underlying5 Tryd.underlying3 (wI64 (by have := UInt8.toNat_lt (List.getD t i 0); omega)) ?_
        refine remn (a := (List.getD t i 0).toNat) (b := 64) rfl rfl (by decide) ?_
        refine addi rfl rfl rfl (by omega) ?_
        refine asg (.int _ _) rfl ?_
        refine jn ?_
        refine e_in ?_
        refine e_then ?_
        refine c_reg ?_
        refine mv (.int _ _) rfl ?_
        refine addi rfl rfl rfl (by omega) ?_
        refine asg (.int _ _) rfl ?_
        refine jn ?_
        exact e_loop (i + 1, c * 64 + (List.getD t i 0).toNat % 64) (by rcases hI1 with ⟨hi, hc⟩ | ⟨hi, hc⟩ | ⟨hi, hc⟩ <;> subst hi <;> omega) (by show 4 - (i + 1) < 4 - i; omega) (⟨rfl, congrArg (Value.int _) (by omega), trivial⟩) rfl rfl rfl
      · replace h4 := of_decide_eq_false h4
        refine c_exit rfl ?_
        refine e_then ?_
        refine c_seq ?_
        refine c_reg ?_
        refine mv (.int _ _) rfl ?_
        refine mv (.int _ _) rfl ?_
        refine asg (.int _ _) rfl ?_
        refine asg (.int _ _) rfl ?_
        refine jt ?_
        refine c_ret ?_
        exact j_end (own0 := []) (ro0 := []) (.inl rfl) rfl (hr2 Tryd.results57 (rvt (v := (.int _ _)) rfl) (rvt (v := (.int _ _)) rfl)) [] [] [] [] [] _ rfl rfl (by kernel_rfl) rfl impl_nil (⟨by rw [HC.1, HC.2, show c = ((((List.getD t 0 0).toNat % 16)) * 64 + (List.getD t 1 0).toNat % 64) * 64 + (List.getD t 2 0).toNat % 64 by omega]; rfl, rfl, rfl⟩)
    · replace h3 := of_decide_eq_false h3
      refine c_seq ?_
      refine c_reg ?_
      refine mv (.int _ _) rfl ?_
      refine cmp _ rfl rfl rfl ?_
      refine jt ?_
      refine c_cond rfl (fun h5 => ?_) (fun h5 => ?_)
      · replace h5 := of_decide_eq_true h5
        refine c_reg ?_
        refine mv (.int _ _) rfl ?_
        refine remn (a := (List.getD t 0 0).toNat) (b := 32) rfl rfl (by decide) ?_
        refine asg (.int _ _) rfl ?_
        refine asg (.int _ _) rfl ?_
        refine jt ?_
        refine c_seq ?_
        refine c_seq ?_
        have HB0 := UInt8.toNat_lt (List.getD t 0 0)
        have HC : chr t = (((List.getD t 0 0).toNat % 32)) * 64 + (List.getD t 1 0).toNat % 64 ∧ u8step t = 2 := by rcases u8_cases hs with c | c | c | c <;> first | exact ⟨c.chr, c.k⟩ | (have := c.a; omega)
        have HLN : 2 ≤ t.length := by have := u8step_le hs hl; have := HC.2; omega
        refine c_reg ?_
        refine asg (.int _ _) rfl ?_
        refine jt ?_
        refine c_block ?_
        refine c_loop (σ := Nat × Nat) (fun (i, c) => (i = 1 ∧ c = ((List.getD t 0 0).toNat % 32)) ∨ (i = 2 ∧ c = (((List.getD t 0 0).toNat % 32)) * 64 + (List.getD t 1 0).toNat % 64)) (fun (i, c) => 4 - i) (fun (i, c) => [(6, .int .i64 (i : Int)), (4, .int .i64 (c : Int))]) (fun (i, c) => []) (fun (i, c) => []) [4, 6, 22, 23, 24, 25, 26, 27, 28, 29, 30, 31, 32, 33, 34] (1, ((List.getD t 0 0).toNat % 32)) (by simp) ⟨rfl, rfl, trivial⟩ rfl rfl ?_
        rintro ⟨i, c⟩ g1 hI1
        try dsimp only at hI1 ⊢
        have HB1 := UInt8.toNat_lt (List.getD t i 0)
        refine c_seq ?_
        refine c_seq ?_
        refine c_reg ?_
        refine mv (.int _ _) rfl ?_
        refine mv (.int _ _) rfl ?_
        refine cmp _ rfl rfl rfl ?_
        refine jt ?_
        refine c_cond rfl (fun h6 => ?_) (fun h6 => ?_)
        · replace h6 := of_decide_eq_true h6
          refine c_skip ?_
          refine e_then ?_
          refine c_seq ?_
          refine c_block ?_
          refine c_reg ?_
          refine mv (.int _ _) rfl ?_
          refine muli rfl rfl rfl (by omega) ?_
          refine mv (.string _) rfl ?_
          refine mv (.int _ _) rfl ?_
          refine idxT (s := t) i rfl rfl Tryd.underlying9 rfl (by omega) ?_
          refine cvI ((List.getD t i 0).toNat : Int) rfl Tryd.underlying5 Tryd.underlying3 (wI64 (by have := UInt8.toNat_lt (List.getD t i 0); omega)) ?_
          refine remn (a := (List.getD t i 0).toNat) (b := 64) rfl rfl (by decide) ?_
          refine addi rfl rfl rfl (by omega) ?_
          refine asg (.int _ _) rfl ?_
          refine jn ?_
          refine e_in ?_
          refine e_then ?_
          refine c_reg ?_
          refine mv (.int _ _) rfl ?_
          refine addi rfl rfl rfl (by omega) ?_
          refine asg (.int _ _) rfl ?_
          refine jn ?_
          exact e_loop (i + 1, c * 64 + (List.getD t i 0).toNat % 64) (by rcases hI1 with ⟨hi, hc⟩ | ⟨hi, hc⟩ <;> subst hi <;> omega) (by show 4 - (i + 1) < 4 - i; omega) (⟨rfl, congrArg (Value.int _) (by omega), trivial⟩) rfl rfl rfl
        · replace h6 := of_decide_eq_false h6
          refine c_exit rfl ?_
          refine e_then ?_
          refine c_seq ?_
          refine c_reg ?_
          refine mv (.int _ _) rfl ?_
          refine mv (.int _ _) rfl ?_
          refine asg (.int _ _) rfl ?_
          refine asg (.int _ _) rfl ?_
          refine jt ?_
          refine c_ret ?_
          exact j_end (own0 := []) (ro0 := []) (.inl rfl) rfl (hr2 Tryd.results57 (rvt (v := (.int _ _)) rfl) (rvt (v := (.int _ _)) rfl)) [] [] [] [] [] _ rfl rfl (by kernel_rfl) rfl impl_nil (⟨by rw [HC.1, HC.2, show c = (((List.getD t 0 0).toNat % 32)) * 64 + (List.getD t 1 0).toNat % 64 by omega]; rfl, rfl, rfl⟩)
      · replace h5 := of_decide_eq_false h5
        refine c_skip ?_
        refine e_then ?_
        refine c_seq ?_
        refine c_seq ?_
        have HB0 := UInt8.toNat_lt (List.getD t 0 0)
        have HC : chr t = (List.getD t 0 0).toNat ∧ u8step t = 1 := by rcases u8_cases hs with c | c | c | c <;> first | exact ⟨c.chr, c.k⟩ | (have := c.a; omega)
        have HLN : 1 ≤ t.length := by have := u8step_le hs hl; have := HC.2; omega
        refine c_reg ?_
        refine asg (.int _ _) rfl ?_
        refine jt ?_
        refine c_block ?_
        refine c_loop (σ := Nat × Nat) (fun (i, c) => (i = 1 ∧ c = (List.getD t 0 0).toNat)) (fun (i, c) => 4 - i) (fun (i, c) => [(6, .int .i64 (i : Int)), (4, .int .i64 (c : Int))]) (fun (i, c) => []) (fun (i, c) => []) [4, 6, 22, 23, 24, 25, 26, 27, 28, 29, 30, 31, 32, 33, 34] (1, (List.getD t 0 0).toNat) (by simp) ⟨rfl, rfl, trivial⟩ rfl rfl ?_
        rintro ⟨i, c⟩ g1 hI1
        try dsimp only at hI1 ⊢
        have HB1 := UInt8.toNat_lt (List.getD t i 0)
        refine c_seq ?_
        refine c_seq ?_
        refine c_reg ?_
        refine mv (.int _ _) rfl ?_
        refine mv (.int _ _) rfl ?_
        refine cmp _ rfl rfl rfl ?_
        refine jt ?_
        refine c_cond rfl (fun h7 => ?_) (fun h7 => ?_)
        · replace h7 := of_decide_eq_true h7
          refine c_skip ?_
          refine e_then ?_
          refine c_seq ?_
          refine c_block ?_
          refine c_reg ?_
          refine mv (.int _ _) rfl ?_
          refine muli rfl rfl rfl (by omega) ?_
          refine mv (.string _) rfl ?_
          refine mv (.int _ _) rfl ?_
          refine idxT (s := t) i rfl rfl Tryd.underlying9 rfl (by omega) ?_
          refine cvI ((List.getD t i 0).toNat : Int) rfl Tryd.underlying5 Tryd.underlying3 (wI64 (by have := UInt8.toNat_lt (List.getD t i 0); omega)) ?_
          refine remn (a := (List.getD t i 0).toNat) (b := 64) rfl rfl (by decide) ?_
          refine addi rfl rfl rfl (by omega) ?_
          refine asg (.int _ _) rfl ?_
          refine jn ?_
          refine e_in ?_
          refine e_then ?_
          refine c_reg ?_
          refine mv (.int _ _) rfl ?_
          refine addi rfl rfl rfl (by omega) ?_
          refine asg (.int _ _) rfl ?_
          refine jn ?_
          exact e_loop (i + 1, c * 64 + (List.getD t i 0).toNat % 64) (by obtain ⟨hi, hc⟩ := hI1; omega) (by show 4 - (i + 1) < 4 - i; omega) (⟨rfl, congrArg (Value.int _) (by omega), trivial⟩) rfl rfl rfl
        · replace h7 := of_decide_eq_false h7
          refine c_exit rfl ?_
          refine e_then ?_
          refine c_seq ?_
          refine c_reg ?_
          refine mv (.int _ _) rfl ?_
          refine mv (.int _ _) rfl ?_
          refine asg (.int _ _) rfl ?_
          refine asg (.int _ _) rfl ?_
          refine jt ?_
          refine c_ret ?_
          exact j_end (own0 := []) (ro0 := []) (.inl rfl) rfl (hr2 Tryd.results57 (rvt (v := (.int _ _)) rfl) (rvt (v := (.int _ _)) rfl)) [] [] [] [] [] _ rfl rfl (by kernel_rfl) rfl impl_nil (⟨by rw [HC.1, HC.2, show c = (List.getD t 0 0).toNat by omega]; rfl, rfl, rfl⟩)
end Go.Proofs.YthpbiamicidakaaDoor
