/- Contracts of the program's functions, walked. No condition. -/
import Derived.Test.YthpbiamicidakaaDoorA9
import Derived.Test.YthpbiamicidakaaDoorH3
namespace Go.Proofs.YthpbiamicidakaaDoor
open Go Go.Proofs Go.PW
open Go.PW.Enc (enc val)


theorem small_ct (n : Nat) (hn : n < 100) : Ct Tryd.prog 73 [.int .i64 (n : Int)] [] [] (fun v o r => v = strV (fmtN 10 n) ∧ o = [] ∧ r = []) := by
  refine ct_enter Tryd.func73 rfl Tryd.ntmps73 (by kernel_rfl) rfl fun w0 => ?_
  refine c_seq ?_
  refine c_reg ?_
  refine asg (.string _) rfl ?_
  refine jt ?_
  refine c_seq ?_
  refine c_seq ?_
  refine c_reg ?_
  refine mv (.int _ _) rfl ?_
  refine cmp _ rfl rfl rfl ?_
  refine jt ?_
  refine c_cond rfl (fun h1 => ?_) (fun h1 => ?_)
  · replace h1 := of_decide_eq_true h1
    refine c_seq ?_
    refine c_reg ?_
    refine mv (.int _ _) rfl ?_
    refine mv (.int _ _) rfl ?_
    refine addi rfl rfl rfl (by omega) ?_
    refine cutT (s := digitsL) n (n + 1) (by kernel_rfl) Tryd.underlying9 ⟨_, rfl⟩ ⟨_, congrArg (Value.int _) (by omega)⟩ (by omega) (by simp [digitsL]; omega) (List.take ((n + 1) - n) (List.drop n digitsL)) rfl ?_
    refine asg (.string _) rfl ?_
    refine jt ?_
    refine c_ret ?_
    exact j_end (own0 := []) (ro0 := []) (.inl rfl) rfl (hr1 Tryd.results73 (rvt (v := (.string _)) rfl)) [] [] [] [] [] _ rfl rfl (by kernel_rfl) rfl impl_nil (⟨by rw [← small_one n (by omega)]; simp, rfl, rfl⟩)
  · replace h1 := of_decide_eq_false h1
    refine c_skip ?_
    refine e_then ?_
    refine c_seq ?_
    refine c_reg ?_
    refine mv (.int _ _) rfl ?_
    refine muli rfl rfl rfl (by omega) ?_
    refine mv (.int _ _) rfl ?_
    refine muli rfl rfl rfl (by omega) ?_
    refine addi rfl rfl rfl (by omega) ?_
    refine cutT (s := smallsL) (2 * n) (2 * n + 2) (by kernel_rfl) Tryd.underlying9 ⟨_, congrArg (Value.int _) (by omega)⟩ ⟨_, congrArg (Value.int _) (by omega)⟩ (by omega) (by rw [smallsL_length]; omega) (List.take ((2 * n + 2) - (2 * n)) (List.drop (2 * n) smallsL)) rfl ?_
    refine asg (.string _) rfl ?_
    refine jt ?_
    refine c_ret ?_
    exact j_end (own0 := []) (ro0 := []) (.inl rfl) rfl (hr1 Tryd.results73 (rvt (v := (.string _)) rfl)) [] [] [] [] [] _ rfl rfl (by kernel_rfl) rfl impl_nil (⟨by rw [← small_two n hn (by omega)]; simp, rfl, rfl⟩)

theorem log10Pow2_ct (n : Nat) (hn : n ≤ 64) : Ct Tryd.prog 91 [.int .i64 (n : Int)] [] [] (fun v o r => v = .int .i64 ((n * 78913 / 262144 : Nat) : Int) ∧ o = [] ∧ r = []) := by
  refine ct_enter Tryd.func91 rfl Tryd.ntmps91 (by kernel_rfl) rfl fun w0 => ?_
  refine c_seq ?_
  refine c_reg ?_
  refine asg (.int _ _) rfl ?_
  refine jt ?_
  refine c_seq ?_
  refine c_reg ?_
  refine mv (.int _ _) rfl ?_
  refine muli rfl rfl rfl (by omega) ?_
  refine shrI (m := 262144) 18 rfl rfl rfl (by decide) ?_
  refine asg (.int _ _) rfl ?_
  refine jt ?_
  refine c_ret ?_
  exact j_end (own0 := []) (ro0 := []) (.inl rfl) rfl (hr1 Tryd.results91 (rvt (v := (.int _ _)) rfl)) [] [] [] [] [] _ rfl rfl (by kernel_rfl) rfl impl_nil (⟨congrArg (Value.int _) (by omega), rfl, rfl⟩)

theorem bool2_ct (b : Bool) : Ct Tryd.prog 93 [.bool b] [] [] (fun v o r => v = .int .i64 (if b = true then 1 else 0) ∧ o = [] ∧ r = []) := by
  refine ct_enter Tryd.func93 rfl Tryd.ntmps93 (by kernel_rfl) rfl fun w0 => ?_
  refine c_seq ?_
  refine c_reg ?_
  refine asg (.int _ _) rfl ?_
  refine jt ?_
  refine c_seq ?_
  refine c_seq ?_
  refine c_reg ?_
  refine mv (.bool _) rfl ?_
  refine jt ?_
  refine c_cond rfl (fun h1 => ?_) (fun h1 => ?_)
  · refine c_seq ?_
    refine c_reg ?_
    refine asg (.int _ _) rfl ?_
    refine jt ?_
    refine c_ret ?_
    exact j_end (own0 := []) (ro0 := []) (.inl rfl) rfl (hr1 Tryd.results93 (rvt (v := (.int _ _)) rfl)) [] [] [] [] [] _ rfl rfl (by kernel_rfl) rfl impl_nil (⟨by rw [h1]; rfl, rfl, rfl⟩)
  · refine c_skip ?_
    refine e_then ?_
    refine c_seq ?_
    refine c_reg ?_
    refine asg (.int _ _) rfl ?_
    refine jt ?_
    refine c_ret ?_
    exact j_end (own0 := []) (ro0 := []) (.inl rfl) rfl (hr1 Tryd.results93 (rvt (v := (.int _ _)) rfl)) [] [] [] [] [] _ rfl rfl (by kernel_rfl) rfl impl_nil (⟨by rw [h1]; rfl, rfl, rfl⟩)

set_option maxRecDepth 20000 in
set_option maxHeartbeats 4000000 in
theorem Len64_ct (x : UInt64) : Ct Tryd.prog 92 [.int .u64 (x.toNat : Int)] [] [] (fun v o r => v = .int .i64 (blen x.toNat : Int) ∧ o = [] ∧ r = []) := by
  have HX := x.toNat_lt
  refine ct_enter Tryd.func92 rfl Tryd.ntmps92 (by kernel_rfl) rfl fun w0 => ?_
  refine c_seq ?_
  refine c_reg ?_
  refine asg (.int _ _) rfl ?_
  refine jt ?_
  refine c_seq ?_
  refine c_seq ?_
  refine c_reg ?_
  refine mv (.int _ _) rfl ?_
  refine cmp _ rfl rfl rfl ?_
  refine jt ?_
  refine c_cond rfl (fun h1 => ?_) (fun h1 => ?_)
  · replace h1 := of_decide_eq_true h1
    refine c_seq ?_
    refine c_reg ?_
    refine mv (.int _ _) rfl ?_
    refine shrRU64 (a := x) 32 rfl rfl rfl ?_
    refine asg (.int _ _) rfl ?_
    refine jt ?_
    refine c_reg ?_
    refine asg (.int _ _) rfl ?_
    refine jt ?_
    refine c_seq ?_
    refine c_seq ?_
    refine c_reg ?_
    refine mv (.int _ _) rfl ?_
    refine cmp _ rfl rfl rfl ?_
    refine jt ?_
    refine c_cond rfl (fun h2 => ?_) (fun h2 => ?_)
    · replace h2 := of_decide_eq_true h2
      refine c_seq ?_
      refine c_reg ?_
      refine mv (.int _ _) rfl ?_
      refine shrRU64 (a := (shrU64 x 32)) 16 rfl rfl rfl ?_
      refine asg (.int _ _) rfl ?_
      refine jt ?_
      refine c_reg ?_
      refine mv (.int _ _) rfl ?_
      refine bopI (.int .i64 48) rfl rfl (by kernel_rfl) ?_
      refine asg (.int _ _) rfl ?_
      refine jt ?_
      refine c_seq ?_
      refine c_seq ?_
      refine c_reg ?_
      refine mv (.int _ _) rfl ?_
      refine cmp _ rfl rfl rfl ?_
      refine jt ?_
      refine c_cond rfl (fun h3 => ?_) (fun h3 => ?_)
      · replace h3 := of_decide_eq_true h3
        refine c_seq ?_
        refine c_reg ?_
        refine mv (.int _ _) rfl ?_
        refine shrRU64 (a := (shrU64 (shrU64 x 32) 16)) 8 rfl rfl rfl ?_
        refine asg (.int _ _) rfl ?_
        refine jt ?_
        refine c_reg ?_
        refine mv (.int _ _) rfl ?_
        refine bopI (.int .i64 56) rfl rfl (by kernel_rfl) ?_
        refine asg (.int _ _) rfl ?_
        refine jt ?_
        refine c_seq ?_
        refine c_reg ?_
        refine mv (.int _ _) rfl ?_
        refine mv (.int _ _) rfl ?_
        refine cvNU8 (n := (shrU64 (shrU64 (shrU64 x 32) 16) 8).toNat) rfl Tryd.underlying23 Tryd.underlying5 ?_
        refine idxT (s := len8L) ((UInt8.ofNat ((shrU64 (shrU64 (shrU64 x 32) 16) 8).toNat)).toNat) (by kernel_rfl) rfl Tryd.underlying9 rfl (by rw [len8_length]; exact UInt8.toNat_lt _) ?_
        have H9 := UInt8.toNat_lt (List.getD len8L ((UInt8.ofNat ((shrU64 (shrU64 (shrU64 x 32) 16) 8).toNat)).toNat) 0)
        refine cvI ((List.getD len8L ((UInt8.ofNat ((shrU64 (shrU64 (shrU64 x 32) 16) 8).toNat)).toNat) 0).toNat : Int) rfl Tryd.underlying5 Tryd.underlying3 (wI64 (by have := UInt8.toNat_lt (List.getD len8L ((UInt8.ofNat ((shrU64 (shrU64 (shrU64 x 32) 16) 8).toNat)).toNat) 0); omega)) ?_
        refine addi rfl rfl rfl (by omega) ?_
        refine asg (.int _ _) rfl ?_
        refine jt ?_
        refine c_ret ?_
        exact j_end (own0 := []) (ro0 := []) (.inl rfl) rfl (hr1 Tryd.results92 (rvt (v := (.int _ _)) rfl)) [] [] [] [] [] _ rfl rfl (by kernel_rfl) rfl impl_nil (⟨congrArg (Value.int _) (by rw [len8_at _ (UInt8.toNat_lt _)]; simp only [UInt8.toNat_ofNat', shrU64_toNat, Nat.reducePow] at *; exact len_p (s := 56) (by omega) (by omega)), rfl, rfl⟩)
      · replace h3 := of_decide_eq_false h3
        refine c_skip ?_
        refine e_then ?_
        refine c_seq ?_
        refine c_reg ?_
        refine mv (.int _ _) rfl ?_
        refine mv (.int _ _) rfl ?_
        refine cvNU8 (n := (shrU64 (shrU64 x 32) 16).toNat) rfl Tryd.underlying23 Tryd.underlying5 ?_
        refine idxT (s := len8L) ((UInt8.ofNat ((shrU64 (shrU64 x 32) 16).toNat)).toNat) (by kernel_rfl) rfl Tryd.underlying9 rfl (by rw [len8_length]; exact UInt8.toNat_lt _) ?_
        have H9 := UInt8.toNat_lt (List.getD len8L ((UInt8.ofNat ((shrU64 (shrU64 x 32) 16).toNat)).toNat) 0)
        refine cvI ((List.getD len8L ((UInt8.ofNat ((shrU64 (shrU64 x 32) 16).toNat)).toNat) 0).toNat : Int) rfl Tryd.underlying5 Tryd.underlying3 (wI64 (by have := UInt8.toNat_lt (List.getD len8L ((UInt8.ofNat ((shrU64 (shrU64 x 32) 16).toNat)).toNat) 0); omega)) ?_
        refine addi rfl rfl rfl (by omega) ?_
        refine asg (.int _ _) rfl ?_
        refine jt ?_
        refine c_ret ?_
        exact j_end (own0 := []) (ro0 := []) (.inl rfl) rfl (hr1 Tryd.results92 (rvt (v := (.int _ _)) rfl)) [] [] [] [] [] _ rfl rfl (by kernel_rfl) rfl impl_nil (⟨congrArg (Value.int _) (by rw [len8_at _ (UInt8.toNat_lt _)]; simp only [UInt8.toNat_ofNat', shrU64_toNat, Nat.reducePow] at *; exact len_p (s := 48) (by omega) (by omega)), rfl, rfl⟩)
    · replace h2 := of_decide_eq_false h2
      refine c_skip ?_
      refine e_then ?_
      refine c_seq ?_
      refine c_seq ?_
      refine c_reg ?_
      refine mv (.int _ _) rfl ?_
      refine cmp _ rfl rfl rfl ?_
      refine jt ?_
      refine c_cond rfl (fun h4 => ?_) (fun h4 => ?_)
      · replace h4 := of_decide_eq_true h4
        refine c_seq ?_
        refine c_reg ?_
        refine mv (.int _ _) rfl ?_
        refine shrRU64 (a := (shrU64 x 32)) 8 rfl rfl rfl ?_
        refine asg (.int _ _) rfl ?_
        refine jt ?_
        refine c_reg ?_
        refine mv (.int _ _) rfl ?_
        refine bopI (.int .i64 40) rfl rfl (by kernel_rfl) ?_
        refine asg (.int _ _) rfl ?_
        refine jt ?_
        refine c_seq ?_
        refine c_reg ?_
        refine mv (.int _ _) rfl ?_
        refine mv (.int _ _) rfl ?_
        refine cvNU8 (n := (shrU64 (shrU64 x 32) 8).toNat) rfl Tryd.underlying23 Tryd.underlying5 ?_
        refine idxT (s := len8L) ((UInt8.ofNat ((shrU64 (shrU64 x 32) 8).toNat)).toNat) (by kernel_rfl) rfl Tryd.underlying9 rfl (by rw [len8_length]; exact UInt8.toNat_lt _) ?_
        have H9 := UInt8.toNat_lt (List.getD len8L ((UInt8.ofNat ((shrU64 (shrU64 x 32) 8).toNat)).toNat) 0)
        refine cvI ((List.getD len8L ((UInt8.ofNat ((shrU64 (shrU64 x 32) 8).toNat)).toNat) 0).toNat : Int) rfl Tryd.underlying5 Tryd.underlying3 (wI64 (by have := UInt8.toNat_lt (List.getD len8L ((UInt8.ofNat ((shrU64 (shrU64 x 32) 8).toNat)).toNat) 0); omega)) ?_
        refine addi rfl rfl rfl (by omega) ?_
        refine asg (.int _ _) rfl ?_
        refine jt ?_
        refine c_ret ?_
        exact j_end (own0 := []) (ro0 := []) (.inl rfl) rfl (hr1 Tryd.results92 (rvt (v := (.int _ _)) rfl)) [] [] [] [] [] _ rfl rfl (by kernel_rfl) rfl impl_nil (⟨congrArg (Value.int _) (by rw [len8_at _ (UInt8.toNat_lt _)]; simp only [UInt8.toNat_ofNat', shrU64_toNat, Nat.reducePow] at *; exact len_p (s := 40) (by omega) (by omega)), rfl, rfl⟩)
      · replace h4 := of_decide_eq_false h4
        refine c_skip ?_
        refine e_then ?_
        refine c_seq ?_
        refine c_reg ?_
        refine mv (.int _ _) rfl ?_
        refine mv (.int _ _) rfl ?_
        refine cvNU8 (n := (shrU64 x 32).toNat) rfl Tryd.underlying23 Tryd.underlying5 ?_
        refine idxT (s := len8L) ((UInt8.ofNat ((shrU64 x 32).toNat)).toNat) (by kernel_rfl) rfl Tryd.underlying9 rfl (by rw [len8_length]; exact UInt8.toNat_lt _) ?_
        have H9 := UInt8.toNat_lt (List.getD len8L ((UInt8.ofNat ((shrU64 x 32).toNat)).toNat) 0)
        refine cvI ((List.getD len8L ((UInt8.ofNat ((shrU64 x 32).toNat)).toNat) 0).toNat : Int) rfl Tryd.underlying5 Tryd.underlying3 (wI64 (by have := UInt8.toNat_lt (List.getD len8L ((UInt8.ofNat ((shrU64 x 32).toNat)).toNat) 0); omega)) ?_
        refine addi rfl rfl rfl (by omega) ?_
        refine asg (.int _ _) rfl ?_
        refine jt ?_
        refine c_ret ?_
        exact j_end (own0 := []) (ro0 := []) (.inl rfl) rfl (hr1 Tryd.results92 (rvt (v := (.int _ _)) rfl)) [] [] [] [] [] _ rfl rfl (by kernel_rfl) rfl impl_nil (⟨congrArg (Value.int _) (by rw [len8_at _ (UInt8.toNat_lt _)]; simp only [UInt8.toNat_ofNat', shrU64_toNat, Nat.reducePow] at *; exact len_p (s := 32) (by omega) (by omega)), rfl, rfl⟩)
  · replace h1 := of_decide_eq_false h1
    refine c_skip ?_
    refine e_then ?_
    refine c_seq ?_
    refine c_seq ?_
    refine c_reg ?_
    refine mv (.int _ _) rfl ?_
    refine cmp _ rfl rfl rfl ?_
    refine jt ?_
    refine c_cond rfl (fun h5 => ?_) (fun h5 => ?_)
    · replace h5 := of_decide_eq_true h5
      refine c_seq ?_
      refine c_reg ?_
      refine mv (.int _ _) rfl ?_
      refine shrRU64 (a := x) 16 rfl rfl rfl ?_
      refine asg (.int _ _) rfl ?_
      refine jt ?_
      refine c_reg ?_
      refine mv (.int _ _) rfl ?_
      refine bopI (.int .i64 16) rfl rfl (by kernel_rfl) ?_
      refine asg (.int _ _) rfl ?_
      refine jt ?_
      refine c_seq ?_
      refine c_seq ?_
      refine c_reg ?_
      refine mv (.int _ _) rfl ?_
      refine cmp _ rfl rfl rfl ?_
      refine jt ?_
      refine c_cond rfl (fun h6 => ?_) (fun h6 => ?_)
      · replace h6 := of_decide_eq_true h6
        refine c_seq ?_
        refine c_reg ?_
        refine mv (.int _ _) rfl ?_
        refine shrRU64 (a := (shrU64 x 16)) 8 rfl rfl rfl ?_
        refine asg (.int _ _) rfl ?_
        refine jt ?_
        refine c_reg ?_
        refine mv (.int _ _) rfl ?_
        refine bopI (.int .i64 24) rfl rfl (by kernel_rfl) ?_
        refine asg (.int _ _) rfl ?_
        refine jt ?_
        refine c_seq ?_
        refine c_reg ?_
        refine mv (.int _ _) rfl ?_
        refine mv (.int _ _) rfl ?_
        refine cvNU8 (n := (shrU64 (shrU64 x 16) 8).toNat) rfl Tryd.underlying23 Tryd.underlying5 ?_
        refine idxT (s := len8L) ((UInt8.ofNat ((shrU64 (shrU64 x 16) 8).toNat)).toNat) (by kernel_rfl) rfl Tryd.underlying9 rfl (by rw [len8_length]; exact UInt8.toNat_lt _) ?_
        have H9 := UInt8.toNat_lt (List.getD len8L ((UInt8.ofNat ((shrU64 (shrU64 x 16) 8).toNat)).toNat) 0)
        refine cvI ((List.getD len8L ((UInt8.ofNat ((shrU64 (shrU64 x 16) 8).toNat)).toNat) 0).toNat : Int) rfl Tryd.underlying5 Tryd.underlying3 (wI64 (by have := UInt8.toNat_lt (List.getD len8L ((UInt8.ofNat ((shrU64 (shrU64 x 16) 8).toNat)).toNat) 0); omega)) ?_
        refine addi rfl rfl rfl (by omega) ?_
        refine asg (.int _ _) rfl ?_
        refine jt ?_
        refine c_ret ?_
        exact j_end (own0 := []) (ro0 := []) (.inl rfl) rfl (hr1 Tryd.results92 (rvt (v := (.int _ _)) rfl)) [] [] [] [] [] _ rfl rfl (by kernel_rfl) rfl impl_nil (⟨congrArg (Value.int _) (by rw [len8_at _ (UInt8.toNat_lt _)]; simp only [UInt8.toNat_ofNat', shrU64_toNat, Nat.reducePow] at *; exact len_p (s := 24) (by omega) (by omega)), rfl, rfl⟩)
      · replace h6 := of_decide_eq_false h6
        refine c_skip ?_
        refine e_then ?_
        refine c_seq ?_
        refine c_reg ?_
        refine mv (.int _ _) rfl ?_
        refine mv (.int _ _) rfl ?_
        refine cvNU8 (n := (shrU64 x 16).toNat) rfl Tryd.underlying23 Tryd.underlying5 ?_
        refine idxT (s := len8L) ((UInt8.ofNat ((shrU64 x 16).toNat)).toNat) (by kernel_rfl) rfl Tryd.underlying9 rfl (by rw [len8_length]; exact UInt8.toNat_lt _) ?_
        have H9 := UInt8.toNat_lt (List.getD len8L ((UInt8.ofNat ((shrU64 x 16).toNat)).toNat) 0)
        refine cvI ((List.getD len8L ((UInt8.ofNat ((shrU64 x 16).toNat)).toNat) 0).toNat : Int) rfl Tryd.underlying5 Tryd.underlying3 (wI64 (by have := UInt8.toNat_lt (List.getD len8L ((UInt8.ofNat ((shrU64 x 16).toNat)).toNat) 0); omega)) ?_
        refine addi rfl rfl rfl (by omega) ?_
        refine asg (.int _ _) rfl ?_
        refine jt ?_
        refine c_ret ?_
        exact j_end (own0 := []) (ro0 := []) (.inl rfl) rfl (hr1 Tryd.results92 (rvt (v := (.int _ _)) rfl)) [] [] [] [] [] _ rfl rfl (by kernel_rfl) rfl impl_nil (⟨congrArg (Value.int _) (by rw [len8_at _ (UInt8.toNat_lt _)]; simp only [UInt8.toNat_ofNat', shrU64_toNat, Nat.reducePow] at *; exact len_p (s := 16) (by omega) (by omega)), rfl, rfl⟩)
    · replace h5 := of_decide_eq_false h5
      refine c_skip ?_
      refine e_then ?_
      refine c_seq ?_
      refine c_seq ?_
      refine c_reg ?_
      refine mv (.int _ _) rfl ?_
      refine cmp _ rfl rfl rfl ?_
      refine jt ?_
      refine c_cond rfl (fun h7 => ?_) (fun h7 => ?_)
      · replace h7 := of_decide_eq_true h7
        refine c_seq ?_
        refine c_reg ?_
        refine mv (.int _ _) rfl ?_
        refine shrRU64 (a := x) 8 rfl rfl rfl ?_
        refine asg (.int _ _) rfl ?_
        refine jt ?_
        refine c_reg ?_
        refine mv (.int _ _) rfl ?_
        refine bopI (.int .i64 8) rfl rfl (by kernel_rfl) ?_
        refine asg (.int _ _) rfl ?_
        refine jt ?_
        refine c_seq ?_
        refine c_reg ?_
        refine mv (.int _ _) rfl ?_
        refine mv (.int _ _) rfl ?_
        refine cvNU8 (n := (shrU64 x 8).toNat) rfl Tryd.underlying23 Tryd.underlying5 ?_
        refine idxT (s := len8L) ((UInt8.ofNat ((shrU64 x 8).toNat)).toNat) (by kernel_rfl) rfl Tryd.underlying9 rfl (by rw [len8_length]; exact UInt8.toNat_lt _) ?_
        have H9 := UInt8.toNat_lt (List.getD len8L ((UInt8.ofNat ((shrU64 x 8).toNat)).toNat) 0)
        refine cvI ((List.getD len8L ((UInt8.ofNat ((shrU64 x 8).toNat)).toNat) 0).toNat : Int) rfl Tryd.underlying5 Tryd.underlying3 (wI64 (by have := UInt8.toNat_lt (List.getD len8L ((UInt8.ofNat ((shrU64 x 8).toNat)).toNat) 0); omega)) ?_
        refine addi rfl rfl rfl (by omega) ?_
        refine asg (.int _ _) rfl ?_
        refine jt ?_
        refine c_ret ?_
        exact j_end (own0 := []) (ro0 := []) (.inl rfl) rfl (hr1 Tryd.results92 (rvt (v := (.int _ _)) rfl)) [] [] [] [] [] _ rfl rfl (by kernel_rfl) rfl impl_nil (⟨congrArg (Value.int _) (by rw [len8_at _ (UInt8.toNat_lt _)]; simp only [UInt8.toNat_ofNat', shrU64_toNat, Nat.reducePow] at *; exact len_p (s := 8) (by omega) (by omega)), rfl, rfl⟩)
      · replace h7 := of_decide_eq_false h7
        refine c_skip ?_
        refine e_then ?_
        refine c_seq ?_
        refine c_reg ?_
        refine mv (.int _ _) rfl ?_
        refine mv (.int _ _) rfl ?_
        refine cvNU8 (n := x.toNat) rfl Tryd.underlying23 Tryd.underlying5 ?_
        refine idxT (s := len8L) ((UInt8.ofNat x.toNat).toNat) (by kernel_rfl) rfl Tryd.underlying9 rfl (by rw [len8_length]; exact UInt8.toNat_lt _) ?_
        have H9 := UInt8.toNat_lt (List.getD len8L ((UInt8.ofNat x.toNat).toNat) 0)
        refine cvI ((List.getD len8L ((UInt8.ofNat x.toNat).toNat) 0).toNat : Int) rfl Tryd.underlying5 Tryd.underlying3 (wI64 (by have := UInt8.toNat_lt (List.getD len8L ((UInt8.ofNat x.toNat).toNat) 0); omega)) ?_
        refine addi rfl rfl rfl (by omega) ?_
        refine asg (.int _ _) rfl ?_
        refine jt ?_
        refine c_ret ?_
        exact j_end (own0 := []) (ro0 := []) (.inl rfl) rfl (hr1 Tryd.results92 (rvt (v := (.int _ _)) rfl)) [] [] [] [] [] _ rfl rfl (by kernel_rfl) rfl impl_nil (⟨congrArg (Value.int _) (by rw [len8_at _ (UInt8.toNat_lt _)]; simp only [UInt8.toNat_ofNat', shrU64_toNat, Nat.reducePow] at *; exact len_p (s := 0) (by omega) (by omega)), rfl, rfl⟩)

theorem numDigits_ct (d : UInt64) (hd : 1 ≤ d.toNat) : Ct Tryd.prog 74 [.int .u64 (d.toNat : Int)] [] [tPow10 3] (fun v o r => v = .int .i64 (ndg 10 64 d.toNat : Int) ∧ o = [] ∧ r = []) := by
  have HX := d.toNat_lt
  have HL := blen_le (n := d.toNat) (by omega)
  have HB := blen_pos hd
  refine ct_enter Tryd.func74 rfl Tryd.ntmps74 (by kernel_rfl) rfl fun w0 => ?_
  refine c_seq ?_
  refine c_reg ?_
  refine asg (.int _ _) rfl ?_
  refine jt ?_
  refine c_seq ?_
  refine c_reg ?_
  refine mv (.int _ _) rfl ?_
  refine cal (Len64_ct d) [] [] [] rfl rfl rfl (by kernel_rfl) impl_nil rfl ?_; rintro _ _ _ ⟨rfl, rfl, rfl⟩; refine ⟨trivial, ?_⟩
  refine cal (log10Pow2_ct (blen d.toNat) (by omega)) [] [] [] rfl rfl rfl (by kernel_rfl) impl_nil rfl ?_; rintro _ _ _ ⟨rfl, rfl, rfl⟩; refine ⟨trivial, ?_⟩
  refine asg (.int _ _) rfl ?_
  refine jt ?_
  refine c_seq ?_
  refine c_reg ?_
  refine mv (.int _ _) rfl ?_
  refine mv (.int _ _) rfl ?_
  refine mv (.int _ _) rfl ?_
  refine ixaA (blen d.toNat * 78913 / 262144) rfl rfl Tryd.underlying127 ty23.sz rfl (show (blen d.toNat * 78913 / 262144) < 20 by omega) ?_
  refine ldvG 0 (blen d.toNat * 78913 / 262144) (List.getD pow10L (blen d.toNat * 78913 / 262144) (0)) rfl rfl rfl (getD_some (show (blen d.toNat * 78913 / 262144) < 20 by omega)) ty23 ?_
  refine cmp _ rfl rfl rfl ?_
  refine cal (bool2_ct (decide (((List.getD pow10L (blen d.toNat * 78913 / 262144) (0)).toNat : Int) ≤ (d.toNat : Int)))) [] [] [] rfl rfl rfl (by kernel_rfl) impl_nil rfl ?_; rintro _ _ _ ⟨rfl, rfl, rfl⟩; refine ⟨trivial, ?_⟩
  refine addi rfl rfl rfl (by omega) ?_
  refine asg (.int _ _) rfl ?_
  refine jt ?_
  refine c_ret ?_
  exact j_end (own0 := []) (ro0 := [tPow10 3]) (.inl rfl) rfl (hr1 Tryd.results74 (rvt (v := (.int _ _)) rfl)) [] [] [] [] [] _ rfl rfl (by kernel_rfl) rfl impl_nil (⟨congrArg (Value.int _) (nd_int hd), rfl, rfl⟩)

set_option maxRecDepth 20000 in
set_option maxHeartbeats 4000000 in
theorem formatBase10_ct (b E cp N : Nat) (pre post : List Value) (ys0 : Str) (u : UInt64) (hN : ys0.length = N) (hN2 : N ≤ 24) (hu : u.toNat < 10 ^ N) : Ct Tryd.prog 75 [.slice (some ⟨b, pre.length, none⟩) ys0.length cp, .int .u64 (u.toNat : Int)] [Gseg b E pre ys0 post] [] (fun v o r => v = .tuple #[] ∧ o = [Gseg b E pre (digs 10 N u.toNat) post] ∧ r = []) := by
  have HU := u.toNat_lt
  refine ct_enter Tryd.func75 rfl Tryd.ntmps75 (by kernel_rfl) rfl fun w0 => ?_
  refine c_seq ?_
  refine c_reg ?_
  refine mv (.slice _ _ _) rfl ?_
  refine lenS rfl Tryd.underlying50 ?_
  refine asg (.int _ _) rfl ?_
  refine jt ?_
  refine c_seq ?_
  refine c_block ?_
  refine c_loop (σ := Nat × Str × UInt64) (fun (nd, ys, w) => FB N u.toNat nd ys w.toNat) (fun (nd, ys, w) => nd) (fun (nd, ys, w) => [(4, .int .i64 (nd : Int)), (1, .int .u64 (w.toNat : Int))]) (fun (nd, ys, w) => [Gseg b E pre ys post]) (fun (nd, ys, w) => []) [1, 4, 5, 6, 7, 8, 9, 10, 11, 19, 20, 21, 22, 23, 24, 25, 26, 27, 28, 29, 30, 31, 32, 33, 34, 35, 36, 37, 38, 39, 40, 41, 42, 43, 44, 45, 46, 47, 48, 49, 50, 51, 52, 53, 54, 55, 56, 57, 58, 59, 60, 61, 62, 63, 64, 65, 66, 67, 68, 69, 70, 71, 72, 73, 74, 75, 76, 77, 78, 79, 80, 81, 82, 83, 84, 85, 86, 87, 88, 89, 90, 91, 92, 93, 94, 95] (N, ys0, u) (FB.begin hN hu) ⟨congrArg (Value.int _) (by omega), rfl, trivial⟩ rfl rfl ?_
  rintro ⟨nd, ys, w⟩ g1 hI1
  try dsimp only at hI1 ⊢
  have HLE := hI1.le
  have HLN := hI1.len
  have HW := w.toNat_lt
  refine c_seq ?_
  refine c_seq ?_
  refine c_reg ?_
  refine mv (.int _ _) rfl ?_
  refine cmp _ rfl rfl rfl ?_
  refine jt ?_
  refine c_cond rfl (fun h1 => ?_) (fun h1 => ?_)
  · replace h1 := of_decide_eq_true h1
    refine c_skip ?_
    refine e_then ?_
    refine c_block ?_
    refine c_seq ?_
    refine c_reg ?_
    refine mv (.int _ _) rfl ?_
    refine remU64 (a := w) (b := (100000000 : UInt64)) rfl rfl (by decide) ?_
    refine cvNU32 (n := (w % (100000000 : UInt64)).toNat) rfl Tryd.underlying23 Tryd.underlying47 ?_
    have N23 : (UInt32.ofNat ((w % (100000000 : UInt64)).toNat)).toNat = w.toNat % 100000000 := by rw [UInt32.toNat_ofNat', UInt64.toNat_mod]; simp only [UInt64.reduceToNat, Nat.reducePow]; omega
    refine asg (.int _ _) rfl ?_
    refine jt ?_
    refine c_seq ?_
    refine c_reg ?_
    refine mv (.int _ _) rfl ?_
    refine quoU64 (a := w) (b := (100000000 : UInt64)) rfl rfl (by decide) ?_
    refine asg (.int _ _) rfl ?_
    refine jt ?_
    refine c_seq ?_
    refine c_reg ?_
    refine mv (.int _ _) rfl ?_
    refine quoU32 (a := (UInt32.ofNat ((w % (100000000 : UInt64)).toNat))) (b := (10000 : UInt32)) rfl rfl (by decide) ?_
    have N27 : ((UInt32.ofNat ((w % (100000000 : UInt64)).toNat)) / (10000 : UInt32)).toNat = w.toNat % 100000000 / 10000 := by rw [UInt32.toNat_div, N23]; rfl
    refine mv (.int _ _) rfl ?_
    refine remU32 (a := (UInt32.ofNat ((w % (100000000 : UInt64)).toNat))) (b := (10000 : UInt32)) rfl rfl (by decide) ?_
    have N29 : ((UInt32.ofNat ((w % (100000000 : UInt64)).toNat)) % (10000 : UInt32)).toNat = w.toNat % 10000 := by rw [UInt32.toNat_mod, N23]; simp only [UInt32.reduceToNat, Nat.reducePow]; omega
    refine asg (.int _ _) rfl ?_
    refine asg (.int _ _) rfl ?_
    refine jt ?_
    refine c_seq ?_
    refine c_reg ?_
    refine mv (.int _ _) rfl ?_
    refine quoU32 (a := ((UInt32.ofNat ((w % (100000000 : UInt64)).toNat)) % (10000 : UInt32))) (b := (100 : UInt32)) rfl rfl (by decide) ?_
    refine mulU32 (a := (((UInt32.ofNat ((w % (100000000 : UInt64)).toNat)) % (10000 : UInt32)) / (100 : UInt32))) (b := (2 : UInt32)) rfl rfl ?_
    have N32 : ((((UInt32.ofNat ((w % (100000000 : UInt64)).toNat)) % (10000 : UInt32)) / (100 : UInt32)) * (2 : UInt32)).toNat = 2 * (w.toNat / 100 % 100) := by rw [UInt32.toNat_mul, UInt32.toNat_div, N29]; simp only [UInt32.reduceToNat, Nat.reducePow]; omega
    refine mv (.int _ _) rfl ?_
    refine remU32 (a := ((UInt32.ofNat ((w % (100000000 : UInt64)).toNat)) % (10000 : UInt32))) (b := (100 : UInt32)) rfl rfl (by decide) ?_
    refine mulU32 (a := (((UInt32.ofNat ((w % (100000000 : UInt64)).toNat)) % (10000 : UInt32)) % (100 : UInt32))) (b := (2 : UInt32)) rfl rfl ?_
    have N35 : ((((UInt32.ofNat ((w % (100000000 : UInt64)).toNat)) % (10000 : UInt32)) % (100 : UInt32)) * (2 : UInt32)).toNat = 2 * (w.toNat % 100) := by rw [UInt32.toNat_mul, UInt32.toNat_mod, N29]; simp only [UInt32.reduceToNat, Nat.reducePow]; omega
    refine asg (.int _ _) rfl ?_
    refine asg (.int _ _) rfl ?_
    refine jt ?_
    refine c_seq ?_
    refine c_reg ?_
    refine mv (.int _ _) rfl ?_
    refine quoU32 (a := ((UInt32.ofNat ((w % (100000000 : UInt64)).toNat)) / (10000 : UInt32))) (b := (100 : UInt32)) rfl rfl (by decide) ?_
    refine mulU32 (a := (((UInt32.ofNat ((w % (100000000 : UInt64)).toNat)) / (10000 : UInt32)) / (100 : UInt32))) (b := (2 : UInt32)) rfl rfl ?_
    have N38 : ((((UInt32.ofNat ((w % (100000000 : UInt64)).toNat)) / (10000 : UInt32)) / (100 : UInt32)) * (2 : UInt32)).toNat = 2 * (w.toNat / 1000000 % 100) := by rw [UInt32.toNat_mul, UInt32.toNat_div, N27]; simp only [UInt32.reduceToNat, Nat.reducePow]; omega
    refine mv (.int _ _) rfl ?_
    refine remU32 (a := ((UInt32.ofNat ((w % (100000000 : UInt64)).toNat)) / (10000 : UInt32))) (b := (100 : UInt32)) rfl rfl (by decide) ?_
    refine mulU32 (a := (((UInt32.ofNat ((w % (100000000 : UInt64)).toNat)) / (10000 : UInt32)) % (100 : UInt32))) (b := (2 : UInt32)) rfl rfl ?_
    have N41 : ((((UInt32.ofNat ((w % (100000000 : UInt64)).toNat)) / (10000 : UInt32)) % (100 : UInt32)) * (2 : UInt32)).toNat = 2 * (w.toNat / 10000 % 100) := by rw [UInt32.toNat_mul, UInt32.toNat_mod, N27]; simp only [UInt32.reduceToNat, Nat.reducePow]; omega
    refine asg (.int _ _) rfl ?_
    refine asg (.int _ _) rfl ?_
    refine jt ?_
    refine c_seq ?_
    refine c_dr [] [] [(0, 0), (1, 0), (2, 0), (3, 0), (4, 0), (5, 0), (6, 0), (7, 0), (8, 0), (9, 0), (10, 0), (11, 0), (12, 1), (13, 0), (14, 1)] follows (by kernel_rfl) calm_body (keepS [] rfl) ?_
    refine mv (.slice _ _ _) rfl ?_
    refine mv (.int _ _) rfl ?_
    refine subi rfl rfl rfl (by omega) ?_
    refine mv (.slice _ _ _) rfl ?_
    refine mv (.int _ _) rfl ?_
    refine subi rfl rfl rfl (by omega) ?_
    refine mv (.int _ _) rfl ?_
    refine addU32 (a := ((((UInt32.ofNat ((w % (100000000 : UInt64)).toNat)) % (10000 : UInt32)) % (100 : UInt32)) * (2 : UInt32))) (b := (1 : UInt32)) rfl rfl ?_
    have N49 : (((((UInt32.ofNat ((w % (100000000 : UInt64)).toNat)) % (10000 : UInt32)) % (100 : UInt32)) * (2 : UInt32)) + (1 : UInt32)).toNat = 2 * (w.toNat % 100) + 1 := by rw [UInt32.toNat_add, N35]; simp only [UInt32.reduceToNat, Nat.reducePow]; omega
    refine idxT (s := smallsL) ((((((UInt32.ofNat ((w % (100000000 : UInt64)).toNat)) % (10000 : UInt32)) % (100 : UInt32)) * (2 : UInt32)) + (1 : UInt32)).toNat) (by kernel_rfl) rfl Tryd.underlying9 rfl (by rw [smallsL_length]; omega) ?_
    refine mv (.int _ _) rfl ?_
    refine idxT (s := smallsL) (((((UInt32.ofNat ((w % (100000000 : UInt64)).toNat)) % (10000 : UInt32)) % (100 : UInt32)) * (2 : UInt32)).toNat) (by kernel_rfl) rfl Tryd.underlying9 rfl (by rw [smallsL_length]; omega) ?_
    refine ixa (nd - 1) rfl rfl Tryd.underlying50 ty5.sz (by omega) (by omega) ?_
    refine stG 0 (nd - 1) _ (List.getD smallsL ((((((UInt32.ofNat ((w % (100000000 : UInt64)).toNat)) % (10000 : UInt32)) % (100 : UInt32)) * (2 : UInt32)) + (1 : UInt32)).toNat) 0) rfl rfl rfl rfl (by first | omega | (simp; done) | (simp; omega) | (simp at *; omega)) ty5 ⟨keepI [] rfl, ?_⟩
    refine ixa (nd - 2) rfl rfl Tryd.underlying50 ty5.sz (by omega) (by omega) ?_
    refine stG 0 (nd - 2) _ (List.getD smallsL (((((UInt32.ofNat ((w % (100000000 : UInt64)).toNat)) % (10000 : UInt32)) % (100 : UInt32)) * (2 : UInt32)).toNat) 0) rfl rfl rfl rfl (by first | omega | (simp; done) | (simp; omega) | (simp at *; omega)) ty5 ⟨keepI [] rfl, ?_⟩
    refine jt ?_
    refine c_seq ?_
    refine c_dr [] [] [(0, 0), (1, 0), (2, 0), (3, 0), (4, 0), (5, 0), (6, 0), (7, 0), (8, 0), (9, 0), (10, 0), (11, 0), (12, 1), (13, 0), (14, 1)] follows (by kernel_rfl) calm_body (keepS [] rfl) ?_
    refine mv (.slice _ _ _) rfl ?_
    refine mv (.int _ _) rfl ?_
    refine subi rfl rfl rfl (by omega) ?_
    refine mv (.slice _ _ _) rfl ?_
    refine mv (.int _ _) rfl ?_
    refine subi rfl rfl rfl (by omega) ?_
    refine mv (.int _ _) rfl ?_
    refine addU32 (a := ((((UInt32.ofNat ((w % (100000000 : UInt64)).toNat)) % (10000 : UInt32)) / (100 : UInt32)) * (2 : UInt32))) (b := (1 : UInt32)) rfl rfl ?_
    have N62 : (((((UInt32.ofNat ((w % (100000000 : UInt64)).toNat)) % (10000 : UInt32)) / (100 : UInt32)) * (2 : UInt32)) + (1 : UInt32)).toNat = 2 * (w.toNat / 100 % 100) + 1 := by rw [UInt32.toNat_add, N32]; simp only [UInt32.reduceToNat, Nat.reducePow]; omega
    refine idxT (s := smallsL) ((((((UInt32.ofNat ((w % (100000000 : UInt64)).toNat)) % (10000 : UInt32)) / (100 : UInt32)) * (2 : UInt32)) + (1 : UInt32)).toNat) (by kernel_rfl) rfl Tryd.underlying9 rfl (by rw [smallsL_length]; omega) ?_
    refine mv (.int _ _) rfl ?_
    refine idxT (s := smallsL) (((((UInt32.ofNat ((w % (100000000 : UInt64)).toNat)) % (10000 : UInt32)) / (100 : UInt32)) * (2 : UInt32)).toNat) (by kernel_rfl) rfl Tryd.underlying9 rfl (by rw [smallsL_length]; omega) ?_
    refine ixa (nd - 3) rfl rfl Tryd.underlying50 ty5.sz (by omega) (by omega) ?_
    refine stG 0 (nd - 3) _ (List.getD smallsL ((((((UInt32.ofNat ((w % (100000000 : UInt64)).toNat)) % (10000 : UInt32)) / (100 : UInt32)) * (2 : UInt32)) + (1 : UInt32)).toNat) 0) rfl rfl rfl rfl (by first | omega | (simp; done) | (simp; omega) | (simp at *; omega)) ty5 ⟨keepI [] rfl, ?_⟩
    refine ixa (nd - 4) rfl rfl Tryd.underlying50 ty5.sz (by omega) (by omega) ?_
    refine stG 0 (nd - 4) _ (List.getD smallsL (((((UInt32.ofNat ((w % (100000000 : UInt64)).toNat)) % (10000 : UInt32)) / (100 : UInt32)) * (2 : UInt32)).toNat) 0) rfl rfl rfl rfl (by first | omega | (simp; done) | (simp; omega) | (simp at *; omega)) ty5 ⟨keepI [] rfl, ?_⟩
    refine jt ?_
    refine c_seq ?_
    refine c_dr [] [] [(0, 0), (1, 0), (2, 0), (3, 0), (4, 0), (5, 0), (6, 0), (7, 0), (8, 0), (9, 0), (10, 0), (11, 0), (12, 1), (13, 0), (14, 1)] follows (by kernel_rfl) calm_body (keepS [] rfl) ?_
    refine mv (.slice _ _ _) rfl ?_
    refine mv (.int _ _) rfl ?_
    refine subi rfl rfl rfl (by omega) ?_
    refine mv (.slice _ _ _) rfl ?_
    refine mv (.int _ _) rfl ?_
    refine subi rfl rfl rfl (by omega) ?_
    refine mv (.int _ _) rfl ?_
    refine addU32 (a := ((((UInt32.ofNat ((w % (100000000 : UInt64)).toNat)) / (10000 : UInt32)) % (100 : UInt32)) * (2 : UInt32))) (b := (1 : UInt32)) rfl rfl ?_
    have N75 : (((((UInt32.ofNat ((w % (100000000 : UInt64)).toNat)) / (10000 : UInt32)) % (100 : UInt32)) * (2 : UInt32)) + (1 : UInt32)).toNat = 2 * (w.toNat / 10000 % 100) + 1 := by rw [UInt32.toNat_add, N41]; simp only [UInt32.reduceToNat, Nat.reducePow]; omega
    refine idxT (s := smallsL) ((((((UInt32.ofNat ((w % (100000000 : UInt64)).toNat)) / (10000 : UInt32)) % (100 : UInt32)) * (2 : UInt32)) + (1 : UInt32)).toNat) (by kernel_rfl) rfl Tryd.underlying9 rfl (by rw [smallsL_length]; omega) ?_
    refine mv (.int _ _) rfl ?_
    refine idxT (s := smallsL) (((((UInt32.ofNat ((w % (100000000 : UInt64)).toNat)) / (10000 : UInt32)) % (100 : UInt32)) * (2 : UInt32)).toNat) (by kernel_rfl) rfl Tryd.underlying9 rfl (by rw [smallsL_length]; omega) ?_
    refine ixa (nd - 5) rfl rfl Tryd.underlying50 ty5.sz (by omega) (by omega) ?_
    refine stG 0 (nd - 5) _ (List.getD smallsL ((((((UInt32.ofNat ((w % (100000000 : UInt64)).toNat)) / (10000 : UInt32)) % (100 : UInt32)) * (2 : UInt32)) + (1 : UInt32)).toNat) 0) rfl rfl rfl rfl (by first | omega | (simp; done) | (simp; omega) | (simp at *; omega)) ty5 ⟨keepI [] rfl, ?_⟩
    refine ixa (nd - 6) rfl rfl Tryd.underlying50 ty5.sz (by omega) (by omega) ?_
    refine stG 0 (nd - 6) _ (List.getD smallsL (((((UInt32.ofNat ((w % (100000000 : UInt64)).toNat)) / (10000 : UInt32)) % (100 : UInt32)) * (2 : UInt32)).toNat) 0) rfl rfl rfl rfl (by first | omega | (simp; done) | (simp; omega) | (simp at *; omega)) ty5 ⟨keepI [] rfl, ?_⟩
    refine jt ?_
    refine c_seq ?_
    refine c_dr [] [] [(0, 0), (1, 0), (2, 0), (3, 0), (4, 0), (5, 0), (6, 0), (7, 0), (8, 0), (9, 0), (10, 0), (11, 0), (12, 1), (13, 0), (14, 1)] follows (by kernel_rfl) calm_body (keepS [] rfl) ?_
    refine mv (.slice _ _ _) rfl ?_
    refine mv (.int _ _) rfl ?_
    refine subi rfl rfl rfl (by omega) ?_
    refine mv (.slice _ _ _) rfl ?_
    refine mv (.int _ _) rfl ?_
    refine subi rfl rfl rfl (by omega) ?_
    refine mv (.int _ _) rfl ?_
    refine addU32 (a := ((((UInt32.ofNat ((w % (100000000 : UInt64)).toNat)) / (10000 : UInt32)) / (100 : UInt32)) * (2 : UInt32))) (b := (1 : UInt32)) rfl rfl ?_
    have N88 : (((((UInt32.ofNat ((w % (100000000 : UInt64)).toNat)) / (10000 : UInt32)) / (100 : UInt32)) * (2 : UInt32)) + (1 : UInt32)).toNat = 2 * (w.toNat / 1000000 % 100) + 1 := by rw [UInt32.toNat_add, N38]; simp only [UInt32.reduceToNat, Nat.reducePow]; omega
    refine idxT (s := smallsL) ((((((UInt32.ofNat ((w % (100000000 : UInt64)).toNat)) / (10000 : UInt32)) / (100 : UInt32)) * (2 : UInt32)) + (1 : UInt32)).toNat) (by kernel_rfl) rfl Tryd.underlying9 rfl (by rw [smallsL_length]; omega) ?_
    refine mv (.int _ _) rfl ?_
    refine idxT (s := smallsL) (((((UInt32.ofNat ((w % (100000000 : UInt64)).toNat)) / (10000 : UInt32)) / (100 : UInt32)) * (2 : UInt32)).toNat) (by kernel_rfl) rfl Tryd.underlying9 rfl (by rw [smallsL_length]; omega) ?_
    refine ixa (nd - 7) rfl rfl Tryd.underlying50 ty5.sz (by omega) (by omega) ?_
    refine stG 0 (nd - 7) _ (List.getD smallsL ((((((UInt32.ofNat ((w % (100000000 : UInt64)).toNat)) / (10000 : UInt32)) / (100 : UInt32)) * (2 : UInt32)) + (1 : UInt32)).toNat) 0) rfl rfl rfl rfl (by first | omega | (simp; done) | (simp; omega) | (simp at *; omega)) ty5 ⟨keepI [] rfl, ?_⟩
    refine ixa (nd - 8) rfl rfl Tryd.underlying50 ty5.sz (by omega) (by omega) ?_
    refine stG 0 (nd - 8) _ (List.getD smallsL (((((UInt32.ofNat ((w % (100000000 : UInt64)).toNat)) / (10000 : UInt32)) / (100 : UInt32)) * (2 : UInt32)).toNat) 0) rfl rfl rfl rfl (by first | omega | (simp; done) | (simp; omega) | (simp at *; omega)) ty5 ⟨keepI [] rfl, ?_⟩
    refine jt ?_
    refine c_reg ?_
    refine mv (.int _ _) rfl ?_
    refine subi rfl rfl rfl (by omega) ?_
    refine asg (.int _ _) rfl ?_
    refine jn ?_
    refine e_in ?_
    exact e_loop (nd - 8, ((((((((ys.set (nd - 1) (List.getD smallsL ((((((UInt32.ofNat ((w % (100000000 : UInt64)).toNat)) % (10000 : UInt32)) % (100 : UInt32)) * (2 : UInt32)) + (1 : UInt32)).toNat) 0)).set (nd - 2) (List.getD smallsL (((((UInt32.ofNat ((w % (100000000 : UInt64)).toNat)) % (10000 : UInt32)) % (100 : UInt32)) * (2 : UInt32)).toNat) 0)).set (nd - 3) (List.getD smallsL ((((((UInt32.ofNat ((w % (100000000 : UInt64)).toNat)) % (10000 : UInt32)) / (100 : UInt32)) * (2 : UInt32)) + (1 : UInt32)).toNat) 0)).set (nd - 4) (List.getD smallsL (((((UInt32.ofNat ((w % (100000000 : UInt64)).toNat)) % (10000 : UInt32)) / (100 : UInt32)) * (2 : UInt32)).toNat) 0)).set (nd - 5) (List.getD smallsL ((((((UInt32.ofNat ((w % (100000000 : UInt64)).toNat)) / (10000 : UInt32)) % (100 : UInt32)) * (2 : UInt32)) + (1 : UInt32)).toNat) 0)).set (nd - 6) (List.getD smallsL (((((UInt32.ofNat ((w % (100000000 : UInt64)).toNat)) / (10000 : UInt32)) % (100 : UInt32)) * (2 : UInt32)).toNat) 0)).set (nd - 7) (List.getD smallsL ((((((UInt32.ofNat ((w % (100000000 : UInt64)).toNat)) / (10000 : UInt32)) / (100 : UInt32)) * (2 : UInt32)) + (1 : UInt32)).toNat) 0)).set (nd - 8) (List.getD smallsL (((((UInt32.ofNat ((w % (100000000 : UInt64)).toNat)) / (10000 : UInt32)) / (100 : UInt32)) * (2 : UInt32)).toNat) 0)), w / 100000000) (by rw [show (w / 100000000).toNat = w.toNat / 100000000 from by rw [UInt64.toNat_div]; rfl]; exact FB.eight hI1 (by omega) (smh2 N49 (by omega) (by omega)) (sml2 N35 (by omega) (by omega)) (smh2 N62 (by omega) (by omega)) (sml2 N32 (by omega) (by omega)) (smh2 N75 (by omega) (by omega)) (sml2 N41 (by omega) (by omega)) (smh2 N88 (by omega) (by omega)) (sml2 N38 (by omega) (by omega))) (by have := hI1.le; show nd - 8 < nd; omega) (⟨congrArg (Value.int _) (by omega), rfl, trivial⟩) rfl rfl rfl
  · replace h1 := of_decide_eq_false h1
    refine c_exit rfl ?_
    refine e_then ?_
    refine c_seq ?_
    refine c_reg ?_
    refine mv (.int _ _) rfl ?_
    refine cvNU32 (n := w.toNat) rfl Tryd.underlying23 Tryd.underlying47 ?_
    have N97 : (UInt32.ofNat w.toNat).toNat = w.toNat := by exact fb_x hI1.lt (by omega)
    refine asg (.int _ _) rfl ?_
    refine jt ?_
    refine c_seq ?_
    refine c_seq ?_
    refine c_reg ?_
    refine mv (.int _ _) rfl ?_
    refine cmp _ rfl rfl rfl ?_
    refine jt ?_
    refine c_cond rfl (fun h2 => ?_) (fun h2 => ?_)
    · replace h2 := of_decide_eq_true h2
      refine c_seq ?_
      refine c_reg ?_
      refine mv (.int _ _) rfl ?_
      refine remU32 (a := (UInt32.ofNat w.toNat)) (b := (10000 : UInt32)) rfl rfl (by decide) ?_
      have N101 : ((UInt32.ofNat w.toNat) % (10000 : UInt32)).toNat = w.toNat % 10000 := by rw [UInt32.toNat_mod, N97]; rfl
      refine asg (.int _ _) rfl ?_
      refine jt ?_
      refine c_seq ?_
      refine c_reg ?_
      refine mv (.int _ _) rfl ?_
      refine quoU32 (a := (UInt32.ofNat w.toNat)) (b := (10000 : UInt32)) rfl rfl (by decide) ?_
      have N103 : ((UInt32.ofNat w.toNat) / (10000 : UInt32)).toNat = w.toNat / 10000 := by rw [UInt32.toNat_div, N97]; rfl
      refine asg (.int _ _) rfl ?_
      refine jt ?_
      refine c_seq ?_
      refine c_reg ?_
      refine mv (.int _ _) rfl ?_
      refine quoU32 (a := ((UInt32.ofNat w.toNat) % (10000 : UInt32))) (b := (100 : UInt32)) rfl rfl (by decide) ?_
      refine mulU32 (a := (((UInt32.ofNat w.toNat) % (10000 : UInt32)) / (100 : UInt32))) (b := (2 : UInt32)) rfl rfl ?_
      have N106 : ((((UInt32.ofNat w.toNat) % (10000 : UInt32)) / (100 : UInt32)) * (2 : UInt32)).toNat = 2 * (w.toNat / 100 % 100) := by rw [UInt32.toNat_mul, UInt32.toNat_div, N101]; simp only [UInt32.reduceToNat, Nat.reducePow]; omega
      refine mv (.int _ _) rfl ?_
      refine remU32 (a := ((UInt32.ofNat w.toNat) % (10000 : UInt32))) (b := (100 : UInt32)) rfl rfl (by decide) ?_
      refine mulU32 (a := (((UInt32.ofNat w.toNat) % (10000 : UInt32)) % (100 : UInt32))) (b := (2 : UInt32)) rfl rfl ?_
      have N109 : ((((UInt32.ofNat w.toNat) % (10000 : UInt32)) % (100 : UInt32)) * (2 : UInt32)).toNat = 2 * (w.toNat % 100) := by rw [UInt32.toNat_mul, UInt32.toNat_mod, N101]; simp only [UInt32.reduceToNat, Nat.reducePow]; omega
      refine asg (.int _ _) rfl ?_
      refine asg (.int _ _) rfl ?_
      refine jt ?_
      refine c_seq ?_
      refine c_dr [] [] [(0, 0), (1, 0), (2, 0), (3, 0), (4, 0), (5, 0), (6, 0), (7, 0), (8, 0), (9, 0), (10, 0), (11, 0), (12, 1), (13, 0), (14, 1)] follows (by kernel_rfl) calm_body (keepS [] rfl) ?_
      refine mv (.slice _ _ _) rfl ?_
      refine mv (.int _ _) rfl ?_
      refine subi rfl rfl rfl (by omega) ?_
      refine mv (.slice _ _ _) rfl ?_
      refine mv (.int _ _) rfl ?_
      refine subi rfl rfl rfl (by omega) ?_
      refine mv (.int _ _) rfl ?_
      refine addU32 (a := ((((UInt32.ofNat w.toNat) % (10000 : UInt32)) % (100 : UInt32)) * (2 : UInt32))) (b := (1 : UInt32)) rfl rfl ?_
      have N117 : (((((UInt32.ofNat w.toNat) % (10000 : UInt32)) % (100 : UInt32)) * (2 : UInt32)) + (1 : UInt32)).toNat = 2 * (w.toNat % 100) + 1 := by rw [UInt32.toNat_add, N109]; simp only [UInt32.reduceToNat, Nat.reducePow]; omega
      refine idxT (s := smallsL) ((((((UInt32.ofNat w.toNat) % (10000 : UInt32)) % (100 : UInt32)) * (2 : UInt32)) + (1 : UInt32)).toNat) (by kernel_rfl) rfl Tryd.underlying9 rfl (by rw [smallsL_length]; omega) ?_
      refine mv (.int _ _) rfl ?_
      refine idxT (s := smallsL) (((((UInt32.ofNat w.toNat) % (10000 : UInt32)) % (100 : UInt32)) * (2 : UInt32)).toNat) (by kernel_rfl) rfl Tryd.underlying9 rfl (by rw [smallsL_length]; omega) ?_
      refine ixa (nd - 1) rfl rfl Tryd.underlying50 ty5.sz (by omega) (by omega) ?_
      refine stG 0 (nd - 1) _ (List.getD smallsL ((((((UInt32.ofNat w.toNat) % (10000 : UInt32)) % (100 : UInt32)) * (2 : UInt32)) + (1 : UInt32)).toNat) 0) rfl rfl rfl rfl (by first | omega | (simp; done) | (simp; omega) | (simp at *; omega)) ty5 ⟨keepI [] rfl, ?_⟩
      refine ixa (nd - 2) rfl rfl Tryd.underlying50 ty5.sz (by omega) (by omega) ?_
      refine stG 0 (nd - 2) _ (List.getD smallsL (((((UInt32.ofNat w.toNat) % (10000 : UInt32)) % (100 : UInt32)) * (2 : UInt32)).toNat) 0) rfl rfl rfl rfl (by first | omega | (simp; done) | (simp; omega) | (simp at *; omega)) ty5 ⟨keepI [] rfl, ?_⟩
      refine jt ?_
      refine c_seq ?_
      refine c_dr [] [] [(0, 0), (1, 0), (2, 0), (3, 0), (4, 0), (5, 0), (6, 0), (7, 0), (8, 0), (9, 0), (10, 0), (11, 0), (12, 1), (13, 0), (14, 1)] follows (by kernel_rfl) calm_body (keepS [] rfl) ?_
      refine mv (.slice _ _ _) rfl ?_
      refine mv (.int _ _) rfl ?_
      refine subi rfl rfl rfl (by omega) ?_
      refine mv (.slice _ _ _) rfl ?_
      refine mv (.int _ _) rfl ?_
      refine subi rfl rfl rfl (by omega) ?_
      refine mv (.int _ _) rfl ?_
      refine addU32 (a := ((((UInt32.ofNat w.toNat) % (10000 : UInt32)) / (100 : UInt32)) * (2 : UInt32))) (b := (1 : UInt32)) rfl rfl ?_
      have N130 : (((((UInt32.ofNat w.toNat) % (10000 : UInt32)) / (100 : UInt32)) * (2 : UInt32)) + (1 : UInt32)).toNat = 2 * (w.toNat / 100 % 100) + 1 := by rw [UInt32.toNat_add, N106]; simp only [UInt32.reduceToNat, Nat.reducePow]; omega
      refine idxT (s := smallsL) ((((((UInt32.ofNat w.toNat) % (10000 : UInt32)) / (100 : UInt32)) * (2 : UInt32)) + (1 : UInt32)).toNat) (by kernel_rfl) rfl Tryd.underlying9 rfl (by rw [smallsL_length]; omega) ?_
      refine mv (.int _ _) rfl ?_
      refine idxT (s := smallsL) (((((UInt32.ofNat w.toNat) % (10000 : UInt32)) / (100 : UInt32)) * (2 : UInt32)).toNat) (by kernel_rfl) rfl Tryd.underlying9 rfl (by rw [smallsL_length]; omega) ?_
      refine ixa (nd - 3) rfl rfl Tryd.underlying50 ty5.sz (by omega) (by omega) ?_
      refine stG 0 (nd - 3) _ (List.getD smallsL ((((((UInt32.ofNat w.toNat) % (10000 : UInt32)) / (100 : UInt32)) * (2 : UInt32)) + (1 : UInt32)).toNat) 0) rfl rfl rfl rfl (by first | omega | (simp; done) | (simp; omega) | (simp at *; omega)) ty5 ⟨keepI [] rfl, ?_⟩
      refine ixa (nd - 4) rfl rfl Tryd.underlying50 ty5.sz (by omega) (by omega) ?_
      refine stG 0 (nd - 4) _ (List.getD smallsL (((((UInt32.ofNat w.toNat) % (10000 : UInt32)) / (100 : UInt32)) * (2 : UInt32)).toNat) 0) rfl rfl rfl rfl (by first | omega | (simp; done) | (simp; omega) | (simp at *; omega)) ty5 ⟨keepI [] rfl, ?_⟩
      refine jt ?_
      refine c_reg ?_
      refine mv (.int _ _) rfl ?_
      refine subi rfl rfl rfl (by omega) ?_
      refine asg (.int _ _) rfl ?_
      refine jt ?_
      refine c_seq ?_
      refine c_seq ?_
      have G4 := FB.four hI1 (by omega) (smh2 N117 (by omega) (by omega)) (sml2 N109 (by omega) (by omega)) (smh2 N130 (by omega) (by omega)) (sml2 N106 (by omega) (by omega))
      refine c_reg ?_
      refine mv (.int _ _) rfl ?_
      refine cmp _ rfl rfl rfl ?_
      refine jt ?_
      refine c_cond rfl (fun h3 => ?_) (fun h3 => ?_)
      · replace h3 := of_decide_eq_true h3
        refine c_seq ?_
        refine c_reg ?_
        refine mv (.int _ _) rfl ?_
        refine remU32 (a := ((UInt32.ofNat w.toNat) / (10000 : UInt32))) (b := (100 : UInt32)) rfl rfl (by decide) ?_
        refine mulU32 (a := (((UInt32.ofNat w.toNat) / (10000 : UInt32)) % (100 : UInt32))) (b := (2 : UInt32)) rfl rfl ?_
        have N142 : ((((UInt32.ofNat w.toNat) / (10000 : UInt32)) % (100 : UInt32)) * (2 : UInt32)).toNat = 2 * (w.toNat / 10000 % 100) := by rw [UInt32.toNat_mul, UInt32.toNat_mod, N103]; simp only [UInt32.reduceToNat, Nat.reducePow]; omega
        refine asg (.int _ _) rfl ?_
        refine jt ?_
        refine c_seq ?_
        refine c_reg ?_
        refine mv (.int _ _) rfl ?_
        refine quoU32 (a := ((UInt32.ofNat w.toNat) / (10000 : UInt32))) (b := (100 : UInt32)) rfl rfl (by decide) ?_
        have N144 : (((UInt32.ofNat w.toNat) / (10000 : UInt32)) / (100 : UInt32)).toNat = w.toNat / 10000 / 100 := by rw [UInt32.toNat_div, N103]; rfl
        refine asg (.int _ _) rfl ?_
        refine jt ?_
        refine c_seq ?_
        refine c_dr [] [] [(0, 0), (1, 0), (2, 0), (3, 0), (4, 0), (5, 0), (6, 0), (7, 0), (8, 0), (9, 0), (10, 0), (11, 0), (12, 1), (13, 0), (14, 1)] follows (by kernel_rfl) calm_body (keepS [] rfl) ?_
        refine mv (.slice _ _ _) rfl ?_
        refine mv (.int _ _) rfl ?_
        refine subi rfl rfl rfl (by omega) ?_
        refine mv (.slice _ _ _) rfl ?_
        refine mv (.int _ _) rfl ?_
        refine subi rfl rfl rfl (by omega) ?_
        refine mv (.int _ _) rfl ?_
        refine addU32 (a := ((((UInt32.ofNat w.toNat) / (10000 : UInt32)) % (100 : UInt32)) * (2 : UInt32))) (b := (1 : UInt32)) rfl rfl ?_
        have N152 : (((((UInt32.ofNat w.toNat) / (10000 : UInt32)) % (100 : UInt32)) * (2 : UInt32)) + (1 : UInt32)).toNat = 2 * (w.toNat / 10000 % 100) + 1 := by rw [UInt32.toNat_add, N142]; simp only [UInt32.reduceToNat, Nat.reducePow]; omega
        refine idxT (s := smallsL) ((((((UInt32.ofNat w.toNat) / (10000 : UInt32)) % (100 : UInt32)) * (2 : UInt32)) + (1 : UInt32)).toNat) (by kernel_rfl) rfl Tryd.underlying9 rfl (by rw [smallsL_length]; omega) ?_
        refine mv (.int _ _) rfl ?_
        refine idxT (s := smallsL) (((((UInt32.ofNat w.toNat) / (10000 : UInt32)) % (100 : UInt32)) * (2 : UInt32)).toNat) (by kernel_rfl) rfl Tryd.underlying9 rfl (by rw [smallsL_length]; omega) ?_
        refine ixa (nd - 4 - 1) rfl rfl Tryd.underlying50 ty5.sz (by omega) (by omega) ?_
        refine stG 0 (nd - 4 - 1) _ (List.getD smallsL ((((((UInt32.ofNat w.toNat) / (10000 : UInt32)) % (100 : UInt32)) * (2 : UInt32)) + (1 : UInt32)).toNat) 0) rfl rfl rfl rfl (by first | omega | (simp; done) | (simp; omega) | (simp at *; omega)) ty5 ⟨keepI [] rfl, ?_⟩
        refine ixa (nd - 4 - 2) rfl rfl Tryd.underlying50 ty5.sz (by omega) (by omega) ?_
        refine stG 0 (nd - 4 - 2) _ (List.getD smallsL (((((UInt32.ofNat w.toNat) / (10000 : UInt32)) % (100 : UInt32)) * (2 : UInt32)).toNat) 0) rfl rfl rfl rfl (by first | omega | (simp; done) | (simp; omega) | (simp at *; omega)) ty5 ⟨keepI [] rfl, ?_⟩
        refine jt ?_
        refine c_reg ?_
        refine mv (.int _ _) rfl ?_
        refine subi rfl rfl rfl (by omega) ?_
        refine asg (.int _ _) rfl ?_
        refine jt ?_
        refine c_seq ?_
        have G2 := FB.two G4 (by omega) (smh2 N152 (by omega) (by omega)) (sml2 N142 (by omega) (by omega))
        refine c_reg ?_
        refine mv (.int _ _) rfl ?_
        refine cmp _ rfl rfl rfl ?_
        refine jt ?_
        refine c_cond rfl (fun h4 => ?_) (fun h4 => ?_)
        · replace h4 := of_decide_eq_true h4
          refine c_reg ?_
          refine mv (.slice _ _ _) rfl ?_
          refine mv (.int _ _) rfl ?_
          refine addU32 (a := (48 : UInt32)) (b := (((UInt32.ofNat w.toNat) / (10000 : UInt32)) / (100 : UInt32))) rfl rfl ?_
          have N164 : ((48 : UInt32) + (((UInt32.ofNat w.toNat) / (10000 : UInt32)) / (100 : UInt32))).toNat = 48 + w.toNat / 10000 / 100 := by have L := G2.lt; rw [show nd - 4 - 2 = 1 by omega] at L; rw [UInt32.toNat_add, N144]; simp only [UInt32.reduceToNat, Nat.reducePow]; omega
          refine cvNU8 (n := ((48 : UInt32) + (((UInt32.ofNat w.toNat) / (10000 : UInt32)) / (100 : UInt32))).toNat) rfl Tryd.underlying47 Tryd.underlying5 ?_
          refine ixa 0 rfl rfl Tryd.underlying50 ty5.sz rfl (by omega) ?_
          refine stG 0 0 _ (UInt8.ofNat (((48 : UInt32) + (((UInt32.ofNat w.toNat) / (10000 : UInt32)) / (100 : UInt32))).toNat)) rfl rfl rfl rfl (by first | omega | (simp; done) | (simp; omega) | (simp at *; omega)) ty5 ⟨trivial, ?_⟩
          refine jn ?_
          exact j_end (own0 := [Gseg b E pre ys0 post]) (ro0 := []) (.inr rfl) rfl (hr0 Tryd.results75) [0] [] [_] [] [] _ rfl rfl (by kernel_rfl) rfl impl_nil (⟨rfl, by have L := G2.lt; rw [show nd - 4 - 2 = 1 by omega] at L; have G1 := FB.one G2 (by omega) (dch_small N164 (by omega)); rw [show nd - 4 - 2 - 1 = 0 by omega] at G1; rw [G1.fin], rfl⟩)
        · replace h4 := of_decide_eq_false h4
          refine c_skip ?_
          exact j_end (own0 := [Gseg b E pre ys0 post]) (ro0 := []) (.inr rfl) rfl (hr0 Tryd.results75) [0] [] [_] [] [] _ rfl rfl (by kernel_rfl) rfl impl_nil (⟨rfl, by rw [G2.fin0 (by omega)], rfl⟩)
      · replace h3 := of_decide_eq_false h3
        refine c_skip ?_
        refine e_then ?_
        refine c_seq ?_
        have G2 := G4
        refine c_reg ?_
        refine mv (.int _ _) rfl ?_
        refine cmp _ rfl rfl rfl ?_
        refine jt ?_
        refine c_cond rfl (fun h5 => ?_) (fun h5 => ?_)
        · replace h5 := of_decide_eq_true h5
          refine c_reg ?_
          refine mv (.slice _ _ _) rfl ?_
          refine mv (.int _ _) rfl ?_
          refine addU32 (a := (48 : UInt32)) (b := ((UInt32.ofNat w.toNat) / (10000 : UInt32))) rfl rfl ?_
          have N164 : ((48 : UInt32) + ((UInt32.ofNat w.toNat) / (10000 : UInt32))).toNat = 48 + w.toNat / 10000 := by have L := G2.lt; rw [show nd - 4 = 1 by omega] at L; rw [UInt32.toNat_add, N103]; simp only [UInt32.reduceToNat, Nat.reducePow]; omega
          refine cvNU8 (n := ((48 : UInt32) + ((UInt32.ofNat w.toNat) / (10000 : UInt32))).toNat) rfl Tryd.underlying47 Tryd.underlying5 ?_
          refine ixa 0 rfl rfl Tryd.underlying50 ty5.sz rfl (by omega) ?_
          refine stG 0 0 _ (UInt8.ofNat (((48 : UInt32) + ((UInt32.ofNat w.toNat) / (10000 : UInt32))).toNat)) rfl rfl rfl rfl (by first | omega | (simp; done) | (simp; omega) | (simp at *; omega)) ty5 ⟨trivial, ?_⟩
          refine jn ?_
          exact j_end (own0 := [Gseg b E pre ys0 post]) (ro0 := []) (.inr rfl) rfl (hr0 Tryd.results75) [0] [] [_] [] [] _ rfl rfl (by kernel_rfl) rfl impl_nil (⟨rfl, by have L := G2.lt; rw [show nd - 4 = 1 by omega] at L; have G1 := FB.one G2 (by omega) (dch_small N164 (by omega)); rw [show nd - 4 - 1 = 0 by omega] at G1; rw [G1.fin], rfl⟩)
        · replace h5 := of_decide_eq_false h5
          refine c_skip ?_
          exact j_end (own0 := [Gseg b E pre ys0 post]) (ro0 := []) (.inr rfl) rfl (hr0 Tryd.results75) [0] [] [_] [] [] _ rfl rfl (by kernel_rfl) rfl impl_nil (⟨rfl, by rw [G2.fin0 (by omega)], rfl⟩)
    · replace h2 := of_decide_eq_false h2
      refine c_skip ?_
      refine e_then ?_
      refine c_seq ?_
      refine c_seq ?_
      have G4 := hI1
      refine c_reg ?_
      refine mv (.int _ _) rfl ?_
      refine cmp _ rfl rfl rfl ?_
      refine jt ?_
      refine c_cond rfl (fun h6 => ?_) (fun h6 => ?_)
      · replace h6 := of_decide_eq_true h6
        refine c_seq ?_
        refine c_reg ?_
        refine mv (.int _ _) rfl ?_
        refine remU32 (a := (UInt32.ofNat w.toNat)) (b := (100 : UInt32)) rfl rfl (by decide) ?_
        refine mulU32 (a := ((UInt32.ofNat w.toNat) % (100 : UInt32))) (b := (2 : UInt32)) rfl rfl ?_
        have N142 : (((UInt32.ofNat w.toNat) % (100 : UInt32)) * (2 : UInt32)).toNat = 2 * (w.toNat % 100) := by rw [UInt32.toNat_mul, UInt32.toNat_mod, N97]; simp only [UInt32.reduceToNat, Nat.reducePow]; omega
        refine asg (.int _ _) rfl ?_
        refine jt ?_
        refine c_seq ?_
        refine c_reg ?_
        refine mv (.int _ _) rfl ?_
        refine quoU32 (a := (UInt32.ofNat w.toNat)) (b := (100 : UInt32)) rfl rfl (by decide) ?_
        have N144 : ((UInt32.ofNat w.toNat) / (100 : UInt32)).toNat = w.toNat / 100 := by rw [UInt32.toNat_div, N97]; rfl
        refine asg (.int _ _) rfl ?_
        refine jt ?_
        refine c_seq ?_
        refine c_dr [] [] [(0, 0), (1, 0), (2, 0), (3, 0), (4, 0), (5, 0), (6, 0), (7, 0), (8, 0), (9, 0), (10, 0), (11, 0), (12, 1), (13, 0), (14, 1)] follows (by kernel_rfl) calm_body (keepS [] rfl) ?_
        refine mv (.slice _ _ _) rfl ?_
        refine mv (.int _ _) rfl ?_
        refine subi rfl rfl rfl (by omega) ?_
        refine mv (.slice _ _ _) rfl ?_
        refine mv (.int _ _) rfl ?_
        refine subi rfl rfl rfl (by omega) ?_
        refine mv (.int _ _) rfl ?_
        refine addU32 (a := (((UInt32.ofNat w.toNat) % (100 : UInt32)) * (2 : UInt32))) (b := (1 : UInt32)) rfl rfl ?_
        have N152 : ((((UInt32.ofNat w.toNat) % (100 : UInt32)) * (2 : UInt32)) + (1 : UInt32)).toNat = 2 * (w.toNat % 100) + 1 := by rw [UInt32.toNat_add, N142]; simp only [UInt32.reduceToNat, Nat.reducePow]; omega
        refine idxT (s := smallsL) (((((UInt32.ofNat w.toNat) % (100 : UInt32)) * (2 : UInt32)) + (1 : UInt32)).toNat) (by kernel_rfl) rfl Tryd.underlying9 rfl (by rw [smallsL_length]; omega) ?_
        refine mv (.int _ _) rfl ?_
        refine idxT (s := smallsL) ((((UInt32.ofNat w.toNat) % (100 : UInt32)) * (2 : UInt32)).toNat) (by kernel_rfl) rfl Tryd.underlying9 rfl (by rw [smallsL_length]; omega) ?_
        refine ixa (nd - 1) rfl rfl Tryd.underlying50 ty5.sz (by omega) (by omega) ?_
        refine stG 0 (nd - 1) _ (List.getD smallsL (((((UInt32.ofNat w.toNat) % (100 : UInt32)) * (2 : UInt32)) + (1 : UInt32)).toNat) 0) rfl rfl rfl rfl (by first | omega | (simp; done) | (simp; omega) | (simp at *; omega)) ty5 ⟨keepI [] rfl, ?_⟩
        refine ixa (nd - 2) rfl rfl Tryd.underlying50 ty5.sz (by omega) (by omega) ?_
        refine stG 0 (nd - 2) _ (List.getD smallsL ((((UInt32.ofNat w.toNat) % (100 : UInt32)) * (2 : UInt32)).toNat) 0) rfl rfl rfl rfl (by first | omega | (simp; done) | (simp; omega) | (simp at *; omega)) ty5 ⟨keepI [] rfl, ?_⟩
        refine jt ?_
        refine c_reg ?_
        refine mv (.int _ _) rfl ?_
        refine subi rfl rfl rfl (by omega) ?_
        refine asg (.int _ _) rfl ?_
        refine jt ?_
        refine c_seq ?_
        have G2 := FB.two G4 (by omega) (smh2 N152 (by omega) (by omega)) (sml2 N142 (by omega) (by omega))
        refine c_reg ?_
        refine mv (.int _ _) rfl ?_
        refine cmp _ rfl rfl rfl ?_
        refine jt ?_
        refine c_cond rfl (fun h7 => ?_) (fun h7 => ?_)
        · replace h7 := of_decide_eq_true h7
          refine c_reg ?_
          refine mv (.slice _ _ _) rfl ?_
          refine mv (.int _ _) rfl ?_
          refine addU32 (a := (48 : UInt32)) (b := ((UInt32.ofNat w.toNat) / (100 : UInt32))) rfl rfl ?_
          have N164 : ((48 : UInt32) + ((UInt32.ofNat w.toNat) / (100 : UInt32))).toNat = 48 + w.toNat / 100 := by have L := G2.lt; rw [show nd - 2 = 1 by omega] at L; rw [UInt32.toNat_add, N144]; simp only [UInt32.reduceToNat, Nat.reducePow]; omega
          refine cvNU8 (n := ((48 : UInt32) + ((UInt32.ofNat w.toNat) / (100 : UInt32))).toNat) rfl Tryd.underlying47 Tryd.underlying5 ?_
          refine ixa 0 rfl rfl Tryd.underlying50 ty5.sz rfl (by omega) ?_
          refine stG 0 0 _ (UInt8.ofNat (((48 : UInt32) + ((UInt32.ofNat w.toNat) / (100 : UInt32))).toNat)) rfl rfl rfl rfl (by first | omega | (simp; done) | (simp; omega) | (simp at *; omega)) ty5 ⟨trivial, ?_⟩
          refine jn ?_
          exact j_end (own0 := [Gseg b E pre ys0 post]) (ro0 := []) (.inr rfl) rfl (hr0 Tryd.results75) [0] [] [_] [] [] _ rfl rfl (by kernel_rfl) rfl impl_nil (⟨rfl, by have L := G2.lt; rw [show nd - 2 = 1 by omega] at L; have G1 := FB.one G2 (by omega) (dch_small N164 (by omega)); rw [show nd - 2 - 1 = 0 by omega] at G1; rw [G1.fin], rfl⟩)
        · replace h7 := of_decide_eq_false h7
          refine c_skip ?_
          exact j_end (own0 := [Gseg b E pre ys0 post]) (ro0 := []) (.inr rfl) rfl (hr0 Tryd.results75) [0] [] [_] [] [] _ rfl rfl (by kernel_rfl) rfl impl_nil (⟨rfl, by rw [G2.fin0 (by omega)], rfl⟩)
      · replace h6 := of_decide_eq_false h6
        refine c_skip ?_
        refine e_then ?_
        refine c_seq ?_
        have G2 := G4
        refine c_reg ?_
        refine mv (.int _ _) rfl ?_
        refine cmp _ rfl rfl rfl ?_
        refine jt ?_
        refine c_cond rfl (fun h8 => ?_) (fun h8 => ?_)
        · replace h8 := of_decide_eq_true h8
          refine c_reg ?_
          refine mv (.slice _ _ _) rfl ?_
          refine mv (.int _ _) rfl ?_
          refine addU32 (a := (48 : UInt32)) (b := (UInt32.ofNat w.toNat)) rfl rfl ?_
          have N164 : ((48 : UInt32) + (UInt32.ofNat w.toNat)).toNat = 48 + w.toNat := by have L := G2.lt; rw [show nd = 1 by omega] at L; rw [UInt32.toNat_add, N97]; simp only [UInt32.reduceToNat, Nat.reducePow]; omega
          refine cvNU8 (n := ((48 : UInt32) + (UInt32.ofNat w.toNat)).toNat) rfl Tryd.underlying47 Tryd.underlying5 ?_
          refine ixa 0 rfl rfl Tryd.underlying50 ty5.sz rfl (by omega) ?_
          refine stG 0 0 _ (UInt8.ofNat (((48 : UInt32) + (UInt32.ofNat w.toNat)).toNat)) rfl rfl rfl rfl (by first | omega | (simp; done) | (simp; omega) | (simp at *; omega)) ty5 ⟨trivial, ?_⟩
          refine jn ?_
          exact j_end (own0 := [Gseg b E pre ys0 post]) (ro0 := []) (.inr rfl) rfl (hr0 Tryd.results75) [0] [] [_] [] [] _ rfl rfl (by kernel_rfl) rfl impl_nil (⟨rfl, by have L := G2.lt; rw [show nd = 1 by omega] at L; have G1 := FB.one G2 (by omega) (dch_small N164 (by omega)); rw [show nd - 1 = 0 by omega] at G1; rw [G1.fin], rfl⟩)
        · replace h8 := of_decide_eq_false h8
          refine c_skip ?_
          exact j_end (own0 := [Gseg b E pre ys0 post]) (ro0 := []) (.inr rfl) rfl (hr0 Tryd.results75) [0] [] [_] [] [] _ rfl rfl (by kernel_rfl) rfl impl_nil (⟨rfl, by rw [G2.fin0 (by omega)], rfl⟩)
end Go.Proofs.YthpbiamicidakaaDoor
