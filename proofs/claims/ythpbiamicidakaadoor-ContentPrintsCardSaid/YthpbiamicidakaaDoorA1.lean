/- Contracts of the program's functions, walked. No condition. -/
import Derived.Test.YthpbiamicidakaaDoorProg
import Derived.Test.YthpbiamicidakaaDoorEu
namespace Go.Proofs.YthpbiamicidakaaDoor
open Go Go.Proofs Go.PW
open Go.PW.Enc (enc val)
theorem follows : Tryd.prog.follows .mixedOrders = true := by kernel_rfl

theorem IsNaN_ct (f : F64) : Ct Tryd.prog 41 [.float .f64 f.b.toNat] [] [] (fun v o r => v = .bool (fNe f.b.toNat f.b.toNat) ∧ o = [] ∧ r = []) := by
  refine ct_enter Tryd.func41 rfl Tryd.ntmps41 (by kernel_rfl) rfl fun w0 => ?_
  refine c_seq ?_
  refine c_reg ?_
  refine asg (.bool _) rfl ?_
  refine jt ?_
  refine c_seq ?_
  refine c_reg ?_
  refine mv (.float _ _) rfl ?_
  refine mv (.float _ _) rfl ?_
  refine fcmp (fNe f.b.toNat f.b.toNat) rfl rfl rfl ?_
  refine asg (.bool _) rfl ?_
  refine jt ?_
  refine c_ret ?_
  exact j_end (own0 := []) (ro0 := []) (.inl rfl) rfl (hr1 Tryd.results41 (rvt (v := (.bool _)) rfl)) [] [] [] [] [] _ rfl rfl (by kernel_rfl) rfl impl_nil (⟨rfl, rfl, rfl⟩)

theorem Abs_ct (f : F64) : Ct Tryd.prog 42 [.float .f64 f.b.toNat] [] [] (fun v o r => v = .float .f64 (absF f).b.toNat ∧ o = [] ∧ r = []) := by
  refine ct_enter Tryd.func42 rfl Tryd.ntmps42 (by kernel_rfl) rfl fun w0 => ?_
  refine c_seq ?_
  refine c_reg ?_
  refine asg (.float _ _) rfl ?_
  refine jt ?_
  refine c_seq ?_
  refine c_reg ?_
  refine mv (.float _ _) rfl ?_
  refine xcal (args := [.float .f64 f.b.toNat]) (.int .u64 (f.b.toNat : Int)) Tryd.func27 (by kernel_rfl) (by kernel_rfl) (by kernel_rfl) (fun w => rfl) (by kernel_rfl) rfl ?_
  refine andNotU64 (a := f.b) (b := (9223372036854775808 : UInt64)) rfl rfl ?_
  refine xcal (args := [.int .u64 ((f.b &&& ~~~(9223372036854775808 : UInt64)).toNat : Int)]) (.float .f64 (f.b &&& ~~~(9223372036854775808 : UInt64)).toNat) Tryd.func16 (by kernel_rfl) (by kernel_rfl) (by kernel_rfl) (fun w => rfl) (by kernel_rfl) rfl ?_
  refine asg (.float _ _) rfl ?_
  refine jt ?_
  refine c_ret ?_
  exact j_end (own0 := []) (ro0 := []) (.inl rfl) rfl (hr1 Tryd.results42 (rvt (v := (.float _ _)) rfl)) [] [] [] [] [] _ rfl rfl (by kernel_rfl) rfl impl_nil (⟨rfl, rfl, rfl⟩)

theorem Signbit_ct (f : F64) : Ct Tryd.prog 43 [.float .f64 f.b.toNat] [] [] (fun v o r => v = .bool (negF f) ∧ o = [] ∧ r = []) := by
  refine ct_enter Tryd.func43 rfl Tryd.ntmps43 (by kernel_rfl) rfl fun w0 => ?_
  refine c_seq ?_
  refine c_reg ?_
  refine asg (.bool _) rfl ?_
  refine jt ?_
  refine c_seq ?_
  refine c_reg ?_
  refine mv (.float _ _) rfl ?_
  refine xcal (args := [.float .f64 f.b.toNat]) (.int .u64 (f.b.toNat : Int)) Tryd.func27 (by kernel_rfl) (by kernel_rfl) (by kernel_rfl) (fun w => rfl) (by kernel_rfl) rfl ?_
  refine cvI (IntKind.i64.wrap (f.b.toNat : Int)) rfl Tryd.underlying23 Tryd.underlying2 rfl ?_
  refine cmp _ rfl rfl rfl ?_
  refine asg (.bool _) rfl ?_
  refine jt ?_
  refine c_ret ?_
  exact j_end (own0 := []) (ro0 := []) (.inl rfl) rfl (hr1 Tryd.results43 (rvt (v := (.bool _)) rfl)) [] [] [] [] [] _ rfl rfl (by kernel_rfl) rfl impl_nil (⟨rfl, rfl, rfl⟩)

set_option maxRecDepth 20000 in
set_option maxHeartbeats 4000000 in
theorem word_ct (s : Str) (hs : 8 ≤ s.length) : Ct Tryd.prog 90 [strV s] [] [] (fun v o r => v = .int .u64 (w8 s).toNat ∧ o = [] ∧ r = []) := by
  refine ct_enter Tryd.func90 rfl Tryd.ntmps90 (by kernel_rfl) rfl fun w0 => ?_
  refine c_seq ?_
  refine c_reg ?_
  refine asg (.int _ _) rfl ?_
  refine jt ?_
  refine c_seq ?_
  refine c_false rfl ?_
  refine c_skip ?_
  refine e_then ?_
  refine c_seq ?_
  refine c_dr [] [] [(0, 0), (1, 0), (2, 0), (3, 0), (4, 0), (5, 0), (6, 0), (7, 0), (8, 0), (9, 0), (10, 0), (11, 0), (12, 0), (13, 0), (14, 0), (15, 0), (16, 0), (17, 0), (18, 0), (19, 0), (20, 0), (21, 0), (22, 0), (23, 0), (24, 0), (25, 0), (26, 0), (27, 0), (28, 0), (29, 0), (30, 0), (31, 0), (32, 0), (33, 0), (34, 0), (35, 0), (36, 0), (37, 0), (38, 0)] follows (by kernel_rfl) calm_body (keepS [] rfl) ?_
  refine mv (.string _) rfl ?_
  refine idxT (s := s) 0 rfl rfl Tryd.underlying9 rfl (by first | omega | (simp; done) | (simp; omega) | (simp at *; omega)) ?_
  refine cvNU64 (n := (List.getD s 0 0).toNat) rfl Tryd.underlying5 Tryd.underlying23 ?_
  refine mv (.string _) rfl ?_
  refine idxT (s := s) 1 rfl rfl Tryd.underlying9 rfl (by first | omega | (simp; done) | (simp; omega) | (simp at *; omega)) ?_
  refine cvNU64 (n := (List.getD s 1 0).toNat) rfl Tryd.underlying5 Tryd.underlying23 ?_
  refine shlRU64 (a := (UInt64.ofNat ((List.getD s 1 0).toNat))) 8 rfl rfl rfl ?_
  refine orU64 (a := (UInt64.ofNat ((List.getD s 0 0).toNat))) (b := (shlU64 (UInt64.ofNat ((List.getD s 1 0).toNat)) 8)) rfl rfl ?_
  refine mv (.string _) rfl ?_
  refine idxT (s := s) 2 rfl rfl Tryd.underlying9 rfl (by first | omega | (simp; done) | (simp; omega) | (simp at *; omega)) ?_
  refine cvNU64 (n := (List.getD s 2 0).toNat) rfl Tryd.underlying5 Tryd.underlying23 ?_
  refine shlRU64 (a := (UInt64.ofNat ((List.getD s 2 0).toNat))) 16 rfl rfl rfl ?_
  refine orU64 (a := ((UInt64.ofNat ((List.getD s 0 0).toNat)) ||| (shlU64 (UInt64.ofNat ((List.getD s 1 0).toNat)) 8))) (b := (shlU64 (UInt64.ofNat ((List.getD s 2 0).toNat)) 16)) rfl rfl ?_
  refine mv (.string _) rfl ?_
  refine idxT (s := s) 3 rfl rfl Tryd.underlying9 rfl (by first | omega | (simp; done) | (simp; omega) | (simp at *; omega)) ?_
  refine cvNU64 (n := (List.getD s 3 0).toNat) rfl Tryd.underlying5 Tryd.underlying23 ?_
  refine shlRU64 (a := (UInt64.ofNat ((List.getD s 3 0).toNat))) 24 rfl rfl rfl ?_
  refine orU64 (a := (((UInt64.ofNat ((List.getD s 0 0).toNat)) ||| (shlU64 (UInt64.ofNat ((List.getD s 1 0).toNat)) 8)) ||| (shlU64 (UInt64.ofNat ((List.getD s 2 0).toNat)) 16))) (b := (shlU64 (UInt64.ofNat ((List.getD s 3 0).toNat)) 24)) rfl rfl ?_
  refine mv (.string _) rfl ?_
  refine idxT (s := s) 4 rfl rfl Tryd.underlying9 rfl (by first | omega | (simp; done) | (simp; omega) | (simp at *; omega)) ?_
  refine cvNU64 (n := (List.getD s 4 0).toNat) rfl Tryd.underlying5 Tryd.underlying23 ?_
  refine shlRU64 (a := (UInt64.ofNat ((List.getD s 4 0).toNat))) 32 rfl rfl rfl ?_
  refine orU64 (a := ((((UInt64.ofNat ((List.getD s 0 0).toNat)) ||| (shlU64 (UInt64.ofNat ((List.getD s 1 0).toNat)) 8)) ||| (shlU64 (UInt64.ofNat ((List.getD s 2 0).toNat)) 16)) ||| (shlU64 (UInt64.ofNat ((List.getD s 3 0).toNat)) 24))) (b := (shlU64 (UInt64.ofNat ((List.getD s 4 0).toNat)) 32)) rfl rfl ?_
  refine mv (.string _) rfl ?_
  refine idxT (s := s) 5 rfl rfl Tryd.underlying9 rfl (by first | omega | (simp; done) | (simp; omega) | (simp at *; omega)) ?_
  refine cvNU64 (n := (List.getD s 5 0).toNat) rfl Tryd.underlying5 Tryd.underlying23 ?_
  refine shlRU64 (a := (UInt64.ofNat ((List.getD s 5 0).toNat))) 40 rfl rfl rfl ?_
  refine orU64 (a := (((((UInt64.ofNat ((List.getD s 0 0).toNat)) ||| (shlU64 (UInt64.ofNat ((List.getD s 1 0).toNat)) 8)) ||| (shlU64 (UInt64.ofNat ((List.getD s 2 0).toNat)) 16)) ||| (shlU64 (UInt64.ofNat ((List.getD s 3 0).toNat)) 24)) ||| (shlU64 (UInt64.ofNat ((List.getD s 4 0).toNat)) 32))) (b := (shlU64 (UInt64.ofNat ((List.getD s 5 0).toNat)) 40)) rfl rfl ?_
  refine mv (.string _) rfl ?_
  refine idxT (s := s) 6 rfl rfl Tryd.underlying9 rfl (by first | omega | (simp; done) | (simp; omega) | (simp at *; omega)) ?_
  refine cvNU64 (n := (List.getD s 6 0).toNat) rfl Tryd.underlying5 Tryd.underlying23 ?_
  refine shlRU64 (a := (UInt64.ofNat ((List.getD s 6 0).toNat))) 48 rfl rfl rfl ?_
  refine orU64 (a := ((((((UInt64.ofNat ((List.getD s 0 0).toNat)) ||| (shlU64 (UInt64.ofNat ((List.getD s 1 0).toNat)) 8)) ||| (shlU64 (UInt64.ofNat ((List.getD s 2 0).toNat)) 16)) ||| (shlU64 (UInt64.ofNat ((List.getD s 3 0).toNat)) 24)) ||| (shlU64 (UInt64.ofNat ((List.getD s 4 0).toNat)) 32)) ||| (shlU64 (UInt64.ofNat ((List.getD s 5 0).toNat)) 40))) (b := (shlU64 (UInt64.ofNat ((List.getD s 6 0).toNat)) 48)) rfl rfl ?_
  refine mv (.string _) rfl ?_
  refine idxT (s := s) 7 rfl rfl Tryd.underlying9 rfl (by first | omega | (simp; done) | (simp; omega) | (simp at *; omega)) ?_
  refine cvNU64 (n := (List.getD s 7 0).toNat) rfl Tryd.underlying5 Tryd.underlying23 ?_
  refine shlRU64 (a := (UInt64.ofNat ((List.getD s 7 0).toNat))) 56 rfl rfl rfl ?_
  refine orU64 (a := (((((((UInt64.ofNat ((List.getD s 0 0).toNat)) ||| (shlU64 (UInt64.ofNat ((List.getD s 1 0).toNat)) 8)) ||| (shlU64 (UInt64.ofNat ((List.getD s 2 0).toNat)) 16)) ||| (shlU64 (UInt64.ofNat ((List.getD s 3 0).toNat)) 24)) ||| (shlU64 (UInt64.ofNat ((List.getD s 4 0).toNat)) 32)) ||| (shlU64 (UInt64.ofNat ((List.getD s 5 0).toNat)) 40)) ||| (shlU64 (UInt64.ofNat ((List.getD s 6 0).toNat)) 48))) (b := (shlU64 (UInt64.ofNat ((List.getD s 7 0).toNat)) 56)) rfl rfl ?_
  refine asg (.int _ _) rfl ?_
  refine jt ?_
  refine c_ret ?_
  exact j_end (own0 := []) (ro0 := []) (.inl rfl) rfl (hr1 Tryd.results90 (rvt (v := (.int _ _)) rfl)) [] [] [] [] [] _ rfl rfl (by kernel_rfl) rfl impl_nil (⟨rfl, rfl, rfl⟩)
end Go.Proofs.YthpbiamicidakaaDoor
