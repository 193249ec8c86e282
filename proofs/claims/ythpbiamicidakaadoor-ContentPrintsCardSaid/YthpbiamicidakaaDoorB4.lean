/- Contracts of the program's functions, walked. No condition. -/
import Derived.Test.YthpbiamicidakaaDoorB3
import Derived.Test.YthpbiamicidakaaDoorH4
namespace Go.Proofs.YthpbiamicidakaaDoor
open Go Go.Proofs Go.PW
open Go.PW.Enc (enc val)


theorem slHasPrefix_ct (s p : Str) (hs : s.length ≤ 9223372036854775807) (hp : p.length ≤ 9223372036854775807) : Ct Tryd.prog 100 [strV s, strV p] [] [] (fun v o r => v = .bool (pfx s p) ∧ o = [] ∧ r = []) := by
  refine ct_enter Tryd.func100 rfl Tryd.ntmps100 (by kernel_rfl) rfl fun w0 => ?_
  refine c_seq ?_
  refine c_reg ?_
  refine asg (.bool _) rfl ?_
  refine jt ?_
  refine c_seq ?_
  refine c_reg ?_
  refine mv (.string _) rfl ?_
  refine lenT (s := s) rfl Tryd.underlying9 ?_
  refine mv (.string _) rfl ?_
  refine lenT (s := p) rfl Tryd.underlying9 ?_
  refine cmp _ rfl rfl rfl ?_
  refine mv (.bool _) rfl ?_
  refine jsplit 10 rfl (fun h1 => ?_) (fun h1 => ?_)
  · replace h1 := of_decide_eq_true h1
    refine g_on rfl rfl rfl ?_
    refine mv (.string _) rfl ?_
    refine g_on rfl rfl rfl ?_
    refine mv (.string _) rfl ?_
    refine g_on rfl rfl rfl ?_
    refine lenT (s := p) rfl Tryd.underlying9 ?_
    refine g_on rfl rfl rfl ?_
    refine cutT (s := s) 0 p.length rfl Tryd.underlying9 rfl ⟨_, rfl⟩ (by first | omega | (simp; done) | (simp; omega)) (by first | omega | (simp; done) | (simp; omega)) (List.take p.length s) (cut_lo _ _) ?_
    refine g_on rfl rfl rfl ?_
    refine mv (.string _) rfl ?_
    refine g_on rfl rfl rfl ?_
    refine scmp (a := (List.take p.length s)) (b := p) _ rfl rfl Tryd.underlying9 rfl ?_
    refine pkt (.bool _) rfl rfl ?_
    refine asg (.bool _) rfl ?_
    refine jt ?_
    refine c_ret ?_
    exact j_end (own0 := []) (ro0 := []) (.inl rfl) rfl (hr1 Tryd.results100 (rvt (v := (.bool _)) rfl)) [] [] [] [] [] _ rfl rfl (by kernel_rfl) rfl impl_nil (⟨by unfold pfx; rw [decide_eq_true (show p.length ≤ s.length by omega)]; simp, rfl, rfl⟩)
  · replace h1 := of_decide_eq_false h1
    refine g_off rfl rfl rfl rfl ?_
    refine g_off rfl rfl rfl rfl ?_
    refine g_off rfl rfl rfl rfl ?_
    refine g_off rfl rfl rfl rfl ?_
    refine g_off rfl rfl rfl rfl ?_
    refine g_off rfl rfl rfl rfl ?_
    refine pkf (.bool _) rfl rfl ?_
    refine asg (.bool _) rfl ?_
    refine jt ?_
    refine c_ret ?_
    exact j_end (own0 := []) (ro0 := []) (.inl rfl) rfl (hr1 Tryd.results100 (rvt (v := (.bool _)) rfl)) [] [] [] [] [] _ rfl rfl (by kernel_rfl) rfl impl_nil (⟨by unfold pfx; rw [decide_eq_false (show ¬ p.length ≤ s.length by omega)]; rfl, rfl, rfl⟩)

theorem sHasPrefix_ct (s p : Str) (hs : s.length ≤ 9223372036854775807) (hp : p.length ≤ 9223372036854775807) : Ct Tryd.prog 81 [strV s, strV p] [] [] (fun v o r => v = .bool (pfx s p) ∧ o = [] ∧ r = []) := by
  refine ct_enter Tryd.func81 rfl Tryd.ntmps81 (by kernel_rfl) rfl fun w0 => ?_
  refine c_seq ?_
  refine c_reg ?_
  refine asg (.bool _) rfl ?_
  refine jt ?_
  refine c_seq ?_
  refine c_reg ?_
  refine mv (.string _) rfl ?_
  refine mv (.string _) rfl ?_
  refine cal (slHasPrefix_ct s p hs hp) [] [] [] rfl rfl rfl (by kernel_rfl) impl_nil rfl ?_; rintro _ _ _ ⟨rfl, rfl, rfl⟩; refine ⟨trivial, ?_⟩
  refine asg (.bool _) rfl ?_
  refine jt ?_
  refine c_ret ?_
  exact j_end (own0 := []) (ro0 := []) (.inl rfl) rfl (hr1 Tryd.results81 (rvt (v := (.bool _)) rfl)) [] [] [] [] [] _ rfl rfl (by kernel_rfl) rfl impl_nil (⟨rfl, rfl, rfl⟩)

set_option maxRecDepth 20000 in
set_option maxHeartbeats 4000000 in
theorem mul64_1_ct (c : Nat) (hc : c < 65) : Ct Tryd.prog 99 [.int .u64 1, .int .u64 ((UInt64.ofNat c).toNat : Int)] [] [] (fun v o r => v = .tuple #[.int .u64 0, .int .u64 ((UInt64.ofNat c).toNat : Int)] ∧ o = [] ∧ r = []) := by
  refine ct_enter Tryd.func99 rfl Tryd.ntmps99 (by kernel_rfl) rfl fun w0 => ?_
  refine c_seq ?_
  refine c_reg ?_
  refine asg (.int _ _) rfl ?_
  refine asg (.int _ _) rfl ?_
  refine jt ?_
  refine c_seq ?_
  refine c_reg ?_
  refine mv (.int _ _) rfl ?_
  refine bopI (.int .u64 1) rfl rfl (by kernel_rfl) ?_
  refine asg (.int _ _) rfl ?_
  refine jt ?_
  refine c_seq ?_
  refine c_reg ?_
  refine mv (.int _ _) rfl ?_
  refine bopI (.int .u64 0) rfl rfl (by kernel_rfl) ?_
  refine asg (.int _ _) rfl ?_
  refine jt ?_
  refine c_seq ?_
  refine c_reg ?_
  refine mv (.int _ _) rfl ?_
  refine andU64 (a := (UInt64.ofNat c)) (b := (4294967295 : UInt64)) rfl rfl ?_
  refine asg (.int _ _) rfl ?_
  refine jt ?_
  refine c_seq ?_
  refine c_reg ?_
  refine mv (.int _ _) rfl ?_
  refine shrRU64 (a := (UInt64.ofNat c)) 32 rfl rfl rfl ?_
  refine asg (.int _ _) rfl ?_
  refine jt ?_
  refine c_seq ?_
  refine c_reg ?_
  refine mv (.int _ _) rfl ?_
  refine mv (.int _ _) rfl ?_
  refine mulU64 (a := (1 : UInt64)) (b := ((UInt64.ofNat c) &&& (4294967295 : UInt64))) rfl rfl ?_
  refine asg (.int _ _) rfl ?_
  refine jt ?_
  refine c_seq ?_
  refine c_reg ?_
  refine mv (.int _ _) rfl ?_
  refine mv (.int _ _) rfl ?_
  refine mulU64 (a := (0 : UInt64)) (b := ((UInt64.ofNat c) &&& (4294967295 : UInt64))) rfl rfl ?_
  refine mv (.int _ _) rfl ?_
  refine shrRU64 (a := ((1 : UInt64) * ((UInt64.ofNat c) &&& (4294967295 : UInt64)))) 32 rfl rfl rfl ?_
  refine addU64 (a := ((0 : UInt64) * ((UInt64.ofNat c) &&& (4294967295 : UInt64)))) (b := (shrU64 ((1 : UInt64) * ((UInt64.ofNat c) &&& (4294967295 : UInt64))) 32)) rfl rfl ?_
  refine asg (.int _ _) rfl ?_
  refine jt ?_
  refine c_seq ?_
  refine c_reg ?_
  refine mv (.int _ _) rfl ?_
  refine andU64 (a := (((0 : UInt64) * ((UInt64.ofNat c) &&& (4294967295 : UInt64))) + (shrU64 ((1 : UInt64) * ((UInt64.ofNat c) &&& (4294967295 : UInt64))) 32))) (b := (4294967295 : UInt64)) rfl rfl ?_
  refine asg (.int _ _) rfl ?_
  refine jt ?_
  refine c_seq ?_
  refine c_reg ?_
  refine mv (.int _ _) rfl ?_
  refine shrRU64 (a := (((0 : UInt64) * ((UInt64.ofNat c) &&& (4294967295 : UInt64))) + (shrU64 ((1 : UInt64) * ((UInt64.ofNat c) &&& (4294967295 : UInt64))) 32))) 32 rfl rfl rfl ?_
  refine asg (.int _ _) rfl ?_
  refine jt ?_
  refine c_seq ?_
  refine c_reg ?_
  refine mv (.int _ _) rfl ?_
  refine mv (.int _ _) rfl ?_
  refine mv (.int _ _) rfl ?_
  refine mulU64 (a := (1 : UInt64)) (b := (shrU64 (UInt64.ofNat c) 32)) rfl rfl ?_
  refine addU64 (a := ((((0 : UInt64) * ((UInt64.ofNat c) &&& (4294967295 : UInt64))) + (shrU64 ((1 : UInt64) * ((UInt64.ofNat c) &&& (4294967295 : UInt64))) 32)) &&& (4294967295 : UInt64))) (b := ((1 : UInt64) * (shrU64 (UInt64.ofNat c) 32))) rfl rfl ?_
  refine asg (.int _ _) rfl ?_
  refine jt ?_
  refine c_seq ?_
  refine c_reg ?_
  refine mv (.int _ _) rfl ?_
  refine mv (.int _ _) rfl ?_
  refine mulU64 (a := (0 : UInt64)) (b := (shrU64 (UInt64.ofNat c) 32)) rfl rfl ?_
  refine mv (.int _ _) rfl ?_
  refine addU64 (a := ((0 : UInt64) * (shrU64 (UInt64.ofNat c) 32))) (b := (shrU64 (((0 : UInt64) * ((UInt64.ofNat c) &&& (4294967295 : UInt64))) + (shrU64 ((1 : UInt64) * ((UInt64.ofNat c) &&& (4294967295 : UInt64))) 32)) 32)) rfl rfl ?_
  refine mv (.int _ _) rfl ?_
  refine shrRU64 (a := (((((0 : UInt64) * ((UInt64.ofNat c) &&& (4294967295 : UInt64))) + (shrU64 ((1 : UInt64) * ((UInt64.ofNat c) &&& (4294967295 : UInt64))) 32)) &&& (4294967295 : UInt64)) + ((1 : UInt64) * (shrU64 (UInt64.ofNat c) 32)))) 32 rfl rfl rfl ?_
  refine addU64 (a := (((0 : UInt64) * (shrU64 (UInt64.ofNat c) 32)) + (shrU64 (((0 : UInt64) * ((UInt64.ofNat c) &&& (4294967295 : UInt64))) + (shrU64 ((1 : UInt64) * ((UInt64.ofNat c) &&& (4294967295 : UInt64))) 32)) 32))) (b := (shrU64 (((((0 : UInt64) * ((UInt64.ofNat c) &&& (4294967295 : UInt64))) + (shrU64 ((1 : UInt64) * ((UInt64.ofNat c) &&& (4294967295 : UInt64))) 32)) &&& (4294967295 : UInt64)) + ((1 : UInt64) * (shrU64 (UInt64.ofNat c) 32))) 32)) rfl rfl ?_
  refine asg (.int _ _) rfl ?_
  refine jt ?_
  refine c_seq ?_
  refine c_reg ?_
  refine mv (.int _ _) rfl ?_
  refine mv (.int _ _) rfl ?_
  refine mulU64 (a := (1 : UInt64)) (b := (UInt64.ofNat c)) rfl rfl ?_
  refine asg (.int _ _) rfl ?_
  refine jt ?_
  refine c_ret ?_
  exact j_end (own0 := []) (ro0 := []) (.inl rfl) rfl (hr2 Tryd.results99 (rvt (v := (.int _ _)) rfl) (rvt (v := (.int _ _)) rfl)) [] [] [] [] [] _ rfl rfl (by kernel_rfl) rfl impl_nil (⟨by rw [show (((((0 : UInt64) * (shrU64 (UInt64.ofNat c) 32)) + (shrU64 (((0 : UInt64) * ((UInt64.ofNat c) &&& (4294967295 : UInt64))) + (shrU64 ((1 : UInt64) * ((UInt64.ofNat c) &&& (4294967295 : UInt64))) 32)) 32)) + (shrU64 (((((0 : UInt64) * ((UInt64.ofNat c) &&& (4294967295 : UInt64))) + (shrU64 ((1 : UInt64) * ((UInt64.ofNat c) &&& (4294967295 : UInt64))) 32)) &&& (4294967295 : UInt64)) + ((1 : UInt64) * (shrU64 (UInt64.ofNat c) 32))) 32))).toNat = 0 from (by clear w0; revert c; decide +kernel), show ((1 : UInt64) * (UInt64.ofNat c)) = UInt64.ofNat c from (by clear w0; revert c; decide +kernel)]; rfl, rfl, rfl⟩)

theorem mul_1_ct (c : Nat) (hc : c < 65) : Ct Tryd.prog 80 [.int .u64 1, .int .u64 ((UInt64.ofNat c).toNat : Int)] [] [] (fun v o r => v = .tuple #[.int .u64 0, .int .u64 ((UInt64.ofNat c).toNat : Int)] ∧ o = [] ∧ r = []) := by
  refine ct_enter Tryd.func80 rfl Tryd.ntmps80 (by kernel_rfl) rfl fun w0 => ?_
  refine c_seq ?_
  refine c_reg ?_
  refine asg (.int _ _) rfl ?_
  refine asg (.int _ _) rfl ?_
  refine jt ?_
  refine c_seq ?_
  refine c_false rfl ?_
  refine c_skip ?_
  refine e_then ?_
  refine c_seq ?_
  refine c_reg ?_
  refine mv (.int _ _) rfl ?_
  refine mv (.int _ _) rfl ?_
  refine cal (mul64_1_ct c hc) [] [] [] rfl rfl rfl (by kernel_rfl) impl_nil rfl ?_; rintro _ _ _ ⟨rfl, rfl, rfl⟩; refine ⟨trivial, ?_⟩
  refine mv (.tuple _) rfl ?_
  refine xtr (.int _ _) rfl rfl ?_
  refine xtr (.int _ _) rfl rfl ?_
  refine asg (.int _ _) rfl ?_
  refine asg (.int _ _) rfl ?_
  refine jt ?_
  refine c_seq ?_
  refine c_reg ?_
  refine mv (.int _ _) rfl ?_
  refine mv (.int _ _) rfl ?_
  refine asg (.int _ _) rfl ?_
  refine asg (.int _ _) rfl ?_
  refine jt ?_
  refine c_ret ?_
  exact j_end (own0 := []) (ro0 := []) (.inl rfl) rfl (hr2 Tryd.results80 (rvt (v := (.int _ _)) rfl) (rvt (v := (.int _ _)) rfl)) [] [] [] [] [] _ rfl rfl (by kernel_rfl) rfl impl_nil (⟨rfl, rfl, rfl⟩)

set_option maxRecDepth 20000 in
set_option maxHeartbeats 4000000 in
theorem Repeat0_ct (c : Nat) (hc : c < 65) : Ct Tryd.prog 56 [strV ([48] : Str), .int .i64 (c : Int)] [] [] (fun v o r => v = strV (List.replicate c 48) ∧ o = [] ∧ r = []) := by
  have HC : (UInt64.ofNat c).toNat = c := by rw [UInt64.toNat_ofNat']; omega
  refine ct_enter Tryd.func56 rfl Tryd.ntmps56 (by kernel_rfl) rfl fun w0 => ?_
  refine c_seq ?_
  refine c_reg ?_
  refine asg (.string _) rfl ?_
  refine jt ?_
  refine c_seq ?_
  refine c_seq ?_
  refine c_reg ?_
  refine mv (.int _ _) rfl ?_
  refine jt ?_
  refine c_block ?_
  refine c_seq ?_
  refine c_reg ?_
  refine cmp _ rfl rfl rfl ?_
  refine asg (.bool _) rfl ?_
  refine jt ?_
  refine c_cond rfl (fun h1 => ?_) (fun h1 => ?_)
  · replace h1 := of_decide_eq_true h1
    refine c_seq ?_
    refine c_reg ?_
    refine asg (.string _) rfl ?_
    refine jt ?_
    refine c_ret ?_
    exact j_end (own0 := []) (ro0 := []) (.inl rfl) rfl (hr1 Tryd.results56 (rvt (v := (.string _)) rfl)) [] [] [] [] [] _ rfl rfl (by kernel_rfl) rfl impl_nil (⟨by rw [show c = 0 by omega]; rfl, rfl, rfl⟩)
  · replace h1 := of_decide_eq_false h1
    refine c_seq ?_
    refine c_reg ?_
    refine cmp _ rfl rfl rfl ?_
    refine asg (.bool _) rfl ?_
    refine jt ?_
    refine c_cond rfl (fun h2 => ?_) (fun h2 => ?_)
    · replace h2 := of_decide_eq_true h2
      refine c_seq ?_
      refine c_reg ?_
      refine mv (.string _) rfl ?_
      refine asg (.string _) rfl ?_
      refine jt ?_
      refine c_ret ?_
      exact j_end (own0 := []) (ro0 := []) (.inl rfl) rfl (hr1 Tryd.results56 (rvt (v := (.string _)) rfl)) [] [] [] [] [] _ rfl rfl (by kernel_rfl) rfl impl_nil (⟨by rw [show c = 1 by omega]; rfl, rfl, rfl⟩)
    · replace h2 := of_decide_eq_false h2
      refine c_skip ?_
      refine e_in ?_
      refine e_then ?_
      refine c_seq ?_
      refine c_seq ?_
      refine c_reg ?_
      refine mv (.int _ _) rfl ?_
      refine cmp false rfl rfl (by simp [cmpV]) ?_
      refine jt ?_
      refine c_false rfl ?_
      refine c_skip ?_
      refine e_then ?_
      refine c_seq ?_
      refine c_reg ?_
      refine mv (.string _) rfl ?_
      refine lenT (s := ([48] : Str)) rfl Tryd.underlying9 ?_
      refine cvZU64 (n := (([48] : Str).length : Int)) rfl Tryd.underlying3 Tryd.underlying87 ?_
      refine mv (.int _ _) rfl ?_
      refine cvNU64 (n := c) rfl Tryd.underlying3 Tryd.underlying87 ?_
      refine cal (mul_1_ct c hc) [] [] [] rfl rfl rfl (by kernel_rfl) impl_nil rfl ?_; rintro _ _ _ ⟨rfl, rfl, rfl⟩; refine ⟨trivial, ?_⟩
      refine mv (.tuple _) rfl ?_
      refine xtr (.int _ _) rfl rfl ?_
      refine xtr (.int _ _) rfl rfl ?_
      refine asg (.int _ _) rfl ?_
      refine asg (.int _ _) rfl ?_
      refine jt ?_
      refine c_seq ?_
      refine c_seq ?_
      refine c_reg ?_
      refine mv (.int _ _) rfl ?_
      refine cmp false rfl rfl rfl ?_
      refine mv (.bool _) rfl ?_
      refine g_on rfl rfl rfl ?_
      refine mv (.int _ _) rfl ?_
      refine g_on rfl rfl rfl ?_
      refine cmp false rfl rfl (by simp only [cmpV, HC]; simp; omega) ?_
      refine pkf (.bool _) rfl rfl ?_
      refine jt ?_
      refine c_false rfl ?_
      refine c_skip ?_
      refine e_then ?_
      refine c_seq ?_
      refine c_reg ?_
      refine mv (.int _ _) rfl ?_
      refine cvI (c : Int) rfl Tryd.underlying87 Tryd.underlying3 (by rw [HC]; exact wI64 (by omega)) ?_
      refine asg (.int _ _) rfl ?_
      refine jt ?_
      refine c_seq ?_
      refine c_seq ?_
      refine c_reg ?_
      refine mv (.string _) rfl ?_
      refine lenT (s := ([48] : Str)) rfl Tryd.underlying9 ?_
      refine cmp false rfl rfl rfl ?_
      refine jt ?_
      refine c_false rfl ?_
      refine c_skip ?_
      refine e_then ?_
      refine c_seq ?_
      refine c_seq ?_
      refine c_reg ?_
      refine mv (.string _) rfl ?_
      refine idxT (s := ([48] : Str)) 0 rfl rfl Tryd.underlying9 rfl (by first | omega | (simp; done) | (simp; omega) | (simp at *; omega)) ?_
      refine jt ?_
      refine c_block ?_
      refine c_seq ?_
      refine c_seq ?_
      refine c_reg ?_
      refine cmp false rfl rfl rfl ?_
      refine asg (.bool _) rfl ?_
      refine jt ?_
      refine c_false rfl ?_
      refine c_seq ?_
      refine c_reg ?_
      refine cmp false rfl rfl rfl ?_
      refine asg (.bool _) rfl ?_
      refine jt ?_
      refine c_false rfl ?_
      refine c_seq ?_
      refine c_reg ?_
      refine cmp true rfl rfl rfl ?_
      refine asg (.bool _) rfl ?_
      refine jt ?_
      refine c_true rfl ?_
      refine c_skip ?_
      refine e_then ?_
      refine c_true rfl ?_
      refine c_block ?_
      refine c_seq ?_
      refine c_reg ?_
      refine mv (.int _ _) rfl ?_
      refine cmp true rfl rfl (by simp only [cmpV]; simp; omega) ?_
      refine mv (.bool _) rfl ?_
      refine g_on rfl rfl rfl ?_
      refine mv (.string _) rfl ?_
      refine g_on rfl rfl rfl ?_
      refine cal (sHasPrefix_ct (List.replicate 128 (32 : UInt8)) ([48] : Str) (by decide) (by decide)) [] [] [] rfl rfl rfl (by kernel_rfl) impl_nil rfl ?_; rintro _ _ _ ⟨rfl, rfl, rfl⟩; refine ⟨trivial, ?_⟩
      refine j_re 54 (.bool false) (congrArg Value.bool (by decide +kernel)) ?_
      refine pkt (.bool _) rfl rfl ?_
      refine asg (.bool _) rfl ?_
      refine jt ?_
      refine c_false rfl ?_
      refine c_seq ?_
      refine c_reg ?_
      refine mv (.int _ _) rfl ?_
      refine cmp true rfl rfl (by simp only [cmpV]; simp; omega) ?_
      refine mv (.bool _) rfl ?_
      refine g_on rfl rfl rfl ?_
      refine mv (.string _) rfl ?_
      refine g_on rfl rfl rfl ?_
      refine cal (sHasPrefix_ct (List.replicate 128 (45 : UInt8)) ([48] : Str) (by decide) (by decide)) [] [] [] rfl rfl rfl (by kernel_rfl) impl_nil rfl ?_; rintro _ _ _ ⟨rfl, rfl, rfl⟩; refine ⟨trivial, ?_⟩
      refine j_re 63 (.bool false) (congrArg Value.bool (by decide +kernel)) ?_
      refine pkt (.bool _) rfl rfl ?_
      refine asg (.bool _) rfl ?_
      refine jt ?_
      refine c_false rfl ?_
      refine c_seq ?_
      refine c_reg ?_
      refine mv (.int _ _) rfl ?_
      refine cmp true rfl rfl (by simp only [cmpV]; simp; omega) ?_
      refine mv (.bool _) rfl ?_
      refine g_on rfl rfl rfl ?_
      refine mv (.string _) rfl ?_
      refine g_on rfl rfl rfl ?_
      refine cal (sHasPrefix_ct (List.replicate 64 (48 : UInt8)) ([48] : Str) (by decide) (by decide)) [] [] [] rfl rfl rfl (by kernel_rfl) impl_nil rfl ?_; rintro _ _ _ ⟨rfl, rfl, rfl⟩; refine ⟨trivial, ?_⟩
      refine j_re 72 (.bool true) (congrArg Value.bool (by decide +kernel)) ?_
      refine pkt (.bool _) rfl rfl ?_
      refine asg (.bool _) rfl ?_
      refine jt ?_
      refine c_true rfl ?_
      refine c_seq ?_
      refine c_reg ?_
      refine mv (.int _ _) rfl ?_
      refine cutT (s := (List.replicate 64 (48 : UInt8))) 0 c (by kernel_rfl) Tryd.underlying9 rfl ⟨_, rfl⟩ (by omega) (by simp; omega) (List.take c (List.replicate 64 (48 : UInt8))) (cut_lo _ _) ?_
      refine asg (.string _) rfl ?_
      refine jt ?_
      refine c_ret ?_
      exact j_end (own0 := []) (ro0 := []) (.inl rfl) rfl (hr1 Tryd.results56 (rvt (v := (.string _)) rfl)) [] [] [] [] [] _ rfl rfl (by kernel_rfl) rfl impl_nil (⟨by rw [take_rep c (by omega)], rfl, rfl⟩)
end Go.Proofs.YthpbiamicidakaaDoor
