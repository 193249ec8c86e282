/- Contracts of the program's functions, walked. No condition. -/
import Derived.Test.YthpbiamicidakaaDoorB1
namespace Go.Proofs.YthpbiamicidakaaDoor
open Go Go.Proofs Go.PW
open Go.PW.Enc (enc val)
theorem z128 : Zt Tryd.prog 128 (.agg ⟨cat [pt (zarr : (Arr UInt8 65))]⟩) := by unfold Zt; kernel_rfl
theorem z106 : Zt Tryd.prog 106 (.agg ⟨cat [pt (zarr : (Arr UInt8 24))]⟩) := by unfold Zt; kernel_rfl

theorem isPow16_ct  : Ct Tryd.prog 94 [.int .i64 16] [] [] (fun v o r => v = .bool true ∧ o = [] ∧ r = []) := by
  refine ct_enter Tryd.func94 rfl Tryd.ntmps94 (by kernel_rfl) rfl fun w0 => ?_
  refine c_seq ?_
  refine c_reg ?_
  refine asg (.bool _) rfl ?_
  refine jt ?_
  refine c_seq ?_
  refine c_reg ?_
  refine mv (.int _ _) rfl ?_
  refine mv (.int _ _) rfl ?_
  refine bopI (.int .i64 15) rfl rfl (by kernel_rfl) ?_
  refine bopI (.int .i64 0) rfl rfl (by kernel_rfl) ?_
  refine cmp true rfl rfl rfl ?_
  refine asg (.bool _) rfl ?_
  refine jt ?_
  refine c_ret ?_
  exact j_end (own0 := []) (ro0 := []) (.inl rfl) rfl (hr1 Tryd.results94 (rvt (v := (.bool _)) rfl)) [] [] [] [] [] _ rfl rfl (by kernel_rfl) rfl impl_nil (⟨rfl, rfl, rfl⟩)

theorem tz64_16_ct  : Ct Tryd.prog 113 [.int .u64 16] [] [tDb64 8] (fun v o r => v = .int .i64 4 ∧ o = [] ∧ r = []) := by
  refine ct_enter Tryd.func113 rfl Tryd.ntmps113 (by kernel_rfl) rfl fun w0 => ?_
  refine c_seq ?_
  refine c_reg ?_
  refine asg (.int _ _) rfl ?_
  refine jt ?_
  refine c_seq ?_
  refine c_seq ?_
  refine c_reg ?_
  refine mv (.int _ _) rfl ?_
  refine cmp false rfl rfl rfl ?_
  refine jt ?_
  refine c_false rfl ?_
  refine c_skip ?_
  refine e_then ?_
  refine c_seq ?_
  refine c_reg ?_
  refine mv (.int _ _) rfl ?_
  refine mv (.int _ _) rfl ?_
  refine negC 18446744073709551600 rfl (by kernel_rfl) ?_
  refine bopI (.int .u64 16) rfl rfl (by kernel_rfl) ?_
  refine bopI (.int .u64 4573923408821661840) rfl rfl (by kernel_rfl) ?_
  refine bopI (.int .u64 15) rfl rfl (by kernel_rfl) ?_
  refine ixaA 15 rfl rfl Tryd.underlying150 ty5.sz rfl (by decide) ?_
  refine ldvG 0 15 (List.getD dbL 15 (0)) rfl rfl rfl (getD_some (by decide)) ty5 ?_
  refine cvI ((List.getD dbL 15 (0)).toNat : Int) rfl Tryd.underlying5 Tryd.underlying3 (wI64 (by have := UInt8.toNat_lt (List.getD dbL 15 (0)); omega)) ?_
  refine asg (.int _ _) rfl ?_
  refine jt ?_
  refine c_ret ?_
  exact j_end (own0 := []) (ro0 := [tDb64 8]) (.inl rfl) rfl (hr1 Tryd.results113 (rvt (v := (.int _ _)) rfl)) [] [] [] [] [] _ rfl rfl (by kernel_rfl) rfl impl_nil (⟨by kernel_rfl, rfl, rfl⟩)

theorem tz_16_ct  : Ct Tryd.prog 95 [.int .u64 16] [] [tDb64 8] (fun v o r => v = .int .i64 4 ∧ o = [] ∧ r = []) := by
  refine ct_enter Tryd.func95 rfl Tryd.ntmps95 (by kernel_rfl) rfl fun w0 => ?_
  refine c_seq ?_
  refine c_reg ?_
  refine asg (.int _ _) rfl ?_
  refine jt ?_
  refine c_seq ?_
  refine c_false rfl ?_
  refine c_skip ?_
  refine e_then ?_
  refine c_seq ?_
  refine c_reg ?_
  refine mv (.int _ _) rfl ?_
  refine cal tz64_16_ct [] [] [] rfl rfl rfl (by kernel_rfl) (impl_cons (impl_at 0 rfl) impl_nil) rfl ?_; rintro _ _ _ ⟨rfl, rfl, rfl⟩; refine ⟨trivial, ?_⟩
  refine asg (.int _ _) rfl ?_
  refine jt ?_
  refine c_ret ?_
  exact j_end (own0 := []) (ro0 := [tDb64 8]) (.inl rfl) rfl (hr1 Tryd.results95 (rvt (v := (.int _ _)) rfl)) [] [] [] [] [] _ rfl rfl (by kernel_rfl) rfl impl_nil (⟨rfl, rfl, rfl⟩)

set_option maxRecDepth 20000 in
set_option maxHeartbeats 4000000 in
theorem formatBits_ct (u : UInt64) : Ct Tryd.prog 76 [.slice none 0 0, .int .u64 (u.toNat : Int), .int .i64 16, .bool false, .bool false] [] [tDb64 8] (fun v o r => v = .tuple #[.slice none 0 0, strV (fmtN 16 u.toNat)] ∧ o = [] ∧ r = []) := by
  have HU := u.toNat_lt
  refine ct_enter Tryd.func76 rfl Tryd.ntmps76 (by kernel_rfl) rfl fun w0 => ?_
  refine c_seq ?_
  refine c_reg ?_
  refine asg (.slice _ _ _) rfl ?_
  refine asg (.string _) rfl ?_
  refine jt ?_
  refine c_seq ?_
  refine c_seq ?_
  refine c_reg ?_
  refine mv (.int _ _) rfl ?_
  refine cmp false rfl rfl rfl ?_
  refine mv (.bool _) rfl ?_
  refine g_on rfl rfl rfl ?_
  refine mv (.int _ _) rfl ?_
  refine g_on rfl rfl rfl ?_
  refine cmp false rfl rfl rfl ?_
  refine pkf (.bool _) rfl rfl ?_
  refine mv (.bool _) rfl ?_
  refine g_on rfl rfl rfl ?_
  refine mv (.int _ _) rfl ?_
  refine g_on rfl rfl rfl ?_
  refine cmp false rfl rfl rfl ?_
  refine pkf (.bool _) rfl rfl ?_
  refine jt ?_
  refine c_false rfl ?_
  refine c_skip ?_
  refine e_then ?_
  refine c_seq ?_
  refine c_reg ?_
  refine alo [pt (zarr : (Arr UInt8 65))] _ z128 rfl fun b12 => ⟨trivial, ?_⟩
  refine jt ?_
  refine c_seq ?_
  refine c_reg ?_
  refine asg (.int _ _) rfl ?_
  refine jt ?_
  refine c_seq ?_
  refine c_seq ?_
  refine c_reg ?_
  refine mv (.bool _) rfl ?_
  refine jt ?_
  refine c_false rfl ?_
  refine c_skip ?_
  refine e_then ?_
  refine c_seq ?_
  refine c_seq ?_
  refine c_reg ?_
  refine mv (.int _ _) rfl ?_
  refine cal isPow16_ct [] [0] [_] rfl rfl rfl (by kernel_rfl) impl_nil rfl ?_; rintro _ _ _ ⟨rfl, rfl, rfl⟩; refine ⟨trivial, ?_⟩
  refine jt ?_
  refine c_true rfl ?_
  refine c_seq ?_
  refine c_reg ?_
  refine mv (.int _ _) rfl ?_
  refine cvI 16 rfl Tryd.underlying3 Tryd.underlying87 (by kernel_rfl) ?_
  refine cal tz_16_ct [] [0] [_] rfl rfl rfl (by kernel_rfl) (impl_cons (impl_at 0 rfl) impl_nil) rfl ?_; rintro _ _ _ ⟨rfl, rfl, rfl⟩; refine ⟨trivial, ?_⟩
  refine cvI 4 rfl Tryd.underlying3 Tryd.underlying87 (by kernel_rfl) ?_
  refine asg (.int _ _) rfl ?_
  refine jt ?_
  refine c_seq ?_
  refine c_reg ?_
  refine mv (.int _ _) rfl ?_
  refine cvI 16 rfl Tryd.underlying3 Tryd.underlying23 (by kernel_rfl) ?_
  refine asg (.int _ _) rfl ?_
  refine jt ?_
  refine c_seq ?_
  refine c_reg ?_
  refine mv (.int _ _) rfl ?_
  refine cvI 16 rfl Tryd.underlying3 Tryd.underlying87 (by kernel_rfl) ?_
  refine bopI (.int .u64 15) rfl rfl (by kernel_rfl) ?_
  refine asg (.int _ _) rfl ?_
  refine jt ?_
  refine c_seq ?_
  refine c_block ?_
  refine c_loop (σ := Nat × Arr UInt8 65 × UInt64) (fun (k, a, w) => FX u.toNat k a w.toNat) (fun (k, a, w) => w.toNat) (fun (k, a, w) => [(13, .int .i64 (65 - (k : Int))), (1, .int .u64 (w.toNat : Int))]) (fun (k, a, w) => [[(b12, .cells (cat [pt a]) 128)]]) (fun (k, a, w) => [tDb64 8]) [1, 13, 44, 45, 46, 47, 48, 49, 50, 51, 52, 53, 54, 55, 56, 57] (0, (zarr : Arr UInt8 65), u) (FX.begin _ _) ⟨by rfl, rfl, trivial⟩ rfl rfl ?_
  rintro ⟨k, a, w⟩ g1 hI1
  try dsimp only at hI1 ⊢
  have HLE := hI1.le
  have HW := w.toNat_lt
  refine c_seq ?_
  refine c_seq ?_
  refine c_reg ?_
  refine mv (.int _ _) rfl ?_
  refine mv (.int _ _) rfl ?_
  refine cmp _ rfl rfl rfl ?_
  refine jt ?_
  refine c_cond rfl (fun h1 => ?_) (fun h1 => ?_)
  · replace h1 := of_decide_eq_true h1
    refine c_skip ?_
    refine e_then ?_
    refine c_block ?_
    refine c_seq ?_
    refine c_reg ?_
    refine mv (.int _ _) rfl ?_
    refine subi rfl rfl rfl (by omega) ?_
    refine asg (.int _ _) rfl ?_
    refine jt ?_
    refine c_seq ?_
    refine c_reg ?_
    refine mv (.int _ _) rfl ?_
    refine mv (.int _ _) rfl ?_
    refine mv (.int _ _) rfl ?_
    refine andU64 (a := w) (b := (15 : UInt64)) rfl rfl ?_
    refine idxT (s := digitsL) ((w &&& 15).toNat) (by kernel_rfl) rfl Tryd.underlying9 rfl (by rw [fx_and]; show _ < 36; omega) ?_
    refine ixaA (64 - k) rfl rfl Tryd.underlying128 ty5.sz (by omega) (by omega) ?_
    refine sta 0 0 _ a (64 - k) (List.getD digitsL ((w &&& 15).toNat) 0) rfl rfl rfl rfl rfl (by omega) ty5 ⟨trivial, ?_⟩
    refine jt ?_
    refine c_reg ?_
    refine mv (.int _ _) rfl ?_
    refine mv (.int _ _) rfl ?_
    refine shrRU64 (a := w) 4 rfl rfl rfl ?_
    refine asg (.int _ _) rfl ?_
    refine jn ?_
    refine e_in ?_
    exact e_loop (k + 1, (Arr.set a (64 - k) (List.getD digitsL ((w &&& 15).toNat) 0)), (shrU64 w 4)) (by rw [show (shrU64 w 4).toNat = w.toNat / 16 from shrU64_toNat w 4]; exact FX.step hI1 HU (by omega) (by rw [digitsL_at _ (by rw [fx_and]; omega), fx_and])) (by show (shrU64 w 4).toNat < w.toNat; rw [shrU64_toNat]; omega) (⟨congrArg (Value.int _) (by omega), rfl, trivial⟩) rfl rfl rfl
  · replace h1 := of_decide_eq_false h1
    refine c_exit rfl ?_
    refine e_then ?_
    refine c_seq ?_
    refine c_reg ?_
    refine mv (.int _ _) rfl ?_
    refine subi rfl rfl rfl (by omega) ?_
    refine asg (.int _ _) rfl ?_
    refine jt ?_
    refine c_reg ?_
    refine mv (.int _ _) rfl ?_
    refine mv (.int _ _) rfl ?_
    refine idxT (s := digitsL) w.toNat (by kernel_rfl) rfl Tryd.underlying9 rfl (by show _ < 36; omega) ?_
    refine ixaA (64 - k) rfl rfl Tryd.underlying128 ty5.sz (by omega) (by omega) ?_
    refine sta 0 0 _ a (64 - k) (List.getD digitsL w.toNat 0) rfl rfl rfl rfl rfl (by omega) ty5 ⟨trivial, ?_⟩
    refine jt ?_
    refine c_seq ?_
    refine c_seq ?_
    refine c_reg ?_
    refine mv (.bool _) rfl ?_
    refine jt ?_
    refine c_false rfl ?_
    refine c_skip ?_
    refine e_then ?_
    refine c_seq ?_
    refine c_seq ?_
    refine c_reg ?_
    refine mv (.bool _) rfl ?_
    refine jt ?_
    refine c_false rfl ?_
    refine c_skip ?_
    refine e_then ?_
    refine c_seq ?_
    refine c_reg ?_
    refine mv (.int _ _) rfl ?_
    refine slaA (64 - k) 65 rfl Tryd.underlying128 ty5.sz ⟨_, congrArg (Value.int _) (by omega)⟩ rfl (by first | omega | (simp; done) | (simp; omega) | (simp at *; omega)) (by first | omega | (simp; done) | (simp; omega) | (simp at *; omega)) (by first | omega | (simp; done) | (simp; omega) | (simp at *; omega)) ?_
    refine cvA (l := (64 - k)) (Arr.set a (64 - k) (List.getD digitsL w.toNat 0)) (65 - (64 - k)) 0 0 rfl (by first | omega | (simp; done) | (simp; omega) | (simp at *; omega)) rfl rfl rfl (by first | omega | (simp; done) | (simp; omega) | (simp at *; omega)) Tryd.underlying50 Tryd.underlying9 Tryd.underlying5 ?_
    refine asg (.string _) rfl ?_
    refine jt ?_
    refine c_ret ?_
    exact j_end (own0 := []) (ro0 := [tDb64 8]) (.inl rfl) rfl (hr2 Tryd.results76 (rvt (v := (.slice _ _ _)) rfl) (rvt (v := (.string _)) rfl)) [] [0] [] [_] [] _ rfl rfl (by kernel_rfl) rfl impl_nil (⟨by rw [FX.fin hI1 (by omega) (digitsL_at _ (by omega))], rfl, rfl⟩)

theorem FormatUint10_ct (u : UInt64) : Ct Tryd.prog 50 [.int .u64 (u.toNat : Int), .int .i64 10] [] [tPow10 3] (fun v o r => v = strV (fmtN 10 u.toNat) ∧ o = [] ∧ r = []) := by
  have HU := u.toNat_lt
  refine ct_enter Tryd.func50 rfl Tryd.ntmps50 (by kernel_rfl) rfl fun w0 => ?_
  refine c_seq ?_
  refine c_reg ?_
  refine asg (.string _) rfl ?_
  refine jt ?_
  refine c_seq ?_
  refine c_seq ?_
  refine c_reg ?_
  refine mv (.int _ _) rfl ?_
  refine cmp true rfl rfl rfl ?_
  refine jt ?_
  refine c_true rfl ?_
  refine c_seq ?_
  refine c_seq ?_
  refine c_reg ?_
  refine mv (.int _ _) rfl ?_
  refine cmp _ rfl rfl rfl ?_
  refine jt ?_
  refine c_cond rfl (fun h1 => ?_) (fun h1 => ?_)
  · replace h1 := of_decide_eq_true h1
    refine c_seq ?_
    refine c_reg ?_
    refine mv (.int _ _) rfl ?_
    refine cvI (u.toNat : Int) rfl Tryd.underlying23 Tryd.underlying3 (wI64 (by omega)) ?_
    refine cal (small_ct u.toNat (by omega)) [] [] [] rfl rfl rfl (by kernel_rfl) impl_nil rfl ?_; rintro _ _ _ ⟨rfl, rfl, rfl⟩; refine ⟨trivial, ?_⟩
    refine asg (.string _) rfl ?_
    refine jt ?_
    refine c_ret ?_
    exact j_end (own0 := []) (ro0 := [tPow10 3]) (.inl rfl) rfl (hr1 Tryd.results50 (rvt (v := (.string _)) rfl)) [] [] [] [] [] _ rfl rfl (by kernel_rfl) rfl impl_nil (⟨rfl, rfl, rfl⟩)
  · replace h1 := of_decide_eq_false h1
    refine c_skip ?_
    refine e_then ?_
    refine c_seq ?_
    refine c_reg ?_
    refine alo [pt (zarr : (Arr UInt8 24))] _ z106 rfl fun b5 => ⟨trivial, ?_⟩
    refine jt ?_
    refine c_seq ?_
    refine c_reg ?_
    refine mv (.int _ _) rfl ?_
    refine cal (numDigits_ct u (by omega)) [] [0] [_] rfl rfl rfl (by kernel_rfl) (impl_cons (impl_at 0 rfl) impl_nil) rfl ?_; rintro _ _ _ ⟨rfl, rfl, rfl⟩; refine ⟨trivial, ?_⟩
    refine asg (.int _ _) rfl ?_
    refine jt ?_
    refine c_seq ?_
    have HND := nd_20 (u := u) (by omega)
    have HLT := nd_lt (u := u)
    refine c_part (own' := [Gseg b5 106 ([]) (List.take (ndg 10 64 u.toNat) (zarr : Arr UInt8 24).l) (encs (List.drop (ndg 10 64 u.toNat) (zarr : Arr UInt8 24).l))]) (by rw [gr_of0 b5 106 (zarr : Arr UInt8 24) (ndg 10 64 u.toNat) (by omega)]; exact List.Perm.refl _) ?_
    refine c_reg ?_
    refine mv (.int _ _) rfl ?_
    refine slaA 0 (ndg 10 64 u.toNat) rfl Tryd.underlying106 ty5.sz rfl ⟨_, rfl⟩ (by first | omega | (simp; done) | (simp; omega) | (simp at *; omega)) (by first | omega | (simp; done) | (simp; omega) | (simp at *; omega)) (by first | omega | (simp; done) | (simp; omega) | (simp at *; omega)) ?_
    refine mv (.int _ _) rfl ?_
    refine cal (formatBase10_ct b5 106 _ (ndg 10 64 u.toNat) ([]) (encs (List.drop (ndg 10 64 u.toNat) (zarr : Arr UInt8 24).l)) (List.take (ndg 10 64 u.toNat) (zarr : Arr UInt8 24).l) u (gr_len0 _ _ (by omega)) (by omega) HLT) [0] [] [] rfl (hx_cons rfl (hx_len (gr_len0 _ _ (by omega)).symm) rfl) rfl (by kernel_rfl) impl_nil rfl ?_; rintro _ _ _ ⟨rfl, rfl, rfl⟩; refine ⟨trivial, ?_⟩
    refine jt ?_
    refine c_seq ?_
    refine c_reg ?_
    refine mv (.int _ _) rfl ?_
    refine slaA 0 (ndg 10 64 u.toNat) rfl Tryd.underlying106 ty5.sz rfl ⟨_, rfl⟩ (by first | omega | (simp; done) | (simp; omega) | (simp at *; omega)) (by first | omega | (simp; done) | (simp; omega) | (simp at *; omega)) (by first | omega | (simp; done) | (simp; omega) | (simp at *; omega)) ?_
    refine cvG (ys := (digs 10 (ndg 10 64 u.toNat) u.toNat)) 0 rfl (by rw [digs_length]; omega) rfl rfl Tryd.underlying50 Tryd.underlying9 Tryd.underlying5 ?_
    refine asg (.string _) rfl ?_
    refine jt ?_
    refine c_ret ?_
    exact j_end (own0 := []) (ro0 := [tPow10 3]) (.inl rfl) rfl (hr1 Tryd.results50 (rvt (v := (.string _)) rfl)) [] [0] [] [_] [] _ rfl rfl (by kernel_rfl) rfl impl_nil (⟨rfl, rfl, rfl⟩)

theorem FormatUint16_ct (u : UInt64) : Ct Tryd.prog 50 [.int .u64 (u.toNat : Int), .int .i64 16] [] [tDb64 8] (fun v o r => v = strV (fmtN 16 u.toNat) ∧ o = [] ∧ r = []) := by
  have HU := u.toNat_lt
  refine ct_enter Tryd.func50 rfl Tryd.ntmps50 (by kernel_rfl) rfl fun w0 => ?_
  refine c_seq ?_
  refine c_reg ?_
  refine asg (.string _) rfl ?_
  refine jt ?_
  refine c_seq ?_
  refine c_seq ?_
  refine c_reg ?_
  refine mv (.int _ _) rfl ?_
  refine cmp false rfl rfl rfl ?_
  refine jt ?_
  refine c_false rfl ?_
  refine c_skip ?_
  refine e_then ?_
  refine c_seq ?_
  refine c_reg ?_
  refine mv (.int _ _) rfl ?_
  refine mv (.int _ _) rfl ?_
  refine cal (formatBits_ct u) [] [] [] rfl rfl rfl (by kernel_rfl) (impl_cons (impl_at 0 rfl) impl_nil) rfl ?_; rintro _ _ _ ⟨rfl, rfl, rfl⟩; refine ⟨trivial, ?_⟩
  refine mv (.tuple _) rfl ?_
  refine xtr (.slice _ _ _) rfl rfl ?_
  refine xtr (.string _) rfl rfl ?_
  refine asg (.slice _ _ _) rfl ?_
  refine asg (.string _) rfl ?_
  refine jt ?_
  refine c_seq ?_
  refine c_reg ?_
  refine mv (.string _) rfl ?_
  refine asg (.string _) rfl ?_
  refine jt ?_
  refine c_ret ?_
  exact j_end (own0 := []) (ro0 := [tDb64 8]) (.inl rfl) rfl (hr1 Tryd.results50 (rvt (v := (.string _)) rfl)) [] [] [] [] [] _ rfl rfl (by kernel_rfl) rfl impl_nil (⟨rfl, rfl, rfl⟩)

theorem sFormatUint10_ct (u : UInt64) : Ct Tryd.prog 20 [.int .u64 (u.toNat : Int), .int .i64 10] [] [tPow10 3] (fun v o r => v = strV (fmtN 10 u.toNat) ∧ o = [] ∧ r = []) := by
  refine ct_enter Tryd.func20 rfl Tryd.ntmps20 (by kernel_rfl) rfl fun w0 => ?_
  refine c_seq ?_
  refine c_reg ?_
  refine asg (.string _) rfl ?_
  refine jt ?_
  refine c_seq ?_
  refine c_reg ?_
  refine mv (.int _ _) rfl ?_
  refine mv (.int _ _) rfl ?_
  refine cal (FormatUint10_ct u) [] [] [] rfl rfl rfl (by kernel_rfl) (impl_cons (impl_at 0 rfl) impl_nil) rfl ?_; rintro _ _ _ ⟨rfl, rfl, rfl⟩; refine ⟨trivial, ?_⟩
  refine asg (.string _) rfl ?_
  refine jt ?_
  refine c_ret ?_
  exact j_end (own0 := []) (ro0 := [tPow10 3]) (.inl rfl) rfl (hr1 Tryd.results20 (rvt (v := (.string _)) rfl)) [] [] [] [] [] _ rfl rfl (by kernel_rfl) rfl impl_nil (⟨rfl, rfl, rfl⟩)

theorem sFormatUint16_ct (u : UInt64) : Ct Tryd.prog 20 [.int .u64 (u.toNat : Int), .int .i64 16] [] [tDb64 8] (fun v o r => v = strV (fmtN 16 u.toNat) ∧ o = [] ∧ r = []) := by
  refine ct_enter Tryd.func20 rfl Tryd.ntmps20 (by kernel_rfl) rfl fun w0 => ?_
  refine c_seq ?_
  refine c_reg ?_
  refine asg (.string _) rfl ?_
  refine jt ?_
  refine c_seq ?_
  refine c_reg ?_
  refine mv (.int _ _) rfl ?_
  refine mv (.int _ _) rfl ?_
  refine cal (FormatUint16_ct u) [] [] [] rfl rfl rfl (by kernel_rfl) (impl_cons (impl_at 0 rfl) impl_nil) rfl ?_; rintro _ _ _ ⟨rfl, rfl, rfl⟩; refine ⟨trivial, ?_⟩
  refine asg (.string _) rfl ?_
  refine jt ?_
  refine c_ret ?_
  exact j_end (own0 := []) (ro0 := [tDb64 8]) (.inl rfl) rfl (hr1 Tryd.results20 (rvt (v := (.string _)) rfl)) [] [] [] [] [] _ rfl rfl (by kernel_rfl) rfl impl_nil (⟨rfl, rfl, rfl⟩)

set_option maxRecDepth 20000 in
set_option maxHeartbeats 4000000 in
theorem FormatInt16_ct (n : Nat) (hn : n < 9223372036854775808) : Ct Tryd.prog 79 [.int .i64 (n : Int), .int .i64 16] [] [tDb64 8] (fun v o r => v = strV (fmtN 16 n) ∧ o = [] ∧ r = []) := by
  refine ct_enter Tryd.func79 rfl Tryd.ntmps79 (by kernel_rfl) rfl fun w0 => ?_
  refine c_seq ?_
  refine c_reg ?_
  refine asg (.string _) rfl ?_
  refine jt ?_
  refine c_seq ?_
  refine c_seq ?_
  refine c_reg ?_
  refine mv (.int _ _) rfl ?_
  refine cmp false rfl rfl rfl ?_
  refine jt ?_
  refine c_false rfl ?_
  refine c_skip ?_
  refine e_then ?_
  refine c_seq ?_
  refine c_reg ?_
  refine mv (.int _ _) rfl ?_
  refine cvNU64 (n := n) rfl Tryd.underlying2 Tryd.underlying23 ?_
  refine mv (.int _ _) rfl ?_
  refine mv (.int _ _) rfl ?_
  refine cmp false rfl rfl (by simp [cmpV]) ?_
  refine cal (formatBits_ct (UInt64.ofNat n)) [] [] [] rfl rfl rfl (by kernel_rfl) (impl_cons (impl_at 0 rfl) impl_nil) rfl ?_; rintro _ _ _ ⟨rfl, rfl, rfl⟩; refine ⟨trivial, ?_⟩
  refine mv (.tuple _) rfl ?_
  refine xtr (.slice _ _ _) rfl rfl ?_
  refine xtr (.string _) rfl rfl ?_
  refine asg (.slice _ _ _) rfl ?_
  refine asg (.string _) rfl ?_
  refine jt ?_
  refine c_seq ?_
  refine c_reg ?_
  refine mv (.string _) rfl ?_
  refine asg (.string _) rfl ?_
  refine jt ?_
  refine c_ret ?_
  exact j_end (own0 := []) (ro0 := [tDb64 8]) (.inl rfl) rfl (hr1 Tryd.results79 (rvt (v := (.string _)) rfl)) [] [] [] [] [] _ rfl rfl (by kernel_rfl) rfl impl_nil (⟨by rw [UInt64.toNat_ofNat', Nat.mod_eq_of_lt (by omega)], rfl, rfl⟩)

theorem sFormatInt16_ct (n : Nat) (hn : n < 9223372036854775808) : Ct Tryd.prog 54 [.int .i64 (n : Int), .int .i64 16] [] [tDb64 8] (fun v o r => v = strV (fmtN 16 n) ∧ o = [] ∧ r = []) := by
  refine ct_enter Tryd.func54 rfl Tryd.ntmps54 (by kernel_rfl) rfl fun w0 => ?_
  refine c_seq ?_
  refine c_reg ?_
  refine asg (.string _) rfl ?_
  refine jt ?_
  refine c_seq ?_
  refine c_reg ?_
  refine mv (.int _ _) rfl ?_
  refine mv (.int _ _) rfl ?_
  refine cal (FormatInt16_ct n hn) [] [] [] rfl rfl rfl (by kernel_rfl) (impl_cons (impl_at 0 rfl) impl_nil) rfl ?_; rintro _ _ _ ⟨rfl, rfl, rfl⟩; refine ⟨trivial, ?_⟩
  refine asg (.string _) rfl ?_
  refine jt ?_
  refine c_ret ?_
  exact j_end (own0 := []) (ro0 := [tDb64 8]) (.inl rfl) rfl (hr1 Tryd.results54 (rvt (v := (.string _)) rfl)) [] [] [] [] [] _ rfl rfl (by kernel_rfl) rfl impl_nil (⟨rfl, rfl, rfl⟩)
end Go.Proofs.YthpbiamicidakaaDoor
