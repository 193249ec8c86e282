/- Laws of an engine and of the program's functions, gathered. No condition. -/
import Derived.Test.YthpbiamicidakaaDoorQ3
namespace Go.Proofs.YthpbiamicidakaaDoor
open Go Go.Proofs Go.PW
open Go.PW.Enc (enc val)
set_option maxRecDepth 20000 in
set_option maxHeartbeats 4000000 in
theorem formatBitsN_ct (u : UInt64) : Ct Tryd.prog 76 [.slice none 0 0, .int .u64 (u.toNat : Int), .int .i64 16, .bool true, .bool false] [] [tDb64 8] (fun v o r => ∃ x : Str, v = .tuple #[.slice none 0 0, strV x] ∧ o = [] ∧ r = []) := by
  refine ct_enter Tryd.func76 rfl Tryd.ntmps76 (by kernel_rfl) rfl fun w0 => ?_
  refine c_seq ?_
  refine c_reg ?_
  refine asg (.slice _ _ _) rfl ?_
  refine asg (.string _) rfl ?_
  refine jt ?_
  refine c_seq ?_
  refine c_seq ?_
  refine c_reg ?_
  refine mv (.int _ _) rfl ?_
  refine cmp false rfl rfl rfl ?_
  refine mv (.bool _) rfl ?_
  refine g_on rfl rfl rfl ?_
  refine mv (.int _ _) rfl ?_
  refine g_on rfl rfl rfl ?_
  refine cmp false rfl rfl rfl ?_
  refine pkf (.bool _) rfl rfl ?_
  refine mv (.bool _) rfl ?_
  refine g_on rfl rfl rfl ?_
  refine mv (.int _ _) rfl ?_
  refine g_on rfl rfl rfl ?_
  refine cmp false rfl rfl rfl ?_
  refine pkf (.bool _) rfl rfl ?_
  refine jt ?_
  refine c_false rfl ?_
  refine c_skip ?_
  refine e_then ?_
  refine c_seq ?_
  refine c_reg ?_
  refine alo [pt (zarr : (Arr UInt8 65))] _ z128 rfl fun b12 => ⟨trivial, ?_⟩
  refine jt ?_
  refine c_seq ?_
  refine c_reg ?_
  refine asg (.int _ _) rfl ?_
  refine jt ?_
  refine c_seq ?_
  refine c_seq ?_
  refine c_reg ?_
  refine mv (.bool _) rfl ?_
  refine jt ?_
  refine c_true rfl ?_
  refine c_reg ?_
  refine mv (.int _ _) rfl ?_
  refine negU (a := u) rfl ?_
  refine asg (.int _ _) rfl ?_
  refine jt ?_
  refine c_seq ?_
  refine c_seq ?_
  refine c_reg ?_
  refine mv (.int _ _) rfl ?_
  refine cal isPow16_ct [] [0] [_] rfl rfl rfl (by kernel_rfl) impl_nil rfl ?_; rintro _ _ _ ⟨rfl, rfl, rfl⟩; refine ⟨trivial, ?_⟩
  refine jt ?_
  refine c_true rfl ?_
  refine c_seq ?_
  refine c_reg ?_
  refine mv (.int _ _) rfl ?_
  refine cvI 16 rfl Tryd.underlying3 Tryd.underlying87 (by kernel_rfl) ?_
  refine cal tz_16_ct [] [0] [_] rfl rfl rfl (by kernel_rfl) (impl_cons (impl_at 0 rfl) impl_nil) rfl ?_; rintro _ _ _ ⟨rfl, rfl, rfl⟩; refine ⟨trivial, ?_⟩
  refine cvI 4 rfl Tryd.underlying3 Tryd.underlying87 (by kernel_rfl) ?_
  refine asg (.int _ _) rfl ?_
  refine jt ?_
  refine c_seq ?_
  refine c_reg ?_
  refine mv (.int _ _) rfl ?_
  refine cvI 16 rfl Tryd.underlying3 Tryd.underlying23 (by kernel_rfl) ?_
  refine asg (.int _ _) rfl ?_
  refine jt ?_
  refine c_seq ?_
  refine c_reg ?_
  refine mv (.int _ _) rfl ?_
  refine cvI 16 rfl Tryd.underlying3 Tryd.underlying87 (by kernel_rfl) ?_
  refine bopI (.int .u64 15) rfl rfl (by kernel_rfl) ?_
  refine asg (.int _ _) rfl ?_
  refine jt ?_
  refine c_seq ?_
  refine c_block ?_
  refine c_loop (σ := Nat × Arr UInt8 65 × UInt64) (fun (k, a, w) => FX (0 - u).toNat k a w.toNat) (fun (k, a, w) => w.toNat) (fun (k, a, w) => [(13, .int .i64 (65 - (k : Int))), (1, .int .u64 (w.toNat : Int))]) (fun (k, a, w) => [[(b12, .cells (cat [pt a]) 128)]]) (fun (k, a, w) => [tDb64 8]) [1, 13, 44, 45, 46, 47, 48, 49, 50, 51, 52, 53, 54, 55, 56, 57] (0, (zarr : Arr UInt8 65), (0 - u)) (FX.begin _ _) ⟨by rfl, rfl, trivial⟩ rfl rfl ?_
  rintro ⟨k, a, w⟩ g1 hI1
  try dsimp only at hI1 ⊢
  have HLE := hI1.le
  have HW := w.toNat_lt
  refine c_seq ?_
  refine c_seq ?_
  refine c_reg ?_
  refine mv (.int _ _) rfl ?_
  refine mv (.int _ _) rfl ?_
  refine cmp _ rfl rfl rfl ?_
  refine jt ?_
  refine c_cond rfl (fun h1 => ?_) (fun h1 => ?_)
  · replace h1 := of_decide_eq_true h1
    refine c_skip ?_
    refine e_then ?_
    refine c_block ?_
    refine c_seq ?_
    refine c_reg ?_
    refine mv (.int _ _) rfl ?_
    refine subi rfl rfl rfl (by omega) ?_
    refine asg (.int _ _) rfl ?_
    refine jt ?_
    refine c_seq ?_
    refine c_reg ?_
    refine mv (.int _ _) rfl ?_
    refine mv (.int _ _) rfl ?_
    refine mv (.int _ _) rfl ?_
    refine andU64 (a := w) (b := (15 : UInt64)) rfl rfl ?_
    refine idxT (s := digitsL) ((w &&& 15).toNat) (by kernel_rfl) rfl Tryd.underlying9 rfl (by rw [fx_and]; show _ < 36; omega) ?_
    refine ixaA (64 - k) rfl rfl Tryd.underlying128 ty5.sz (by omega) (by omega) ?_
    refine sta 0 0 _ a (64 - k) (List.getD digitsL ((w &&& 15).toNat) 0) rfl rfl rfl rfl rfl (by omega) ty5 ⟨trivial, ?_⟩
    refine jt ?_
    refine c_reg ?_
    refine mv (.int _ _) rfl ?_
    refine mv (.int _ _) rfl ?_
    refine shrRU64 (a := w) 4 rfl rfl rfl ?_
    refine asg (.int _ _) rfl ?_
    refine jn ?_
    refine e_in ?_
    exact e_loop (k + 1, (Arr.set a (64 - k) (List.getD digitsL ((w &&& 15).toNat) 0)), (shrU64 w 4)) (by rw [show (shrU64 w 4).toNat = w.toNat / 16 from shrU64_toNat w 4]; exact FX.step hI1 (UInt64.toNat_lt _) (by omega) (by rw [digitsL_at _ (by rw [fx_and]; omega), fx_and])) (by show (shrU64 w 4).toNat < w.toNat; rw [shrU64_toNat]; omega) (⟨congrArg (Value.int _) (by omega), rfl, trivial⟩) rfl rfl rfl
  · replace h1 := of_decide_eq_false h1
    refine c_exit rfl ?_
    refine e_then ?_
    refine c_seq ?_
    refine c_reg ?_
    refine mv (.int _ _) rfl ?_
    refine subi rfl rfl rfl (by omega) ?_
    refine asg (.int _ _) rfl ?_
    refine jt ?_
    refine c_reg ?_
    refine mv (.int _ _) rfl ?_
    refine mv (.int _ _) rfl ?_
    refine idxT (s := digitsL) w.toNat (by kernel_rfl) rfl Tryd.underlying9 rfl (by show _ < 36; omega) ?_
    refine ixaA (64 - k) rfl rfl Tryd.underlying128 ty5.sz (by omega) (by omega) ?_
    refine sta 0 0 _ a (64 - k) (List.getD digitsL w.toNat 0) rfl rfl rfl rfl rfl (by omega) ty5 ⟨trivial, ?_⟩
    refine jt ?_
    refine c_seq ?_
    refine c_seq ?_
    refine c_reg ?_
    refine mv (.bool _) rfl ?_
    refine jt ?_
    refine c_true rfl ?_
    refine c_seq ?_
    refine c_reg ?_
    refine mv (.int _ _) rfl ?_
    refine subi rfl rfl rfl (by omega) ?_
    refine asg (.int _ _) rfl ?_
    refine jt ?_
    refine c_reg ?_
    refine mv (.int _ _) rfl ?_
    refine ixaA (63 - k) rfl rfl Tryd.underlying128 ty5.sz (by omega) (by omega) ?_
    refine sta 0 0 _ (Arr.set a (64 - k) (List.getD digitsL w.toNat 0)) (63 - k) (45 : UInt8) rfl rfl rfl rfl rfl (by omega) ty5 ⟨trivial, ?_⟩
    refine jt ?_
    refine c_seq ?_
    refine c_seq ?_
    refine c_reg ?_
    refine mv (.bool _) rfl ?_
    refine jt ?_
    refine c_false rfl ?_
    refine c_skip ?_
    refine e_then ?_
    refine c_seq ?_
    refine c_reg ?_
    refine mv (.int _ _) rfl ?_
    refine slaA (63 - k) 65 rfl Tryd.underlying128 ty5.sz ⟨_, congrArg (Value.int _) (by omega)⟩ rfl (by first | omega | (simp; done) | (simp; omega) | (simp at *; omega)) (by first | omega | (simp; done) | (simp; omega) | (simp at *; omega)) (by first | omega | (simp; done) | (simp; omega) | (simp at *; omega)) ?_
    refine cvA (l := (63 - k)) (Arr.set (Arr.set a (64 - k) (List.getD digitsL w.toNat 0)) (63 - k) (45 : UInt8)) (65 - (63 - k)) 0 0 rfl (by first | omega | (simp; done) | (simp; omega) | (simp at *; omega)) rfl rfl rfl (by first | omega | (simp; done) | (simp; omega) | (simp at *; omega)) Tryd.underlying50 Tryd.underlying9 Tryd.underlying5 ?_
    refine asg (.string _) rfl ?_
    refine jt ?_
    refine c_ret ?_
    exact j_end (own0 := []) (ro0 := [tDb64 8]) (.inl rfl) rfl (hr2 Tryd.results76 (rvt (v := (.slice _ _ _)) rfl) (rvt (v := (.string _)) rfl)) [] [0] [] [_] [] _ rfl rfl (by kernel_rfl) rfl impl_nil (⟨_, rfl, rfl, rfl⟩)
set_option maxRecDepth 20000 in
set_option maxHeartbeats 4000000 in
theorem FormatIntN_ct (n : Int) (hn : n < 0) (hl : -9223372036854775808 ≤ n) : Ct Tryd.prog 79 [.int .i64 n, .int .i64 16] [] [tDb64 8] (fun v o r => ∃ x : Str, v = strV x ∧ o = [] ∧ r = []) := by
  refine ct_enter Tryd.func79 rfl Tryd.ntmps79 (by kernel_rfl) rfl fun w0 => ?_
  refine c_seq ?_
  refine c_reg ?_
  refine asg (.string _) rfl ?_
  refine jt ?_
  refine c_seq ?_
  refine c_seq ?_
  refine c_reg ?_
  refine mv (.int _ _) rfl ?_
  refine cmp false rfl rfl rfl ?_
  refine jt ?_
  refine c_false rfl ?_
  refine c_skip ?_
  refine e_then ?_
  refine c_seq ?_
  refine c_reg ?_
  refine mv (.int _ _) rfl ?_
  refine cvZU64 (n := n) rfl Tryd.underlying2 Tryd.underlying23 ?_
  refine mv (.int _ _) rfl ?_
  refine mv (.int _ _) rfl ?_
  refine cmp true rfl rfl (by simp [cmpV, hn]) ?_
  refine cal (formatBitsN_ct (UInt64.ofInt n)) [] [] [] rfl rfl rfl (by kernel_rfl) (impl_cons (impl_at 0 rfl) impl_nil) rfl ?_; rintro _ _ _ ⟨fx1, rfl, rfl, rfl⟩; refine ⟨trivial, ?_⟩
  refine mv (.tuple _) rfl ?_
  refine xtr (.slice _ _ _) rfl rfl ?_
  refine xtr (.string _) rfl rfl ?_
  refine asg (.slice _ _ _) rfl ?_
  refine asg (.string _) rfl ?_
  refine jt ?_
  refine c_seq ?_
  refine c_reg ?_
  refine mv (.string _) rfl ?_
  refine asg (.string _) rfl ?_
  refine jt ?_
  refine c_ret ?_
  exact j_end (own0 := []) (ro0 := [tDb64 8]) (.inl rfl) rfl (hr1 Tryd.results79 (rvt (v := (.string _)) rfl)) [] [] [] [] [] _ rfl rfl (by kernel_rfl) rfl impl_nil (⟨_, rfl, rfl, rfl⟩)
theorem sFormatIntN_ct (n : Int) (hn : n < 0) (hl : -9223372036854775808 ≤ n) : Ct Tryd.prog 54 [.int .i64 n, .int .i64 16] [] [tDb64 8] (fun v o r => ∃ x : Str, v = strV x ∧ o = [] ∧ r = []) := by
  refine ct_enter Tryd.func54 rfl Tryd.ntmps54 (by kernel_rfl) rfl fun w0 => ?_
  refine c_seq ?_
  refine c_reg ?_
  refine asg (.string _) rfl ?_
  refine jt ?_
  refine c_seq ?_
  refine c_reg ?_
  refine mv (.int _ _) rfl ?_
  refine mv (.int _ _) rfl ?_
  refine cal (FormatIntN_ct n hn hl) [] [] [] rfl rfl rfl (by kernel_rfl) (impl_cons (impl_at 0 rfl) impl_nil) rfl ?_; rintro _ _ _ ⟨fy, rfl, rfl, rfl⟩; refine ⟨trivial, ?_⟩
  refine asg (.string _) rfl ?_
  refine jt ?_
  refine c_ret ?_
  exact j_end (own0 := []) (ro0 := [tDb64 8]) (.inl rfl) rfl (hr1 Tryd.results54 (rvt (v := (.string _)) rfl)) [] [] [] [] [] _ rfl rfl (by kernel_rfl) rfl impl_nil (⟨_, rfl, rfl, rfl⟩)
theorem sFormatIntZ_ct (n : Int) (h1 : -9223372036854775808 ≤ n) (h2 : n < 9223372036854775808) : Ct Tryd.prog 54 [.int .i64 n, .int .i64 16] [] [tDb64 8] (fun v o r => ∃ x : Str, (0 ≤ n → x = fmtN 16 n.toNat) ∧ v = strV x ∧ o = [] ∧ r = []) := by
  by_cases h : n < 0
  · exact (sFormatIntN_ct n h h1).mono fun v o r ⟨x, e1, e2, e3⟩ => ⟨x, fun h0 => by omega, e1, e2, e3⟩
  · obtain ⟨c, rfl⟩ := Int.eq_ofNat_of_zero_le (show 0 ≤ n by omega)
    exact (sFormatInt16_ct c (by omega)).mono fun v o r ⟨e1, e2, e3⟩ => ⟨_, fun _ => by rw [Int.toNat_natCast], e1, e2, e3⟩
set_option maxRecDepth 20000 in
set_option maxHeartbeats 4000000 in
theorem iParseInt_ct (w : Str) (hw : w.length ≤ 9223372036854775806) : Ct Tryd.prog 118 [strV w, .int .i64 16, .int .i64 32] [] [] (fun v o r => (∃ n : Int, (-2147483648 ≤ n ∧ n < 2147483648) ∧ (∀ m : Nat, m < 2147483648 → w = fmtN 16 m → n = (m : Int)) ∧ v = .tuple #[.int .i64 n, .nilIface] ∧ o = [] ∧ r = []) ∨ ((∀ m : Nat, m < 2147483648 → w ≠ fmtN 16 m) ∧ ∃ n : Int, (v = .tuple #[.int .i64 n, .iface 141 (.int .i64 1)] ∨ v = .tuple #[.int .i64 n, .iface 141 (.int .i64 2)]) ∧ o = [] ∧ r = [])) := by
  refine ct_enter Tryd.func118 rfl Tryd.ntmps118 (by kernel_rfl) rfl fun w0 => ?_
  refine c_seq ?_
  refine c_reg ?_
  refine asg (.int _ _) rfl ?_
  refine asg .nilIface rfl ?_
  refine jt ?_
  refine c_seq ?_
  refine c_seq ?_
  refine c_reg ?_
  refine mv (.string _) rfl ?_
  refine scmp (a := w) (b := ([] : Str)) _ rfl rfl Tryd.underlying9 rfl ?_
  refine jt ?_
  refine c_cond rfl (fun h1 => ?_) (fun h1 => ?_)
  · replace h1 := of_decide_eq_true h1
    refine c_seq ?_
    refine c_reg ?_
    refine mki (v := (.int _ _)) rfl Tryd.underlying141 rfl ?_
    refine asg (.int _ _) rfl ?_
    refine asg (.iface _ _) rfl ?_
    refine jt ?_
    refine c_ret ?_
    exact j_end (own0 := []) (ro0 := []) (.inl rfl) rfl (hr2 Tryd.results118 (rvt (v := (.int _ _)) rfl) (rvt (v := (.iface _ _)) rfl)) [] [] [] [] [] _ rfl rfl (by kernel_rfl) rfl impl_nil (.inr ⟨fun m hm e => fmt_ne (e.symm.trans h1), 0, .inr rfl, rfl, rfl⟩)
  · replace h1 := of_decide_eq_false h1
    refine c_skip ?_
    refine e_then ?_
    refine c_seq ?_
    refine c_reg ?_
    refine asg (.bool _) rfl ?_
    refine jt ?_
    refine c_seq ?_
    refine c_seq ?_
    refine c_reg ?_
    refine mv (.string _) rfl ?_
    refine idxT (s := w) 0 rfl rfl Tryd.underlying9 rfl (List.length_pos_iff.2 h1) ?_
    refine jt ?_
    refine c_block ?_
    refine c_seq ?_
    refine c_reg ?_
    refine equ8 (a := (List.getD w 0 0)) (b := (43 : UInt8)) _ rfl rfl rfl ?_
    refine asg (.bool _) rfl ?_
    refine jt ?_
    refine c_cond rfl (fun h2 => ?_) (fun h2 => ?_)
    · replace h2 := of_decide_eq_true h2
      refine c_reg ?_
      refine mv (.string _) rfl ?_
      refine cutT (s := w) 1 w.length rfl Tryd.underlying9 ⟨_, rfl⟩ rfl (by have := List.length_pos_iff.2 h1; omega) (by omega) (List.drop 1 w) (cut_hi _ _) ?_
      refine asg (.string _) rfl ?_
      refine jn ?_
      refine e_in ?_
      refine e_then ?_
      refine c_seq ?_
      refine c_reg ?_
      refine asg (.int _ _) rfl ?_
      refine jt ?_
      refine c_seq ?_
      refine c_reg ?_
      refine mv (.string _) rfl ?_
      refine mv (.int _ _) rfl ?_
      refine mv (.int _ _) rfl ?_
      refine cal (iParseUint16_ct (List.drop 1 w) (by first | omega | (rw [List.length_drop]; omega))) [] [] [] rfl rfl rfl (by kernel_rfl) impl_nil rfl ?_; rintro _ _ _ (⟨pn1, hp1, rfl, rfl, rfl⟩ | ⟨hp1, pn1, _, ⟨rfl, hmx1⟩ | rfl, rfl, rfl, rfl⟩)
      · refine ⟨trivial, ?_⟩
        refine mv (.tuple _) rfl ?_
        refine xtr (.int _ _) rfl rfl ?_
        refine xtr .nilIface rfl rfl ?_
        refine asg (.int _ _) rfl ?_
        refine asg .nilIface rfl ?_
        refine jt ?_
        refine c_seq ?_
        refine c_seq ?_
        refine c_reg ?_
        refine mv .nilIface rfl ?_
        refine eqnn false rfl Tryd.underlying80 rfl ?_
        refine mv (.bool _) rfl ?_
        refine g_off rfl rfl rfl rfl ?_
        refine g_off rfl rfl rfl rfl ?_
        refine g_off rfl rfl rfl rfl ?_
        refine pkf (.bool _) rfl rfl ?_
        refine jt ?_
        refine c_false rfl ?_
        refine c_skip ?_
        refine e_then ?_
        refine c_seq ?_
        refine c_seq ?_
        refine c_reg ?_
        refine mv (.int _ _) rfl ?_
        refine cmp false rfl rfl rfl ?_
        refine jt ?_
        refine c_false rfl ?_
        refine c_skip ?_
        refine e_then ?_
        refine c_seq ?_
        refine c_reg ?_
        refine mv (.int _ _) rfl ?_
        refine bopI (.int .i64 31) rfl rfl (by kernel_rfl) ?_
        refine cvI 31 rfl Tryd.underlying3 Tryd.underlying87 (by kernel_rfl) ?_
        refine bopI (.int .u64 2147483648) rfl rfl (by kernel_rfl) ?_
        refine asg (.int _ _) rfl ?_
        refine jt ?_
        refine c_seq ?_
        refine c_seq ?_
        refine c_reg ?_
        refine mv (.bool _) rfl ?_
        refine not_ rfl ?_
        refine mv (.bool _) rfl ?_
        refine g_on rfl rfl rfl ?_
        refine mv (.int _ _) rfl ?_
        refine g_on rfl rfl rfl ?_
        refine mv (.int _ _) rfl ?_
        refine g_on rfl rfl rfl ?_
        refine cmp _ rfl rfl rfl ?_
        refine pkt (.bool _) rfl rfl ?_
        refine jt ?_
        refine c_cond rfl (fun h3 => ?_) (fun h3 => ?_)
        · replace h3 := of_decide_eq_true h3
          refine c_seq ?_
          refine c_reg ?_
          refine mv (.int _ _) rfl ?_
          refine bopI (.int .u64 2147483647) rfl rfl (by kernel_rfl) ?_
          refine cvI 2147483647 rfl Tryd.underlying23 Tryd.underlying2 (by kernel_rfl) ?_
          refine mki (v := (.int _ _)) rfl Tryd.underlying141 rfl ?_
          refine asg (.int _ _) rfl ?_
          refine asg (.iface _ _) rfl ?_
          refine jt ?_
          refine c_ret ?_
          exact j_end (own0 := []) (ro0 := []) (.inl rfl) rfl (hr2 Tryd.results118 (rvt (v := (.int _ _)) rfl) (rvt (v := (.iface _ _)) rfl)) [] [] [] [] [] _ rfl rfl (by kernel_rfl) rfl impl_nil (.inr ⟨fun m hm e => by first | exact absurd e (fmt_sign (.inl (by assumption))) | exact absurd e (fmt_sign (.inr (by assumption))) | exact absurd e (hp1 m (by omega)) | (have h9 := hp1 m (by omega) e; omega), 2147483647, .inl rfl, rfl, rfl⟩)
        · replace h3 := of_decide_eq_false h3
          refine c_skip ?_
          refine e_then ?_
          refine c_seq ?_
          refine c_seq ?_
          refine c_reg ?_
          refine mv (.bool _) rfl ?_
          refine mv (.bool _) rfl ?_
          refine g_off rfl rfl rfl rfl ?_
          refine g_off rfl rfl rfl rfl ?_
          refine g_off rfl rfl rfl rfl ?_
          refine pkf (.bool _) rfl rfl ?_
          refine jt ?_
          refine c_false rfl ?_
          refine c_skip ?_
          refine e_then ?_
          refine c_seq ?_
          refine c_reg ?_
          refine mv (.int _ _) rfl ?_
          refine cvI (pn1.toNat : Int) rfl Tryd.underlying23 Tryd.underlying2 (wI64 (by omega)) ?_
          refine asg (.int _ _) rfl ?_
          refine jt ?_
          refine c_seq ?_
          refine c_seq ?_
          refine c_reg ?_
          refine mv (.bool _) rfl ?_
          refine jt ?_
          refine c_false rfl ?_
          refine c_skip ?_
          refine e_then ?_
          refine c_seq ?_
          refine c_reg ?_
          refine mv (.int _ _) rfl ?_
          refine asg (.int _ _) rfl ?_
          refine asg .nilIface rfl ?_
          refine jt ?_
          refine c_ret ?_
          exact j_end (own0 := []) (ro0 := []) (.inl rfl) rfl (hr2 Tryd.results118 (rvt (v := (.int _ _)) rfl) (rvt (v := .nilIface) rfl)) [] [] [] [] [] _ rfl rfl (by kernel_rfl) rfl impl_nil (.inl ⟨_, ⟨by omega, by omega⟩, fun m hm e => by first | exact absurd e (fmt_sign (.inl (by assumption))) | exact absurd e (fmt_sign (.inr (by assumption))) | exact absurd e (hp1 m (by omega)) | (have h9 := hp1 m (by omega) e; omega), rfl, rfl, rfl⟩)
      · refine ⟨trivial, ?_⟩
        refine mv (.tuple _) rfl ?_
        refine xtr (.int _ _) rfl rfl ?_
        refine xtr (.iface _ _) rfl rfl ?_
        refine asg (.int _ _) rfl ?_
        refine asg (.iface _ _) rfl ?_
        refine jt ?_
        refine c_seq ?_
        refine c_seq ?_
        refine c_reg ?_
        refine mv (.iface _ _) rfl ?_
        refine eqin true rfl rfl Tryd.underlying80 rfl ?_
        refine mv (.bool _) rfl ?_
        refine g_on rfl rfl rfl ?_
        refine mv (.iface _ _) rfl ?_
        refine g_on rfl rfl rfl ?_
        refine mki (v := (.int _ _)) rfl Tryd.underlying141 rfl ?_
        refine g_on rfl rfl rfl ?_
        refine eqii false rfl rfl Tryd.underlying80 Tryd.underlying141 (by kernel_rfl) rfl ?_
        refine pkt (.bool _) rfl rfl ?_
        refine jt ?_
        refine c_false rfl ?_
        refine c_skip ?_
        refine e_then ?_
        refine c_seq ?_
        refine c_seq ?_
        refine c_reg ?_
        refine mv (.int _ _) rfl ?_
        refine cmp false rfl rfl rfl ?_
        refine jt ?_
        refine c_false rfl ?_
        refine c_skip ?_
        refine e_then ?_
        refine c_seq ?_
        refine c_reg ?_
        refine mv (.int _ _) rfl ?_
        refine bopI (.int .i64 31) rfl rfl (by kernel_rfl) ?_
        refine cvI 31 rfl Tryd.underlying3 Tryd.underlying87 (by kernel_rfl) ?_
        refine bopI (.int .u64 2147483648) rfl rfl (by kernel_rfl) ?_
        refine asg (.int _ _) rfl ?_
        refine jt ?_
        refine c_seq ?_
        refine c_seq ?_
        refine c_reg ?_
        refine mv (.bool _) rfl ?_
        refine not_ rfl ?_
        refine mv (.bool _) rfl ?_
        refine g_on rfl rfl rfl ?_
        refine mv (.int _ _) rfl ?_
        refine g_on rfl rfl rfl ?_
        refine mv (.int _ _) rfl ?_
        refine g_on rfl rfl rfl ?_
        refine cmp _ rfl rfl rfl ?_
        refine pkt (.bool _) rfl rfl ?_
        refine jt ?_
        refine c_cond rfl (fun h4 => ?_) (fun h4 => ?_)
        · replace h4 := of_decide_eq_true h4
          refine c_seq ?_
          refine c_reg ?_
          refine mv (.int _ _) rfl ?_
          refine bopI (.int .u64 2147483647) rfl rfl (by kernel_rfl) ?_
          refine cvI 2147483647 rfl Tryd.underlying23 Tryd.underlying2 (by kernel_rfl) ?_
          refine mki (v := (.int _ _)) rfl Tryd.underlying141 rfl ?_
          refine asg (.int _ _) rfl ?_
          refine asg (.iface _ _) rfl ?_
          refine jt ?_
          refine c_ret ?_
          exact j_end (own0 := []) (ro0 := []) (.inl rfl) rfl (hr2 Tryd.results118 (rvt (v := (.int _ _)) rfl) (rvt (v := (.iface _ _)) rfl)) [] [] [] [] [] _ rfl rfl (by kernel_rfl) rfl impl_nil (.inr ⟨fun m hm e => by first | exact absurd e (fmt_sign (.inl (by assumption))) | exact absurd e (fmt_sign (.inr (by assumption))) | exact absurd e (hp1 m (by omega)) | (have h9 := hp1 m (by omega) e; omega), 2147483647, .inl rfl, rfl, rfl⟩)
        · replace h4 := of_decide_eq_false h4
          refine c_skip ?_
          refine e_then ?_
          refine c_seq ?_
          refine c_seq ?_
          refine c_reg ?_
          refine mv (.bool _) rfl ?_
          refine mv (.bool _) rfl ?_
          refine g_off rfl rfl rfl rfl ?_
          refine g_off rfl rfl rfl rfl ?_
          refine g_off rfl rfl rfl rfl ?_
          refine pkf (.bool _) rfl rfl ?_
          refine jt ?_
          refine c_false rfl ?_
          refine c_skip ?_
          refine e_then ?_
          refine c_seq ?_
          refine c_reg ?_
          refine mv (.int _ _) rfl ?_
          refine cvI (pn1.toNat : Int) rfl Tryd.underlying23 Tryd.underlying2 (wI64 (by omega)) ?_
          refine asg (.int _ _) rfl ?_
          refine jt ?_
          refine c_seq ?_
          refine c_seq ?_
          refine c_reg ?_
          refine mv (.bool _) rfl ?_
          refine jt ?_
          refine c_false rfl ?_
          refine c_skip ?_
          refine e_then ?_
          refine c_seq ?_
          refine c_reg ?_
          refine mv (.int _ _) rfl ?_
          refine asg (.int _ _) rfl ?_
          refine asg .nilIface rfl ?_
          refine jt ?_
          refine c_ret ?_
          exact j_end (own0 := []) (ro0 := []) (.inl rfl) rfl (hr2 Tryd.results118 (rvt (v := (.int _ _)) rfl) (rvt (v := .nilIface) rfl)) [] [] [] [] [] _ rfl rfl (by kernel_rfl) rfl impl_nil (.inl ⟨_, ⟨by omega, by omega⟩, fun m hm e => by first | exact absurd e (fmt_sign (.inl (by assumption))) | exact absurd e (fmt_sign (.inr (by assumption))) | exact absurd e (hp1 m (by omega)) | (have h9 := hp1 m (by omega) e; omega), rfl, rfl, rfl⟩)
      · refine ⟨trivial, ?_⟩
        refine mv (.tuple _) rfl ?_
        refine xtr (.int _ _) rfl rfl ?_
        refine xtr (.iface _ _) rfl rfl ?_
        refine asg (.int _ _) rfl ?_
        refine asg (.iface _ _) rfl ?_
        refine jt ?_
        refine c_seq ?_
        refine c_seq ?_
        refine c_reg ?_
        refine mv (.iface _ _) rfl ?_
        refine eqin true rfl rfl Tryd.underlying80 rfl ?_
        refine mv (.bool _) rfl ?_
        refine g_on rfl rfl rfl ?_
        refine mv (.iface _ _) rfl ?_
        refine g_on rfl rfl rfl ?_
        refine mki (v := (.int _ _)) rfl Tryd.underlying141 rfl ?_
        refine g_on rfl rfl rfl ?_
        refine eqii true rfl rfl Tryd.underlying80 Tryd.underlying141 (by kernel_rfl) rfl ?_
        refine pkt (.bool _) rfl rfl ?_
        refine jt ?_
        refine c_true rfl ?_
        refine c_seq ?_
        refine c_reg ?_
        refine mv (.iface _ _) rfl ?_
        refine asg (.int _ _) rfl ?_
        refine asg (.iface _ _) rfl ?_
        refine jt ?_
        refine c_ret ?_
        exact j_end (own0 := []) (ro0 := []) (.inl rfl) rfl (hr2 Tryd.results118 (rvt (v := (.int _ _)) rfl) (rvt (v := (.iface _ _)) rfl)) [] [] [] [] [] _ rfl rfl (by kernel_rfl) rfl impl_nil (.inr ⟨fun m hm e => by first | exact absurd e (fmt_sign (.inl (by assumption))) | exact absurd e (fmt_sign (.inr (by assumption))) | exact absurd e (hp1 m (by omega)) | (have h9 := hp1 m (by omega) e; omega), 0, .inr rfl, rfl, rfl⟩)
    · replace h2 := of_decide_eq_false h2
      refine c_seq ?_
      refine c_reg ?_
      refine equ8 (a := (List.getD w 0 0)) (b := (45 : UInt8)) _ rfl rfl rfl ?_
      refine asg (.bool _) rfl ?_
      refine jt ?_
      refine c_cond rfl (fun h5 => ?_) (fun h5 => ?_)
      · replace h5 := of_decide_eq_true h5
        refine c_seq ?_
        refine c_reg ?_
        refine mv (.string _) rfl ?_
        refine cutT (s := w) 1 w.length rfl Tryd.underlying9 ⟨_, rfl⟩ rfl (by have := List.length_pos_iff.2 h1; omega) (by omega) (List.drop 1 w) (cut_hi _ _) ?_
        refine asg (.string _) rfl ?_
        refine jt ?_
        refine c_reg ?_
        refine asg (.bool _) rfl ?_
        refine jn ?_
        refine e_in ?_
        refine e_then ?_
        refine c_seq ?_
        refine c_reg ?_
        refine asg (.int _ _) rfl ?_
        refine jt ?_
        refine c_seq ?_
        refine c_reg ?_
        refine mv (.string _) rfl ?_
        refine mv (.int _ _) rfl ?_
        refine mv (.int _ _) rfl ?_
        refine cal (iParseUint16_ct (List.drop 1 w) (by first | omega | (rw [List.length_drop]; omega))) [] [] [] rfl rfl rfl (by kernel_rfl) impl_nil rfl ?_; rintro _ _ _ (⟨pn2, hp2, rfl, rfl, rfl⟩ | ⟨hp2, pn2, _, ⟨rfl, hmx2⟩ | rfl, rfl, rfl, rfl⟩)
        · refine ⟨trivial, ?_⟩
          refine mv (.tuple _) rfl ?_
          refine xtr (.int _ _) rfl rfl ?_
          refine xtr .nilIface rfl rfl ?_
          refine asg (.int _ _) rfl ?_
          refine asg .nilIface rfl ?_
          refine jt ?_
          refine c_seq ?_
          refine c_seq ?_
          refine c_reg ?_
          refine mv .nilIface rfl ?_
          refine eqnn false rfl Tryd.underlying80 rfl ?_
          refine mv (.bool _) rfl ?_
          refine g_off rfl rfl rfl rfl ?_
          refine g_off rfl rfl rfl rfl ?_
          refine g_off rfl rfl rfl rfl ?_
          refine pkf (.bool _) rfl rfl ?_
          refine jt ?_
          refine c_false rfl ?_
          refine c_skip ?_
          refine e_then ?_
          refine c_seq ?_
          refine c_seq ?_
          refine c_reg ?_
          refine mv (.int _ _) rfl ?_
          refine cmp false rfl rfl rfl ?_
          refine jt ?_
          refine c_false rfl ?_
          refine c_skip ?_
          refine e_then ?_
          refine c_seq ?_
          refine c_reg ?_
          refine mv (.int _ _) rfl ?_
          refine bopI (.int .i64 31) rfl rfl (by kernel_rfl) ?_
          refine cvI 31 rfl Tryd.underlying3 Tryd.underlying87 (by kernel_rfl) ?_
          refine bopI (.int .u64 2147483648) rfl rfl (by kernel_rfl) ?_
          refine asg (.int _ _) rfl ?_
          refine jt ?_
          refine c_seq ?_
          refine c_seq ?_
          refine c_reg ?_
          refine mv (.bool _) rfl ?_
          refine not_ rfl ?_
          refine mv (.bool _) rfl ?_
          refine g_off rfl rfl rfl rfl ?_
          refine g_off rfl rfl rfl rfl ?_
          refine g_off rfl rfl rfl rfl ?_
          refine pkf (.bool _) rfl rfl ?_
          refine jt ?_
          refine c_false rfl ?_
          refine c_skip ?_
          refine e_then ?_
          refine c_seq ?_
          refine c_seq ?_
          refine c_reg ?_
          refine mv (.bool _) rfl ?_
          refine mv (.bool _) rfl ?_
          refine g_on rfl rfl rfl ?_
          refine mv (.int _ _) rfl ?_
          refine g_on rfl rfl rfl ?_
          refine mv (.int _ _) rfl ?_
          refine g_on rfl rfl rfl ?_
          refine cmp _ rfl rfl rfl ?_
          refine pkt (.bool _) rfl rfl ?_
          refine jt ?_
          refine c_cond rfl (fun h6 => ?_) (fun h6 => ?_)
          · replace h6 := of_decide_eq_true h6
            refine c_seq ?_
            refine c_reg ?_
            refine mv (.int _ _) rfl ?_
            refine cvI 2147483648 rfl Tryd.underlying23 Tryd.underlying2 (by kernel_rfl) ?_
            refine negC (-2147483648) rfl (by kernel_rfl) ?_
            refine mki (v := (.int _ _)) rfl Tryd.underlying141 rfl ?_
            refine asg (.int _ _) rfl ?_
            refine asg (.iface _ _) rfl ?_
            refine jt ?_
            refine c_ret ?_
            exact j_end (own0 := []) (ro0 := []) (.inl rfl) rfl (hr2 Tryd.results118 (rvt (v := (.int _ _)) rfl) (rvt (v := (.iface _ _)) rfl)) [] [] [] [] [] _ rfl rfl (by kernel_rfl) rfl impl_nil (.inr ⟨fun m hm e => by first | exact absurd e (fmt_sign (.inl (by assumption))) | exact absurd e (fmt_sign (.inr (by assumption))) | exact absurd e (hp2 m (by omega)) | (have h9 := hp2 m (by omega) e; omega), (-2147483648), .inl rfl, rfl, rfl⟩)
          · replace h6 := of_decide_eq_false h6
            refine c_skip ?_
            refine e_then ?_
            refine c_seq ?_
            refine c_reg ?_
            refine mv (.int _ _) rfl ?_
            refine cvI (pn2.toNat : Int) rfl Tryd.underlying23 Tryd.underlying2 (wI64 (by omega)) ?_
            refine asg (.int _ _) rfl ?_
            refine jt ?_
            refine c_seq ?_
            refine c_seq ?_
            refine c_reg ?_
            refine mv (.bool _) rfl ?_
            refine jt ?_
            refine c_true rfl ?_
            refine c_reg ?_
            refine mv (.int _ _) rfl ?_
            refine negI rfl (by omega) ?_
            refine asg (.int _ _) rfl ?_
            refine jt ?_
            refine c_seq ?_
            refine c_reg ?_
            refine mv (.int _ _) rfl ?_
            refine asg (.int _ _) rfl ?_
            refine asg .nilIface rfl ?_
            refine jt ?_
            refine c_ret ?_
            exact j_end (own0 := []) (ro0 := []) (.inl rfl) rfl (hr2 Tryd.results118 (rvt (v := (.int _ _)) rfl) (rvt (v := .nilIface) rfl)) [] [] [] [] [] _ rfl rfl (by kernel_rfl) rfl impl_nil (.inl ⟨_, ⟨by omega, by omega⟩, fun m hm e => by first | exact absurd e (fmt_sign (.inl (by assumption))) | exact absurd e (fmt_sign (.inr (by assumption))) | exact absurd e (hp2 m (by omega)) | (have h9 := hp2 m (by omega) e; omega), rfl, rfl, rfl⟩)
        · refine ⟨trivial, ?_⟩
          refine mv (.tuple _) rfl ?_
          refine xtr (.int _ _) rfl rfl ?_
          refine xtr (.iface _ _) rfl rfl ?_
          refine asg (.int _ _) rfl ?_
          refine asg (.iface _ _) rfl ?_
          refine jt ?_
          refine c_seq ?_
          refine c_seq ?_
          refine c_reg ?_
          refine mv (.iface _ _) rfl ?_
          refine eqin true rfl rfl Tryd.underlying80 rfl ?_
          refine mv (.bool _) rfl ?_
          refine g_on rfl rfl rfl ?_
          refine mv (.iface _ _) rfl ?_
          refine g_on rfl rfl rfl ?_
          refine mki (v := (.int _ _)) rfl Tryd.underlying141 rfl ?_
          refine g_on rfl rfl rfl ?_
          refine eqii false rfl rfl Tryd.underlying80 Tryd.underlying141 (by kernel_rfl) rfl ?_
          refine pkt (.bool _) rfl rfl ?_
          refine jt ?_
          refine c_false rfl ?_
          refine c_skip ?_
          refine e_then ?_
          refine c_seq ?_
          refine c_seq ?_
          refine c_reg ?_
          refine mv (.int _ _) rfl ?_
          refine cmp false rfl rfl rfl ?_
          refine jt ?_
          refine c_false rfl ?_
          refine c_skip ?_
          refine e_then ?_
          refine c_seq ?_
          refine c_reg ?_
          refine mv (.int _ _) rfl ?_
          refine bopI (.int .i64 31) rfl rfl (by kernel_rfl) ?_
          refine cvI 31 rfl Tryd.underlying3 Tryd.underlying87 (by kernel_rfl) ?_
          refine bopI (.int .u64 2147483648) rfl rfl (by kernel_rfl) ?_
          refine asg (.int _ _) rfl ?_
          refine jt ?_
          refine c_seq ?_
          refine c_seq ?_
          refine c_reg ?_
          refine mv (.bool _) rfl ?_
          refine not_ rfl ?_
          refine mv (.bool _) rfl ?_
          refine g_off rfl rfl rfl rfl ?_
          refine g_off rfl rfl rfl rfl ?_
          refine g_off rfl rfl rfl rfl ?_
          refine pkf (.bool _) rfl rfl ?_
          refine jt ?_
          refine c_false rfl ?_
          refine c_skip ?_
          refine e_then ?_
          refine c_seq ?_
          refine c_seq ?_
          refine c_reg ?_
          refine mv (.bool _) rfl ?_
          refine mv (.bool _) rfl ?_
          refine g_on rfl rfl rfl ?_
          refine mv (.int _ _) rfl ?_
          refine g_on rfl rfl rfl ?_
          refine mv (.int _ _) rfl ?_
          refine g_on rfl rfl rfl ?_
          refine cmp _ rfl rfl rfl ?_
          refine pkt (.bool _) rfl rfl ?_
          refine jt ?_
          refine c_cond rfl (fun h7 => ?_) (fun h7 => ?_)
          · replace h7 := of_decide_eq_true h7
            refine c_seq ?_
            refine c_reg ?_
            refine mv (.int _ _) rfl ?_
            refine cvI 2147483648 rfl Tryd.underlying23 Tryd.underlying2 (by kernel_rfl) ?_
            refine negC (-2147483648) rfl (by kernel_rfl) ?_
            refine mki (v := (.int _ _)) rfl Tryd.underlying141 rfl ?_
            refine asg (.int _ _) rfl ?_
            refine asg (.iface _ _) rfl ?_
            refine jt ?_
            refine c_ret ?_
            exact j_end (own0 := []) (ro0 := []) (.inl rfl) rfl (hr2 Tryd.results118 (rvt (v := (.int _ _)) rfl) (rvt (v := (.iface _ _)) rfl)) [] [] [] [] [] _ rfl rfl (by kernel_rfl) rfl impl_nil (.inr ⟨fun m hm e => by first | exact absurd e (fmt_sign (.inl (by assumption))) | exact absurd e (fmt_sign (.inr (by assumption))) | exact absurd e (hp2 m (by omega)) | (have h9 := hp2 m (by omega) e; omega), (-2147483648), .inl rfl, rfl, rfl⟩)
          · replace h7 := of_decide_eq_false h7
            refine c_skip ?_
            refine e_then ?_
            refine c_seq ?_
            refine c_reg ?_
            refine mv (.int _ _) rfl ?_
            refine cvI (pn2.toNat : Int) rfl Tryd.underlying23 Tryd.underlying2 (wI64 (by omega)) ?_
            refine asg (.int _ _) rfl ?_
            refine jt ?_
            refine c_seq ?_
            refine c_seq ?_
            refine c_reg ?_
            refine mv (.bool _) rfl ?_
            refine jt ?_
            refine c_true rfl ?_
            refine c_reg ?_
            refine mv (.int _ _) rfl ?_
            refine negI rfl (by omega) ?_
            refine asg (.int _ _) rfl ?_
            refine jt ?_
            refine c_seq ?_
            refine c_reg ?_
            refine mv (.int _ _) rfl ?_
            refine asg (.int _ _) rfl ?_
            refine asg .nilIface rfl ?_
            refine jt ?_
            refine c_ret ?_
            exact j_end (own0 := []) (ro0 := []) (.inl rfl) rfl (hr2 Tryd.results118 (rvt (v := (.int _ _)) rfl) (rvt (v := .nilIface) rfl)) [] [] [] [] [] _ rfl rfl (by kernel_rfl) rfl impl_nil (.inl ⟨_, ⟨by omega, by omega⟩, fun m hm e => by first | exact absurd e (fmt_sign (.inl (by assumption))) | exact absurd e (fmt_sign (.inr (by assumption))) | exact absurd e (hp2 m (by omega)) | (have h9 := hp2 m (by omega) e; omega), rfl, rfl, rfl⟩)
        · refine ⟨trivial, ?_⟩
          refine mv (.tuple _) rfl ?_
          refine xtr (.int _ _) rfl rfl ?_
          refine xtr (.iface _ _) rfl rfl ?_
          refine asg (.int _ _) rfl ?_
          refine asg (.iface _ _) rfl ?_
          refine jt ?_
          refine c_seq ?_
          refine c_seq ?_
          refine c_reg ?_
          refine mv (.iface _ _) rfl ?_
          refine eqin true rfl rfl Tryd.underlying80 rfl ?_
          refine mv (.bool _) rfl ?_
          refine g_on rfl rfl rfl ?_
          refine mv (.iface _ _) rfl ?_
          refine g_on rfl rfl rfl ?_
          refine mki (v := (.int _ _)) rfl Tryd.underlying141 rfl ?_
          refine g_on rfl rfl rfl ?_
          refine eqii true rfl rfl Tryd.underlying80 Tryd.underlying141 (by kernel_rfl) rfl ?_
          refine pkt (.bool _) rfl rfl ?_
          refine jt ?_
          refine c_true rfl ?_
          refine c_seq ?_
          refine c_reg ?_
          refine mv (.iface _ _) rfl ?_
          refine asg (.int _ _) rfl ?_
          refine asg (.iface _ _) rfl ?_
          refine jt ?_
          refine c_ret ?_
          exact j_end (own0 := []) (ro0 := []) (.inl rfl) rfl (hr2 Tryd.results118 (rvt (v := (.int _ _)) rfl) (rvt (v := (.iface _ _)) rfl)) [] [] [] [] [] _ rfl rfl (by kernel_rfl) rfl impl_nil (.inr ⟨fun m hm e => by first | exact absurd e (fmt_sign (.inl (by assumption))) | exact absurd e (fmt_sign (.inr (by assumption))) | exact absurd e (hp2 m (by omega)) | (have h9 := hp2 m (by omega) e; omega), 0, .inr rfl, rfl, rfl⟩)
      · replace h5 := of_decide_eq_false h5
        refine c_skip ?_
        refine e_in ?_
        refine e_then ?_
        refine c_seq ?_
        refine c_reg ?_
        refine asg (.int _ _) rfl ?_
        refine jt ?_
        refine c_seq ?_
        refine c_reg ?_
        refine mv (.string _) rfl ?_
        refine mv (.int _ _) rfl ?_
        refine mv (.int _ _) rfl ?_
        refine cal (iParseUint16_ct w (by first | omega | (rw [List.length_drop]; omega))) [] [] [] rfl rfl rfl (by kernel_rfl) impl_nil rfl ?_; rintro _ _ _ (⟨pn3, hp3, rfl, rfl, rfl⟩ | ⟨hp3, pn3, _, ⟨rfl, hmx3⟩ | rfl, rfl, rfl, rfl⟩)
        · refine ⟨trivial, ?_⟩
          refine mv (.tuple _) rfl ?_
          refine xtr (.int _ _) rfl rfl ?_
          refine xtr .nilIface rfl rfl ?_
          refine asg (.int _ _) rfl ?_
          refine asg .nilIface rfl ?_
          refine jt ?_
          refine c_seq ?_
          refine c_seq ?_
          refine c_reg ?_
          refine mv .nilIface rfl ?_
          refine eqnn false rfl Tryd.underlying80 rfl ?_
          refine mv (.bool _) rfl ?_
          refine g_off rfl rfl rfl rfl ?_
          refine g_off rfl rfl rfl rfl ?_
          refine g_off rfl rfl rfl rfl ?_
          refine pkf (.bool _) rfl rfl ?_
          refine jt ?_
          refine c_false rfl ?_
          refine c_skip ?_
          refine e_then ?_
          refine c_seq ?_
          refine c_seq ?_
          refine c_reg ?_
          refine mv (.int _ _) rfl ?_
          refine cmp false rfl rfl rfl ?_
          refine jt ?_
          refine c_false rfl ?_
          refine c_skip ?_
          refine e_then ?_
          refine c_seq ?_
          refine c_reg ?_
          refine mv (.int _ _) rfl ?_
          refine bopI (.int .i64 31) rfl rfl (by kernel_rfl) ?_
          refine cvI 31 rfl Tryd.underlying3 Tryd.underlying87 (by kernel_rfl) ?_
          refine bopI (.int .u64 2147483648) rfl rfl (by kernel_rfl) ?_
          refine asg (.int _ _) rfl ?_
          refine jt ?_
          refine c_seq ?_
          refine c_seq ?_
          refine c_reg ?_
          refine mv (.bool _) rfl ?_
          refine not_ rfl ?_
          refine mv (.bool _) rfl ?_
          refine g_on rfl rfl rfl ?_
          refine mv (.int _ _) rfl ?_
          refine g_on rfl rfl rfl ?_
          refine mv (.int _ _) rfl ?_
          refine g_on rfl rfl rfl ?_
          refine cmp _ rfl rfl rfl ?_
          refine pkt (.bool _) rfl rfl ?_
          refine jt ?_
          refine c_cond rfl (fun h8 => ?_) (fun h8 => ?_)
          · replace h8 := of_decide_eq_true h8
            refine c_seq ?_
            refine c_reg ?_
            refine mv (.int _ _) rfl ?_
            refine bopI (.int .u64 2147483647) rfl rfl (by kernel_rfl) ?_
            refine cvI 2147483647 rfl Tryd.underlying23 Tryd.underlying2 (by kernel_rfl) ?_
            refine mki (v := (.int _ _)) rfl Tryd.underlying141 rfl ?_
            refine asg (.int _ _) rfl ?_
            refine asg (.iface _ _) rfl ?_
            refine jt ?_
            refine c_ret ?_
            exact j_end (own0 := []) (ro0 := []) (.inl rfl) rfl (hr2 Tryd.results118 (rvt (v := (.int _ _)) rfl) (rvt (v := (.iface _ _)) rfl)) [] [] [] [] [] _ rfl rfl (by kernel_rfl) rfl impl_nil (.inr ⟨fun m hm e => by first | exact absurd e (fmt_sign (.inl (by assumption))) | exact absurd e (fmt_sign (.inr (by assumption))) | exact absurd e (hp3 m (by omega)) | (have h9 := hp3 m (by omega) e; omega), 2147483647, .inl rfl, rfl, rfl⟩)
          · replace h8 := of_decide_eq_false h8
            refine c_skip ?_
            refine e_then ?_
            refine c_seq ?_
            refine c_seq ?_
            refine c_reg ?_
            refine mv (.bool _) rfl ?_
            refine mv (.bool _) rfl ?_
            refine g_off rfl rfl rfl rfl ?_
            refine g_off rfl rfl rfl rfl ?_
            refine g_off rfl rfl rfl rfl ?_
            refine pkf (.bool _) rfl rfl ?_
            refine jt ?_
            refine c_false rfl ?_
            refine c_skip ?_
            refine e_then ?_
            refine c_seq ?_
            refine c_reg ?_
            refine mv (.int _ _) rfl ?_
            refine cvI (pn3.toNat : Int) rfl Tryd.underlying23 Tryd.underlying2 (wI64 (by omega)) ?_
            refine asg (.int _ _) rfl ?_
            refine jt ?_
            refine c_seq ?_
            refine c_seq ?_
            refine c_reg ?_
            refine mv (.bool _) rfl ?_
            refine jt ?_
            refine c_false rfl ?_
            refine c_skip ?_
            refine e_then ?_
            refine c_seq ?_
            refine c_reg ?_
            refine mv (.int _ _) rfl ?_
            refine asg (.int _ _) rfl ?_
            refine asg .nilIface rfl ?_
            refine jt ?_
            refine c_ret ?_
            exact j_end (own0 := []) (ro0 := []) (.inl rfl) rfl (hr2 Tryd.results118 (rvt (v := (.int _ _)) rfl) (rvt (v := .nilIface) rfl)) [] [] [] [] [] _ rfl rfl (by kernel_rfl) rfl impl_nil (.inl ⟨_, ⟨by omega, by omega⟩, fun m hm e => by first | exact absurd e (fmt_sign (.inl (by assumption))) | exact absurd e (fmt_sign (.inr (by assumption))) | exact absurd e (hp3 m (by omega)) | (have h9 := hp3 m (by omega) e; omega), rfl, rfl, rfl⟩)
        · refine ⟨trivial, ?_⟩
          refine mv (.tuple _) rfl ?_
          refine xtr (.int _ _) rfl rfl ?_
          refine xtr (.iface _ _) rfl rfl ?_
          refine asg (.int _ _) rfl ?_
          refine asg (.iface _ _) rfl ?_
          refine jt ?_
          refine c_seq ?_
          refine c_seq ?_
          refine c_reg ?_
          refine mv (.iface _ _) rfl ?_
          refine eqin true rfl rfl Tryd.underlying80 rfl ?_
          refine mv (.bool _) rfl ?_
          refine g_on rfl rfl rfl ?_
          refine mv (.iface _ _) rfl ?_
          refine g_on rfl rfl rfl ?_
          refine mki (v := (.int _ _)) rfl Tryd.underlying141 rfl ?_
          refine g_on rfl rfl rfl ?_
          refine eqii false rfl rfl Tryd.underlying80 Tryd.underlying141 (by kernel_rfl) rfl ?_
          refine pkt (.bool _) rfl rfl ?_
          refine jt ?_
          refine c_false rfl ?_
          refine c_skip ?_
          refine e_then ?_
          refine c_seq ?_
          refine c_seq ?_
          refine c_reg ?_
          refine mv (.int _ _) rfl ?_
          refine cmp false rfl rfl rfl ?_
          refine jt ?_
          refine c_false rfl ?_
          refine c_skip ?_
          refine e_then ?_
          refine c_seq ?_
          refine c_reg ?_
          refine mv (.int _ _) rfl ?_
          refine bopI (.int .i64 31) rfl rfl (by kernel_rfl) ?_
          refine cvI 31 rfl Tryd.underlying3 Tryd.underlying87 (by kernel_rfl) ?_
          refine bopI (.int .u64 2147483648) rfl rfl (by kernel_rfl) ?_
          refine asg (.int _ _) rfl ?_
          refine jt ?_
          refine c_seq ?_
          refine c_seq ?_
          refine c_reg ?_
          refine mv (.bool _) rfl ?_
          refine not_ rfl ?_
          refine mv (.bool _) rfl ?_
          refine g_on rfl rfl rfl ?_
          refine mv (.int _ _) rfl ?_
          refine g_on rfl rfl rfl ?_
          refine mv (.int _ _) rfl ?_
          refine g_on rfl rfl rfl ?_
          refine cmp _ rfl rfl rfl ?_
          refine pkt (.bool _) rfl rfl ?_
          refine jt ?_
          refine c_cond rfl (fun h9 => ?_) (fun h9 => ?_)
          · replace h9 := of_decide_eq_true h9
            refine c_seq ?_
            refine c_reg ?_
            refine mv (.int _ _) rfl ?_
            refine bopI (.int .u64 2147483647) rfl rfl (by kernel_rfl) ?_
            refine cvI 2147483647 rfl Tryd.underlying23 Tryd.underlying2 (by kernel_rfl) ?_
            refine mki (v := (.int _ _)) rfl Tryd.underlying141 rfl ?_
            refine asg (.int _ _) rfl ?_
            refine asg (.iface _ _) rfl ?_
            refine jt ?_
            refine c_ret ?_
            exact j_end (own0 := []) (ro0 := []) (.inl rfl) rfl (hr2 Tryd.results118 (rvt (v := (.int _ _)) rfl) (rvt (v := (.iface _ _)) rfl)) [] [] [] [] [] _ rfl rfl (by kernel_rfl) rfl impl_nil (.inr ⟨fun m hm e => by first | exact absurd e (fmt_sign (.inl (by assumption))) | exact absurd e (fmt_sign (.inr (by assumption))) | exact absurd e (hp3 m (by omega)) | (have h9 := hp3 m (by omega) e; omega), 2147483647, .inl rfl, rfl, rfl⟩)
          · replace h9 := of_decide_eq_false h9
            refine c_skip ?_
            refine e_then ?_
            refine c_seq ?_
            refine c_seq ?_
            refine c_reg ?_
            refine mv (.bool _) rfl ?_
            refine mv (.bool _) rfl ?_
            refine g_off rfl rfl rfl rfl ?_
            refine g_off rfl rfl rfl rfl ?_
            refine g_off rfl rfl rfl rfl ?_
            refine pkf (.bool _) rfl rfl ?_
            refine jt ?_
            refine c_false rfl ?_
            refine c_skip ?_
            refine e_then ?_
            refine c_seq ?_
            refine c_reg ?_
            refine mv (.int _ _) rfl ?_
            refine cvI (pn3.toNat : Int) rfl Tryd.underlying23 Tryd.underlying2 (wI64 (by omega)) ?_
            refine asg (.int _ _) rfl ?_
            refine jt ?_
            refine c_seq ?_
            refine c_seq ?_
            refine c_reg ?_
            refine mv (.bool _) rfl ?_
            refine jt ?_
            refine c_false rfl ?_
            refine c_skip ?_
            refine e_then ?_
            refine c_seq ?_
            refine c_reg ?_
            refine mv (.int _ _) rfl ?_
            refine asg (.int _ _) rfl ?_
            refine asg .nilIface rfl ?_
            refine jt ?_
            refine c_ret ?_
            exact j_end (own0 := []) (ro0 := []) (.inl rfl) rfl (hr2 Tryd.results118 (rvt (v := (.int _ _)) rfl) (rvt (v := .nilIface) rfl)) [] [] [] [] [] _ rfl rfl (by kernel_rfl) rfl impl_nil (.inl ⟨_, ⟨by omega, by omega⟩, fun m hm e => by first | exact absurd e (fmt_sign (.inl (by assumption))) | exact absurd e (fmt_sign (.inr (by assumption))) | exact absurd e (hp3 m (by omega)) | (have h9 := hp3 m (by omega) e; omega), rfl, rfl, rfl⟩)
        · refine ⟨trivial, ?_⟩
          refine mv (.tuple _) rfl ?_
          refine xtr (.int _ _) rfl rfl ?_
          refine xtr (.iface _ _) rfl rfl ?_
          refine asg (.int _ _) rfl ?_
          refine asg (.iface _ _) rfl ?_
          refine jt ?_
          refine c_seq ?_
          refine c_seq ?_
          refine c_reg ?_
          refine mv (.iface _ _) rfl ?_
          refine eqin true rfl rfl Tryd.underlying80 rfl ?_
          refine mv (.bool _) rfl ?_
          refine g_on rfl rfl rfl ?_
          refine mv (.iface _ _) rfl ?_
          refine g_on rfl rfl rfl ?_
          refine mki (v := (.int _ _)) rfl Tryd.underlying141 rfl ?_
          refine g_on rfl rfl rfl ?_
          refine eqii true rfl rfl Tryd.underlying80 Tryd.underlying141 (by kernel_rfl) rfl ?_
          refine pkt (.bool _) rfl rfl ?_
          refine jt ?_
          refine c_true rfl ?_
          refine c_seq ?_
          refine c_reg ?_
          refine mv (.iface _ _) rfl ?_
          refine asg (.int _ _) rfl ?_
          refine asg (.iface _ _) rfl ?_
          refine jt ?_
          refine c_ret ?_
          exact j_end (own0 := []) (ro0 := []) (.inl rfl) rfl (hr2 Tryd.results118 (rvt (v := (.int _ _)) rfl) (rvt (v := (.iface _ _)) rfl)) [] [] [] [] [] _ rfl rfl (by kernel_rfl) rfl impl_nil (.inr ⟨fun m hm e => by first | exact absurd e (fmt_sign (.inl (by assumption))) | exact absurd e (fmt_sign (.inr (by assumption))) | exact absurd e (hp3 m (by omega)) | (have h9 := hp3 m (by omega) e; omega), 0, .inr rfl, rfl, rfl⟩)
end Go.Proofs.YthpbiamicidakaaDoor
namespace Go.Proofs.YthpbiamicidakaaDoor
open Go Go.Proofs Go.PW
open Go.PW.Enc (enc val)
theorem sParseInt_ct (w : Str) (hw : w.length ≤ 140737488351232) (eu : TypeId) (ev : Value) (ru : TypeId) (rv : Value) : Ct Tryd.prog 103 [strV w, .int .i64 16, .int .i64 32] [] [tIf 5 eu ev, tIf 6 ru rv] (fun v o r => (∃ n : Int, (-2147483648 ≤ n ∧ n < 2147483648) ∧ (∀ m : Nat, m < 2147483648 → w = fmtN 16 m → n = (m : Int)) ∧ v = .tuple #[.int .i64 n, .nilIface] ∧ o = [] ∧ r = []) ∨ ((∀ m : Nat, m < 2147483648 → w ≠ fmtN 16 m) ∧ ∃ (n : Int) (u : TypeId) (x : Value), v = .tuple #[.int .i64 n, .iface u x] ∧ o = [] ∧ r = [])) := by
  refine ct_enter Tryd.func103 rfl Tryd.ntmps103 (by kernel_rfl) rfl fun w0 => ?_
  refine c_seq ?_
  refine c_reg ?_
  refine asg (.int _ _) rfl ?_
  refine asg .nilIface rfl ?_
  refine jt ?_
  refine c_seq ?_
  refine c_reg ?_
  refine mv (.string _) rfl ?_
  refine mv (.int _ _) rfl ?_
  refine mv (.int _ _) rfl ?_
  refine cal (iParseInt_ct w (by omega)) [] [] [] rfl rfl rfl (by kernel_rfl) impl_nil rfl ?_; rintro _ _ _ (⟨qn1, hr1, hq1, rfl, rfl, rfl⟩ | ⟨hq1, qn1, rfl | rfl, rfl, rfl⟩)
  · refine ⟨trivial, ?_⟩
    refine mv (.tuple _) rfl ?_
    refine xtr (.int _ _) rfl rfl ?_
    refine xtr .nilIface rfl rfl ?_
    refine asg (.int _ _) rfl ?_
    refine asg .nilIface rfl ?_
    refine jt ?_
    refine c_seq ?_
    refine c_seq ?_
    refine c_reg ?_
    refine mv .nilIface rfl ?_
    refine eqnn false rfl Tryd.underlying80 rfl ?_
    refine jt ?_
    refine c_false rfl ?_
    refine c_skip ?_
    refine e_then ?_
    refine c_seq ?_
    refine c_reg ?_
    refine mv (.int _ _) rfl ?_
    refine asg (.int _ _) rfl ?_
    refine asg .nilIface rfl ?_
    refine jt ?_
    refine c_ret ?_
    exact j_end (own0 := []) (ro0 := [tIf 5 eu ev, tIf 6 ru rv]) (.inl rfl) rfl (hr2 Tryd.results103 (rvt (v := (.int _ _)) rfl) (rvt (v := .nilIface) rfl)) [] [] [] [] [] _ rfl rfl (by kernel_rfl) rfl impl_nil (.inl ⟨_, hr1, hq1, rfl, rfl, rfl⟩)
  · refine ⟨trivial, ?_⟩
    refine mv (.tuple _) rfl ?_
    refine xtr (.int _ _) rfl rfl ?_
    refine xtr (.iface _ _) rfl rfl ?_
    refine asg (.int _ _) rfl ?_
    refine asg (.iface _ _) rfl ?_
    refine jt ?_
    refine c_seq ?_
    refine c_seq ?_
    refine c_reg ?_
    refine mv (.iface _ _) rfl ?_
    refine eqin true rfl rfl Tryd.underlying80 rfl ?_
    refine jt ?_
    refine c_true rfl ?_
    refine c_seq ?_
    refine c_reg ?_
    refine mv (.int _ _) rfl ?_
    refine mv (.string _) rfl ?_
    refine mv (.int _ _) rfl ?_
    refine mv (.int _ _) rfl ?_
    refine mv (.iface _ _) rfl ?_
    refine cal (toError1_ct ([80, 97, 114, 115, 101, 73, 110, 116] : Str) w 16 32 (by omega) eu ev ru rv) [] [] [] rfl rfl rfl (by kernel_rfl) (impl_cons (impl_at 0 rfl) (impl_cons (impl_at 1 rfl) impl_nil)) rfl ?_; rintro _ _ _ ⟨tu2, tv2, rfl, rfl, rfl⟩; refine ⟨trivial, ?_⟩
    refine asg (.int _ _) rfl ?_
    refine asg (.iface _ _) rfl ?_
    refine jt ?_
    refine c_ret ?_
    exact j_end (own0 := []) (ro0 := [tIf 5 eu ev, tIf 6 ru rv]) (.inl rfl) rfl (hr2 Tryd.results103 (rvt (v := (.int _ _)) rfl) (rvt (v := (.iface _ _)) rfl)) [] [] [] [] [] _ rfl rfl (by kernel_rfl) rfl impl_nil (.inr ⟨hq1, _, _, _, rfl, rfl, rfl⟩)
  · refine ⟨trivial, ?_⟩
    refine mv (.tuple _) rfl ?_
    refine xtr (.int _ _) rfl rfl ?_
    refine xtr (.iface _ _) rfl rfl ?_
    refine asg (.int _ _) rfl ?_
    refine asg (.iface _ _) rfl ?_
    refine jt ?_
    refine c_seq ?_
    refine c_seq ?_
    refine c_reg ?_
    refine mv (.iface _ _) rfl ?_
    refine eqin true rfl rfl Tryd.underlying80 rfl ?_
    refine jt ?_
    refine c_true rfl ?_
    refine c_seq ?_
    refine c_reg ?_
    refine mv (.int _ _) rfl ?_
    refine mv (.string _) rfl ?_
    refine mv (.int _ _) rfl ?_
    refine mv (.int _ _) rfl ?_
    refine mv (.iface _ _) rfl ?_
    refine cal (toError2_ct ([80, 97, 114, 115, 101, 73, 110, 116] : Str) w 16 32 (by omega) eu ev ru rv) [] [] [] rfl rfl rfl (by kernel_rfl) (impl_cons (impl_at 0 rfl) (impl_cons (impl_at 1 rfl) impl_nil)) rfl ?_; rintro _ _ _ ⟨tu3, tv3, rfl, rfl, rfl⟩; refine ⟨trivial, ?_⟩
    refine asg (.int _ _) rfl ?_
    refine asg (.iface _ _) rfl ?_
    refine jt ?_
    refine c_ret ?_
    exact j_end (own0 := []) (ro0 := [tIf 5 eu ev, tIf 6 ru rv]) (.inl rfl) rfl (hr2 Tryd.results103 (rvt (v := (.int _ _)) rfl) (rvt (v := (.iface _ _)) rfl)) [] [] [] [] [] _ rfl rfl (by kernel_rfl) rfl impl_nil (.inr ⟨hq1, _, _, _, rfl, rfl, rfl⟩)
theorem ValidRune_ct (z : Int) : Ct Tryd.prog 104 [.int .i32 z] [] [] (fun v o r => v = .bool (vruneZ z) ∧ o = [] ∧ r = []) := by
  refine ct_enter Tryd.func104 rfl Tryd.ntmps104 (by kernel_rfl) rfl fun w0 => ?_
  refine c_seq ?_
  refine c_reg ?_
  refine asg (.bool _) rfl ?_
  refine jt ?_
  refine c_seq ?_
  refine c_block ?_
  refine c_seq ?_
  refine c_reg ?_
  refine mv (.int _ _) rfl ?_
  refine cmp _ rfl rfl rfl ?_
  refine mv (.bool _) rfl ?_
  refine jsplit 6 rfl (fun h1 => ?_) (fun h1 => ?_)
  · replace h1 := of_decide_eq_true h1
    refine g_on rfl rfl rfl ?_
    refine mv (.int _ _) rfl ?_
    refine g_on rfl rfl rfl ?_
    refine cmp _ rfl rfl rfl ?_
    refine pkt (.bool _) rfl rfl ?_
    refine asg (.bool _) rfl ?_
    refine jt ?_
    refine c_cond rfl (fun h2 => ?_) (fun h2 => ?_)
    · replace h2 := of_decide_eq_true h2
      refine c_seq ?_
      refine c_reg ?_
      refine asg (.bool _) rfl ?_
      refine jt ?_
      refine c_ret ?_
      exact j_end (own0 := []) (ro0 := []) (.inl rfl) rfl (hr1 Tryd.results104 (rvt (v := (.bool _)) rfl)) [] [] [] [] [] _ rfl rfl (by kernel_rfl) rfl impl_nil (⟨by rw [show vruneZ z = true from by rw [Bool.eq_iff_iff]; simp only [vruneZ, Bool.or_eq_true, Bool.and_eq_true, decide_eq_true_eq]; simp; omega], rfl, rfl⟩)
    · replace h2 := of_decide_eq_false h2
      refine c_seq ?_
      refine c_reg ?_
      refine mv (.int _ _) rfl ?_
      refine cmp _ rfl rfl rfl ?_
      refine mv (.bool _) rfl ?_
      refine jsplit 13 rfl (fun h3 => ?_) (fun h3 => ?_)
      · replace h3 := of_decide_eq_true h3
        refine g_on rfl rfl rfl ?_
        refine mv (.int _ _) rfl ?_
        refine g_on rfl rfl rfl ?_
        refine cmp _ rfl rfl rfl ?_
        refine pkt (.bool _) rfl rfl ?_
        refine asg (.bool _) rfl ?_
        refine jt ?_
        refine c_cond rfl (fun h4 => ?_) (fun h4 => ?_)
        · replace h4 := of_decide_eq_true h4
          refine c_seq ?_
          refine c_reg ?_
          refine asg (.bool _) rfl ?_
          refine jt ?_
          refine c_ret ?_
          exact j_end (own0 := []) (ro0 := []) (.inl rfl) rfl (hr1 Tryd.results104 (rvt (v := (.bool _)) rfl)) [] [] [] [] [] _ rfl rfl (by kernel_rfl) rfl impl_nil (⟨by rw [show vruneZ z = true from by rw [Bool.eq_iff_iff]; simp only [vruneZ, Bool.or_eq_true, Bool.and_eq_true, decide_eq_true_eq]; simp; omega], rfl, rfl⟩)
        · replace h4 := of_decide_eq_false h4
          refine c_skip ?_
          refine e_in ?_
          refine e_then ?_
          refine c_seq ?_
          refine c_reg ?_
          refine asg (.bool _) rfl ?_
          refine jt ?_
          refine c_ret ?_
          exact j_end (own0 := []) (ro0 := []) (.inl rfl) rfl (hr1 Tryd.results104 (rvt (v := (.bool _)) rfl)) [] [] [] [] [] _ rfl rfl (by kernel_rfl) rfl impl_nil (⟨by rw [show vruneZ z = false from by rw [Bool.eq_iff_iff]; simp only [vruneZ, Bool.or_eq_true, Bool.and_eq_true, decide_eq_true_eq]; simp; omega], rfl, rfl⟩)
      · replace h3 := of_decide_eq_false h3
        refine g_off rfl rfl rfl rfl ?_
        refine g_off rfl rfl rfl rfl ?_
        refine pkf (.bool _) rfl rfl ?_
        refine asg (.bool _) rfl ?_
        refine jt ?_
        refine c_false rfl ?_
        refine c_skip ?_
        refine e_in ?_
        refine e_then ?_
        refine c_seq ?_
        refine c_reg ?_
        refine asg (.bool _) rfl ?_
        refine jt ?_
        refine c_ret ?_
        exact j_end (own0 := []) (ro0 := []) (.inl rfl) rfl (hr1 Tryd.results104 (rvt (v := (.bool _)) rfl)) [] [] [] [] [] _ rfl rfl (by kernel_rfl) rfl impl_nil (⟨by rw [show vruneZ z = false from by rw [Bool.eq_iff_iff]; simp only [vruneZ, Bool.or_eq_true, Bool.and_eq_true, decide_eq_true_eq]; simp; omega], rfl, rfl⟩)
  · replace h1 := of_decide_eq_false h1
    refine g_off rfl rfl rfl rfl ?_
    refine g_off rfl rfl rfl rfl ?_
    refine pkf (.bool _) rfl rfl ?_
    refine asg (.bool _) rfl ?_
    refine jt ?_
    refine c_false rfl ?_
    refine c_seq ?_
    refine c_reg ?_
    refine mv (.int _ _) rfl ?_
    refine cmp _ rfl rfl rfl ?_
    refine mv (.bool _) rfl ?_
    refine jsplit 13 rfl (fun h5 => ?_) (fun h5 => ?_)
    · replace h5 := of_decide_eq_true h5
      refine g_on rfl rfl rfl ?_
      refine mv (.int _ _) rfl ?_
      refine g_on rfl rfl rfl ?_
      refine cmp _ rfl rfl rfl ?_
      refine pkt (.bool _) rfl rfl ?_
      refine asg (.bool _) rfl ?_
      refine jt ?_
      refine c_cond rfl (fun h6 => ?_) (fun h6 => ?_)
      · replace h6 := of_decide_eq_true h6
        refine c_seq ?_
        refine c_reg ?_
        refine asg (.bool _) rfl ?_
        refine jt ?_
        refine c_ret ?_
        exact j_end (own0 := []) (ro0 := []) (.inl rfl) rfl (hr1 Tryd.results104 (rvt (v := (.bool _)) rfl)) [] [] [] [] [] _ rfl rfl (by kernel_rfl) rfl impl_nil (⟨by rw [show vruneZ z = true from by rw [Bool.eq_iff_iff]; simp only [vruneZ, Bool.or_eq_true, Bool.and_eq_true, decide_eq_true_eq]; simp; omega], rfl, rfl⟩)
      · replace h6 := of_decide_eq_false h6
        refine c_skip ?_
        refine e_in ?_
        refine e_then ?_
        refine c_seq ?_
        refine c_reg ?_
        refine asg (.bool _) rfl ?_
        refine jt ?_
        refine c_ret ?_
        exact j_end (own0 := []) (ro0 := []) (.inl rfl) rfl (hr1 Tryd.results104 (rvt (v := (.bool _)) rfl)) [] [] [] [] [] _ rfl rfl (by kernel_rfl) rfl impl_nil (⟨by rw [show vruneZ z = false from by rw [Bool.eq_iff_iff]; simp only [vruneZ, Bool.or_eq_true, Bool.and_eq_true, decide_eq_true_eq]; simp; omega], rfl, rfl⟩)
    · replace h5 := of_decide_eq_false h5
      refine g_off rfl rfl rfl rfl ?_
      refine g_off rfl rfl rfl rfl ?_
      refine pkf (.bool _) rfl rfl ?_
      refine asg (.bool _) rfl ?_
      refine jt ?_
      refine c_false rfl ?_
      refine c_skip ?_
      refine e_in ?_
      refine e_then ?_
      refine c_seq ?_
      refine c_reg ?_
      refine asg (.bool _) rfl ?_
      refine jt ?_
      refine c_ret ?_
      exact j_end (own0 := []) (ro0 := []) (.inl rfl) rfl (hr1 Tryd.results104 (rvt (v := (.bool _)) rfl)) [] [] [] [] [] _ rfl rfl (by kernel_rfl) rfl impl_nil (⟨by rw [show vruneZ z = false from by rw [Bool.eq_iff_iff]; simp only [vruneZ, Bool.or_eq_true, Bool.and_eq_true, decide_eq_true_eq]; simp; omega], rfl, rfl⟩)
set_option maxRecDepth 20000 in
set_option maxHeartbeats 4000000 in
theorem appNA_ct (o : Ow) (xs : Str) (ho : o.ok xs) (hb : xs.length ≤ 140737488355320) (c : Nat) (hc : ¬ c < 128) (hv : vrune c = true) : Ct Tryd.prog 97 [.slice o.adr xs.length o.cap, .int .i32 (c : Int)] [o.seg xs 5] [] (fun v w r => ∃ o' : Ow, o'.ok (xs ++ enc8 c) ∧ v = .slice o'.adr (xs ++ enc8 c).length o'.cap ∧ w = [o'.seg (xs ++ enc8 c) 5] ∧ r = []) := by
  have HV := vrune_iff.1 hv
  have HU : (UInt32.ofNat c).toNat = c := by rw [UInt32.toNat_ofNat']; omega
  refine ct_enter Tryd.func97 rfl Tryd.ntmps97 (by kernel_rfl) rfl fun w0 => ?_
  refine c_seq ?_
  refine c_reg ?_
  refine asg (.slice _ _ _) rfl ?_
  refine jt ?_
  refine c_seq ?_
  refine c_reg ?_
  refine mv (.int _ _) rfl ?_
  refine cvNU32 (n := c) rfl Tryd.underlying21 Tryd.underlying47 ?_
  refine asg (.int _ _) rfl ?_
  refine jt ?_
  refine c_block ?_
  refine c_seq ?_
  refine c_reg ?_
  refine mv (.int _ _) rfl ?_
  refine cmp _ rfl rfl rfl ?_
  refine asg (.bool _) rfl ?_
  refine jt ?_
  refine c_cond rfl (fun h1 => ?_) (fun h1 => ?_)
  · replace h1 := of_decide_eq_true h1
    refine c_seq ?_
    refine c_reg ?_
    refine mv (.slice _ _ _) rfl ?_
    refine mv (.int _ _) rfl ?_
    refine shrn (a := c) (m := 64) 6 rfl rfl rfl (by decide) ?_
    refine cvNU8 (n := (c / 64)) rfl Tryd.underlying21 Tryd.underlying5 ?_
    refine orU8 (a := (192 : UInt8)) (b := (UInt8.ofNat (c / 64))) rfl rfl ?_
    refine mv (.int _ _) rfl ?_
    refine cvNU8 (n := c) rfl Tryd.underlying21 Tryd.underlying5 ?_
    refine andU8 (a := (UInt8.ofNat c)) (b := (63 : UInt8)) rfl rfl ?_
    refine orU8 (a := (128 : UInt8)) (b := ((UInt8.ofNat c) &&& (63 : UInt8))) rfl rfl ?_
    refine bsl (α := UInt8) ([((192 : UInt8) ||| (UInt8.ofNat (c / 64))), ((128 : UInt8) ||| ((UInt8.ofNat c) &&& (63 : UInt8)))]) Tryd.underlying50 ty5.sz rfl (by decide) z5 rfl fun b23 => ⟨trivial, ?_⟩
    refine app 0 o xs ([((192 : UInt8) ||| (UInt8.ofNat (c / 64))), ((128 : UInt8) ||| ((UInt8.ofNat c) &&& (63 : UInt8)))] : List UInt8) ho rfl ⟨rfl, rfl, rfl⟩ rfl rfl (gives_own (ys := ([((192 : UInt8) ||| (UInt8.ofNat (c / 64))), ((128 : UInt8) ||| ((UInt8.ofNat c) &&& (63 : UInt8)))] : List UInt8)) (pre := []) (post := []) 1 rfl (by simp) rfl) Tryd.underlying50 Tryd.underlying50 (.inl ⟨_, rfl⟩) ty5.sz by5 z5 rfl (by simp; omega) rfl fun o24_1 hk24_1 => ⟨trivial, ?_⟩
    refine asg (.slice _ _ _) rfl ?_
    refine jt ?_
    refine c_ret ?_
    exact j_end (own0 := [o.seg xs 5]) (ro0 := []) (.inl rfl) rfl (hr1 Tryd.results97 (rvt (v := (.slice _ _ _)) rfl)) [0] [1] [_] [_] [] _ rfl rfl (by kernel_rfl) rfl impl_nil (⟨o24_1, (by rw [enc8_2 hc (by omega)]; exact hk24_1), by rw [enc8_2 hc (by omega)], by rw [enc8_2 hc (by omega)], rfl⟩)
  · replace h1 := of_decide_eq_false h1
    refine c_seq ?_
    refine c_seq ?_
    refine c_reg ?_
    refine mv (.int _ _) rfl ?_
    refine cmp _ rfl rfl rfl ?_
    refine asg (.bool _) rfl ?_
    refine jt ?_
    refine c_cond rfl (fun h2 => ?_) (fun h2 => ?_)
    · replace h2 := of_decide_eq_true h2
      refine c_skip ?_
      refine e_then ?_
      refine c_cond rfl (fun h3 => ?_) (fun h3 => ?_)
      · replace h3 := of_decide_eq_true h3
        refine c_seq ?_
        refine c_reg ?_
        refine mv (.slice _ _ _) rfl ?_
        refine mv (.int _ _) rfl ?_
        refine shrn (a := c) (m := 4096) 12 rfl rfl rfl (by decide) ?_
        refine cvNU8 (n := (c / 4096)) rfl Tryd.underlying21 Tryd.underlying5 ?_
        refine orU8 (a := (224 : UInt8)) (b := (UInt8.ofNat (c / 4096))) rfl rfl ?_
        refine mv (.int _ _) rfl ?_
        refine shrn (a := c) (m := 64) 6 rfl rfl rfl (by decide) ?_
        refine cvNU8 (n := (c / 64)) rfl Tryd.underlying21 Tryd.underlying5 ?_
        refine andU8 (a := (UInt8.ofNat (c / 64))) (b := (63 : UInt8)) rfl rfl ?_
        refine orU8 (a := (128 : UInt8)) (b := ((UInt8.ofNat (c / 64)) &&& (63 : UInt8))) rfl rfl ?_
        refine mv (.int _ _) rfl ?_
        refine cvNU8 (n := c) rfl Tryd.underlying21 Tryd.underlying5 ?_
        refine andU8 (a := (UInt8.ofNat c)) (b := (63 : UInt8)) rfl rfl ?_
        refine orU8 (a := (128 : UInt8)) (b := ((UInt8.ofNat c) &&& (63 : UInt8))) rfl rfl ?_
        refine bsl (α := UInt8) ([((224 : UInt8) ||| (UInt8.ofNat (c / 4096))), ((128 : UInt8) ||| ((UInt8.ofNat (c / 64)) &&& (63 : UInt8))), ((128 : UInt8) ||| ((UInt8.ofNat c) &&& (63 : UInt8)))]) Tryd.underlying50 ty5.sz rfl (by decide) z5 rfl fun b48 => ⟨trivial, ?_⟩
        refine app 0 o xs ([((224 : UInt8) ||| (UInt8.ofNat (c / 4096))), ((128 : UInt8) ||| ((UInt8.ofNat (c / 64)) &&& (63 : UInt8))), ((128 : UInt8) ||| ((UInt8.ofNat c) &&& (63 : UInt8)))] : List UInt8) ho rfl ⟨rfl, rfl, rfl⟩ rfl rfl (gives_own (ys := ([((224 : UInt8) ||| (UInt8.ofNat (c / 4096))), ((128 : UInt8) ||| ((UInt8.ofNat (c / 64)) &&& (63 : UInt8))), ((128 : UInt8) ||| ((UInt8.ofNat c) &&& (63 : UInt8)))] : List UInt8)) (pre := []) (post := []) 1 rfl (by simp) rfl) Tryd.underlying50 Tryd.underlying50 (.inl ⟨_, rfl⟩) ty5.sz by5 z5 rfl (by simp; omega) rfl fun o49_2 hk49_2 => ⟨trivial, ?_⟩
        refine asg (.slice _ _ _) rfl ?_
        refine jt ?_
        refine c_ret ?_
        exact j_end (own0 := [o.seg xs 5]) (ro0 := []) (.inl rfl) rfl (hr1 Tryd.results97 (rvt (v := (.slice _ _ _)) rfl)) [0] [1] [_] [_] [] _ rfl rfl (by kernel_rfl) rfl impl_nil (⟨o49_2, (by rw [enc8_3 (by omega) (by omega)]; exact hk49_2), by rw [enc8_3 (by omega) (by omega)], by rw [enc8_3 (by omega) (by omega)], rfl⟩)
      · replace h3 := of_decide_eq_false h3
        refine c_seq ?_
        refine c_reg ?_
        refine mv (.int _ _) rfl ?_
        refine cmp _ rfl rfl rfl ?_
        refine mv (.bool _) rfl ?_
        refine jsplit 53 rfl (fun h4 => ?_) (fun h4 => ?_)
        · replace h4 := of_decide_eq_true h4
          refine g_on rfl rfl rfl ?_
          refine mv (.int _ _) rfl ?_
          refine g_on rfl rfl rfl ?_
          refine cmp _ rfl rfl rfl ?_
          refine pkt (.bool _) rfl rfl ?_
          refine asg (.bool _) rfl ?_
          refine jt ?_
          refine c_cond rfl (fun h5 => ?_) (fun h5 => ?_)
          · replace h5 := of_decide_eq_true h5
            refine c_seq ?_
            refine c_reg ?_
            refine mv (.slice _ _ _) rfl ?_
            refine mv (.int _ _) rfl ?_
            refine shrn (a := c) (m := 262144) 18 rfl rfl rfl (by decide) ?_
            refine cvNU8 (n := (c / 262144)) rfl Tryd.underlying21 Tryd.underlying5 ?_
            refine orU8 (a := (240 : UInt8)) (b := (UInt8.ofNat (c / 262144))) rfl rfl ?_
            refine mv (.int _ _) rfl ?_
            refine shrn (a := c) (m := 4096) 12 rfl rfl rfl (by decide) ?_
            refine cvNU8 (n := (c / 4096)) rfl Tryd.underlying21 Tryd.underlying5 ?_
            refine andU8 (a := (UInt8.ofNat (c / 4096))) (b := (63 : UInt8)) rfl rfl ?_
            refine orU8 (a := (128 : UInt8)) (b := ((UInt8.ofNat (c / 4096)) &&& (63 : UInt8))) rfl rfl ?_
            refine mv (.int _ _) rfl ?_
            refine shrn (a := c) (m := 64) 6 rfl rfl rfl (by decide) ?_
            refine cvNU8 (n := (c / 64)) rfl Tryd.underlying21 Tryd.underlying5 ?_
            refine andU8 (a := (UInt8.ofNat (c / 64))) (b := (63 : UInt8)) rfl rfl ?_
            refine orU8 (a := (128 : UInt8)) (b := ((UInt8.ofNat (c / 64)) &&& (63 : UInt8))) rfl rfl ?_
            refine mv (.int _ _) rfl ?_
            refine cvNU8 (n := c) rfl Tryd.underlying21 Tryd.underlying5 ?_
            refine andU8 (a := (UInt8.ofNat c)) (b := (63 : UInt8)) rfl rfl ?_
            refine orU8 (a := (128 : UInt8)) (b := ((UInt8.ofNat c) &&& (63 : UInt8))) rfl rfl ?_
            refine bsl (α := UInt8) ([((240 : UInt8) ||| (UInt8.ofNat (c / 262144))), ((128 : UInt8) ||| ((UInt8.ofNat (c / 4096)) &&& (63 : UInt8))), ((128 : UInt8) ||| ((UInt8.ofNat (c / 64)) &&& (63 : UInt8))), ((128 : UInt8) ||| ((UInt8.ofNat c) &&& (63 : UInt8)))]) Tryd.underlying50 ty5.sz rfl (by decide) z5 rfl fun b76 => ⟨trivial, ?_⟩
            refine app 0 o xs ([((240 : UInt8) ||| (UInt8.ofNat (c / 262144))), ((128 : UInt8) ||| ((UInt8.ofNat (c / 4096)) &&& (63 : UInt8))), ((128 : UInt8) ||| ((UInt8.ofNat (c / 64)) &&& (63 : UInt8))), ((128 : UInt8) ||| ((UInt8.ofNat c) &&& (63 : UInt8)))] : List UInt8) ho rfl ⟨rfl, rfl, rfl⟩ rfl rfl (gives_own (ys := ([((240 : UInt8) ||| (UInt8.ofNat (c / 262144))), ((128 : UInt8) ||| ((UInt8.ofNat (c / 4096)) &&& (63 : UInt8))), ((128 : UInt8) ||| ((UInt8.ofNat (c / 64)) &&& (63 : UInt8))), ((128 : UInt8) ||| ((UInt8.ofNat c) &&& (63 : UInt8)))] : List UInt8)) (pre := []) (post := []) 1 rfl (by simp) rfl) Tryd.underlying50 Tryd.underlying50 (.inl ⟨_, rfl⟩) ty5.sz by5 z5 rfl (by simp; omega) rfl fun o77_3 hk77_3 => ⟨trivial, ?_⟩
            refine asg (.slice _ _ _) rfl ?_
            refine jt ?_
            refine c_ret ?_
            exact j_end (own0 := [o.seg xs 5]) (ro0 := []) (.inl rfl) rfl (hr1 Tryd.results97 (rvt (v := (.slice _ _ _)) rfl)) [0] [1] [_] [_] [] _ rfl rfl (by kernel_rfl) rfl impl_nil (⟨o77_3, (by rw [enc8_4 (by omega) (by omega)]; exact hk77_3), by rw [enc8_4 (by omega) (by omega)], by rw [enc8_4 (by omega) (by omega)], rfl⟩)
          · replace h5 := of_decide_eq_false h5
            refine c_seq ?_
            refine c_reg ?_
            refine mv (.slice _ _ _) rfl ?_
            refine bsl (α := UInt8) ([(239 : UInt8), (191 : UInt8), (189 : UInt8)]) Tryd.underlying50 ty5.sz rfl (by decide) z5 rfl fun b9 => ⟨trivial, ?_⟩
            refine app 0 o xs ([(239 : UInt8), (191 : UInt8), (189 : UInt8)] : List UInt8) ho rfl ⟨rfl, rfl, rfl⟩ rfl rfl (gives_own (ys := ([(239 : UInt8), (191 : UInt8), (189 : UInt8)] : List UInt8)) (pre := []) (post := []) 1 rfl (by simp) rfl) Tryd.underlying50 Tryd.underlying50 (.inl ⟨_, rfl⟩) ty5.sz by5 z5 rfl (by simp; omega) rfl fun o10_4 hk10_4 => ⟨trivial, ?_⟩
            refine asg (.slice _ _ _) rfl ?_
            refine jt ?_
            refine c_ret ?_
            exact j_end (own0 := [o.seg xs 5]) (ro0 := []) (.inl rfl) rfl (hr1 Tryd.results97 (rvt (v := (.slice _ _ _)) rfl)) [0] [1] [_] [_] [] _ rfl rfl (by kernel_rfl) rfl impl_nil (False.elim (by omega))
        · replace h4 := of_decide_eq_false h4
          refine g_off rfl rfl rfl rfl ?_
          refine g_off rfl rfl rfl rfl ?_
          refine pkf (.bool _) rfl rfl ?_
          refine asg (.bool _) rfl ?_
          refine jt ?_
          refine c_false rfl ?_
          refine c_seq ?_
          refine c_reg ?_
          refine mv (.slice _ _ _) rfl ?_
          refine bsl (α := UInt8) ([(239 : UInt8), (191 : UInt8), (189 : UInt8)]) Tryd.underlying50 ty5.sz rfl (by decide) z5 rfl fun b9 => ⟨trivial, ?_⟩
          refine app 0 o xs ([(239 : UInt8), (191 : UInt8), (189 : UInt8)] : List UInt8) ho rfl ⟨rfl, rfl, rfl⟩ rfl rfl (gives_own (ys := ([(239 : UInt8), (191 : UInt8), (189 : UInt8)] : List UInt8)) (pre := []) (post := []) 1 rfl (by simp) rfl) Tryd.underlying50 Tryd.underlying50 (.inl ⟨_, rfl⟩) ty5.sz by5 z5 rfl (by simp; omega) rfl fun o10_5 hk10_5 => ⟨trivial, ?_⟩
          refine asg (.slice _ _ _) rfl ?_
          refine jt ?_
          refine c_ret ?_
          exact j_end (own0 := [o.seg xs 5]) (ro0 := []) (.inl rfl) rfl (hr1 Tryd.results97 (rvt (v := (.slice _ _ _)) rfl)) [0] [1] [_] [_] [] _ rfl rfl (by kernel_rfl) rfl impl_nil (False.elim (by omega))
    · replace h2 := of_decide_eq_false h2
      refine c_reg ?_
      refine mv (.int _ _) rfl ?_
      refine cmp _ rfl rfl rfl ?_
      refine mv (.bool _) rfl ?_
      refine jsplit 30 rfl (fun h6 => ?_) (fun h6 => ?_)
      · replace h6 := of_decide_eq_true h6
        refine g_on rfl rfl rfl ?_
        refine mv (.int _ _) rfl ?_
        refine g_on rfl rfl rfl ?_
        refine cmp _ rfl rfl rfl ?_
        refine pkt (.bool _) rfl rfl ?_
        refine asg (.bool _) rfl ?_
        refine jt ?_
        refine c_cond rfl (fun h7 => ?_) (fun h7 => ?_)
        · replace h7 := of_decide_eq_true h7
          refine c_seq ?_
          refine c_reg ?_
          refine mv (.slice _ _ _) rfl ?_
          refine mv (.int _ _) rfl ?_
          refine shrn (a := c) (m := 4096) 12 rfl rfl rfl (by decide) ?_
          refine cvNU8 (n := (c / 4096)) rfl Tryd.underlying21 Tryd.underlying5 ?_
          refine orU8 (a := (224 : UInt8)) (b := (UInt8.ofNat (c / 4096))) rfl rfl ?_
          refine mv (.int _ _) rfl ?_
          refine shrn (a := c) (m := 64) 6 rfl rfl rfl (by decide) ?_
          refine cvNU8 (n := (c / 64)) rfl Tryd.underlying21 Tryd.underlying5 ?_
          refine andU8 (a := (UInt8.ofNat (c / 64))) (b := (63 : UInt8)) rfl rfl ?_
          refine orU8 (a := (128 : UInt8)) (b := ((UInt8.ofNat (c / 64)) &&& (63 : UInt8))) rfl rfl ?_
          refine mv (.int _ _) rfl ?_
          refine cvNU8 (n := c) rfl Tryd.underlying21 Tryd.underlying5 ?_
          refine andU8 (a := (UInt8.ofNat c)) (b := (63 : UInt8)) rfl rfl ?_
          refine orU8 (a := (128 : UInt8)) (b := ((UInt8.ofNat c) &&& (63 : UInt8))) rfl rfl ?_
          refine bsl (α := UInt8) ([((224 : UInt8) ||| (UInt8.ofNat (c / 4096))), ((128 : UInt8) ||| ((UInt8.ofNat (c / 64)) &&& (63 : UInt8))), ((128 : UInt8) ||| ((UInt8.ofNat c) &&& (63 : UInt8)))]) Tryd.underlying50 ty5.sz rfl (by decide) z5 rfl fun b48 => ⟨trivial, ?_⟩
          refine app 0 o xs ([((224 : UInt8) ||| (UInt8.ofNat (c / 4096))), ((128 : UInt8) ||| ((UInt8.ofNat (c / 64)) &&& (63 : UInt8))), ((128 : UInt8) ||| ((UInt8.ofNat c) &&& (63 : UInt8)))] : List UInt8) ho rfl ⟨rfl, rfl, rfl⟩ rfl rfl (gives_own (ys := ([((224 : UInt8) ||| (UInt8.ofNat (c / 4096))), ((128 : UInt8) ||| ((UInt8.ofNat (c / 64)) &&& (63 : UInt8))), ((128 : UInt8) ||| ((UInt8.ofNat c) &&& (63 : UInt8)))] : List UInt8)) (pre := []) (post := []) 1 rfl (by simp) rfl) Tryd.underlying50 Tryd.underlying50 (.inl ⟨_, rfl⟩) ty5.sz by5 z5 rfl (by simp; omega) rfl fun o49_6 hk49_6 => ⟨trivial, ?_⟩
          refine asg (.slice _ _ _) rfl ?_
          refine jt ?_
          refine c_ret ?_
          exact j_end (own0 := [o.seg xs 5]) (ro0 := []) (.inl rfl) rfl (hr1 Tryd.results97 (rvt (v := (.slice _ _ _)) rfl)) [0] [1] [_] [_] [] _ rfl rfl (by kernel_rfl) rfl impl_nil (⟨o49_6, (by rw [enc8_3 (by omega) (by omega)]; exact hk49_6), by rw [enc8_3 (by omega) (by omega)], by rw [enc8_3 (by omega) (by omega)], rfl⟩)
        · replace h7 := of_decide_eq_false h7
          refine c_seq ?_
          refine c_reg ?_
          refine mv (.int _ _) rfl ?_
          refine cmp _ rfl rfl rfl ?_
          refine mv (.bool _) rfl ?_
          refine jsplit 53 rfl (fun h8 => ?_) (fun h8 => ?_)
          · replace h8 := of_decide_eq_true h8
            refine g_on rfl rfl rfl ?_
            refine mv (.int _ _) rfl ?_
            refine g_on rfl rfl rfl ?_
            refine cmp _ rfl rfl rfl ?_
            refine pkt (.bool _) rfl rfl ?_
            refine asg (.bool _) rfl ?_
            refine jt ?_
            refine c_cond rfl (fun h9 => ?_) (fun h9 => ?_)
            · replace h9 := of_decide_eq_true h9
              refine c_seq ?_
              refine c_reg ?_
              refine mv (.slice _ _ _) rfl ?_
              refine mv (.int _ _) rfl ?_
              refine shrn (a := c) (m := 262144) 18 rfl rfl rfl (by decide) ?_
              refine cvNU8 (n := (c / 262144)) rfl Tryd.underlying21 Tryd.underlying5 ?_
              refine orU8 (a := (240 : UInt8)) (b := (UInt8.ofNat (c / 262144))) rfl rfl ?_
              refine mv (.int _ _) rfl ?_
              refine shrn (a := c) (m := 4096) 12 rfl rfl rfl (by decide) ?_
              refine cvNU8 (n := (c / 4096)) rfl Tryd.underlying21 Tryd.underlying5 ?_
              refine andU8 (a := (UInt8.ofNat (c / 4096))) (b := (63 : UInt8)) rfl rfl ?_
              refine orU8 (a := (128 : UInt8)) (b := ((UInt8.ofNat (c / 4096)) &&& (63 : UInt8))) rfl rfl ?_
              refine mv (.int _ _) rfl ?_
              refine shrn (a := c) (m := 64) 6 rfl rfl rfl (by decide) ?_
              refine cvNU8 (n := (c / 64)) rfl Tryd.underlying21 Tryd.underlying5 ?_
              refine andU8 (a := (UInt8.ofNat (c / 64))) (b := (63 : UInt8)) rfl rfl ?_
              refine orU8 (a := (128 : UInt8)) (b := ((UInt8.ofNat (c / 64)) &&& (63 : UInt8))) rfl rfl ?_
              refine mv (.int _ _) rfl ?_
              refine cvNU8 (n := c) rfl Tryd.underlying21 Tryd.underlying5 ?_
              refine andU8 (a := (UInt8.ofNat c)) (b := (63 : UInt8)) rfl rfl ?_
              refine orU8 (a := (128 : UInt8)) (b := ((UInt8.ofNat c) &&& (63 : UInt8))) rfl rfl ?_
              refine bsl (α := UInt8) ([((240 : UInt8) ||| (UInt8.ofNat (c / 262144))), ((128 : UInt8) ||| ((UInt8.ofNat (c / 4096)) &&& (63 : UInt8))), ((128 : UInt8) ||| ((UInt8.ofNat (c / 64)) &&& (63 : UInt8))), ((128 : UInt8) ||| ((UInt8.ofNat c) &&& (63 : UInt8)))]) Tryd.underlying50 ty5.sz rfl (by decide) z5 rfl fun b76 => ⟨trivial, ?_⟩
              refine app 0 o xs ([((240 : UInt8) ||| (UInt8.ofNat (c / 262144))), ((128 : UInt8) ||| ((UInt8.ofNat (c / 4096)) &&& (63 : UInt8))), ((128 : UInt8) ||| ((UInt8.ofNat (c / 64)) &&& (63 : UInt8))), ((128 : UInt8) ||| ((UInt8.ofNat c) &&& (63 : UInt8)))] : List UInt8) ho rfl ⟨rfl, rfl, rfl⟩ rfl rfl (gives_own (ys := ([((240 : UInt8) ||| (UInt8.ofNat (c / 262144))), ((128 : UInt8) ||| ((UInt8.ofNat (c / 4096)) &&& (63 : UInt8))), ((128 : UInt8) ||| ((UInt8.ofNat (c / 64)) &&& (63 : UInt8))), ((128 : UInt8) ||| ((UInt8.ofNat c) &&& (63 : UInt8)))] : List UInt8)) (pre := []) (post := []) 1 rfl (by simp) rfl) Tryd.underlying50 Tryd.underlying50 (.inl ⟨_, rfl⟩) ty5.sz by5 z5 rfl (by simp; omega) rfl fun o77_7 hk77_7 => ⟨trivial, ?_⟩
              refine asg (.slice _ _ _) rfl ?_
              refine jt ?_
              refine c_ret ?_
              exact j_end (own0 := [o.seg xs 5]) (ro0 := []) (.inl rfl) rfl (hr1 Tryd.results97 (rvt (v := (.slice _ _ _)) rfl)) [0] [1] [_] [_] [] _ rfl rfl (by kernel_rfl) rfl impl_nil (⟨o77_7, (by rw [enc8_4 (by omega) (by omega)]; exact hk77_7), by rw [enc8_4 (by omega) (by omega)], by rw [enc8_4 (by omega) (by omega)], rfl⟩)
            · replace h9 := of_decide_eq_false h9
              refine c_seq ?_
              refine c_reg ?_
              refine mv (.slice _ _ _) rfl ?_
              refine bsl (α := UInt8) ([(239 : UInt8), (191 : UInt8), (189 : UInt8)]) Tryd.underlying50 ty5.sz rfl (by decide) z5 rfl fun b9 => ⟨trivial, ?_⟩
              refine app 0 o xs ([(239 : UInt8), (191 : UInt8), (189 : UInt8)] : List UInt8) ho rfl ⟨rfl, rfl, rfl⟩ rfl rfl (gives_own (ys := ([(239 : UInt8), (191 : UInt8), (189 : UInt8)] : List UInt8)) (pre := []) (post := []) 1 rfl (by simp) rfl) Tryd.underlying50 Tryd.underlying50 (.inl ⟨_, rfl⟩) ty5.sz by5 z5 rfl (by simp; omega) rfl fun o10_8 hk10_8 => ⟨trivial, ?_⟩
              refine asg (.slice _ _ _) rfl ?_
              refine jt ?_
              refine c_ret ?_
              exact j_end (own0 := [o.seg xs 5]) (ro0 := []) (.inl rfl) rfl (hr1 Tryd.results97 (rvt (v := (.slice _ _ _)) rfl)) [0] [1] [_] [_] [] _ rfl rfl (by kernel_rfl) rfl impl_nil (False.elim (by omega))
          · replace h8 := of_decide_eq_false h8
            refine g_off rfl rfl rfl rfl ?_
            refine g_off rfl rfl rfl rfl ?_
            refine pkf (.bool _) rfl rfl ?_
            refine asg (.bool _) rfl ?_
            refine jt ?_
            refine c_false rfl ?_
            refine c_seq ?_
            refine c_reg ?_
            refine mv (.slice _ _ _) rfl ?_
            refine bsl (α := UInt8) ([(239 : UInt8), (191 : UInt8), (189 : UInt8)]) Tryd.underlying50 ty5.sz rfl (by decide) z5 rfl fun b9 => ⟨trivial, ?_⟩
            refine app 0 o xs ([(239 : UInt8), (191 : UInt8), (189 : UInt8)] : List UInt8) ho rfl ⟨rfl, rfl, rfl⟩ rfl rfl (gives_own (ys := ([(239 : UInt8), (191 : UInt8), (189 : UInt8)] : List UInt8)) (pre := []) (post := []) 1 rfl (by simp) rfl) Tryd.underlying50 Tryd.underlying50 (.inl ⟨_, rfl⟩) ty5.sz by5 z5 rfl (by simp; omega) rfl fun o10_9 hk10_9 => ⟨trivial, ?_⟩
            refine asg (.slice _ _ _) rfl ?_
            refine jt ?_
            refine c_ret ?_
            exact j_end (own0 := [o.seg xs 5]) (ro0 := []) (.inl rfl) rfl (hr1 Tryd.results97 (rvt (v := (.slice _ _ _)) rfl)) [0] [1] [_] [_] [] _ rfl rfl (by kernel_rfl) rfl impl_nil (False.elim (by omega))
      · replace h6 := of_decide_eq_false h6
        refine g_off rfl rfl rfl rfl ?_
        refine g_off rfl rfl rfl rfl ?_
        refine pkf (.bool _) rfl rfl ?_
        refine asg (.bool _) rfl ?_
        refine jt ?_
        refine c_false rfl ?_
        refine c_seq ?_
        refine c_reg ?_
        refine mv (.int _ _) rfl ?_
        refine cmp _ rfl rfl rfl ?_
        refine mv (.bool _) rfl ?_
        refine jsplit 53 rfl (fun h10 => ?_) (fun h10 => ?_)
        · replace h10 := of_decide_eq_true h10
          refine g_on rfl rfl rfl ?_
          refine mv (.int _ _) rfl ?_
          refine g_on rfl rfl rfl ?_
          refine cmp _ rfl rfl rfl ?_
          refine pkt (.bool _) rfl rfl ?_
          refine asg (.bool _) rfl ?_
          refine jt ?_
          refine c_cond rfl (fun h11 => ?_) (fun h11 => ?_)
          · replace h11 := of_decide_eq_true h11
            refine c_seq ?_
            refine c_reg ?_
            refine mv (.slice _ _ _) rfl ?_
            refine mv (.int _ _) rfl ?_
            refine shrn (a := c) (m := 262144) 18 rfl rfl rfl (by decide) ?_
            refine cvNU8 (n := (c / 262144)) rfl Tryd.underlying21 Tryd.underlying5 ?_
            refine orU8 (a := (240 : UInt8)) (b := (UInt8.ofNat (c / 262144))) rfl rfl ?_
            refine mv (.int _ _) rfl ?_
            refine shrn (a := c) (m := 4096) 12 rfl rfl rfl (by decide) ?_
            refine cvNU8 (n := (c / 4096)) rfl Tryd.underlying21 Tryd.underlying5 ?_
            refine andU8 (a := (UInt8.ofNat (c / 4096))) (b := (63 : UInt8)) rfl rfl ?_
            refine orU8 (a := (128 : UInt8)) (b := ((UInt8.ofNat (c / 4096)) &&& (63 : UInt8))) rfl rfl ?_
            refine mv (.int _ _) rfl ?_
            refine shrn (a := c) (m := 64) 6 rfl rfl rfl (by decide) ?_
            refine cvNU8 (n := (c / 64)) rfl Tryd.underlying21 Tryd.underlying5 ?_
            refine andU8 (a := (UInt8.ofNat (c / 64))) (b := (63 : UInt8)) rfl rfl ?_
            refine orU8 (a := (128 : UInt8)) (b := ((UInt8.ofNat (c / 64)) &&& (63 : UInt8))) rfl rfl ?_
            refine mv (.int _ _) rfl ?_
            refine cvNU8 (n := c) rfl Tryd.underlying21 Tryd.underlying5 ?_
            refine andU8 (a := (UInt8.ofNat c)) (b := (63 : UInt8)) rfl rfl ?_
            refine orU8 (a := (128 : UInt8)) (b := ((UInt8.ofNat c) &&& (63 : UInt8))) rfl rfl ?_
            refine bsl (α := UInt8) ([((240 : UInt8) ||| (UInt8.ofNat (c / 262144))), ((128 : UInt8) ||| ((UInt8.ofNat (c / 4096)) &&& (63 : UInt8))), ((128 : UInt8) ||| ((UInt8.ofNat (c / 64)) &&& (63 : UInt8))), ((128 : UInt8) ||| ((UInt8.ofNat c) &&& (63 : UInt8)))]) Tryd.underlying50 ty5.sz rfl (by decide) z5 rfl fun b76 => ⟨trivial, ?_⟩
            refine app 0 o xs ([((240 : UInt8) ||| (UInt8.ofNat (c / 262144))), ((128 : UInt8) ||| ((UInt8.ofNat (c / 4096)) &&& (63 : UInt8))), ((128 : UInt8) ||| ((UInt8.ofNat (c / 64)) &&& (63 : UInt8))), ((128 : UInt8) ||| ((UInt8.ofNat c) &&& (63 : UInt8)))] : List UInt8) ho rfl ⟨rfl, rfl, rfl⟩ rfl rfl (gives_own (ys := ([((240 : UInt8) ||| (UInt8.ofNat (c / 262144))), ((128 : UInt8) ||| ((UInt8.ofNat (c / 4096)) &&& (63 : UInt8))), ((128 : UInt8) ||| ((UInt8.ofNat (c / 64)) &&& (63 : UInt8))), ((128 : UInt8) ||| ((UInt8.ofNat c) &&& (63 : UInt8)))] : List UInt8)) (pre := []) (post := []) 1 rfl (by simp) rfl) Tryd.underlying50 Tryd.underlying50 (.inl ⟨_, rfl⟩) ty5.sz by5 z5 rfl (by simp; omega) rfl fun o77_10 hk77_10 => ⟨trivial, ?_⟩
            refine asg (.slice _ _ _) rfl ?_
            refine jt ?_
            refine c_ret ?_
            exact j_end (own0 := [o.seg xs 5]) (ro0 := []) (.inl rfl) rfl (hr1 Tryd.results97 (rvt (v := (.slice _ _ _)) rfl)) [0] [1] [_] [_] [] _ rfl rfl (by kernel_rfl) rfl impl_nil (⟨o77_10, (by rw [enc8_4 (by omega) (by omega)]; exact hk77_10), by rw [enc8_4 (by omega) (by omega)], by rw [enc8_4 (by omega) (by omega)], rfl⟩)
          · replace h11 := of_decide_eq_false h11
            refine c_seq ?_
            refine c_reg ?_
            refine mv (.slice _ _ _) rfl ?_
            refine bsl (α := UInt8) ([(239 : UInt8), (191 : UInt8), (189 : UInt8)]) Tryd.underlying50 ty5.sz rfl (by decide) z5 rfl fun b9 => ⟨trivial, ?_⟩
            refine app 0 o xs ([(239 : UInt8), (191 : UInt8), (189 : UInt8)] : List UInt8) ho rfl ⟨rfl, rfl, rfl⟩ rfl rfl (gives_own (ys := ([(239 : UInt8), (191 : UInt8), (189 : UInt8)] : List UInt8)) (pre := []) (post := []) 1 rfl (by simp) rfl) Tryd.underlying50 Tryd.underlying50 (.inl ⟨_, rfl⟩) ty5.sz by5 z5 rfl (by simp; omega) rfl fun o10_11 hk10_11 => ⟨trivial, ?_⟩
            refine asg (.slice _ _ _) rfl ?_
            refine jt ?_
            refine c_ret ?_
            exact j_end (own0 := [o.seg xs 5]) (ro0 := []) (.inl rfl) rfl (hr1 Tryd.results97 (rvt (v := (.slice _ _ _)) rfl)) [0] [1] [_] [_] [] _ rfl rfl (by kernel_rfl) rfl impl_nil (False.elim (by omega))
        · replace h10 := of_decide_eq_false h10
          refine g_off rfl rfl rfl rfl ?_
          refine g_off rfl rfl rfl rfl ?_
          refine pkf (.bool _) rfl rfl ?_
          refine asg (.bool _) rfl ?_
          refine jt ?_
          refine c_false rfl ?_
          refine c_seq ?_
          refine c_reg ?_
          refine mv (.slice _ _ _) rfl ?_
          refine bsl (α := UInt8) ([(239 : UInt8), (191 : UInt8), (189 : UInt8)]) Tryd.underlying50 ty5.sz rfl (by decide) z5 rfl fun b9 => ⟨trivial, ?_⟩
          refine app 0 o xs ([(239 : UInt8), (191 : UInt8), (189 : UInt8)] : List UInt8) ho rfl ⟨rfl, rfl, rfl⟩ rfl rfl (gives_own (ys := ([(239 : UInt8), (191 : UInt8), (189 : UInt8)] : List UInt8)) (pre := []) (post := []) 1 rfl (by simp) rfl) Tryd.underlying50 Tryd.underlying50 (.inl ⟨_, rfl⟩) ty5.sz by5 z5 rfl (by simp; omega) rfl fun o10_12 hk10_12 => ⟨trivial, ?_⟩
          refine asg (.slice _ _ _) rfl ?_
          refine jt ?_
          refine c_ret ?_
          exact j_end (own0 := [o.seg xs 5]) (ro0 := []) (.inl rfl) rfl (hr1 Tryd.results97 (rvt (v := (.slice _ _ _)) rfl)) [0] [1] [_] [_] [] _ rfl rfl (by kernel_rfl) rfl impl_nil (False.elim (by omega))
end Go.Proofs.YthpbiamicidakaaDoor
namespace Go.Proofs.YthpbiamicidakaaDoor
open Go Go.Proofs Go.PW
open Go.PW.Enc (enc val)
theorem bWriteByte2_ct (b : Nat) (a : Option Addr) (ha : a = none ∨ a = (some ⟨b, 0, none⟩)) (o : Ow) (xs : Str) (ho : o.ok xs) (hb : xs.length ≤ 140737488355320) (c : UInt8) : Ct Tryd.prog 51 [.pointer (some ⟨b, 0, none⟩), .int .u8 (c.toNat : Int)] [[(b, .cells (cat [p1 (.pointer a), p1 (.slice o.adr xs.length o.cap)]) 78)], o.seg xs 5] [] (fun v w r => ∃ o' : Ow, o'.ok (xs ++ [c]) ∧ v = .nilIface ∧ w = [[(b, .cells (cat [p1 (.pointer (some ⟨b, 0, none⟩)), p1 (.slice o'.adr (xs ++ [c]).length o'.cap)]) 78)], o'.seg (xs ++ [c]) 5] ∧ r = []) := by
  refine ct_enter Tryd.func51 rfl Tryd.ntmps51 (by kernel_rfl) rfl fun w0 => ?_
  refine c_seq ?_
  refine c_reg ?_
  refine asg .nilIface rfl ?_
  refine jt ?_
  refine c_seq ?_
  refine c_reg ?_
  refine mv (.pointer _) rfl ?_
  refine cal (copyCheck_ct b _ ha _ _ _) [0] [1] [_] rfl rfl rfl (by kernel_rfl) impl_nil rfl ?_; rintro _ _ _ ⟨rfl, rfl, rfl⟩; refine ⟨trivial, ?_⟩
  refine jt ?_
  refine c_seq ?_
  refine c_reg ?_
  refine mv (.pointer _) rfl ?_
  refine mv (.pointer _) rfl ?_
  refine nlc rfl ?_
  refine fad rfl Tryd.underlying78 rfl ty50.sz ?_
  refine ldp 1 1 _ rfl rfl rfl rfl ty50 ?_
  refine mv (.int _ _) rfl ?_
  refine bsl (α := UInt8) ([c]) Tryd.underlying50 ty5.sz rfl (by decide) z5 rfl fun b13 => ⟨trivial, ?_⟩
  refine app 0 o xs ([c] : List UInt8) ho rfl ⟨rfl, rfl, rfl⟩ rfl rfl (gives_own (ys := ([c] : List UInt8)) (pre := []) (post := []) 2 rfl (by simp) rfl) Tryd.underlying50 Tryd.underlying50 (.inl ⟨_, rfl⟩) ty5.sz by5 z5 rfl (by simp; omega) rfl fun o14_1 hk14_1 => ⟨trivial, ?_⟩
  refine nlc rfl ?_
  refine fad rfl Tryd.underlying78 rfl ty50.sz ?_
  refine stp 1 1 _ (p1 (.slice o14_1.adr (xs ++ ([c] : List UInt8)).length o14_1.cap)) rfl rfl rfl rfl rfl rfl ty50 ⟨trivial, ?_⟩
  refine jt ?_
  refine c_seq ?_
  refine c_reg ?_
  refine asg .nilIface rfl ?_
  refine jt ?_
  refine c_ret ?_
  exact j_end (own0 := [[(b, .cells (cat [p1 (.pointer a), p1 (.slice o.adr xs.length o.cap)]) 78)], o.seg xs 5]) (ro0 := []) (.inl rfl) rfl (hr1 Tryd.results51 (rvt (v := .nilIface) rfl)) [1, 0] [2] [_, _] [_] [] _ rfl rfl (by kernel_rfl) rfl impl_nil (⟨o14_1, hk14_1, rfl, rfl, rfl⟩)
theorem AppendRune2_ct (o : Ow) (xs : Str) (ho : o.ok xs) (hb : xs.length ≤ 140737488355320) (c : Nat) (hv : vrune c = true) : Ct Tryd.prog 78 [.slice o.adr xs.length o.cap, .int .i32 (c : Int)] [o.seg xs 5] [] (fun v w r => ∃ o' : Ow, o'.ok (xs ++ enc8 c) ∧ v = .slice o'.adr (xs ++ enc8 c).length o'.cap ∧ w = [o'.seg (xs ++ enc8 c) 5] ∧ r = []) := by
  have HV := vrune_iff.1 hv
  have HU : (UInt32.ofNat c).toNat = c := by rw [UInt32.toNat_ofNat']; omega
  refine ct_enter Tryd.func78 rfl Tryd.ntmps78 (by kernel_rfl) rfl fun w0 => ?_
  refine c_seq ?_
  refine c_reg ?_
  refine asg (.slice _ _ _) rfl ?_
  refine jt ?_
  refine c_seq ?_
  refine c_seq ?_
  refine c_reg ?_
  refine mv (.int _ _) rfl ?_
  refine cvNU32 (n := c) rfl Tryd.underlying21 Tryd.underlying47 ?_
  refine cmp _ rfl rfl rfl ?_
  refine jt ?_
  refine c_cond rfl (fun h1 => ?_) (fun h1 => ?_)
  · replace h1 := of_decide_eq_true h1
    refine c_seq ?_
    refine c_reg ?_
    refine mv (.slice _ _ _) rfl ?_
    refine mv (.int _ _) rfl ?_
    refine cvNU8 (n := c) rfl Tryd.underlying21 Tryd.underlying5 ?_
    refine bsl (α := UInt8) ([(UInt8.ofNat c)]) Tryd.underlying50 ty5.sz rfl (by decide) z5 rfl fun b11 => ⟨trivial, ?_⟩
    refine app 0 o xs ([(UInt8.ofNat c)] : List UInt8) ho rfl ⟨rfl, rfl, rfl⟩ rfl rfl (gives_own (ys := ([(UInt8.ofNat c)] : List UInt8)) (pre := []) (post := []) 1 rfl (by simp) rfl) Tryd.underlying50 Tryd.underlying50 (.inl ⟨_, rfl⟩) ty5.sz by5 z5 rfl (by simp; omega) rfl fun o12_1 hk12_1 => ⟨trivial, ?_⟩
    refine asg (.slice _ _ _) rfl ?_
    refine jt ?_
    refine c_ret ?_
    exact j_end (own0 := [o.seg xs 5]) (ro0 := []) (.inl rfl) rfl (hr1 Tryd.results78 (rvt (v := (.slice _ _ _)) rfl)) [0] [1] [_] [_] [] _ rfl rfl (by kernel_rfl) rfl impl_nil (⟨o12_1, (by rw [enc8_1 (c := c) (by omega)]; exact hk12_1), by rw [enc8_1 (c := c) (by omega)], by rw [enc8_1 (c := c) (by omega)], rfl⟩)
  · replace h1 := of_decide_eq_false h1
    refine c_skip ?_
    refine e_then ?_
    refine c_seq ?_
    refine c_reg ?_
    refine mv (.slice _ _ _) rfl ?_
    refine mv (.int _ _) rfl ?_
    refine cal (appNA_ct o xs ho hb c (by omega) hv) [0] [] [] rfl rfl rfl (by kernel_rfl) impl_nil rfl ?_; rintro _ _ _ ⟨na15_2, hkna15_2, rfl, rfl, rfl⟩; refine ⟨trivial, ?_⟩
    refine asg (.slice _ _ _) rfl ?_
    refine jt ?_
    refine c_ret ?_
    exact j_end (own0 := [o.seg xs 5]) (ro0 := []) (.inl rfl) rfl (hr1 Tryd.results78 (rvt (v := (.slice _ _ _)) rfl)) [0] [] [_] [] [] _ rfl rfl (by kernel_rfl) rfl impl_nil (⟨na15_2, hkna15_2, rfl, rfl, rfl⟩)
theorem bWriteRune2_ct (b : Nat) (a : Option Addr) (ha : a = none ∨ a = (some ⟨b, 0, none⟩)) (o : Ow) (xs : Str) (ho : o.ok xs) (hb : xs.length ≤ 140737488355320) (c : Nat) (hv : vrune c = true) : Ct Tryd.prog 52 [.pointer (some ⟨b, 0, none⟩), .int .i32 (c : Int)] [[(b, .cells (cat [p1 (.pointer a), p1 (.slice o.adr xs.length o.cap)]) 78)], o.seg xs 5] [] (fun v w r => ∃ o' : Ow, o'.ok (xs ++ enc8 c) ∧ v = .tuple #[.int .i64 ((enc8 c).length : Int), .nilIface] ∧ w = [[(b, .cells (cat [p1 (.pointer (some ⟨b, 0, none⟩)), p1 (.slice o'.adr (xs ++ enc8 c).length o'.cap)]) 78)], o'.seg (xs ++ enc8 c) 5] ∧ r = []) := by
  refine ct_enter Tryd.func52 rfl Tryd.ntmps52 (by kernel_rfl) rfl fun w0 => ?_
  refine c_seq ?_
  refine c_reg ?_
  refine asg (.int _ _) rfl ?_
  refine asg .nilIface rfl ?_
  refine jt ?_
  refine c_seq ?_
  refine c_reg ?_
  refine mv (.pointer _) rfl ?_
  refine cal (copyCheck_ct b _ ha _ _ _) [0] [1] [_] rfl rfl rfl (by kernel_rfl) impl_nil rfl ?_; rintro _ _ _ ⟨rfl, rfl, rfl⟩; refine ⟨trivial, ?_⟩
  refine jt ?_
  refine c_seq ?_
  refine c_reg ?_
  refine mv (.pointer _) rfl ?_
  refine nlc rfl ?_
  refine fad rfl Tryd.underlying78 rfl ty50.sz ?_
  refine ldp 1 1 _ rfl rfl rfl rfl ty50 ?_
  refine lenS rfl Tryd.underlying50 ?_
  refine asg (.int _ _) rfl ?_
  refine jt ?_
  refine c_seq ?_
  refine c_reg ?_
  refine mv (.pointer _) rfl ?_
  refine mv (.pointer _) rfl ?_
  refine nlc rfl ?_
  refine fad rfl Tryd.underlying78 rfl ty50.sz ?_
  refine ldp 1 1 _ rfl rfl rfl rfl ty50 ?_
  refine mv (.int _ _) rfl ?_
  refine cal (AppendRune2_ct o xs ho hb c hv) [0] [1] [_] rfl rfl rfl (by kernel_rfl) impl_nil rfl ?_; rintro _ _ _ ⟨ar20_1, hkar20_1, rfl, rfl, rfl⟩; refine ⟨trivial, ?_⟩
  refine nlc rfl ?_
  refine fad rfl Tryd.underlying78 rfl ty50.sz ?_
  refine stp 0 1 _ (p1 (.slice ar20_1.adr (xs ++ enc8 c).length ar20_1.cap)) rfl rfl rfl rfl rfl rfl ty50 ⟨trivial, ?_⟩
  refine jt ?_
  refine c_seq ?_
  refine c_reg ?_
  refine mv (.pointer _) rfl ?_
  refine nlc rfl ?_
  refine fad rfl Tryd.underlying78 rfl ty50.sz ?_
  refine ldp 0 1 _ rfl rfl rfl rfl ty50 ?_
  refine lenS rfl Tryd.underlying50 ?_
  refine mv (.int _ _) rfl ?_
  refine ari ((enc8 c).length : Int) rfl rfl (congrArg some (by rw [show (((xs ++ enc8 c).length : Int) - (xs.length : Int)) = ((enc8 c).length : Int) by rw [List.length_append]; omega]; exact wI64 (by have := enc8_len c; omega))) ?_
  refine asg (.int _ _) rfl ?_
  refine asg .nilIface rfl ?_
  refine jt ?_
  refine c_ret ?_
  exact j_end (own0 := [[(b, .cells (cat [p1 (.pointer a), p1 (.slice o.adr xs.length o.cap)]) 78)], o.seg xs 5]) (ro0 := []) (.inl rfl) rfl (hr2 Tryd.results52 (rvt (v := (.int _ _)) rfl) (rvt (v := .nilIface) rfl)) [0, 1] [] [_, _] [] [] _ rfl rfl (by kernel_rfl) rfl impl_nil (⟨ar20_1, hkar20_1, rfl, rfl, rfl⟩)
theorem bString2_ct (b : Nat) (a : Option Addr) (ha : a = none ∨ a = (some ⟨b, 0, none⟩)) (o : Ow) (xs : Str) (ho : o.ok xs) (hb : xs.length ≤ 140737488355320) (hp : 0 < xs.length ∨ o.nl = true) : Ct Tryd.prog 55 [.pointer (some ⟨b, 0, none⟩)] [[(b, .cells (cat [p1 (.pointer a), p1 (.slice o.adr xs.length o.cap)]) 78)], o.seg xs 5] [] (fun v o r => v = strV xs ∧ o = [] ∧ r = []) := by
  refine ct_enter Tryd.func55 rfl Tryd.ntmps55 (by kernel_rfl) rfl fun w0 => ?_
  refine c_seq ?_
  refine c_reg ?_
  refine asg (.string _) rfl ?_
  refine jt ?_
  refine c_seq ?_
  refine c_dr [_] [] [(0, 0), (1, 0), (2, 0), (3, 0), (4, 0), (5, 0), (6, 0), (7, 0), (8, 0), (9, 0), (10, 1), (11, 0)] follows (by kernel_rfl) calm_body (keepS [0] rfl) ?_
  refine mv (.pointer _) rfl ?_
  refine nlc rfl ?_
  refine fad rfl Tryd.underlying78 rfl ty50.sz ?_
  refine ldp 0 1 _ rfl rfl rfl rfl ty50 ?_
  refine usd rfl (ow_cap2 ho hp) ?_
  refine mv (.pointer _) rfl ?_
  refine nlc rfl ?_
  refine fad rfl Tryd.underlying78 rfl ty50.sz ?_
  refine ldp 0 1 _ rfl rfl rfl rfl ty50 ?_
  refine lenS rfl Tryd.underlying50 ?_
  refine ust 1 ho rfl rfl rfl rfl rfl Tryd.underlying112 (by kernel_rfl) (by omega) ⟨keepI [0] rfl, ?_⟩
  refine asg (.string _) rfl ?_
  refine jt ?_
  refine c_ret ?_
  exact j_end (own0 := [[(b, .cells (cat [p1 (.pointer a), p1 (.slice o.adr xs.length o.cap)]) 78)], o.seg xs 5]) (ro0 := []) (.inl rfl) rfl (hr1 Tryd.results55 (rvt (v := (.string _)) rfl)) [] [0, 1] [] [_, _] [] _ rfl rfl (by kernel_rfl) rfl impl_nil (⟨rfl, rfl, rfl⟩)
end Go.Proofs.YthpbiamicidakaaDoor
namespace Go.PW
open Go
theorem notF {b : Bool} (h : (!b) = false) : b = true := by simpa using h
theorem notT {b : Bool} (h : (!b) = true) : b = false := by simpa using h
theorem idx_pos {r : Str} (h : List.getD r 0 0 = 123) (h2 : idxN r 125 < r.length) : 1 ≤ idxN r 125 := by
  rcases Nat.eq_zero_or_pos (idxN r 125) with h0 | h0
  · have := (idxN_spec r 125).2 h2; rw [h0, h] at this; exact absurd this (by decide)
  · exact h0
theorem coded_np {r : Str} (h : pfx r [123] = false) : coded r = none := coded_none1 fun h2 => by
  have := pfx_one.2 ⟨show 0 < r.length by omega, h2.2⟩
  rw [this] at h; cases h
theorem coded_ni {r : Str} (h : idxB r 125 < 0) : coded r = none := coded_none1 fun h2 => by
  unfold idxB at h; rw [if_pos h2.1] at h; omega
theorem coded_why {r : Str} {n : Int} {x : Str} (hz : (∀ m : Nat, m < 2147483648 → (r.drop 1).take (idxN r 125 - 1) = fmtN 16 m → n = (m : Int)))
    (h : (0 ≤ n → x = fmtN 16 n.toNat) ∧ x ≠ (r.drop 1).take (idxN r 125 - 1) ∨ vruneZ n = false ∨ (32 ≤ n ∧ n ≤ 126)) : coded r = none := coded_none2 fun k hk hc => by
  have e := pnum_some hk
  have hv := vrune_iff.1 hc.1
  have hn := hz k (by omega) e
  subst hn
  rcases h with ⟨h1, h2⟩ | h | h
  · have := h1 (by omega)
    rw [Int.toNat_natCast] at this
    exact h2 (this.trans e.symm)
  · rw [vruneZ_nat, hc.1] at h; cases h
  · omega
theorem coded_err {r : Str} (hz : (∀ m : Nat, m < 2147483648 → (r.drop 1).take (idxN r 125 - 1) ≠ fmtN 16 m)) : coded r = none := coded_none2 fun k hk hc => by
  have e := pnum_some hk
  have hv := vrune_iff.1 hc.1
  exact hz k (by omega) e
structure UQ (t : Str) (i : Nat) (xs : Str) : Prop where
  le : i ≤ t.length
  eq : unq t = (unq (t.drop i)).map (xs ++ ·)
  len : xs.length ≤ i
theorem UQ.start (t : Str) : UQ t 0 [] := ⟨by omega, by simp, by simp⟩
theorem UQ.fin {t : Str} {i : Nat} {xs : Str} (h : UQ t i xs) (hi : ¬ i < t.length) : unq t = some xs := by
  rw [h.eq, unq_nil (by simp; have := h.le; omega)]; simp
theorem UQ.bad {t : Str} {i : Nat} {xs : Str} (h : UQ t i xs) (hi : i < t.length) (hb : (List.getD t i 0).toNat < 32 ∨ 126 < (List.getD t i 0).toNat ∨ List.getD t i 0 = 34) : unq t = none := by
  rw [h.eq, unq_bad (by simp; omega) (by rw [getD_drop, Nat.add_zero]; exact hb)]; rfl
theorem map_map_app {a b : Str} {x : Option Str} : (x.map (b ++ ·)).map (a ++ ·) = x.map ((a ++ b) ++ ·) := by
  cases x <;> simp
theorem UQ.one {t : Str} {i : Nat} {xs : Str} (h : UQ t i xs) (hi : i < t.length) (hb : ¬((List.getD t i 0).toNat < 32 ∨ 126 < (List.getD t i 0).toNat ∨ List.getD t i 0 = 34)) (h2 : List.getD t i 0 ≠ 92) : UQ t (i + 1) (xs ++ [List.getD t i 0]) := by
  refine ⟨hi, ?_, by have := h.len; simp; omega⟩
  rw [h.eq, unq_one (by simp; omega) (by rw [getD_drop, Nat.add_zero]; exact hb) (by rw [getD_drop, Nat.add_zero]; exact h2), getD_drop, Nat.add_zero, map_map_app, List.drop_drop]
theorem UQ.two {t : Str} {i : Nat} {xs : Str} (h : UQ t i xs) (hi : i + 1 < t.length) (h1 : List.getD t i 0 = 92) (h2 : List.getD t (i + 1) 0 = 34 ∨ List.getD t (i + 1) 0 = 92) : UQ t (i + 1 + 1) (xs ++ [List.getD t (i + 1) 0]) := by
  refine ⟨hi, ?_, by have := h.len; simp; omega⟩
  rw [h.eq, unq_two (by simp; omega) (by rw [getD_drop, Nat.add_zero]; exact h1) (by rw [getD_drop]; exact h2), getD_drop, map_map_app, List.drop_drop]
theorem UQ.no {t : Str} {i : Nat} {xs : Str} (h : UQ t i xs) (hi : i < t.length) (h1 : List.getD t i 0 = 92) (h2 : i + 1 < t.length → List.getD t (i + 1) 0 ≠ 34 ∧ List.getD t (i + 1) 0 ≠ 92 ∧ List.getD t (i + 1) 0 ≠ 117) : unq t = none := by
  rw [h.eq, unq_no (by simp; omega) (by rw [getD_drop, Nat.add_zero]; exact h1) (fun hh => by
    have hl : i + 1 < t.length := by have := hh.1; simp at this; omega
    have := h2 hl; rw [getD_drop] at hh; rcases hh.2 with e | e
    · exact this.1 e
    · exact this.2.1 e) (fun hh => by
    have hl : i + 1 < t.length := by have := hh.1; simp at this; omega
    rw [getD_drop] at hh; exact (h2 hl).2.2 hh.2)]; rfl
theorem UQ.code {t : Str} {i c m : Nat} {xs : Str} (h : UQ t i xs) (hi : i + 1 < t.length) (h1 : List.getD t i 0 = 92) (h2 : List.getD t (i + 1) 0 = 117) (hc : coded (t.drop (i + 1 + 1)) = some (c, m)) : UQ t (i + 1 + m + 1) (xs ++ enc8 c) ∧ vrune c = true ∧ i + 1 + m + 1 ≤ t.length ∧ (enc8 c).length ≤ m := by
  have hs := coded_some hc
  have hlen := hs.2.2.2.1
  have hf := (fmtN_length 16 c).1
  have he := enc8_len c
  rw [List.length_drop] at hlen
  have hle3 : (enc8 c).length ≤ m + 1 := by omega
  have hm : (enc8 c).length ≤ m := by
    have h3 : 3 ≤ m := by omega
    rcases Nat.lt_or_ge (enc8 c).length 4 with h4 | h4
    · omega
    · -- four bytes: at least five digits
      have hc4 : 65536 ≤ c := Nat.le_of_not_lt fun hlt => by
        unfold enc8 at h4
        by_cases a1 : c < 128
        · rw [if_pos a1] at h4; simp at h4
        · rw [if_neg a1] at h4
          by_cases a2 : c < 2048
          · rw [if_pos a2] at h4; simp at h4
          · rw [if_neg a2, if_pos hlt] at h4; simp at h4
      have hv := vrune_iff.1 hs.1
      have hp := fmtN_lt (b := 16) (n := c) (by omega) (u64_pow (by omega) (by omega))
      rcases Nat.lt_or_ge (fmtN 16 c).length 2 with h5 | h5
      · have : (fmtN 16 c).length = 1 := by omega
        rw [this] at hp; omega
      · omega
  refine ⟨⟨by omega, ?_, by have := h.len; simp; omega⟩, hs.1, by omega, hm⟩
  have hdd : (t.drop i).drop 2 = t.drop (i + 1 + 1) := by rw [List.drop_drop]
  rw [h.eq, unq_u (by simp; omega) (by rw [getD_drop, Nat.add_zero]; exact h1) (by rw [getD_drop]; exact h2), hdd, hc]
  simp only
  rw [map_map_app, List.drop_drop, show i + (2 + m) = i + 1 + m + 1 by omega]
theorem UQ.uncode {t : Str} {i : Nat} {xs : Str} (h : UQ t i xs) (hi : i + 1 < t.length) (h1 : List.getD t i 0 = 92) (h2 : List.getD t (i + 1) 0 = 117) (hc : coded (t.drop (i + 1 + 1)) = none) : unq t = none := by
  have hdd : (t.drop i).drop 2 = t.drop (i + 1 + 1) := by rw [List.drop_drop]
  rw [h.eq, unq_u (by simp; omega) (by rw [getD_drop, Nat.add_zero]; exact h1) (by rw [getD_drop]; exact h2), hdd, hc]; rfl
end Go.PW
namespace Go.Proofs.YthpbiamicidakaaDoor
open Go Go.Proofs Go.PW
open Go.PW.Enc (enc val)
set_option maxRecDepth 20000 in
set_option maxHeartbeats 4000000 in
theorem coded_ct (r : Str) (hr : r.length ≤ 140737488351232) (eu : TypeId) (ev : Value) (ru : TypeId) (rv : Value) : Ct Tryd.prog 85 [strV r] [] [tDb64 8, tIf 5 eu ev, tIf 6 ru rv] (fun v o w => ∃ (c n : Int) (b : Bool), (b = true → ∃ k m : Nat, c = (k : Int) ∧ n = (m : Int) ∧ coded r = some (k, m)) ∧ (b = false → coded r = none) ∧ v = .tuple #[.int .i32 c, .int .i64 n, .bool b] ∧ o = [] ∧ w = []) := by
  refine ct_enter Tryd.func85 rfl Tryd.ntmps85 (by kernel_rfl) rfl fun w0 => ?_
  refine c_seq ?_
  refine c_reg ?_
  refine asg (.int _ _) rfl ?_
  refine asg (.int _ _) rfl ?_
  refine asg (.bool _) rfl ?_
  refine jt ?_
  refine c_seq ?_
  refine c_reg ?_
  refine mv (.string _) rfl ?_
  refine cal (sIndexByte_ct r (125 : UInt8)) [] [] [] rfl rfl rfl (by kernel_rfl) impl_nil rfl ?_; rintro _ _ _ ⟨rfl, rfl, rfl⟩; refine ⟨trivial, ?_⟩
  refine asg (.int _ _) rfl ?_
  refine jt ?_
  refine c_seq ?_
  refine c_seq ?_
  refine c_reg ?_
  refine mv (.string _) rfl ?_
  refine cal (sHasPrefix_ct r ([123] : Str) (by omega) (by decide)) [] [] [] rfl rfl rfl (by kernel_rfl) impl_nil rfl ?_; rintro _ _ _ ⟨rfl, rfl, rfl⟩; refine ⟨trivial, ?_⟩
  refine not_ rfl ?_
  refine mv (.bool _) rfl ?_
  refine jsplit 15 rfl (fun h1 => ?_) (fun h1 => ?_)
  · refine g_off rfl rfl rfl rfl ?_
    refine g_off rfl rfl rfl rfl ?_
    refine pkt (.bool _) rfl rfl ?_
    refine jt ?_
    refine c_true rfl ?_
    refine c_seq ?_
    refine c_reg ?_
    refine asg (.int _ _) rfl ?_
    refine asg (.int _ _) rfl ?_
    refine asg (.bool _) rfl ?_
    refine jt ?_
    refine c_ret ?_
    exact j_end (own0 := []) (ro0 := [tDb64 8, tIf 5 eu ev, tIf 6 ru rv]) (.inl rfl) rfl (hr3 Tryd.results85 (rvt (v := (.int _ _)) rfl) (rvt (v := (.int _ _)) rfl) (rvt (v := (.bool _)) rfl)) [] [] [] [] [] _ rfl rfl (by kernel_rfl) rfl impl_nil (⟨0, 0, false, (fun h => by cases h), fun _ => (by first | exact coded_np (notT (by assumption)) | exact coded_ni (by omega)), rfl, rfl, rfl⟩)
  · refine g_on rfl rfl rfl ?_
    refine mv (.int _ _) rfl ?_
    refine g_on rfl rfl rfl ?_
    refine cmp _ rfl rfl rfl ?_
    refine pkf (.bool _) rfl rfl ?_
    refine jt ?_
    refine c_cond rfl (fun h2 => ?_) (fun h2 => ?_)
    · replace h2 := of_decide_eq_true h2
      refine c_seq ?_
      refine c_reg ?_
      refine asg (.int _ _) rfl ?_
      refine asg (.int _ _) rfl ?_
      refine asg (.bool _) rfl ?_
      refine jt ?_
      refine c_ret ?_
      exact j_end (own0 := []) (ro0 := [tDb64 8, tIf 5 eu ev, tIf 6 ru rv]) (.inl rfl) rfl (hr3 Tryd.results85 (rvt (v := (.int _ _)) rfl) (rvt (v := (.int _ _)) rfl) (rvt (v := (.bool _)) rfl)) [] [] [] [] [] _ rfl rfl (by kernel_rfl) rfl impl_nil (⟨0, 0, false, (fun h => by cases h), fun _ => (by first | exact coded_np (notT (by assumption)) | exact coded_ni (by omega)), rfl, rfl, rfl⟩)
    · replace h2 := of_decide_eq_false h2
      refine c_skip ?_
      refine e_then ?_
      refine c_seq ?_
      have HI := idxB_at (c := 125) (s := r) (by omega)
      have HJ := idxB_lt (c := 125) (s := r) (by omega)
      have HP := pfx_one.1 (notF (by assumption))
      have HG := idx_pos HP.2 HJ
      refine c_reg ?_
      refine mv (.string _) rfl ?_
      refine mv (.int _ _) rfl ?_
      refine cutT (s := r) 1 (idxN r 125) rfl Tryd.underlying9 ⟨_, rfl⟩ ⟨_, congrArg (Value.int _) (by omega)⟩ (by omega) (by omega) (List.take ((idxN r 125) - 1) (List.drop 1 r)) rfl ?_
      refine cal (sParseInt_ct (List.take ((idxN r 125) - 1) (List.drop 1 r)) (by rw [List.length_take, List.length_drop]; omega) eu ev ru rv) [] [] [] rfl rfl rfl (by kernel_rfl) (impl_cons (impl_at 1 rfl) (impl_cons (impl_at 2 rfl) impl_nil)) rfl ?_; rintro _ _ _ (⟨zn1, hzr1, hz1, rfl, rfl, rfl⟩ | ⟨hz1, zn1, zu1, zx1, rfl, rfl, rfl⟩)
      · refine ⟨trivial, ?_⟩
        refine mv (.tuple _) rfl ?_
        refine xtr (.int _ _) rfl rfl ?_
        refine xtr .nilIface rfl rfl ?_
        refine asg (.int _ _) rfl ?_
        refine asg .nilIface rfl ?_
        refine jt ?_
        refine c_seq ?_
        refine c_reg ?_
        refine mv (.int _ _) rfl ?_
        refine cvI zn1 rfl Tryd.underlying2 Tryd.underlying21 (i32w ⟨by omega, by omega⟩) ?_
        refine asg (.int _ _) rfl ?_
        refine jt ?_
        refine c_seq ?_
        refine c_dr [_, _, _] [] [(0, 0), (1, 0), (2, 0), (3, 0), (5, 0), (6, 0), (7, 0), (4, 1), (8, 0), (9, 0), (10, 0), (11, 0), (12, 1), (13, 0), (14, 0), (15, 0), (16, 0), (17, 0), (18, 0), (19, 0), (20, 0), (21, 0), (22, 0)] follows (by kernel_rfl) calm_body (keepS [0, 1, 2] rfl) ?_
        refine mv .nilIface rfl ?_
        refine eqnn true rfl Tryd.underlying80 rfl ?_
        refine mv (.bool _) rfl ?_
        refine g_on rfl rfl rfl ?_
        refine mv (.int _ _) rfl ?_
        refine g_on rfl rfl rfl ?_
        refine mv (.string _) rfl ?_
        refine g_on rfl rfl rfl ?_
        refine mv (.int _ _) rfl ?_
        refine g_on rfl rfl rfl ?_
        refine cutT (s := r) 1 (idxN r 125) rfl Tryd.underlying9 ⟨_, rfl⟩ ⟨_, congrArg (Value.int _) (by omega)⟩ (by omega) (by omega) (List.take ((idxN r 125) - 1) (List.drop 1 r)) rfl ?_
        refine g_on rfl rfl rfl ?_
        refine cal (sFormatIntZ_ct zn1 (by omega) (by omega)) [] [] [] rfl rfl rfl (by kernel_rfl) (impl_cons (impl_at 0 rfl) impl_nil) rfl ?_; rintro _ _ _ ⟨fz2, hfz2, rfl, rfl, rfl⟩; refine ⟨keepI [0, 1, 2] rfl, ?_⟩
        refine g_on rfl rfl rfl ?_
        refine scmp (a := fz2) (b := (List.take ((idxN r 125) - 1) (List.drop 1 r))) _ rfl rfl Tryd.underlying9 rfl ?_
        refine pkt (.bool _) rfl rfl ?_
        refine mv (.bool _) rfl ?_
        refine jsplit 38 rfl (fun h3 => ?_) (fun h3 => ?_)
        · replace h3 := of_decide_eq_true h3
          refine g_on rfl rfl rfl ?_
          refine mv (.int _ _) rfl ?_
          refine g_on rfl rfl rfl ?_
          refine cal (ValidRune_ct zn1) [] [] [] rfl rfl rfl (by kernel_rfl) impl_nil rfl ?_; rintro _ _ _ ⟨rfl, rfl, rfl⟩; refine ⟨keepI [0, 1, 2] rfl, ?_⟩
          refine pkt (.bool _) rfl rfl ?_
          refine mv (.bool _) rfl ?_
          refine jsplit 42 rfl (fun h4 => ?_) (fun h4 => ?_)
          · refine g_on rfl rfl rfl ?_
            refine mv (.int _ _) rfl ?_
            refine g_on rfl rfl rfl ?_
            refine cmp _ rfl rfl rfl ?_
            refine g_on rfl rfl rfl ?_
            refine mv (.bool _) rfl ?_
            refine jsplit 45 rfl (fun h5 => ?_) (fun h5 => ?_)
            · replace h5 := of_decide_eq_true h5
              refine g_off rfl rfl rfl rfl ?_
              refine g_off rfl rfl rfl rfl ?_
              refine g_on rfl rfl rfl ?_
              refine pkt (.bool _) rfl rfl ?_
              refine pkt (.bool _) rfl rfl ?_
              refine asg (.bool _) rfl ?_
              refine jt ?_
              refine c_seq ?_
              refine c_reg ?_
              refine mv (.int _ _) rfl ?_
              refine mv (.int _ _) rfl ?_
              refine addi rfl rfl rfl (by omega) ?_
              refine mv (.bool _) rfl ?_
              refine asg (.int _ _) rfl ?_
              refine asg (.int _ _) rfl ?_
              refine asg (.bool _) rfl ?_
              refine jt ?_
              refine c_ret ?_
              exact j_end (own0 := []) (ro0 := [tDb64 8, tIf 5 eu ev, tIf 6 ru rv]) (.inl rfl) rfl (hr3 Tryd.results85 (rvt (v := (.int _ _)) rfl) (rvt (v := (.int _ _)) rfl) (rvt (v := (.bool _)) rfl)) [] [] [] [] [] _ rfl rfl (by kernel_rfl) rfl impl_nil (⟨zn1, ((idxB r (125 : UInt8)) + 1), true, (fun h => by obtain ⟨c, m, e1, e2, e3⟩ := coded_yes (k := idxN r 125 + 1) HJ HP.2 hfz2 (by assumption) (by assumption) (by omega) rfl; exact ⟨c, m, e1, by rw [HI]; exact e2, e3⟩), (fun h => by cases h), rfl, rfl, rfl⟩)
            · replace h5 := of_decide_eq_false h5
              refine g_on rfl rfl rfl ?_
              refine mv (.int _ _) rfl ?_
              refine g_on rfl rfl rfl ?_
              refine cmp _ rfl rfl rfl ?_
              refine g_on rfl rfl rfl ?_
              refine pkf (.bool _) rfl rfl ?_
              refine pkt (.bool _) rfl rfl ?_
              refine asg (.bool _) rfl ?_
              refine jt ?_
              refine c_seq ?_
              refine c_reg ?_
              refine mv (.int _ _) rfl ?_
              refine mv (.int _ _) rfl ?_
              refine addi rfl rfl rfl (by omega) ?_
              refine mv (.bool _) rfl ?_
              refine asg (.int _ _) rfl ?_
              refine asg (.int _ _) rfl ?_
              refine asg (.bool _) rfl ?_
              refine jt ?_
              refine c_ret ?_
              exact j_end (own0 := []) (ro0 := [tDb64 8, tIf 5 eu ev, tIf 6 ru rv]) (.inl rfl) rfl (hr3 Tryd.results85 (rvt (v := (.int _ _)) rfl) (rvt (v := (.int _ _)) rfl) (rvt (v := (.bool _)) rfl)) [] [] [] [] [] _ rfl rfl (by kernel_rfl) rfl impl_nil (⟨zn1, ((idxB r (125 : UInt8)) + 1), (decide (126 < zn1)), (fun h => by obtain ⟨c, m, e1, e2, e3⟩ := coded_yes (k := idxN r 125 + 1) HJ HP.2 hfz2 (by assumption) (by assumption) (.inr (of_decide_eq_true h)) rfl; exact ⟨c, m, e1, by rw [HI]; exact e2, e3⟩), (fun h => (by first | exact coded_err hz1 | exact coded_why hz1 (.inl ⟨hfz2, by assumption⟩) | exact coded_why (x := []) hz1 (.inr (.inl (by assumption))) | exact coded_why (x := []) hz1 (.inr (.inr ⟨by omega, by first | omega | (have := of_decide_eq_false h; omega)⟩)))), rfl, rfl, rfl⟩)
          · refine g_off rfl rfl rfl rfl ?_
            refine g_off rfl rfl rfl rfl ?_
            refine g_off rfl rfl rfl rfl ?_
            refine g_und rfl rfl rfl ?_
            refine g_und rfl rfl rfl ?_
            refine g_off rfl rfl rfl rfl ?_
            refine pkf (.bool _) rfl rfl ?_
            refine asg (.bool _) rfl ?_
            refine jt ?_
            refine c_seq ?_
            refine c_reg ?_
            refine mv (.int _ _) rfl ?_
            refine mv (.int _ _) rfl ?_
            refine addi rfl rfl rfl (by omega) ?_
            refine mv (.bool _) rfl ?_
            refine asg (.int _ _) rfl ?_
            refine asg (.int _ _) rfl ?_
            refine asg (.bool _) rfl ?_
            refine jt ?_
            refine c_ret ?_
            exact j_end (own0 := []) (ro0 := [tDb64 8, tIf 5 eu ev, tIf 6 ru rv]) (.inl rfl) rfl (hr3 Tryd.results85 (rvt (v := (.int _ _)) rfl) (rvt (v := (.int _ _)) rfl) (rvt (v := (.bool _)) rfl)) [] [] [] [] [] _ rfl rfl (by kernel_rfl) rfl impl_nil (⟨zn1, ((idxB r (125 : UInt8)) + 1), false, (fun h => by cases h), (fun h => (by first | exact coded_err hz1 | exact coded_why hz1 (.inl ⟨hfz2, by assumption⟩) | exact coded_why (x := []) hz1 (.inr (.inl (by assumption))) | exact coded_why (x := []) hz1 (.inr (.inr ⟨by omega, by first | omega | (have := of_decide_eq_false h; omega)⟩)))), rfl, rfl, rfl⟩)
        · replace h3 := of_decide_eq_false h3
          refine g_off rfl rfl rfl rfl ?_
          refine g_off rfl rfl rfl rfl ?_
          refine pkf (.bool _) rfl rfl ?_
          refine mv (.bool _) rfl ?_
          refine g_off rfl rfl rfl rfl ?_
          refine g_off rfl rfl rfl rfl ?_
          refine g_off rfl rfl rfl rfl ?_
          refine g_und rfl rfl rfl ?_
          refine g_und rfl rfl rfl ?_
          refine g_off rfl rfl rfl rfl ?_
          refine pkf (.bool _) rfl rfl ?_
          refine asg (.bool _) rfl ?_
          refine jt ?_
          refine c_seq ?_
          refine c_reg ?_
          refine mv (.int _ _) rfl ?_
          refine mv (.int _ _) rfl ?_
          refine addi rfl rfl rfl (by omega) ?_
          refine mv (.bool _) rfl ?_
          refine asg (.int _ _) rfl ?_
          refine asg (.int _ _) rfl ?_
          refine asg (.bool _) rfl ?_
          refine jt ?_
          refine c_ret ?_
          exact j_end (own0 := []) (ro0 := [tDb64 8, tIf 5 eu ev, tIf 6 ru rv]) (.inl rfl) rfl (hr3 Tryd.results85 (rvt (v := (.int _ _)) rfl) (rvt (v := (.int _ _)) rfl) (rvt (v := (.bool _)) rfl)) [] [] [] [] [] _ rfl rfl (by kernel_rfl) rfl impl_nil (⟨zn1, ((idxB r (125 : UInt8)) + 1), false, (fun h => by cases h), (fun h => (by first | exact coded_err hz1 | exact coded_why hz1 (.inl ⟨hfz2, by assumption⟩) | exact coded_why (x := []) hz1 (.inr (.inl (by assumption))) | exact coded_why (x := []) hz1 (.inr (.inr ⟨by omega, by first | omega | (have := of_decide_eq_false h; omega)⟩)))), rfl, rfl, rfl⟩)
      · refine ⟨trivial, ?_⟩
        refine mv (.tuple _) rfl ?_
        refine xtr (.int _ _) rfl rfl ?_
        refine xtr (.iface _ _) rfl rfl ?_
        refine asg (.int _ _) rfl ?_
        refine asg (.iface _ _) rfl ?_
        refine jt ?_
        refine c_seq ?_
        refine c_reg ?_
        refine mv (.int _ _) rfl ?_
        refine cvI (IntKind.i32.wrap zn1) rfl Tryd.underlying2 Tryd.underlying21 rfl ?_
        refine asg (.int _ _) rfl ?_
        refine jt ?_
        refine c_seq ?_
        refine c_dr [_, _, _] [] [(0, 0), (1, 0), (2, 0), (3, 0), (5, 0), (6, 0), (7, 0), (4, 1), (8, 0), (9, 0), (10, 0), (11, 0), (12, 1), (13, 0), (14, 0), (15, 0), (16, 0), (17, 0), (18, 0), (19, 0), (20, 0), (21, 0), (22, 0)] follows (by kernel_rfl) calm_body (keepS [0, 1, 2] rfl) ?_
        refine mv (.iface _ _) rfl ?_
        refine eqin false rfl rfl Tryd.underlying80 rfl ?_
        refine mv (.bool _) rfl ?_
        refine g_off rfl rfl rfl rfl ?_
        refine g_off rfl rfl rfl rfl ?_
        refine g_off rfl rfl rfl rfl ?_
        refine g_off rfl rfl rfl rfl ?_
        refine g_off rfl rfl rfl rfl ?_
        refine g_off rfl rfl rfl rfl ?_
        refine pkf (.bool _) rfl rfl ?_
        refine mv (.bool _) rfl ?_
        refine g_off rfl rfl rfl rfl ?_
        refine g_off rfl rfl rfl rfl ?_
        refine pkf (.bool _) rfl rfl ?_
        refine mv (.bool _) rfl ?_
        refine g_off rfl rfl rfl rfl ?_
        refine g_off rfl rfl rfl rfl ?_
        refine g_off rfl rfl rfl rfl ?_
        refine g_und rfl rfl rfl ?_
        refine g_und rfl rfl rfl ?_
        refine g_off rfl rfl rfl rfl ?_
        refine pkf (.bool _) rfl rfl ?_
        refine asg (.bool _) rfl ?_
        refine jt ?_
        refine c_seq ?_
        refine c_reg ?_
        refine mv (.int _ _) rfl ?_
        refine mv (.int _ _) rfl ?_
        refine addi rfl rfl rfl (by omega) ?_
        refine mv (.bool _) rfl ?_
        refine asg (.int _ _) rfl ?_
        refine asg (.int _ _) rfl ?_
        refine asg (.bool _) rfl ?_
        refine jt ?_
        refine c_ret ?_
        exact j_end (own0 := []) (ro0 := [tDb64 8, tIf 5 eu ev, tIf 6 ru rv]) (.inl rfl) rfl (hr3 Tryd.results85 (rvt (v := (.int _ _)) rfl) (rvt (v := (.int _ _)) rfl) (rvt (v := (.bool _)) rfl)) [] [] [] [] [] _ rfl rfl (by kernel_rfl) rfl impl_nil (⟨(IntKind.i32.wrap zn1), ((idxB r (125 : UInt8)) + 1), false, (fun h => by cases h), (fun h => (by first | exact coded_err hz1 | exact coded_why hz1 (.inl ⟨hz1, by assumption⟩) | exact coded_why (x := []) hz1 (.inr (.inl (by assumption))) | exact coded_why (x := []) hz1 (.inr (.inr ⟨by omega, by first | omega | (have := of_decide_eq_false h; omega)⟩)))), rfl, rfl, rfl⟩)
set_option maxRecDepth 20000 in
set_option maxHeartbeats 4000000 in
theorem plain_ct (t : Str) (ht : t.length ≤ 140737488351232) (eu : TypeId) (ev : Value) (ru : TypeId) (rv : Value) : Ct Tryd.prog 60 [strV t] [] [tDb64 8, tIf 5 eu ev, tIf 6 ru rv] (fun v o w => ∃ (x : Str) (b : Bool), (b = true → unq t = some x) ∧ (b = false → unq t = none) ∧ x.length ≤ t.length ∧ v = .tuple #[strV x, .bool b] ∧ o = [] ∧ w = []) := by
  refine ct_enter Tryd.func60 rfl Tryd.ntmps60 (by kernel_rfl) rfl fun w0 => ?_
  refine c_seq ?_
  refine c_reg ?_
  refine asg (.string _) rfl ?_
  refine asg (.bool _) rfl ?_
  refine jt ?_
  refine c_seq ?_
  refine c_reg ?_
  refine alo [p1 (.pointer none), p1 (.slice Ow.nil.adr ([] : List UInt8).length Ow.nil.cap)] _ z78 rfl fun b4 => ⟨trivial, ?_⟩; refine j_addE ?_
  refine jt ?_
  refine c_seq ?_
  refine c_seq ?_
  refine c_reg ?_
  refine asg (.int _ _) rfl ?_
  refine jt ?_
  refine c_block ?_
  refine c_loop (σ := Nat × Option Addr × Ow × Str) (fun (i, a, o, xs) => (a = none ∨ a = (some ⟨b4, 0, none⟩)) ∧ o.ok xs ∧ UQ t i xs ∧ (0 < xs.length ∨ o.nl = true)) (fun (i, a, o, xs) => t.length - i) (fun (i, a, o, xs) => [(5, .int .i64 (i : Int))]) (fun (i, a, o, xs) => [[(b4, .cells (cat [p1 (.pointer a), p1 (.slice o.adr xs.length o.cap)]) 78)], o.seg xs 5]) (fun (i, a, o, xs) => [tDb64 8, tIf 5 eu ev, tIf 6 ru rv]) [2, 3, 5, 6, 7, 8, 9, 10, 11, 12, 13, 14, 15, 16, 17, 18, 19, 20, 21, 22, 23, 24, 25, 26, 27, 28, 29, 30, 31, 32, 33, 34, 35, 36, 37, 38, 39, 40, 41, 42, 43, 44, 45, 46, 47, 48, 49, 50, 51, 52, 53, 54, 55, 56, 57, 58, 59, 60, 61, 62, 63, 64, 65, 66, 67, 68, 69, 70, 71, 72, 73, 74, 75, 76, 77, 78, 79, 80, 81, 82, 83, 84, 85, 86, 87, 88, 89, 90] (0, none, Ow.nil, []) (⟨.inl rfl, Ow.nil_ok, UQ.start t, .inr rfl⟩) ⟨rfl, trivial⟩ rfl rfl ?_
  rintro ⟨i, a, o, xs⟩ g1 hI1
  try dsimp only at hI1 ⊢
  have ha := hI1.1
  have HU := hI1.2.2.1
  have HUL := HU.len
  have HUE := HU.le
  have HBZ := hI1.2.2.2
  refine c_seq ?_
  refine c_seq ?_
  refine c_reg ?_
  refine mv (.int _ _) rfl ?_
  refine mv (.string _) rfl ?_
  refine lenT (s := t) rfl Tryd.underlying9 ?_
  refine cmp _ rfl rfl rfl ?_
  refine jt ?_
  refine c_cond rfl (fun h1 => ?_) (fun h1 => ?_)
  · replace h1 := of_decide_eq_true h1
    refine c_skip ?_
    refine e_then ?_
    refine c_seq ?_
    refine c_block ?_
    refine c_seq ?_
    refine c_block ?_
    refine c_seq ?_
    refine c_reg ?_
    refine mv (.string _) rfl ?_
    refine mv (.int _ _) rfl ?_
    refine idxT (s := t) i rfl rfl Tryd.underlying9 rfl (by first | omega | (simp; done) | (simp; omega) | (simp at *; omega)) ?_
    refine cmp _ rfl rfl rfl ?_
    refine mv (.bool _) rfl ?_
    refine jsplit 20 rfl (fun h2 => ?_) (fun h2 => ?_)
    · replace h2 := of_decide_eq_true h2
      refine g_off rfl rfl rfl rfl ?_
      refine g_off rfl rfl rfl rfl ?_
      refine g_off rfl rfl rfl rfl ?_
      refine g_off rfl rfl rfl rfl ?_
      refine pkt (.bool _) rfl rfl ?_
      refine mv (.bool _) rfl ?_
      refine g_off rfl rfl rfl rfl ?_
      refine g_off rfl rfl rfl rfl ?_
      refine g_off rfl rfl rfl rfl ?_
      refine g_off rfl rfl rfl rfl ?_
      refine pkt (.bool _) rfl rfl ?_
      refine asg (.bool _) rfl ?_
      refine jt ?_
      refine c_true rfl ?_
      refine c_seq ?_
      refine c_reg ?_
      refine asg (.string _) rfl ?_
      refine asg (.bool _) rfl ?_
      refine jt ?_
      refine c_ret ?_
      exact j_end (own0 := []) (ro0 := [tDb64 8, tIf 5 eu ev, tIf 6 ru rv]) (.inl rfl) rfl (hr2 Tryd.results60 (rvt (v := (.string _)) rfl) (rvt (v := (.bool _)) rfl)) [] [0, 1] [] [_, _] [] _ rfl rfl (by kernel_rfl) rfl impl_nil (⟨[], false, fun h => (by cases h), fun _ => (by first | exact UQ.bad HU (by omega) (.inl (by omega)) | exact UQ.bad HU (by omega) (.inr (.inl (by omega))) | exact UQ.bad HU (by omega) (.inr (.inr (by assumption))) | exact UQ.no HU (by omega) (by assumption) (fun hl => ⟨by first | assumption | (exfalso; omega), by first | assumption | (exfalso; omega), by first | assumption | (exfalso; omega)⟩)), by simp, rfl, rfl, rfl⟩)
    · replace h2 := of_decide_eq_false h2
      refine g_on rfl rfl rfl ?_
      refine mv (.string _) rfl ?_
      refine g_on rfl rfl rfl ?_
      refine mv (.int _ _) rfl ?_
      refine g_on rfl rfl rfl ?_
      refine idxT (s := t) i rfl rfl Tryd.underlying9 rfl (by first | omega | (simp; done) | (simp; omega) | (simp at *; omega)) ?_
      refine g_on rfl rfl rfl ?_
      refine cmp _ rfl rfl rfl ?_
      refine pkf (.bool _) rfl rfl ?_
      refine mv (.bool _) rfl ?_
      refine jsplit 26 rfl (fun h3 => ?_) (fun h3 => ?_)
      · replace h3 := of_decide_eq_true h3
        refine g_off rfl rfl rfl rfl ?_
        refine g_off rfl rfl rfl rfl ?_
        refine g_off rfl rfl rfl rfl ?_
        refine g_off rfl rfl rfl rfl ?_
        refine pkt (.bool _) rfl rfl ?_
        refine asg (.bool _) rfl ?_
        refine jt ?_
        refine c_true rfl ?_
        refine c_seq ?_
        refine c_reg ?_
        refine asg (.string _) rfl ?_
        refine asg (.bool _) rfl ?_
        refine jt ?_
        refine c_ret ?_
        exact j_end (own0 := []) (ro0 := [tDb64 8, tIf 5 eu ev, tIf 6 ru rv]) (.inl rfl) rfl (hr2 Tryd.results60 (rvt (v := (.string _)) rfl) (rvt (v := (.bool _)) rfl)) [] [0, 1] [] [_, _] [] _ rfl rfl (by kernel_rfl) rfl impl_nil (⟨[], false, fun h => (by cases h), fun _ => (by first | exact UQ.bad HU (by omega) (.inl (by omega)) | exact UQ.bad HU (by omega) (.inr (.inl (by omega))) | exact UQ.bad HU (by omega) (.inr (.inr (by assumption))) | exact UQ.no HU (by omega) (by assumption) (fun hl => ⟨by first | assumption | (exfalso; omega), by first | assumption | (exfalso; omega), by first | assumption | (exfalso; omega)⟩)), by simp, rfl, rfl, rfl⟩)
      · replace h3 := of_decide_eq_false h3
        refine g_on rfl rfl rfl ?_
        refine mv (.string _) rfl ?_
        refine g_on rfl rfl rfl ?_
        refine mv (.int _ _) rfl ?_
        refine g_on rfl rfl rfl ?_
        refine idxT (s := t) i rfl rfl Tryd.underlying9 rfl (by first | omega | (simp; done) | (simp; omega) | (simp at *; omega)) ?_
        refine g_on rfl rfl rfl ?_
        refine equ8 (a := (List.getD t i 0)) (b := (34 : UInt8)) _ rfl rfl rfl ?_
        refine pkf (.bool _) rfl rfl ?_
        refine asg (.bool _) rfl ?_
        refine jt ?_
        refine c_cond rfl (fun h4 => ?_) (fun h4 => ?_)
        · replace h4 := of_decide_eq_true h4
          refine c_seq ?_
          refine c_reg ?_
          refine asg (.string _) rfl ?_
          refine asg (.bool _) rfl ?_
          refine jt ?_
          refine c_ret ?_
          exact j_end (own0 := []) (ro0 := [tDb64 8, tIf 5 eu ev, tIf 6 ru rv]) (.inl rfl) rfl (hr2 Tryd.results60 (rvt (v := (.string _)) rfl) (rvt (v := (.bool _)) rfl)) [] [0, 1] [] [_, _] [] _ rfl rfl (by kernel_rfl) rfl impl_nil (⟨[], false, fun h => (by cases h), fun _ => (by first | exact UQ.bad HU (by omega) (.inl (by omega)) | exact UQ.bad HU (by omega) (.inr (.inl (by omega))) | exact UQ.bad HU (by omega) (.inr (.inr (by assumption))) | exact UQ.no HU (by omega) (by assumption) (fun hl => ⟨by first | assumption | (exfalso; omega), by first | assumption | (exfalso; omega), by first | assumption | (exfalso; omega)⟩)), by simp, rfl, rfl, rfl⟩)
        · replace h4 := of_decide_eq_false h4
          refine c_seq ?_
          refine c_reg ?_
          refine mv (.string _) rfl ?_
          refine mv (.int _ _) rfl ?_
          refine idxT (s := t) i rfl rfl Tryd.underlying9 rfl (by first | omega | (simp; done) | (simp; omega) | (simp at *; omega)) ?_
          refine equ8 (a := (List.getD t i 0)) (b := (92 : UInt8)) _ rfl rfl rfl ?_
          refine asg (.bool _) rfl ?_
          refine jt ?_
          refine c_cond rfl (fun h5 => ?_) (fun h5 => ?_)
          · replace h5 := ndt h5
            refine c_seq ?_
            refine c_reg ?_
            refine mv (.string _) rfl ?_
            refine mv (.int _ _) rfl ?_
            refine idxT (s := t) i rfl rfl Tryd.underlying9 rfl (by first | omega | (simp; done) | (simp; omega) | (simp at *; omega)) ?_
            refine cal (bWriteByte2_ct b4 _ ha o xs hI1.2.1 (by first | omega | (simp; done) | (simp; omega) | (simp at *; omega)) (List.getD t i 0) ) [0, 1] [] [] rfl rfl rfl (by kernel_rfl) impl_nil rfl ?_; rintro _ _ _ ⟨bo40_1, hkbo40_1, rfl, rfl, rfl⟩; refine ⟨trivial, ?_⟩
            refine jt ?_
            refine c_exit rfl ?_
            refine e_then ?_
            refine c_reg ?_
            refine mv (.int _ _) rfl ?_
            refine addi rfl rfl rfl (by omega) ?_
            refine asg (.int _ _) rfl ?_
            refine jn ?_
            exact e_loop ((i + 1), (some ⟨b4, 0, none⟩), bo40_1, (xs ++ [(List.getD t i 0)])) (⟨.inr rfl, hkbo40_1, UQ.one HU (by omega) (fun h => by rcases h with h | h | h; omega; omega; exact absurd h (by assumption)) (by assumption), .inl (by simp)⟩) (by show t.length - _ < t.length - i; omega) (⟨rfl, trivial⟩) rfl rfl rfl
          · replace h5 := ndf h5
            refine c_skip ?_
            refine e_in ?_
            refine e_then ?_
            refine c_seq ?_
            refine c_reg ?_
            refine mv (.int _ _) rfl ?_
            refine addi rfl rfl rfl (by omega) ?_
            refine asg (.int _ _) rfl ?_
            refine jt ?_
            refine c_block ?_
            refine c_seq ?_
            refine c_reg ?_
            refine mv (.int _ _) rfl ?_
            refine mv (.string _) rfl ?_
            refine lenT (s := t) rfl Tryd.underlying9 ?_
            refine cmp _ rfl rfl rfl ?_
            refine mv (.bool _) rfl ?_
            refine jsplit 48 rfl (fun h6 => ?_) (fun h6 => ?_)
            · replace h6 := of_decide_eq_true h6
              refine g_on rfl rfl rfl ?_
              refine mv (.string _) rfl ?_
              refine g_on rfl rfl rfl ?_
              refine mv (.int _ _) rfl ?_
              refine g_on rfl rfl rfl ?_
              refine idxT (s := t) (i + 1) rfl rfl Tryd.underlying9 rfl (by first | omega | (simp; done) | (simp; omega) | (simp at *; omega)) ?_
              refine g_on rfl rfl rfl ?_
              refine equ8 (a := (List.getD t (i + 1) 0)) (b := (34 : UInt8)) _ rfl rfl rfl ?_
              refine g_on rfl rfl rfl ?_
              refine mv (.bool _) rfl ?_
              refine jsplit 53 rfl (fun h7 => ?_) (fun h7 => ?_)
              · replace h7 := of_decide_eq_true h7
                refine g_off rfl rfl rfl rfl ?_
                refine g_off rfl rfl rfl rfl ?_
                refine g_off rfl rfl rfl rfl ?_
                refine g_off rfl rfl rfl rfl ?_
                refine g_on rfl rfl rfl ?_
                refine pkt (.bool _) rfl rfl ?_
                refine pkt (.bool _) rfl rfl ?_
                refine asg (.bool _) rfl ?_
                refine jt ?_
                refine c_true rfl ?_
                refine c_reg ?_
                refine mv (.string _) rfl ?_
                refine mv (.int _ _) rfl ?_
                refine idxT (s := t) (i + 1) rfl rfl Tryd.underlying9 rfl (by first | omega | (simp; done) | (simp; omega) | (simp at *; omega)) ?_
                refine cal (bWriteByte2_ct b4 _ ha o xs hI1.2.1 (by first | omega | (simp; done) | (simp; omega) | (simp at *; omega)) (List.getD t (i + 1) 0) ) [0, 1] [] [] rfl rfl rfl (by kernel_rfl) impl_nil rfl ?_; rintro _ _ _ ⟨bo63_2, hkbo63_2, rfl, rfl, rfl⟩; refine ⟨trivial, ?_⟩
                refine jn ?_
                refine e_in ?_
                refine e_in ?_
                refine e_then ?_
                refine c_reg ?_
                refine mv (.int _ _) rfl ?_
                refine addi rfl rfl rfl (by omega) ?_
                refine asg (.int _ _) rfl ?_
                refine jn ?_
                exact e_loop (((i + 1) + 1), (some ⟨b4, 0, none⟩), bo63_2, (xs ++ [(List.getD t (i + 1) 0)])) (⟨.inr rfl, hkbo63_2, UQ.two HU (by omega) (by assumption) (by first | exact .inl (by assumption) | exact .inr (by assumption)), .inl (by simp)⟩) (by show t.length - _ < t.length - i; omega) (⟨rfl, trivial⟩) rfl rfl rfl
              · replace h7 := of_decide_eq_false h7
                refine g_on rfl rfl rfl ?_
                refine mv (.string _) rfl ?_
                refine g_on rfl rfl rfl ?_
                refine mv (.int _ _) rfl ?_
                refine g_on rfl rfl rfl ?_
                refine idxT (s := t) (i + 1) rfl rfl Tryd.underlying9 rfl (by first | omega | (simp; done) | (simp; omega) | (simp at *; omega)) ?_
                refine g_on rfl rfl rfl ?_
                refine equ8 (a := (List.getD t (i + 1) 0)) (b := (92 : UInt8)) _ rfl rfl rfl ?_
                refine g_on rfl rfl rfl ?_
                refine pkf (.bool _) rfl rfl ?_
                refine pkt (.bool _) rfl rfl ?_
                refine asg (.bool _) rfl ?_
                refine jt ?_
                refine c_cond rfl (fun h8 => ?_) (fun h8 => ?_)
                · replace h8 := of_decide_eq_true h8
                  refine c_reg ?_
                  refine mv (.string _) rfl ?_
                  refine mv (.int _ _) rfl ?_
                  refine idxT (s := t) (i + 1) rfl rfl Tryd.underlying9 rfl (by first | omega | (simp; done) | (simp; omega) | (simp at *; omega)) ?_
                  refine cal (bWriteByte2_ct b4 _ ha o xs hI1.2.1 (by first | omega | (simp; done) | (simp; omega) | (simp at *; omega)) (List.getD t (i + 1) 0) ) [0, 1] [] [] rfl rfl rfl (by kernel_rfl) impl_nil rfl ?_; rintro _ _ _ ⟨bo63_3, hkbo63_3, rfl, rfl, rfl⟩; refine ⟨trivial, ?_⟩
                  refine jn ?_
                  refine e_in ?_
                  refine e_in ?_
                  refine e_then ?_
                  refine c_reg ?_
                  refine mv (.int _ _) rfl ?_
                  refine addi rfl rfl rfl (by omega) ?_
                  refine asg (.int _ _) rfl ?_
                  refine jn ?_
                  exact e_loop (((i + 1) + 1), (some ⟨b4, 0, none⟩), bo63_3, (xs ++ [(List.getD t (i + 1) 0)])) (⟨.inr rfl, hkbo63_3, UQ.two HU (by omega) (by assumption) (by first | exact .inl (by assumption) | exact .inr (by assumption)), .inl (by simp)⟩) (by show t.length - _ < t.length - i; omega) (⟨rfl, trivial⟩) rfl rfl rfl
                · replace h8 := of_decide_eq_false h8
                  refine c_seq ?_
                  refine c_reg ?_
                  refine mv (.int _ _) rfl ?_
                  refine mv (.string _) rfl ?_
                  refine lenT (s := t) rfl Tryd.underlying9 ?_
                  refine cmp _ rfl rfl rfl ?_
                  refine mv (.bool _) rfl ?_
                  refine jsplit 69 rfl (fun h9 => ?_) (fun h9 => ?_)
                  · replace h9 := of_decide_eq_true h9
                    refine g_on rfl rfl rfl ?_
                    refine mv (.string _) rfl ?_
                    refine g_on rfl rfl rfl ?_
                    refine mv (.int _ _) rfl ?_
                    refine g_on rfl rfl rfl ?_
                    refine idxT (s := t) (i + 1) rfl rfl Tryd.underlying9 rfl (by first | omega | (simp; done) | (simp; omega) | (simp at *; omega)) ?_
                    refine g_on rfl rfl rfl ?_
                    refine equ8 (a := (List.getD t (i + 1) 0)) (b := (117 : UInt8)) _ rfl rfl rfl ?_
                    refine pkt (.bool _) rfl rfl ?_
                    refine asg (.bool _) rfl ?_
                    refine jt ?_
                    refine c_cond rfl (fun h10 => ?_) (fun h10 => ?_)
                    · replace h10 := of_decide_eq_true h10
                      refine c_seq ?_
                      refine c_reg ?_
                      refine mv (.string _) rfl ?_
                      refine mv (.int _ _) rfl ?_
                      refine addi rfl rfl rfl (by omega) ?_
                      refine cutT (s := t) ((i + 1) + 1) t.length rfl Tryd.underlying9 ⟨_, rfl⟩ rfl (by first | omega | (simp; done) | (simp; omega)) (by first | omega | (simp; done) | (simp; omega)) (List.drop ((i + 1) + 1) t) (cut_hi _ _) ?_
                      refine cal (coded_ct (List.drop ((i + 1) + 1) t) (by simp; omega) eu ev ru rv) [] [0, 1] [_, _] rfl rfl rfl (by kernel_rfl) (impl_cons (impl_at 0 rfl) (impl_cons (impl_at 1 rfl) (impl_cons (impl_at 2 rfl) impl_nil))) rfl ?_; rintro _ _ _ ⟨cc4, cn4, cb4, hcy4, hcn4, rfl, rfl, rfl⟩; refine ⟨trivial, ?_⟩
                      refine mv (.tuple _) rfl ?_
                      refine xtr (.int _ _) rfl rfl ?_
                      refine xtr (.int _ _) rfl rfl ?_
                      refine xtr (.bool _) rfl rfl ?_
                      refine asg (.int _ _) rfl ?_
                      refine asg (.int _ _) rfl ?_
                      refine asg (.bool _) rfl ?_
                      refine jt ?_
                      refine c_seq ?_
                      refine c_seq ?_
                      refine c_reg ?_
                      refine mv (.bool _) rfl ?_
                      refine not_ rfl ?_
                      refine jt ?_
                      refine c_cond rfl (fun h11 => ?_) (fun h11 => ?_)
                      · refine c_seq ?_
                        refine c_reg ?_
                        refine asg (.string _) rfl ?_
                        refine asg (.bool _) rfl ?_
                        refine jt ?_
                        refine c_ret ?_
                        exact j_end (own0 := []) (ro0 := [tDb64 8, tIf 5 eu ev, tIf 6 ru rv]) (.inl rfl) rfl (hr2 Tryd.results60 (rvt (v := (.string _)) rfl) (rvt (v := (.bool _)) rfl)) [] [0, 1] [] [_, _] [] _ rfl rfl (by kernel_rfl) rfl impl_nil (⟨[], false, fun h => (by cases h), fun _ => UQ.uncode HU (by omega) (by assumption) (by assumption) (hcn4 (notT (by assumption))), by simp, rfl, rfl, rfl⟩)
                      · refine c_skip ?_
                        refine e_then ?_
                        refine c_seq ?_
                        obtain ⟨ck, cm, rfl, rfl, hcd⟩ := hcy4 (notF (by assumption))
                        have HCC := UQ.code HU (by omega) (by assumption) (by assumption) hcd
                        have HCV := HCC.2.1
                        have HCL := HCC.2.2
                        refine c_reg ?_
                        refine mv (.int _ _) rfl ?_
                        refine cal (bWriteRune2_ct b4 _ ha o xs hI1.2.1 (by first | omega | (simp; done) | (simp; omega) | (simp at *; omega)) ck (by assumption)) [0, 1] [] [] rfl rfl rfl (by kernel_rfl) impl_nil rfl ?_; rintro _ _ _ ⟨bo87_5, hkbo87_5, rfl, rfl, rfl⟩; refine ⟨trivial, ?_⟩
                        refine jt ?_
                        refine c_reg ?_
                        refine mv (.int _ _) rfl ?_
                        refine mv (.int _ _) rfl ?_
                        refine addi rfl rfl rfl (by omega) ?_
                        refine asg (.int _ _) rfl ?_
                        refine jn ?_
                        refine e_in ?_
                        refine e_in ?_
                        refine e_then ?_
                        refine c_reg ?_
                        refine mv (.int _ _) rfl ?_
                        refine addi rfl rfl rfl (by omega) ?_
                        refine asg (.int _ _) rfl ?_
                        refine jn ?_
                        exact e_loop ((((i + 1) + cm) + 1), (some ⟨b4, 0, none⟩), bo87_5, (xs ++ enc8 ck)) (⟨.inr rfl, hkbo87_5, (UQ.code HU (by omega) (by assumption) (by assumption) hcd).1, .inl (by have := enc8_len ck; simp; omega)⟩) (by show t.length - _ < t.length - i; omega) (⟨rfl, trivial⟩) rfl rfl rfl
                    · replace h10 := of_decide_eq_false h10
                      refine c_seq ?_
                      refine c_reg ?_
                      refine asg (.string _) rfl ?_
                      refine asg (.bool _) rfl ?_
                      refine jt ?_
                      refine c_ret ?_
                      exact j_end (own0 := []) (ro0 := [tDb64 8, tIf 5 eu ev, tIf 6 ru rv]) (.inl rfl) rfl (hr2 Tryd.results60 (rvt (v := (.string _)) rfl) (rvt (v := (.bool _)) rfl)) [] [0, 1] [] [_, _] [] _ rfl rfl (by kernel_rfl) rfl impl_nil (⟨[], false, fun h => (by cases h), fun _ => (by first | exact UQ.bad HU (by omega) (.inl (by omega)) | exact UQ.bad HU (by omega) (.inr (.inl (by omega))) | exact UQ.bad HU (by omega) (.inr (.inr (by assumption))) | exact UQ.no HU (by omega) (by assumption) (fun hl => ⟨by first | assumption | (exfalso; omega), by first | assumption | (exfalso; omega), by first | assumption | (exfalso; omega)⟩)), by simp, rfl, rfl, rfl⟩)
                  · replace h9 := of_decide_eq_false h9
                    refine g_off rfl rfl rfl rfl ?_
                    refine g_off rfl rfl rfl rfl ?_
                    refine g_off rfl rfl rfl rfl ?_
                    refine g_off rfl rfl rfl rfl ?_
                    refine pkf (.bool _) rfl rfl ?_
                    refine asg (.bool _) rfl ?_
                    refine jt ?_
                    refine c_false rfl ?_
                    refine c_seq ?_
                    refine c_reg ?_
                    refine asg (.string _) rfl ?_
                    refine asg (.bool _) rfl ?_
                    refine jt ?_
                    refine c_ret ?_
                    exact j_end (own0 := []) (ro0 := [tDb64 8, tIf 5 eu ev, tIf 6 ru rv]) (.inl rfl) rfl (hr2 Tryd.results60 (rvt (v := (.string _)) rfl) (rvt (v := (.bool _)) rfl)) [] [0, 1] [] [_, _] [] _ rfl rfl (by kernel_rfl) rfl impl_nil (⟨[], false, fun h => (by cases h), fun _ => (by first | exact UQ.bad HU (by omega) (.inl (by omega)) | exact UQ.bad HU (by omega) (.inr (.inl (by omega))) | exact UQ.bad HU (by omega) (.inr (.inr (by assumption))) | exact UQ.no HU (by omega) (by assumption) (fun hl => ⟨by first | assumption | (exfalso; omega), by first | assumption | (exfalso; omega), by first | assumption | (exfalso; omega)⟩)), by simp, rfl, rfl, rfl⟩)
            · replace h6 := of_decide_eq_false h6
              refine g_off rfl rfl rfl rfl ?_
              refine g_off rfl rfl rfl rfl ?_
              refine g_off rfl rfl rfl rfl ?_
              refine g_off rfl rfl rfl rfl ?_
              refine g_off rfl rfl rfl rfl ?_
              refine g_und rfl rfl rfl ?_
              refine g_und rfl rfl rfl ?_
              refine g_und rfl rfl rfl ?_
              refine g_und rfl rfl rfl ?_
              refine g_off rfl rfl rfl rfl ?_
              refine pkf (.bool _) rfl rfl ?_
              refine asg (.bool _) rfl ?_
              refine jt ?_
              refine c_false rfl ?_
              refine c_seq ?_
              refine c_reg ?_
              refine mv (.int _ _) rfl ?_
              refine mv (.string _) rfl ?_
              refine lenT (s := t) rfl Tryd.underlying9 ?_
              refine cmp _ rfl rfl rfl ?_
              refine mv (.bool _) rfl ?_
              refine jsplit 69 rfl (fun h12 => ?_) (fun h12 => ?_)
              · replace h12 := of_decide_eq_true h12
                refine g_on rfl rfl rfl ?_
                refine mv (.string _) rfl ?_
                refine g_on rfl rfl rfl ?_
                refine mv (.int _ _) rfl ?_
                refine g_on rfl rfl rfl ?_
                refine idxT (s := t) (i + 1) rfl rfl Tryd.underlying9 rfl (by first | omega | (simp; done) | (simp; omega) | (simp at *; omega)) ?_
                refine g_on rfl rfl rfl ?_
                refine equ8 (a := (List.getD t (i + 1) 0)) (b := (117 : UInt8)) _ rfl rfl rfl ?_
                refine pkt (.bool _) rfl rfl ?_
                refine asg (.bool _) rfl ?_
                refine jt ?_
                refine c_cond rfl (fun h13 => ?_) (fun h13 => ?_)
                · replace h13 := of_decide_eq_true h13
                  refine c_seq ?_
                  refine c_reg ?_
                  refine mv (.string _) rfl ?_
                  refine mv (.int _ _) rfl ?_
                  refine addi rfl rfl rfl (by omega) ?_
                  refine cutT (s := t) ((i + 1) + 1) t.length rfl Tryd.underlying9 ⟨_, rfl⟩ rfl (by first | omega | (simp; done) | (simp; omega)) (by first | omega | (simp; done) | (simp; omega)) (List.drop ((i + 1) + 1) t) (cut_hi _ _) ?_
                  refine cal (coded_ct (List.drop ((i + 1) + 1) t) (by simp; omega) eu ev ru rv) [] [0, 1] [_, _] rfl rfl rfl (by kernel_rfl) (impl_cons (impl_at 0 rfl) (impl_cons (impl_at 1 rfl) (impl_cons (impl_at 2 rfl) impl_nil))) rfl ?_; rintro _ _ _ ⟨cc6, cn6, cb6, hcy6, hcn6, rfl, rfl, rfl⟩; refine ⟨trivial, ?_⟩
                  refine mv (.tuple _) rfl ?_
                  refine xtr (.int _ _) rfl rfl ?_
                  refine xtr (.int _ _) rfl rfl ?_
                  refine xtr (.bool _) rfl rfl ?_
                  refine asg (.int _ _) rfl ?_
                  refine asg (.int _ _) rfl ?_
                  refine asg (.bool _) rfl ?_
                  refine jt ?_
                  refine c_seq ?_
                  refine c_seq ?_
                  refine c_reg ?_
                  refine mv (.bool _) rfl ?_
                  refine not_ rfl ?_
                  refine jt ?_
                  refine c_cond rfl (fun h14 => ?_) (fun h14 => ?_)
                  · refine c_seq ?_
                    refine c_reg ?_
                    refine asg (.string _) rfl ?_
                    refine asg (.bool _) rfl ?_
                    refine jt ?_
                    refine c_ret ?_
                    exact j_end (own0 := []) (ro0 := [tDb64 8, tIf 5 eu ev, tIf 6 ru rv]) (.inl rfl) rfl (hr2 Tryd.results60 (rvt (v := (.string _)) rfl) (rvt (v := (.bool _)) rfl)) [] [0, 1] [] [_, _] [] _ rfl rfl (by kernel_rfl) rfl impl_nil (⟨[], false, fun h => (by cases h), fun _ => UQ.uncode HU (by omega) (by assumption) (by assumption) (hcn6 (notT (by assumption))), by simp, rfl, rfl, rfl⟩)
                  · refine c_skip ?_
                    refine e_then ?_
                    refine c_seq ?_
                    obtain ⟨ck, cm, rfl, rfl, hcd⟩ := hcy6 (notF (by assumption))
                    have HCC := UQ.code HU (by omega) (by assumption) (by assumption) hcd
                    have HCV := HCC.2.1
                    have HCL := HCC.2.2
                    refine c_reg ?_
                    refine mv (.int _ _) rfl ?_
                    refine cal (bWriteRune2_ct b4 _ ha o xs hI1.2.1 (by first | omega | (simp; done) | (simp; omega) | (simp at *; omega)) ck (by assumption)) [0, 1] [] [] rfl rfl rfl (by kernel_rfl) impl_nil rfl ?_; rintro _ _ _ ⟨bo87_7, hkbo87_7, rfl, rfl, rfl⟩; refine ⟨trivial, ?_⟩
                    refine jt ?_
                    refine c_reg ?_
                    refine mv (.int _ _) rfl ?_
                    refine mv (.int _ _) rfl ?_
                    refine addi rfl rfl rfl (by omega) ?_
                    refine asg (.int _ _) rfl ?_
                    refine jn ?_
                    refine e_in ?_
                    refine e_in ?_
                    refine e_then ?_
                    refine c_reg ?_
                    refine mv (.int _ _) rfl ?_
                    refine addi rfl rfl rfl (by omega) ?_
                    refine asg (.int _ _) rfl ?_
                    refine jn ?_
                    exact e_loop ((((i + 1) + cm) + 1), (some ⟨b4, 0, none⟩), bo87_7, (xs ++ enc8 ck)) (⟨.inr rfl, hkbo87_7, (UQ.code HU (by omega) (by assumption) (by assumption) hcd).1, .inl (by have := enc8_len ck; simp; omega)⟩) (by show t.length - _ < t.length - i; omega) (⟨rfl, trivial⟩) rfl rfl rfl
                · replace h13 := of_decide_eq_false h13
                  refine c_seq ?_
                  refine c_reg ?_
                  refine asg (.string _) rfl ?_
                  refine asg (.bool _) rfl ?_
                  refine jt ?_
                  refine c_ret ?_
                  exact j_end (own0 := []) (ro0 := [tDb64 8, tIf 5 eu ev, tIf 6 ru rv]) (.inl rfl) rfl (hr2 Tryd.results60 (rvt (v := (.string _)) rfl) (rvt (v := (.bool _)) rfl)) [] [0, 1] [] [_, _] [] _ rfl rfl (by kernel_rfl) rfl impl_nil (⟨[], false, fun h => (by cases h), fun _ => (by first | exact UQ.bad HU (by omega) (.inl (by omega)) | exact UQ.bad HU (by omega) (.inr (.inl (by omega))) | exact UQ.bad HU (by omega) (.inr (.inr (by assumption))) | exact UQ.no HU (by omega) (by assumption) (fun hl => ⟨by first | assumption | (exfalso; omega), by first | assumption | (exfalso; omega), by first | assumption | (exfalso; omega)⟩)), by simp, rfl, rfl, rfl⟩)
              · replace h12 := of_decide_eq_false h12
                refine g_off rfl rfl rfl rfl ?_
                refine g_off rfl rfl rfl rfl ?_
                refine g_off rfl rfl rfl rfl ?_
                refine g_off rfl rfl rfl rfl ?_
                refine pkf (.bool _) rfl rfl ?_
                refine asg (.bool _) rfl ?_
                refine jt ?_
                refine c_false rfl ?_
                refine c_seq ?_
                refine c_reg ?_
                refine asg (.string _) rfl ?_
                refine asg (.bool _) rfl ?_
                refine jt ?_
                refine c_ret ?_
                exact j_end (own0 := []) (ro0 := [tDb64 8, tIf 5 eu ev, tIf 6 ru rv]) (.inl rfl) rfl (hr2 Tryd.results60 (rvt (v := (.string _)) rfl) (rvt (v := (.bool _)) rfl)) [] [0, 1] [] [_, _] [] _ rfl rfl (by kernel_rfl) rfl impl_nil (⟨[], false, fun h => (by cases h), fun _ => (by first | exact UQ.bad HU (by omega) (.inl (by omega)) | exact UQ.bad HU (by omega) (.inr (.inl (by omega))) | exact UQ.bad HU (by omega) (.inr (.inr (by assumption))) | exact UQ.no HU (by omega) (by assumption) (fun hl => ⟨by first | assumption | (exfalso; omega), by first | assumption | (exfalso; omega), by first | assumption | (exfalso; omega)⟩)), by simp, rfl, rfl, rfl⟩)
  · replace h1 := of_decide_eq_false h1
    refine c_exit rfl ?_
    refine e_then ?_
    refine c_seq ?_
    refine c_reg ?_
    refine cal (bString2_ct b4 _ ha o xs hI1.2.1 (by first | omega | (simp; done) | (simp; omega) | (simp at *; omega)) (by assumption)) [0, 1] [] [] rfl rfl rfl (by kernel_rfl) impl_nil rfl ?_; rintro _ _ _ ⟨rfl, rfl, rfl⟩; refine ⟨trivial, ?_⟩
    refine asg (.string _) rfl ?_
    refine asg (.bool _) rfl ?_
    refine jt ?_
    refine c_ret ?_
    exact j_end (own0 := []) (ro0 := [tDb64 8, tIf 5 eu ev, tIf 6 ru rv]) (.inl rfl) rfl (hr2 Tryd.results60 (rvt (v := (.string _)) rfl) (rvt (v := (.bool _)) rfl)) [] [] [] [] [] _ rfl rfl (by kernel_rfl) rfl impl_nil (⟨_, true, fun _ => UQ.fin HU (by omega), fun h => (by cases h), by omega, rfl, rfl, rfl⟩)
end Go.Proofs.YthpbiamicidakaaDoor
namespace Go.PW
open Go
theorem textR_next {s : Str} {lo hi p q : Nat} {t : Str} (h : textR s lo hi p = .inr (t, q)) : p < q ∧ q ≤ s.length := by
  unfold textR at h
  by_cases hb : blk s p = true
  · rw [if_pos hb] at h
    have hp := blk_lt hb
    by_cases h2 : p + 1 < s.length ∧ List.getD s (p + 1) 0 = 34 ∧ qstop s (p + 2) < s.length
    · rw [if_pos h2] at h
      have := qstop_ge s.length s (p + 2) (by omega)
      cases hu : unq (qin s (p + 1)) with
      | none => rw [hu] at h; cases h
      | some x =>
        rw [hu] at h
        simp only at h
        by_cases h3 : lo ≤ x.length ∧ x.length ≤ hi
        · rw [if_pos h3] at h; cases h; omega
        · rw [if_neg h3] at h; cases h
    · rw [if_neg h2] at h; cases h
  · rw [if_neg hb] at h; cases h
theorem marksR_l {s : Str} {f least q k : Nat} {ms : List UInt32} (h : numR s least 4294967295 q = .inl k) (hf : 1 ≤ f) : marksR s f ms least q = .inl k := by
  obtain ⟨f, rfl⟩ : ∃ g, f = g + 1 := ⟨f - 1, by omega⟩
  unfold marksR; rw [h]
theorem marksR_full {s : Str} {f least q k n : Nat} {ms : List UInt32} (h : numR s least 4294967295 q = .inr (n, k)) (hf : 1 ≤ f) (hl : ms.length = 100) : marksR s f ms least q = .inl (q + 1) := by
  obtain ⟨f, rfl⟩ : ∃ g, f = g + 1 := ⟨f - 1, by omega⟩
  unfold marksR; rw [h]; simp only; rw [if_pos hl]
theorem marksR_more {s : Str} {f least q k n : Nat} {ms : List UInt32} (h : numR s least 4294967295 q = .inr (n, k)) (hf : 1 ≤ f) (hl : ms.length ≠ 100) (hk : k < s.length) : marksR s f ms least q = marksR s (f - 1) (ms ++ [UInt32.ofNat n]) (n + 1) k := by
  obtain ⟨f, rfl⟩ : ∃ g, f = g + 1 := ⟨f - 1, by omega⟩
  conv => lhs; unfold marksR
  rw [h]; simp only; rw [if_neg hl, if_pos hk]; rfl
theorem marksR_end {s : Str} {f least q k n : Nat} {ms : List UInt32} (h : numR s least 4294967295 q = .inr (n, k)) (hf : 1 ≤ f) (hl : ms.length ≠ 100) (hk : ¬ k < s.length) : marksR s f ms least q = .inr (ms ++ [UInt32.ofNat n], k) := by
  obtain ⟨f, rfl⟩ : ∃ g, f = g + 1 := ⟨f - 1, by omega⟩
  unfold marksR; rw [h]; simp only; rw [if_neg hl, if_neg hk]
structure MK (s : Str) (p : Nat) (ms : List UInt32) (least q : Nat) (bad : Bool) : Prop where
  qle : q ≤ s.length
  len : ms.length ≤ 101
  good : bad = false → (ms.length ≤ 100 ∧ least ≤ 4294967296) ∧ ((ms.length = 0 ∨ q < s.length) → marksR s 102 [] 0 p = marksR s (102 - ms.length) ms least q) ∧ (¬(ms.length = 0 ∨ q < s.length) → marksR s 102 [] 0 p = .inr (ms, q))
  bad : bad = true → marksR s 102 [] 0 p = .inl q
theorem MK.start {s : Str} {p : Nat} (hp : p ≤ s.length) : MK s p [] 0 p false := ⟨hp, by simp, fun _ => ⟨by simp, fun _ => rfl, fun h => by simp at h⟩, fun h => by cases h⟩
theorem MK.fail {s : Str} {p least q k : Nat} {ms : List UInt32} {x : UInt32} {l : Nat} (h : MK s p ms least q false) (hg : ms.length = 0 ∨ q < s.length) (hn : numR s least 4294967295 q = .inl k) (hk : k ≤ s.length) : MK s p (ms ++ [x]) l k true := by
  have hh := h.good rfl
  exact ⟨hk, (by simp; omega), (fun h => by cases h), fun _ => (hh.2.1 hg).trans (marksR_l hn (by omega))⟩
theorem MK.full {s : Str} {p least q k n : Nat} {ms : List UInt32} {x : UInt32} {l : Nat} (h : MK s p ms least q false) (hg : ms.length = 0 ∨ q < s.length) (hn : numR s least 4294967295 q = .inr (n, k)) (hm : ms.length = 100) (hq : q + 1 ≤ s.length) : MK s p (ms ++ [x]) l (q + 1) true := by
  have hh := h.good rfl
  exact ⟨hq, (by simp; omega), (fun h => by cases h), fun _ => (hh.2.1 hg).trans (marksR_full hn (by omega) hm)⟩
theorem MK.go {s : Str} {p least q k n : Nat} {ms : List UInt32} (h : MK s p ms least q false) (hg : ms.length = 0 ∨ q < s.length) (hn : numR s least 4294967295 q = .inr (n, k)) (hm : ms.length ≠ 100) (hk : k ≤ s.length) (hl : n ≤ 4294967295) : MK s p (ms ++ [UInt32.ofNat n]) (n + 1) k false := by
  have hh := h.good rfl
  refine ⟨hk, by simp; omega, fun _ => ⟨⟨by simp; omega, by omega⟩, fun hc => ?_, fun hc => ?_⟩, fun h => by cases h⟩
  · have hk' : k < s.length := by rcases hc with hc | hc; simp at hc; exact hc
    rw [hh.2.1 hg, marksR_more hn (by omega) hm hk']
    congr 1; simp; omega
  · have hk' : ¬ k < s.length := fun h => hc (.inr h)
    rw [hh.2.1 hg, marksR_end hn (by omega) hm hk']
theorem mk_less {s : Str} {p least q : Nat} {ms ms' : List UInt32} {bad : Bool} (h : MK s p ms least q false) (hb : bad = bad) (hl : ms'.length = ms.length + 1) : (if bad = true then 0 else 102 - ms'.length) < (if false = true then 0 else 102 - ms.length) := by
  have := (h.good rfl).1
  cases bad <;> simp <;> omega
theorem u64_suc {n : UInt64} (h : n.toNat ≤ 4294967295) : (n + 1).toNat = n.toNat + 1 := by
  rw [UInt64.toNat_add]; show (n.toNat + 1) % 2 ^ 64 = _; omega
end Go.PW
namespace Go.Proofs.YthpbiamicidakaaDoor
open Go Go.Proofs Go.PW
open Go.PW.Enc (enc val)
set_option maxRecDepth 20000 in
set_option maxHeartbeats 4000000 in
theorem text_bad (b : Nat) (s : Str) (p : Nat) (hs : s.length ≤ 140737488351232) (hp : p ≤ s.length) (lo hi : Nat) (hlo : lo ≤ 1000000) (hhi : hi ≤ 1000000) : Ct Tryd.prog 30 [.pointer (some ⟨b, 0, none⟩), .int .i64 (lo : Int), .int .i64 (hi : Int)] [[(b, .cells (cat [pt s, p1 (.int .i64 ((p : Nat) : Int)), p1 (.bool true)]) 56)]] [] (fun v o r => v = strV [] ∧ o = [[(b, .cells (cat [pt s, p1 (.int .i64 ((p : Nat) : Int)), p1 (.bool true)]) 56)]] ∧ r = []) := by
  refine ct_enter Tryd.func30 rfl Tryd.ntmps30 (by kernel_rfl) rfl fun w0 => ?_
  refine c_seq ?_
  refine c_reg ?_
  refine asg (.string _) rfl ?_
  refine jt ?_
  refine c_seq ?_
  refine c_seq ?_
  refine c_reg ?_
  refine mv (.pointer _) rfl ?_
  refine cal (begin_bad b s p (by omega) (by omega)) [0] [] [] rfl rfl rfl (by kernel_rfl) impl_nil rfl ?_; rintro _ _ _ ⟨rfl, rfl, rfl⟩; refine ⟨trivial, ?_⟩
  refine not_ rfl ?_
  refine jt ?_
  refine c_true rfl ?_
  refine c_seq ?_
  refine c_reg ?_
  refine asg (.string _) rfl ?_
  refine jt ?_
  refine c_ret ?_
  exact j_end (own0 := [[(b, .cells (cat [pt s, p1 (.int .i64 ((p : Nat) : Int)), p1 (.bool true)]) 56)]]) (ro0 := []) (.inl rfl) rfl (hr1 Tryd.results30 (rvt (v := (.string _)) rfl)) [0] [] [_] [] [] _ rfl rfl (by kernel_rfl) rfl impl_nil (⟨rfl, rfl, rfl⟩)
set_option maxRecDepth 20000 in
set_option maxHeartbeats 4000000 in
theorem text_rct (b : Nat) (s : Str) (p : Nat) (hs : s.length ≤ 140737488351232) (hp : p ≤ s.length) (lo hi : Nat) (hlo : lo ≤ 1000000) (hhi : hi ≤ 1000000) (eu : TypeId) (ev : Value) (ru : TypeId) (rv : Value) : Ct Tryd.prog 30 [.pointer (some ⟨b, 0, none⟩), .int .i64 (lo : Int), .int .i64 (hi : Int)] [[(b, .cells (cat [pt s, p1 (.int .i64 ((p : Nat) : Int)), p1 (.bool false)]) 56)]] [tDb64 8, tIf 5 eu ev, tIf 6 ru rv] (fun v o r => (∃ (n : Str) (q : Nat), textR s lo hi p = .inr (n, q) ∧ v = strV n ∧ o = [[(b, .cells (cat [pt s, p1 (.int .i64 ((q : Nat) : Int)), p1 (.bool false)]) 56)]] ∧ r = []) ∨ (∃ (n : Str) (q : Nat), textR s lo hi p = .inl q ∧ q ≤ s.length ∧ v = strV n ∧ o = [[(b, .cells (cat [pt s, p1 (.int .i64 ((q : Nat) : Int)), p1 (.bool true)]) 56)]] ∧ r = [])) := by
  have HRL : (List.drop (p + 1) s).length = s.length - (p + 1) := List.length_drop
  refine ct_enter Tryd.func30 rfl Tryd.ntmps30 (by kernel_rfl) rfl fun w0 => ?_
  refine c_seq ?_
  refine c_reg ?_
  refine asg (.string _) rfl ?_
  refine jt ?_
  refine c_seq ?_
  refine c_seq ?_
  refine c_reg ?_
  refine mv (.pointer _) rfl ?_
  refine cal (begin_ct b s p (by omega) (by omega)) [0] [] [] rfl rfl rfl (by kernel_rfl) impl_nil rfl ?_; rintro _ _ _ (⟨hbl1, rfl, rfl, rfl⟩ | ⟨hbl1, rfl, rfl, rfl⟩)
  · have hpl1 := blk_lt hbl1; refine ⟨trivial, ?_⟩
    refine not_ rfl ?_
    refine jt ?_
    refine c_false rfl ?_
    refine c_skip ?_
    refine e_then ?_
    refine c_seq ?_
    refine c_dr [_, _, _, _] [] [(0, 0), (1, 0), (2, 0), (3, 0), (4, 0), (5, 0), (6, 0), (7, 0), (8, 0), (9, 0)] follows (by kernel_rfl) calm_body (keepS [0, 1, 2, 3] rfl) ?_
    refine mv (.pointer _) rfl ?_
    refine nlc rfl ?_
    refine fad rfl Tryd.underlying56 rfl ty9.sz ?_
    refine ldp 0 0 _ rfl rfl rfl rfl ty9 ?_
    refine mv (.pointer _) rfl ?_
    refine nlc rfl ?_
    refine fad rfl Tryd.underlying56 rfl ty3.sz ?_
    refine ldp 0 1 _ rfl rfl rfl rfl ty3 ?_
    refine cutT (s := s) (p + 1) s.length rfl Tryd.underlying9 ⟨_, rfl⟩ rfl (by omega) (by omega) (List.drop (p + 1) s) (cut_hi _ _) ?_
    refine asg (.string _) rfl ?_
    refine jt ?_
    refine c_seq ?_
    refine c_reg ?_
    refine asg (.int _ _) rfl ?_
    refine jt ?_
    refine c_seq ?_
    refine c_block ?_
    refine c_loop (σ := Nat) (fun e => 1 ≤ e ∧ e ≤ s.length - (p + 1) + 1 ∧ qstop s (p + 1 + e) = qstop s (p + 2)) (fun e => s.length + 2 - e) (fun e => [(8, .int .i64 (e : Int))]) (fun e => [[(b, .cells (cat [pt s, p1 (.int .i64 (((p + 1) : Nat) : Int)), p1 (.bool false)]) 56)]]) (fun e => [tDb64 8, tIf 5 eu ev, tIf 6 ru rv]) [8, 23, 24, 25, 26, 27, 28, 29, 30, 31, 32, 33, 34, 35, 36, 37, 38, 39, 40] 1 (⟨by omega, by omega, rfl⟩) ⟨rfl, trivial⟩ rfl rfl ?_
    rintro e g1 hI1
    try dsimp only at hI1 ⊢
    refine c_seq ?_
    refine c_seq ?_
    refine c_reg ?_
    refine mv (.int _ _) rfl ?_
    refine mv (.string _) rfl ?_
    refine lenT (s := (List.drop (p + 1) s)) rfl Tryd.underlying9 ?_
    refine cmp _ rfl rfl rfl ?_
    refine mv (.bool _) rfl ?_
    refine jsplit 27 rfl (fun h1 => ?_) (fun h1 => ?_)
    · replace h1 := of_decide_eq_true h1
      refine g_on rfl rfl rfl ?_
      refine mv (.string _) rfl ?_
      refine g_on rfl rfl rfl ?_
      refine mv (.int _ _) rfl ?_
      refine g_on rfl rfl rfl ?_
      refine idxT (s := (List.drop (p + 1) s)) e rfl rfl Tryd.underlying9 rfl (by omega) ?_
      refine g_on rfl rfl rfl ?_
      refine equ8 (a := (List.getD (List.drop (p + 1) s) e 0)) (b := (34 : UInt8)) _ rfl rfl rfl ?_
      refine pkt (.bool _) rfl rfl ?_
      refine jt ?_
      refine c_cond rfl (fun h2 => ?_) (fun h2 => ?_)
      · replace h2 := ndt h2
        refine c_skip ?_
        refine e_then ?_
        refine c_block ?_
        refine c_seq ?_
        refine c_seq ?_
        refine c_reg ?_
        refine mv (.string _) rfl ?_
        refine mv (.int _ _) rfl ?_
        refine idxT (s := (List.drop (p + 1) s)) e rfl rfl Tryd.underlying9 rfl (by omega) ?_
        refine equ8 (a := (List.getD (List.drop (p + 1) s) e 0)) (b := (92 : UInt8)) _ rfl rfl rfl ?_
        refine jt ?_
        refine c_cond rfl (fun h3 => ?_) (fun h3 => ?_)
        · replace h3 := of_decide_eq_true h3
          refine c_reg ?_
          refine mv (.int _ _) rfl ?_
          refine addi rfl rfl rfl (by omega) ?_
          refine asg (.int _ _) rfl ?_
          refine jt ?_
          refine c_reg ?_
          refine mv (.int _ _) rfl ?_
          refine addi rfl rfl rfl (by omega) ?_
          refine asg (.int _ _) rfl ?_
          refine jn ?_
          refine e_in ?_
          exact e_loop ((e + 1) + 1) (⟨by omega, by omega, by rw [show p + 1 + (e + 1 + 1) = p + 1 + e + 2 by omega, ← qstop_two (by omega) (by rw [← getD_drop]; assumption)]; exact hI1.2.2⟩) (by show s.length + 2 - _ < s.length + 2 - e; omega) (⟨rfl, trivial⟩) rfl rfl rfl
        · replace h3 := of_decide_eq_false h3
          refine c_skip ?_
          refine e_then ?_
          refine c_reg ?_
          refine mv (.int _ _) rfl ?_
          refine addi rfl rfl rfl (by omega) ?_
          refine asg (.int _ _) rfl ?_
          refine jn ?_
          refine e_in ?_
          exact e_loop (e + 1) (⟨by omega, by omega, by rw [show p + 1 + (e + 1) = p + 1 + e + 1 by omega, ← qstop_one (by omega) (by rw [← getD_drop]; assumption) (by rw [← getD_drop]; assumption)]; exact hI1.2.2⟩) (by show s.length + 2 - _ < s.length + 2 - e; omega) (⟨rfl, trivial⟩) rfl rfl rfl
      · replace h2 := ndf h2
        refine c_exit rfl ?_
        refine e_then ?_
        refine c_seq ?_
        refine c_seq ?_
        refine c_reg ?_
        refine mv (.int _ _) rfl ?_
        refine mv (.string _) rfl ?_
        refine lenT (s := (List.drop (p + 1) s)) rfl Tryd.underlying9 ?_
        refine cmp _ rfl rfl rfl ?_
        refine mv (.bool _) rfl ?_
        refine jsplit 45 rfl (fun h4 => ?_) (fun h4 => ?_)
        · replace h4 := of_decide_eq_true h4
          refine g_off rfl rfl rfl rfl ?_
          refine g_off rfl rfl rfl rfl ?_
          refine g_off rfl rfl rfl rfl ?_
          refine pkt (.bool _) rfl rfl ?_
          refine jt ?_
          refine c_true rfl ?_
          refine c_seq ?_
          refine c_reg ?_
          refine mv (.pointer _) rfl ?_
          refine nlc rfl ?_
          refine fad rfl Tryd.underlying56 rfl ty4.sz ?_
          refine stp 0 2 _ (p1 (.bool true)) rfl rfl rfl rfl rfl rfl ty4 ⟨trivial, ?_⟩
          refine jt ?_
          refine c_seq ?_
          refine c_reg ?_
          refine asg (.string _) rfl ?_
          refine jt ?_
          refine c_ret ?_
          exact j_end (own0 := [[(b, .cells (cat [pt s, p1 (.int .i64 ((p : Nat) : Int)), p1 (.bool false)]) 56)]]) (ro0 := [tDb64 8, tIf 5 eu ev, tIf 6 ru rv]) (.inl rfl) rfl (hr1 Tryd.results30 (rvt (v := (.string _)) rfl)) [0] [] [_] [] [] _ rfl rfl (by kernel_rfl) rfl impl_nil (.inr ⟨[], (p + 1), textR_out (by assumption) (fun hh => by first | (have := qstop_ge (s.length) s (p + 1 + e) (by omega); rw [hI1.2.2] at this; omega) | exact (show ¬ List.getD (List.drop (p + 1) s) 0 0 = 34 by assumption) (by rw [getD_drop, Nat.add_zero]; exact hh.2.1)), by omega, rfl, rfl, rfl⟩)
        · replace h4 := of_decide_eq_false h4
          refine g_on rfl rfl rfl ?_
          refine mv (.string _) rfl ?_
          refine g_on rfl rfl rfl ?_
          refine idxT (s := (List.drop (p + 1) s)) 0 rfl rfl Tryd.underlying9 rfl (by omega) ?_
          refine g_on rfl rfl rfl ?_
          refine equ8 (a := (List.getD (List.drop (p + 1) s) 0 0)) (b := (34 : UInt8)) _ rfl rfl rfl ?_
          refine pkf (.bool _) rfl rfl ?_
          refine jt ?_
          refine c_cond rfl (fun h5 => ?_) (fun h5 => ?_)
          · replace h5 := ndt h5
            refine c_seq ?_
            refine c_reg ?_
            refine mv (.pointer _) rfl ?_
            refine nlc rfl ?_
            refine fad rfl Tryd.underlying56 rfl ty4.sz ?_
            refine stp 0 2 _ (p1 (.bool true)) rfl rfl rfl rfl rfl rfl ty4 ⟨trivial, ?_⟩
            refine jt ?_
            refine c_seq ?_
            refine c_reg ?_
            refine asg (.string _) rfl ?_
            refine jt ?_
            refine c_ret ?_
            exact j_end (own0 := [[(b, .cells (cat [pt s, p1 (.int .i64 ((p : Nat) : Int)), p1 (.bool false)]) 56)]]) (ro0 := [tDb64 8, tIf 5 eu ev, tIf 6 ru rv]) (.inl rfl) rfl (hr1 Tryd.results30 (rvt (v := (.string _)) rfl)) [0] [] [_] [] [] _ rfl rfl (by kernel_rfl) rfl impl_nil (.inr ⟨[], (p + 1), textR_out (by assumption) (fun hh => by first | (have := qstop_ge (s.length) s (p + 1 + e) (by omega); rw [hI1.2.2] at this; omega) | exact (show ¬ List.getD (List.drop (p + 1) s) 0 0 = 34 by assumption) (by rw [getD_drop, Nat.add_zero]; exact hh.2.1)), by omega, rfl, rfl, rfl⟩)
          · replace h5 := ndf h5
            refine c_skip ?_
            refine e_then ?_
            refine c_seq ?_
            have HQE : qstop s (p + 2) = p + 1 + e := by rw [← hI1.2.2]; exact qstop_end (fun hh => by first | omega | exact hh.2 (by rw [← getD_drop]; assumption))
            have HQI : qin s (p + 1) = List.take (e - 1) (List.drop 1 (List.drop (p + 1) s)) := by unfold qin; rw [List.drop_drop, HQE, show p + 1 + e - (p + 1 + 1) = e - 1 by omega]
            refine c_reg ?_
            refine mv (.string _) rfl ?_
            refine mv (.int _ _) rfl ?_
            refine cutT (s := (List.drop (p + 1) s)) 1 e rfl Tryd.underlying9 ⟨_, rfl⟩ ⟨_, rfl⟩ (by omega) (by omega) (List.take (e - 1) (List.drop 1 (List.drop (p + 1) s))) rfl ?_
            refine cal (plain_ct (List.take (e - 1) (List.drop 1 (List.drop (p + 1) s))) (by rw [List.length_take, List.length_drop]; omega) eu ev ru rv) [] [0] [_] rfl rfl rfl (by kernel_rfl) (impl_cons (impl_at 0 rfl) (impl_cons (impl_at 1 rfl) (impl_cons (impl_at 2 rfl) impl_nil))) rfl ?_; rintro _ _ _ ⟨px2, pb2, hpy2, hpn2, hpx2, rfl, rfl, rfl⟩; refine ⟨trivial, ?_⟩
            refine mv (.tuple _) rfl ?_
            refine xtr (.string _) rfl rfl ?_
            refine xtr (.bool _) rfl rfl ?_
            refine asg (.string _) rfl ?_
            refine asg (.bool _) rfl ?_
            refine jt ?_
            refine c_seq ?_
            refine c_reg ?_
            refine mv (.pointer _) rfl ?_
            refine mv (.int _ _) rfl ?_
            refine addi rfl rfl rfl (by omega) ?_
            refine mv (.bool _) rfl ?_
            refine mv (.bool _) rfl ?_
            refine jsplit 64 rfl (fun h6 => ?_) (fun h6 => ?_)
            · refine g_on rfl rfl rfl ?_
              refine mv (.string _) rfl ?_
              refine g_on rfl rfl rfl ?_
              refine lenT (s := px2) rfl Tryd.underlying9 ?_
              refine g_on rfl rfl rfl ?_
              refine mv (.int _ _) rfl ?_
              refine g_on rfl rfl rfl ?_
              refine cmp _ rfl rfl rfl ?_
              refine pkt (.bool _) rfl rfl ?_
              refine mv (.bool _) rfl ?_
              refine jsplit 70 rfl (fun h7 => ?_) (fun h7 => ?_)
              · replace h7 := of_decide_eq_true h7
                refine g_on rfl rfl rfl ?_
                refine mv (.string _) rfl ?_
                refine g_on rfl rfl rfl ?_
                refine lenT (s := px2) rfl Tryd.underlying9 ?_
                refine g_on rfl rfl rfl ?_
                refine mv (.int _ _) rfl ?_
                refine g_on rfl rfl rfl ?_
                refine cmp _ rfl rfl rfl ?_
                refine pkt (.bool _) rfl rfl ?_
                refine cal (took_ct b s (p + 1) (e + 1) (decide ((px2.length : Int) ≤ (hi : Int))) (by omega)) [0] [] [] rfl rfl rfl (by kernel_rfl) impl_nil rfl ?_; rintro _ _ _ (⟨htk3, rfl, rfl, rfl⟩ | ⟨htk3, rfl, rfl, rfl⟩)
                · replace htk3 := of_decide_eq_true htk3; refine ⟨trivial, ?_⟩
                  refine jt ?_
                  refine c_seq ?_
                  refine c_reg ?_
                  refine mv (.string _) rfl ?_
                  refine asg (.string _) rfl ?_
                  refine jt ?_
                  refine c_ret ?_
                  exact j_end (own0 := [[(b, .cells (cat [pt s, p1 (.int .i64 ((p : Nat) : Int)), p1 (.bool false)]) 56)]]) (ro0 := [tDb64 8, tIf 5 eu ev, tIf 6 ru rv]) (.inl rfl) rfl (hr1 Tryd.results30 (rvt (v := (.string _)) rfl)) [0] [] [_] [] [] _ rfl rfl (by kernel_rfl) rfl impl_nil (.inl ⟨px2, _, textR_ok (by assumption) ⟨by omega, by rw [← Nat.add_zero (p + 1), ← getD_drop]; assumption, by omega⟩ (by rw [HQI]; exact hpy2 (by assumption)) ⟨by omega, by omega⟩ |>.trans (by rw [HQE]; rfl), rfl, rfl, rfl⟩)
                · replace htk3 := of_decide_eq_false htk3; refine ⟨trivial, ?_⟩
                  refine jt ?_
                  refine c_seq ?_
                  refine c_reg ?_
                  refine mv (.string _) rfl ?_
                  refine asg (.string _) rfl ?_
                  refine jt ?_
                  refine c_ret ?_
                  exact j_end (own0 := [[(b, .cells (cat [pt s, p1 (.int .i64 ((p : Nat) : Int)), p1 (.bool false)]) 56)]]) (ro0 := [tDb64 8, tIf 5 eu ev, tIf 6 ru rv]) (.inl rfl) rfl (hr1 Tryd.results30 (rvt (v := (.string _)) rfl)) [0] [] [_] [] [] _ rfl rfl (by kernel_rfl) rfl impl_nil (.inr ⟨px2, (p + 1), textR_bad (by assumption) (fun t ht hb => by rw [HQI] at ht; first | (rw [hpn2 (by assumption)] at ht; cases ht) | (rw [hpy2 (by assumption)] at ht; cases ht; omega)), by omega, rfl, rfl, rfl⟩)
              · replace h7 := of_decide_eq_false h7
                refine g_off rfl rfl rfl rfl ?_
                refine g_off rfl rfl rfl rfl ?_
                refine g_off rfl rfl rfl rfl ?_
                refine g_off rfl rfl rfl rfl ?_
                refine pkf (.bool _) rfl rfl ?_
                refine cal (took_f b s (p + 1) (e + 1) (by omega)) [0] [] [] rfl rfl rfl (by kernel_rfl) impl_nil rfl ?_; rintro _ _ _ ⟨rfl, rfl, rfl⟩; refine ⟨trivial, ?_⟩
                refine jt ?_
                refine c_seq ?_
                refine c_reg ?_
                refine mv (.string _) rfl ?_
                refine asg (.string _) rfl ?_
                refine jt ?_
                refine c_ret ?_
                exact j_end (own0 := [[(b, .cells (cat [pt s, p1 (.int .i64 ((p : Nat) : Int)), p1 (.bool false)]) 56)]]) (ro0 := [tDb64 8, tIf 5 eu ev, tIf 6 ru rv]) (.inl rfl) rfl (hr1 Tryd.results30 (rvt (v := (.string _)) rfl)) [0] [] [_] [] [] _ rfl rfl (by kernel_rfl) rfl impl_nil (.inr ⟨px2, (p + 1), textR_bad (by assumption) (fun t ht hb => by rw [HQI] at ht; first | (rw [hpn2 (by assumption)] at ht; cases ht) | (rw [hpy2 (by assumption)] at ht; cases ht; omega)), by omega, rfl, rfl, rfl⟩)
            · refine g_off rfl rfl rfl rfl ?_
              refine g_off rfl rfl rfl rfl ?_
              refine g_off rfl rfl rfl rfl ?_
              refine g_off rfl rfl rfl rfl ?_
              refine pkf (.bool _) rfl rfl ?_
              refine mv (.bool _) rfl ?_
              refine g_off rfl rfl rfl rfl ?_
              refine g_off rfl rfl rfl rfl ?_
              refine g_off rfl rfl rfl rfl ?_
              refine g_off rfl rfl rfl rfl ?_
              refine pkf (.bool _) rfl rfl ?_
              refine cal (took_f b s (p + 1) (e + 1) (by omega)) [0] [] [] rfl rfl rfl (by kernel_rfl) impl_nil rfl ?_; rintro _ _ _ ⟨rfl, rfl, rfl⟩; refine ⟨trivial, ?_⟩
              refine jt ?_
              refine c_seq ?_
              refine c_reg ?_
              refine mv (.string _) rfl ?_
              refine asg (.string _) rfl ?_
              refine jt ?_
              refine c_ret ?_
              exact j_end (own0 := [[(b, .cells (cat [pt s, p1 (.int .i64 ((p : Nat) : Int)), p1 (.bool false)]) 56)]]) (ro0 := [tDb64 8, tIf 5 eu ev, tIf 6 ru rv]) (.inl rfl) rfl (hr1 Tryd.results30 (rvt (v := (.string _)) rfl)) [0] [] [_] [] [] _ rfl rfl (by kernel_rfl) rfl impl_nil (.inr ⟨px2, (p + 1), textR_bad (by assumption) (fun t ht hb => by rw [HQI] at ht; first | (rw [hpn2 (by assumption)] at ht; cases ht) | (rw [hpy2 (by assumption)] at ht; cases ht; omega)), by omega, rfl, rfl, rfl⟩)
    · replace h1 := of_decide_eq_false h1
      refine g_off rfl rfl rfl rfl ?_
      refine g_off rfl rfl rfl rfl ?_
      refine g_off rfl rfl rfl rfl ?_
      refine g_off rfl rfl rfl rfl ?_
      refine pkf (.bool _) rfl rfl ?_
      refine jt ?_
      refine c_false rfl ?_
      refine c_exit rfl ?_
      refine e_then ?_
      refine c_seq ?_
      refine c_seq ?_
      refine c_reg ?_
      refine mv (.int _ _) rfl ?_
      refine mv (.string _) rfl ?_
      refine lenT (s := (List.drop (p + 1) s)) rfl Tryd.underlying9 ?_
      refine cmp _ rfl rfl rfl ?_
      refine mv (.bool _) rfl ?_
      refine jsplit 45 rfl (fun h8 => ?_) (fun h8 => ?_)
      · replace h8 := of_decide_eq_true h8
        refine g_off rfl rfl rfl rfl ?_
        refine g_off rfl rfl rfl rfl ?_
        refine g_off rfl rfl rfl rfl ?_
        refine pkt (.bool _) rfl rfl ?_
        refine jt ?_
        refine c_true rfl ?_
        refine c_seq ?_
        refine c_reg ?_
        refine mv (.pointer _) rfl ?_
        refine nlc rfl ?_
        refine fad rfl Tryd.underlying56 rfl ty4.sz ?_
        refine stp 0 2 _ (p1 (.bool true)) rfl rfl rfl rfl rfl rfl ty4 ⟨trivial, ?_⟩
        refine jt ?_
        refine c_seq ?_
        refine c_reg ?_
        refine asg (.string _) rfl ?_
        refine jt ?_
        refine c_ret ?_
        exact j_end (own0 := [[(b, .cells (cat [pt s, p1 (.int .i64 ((p : Nat) : Int)), p1 (.bool false)]) 56)]]) (ro0 := [tDb64 8, tIf 5 eu ev, tIf 6 ru rv]) (.inl rfl) rfl (hr1 Tryd.results30 (rvt (v := (.string _)) rfl)) [0] [] [_] [] [] _ rfl rfl (by kernel_rfl) rfl impl_nil (.inr ⟨[], (p + 1), textR_out (by assumption) (fun hh => by first | (have := qstop_ge (s.length) s (p + 1 + e) (by omega); rw [hI1.2.2] at this; omega) | exact (show ¬ List.getD (List.drop (p + 1) s) 0 0 = 34 by assumption) (by rw [getD_drop, Nat.add_zero]; exact hh.2.1)), by omega, rfl, rfl, rfl⟩)
      · replace h8 := of_decide_eq_false h8
        refine g_on rfl rfl rfl ?_
        refine mv (.string _) rfl ?_
        refine g_on rfl rfl rfl ?_
        refine idxT (s := (List.drop (p + 1) s)) 0 rfl rfl Tryd.underlying9 rfl (by omega) ?_
        refine g_on rfl rfl rfl ?_
        refine equ8 (a := (List.getD (List.drop (p + 1) s) 0 0)) (b := (34 : UInt8)) _ rfl rfl rfl ?_
        refine pkf (.bool _) rfl rfl ?_
        refine jt ?_
        refine c_cond rfl (fun h9 => ?_) (fun h9 => ?_)
        · replace h9 := ndt h9
          refine c_seq ?_
          refine c_reg ?_
          refine mv (.pointer _) rfl ?_
          refine nlc rfl ?_
          refine fad rfl Tryd.underlying56 rfl ty4.sz ?_
          refine stp 0 2 _ (p1 (.bool true)) rfl rfl rfl rfl rfl rfl ty4 ⟨trivial, ?_⟩
          refine jt ?_
          refine c_seq ?_
          refine c_reg ?_
          refine asg (.string _) rfl ?_
          refine jt ?_
          refine c_ret ?_
          exact j_end (own0 := [[(b, .cells (cat [pt s, p1 (.int .i64 ((p : Nat) : Int)), p1 (.bool false)]) 56)]]) (ro0 := [tDb64 8, tIf 5 eu ev, tIf 6 ru rv]) (.inl rfl) rfl (hr1 Tryd.results30 (rvt (v := (.string _)) rfl)) [0] [] [_] [] [] _ rfl rfl (by kernel_rfl) rfl impl_nil (.inr ⟨[], (p + 1), textR_out (by assumption) (fun hh => by first | (have := qstop_ge (s.length) s (p + 1 + e) (by omega); rw [hI1.2.2] at this; omega) | exact (show ¬ List.getD (List.drop (p + 1) s) 0 0 = 34 by assumption) (by rw [getD_drop, Nat.add_zero]; exact hh.2.1)), by omega, rfl, rfl, rfl⟩)
        · replace h9 := ndf h9
          refine c_skip ?_
          refine e_then ?_
          refine c_seq ?_
          have HQE : qstop s (p + 2) = p + 1 + e := by rw [← hI1.2.2]; exact qstop_end (fun hh => by first | omega | exact hh.2 (by rw [← getD_drop]; assumption))
          have HQI : qin s (p + 1) = List.take (e - 1) (List.drop 1 (List.drop (p + 1) s)) := by unfold qin; rw [List.drop_drop, HQE, show p + 1 + e - (p + 1 + 1) = e - 1 by omega]
          refine c_reg ?_
          refine mv (.string _) rfl ?_
          refine mv (.int _ _) rfl ?_
          refine cutT (s := (List.drop (p + 1) s)) 1 e rfl Tryd.underlying9 ⟨_, rfl⟩ ⟨_, rfl⟩ (by omega) (by omega) (List.take (e - 1) (List.drop 1 (List.drop (p + 1) s))) rfl ?_
          refine cal (plain_ct (List.take (e - 1) (List.drop 1 (List.drop (p + 1) s))) (by rw [List.length_take, List.length_drop]; omega) eu ev ru rv) [] [0] [_] rfl rfl rfl (by kernel_rfl) (impl_cons (impl_at 0 rfl) (impl_cons (impl_at 1 rfl) (impl_cons (impl_at 2 rfl) impl_nil))) rfl ?_; rintro _ _ _ ⟨px4, pb4, hpy4, hpn4, hpx4, rfl, rfl, rfl⟩; refine ⟨trivial, ?_⟩
          refine mv (.tuple _) rfl ?_
          refine xtr (.string _) rfl rfl ?_
          refine xtr (.bool _) rfl rfl ?_
          refine asg (.string _) rfl ?_
          refine asg (.bool _) rfl ?_
          refine jt ?_
          refine c_seq ?_
          refine c_reg ?_
          refine mv (.pointer _) rfl ?_
          refine mv (.int _ _) rfl ?_
          refine addi rfl rfl rfl (by omega) ?_
          refine mv (.bool _) rfl ?_
          refine mv (.bool _) rfl ?_
          refine jsplit 64 rfl (fun h10 => ?_) (fun h10 => ?_)
          · refine g_on rfl rfl rfl ?_
            refine mv (.string _) rfl ?_
            refine g_on rfl rfl rfl ?_
            refine lenT (s := px4) rfl Tryd.underlying9 ?_
            refine g_on rfl rfl rfl ?_
            refine mv (.int _ _) rfl ?_
            refine g_on rfl rfl rfl ?_
            refine cmp _ rfl rfl rfl ?_
            refine pkt (.bool _) rfl rfl ?_
            refine mv (.bool _) rfl ?_
            refine jsplit 70 rfl (fun h11 => ?_) (fun h11 => ?_)
            · replace h11 := of_decide_eq_true h11
              refine g_on rfl rfl rfl ?_
              refine mv (.string _) rfl ?_
              refine g_on rfl rfl rfl ?_
              refine lenT (s := px4) rfl Tryd.underlying9 ?_
              refine g_on rfl rfl rfl ?_
              refine mv (.int _ _) rfl ?_
              refine g_on rfl rfl rfl ?_
              refine cmp _ rfl rfl rfl ?_
              refine pkt (.bool _) rfl rfl ?_
              refine cal (took_ct b s (p + 1) (e + 1) (decide ((px4.length : Int) ≤ (hi : Int))) (by omega)) [0] [] [] rfl rfl rfl (by kernel_rfl) impl_nil rfl ?_; rintro _ _ _ (⟨htk5, rfl, rfl, rfl⟩ | ⟨htk5, rfl, rfl, rfl⟩)
              · replace htk5 := of_decide_eq_true htk5; refine ⟨trivial, ?_⟩
                refine jt ?_
                refine c_seq ?_
                refine c_reg ?_
                refine mv (.string _) rfl ?_
                refine asg (.string _) rfl ?_
                refine jt ?_
                refine c_ret ?_
                exact j_end (own0 := [[(b, .cells (cat [pt s, p1 (.int .i64 ((p : Nat) : Int)), p1 (.bool false)]) 56)]]) (ro0 := [tDb64 8, tIf 5 eu ev, tIf 6 ru rv]) (.inl rfl) rfl (hr1 Tryd.results30 (rvt (v := (.string _)) rfl)) [0] [] [_] [] [] _ rfl rfl (by kernel_rfl) rfl impl_nil (.inl ⟨px4, _, textR_ok (by assumption) ⟨by omega, by rw [← Nat.add_zero (p + 1), ← getD_drop]; assumption, by omega⟩ (by rw [HQI]; exact hpy4 (by assumption)) ⟨by omega, by omega⟩ |>.trans (by rw [HQE]; rfl), rfl, rfl, rfl⟩)
              · replace htk5 := of_decide_eq_false htk5; refine ⟨trivial, ?_⟩
                refine jt ?_
                refine c_seq ?_
                refine c_reg ?_
                refine mv (.string _) rfl ?_
                refine asg (.string _) rfl ?_
                refine jt ?_
                refine c_ret ?_
                exact j_end (own0 := [[(b, .cells (cat [pt s, p1 (.int .i64 ((p : Nat) : Int)), p1 (.bool false)]) 56)]]) (ro0 := [tDb64 8, tIf 5 eu ev, tIf 6 ru rv]) (.inl rfl) rfl (hr1 Tryd.results30 (rvt (v := (.string _)) rfl)) [0] [] [_] [] [] _ rfl rfl (by kernel_rfl) rfl impl_nil (.inr ⟨px4, (p + 1), textR_bad (by assumption) (fun t ht hb => by rw [HQI] at ht; first | (rw [hpn4 (by assumption)] at ht; cases ht) | (rw [hpy4 (by assumption)] at ht; cases ht; omega)), by omega, rfl, rfl, rfl⟩)
            · replace h11 := of_decide_eq_false h11
              refine g_off rfl rfl rfl rfl ?_
              refine g_off rfl rfl rfl rfl ?_
              refine g_off rfl rfl rfl rfl ?_
              refine g_off rfl rfl rfl rfl ?_
              refine pkf (.bool _) rfl rfl ?_
              refine cal (took_f b s (p + 1) (e + 1) (by omega)) [0] [] [] rfl rfl rfl (by kernel_rfl) impl_nil rfl ?_; rintro _ _ _ ⟨rfl, rfl, rfl⟩; refine ⟨trivial, ?_⟩
              refine jt ?_
              refine c_seq ?_
              refine c_reg ?_
              refine mv (.string _) rfl ?_
              refine asg (.string _) rfl ?_
              refine jt ?_
              refine c_ret ?_
              exact j_end (own0 := [[(b, .cells (cat [pt s, p1 (.int .i64 ((p : Nat) : Int)), p1 (.bool false)]) 56)]]) (ro0 := [tDb64 8, tIf 5 eu ev, tIf 6 ru rv]) (.inl rfl) rfl (hr1 Tryd.results30 (rvt (v := (.string _)) rfl)) [0] [] [_] [] [] _ rfl rfl (by kernel_rfl) rfl impl_nil (.inr ⟨px4, (p + 1), textR_bad (by assumption) (fun t ht hb => by rw [HQI] at ht; first | (rw [hpn4 (by assumption)] at ht; cases ht) | (rw [hpy4 (by assumption)] at ht; cases ht; omega)), by omega, rfl, rfl, rfl⟩)
          · refine g_off rfl rfl rfl rfl ?_
            refine g_off rfl rfl rfl rfl ?_
            refine g_off rfl rfl rfl rfl ?_
            refine g_off rfl rfl rfl rfl ?_
            refine pkf (.bool _) rfl rfl ?_
            refine mv (.bool _) rfl ?_
            refine g_off rfl rfl rfl rfl ?_
            refine g_off rfl rfl rfl rfl ?_
            refine g_off rfl rfl rfl rfl ?_
            refine g_off rfl rfl rfl rfl ?_
            refine pkf (.bool _) rfl rfl ?_
            refine cal (took_f b s (p + 1) (e + 1) (by omega)) [0] [] [] rfl rfl rfl (by kernel_rfl) impl_nil rfl ?_; rintro _ _ _ ⟨rfl, rfl, rfl⟩; refine ⟨trivial, ?_⟩
            refine jt ?_
            refine c_seq ?_
            refine c_reg ?_
            refine mv (.string _) rfl ?_
            refine asg (.string _) rfl ?_
            refine jt ?_
            refine c_ret ?_
            exact j_end (own0 := [[(b, .cells (cat [pt s, p1 (.int .i64 ((p : Nat) : Int)), p1 (.bool false)]) 56)]]) (ro0 := [tDb64 8, tIf 5 eu ev, tIf 6 ru rv]) (.inl rfl) rfl (hr1 Tryd.results30 (rvt (v := (.string _)) rfl)) [0] [] [_] [] [] _ rfl rfl (by kernel_rfl) rfl impl_nil (.inr ⟨px4, (p + 1), textR_bad (by assumption) (fun t ht hb => by rw [HQI] at ht; first | (rw [hpn4 (by assumption)] at ht; cases ht) | (rw [hpy4 (by assumption)] at ht; cases ht; omega)), by omega, rfl, rfl, rfl⟩)
  · refine ⟨trivial, ?_⟩
    refine not_ rfl ?_
    refine jt ?_
    refine c_true rfl ?_
    refine c_seq ?_
    refine c_reg ?_
    refine asg (.string _) rfl ?_
    refine jt ?_
    refine c_ret ?_
    exact j_end (own0 := [[(b, .cells (cat [pt s, p1 (.int .i64 ((p : Nat) : Int)), p1 (.bool false)]) 56)]]) (ro0 := [tDb64 8, tIf 5 eu ev, tIf 6 ru rv]) (.inl rfl) rfl (hr1 Tryd.results30 (rvt (v := (.string _)) rfl)) [0] [] [_] [] [] _ rfl rfl (by kernel_rfl) rfl impl_nil (.inr ⟨[], _, textR_no (by assumption), by omega, rfl, rfl, rfl⟩)
end Go.Proofs.YthpbiamicidakaaDoor
namespace Go.Proofs.YthpbiamicidakaaDoor
open Go Go.Proofs Go.PW
open Go.PW.Enc (enc val)
set_option maxRecDepth 20000 in
set_option maxHeartbeats 4000000 in
theorem marks_ct (b : Nat) (s : Str) (p : Nat) (hs : s.length ≤ 140737488351232) (hp : p ≤ s.length) (eu : TypeId) (ev : Value) (ru : TypeId) (rv : Value) : Ct Tryd.prog 31 [.pointer (some ⟨b, 0, none⟩)] [[(b, .cells (cat [pt s, p1 (.int .i64 ((p : Nat) : Int)), p1 (.bool false)]) 56)]] [tPow10 3, tIf 5 eu ev, tIf 6 ru rv] (fun v o r => (∃ (o' : Ow) (ms : List UInt32) (q : Nat), marksR s 102 [] 0 p = .inr (ms, q) ∧ (q ≤ s.length ∧ ms.length ≤ 101) ∧ o'.ok ms ∧ v = .slice o'.adr ms.length o'.cap ∧ o = [[(b, .cells (cat [pt s, p1 (.int .i64 ((q : Nat) : Int)), p1 (.bool false)]) 56)], o'.seg ms 47] ∧ r = []) ∨ (∃ (o' : Ow) (ms : List UInt32) (q : Nat), marksR s 102 [] 0 p = .inl q ∧ (q ≤ s.length ∧ ms.length ≤ 101) ∧ o'.ok ms ∧ v = .slice o'.adr ms.length o'.cap ∧ o = [[(b, .cells (cat [pt s, p1 (.int .i64 ((q : Nat) : Int)), p1 (.bool true)]) 56)], o'.seg ms 47] ∧ r = [])) := by
  refine ct_enter Tryd.func31 rfl Tryd.ntmps31 (by kernel_rfl) rfl fun w0 => ?_
  refine c_seq ?_
  refine c_reg ?_
  refine asg (.slice _ _ _) rfl ?_
  refine jt ?_
  refine c_seq ?_
  refine c_reg ?_
  refine asg (.slice _ _ _) rfl ?_
  refine jt ?_
  refine c_seq ?_
  refine c_reg ?_
  refine asg (.int _ _) rfl ?_
  refine jt ?_
  refine c_seq ?_
  refine c_block ?_
  refine c_addE ?_
  refine c_loop (σ := List UInt32 × Ow × UInt64 × Nat × Bool) (fun (ms, o, least, q, bad) => o.ok ms ∧ MK s p ms least.toNat q bad) (fun (ms, o, least, q, bad) => if bad = true then 0 else 102 - ms.length) (fun (ms, o, least, q, bad) => [(3, .slice o.adr ms.length o.cap), (4, .int .u64 (least.toNat : Int))]) (fun (ms, o, least, q, bad) => [[(b, .cells (cat [pt s, p1 (.int .i64 ((q : Nat) : Int)), p1 (.bool bad)]) 56)], o.seg ms 47]) (fun (ms, o, least, q, bad) => [tPow10 3, tIf 5 eu ev, tIf 6 ru rv]) [3, 4, 5, 6, 7, 8, 9, 10, 11, 12, 13, 14, 15, 16, 17, 18, 19, 20, 21, 22, 23, 24, 25, 26, 27, 28, 29, 30, 31, 32, 33, 34, 35, 36, 37, 38, 39, 40, 41, 42, 43, 44, 45, 46, 47, 48, 49, 50, 51, 52, 53, 54, 55, 56, 57, 58, 59, 60] ([], Ow.nil, 0, p, false) (⟨Ow.nil_ok, MK.start hp⟩) ⟨rfl, rfl, trivial⟩ rfl rfl ?_
  rintro ⟨ms, o, least, q, bad⟩ g1 hI1
  try dsimp only at hI1 ⊢
  have HQ := hI1.2.qle
  have HMS := hI1.2.len
  refine c_seq ?_
  refine c_seq ?_
  refine c_dr [_, _, _, _, _] [] [(0, 0), (1, 0), (2, 0), (3, 0), (4, 0), (5, 0), (6, 0), (7, 0), (8, 0), (9, 0), (10, 0), (11, 0), (12, 0), (13, 0), (14, 0), (15, 0), (16, 0), (17, 0), (18, 0), (19, 0), (20, 0), (21, 0)] follows (by kernel_rfl) calm_body (keepS [0, 1, 2, 3, 4] rfl) ?_
  refine mv (.pointer _) rfl ?_
  refine nlc rfl ?_
  refine fad rfl Tryd.underlying56 rfl ty4.sz ?_
  refine ldp 0 2 _ rfl rfl rfl rfl ty4 ?_
  refine not_ rfl ?_
  refine mv (.bool _) rfl ?_
  refine jsplit 12 rfl (fun h1 => ?_) (fun h1 => ?_)
  · refine g_on rfl rfl rfl ?_
    refine mv (.slice _ _ _) rfl ?_
    refine g_on rfl rfl rfl ?_
    refine lenS rfl Tryd.underlying22 ?_
    refine g_on rfl rfl rfl ?_
    refine cmp _ rfl rfl rfl ?_
    refine g_on rfl rfl rfl ?_
    refine mv (.bool _) rfl ?_
    refine jsplit 16 rfl (fun h2 => ?_) (fun h2 => ?_)
    · replace h2 := of_decide_eq_true h2
      refine g_off rfl rfl rfl rfl ?_
      refine g_off rfl rfl rfl rfl ?_
      refine g_off rfl rfl rfl rfl ?_
      refine g_off rfl rfl rfl rfl ?_
      refine g_off rfl rfl rfl rfl ?_
      refine g_off rfl rfl rfl rfl ?_
      refine g_off rfl rfl rfl rfl ?_
      refine g_off rfl rfl rfl rfl ?_
      refine g_off rfl rfl rfl rfl ?_
      refine g_off rfl rfl rfl rfl ?_
      refine g_on rfl rfl rfl ?_
      refine pkt (.bool _) rfl rfl ?_
      refine pkt (.bool _) rfl rfl ?_
      refine jt ?_
      refine c_true rfl ?_
      refine c_skip ?_
      refine e_then ?_
      refine c_block ?_
      refine c_seq ?_
      obtain rfl : bad = false := notT (by assumption)
      refine c_reg ?_
      refine mv (.pointer _) rfl ?_
      refine nlc rfl ?_
      refine fad rfl Tryd.underlying56 rfl ty3.sz ?_
      refine ldp 0 1 _ rfl rfl rfl rfl ty3 ?_
      refine asg (.int _ _) rfl ?_
      refine jt ?_
      refine c_seq ?_
      refine c_reg ?_
      refine mv (.pointer _) rfl ?_
      refine mv (.int _ _) rfl ?_
      refine cal (number_ct b s q (by omega) (by omega) least (4294967295 : UInt64) eu ev ru rv) [0] [1] [_] rfl rfl rfl (by kernel_rfl) (impl_cons (impl_at 0 rfl) (impl_cons (impl_at 1 rfl) (impl_cons (impl_at 2 rfl) impl_nil))) rfl ?_; rintro _ _ _ (⟨nn1, nq1, hnm1, rfl, rfl, rfl⟩ | ⟨nn1, nq1, hnm1, hnm1b, rfl, rfl, rfl⟩)
      · have hnm1b := numR_next hnm1; refine ⟨trivial, ?_⟩
        refine asg (.int _ _) rfl ?_
        refine jt ?_
        refine c_seq ?_
        refine c_seq ?_
        refine c_reg ?_
        refine mv (.pointer _) rfl ?_
        refine nlc rfl ?_
        refine fad rfl Tryd.underlying56 rfl ty4.sz ?_
        refine ldp 1 2 _ rfl rfl rfl rfl ty4 ?_
        refine not_ rfl ?_
        refine mv (.bool _) rfl ?_
        refine g_on rfl rfl rfl ?_
        refine mv (.slice _ _ _) rfl ?_
        refine g_on rfl rfl rfl ?_
        refine lenS rfl Tryd.underlying22 ?_
        refine g_on rfl rfl rfl ?_
        refine cmp _ rfl rfl rfl ?_
        refine pkt (.bool _) rfl rfl ?_
        refine jt ?_
        refine c_cond rfl (fun h3 => ?_) (fun h3 => ?_)
        · replace h3 := of_decide_eq_true h3
          refine c_reg ?_
          refine mv (.pointer _) rfl ?_
          refine mv (.pointer _) rfl ?_
          refine mv (.int _ _) rfl ?_
          refine addi rfl rfl rfl (by omega) ?_
          refine nlc rfl ?_
          refine fad rfl Tryd.underlying56 rfl ty3.sz ?_
          refine stp 1 1 _ (p1 (.int .i64 (((q : Nat) : Int) + 1))) rfl rfl rfl rfl rfl rfl ty3 ⟨trivial, ?_⟩
          refine nlc rfl ?_
          refine fad rfl Tryd.underlying56 rfl ty4.sz ?_
          refine stp 1 2 _ (p1 (.bool true)) rfl rfl rfl rfl rfl rfl ty4 ⟨trivial, ?_⟩
          refine jt ?_
          refine c_seq ?_
          refine c_reg ?_
          refine mv (.slice _ _ _) rfl ?_
          refine mv (.int _ _) rfl ?_
          refine cvNU32 (n := nn1.toNat) rfl Tryd.underlying23 Tryd.underlying47 ?_
          refine bsl (α := UInt32) ([(UInt32.ofNat nn1.toNat)]) Tryd.underlying22 ty47.sz rfl (by decide) z47 rfl fun b57 => ⟨trivial, ?_⟩
          refine app 0 o ms ([(UInt32.ofNat nn1.toNat)] : List UInt32) hI1.1 rfl ⟨rfl, rfl, rfl⟩ rfl rfl (gives_own (ys := ([(UInt32.ofNat nn1.toNat)] : List UInt32)) (pre := []) (post := []) 2 rfl (by simp) rfl) Tryd.underlying22 Tryd.underlying22 (.inl ⟨_, rfl⟩) ty47.sz by47 z47 rfl (by simp; omega) rfl fun o58_2 hk58_2 => ⟨trivial, ?_⟩
          refine asg (.slice _ _ _) rfl ?_
          refine jt ?_
          refine c_reg ?_
          refine mv (.int _ _) rfl ?_
          refine addU64 (a := nn1) (b := (1 : UInt64)) rfl rfl ?_
          refine asg (.int _ _) rfl ?_
          refine jn ?_
          refine e_in ?_
          refine e_keep [1, 0] [2] [_, _] rfl (by kernel_rfl) ?_
          exact e_loop ((ms ++ ([(UInt32.ofNat nn1.toNat)] : List UInt32)), o58_2, (nn1 + (1 : UInt64)), (q + 1), true) (⟨hk58_2, by (try dsimp only); exact MK.full hI1.2 (by omega) hnm1 (by omega) (by omega)⟩) (mk_less hI1.2 rfl (by simp)) (⟨rfl, rfl, trivial⟩) rfl rfl rfl
        · replace h3 := of_decide_eq_false h3
          refine c_skip ?_
          refine e_then ?_
          refine c_seq ?_
          refine c_reg ?_
          refine mv (.slice _ _ _) rfl ?_
          refine mv (.int _ _) rfl ?_
          refine cvNU32 (n := nn1.toNat) rfl Tryd.underlying23 Tryd.underlying47 ?_
          refine bsl (α := UInt32) ([(UInt32.ofNat nn1.toNat)]) Tryd.underlying22 ty47.sz rfl (by decide) z47 rfl fun b57 => ⟨trivial, ?_⟩
          refine app 0 o ms ([(UInt32.ofNat nn1.toNat)] : List UInt32) hI1.1 rfl ⟨rfl, rfl, rfl⟩ rfl rfl (gives_own (ys := ([(UInt32.ofNat nn1.toNat)] : List UInt32)) (pre := []) (post := []) 2 rfl (by simp) rfl) Tryd.underlying22 Tryd.underlying22 (.inl ⟨_, rfl⟩) ty47.sz by47 z47 rfl (by simp; omega) rfl fun o58_3 hk58_3 => ⟨trivial, ?_⟩
          refine asg (.slice _ _ _) rfl ?_
          refine jt ?_
          refine c_reg ?_
          refine mv (.int _ _) rfl ?_
          refine addU64 (a := nn1) (b := (1 : UInt64)) rfl rfl ?_
          refine asg (.int _ _) rfl ?_
          refine jn ?_
          refine e_in ?_
          refine e_keep [1, 0] [2] [_, _] rfl (by kernel_rfl) ?_
          exact e_loop ((ms ++ ([(UInt32.ofNat nn1.toNat)] : List UInt32)), o58_3, (nn1 + (1 : UInt64)), nq1, false) (⟨hk58_3, by (try dsimp only); rw [u64_suc hnm1b.2.2.2]; exact MK.go hI1.2 (by omega) hnm1 (by omega) (by omega) hnm1b.2.2.2⟩) (mk_less hI1.2 rfl (by simp)) (⟨rfl, rfl, trivial⟩) rfl rfl rfl
      · refine ⟨trivial, ?_⟩
        refine asg (.int _ _) rfl ?_
        refine jt ?_
        refine c_seq ?_
        refine c_seq ?_
        refine c_reg ?_
        refine mv (.pointer _) rfl ?_
        refine nlc rfl ?_
        refine fad rfl Tryd.underlying56 rfl ty4.sz ?_
        refine ldp 1 2 _ rfl rfl rfl rfl ty4 ?_
        refine not_ rfl ?_
        refine mv (.bool _) rfl ?_
        refine g_off rfl rfl rfl rfl ?_
        refine g_off rfl rfl rfl rfl ?_
        refine g_off rfl rfl rfl rfl ?_
        refine pkf (.bool _) rfl rfl ?_
        refine jt ?_
        refine c_false rfl ?_
        refine c_skip ?_
        refine e_then ?_
        refine c_seq ?_
        refine c_reg ?_
        refine mv (.slice _ _ _) rfl ?_
        refine mv (.int _ _) rfl ?_
        refine cvNU32 (n := nn1.toNat) rfl Tryd.underlying23 Tryd.underlying47 ?_
        refine bsl (α := UInt32) ([(UInt32.ofNat nn1.toNat)]) Tryd.underlying22 ty47.sz rfl (by decide) z47 rfl fun b57 => ⟨trivial, ?_⟩
        refine app 0 o ms ([(UInt32.ofNat nn1.toNat)] : List UInt32) hI1.1 rfl ⟨rfl, rfl, rfl⟩ rfl rfl (gives_own (ys := ([(UInt32.ofNat nn1.toNat)] : List UInt32)) (pre := []) (post := []) 2 rfl (by simp) rfl) Tryd.underlying22 Tryd.underlying22 (.inl ⟨_, rfl⟩) ty47.sz by47 z47 rfl (by simp; omega) rfl fun o58_4 hk58_4 => ⟨trivial, ?_⟩
        refine asg (.slice _ _ _) rfl ?_
        refine jt ?_
        refine c_reg ?_
        refine mv (.int _ _) rfl ?_
        refine addU64 (a := nn1) (b := (1 : UInt64)) rfl rfl ?_
        refine asg (.int _ _) rfl ?_
        refine jn ?_
        refine e_in ?_
        refine e_keep [1, 0] [2] [_, _] rfl (by kernel_rfl) ?_
        exact e_loop ((ms ++ ([(UInt32.ofNat nn1.toNat)] : List UInt32)), o58_4, (nn1 + (1 : UInt64)), nq1, true) (⟨hk58_4, by (try dsimp only); exact MK.fail hI1.2 (by omega) hnm1 (by omega)⟩) (mk_less hI1.2 rfl (by simp)) (⟨rfl, rfl, trivial⟩) rfl rfl rfl
    · replace h2 := of_decide_eq_false h2
      refine g_on rfl rfl rfl ?_
      refine mv (.pointer _) rfl ?_
      refine g_on rfl rfl rfl ?_
      refine nlc rfl ?_
      refine g_on rfl rfl rfl ?_
      refine fad rfl Tryd.underlying56 rfl ty3.sz ?_
      refine g_on rfl rfl rfl ?_
      refine ldp 0 1 _ rfl rfl rfl rfl ty3 ?_
      refine g_on rfl rfl rfl ?_
      refine mv (.pointer _) rfl ?_
      refine g_on rfl rfl rfl ?_
      refine nlc rfl ?_
      refine g_on rfl rfl rfl ?_
      refine fad rfl Tryd.underlying56 rfl ty9.sz ?_
      refine g_on rfl rfl rfl ?_
      refine ldp 0 0 _ rfl rfl rfl rfl ty9 ?_
      refine g_on rfl rfl rfl ?_
      refine lenT (s := s) rfl Tryd.underlying9 ?_
      refine g_on rfl rfl rfl ?_
      refine cmp _ rfl rfl rfl ?_
      refine g_on rfl rfl rfl ?_
      refine pkf (.bool _) rfl rfl ?_
      refine pkt (.bool _) rfl rfl ?_
      refine jt ?_
      refine c_cond rfl (fun h4 => ?_) (fun h4 => ?_)
      · replace h4 := of_decide_eq_true h4
        refine c_skip ?_
        refine e_then ?_
        refine c_block ?_
        refine c_seq ?_
        obtain rfl : bad = false := notT (by assumption)
        refine c_reg ?_
        refine mv (.pointer _) rfl ?_
        refine nlc rfl ?_
        refine fad rfl Tryd.underlying56 rfl ty3.sz ?_
        refine ldp 0 1 _ rfl rfl rfl rfl ty3 ?_
        refine asg (.int _ _) rfl ?_
        refine jt ?_
        refine c_seq ?_
        refine c_reg ?_
        refine mv (.pointer _) rfl ?_
        refine mv (.int _ _) rfl ?_
        refine cal (number_ct b s q (by omega) (by omega) least (4294967295 : UInt64) eu ev ru rv) [0] [1] [_] rfl rfl rfl (by kernel_rfl) (impl_cons (impl_at 0 rfl) (impl_cons (impl_at 1 rfl) (impl_cons (impl_at 2 rfl) impl_nil))) rfl ?_; rintro _ _ _ (⟨nn5, nq5, hnm5, rfl, rfl, rfl⟩ | ⟨nn5, nq5, hnm5, hnm5b, rfl, rfl, rfl⟩)
        · have hnm5b := numR_next hnm5; refine ⟨trivial, ?_⟩
          refine asg (.int _ _) rfl ?_
          refine jt ?_
          refine c_seq ?_
          refine c_seq ?_
          refine c_reg ?_
          refine mv (.pointer _) rfl ?_
          refine nlc rfl ?_
          refine fad rfl Tryd.underlying56 rfl ty4.sz ?_
          refine ldp 1 2 _ rfl rfl rfl rfl ty4 ?_
          refine not_ rfl ?_
          refine mv (.bool _) rfl ?_
          refine g_on rfl rfl rfl ?_
          refine mv (.slice _ _ _) rfl ?_
          refine g_on rfl rfl rfl ?_
          refine lenS rfl Tryd.underlying22 ?_
          refine g_on rfl rfl rfl ?_
          refine cmp _ rfl rfl rfl ?_
          refine pkt (.bool _) rfl rfl ?_
          refine jt ?_
          refine c_cond rfl (fun h5 => ?_) (fun h5 => ?_)
          · replace h5 := of_decide_eq_true h5
            refine c_reg ?_
            refine mv (.pointer _) rfl ?_
            refine mv (.pointer _) rfl ?_
            refine mv (.int _ _) rfl ?_
            refine addi rfl rfl rfl (by omega) ?_
            refine nlc rfl ?_
            refine fad rfl Tryd.underlying56 rfl ty3.sz ?_
            refine stp 1 1 _ (p1 (.int .i64 (((q : Nat) : Int) + 1))) rfl rfl rfl rfl rfl rfl ty3 ⟨trivial, ?_⟩
            refine nlc rfl ?_
            refine fad rfl Tryd.underlying56 rfl ty4.sz ?_
            refine stp 1 2 _ (p1 (.bool true)) rfl rfl rfl rfl rfl rfl ty4 ⟨trivial, ?_⟩
            refine jt ?_
            refine c_seq ?_
            refine c_reg ?_
            refine mv (.slice _ _ _) rfl ?_
            refine mv (.int _ _) rfl ?_
            refine cvNU32 (n := nn5.toNat) rfl Tryd.underlying23 Tryd.underlying47 ?_
            refine bsl (α := UInt32) ([(UInt32.ofNat nn5.toNat)]) Tryd.underlying22 ty47.sz rfl (by decide) z47 rfl fun b57 => ⟨trivial, ?_⟩
            refine app 0 o ms ([(UInt32.ofNat nn5.toNat)] : List UInt32) hI1.1 rfl ⟨rfl, rfl, rfl⟩ rfl rfl (gives_own (ys := ([(UInt32.ofNat nn5.toNat)] : List UInt32)) (pre := []) (post := []) 2 rfl (by simp) rfl) Tryd.underlying22 Tryd.underlying22 (.inl ⟨_, rfl⟩) ty47.sz by47 z47 rfl (by simp; omega) rfl fun o58_6 hk58_6 => ⟨trivial, ?_⟩
            refine asg (.slice _ _ _) rfl ?_
            refine jt ?_
            refine c_reg ?_
            refine mv (.int _ _) rfl ?_
            refine addU64 (a := nn5) (b := (1 : UInt64)) rfl rfl ?_
            refine asg (.int _ _) rfl ?_
            refine jn ?_
            refine e_in ?_
            refine e_keep [1, 0] [2] [_, _] rfl (by kernel_rfl) ?_
            exact e_loop ((ms ++ ([(UInt32.ofNat nn5.toNat)] : List UInt32)), o58_6, (nn5 + (1 : UInt64)), (q + 1), true) (⟨hk58_6, by (try dsimp only); exact MK.full hI1.2 (by omega) hnm5 (by omega) (by omega)⟩) (mk_less hI1.2 rfl (by simp)) (⟨rfl, rfl, trivial⟩) rfl rfl rfl
          · replace h5 := of_decide_eq_false h5
            refine c_skip ?_
            refine e_then ?_
            refine c_seq ?_
            refine c_reg ?_
            refine mv (.slice _ _ _) rfl ?_
            refine mv (.int _ _) rfl ?_
            refine cvNU32 (n := nn5.toNat) rfl Tryd.underlying23 Tryd.underlying47 ?_
            refine bsl (α := UInt32) ([(UInt32.ofNat nn5.toNat)]) Tryd.underlying22 ty47.sz rfl (by decide) z47 rfl fun b57 => ⟨trivial, ?_⟩
            refine app 0 o ms ([(UInt32.ofNat nn5.toNat)] : List UInt32) hI1.1 rfl ⟨rfl, rfl, rfl⟩ rfl rfl (gives_own (ys := ([(UInt32.ofNat nn5.toNat)] : List UInt32)) (pre := []) (post := []) 2 rfl (by simp) rfl) Tryd.underlying22 Tryd.underlying22 (.inl ⟨_, rfl⟩) ty47.sz by47 z47 rfl (by simp; omega) rfl fun o58_7 hk58_7 => ⟨trivial, ?_⟩
            refine asg (.slice _ _ _) rfl ?_
            refine jt ?_
            refine c_reg ?_
            refine mv (.int _ _) rfl ?_
            refine addU64 (a := nn5) (b := (1 : UInt64)) rfl rfl ?_
            refine asg (.int _ _) rfl ?_
            refine jn ?_
            refine e_in ?_
            refine e_keep [1, 0] [2] [_, _] rfl (by kernel_rfl) ?_
            exact e_loop ((ms ++ ([(UInt32.ofNat nn5.toNat)] : List UInt32)), o58_7, (nn5 + (1 : UInt64)), nq5, false) (⟨hk58_7, by (try dsimp only); rw [u64_suc hnm5b.2.2.2]; exact MK.go hI1.2 (by omega) hnm5 (by omega) (by omega) hnm5b.2.2.2⟩) (mk_less hI1.2 rfl (by simp)) (⟨rfl, rfl, trivial⟩) rfl rfl rfl
        · refine ⟨trivial, ?_⟩
          refine asg (.int _ _) rfl ?_
          refine jt ?_
          refine c_seq ?_
          refine c_seq ?_
          refine c_reg ?_
          refine mv (.pointer _) rfl ?_
          refine nlc rfl ?_
          refine fad rfl Tryd.underlying56 rfl ty4.sz ?_
          refine ldp 1 2 _ rfl rfl rfl rfl ty4 ?_
          refine not_ rfl ?_
          refine mv (.bool _) rfl ?_
          refine g_off rfl rfl rfl rfl ?_
          refine g_off rfl rfl rfl rfl ?_
          refine g_off rfl rfl rfl rfl ?_
          refine pkf (.bool _) rfl rfl ?_
          refine jt ?_
          refine c_false rfl ?_
          refine c_skip ?_
          refine e_then ?_
          refine c_seq ?_
          refine c_reg ?_
          refine mv (.slice _ _ _) rfl ?_
          refine mv (.int _ _) rfl ?_
          refine cvNU32 (n := nn5.toNat) rfl Tryd.underlying23 Tryd.underlying47 ?_
          refine bsl (α := UInt32) ([(UInt32.ofNat nn5.toNat)]) Tryd.underlying22 ty47.sz rfl (by decide) z47 rfl fun b57 => ⟨trivial, ?_⟩
          refine app 0 o ms ([(UInt32.ofNat nn5.toNat)] : List UInt32) hI1.1 rfl ⟨rfl, rfl, rfl⟩ rfl rfl (gives_own (ys := ([(UInt32.ofNat nn5.toNat)] : List UInt32)) (pre := []) (post := []) 2 rfl (by simp) rfl) Tryd.underlying22 Tryd.underlying22 (.inl ⟨_, rfl⟩) ty47.sz by47 z47 rfl (by simp; omega) rfl fun o58_8 hk58_8 => ⟨trivial, ?_⟩
          refine asg (.slice _ _ _) rfl ?_
          refine jt ?_
          refine c_reg ?_
          refine mv (.int _ _) rfl ?_
          refine addU64 (a := nn5) (b := (1 : UInt64)) rfl rfl ?_
          refine asg (.int _ _) rfl ?_
          refine jn ?_
          refine e_in ?_
          refine e_keep [1, 0] [2] [_, _] rfl (by kernel_rfl) ?_
          exact e_loop ((ms ++ ([(UInt32.ofNat nn5.toNat)] : List UInt32)), o58_8, (nn5 + (1 : UInt64)), nq5, true) (⟨hk58_8, by (try dsimp only); exact MK.fail hI1.2 (by omega) hnm5 (by omega)⟩) (mk_less hI1.2 rfl (by simp)) (⟨rfl, rfl, trivial⟩) rfl rfl rfl
      · replace h4 := of_decide_eq_false h4
        refine c_exit rfl ?_
        refine e_then ?_
        refine c_seq ?_
        obtain rfl : bad = false := notT (by assumption)
        refine c_reg ?_
        refine mv (.slice _ _ _) rfl ?_
        refine asg (.slice _ _ _) rfl ?_
        refine jt ?_
        refine c_ret ?_
        exact j_end (own0 := [[(b, .cells (cat [pt s, p1 (.int .i64 ((p : Nat) : Int)), p1 (.bool false)]) 56)]]) (ro0 := [tPow10 3, tIf 5 eu ev, tIf 6 ru rv]) (.inl rfl) rfl (hr1 Tryd.results31 (rvt (v := (.slice _ _ _)) rfl)) [0, 1] [] [_, _] [] [] _ rfl rfl (by kernel_rfl) rfl impl_nil (.inl ⟨o, ms, q, (hI1.2.good rfl).2.2 (by omega), ⟨HQ, HMS⟩, hI1.1, rfl, rfl, rfl⟩)
  · refine g_off rfl rfl rfl rfl ?_
    refine g_off rfl rfl rfl rfl ?_
    refine g_off rfl rfl rfl rfl ?_
    refine g_off rfl rfl rfl rfl ?_
    refine g_und rfl rfl rfl ?_
    refine g_und rfl rfl rfl ?_
    refine g_und rfl rfl rfl ?_
    refine g_und rfl rfl rfl ?_
    refine g_und rfl rfl rfl ?_
    refine g_und rfl rfl rfl ?_
    refine g_und rfl rfl rfl ?_
    refine g_und rfl rfl rfl ?_
    refine g_und rfl rfl rfl ?_
    refine g_und rfl rfl rfl ?_
    refine g_off rfl rfl rfl rfl ?_
    refine pkf (.bool _) rfl rfl ?_
    refine jt ?_
    refine c_false rfl ?_
    refine c_exit rfl ?_
    refine e_then ?_
    refine c_seq ?_
    obtain rfl : bad = true := notF (by assumption)
    refine c_reg ?_
    refine mv (.slice _ _ _) rfl ?_
    refine asg (.slice _ _ _) rfl ?_
    refine jt ?_
    refine c_ret ?_
    exact j_end (own0 := [[(b, .cells (cat [pt s, p1 (.int .i64 ((p : Nat) : Int)), p1 (.bool false)]) 56)]]) (ro0 := [tPow10 3, tIf 5 eu ev, tIf 6 ru rv]) (.inl rfl) rfl (hr1 Tryd.results31 (rvt (v := (.slice _ _ _)) rfl)) [0, 1] [] [_, _] [] [] _ rfl rfl (by kernel_rfl) rfl impl_nil (.inr ⟨o, ms, q, hI1.2.bad rfl, ⟨HQ, HMS⟩, hI1.1, rfl, rfl, rfl⟩)
end Go.Proofs.YthpbiamicidakaaDoor
namespace Go.PW
open Go
def parseR (s : Str) : PR (Con × List UInt32) :=
  if word s 0 = [116, 101, 120, 116] then bindR (textR s 0 2000 (word s 0).length) fun t q0 => endR s q0 (⟨1, t, ⟨0⟩, ⟨0⟩, 0, zarr⟩, [])
  else if word s 0 = [99, 97, 109, 101] then bindR (marksR s 102 [] 0 (word s 0).length) fun l q0 => endR s q0 (⟨2, [], ⟨0⟩, ⟨0⟩, 1, zarr⟩, l)
  else if word s 0 = [114, 101, 97, 100] then bindR (marksR s 102 [] 0 (word s 0).length) fun l q0 => endR s q0 (⟨2, [], ⟨0⟩, ⟨0⟩, 2, zarr⟩, l)
  else if word s 0 = [112, 108, 97, 99, 101] then bindR (degR s ⟨4636033603912859648⟩ (word s 0).length) fun a q0 => bindR (degR s ⟨4640537203540230144⟩ q0) fun b q1 => bindR (textR s 0 200 q1) fun t q2 => endR s q2 (⟨3, t, a, b, 0, zarr⟩, [])
  else if word s 0 = [114, 101, 97, 99, 116] then bindR (numR s 0 4294967295 (word s 0).length) fun n q0 => bindR (textR s 1 64 q0) fun t q1 => endR s q1 (⟨4, t, ⟨0⟩, ⟨0⟩, UInt64.ofNat n, zarr⟩, [])
  else if word s 0 = [116, 105, 109, 101, 114] then bindR (numR s 0 31536000 (word s 0).length) fun n q0 => endR s q0 (⟨5, [], ⟨0⟩, ⟨0⟩, UInt64.ofNat n, zarr⟩, [])
  else if word s 0 = [102, 105, 108, 101] then bindR (textR s 1 255 (word s 0).length) fun t q0 => bindR (numR s 0 1099511627776 q0) fun n q1 => bindR (hexR s 32 q1) fun w q2 => endR s q2 (⟨6, t, ⟨0⟩, ⟨0⟩, UInt64.ofNat n, mkKey (hexb w 32)⟩, [])
  else .inl 0
theorem parse_text_f0 {s : Str} {q : Nat} (hw : word s 0 = [116, 101, 120, 116]) (h : textR s 0 2000 (word s 0).length = .inl q) : parseR s = .inl q := by
  unfold parseR; rw [if_pos hw]; rw [bindR_l h]
theorem parse_text_e {s : Str} {t : Str} {q0 : Nat} (hw : word s 0 = [116, 101, 120, 116]) (h0 : textR s 0 2000 (word s 0).length = .inr (t, q0)) (he : q0 < s.length) : parseR s = .inl q0 := by
  unfold parseR; rw [if_pos hw]; rw [bindR_r h0]; (try dsimp only); rw [endR_l he]
theorem parse_text {s : Str} {t : Str} {q0 : Nat} (hw : word s 0 = [116, 101, 120, 116]) (h0 : textR s 0 2000 (word s 0).length = .inr (t, q0)) (he : ¬ q0 < s.length) : parseR s = .inr ((⟨1, t, ⟨0⟩, ⟨0⟩, 0, zarr⟩, []), q0) := by
  unfold parseR; rw [if_pos hw]; rw [bindR_r h0]; (try dsimp only); rw [endR_r he]
theorem parse_came_f0 {s : Str} {q : Nat} (hw : word s 0 = [99, 97, 109, 101]) (h : marksR s 102 [] 0 (word s 0).length = .inl q) : parseR s = .inl q := by
  unfold parseR; rw [if_neg (by rw [hw]; decide), if_pos hw]; rw [bindR_l h]
theorem parse_came_e {s : Str} {l : List UInt32} {q0 : Nat} (hw : word s 0 = [99, 97, 109, 101]) (h0 : marksR s 102 [] 0 (word s 0).length = .inr (l, q0)) (he : q0 < s.length) : parseR s = .inl q0 := by
  unfold parseR; rw [if_neg (by rw [hw]; decide), if_pos hw]; rw [bindR_r h0]; (try dsimp only); rw [endR_l he]
theorem parse_came {s : Str} {l : List UInt32} {q0 : Nat} (hw : word s 0 = [99, 97, 109, 101]) (h0 : marksR s 102 [] 0 (word s 0).length = .inr (l, q0)) (he : ¬ q0 < s.length) : parseR s = .inr ((⟨2, [], ⟨0⟩, ⟨0⟩, 1, zarr⟩, l), q0) := by
  unfold parseR; rw [if_neg (by rw [hw]; decide), if_pos hw]; rw [bindR_r h0]; (try dsimp only); rw [endR_r he]
theorem parse_read_f0 {s : Str} {q : Nat} (hw : word s 0 = [114, 101, 97, 100]) (h : marksR s 102 [] 0 (word s 0).length = .inl q) : parseR s = .inl q := by
  unfold parseR; rw [if_neg (by rw [hw]; decide), if_neg (by rw [hw]; decide), if_pos hw]; rw [bindR_l h]
theorem parse_read_e {s : Str} {l : List UInt32} {q0 : Nat} (hw : word s 0 = [114, 101, 97, 100]) (h0 : marksR s 102 [] 0 (word s 0).length = .inr (l, q0)) (he : q0 < s.length) : parseR s = .inl q0 := by
  unfold parseR; rw [if_neg (by rw [hw]; decide), if_neg (by rw [hw]; decide), if_pos hw]; rw [bindR_r h0]; (try dsimp only); rw [endR_l he]
theorem parse_read {s : Str} {l : List UInt32} {q0 : Nat} (hw : word s 0 = [114, 101, 97, 100]) (h0 : marksR s 102 [] 0 (word s 0).length = .inr (l, q0)) (he : ¬ q0 < s.length) : parseR s = .inr ((⟨2, [], ⟨0⟩, ⟨0⟩, 2, zarr⟩, l), q0) := by
  unfold parseR; rw [if_neg (by rw [hw]; decide), if_neg (by rw [hw]; decide), if_pos hw]; rw [bindR_r h0]; (try dsimp only); rw [endR_r he]
theorem parse_place_f0 {s : Str} {q : Nat} (hw : word s 0 = [112, 108, 97, 99, 101]) (h : degR s ⟨4636033603912859648⟩ (word s 0).length = .inl q) : parseR s = .inl q := by
  unfold parseR; rw [if_neg (by rw [hw]; decide), if_neg (by rw [hw]; decide), if_neg (by rw [hw]; decide), if_pos hw]; rw [bindR_l h]
theorem parse_place_f1 {s : Str} {a : F64} {q0 : Nat} {q : Nat} (hw : word s 0 = [112, 108, 97, 99, 101]) (h0 : degR s ⟨4636033603912859648⟩ (word s 0).length = .inr (a, q0)) (h : degR s ⟨4640537203540230144⟩ q0 = .inl q) : parseR s = .inl q := by
  unfold parseR; rw [if_neg (by rw [hw]; decide), if_neg (by rw [hw]; decide), if_neg (by rw [hw]; decide), if_pos hw]; rw [bindR_r h0]; (try dsimp only); rw [bindR_l h]
theorem parse_place_f2 {s : Str} {a : F64} {q0 : Nat} {b : F64} {q1 : Nat} {q : Nat} (hw : word s 0 = [112, 108, 97, 99, 101]) (h0 : degR s ⟨4636033603912859648⟩ (word s 0).length = .inr (a, q0)) (h1 : degR s ⟨4640537203540230144⟩ q0 = .inr (b, q1)) (h : textR s 0 200 q1 = .inl q) : parseR s = .inl q := by
  unfold parseR; rw [if_neg (by rw [hw]; decide), if_neg (by rw [hw]; decide), if_neg (by rw [hw]; decide), if_pos hw]; rw [bindR_r h0]; (try dsimp only); rw [bindR_r h1]; (try dsimp only); rw [bindR_l h]
theorem parse_place_e {s : Str} {a : F64} {q0 : Nat} {b : F64} {q1 : Nat} {t : Str} {q2 : Nat} (hw : word s 0 = [112, 108, 97, 99, 101]) (h0 : degR s ⟨4636033603912859648⟩ (word s 0).length = .inr (a, q0)) (h1 : degR s ⟨4640537203540230144⟩ q0 = .inr (b, q1)) (h2 : textR s 0 200 q1 = .inr (t, q2)) (he : q2 < s.length) : parseR s = .inl q2 := by
  unfold parseR; rw [if_neg (by rw [hw]; decide), if_neg (by rw [hw]; decide), if_neg (by rw [hw]; decide), if_pos hw]; rw [bindR_r h0]; (try dsimp only); rw [bindR_r h1]; (try dsimp only); rw [bindR_r h2]; (try dsimp only); rw [endR_l he]
theorem parse_place {s : Str} {a : F64} {q0 : Nat} {b : F64} {q1 : Nat} {t : Str} {q2 : Nat} (hw : word s 0 = [112, 108, 97, 99, 101]) (h0 : degR s ⟨4636033603912859648⟩ (word s 0).length = .inr (a, q0)) (h1 : degR s ⟨4640537203540230144⟩ q0 = .inr (b, q1)) (h2 : textR s 0 200 q1 = .inr (t, q2)) (he : ¬ q2 < s.length) : parseR s = .inr ((⟨3, t, a, b, 0, zarr⟩, []), q2) := by
  unfold parseR; rw [if_neg (by rw [hw]; decide), if_neg (by rw [hw]; decide), if_neg (by rw [hw]; decide), if_pos hw]; rw [bindR_r h0]; (try dsimp only); rw [bindR_r h1]; (try dsimp only); rw [bindR_r h2]; (try dsimp only); rw [endR_r he]
theorem parse_react_f0 {s : Str} {q : Nat} (hw : word s 0 = [114, 101, 97, 99, 116]) (h : numR s 0 4294967295 (word s 0).length = .inl q) : parseR s = .inl q := by
  unfold parseR; rw [if_neg (by rw [hw]; decide), if_neg (by rw [hw]; decide), if_neg (by rw [hw]; decide), if_neg (by rw [hw]; decide), if_pos hw]; rw [bindR_l h]
theorem parse_react_f1 {s : Str} {n : Nat} {q0 : Nat} {q : Nat} (hw : word s 0 = [114, 101, 97, 99, 116]) (h0 : numR s 0 4294967295 (word s 0).length = .inr (n, q0)) (h : textR s 1 64 q0 = .inl q) : parseR s = .inl q := by
  unfold parseR; rw [if_neg (by rw [hw]; decide), if_neg (by rw [hw]; decide), if_neg (by rw [hw]; decide), if_neg (by rw [hw]; decide), if_pos hw]; rw [bindR_r h0]; (try dsimp only); rw [bindR_l h]
theorem parse_react_e {s : Str} {n : Nat} {q0 : Nat} {t : Str} {q1 : Nat} (hw : word s 0 = [114, 101, 97, 99, 116]) (h0 : numR s 0 4294967295 (word s 0).length = .inr (n, q0)) (h1 : textR s 1 64 q0 = .inr (t, q1)) (he : q1 < s.length) : parseR s = .inl q1 := by
  unfold parseR; rw [if_neg (by rw [hw]; decide), if_neg (by rw [hw]; decide), if_neg (by rw [hw]; decide), if_neg (by rw [hw]; decide), if_pos hw]; rw [bindR_r h0]; (try dsimp only); rw [bindR_r h1]; (try dsimp only); rw [endR_l he]
theorem parse_react {s : Str} {n : Nat} {q0 : Nat} {t : Str} {q1 : Nat} (hw : word s 0 = [114, 101, 97, 99, 116]) (h0 : numR s 0 4294967295 (word s 0).length = .inr (n, q0)) (h1 : textR s 1 64 q0 = .inr (t, q1)) (he : ¬ q1 < s.length) : parseR s = .inr ((⟨4, t, ⟨0⟩, ⟨0⟩, UInt64.ofNat n, zarr⟩, []), q1) := by
  unfold parseR; rw [if_neg (by rw [hw]; decide), if_neg (by rw [hw]; decide), if_neg (by rw [hw]; decide), if_neg (by rw [hw]; decide), if_pos hw]; rw [bindR_r h0]; (try dsimp only); rw [bindR_r h1]; (try dsimp only); rw [endR_r he]
theorem parse_timer_f0 {s : Str} {q : Nat} (hw : word s 0 = [116, 105, 109, 101, 114]) (h : numR s 0 31536000 (word s 0).length = .inl q) : parseR s = .inl q := by
  unfold parseR; rw [if_neg (by rw [hw]; decide), if_neg (by rw [hw]; decide), if_neg (by rw [hw]; decide), if_neg (by rw [hw]; decide), if_neg (by rw [hw]; decide), if_pos hw]; rw [bindR_l h]
theorem parse_timer_e {s : Str} {n : Nat} {q0 : Nat} (hw : word s 0 = [116, 105, 109, 101, 114]) (h0 : numR s 0 31536000 (word s 0).length = .inr (n, q0)) (he : q0 < s.length) : parseR s = .inl q0 := by
  unfold parseR; rw [if_neg (by rw [hw]; decide), if_neg (by rw [hw]; decide), if_neg (by rw [hw]; decide), if_neg (by rw [hw]; decide), if_neg (by rw [hw]; decide), if_pos hw]; rw [bindR_r h0]; (try dsimp only); rw [endR_l he]
theorem parse_timer {s : Str} {n : Nat} {q0 : Nat} (hw : word s 0 = [116, 105, 109, 101, 114]) (h0 : numR s 0 31536000 (word s 0).length = .inr (n, q0)) (he : ¬ q0 < s.length) : parseR s = .inr ((⟨5, [], ⟨0⟩, ⟨0⟩, UInt64.ofNat n, zarr⟩, []), q0) := by
  unfold parseR; rw [if_neg (by rw [hw]; decide), if_neg (by rw [hw]; decide), if_neg (by rw [hw]; decide), if_neg (by rw [hw]; decide), if_neg (by rw [hw]; decide), if_pos hw]; rw [bindR_r h0]; (try dsimp only); rw [endR_r he]
theorem parse_file_f0 {s : Str} {q : Nat} (hw : word s 0 = [102, 105, 108, 101]) (h : textR s 1 255 (word s 0).length = .inl q) : parseR s = .inl q := by
  unfold parseR; rw [if_neg (by rw [hw]; decide), if_neg (by rw [hw]; decide), if_neg (by rw [hw]; decide), if_neg (by rw [hw]; decide), if_neg (by rw [hw]; decide), if_neg (by rw [hw]; decide), if_pos hw]; rw [bindR_l h]
theorem parse_file_f1 {s : Str} {t : Str} {q0 : Nat} {q : Nat} (hw : word s 0 = [102, 105, 108, 101]) (h0 : textR s 1 255 (word s 0).length = .inr (t, q0)) (h : numR s 0 1099511627776 q0 = .inl q) : parseR s = .inl q := by
  unfold parseR; rw [if_neg (by rw [hw]; decide), if_neg (by rw [hw]; decide), if_neg (by rw [hw]; decide), if_neg (by rw [hw]; decide), if_neg (by rw [hw]; decide), if_neg (by rw [hw]; decide), if_pos hw]; rw [bindR_r h0]; (try dsimp only); rw [bindR_l h]
theorem parse_file_f2 {s : Str} {t : Str} {q0 : Nat} {n : Nat} {q1 : Nat} {q : Nat} (hw : word s 0 = [102, 105, 108, 101]) (h0 : textR s 1 255 (word s 0).length = .inr (t, q0)) (h1 : numR s 0 1099511627776 q0 = .inr (n, q1)) (h : hexR s 32 q1 = .inl q) : parseR s = .inl q := by
  unfold parseR; rw [if_neg (by rw [hw]; decide), if_neg (by rw [hw]; decide), if_neg (by rw [hw]; decide), if_neg (by rw [hw]; decide), if_neg (by rw [hw]; decide), if_neg (by rw [hw]; decide), if_pos hw]; rw [bindR_r h0]; (try dsimp only); rw [bindR_r h1]; (try dsimp only); rw [bindR_l h]
theorem parse_file_e {s : Str} {t : Str} {q0 : Nat} {n : Nat} {q1 : Nat} {w : Str} {q2 : Nat} (hw : word s 0 = [102, 105, 108, 101]) (h0 : textR s 1 255 (word s 0).length = .inr (t, q0)) (h1 : numR s 0 1099511627776 q0 = .inr (n, q1)) (h2 : hexR s 32 q1 = .inr (w, q2)) (he : q2 < s.length) : parseR s = .inl q2 := by
  unfold parseR; rw [if_neg (by rw [hw]; decide), if_neg (by rw [hw]; decide), if_neg (by rw [hw]; decide), if_neg (by rw [hw]; decide), if_neg (by rw [hw]; decide), if_neg (by rw [hw]; decide), if_pos hw]; rw [bindR_r h0]; (try dsimp only); rw [bindR_r h1]; (try dsimp only); rw [bindR_r h2]; (try dsimp only); rw [endR_l he]
theorem parse_file {s : Str} {t : Str} {q0 : Nat} {n : Nat} {q1 : Nat} {w : Str} {q2 : Nat} (hw : word s 0 = [102, 105, 108, 101]) (h0 : textR s 1 255 (word s 0).length = .inr (t, q0)) (h1 : numR s 0 1099511627776 q0 = .inr (n, q1)) (h2 : hexR s 32 q1 = .inr (w, q2)) (he : ¬ q2 < s.length) : parseR s = .inr ((⟨6, t, ⟨0⟩, ⟨0⟩, UInt64.ofNat n, mkKey (hexb w 32)⟩, []), q2) := by
  unfold parseR; rw [if_neg (by rw [hw]; decide), if_neg (by rw [hw]; decide), if_neg (by rw [hw]; decide), if_neg (by rw [hw]; decide), if_neg (by rw [hw]; decide), if_neg (by rw [hw]; decide), if_pos hw]; rw [bindR_r h0]; (try dsimp only); rw [bindR_r h1]; (try dsimp only); rw [bindR_r h2]; (try dsimp only); rw [endR_r he]
theorem parse_none {s : Str} (h0 : ¬ word s 0 = [116, 101, 120, 116]) (h1 : ¬ word s 0 = [99, 97, 109, 101]) (h2 : ¬ word s 0 = [114, 101, 97, 100]) (h3 : ¬ word s 0 = [112, 108, 97, 99, 101]) (h4 : ¬ word s 0 = [114, 101, 97, 99, 116]) (h5 : ¬ word s 0 = [116, 105, 109, 101, 114]) (h6 : ¬ word s 0 = [102, 105, 108, 101]) : parseR s = .inl 0 := by
  unfold parseR; rw [if_neg h0, if_neg h1, if_neg h2, if_neg h3, if_neg h4, if_neg h5, if_neg h6]
theorem mkKey_hex (w : Str) : mkKey (hexb w 32) = ⟨hexb w 32, hrow_length _ _ _⟩ := mkKey_l _
end Go.PW
