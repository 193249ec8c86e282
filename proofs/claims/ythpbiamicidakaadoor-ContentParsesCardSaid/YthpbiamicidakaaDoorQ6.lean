/- Laws of an engine and of the program's functions, gathered. No condition. -/
import Derived.Test.YthpbiamicidakaaDoorQ5
namespace Go.Proofs.YthpbiamicidakaaDoor
open Go Go.Proofs Go.PW
open Go.PW.Enc (enc val)
theorem qend_self {s : Str} {a : Nat} (h : qend s a = a) : ¬(a < s.length ∧ List.getD s a 0 = 34 ∧ qstop s (a + 1) < s.length) := fun hh => by
  have := qstop_ge s.length s (a + 1) (by omega)
  unfold qend at h; rw [if_pos hh] at h; omega
set_option maxRecDepth 20000 in
set_option maxHeartbeats 4000000 in
theorem QuotedB_ct (s : Str) (hu : u8ok s = true) (hl : s.length ≤ 1125899906842624) : Ct Tryd.prog 24 [strV s] [] [tDb64 8] (fun v o r => v = strV (quoteS s) ∧ o = [] ∧ r = []) := by
  refine ct_enter Tryd.func24 rfl Tryd.ntmps24 (by kernel_rfl) rfl fun w0 => ?_
  refine c_seq ?_
  refine c_reg ?_
  refine asg (.string _) rfl ?_
  refine jt ?_
  refine c_seq ?_
  refine c_reg ?_
  refine asg (.string _) rfl ?_
  refine jt ?_
  refine c_seq ?_
  refine c_block ?_
  refine c_loop (σ := Str × Str) (fun (t, q) => u8ok t = true ∧ q ++ qbody t = [34] ++ qbody s ∧ q.length + 70 * t.length ≤ 1 + 70 * s.length) (fun (t, q) => t.length) (fun (t, q) => [(0, strV t), (3, strV q)]) (fun (t, q) => []) (fun (t, q) => [tDb64 8]) [0, 3, 4, 5, 6, 7, 8, 9, 10, 11, 12, 13, 14, 15, 16, 17, 18, 19, 20, 21, 22, 23, 24, 25, 26, 27, 28, 29, 30, 31, 32, 33, 34, 35, 36, 37, 38, 39, 40, 41, 42, 43, 44, 45, 46] (s, [34]) (⟨hu, rfl, by simp⟩) ⟨rfl, rfl, trivial⟩ rfl rfl ?_
  rintro ⟨t, q⟩ g1 hI1
  try dsimp only at hI1 ⊢
  refine c_seq ?_
  refine c_seq ?_
  refine c_reg ?_
  refine mv (.string _) rfl ?_
  refine lenT (s := t) rfl Tryd.underlying9 ?_
  refine cmp _ rfl rfl rfl ?_
  refine jt ?_
  refine c_cond rfl (fun h1 => ?_) (fun h1 => ?_)
  · replace h1 := of_decide_eq_true h1
    refine c_skip ?_
    refine e_then ?_
    refine c_block ?_
    refine c_seq ?_
    have HS := u8ok_step hI1.1 (by omega)
    have HSL := u8step_le HS (by omega)
    have HB := chr_lt t
    have HF := (fmtN_length 16 (UInt64.ofNat (chr t)).toNat).2
    have HPL := pad_length (k := 1) (s := fmtN 16 (UInt64.ofNat (chr t)).toNat)
    refine c_reg ?_
    refine mv (.string _) rfl ?_
    refine cal (character_ct t HS (by omega)) [] [] [] rfl rfl rfl (by kernel_rfl) impl_nil rfl ?_; rintro _ _ _ ⟨rfl, rfl, rfl⟩; refine ⟨trivial, ?_⟩
    refine mv (.tuple _) rfl ?_
    refine xtr (.int _ _) rfl rfl ?_
    refine xtr (.int _ _) rfl rfl ?_
    refine asg (.int _ _) rfl ?_
    refine asg (.int _ _) rfl ?_
    refine jt ?_
    refine c_seq ?_
    refine c_block ?_
    refine c_seq ?_
    refine c_reg ?_
    refine mv (.int _ _) rfl ?_
    refine cmp _ rfl rfl rfl ?_
    refine mv (.bool _) rfl ?_
    refine jsplit 24 rfl (fun h2 => ?_) (fun h2 => ?_)
    · replace h2 := of_decide_eq_true h2
      refine g_off rfl rfl rfl rfl ?_
      refine g_off rfl rfl rfl rfl ?_
      refine pkt (.bool _) rfl rfl ?_
      refine asg (.bool _) rfl ?_
      refine jt ?_
      refine c_true rfl ?_
      refine c_reg ?_
      refine mv (.string _) rfl ?_
      refine sadd (a := q) (b := ([92] : Str)) rfl rfl (by first | omega | ((try simp only [List.length_append]); (try simp only [List.length_cons, List.length_nil]); (try simp only [pad_length]); (try simp only [List.length_take]); (try simp only [List.length_drop]); omega)) ?_
      refine mv (.string _) rfl ?_
      refine cutT (s := t) 0 1 rfl Tryd.underlying9 rfl ⟨_, rfl⟩ (by first | omega | (simp; done) | (simp; omega)) (by first | omega | (simp; done) | (simp; omega)) (List.take 1 t) (cut_lo _ _) ?_
      refine sadd (a := (q ++ ([92] : Str))) (b := (List.take 1 t)) rfl rfl (by first | omega | ((try simp only [List.length_append]); (try simp only [List.length_cons, List.length_nil]); (try simp only [pad_length]); (try simp only [List.length_take]); (try simp only [List.length_drop]); omega)) ?_
      refine asg (.string _) rfl ?_
      refine jn ?_
      refine e_in ?_
      refine e_then ?_
      refine c_reg ?_
      refine mv (.string _) rfl ?_
      refine mv (.int _ _) rfl ?_
      refine cutT (s := t) (u8step t) t.length rfl Tryd.underlying9 ⟨_, rfl⟩ rfl (by first | omega | (simp; done) | (simp; omega)) (by first | omega | (simp; done) | (simp; omega)) (List.drop (u8step t) t) (cut_hi _ _) ?_
      refine asg (.string _) rfl ?_
      refine jn ?_
      refine e_in ?_
      exact e_loop ((List.drop (u8step t) t), ((q ++ ([92] : Str)) ++ (List.take 1 t))) (⟨u8ok_rest hI1.1 (by omega), by rw [← hI1.2.1, qbody_go HS (by omega)]; (first | rw [qstep_q (by omega), chr_take HS (by omega) (by omega)] | rw [qstep_p (by omega) (by omega), chr_take HS (by omega) (by omega)] | rw [qstep_u (by omega) (by omega), UInt64.toNat_ofNat', Nat.mod_eq_of_lt (by omega), pad_one]); simp, by first | omega | ((try simp only [List.length_append]); (try simp only [List.length_cons, List.length_nil]); (try simp only [pad_length]); (try simp only [List.length_take]); (try simp only [List.length_drop]); omega)⟩) (by have := (u8step_le HS (by omega)); simp; omega) (⟨rfl, rfl, trivial⟩) rfl rfl rfl
    · replace h2 := of_decide_eq_false h2
      refine g_on rfl rfl rfl ?_
      refine mv (.int _ _) rfl ?_
      refine g_on rfl rfl rfl ?_
      refine cmp _ rfl rfl rfl ?_
      refine pkf (.bool _) rfl rfl ?_
      refine asg (.bool _) rfl ?_
      refine jt ?_
      refine c_cond rfl (fun h3 => ?_) (fun h3 => ?_)
      · replace h3 := of_decide_eq_true h3
        refine c_reg ?_
        refine mv (.string _) rfl ?_
        refine sadd (a := q) (b := ([92] : Str)) rfl rfl (by first | omega | ((try simp only [List.length_append]); (try simp only [List.length_cons, List.length_nil]); (try simp only [pad_length]); (try simp only [List.length_take]); (try simp only [List.length_drop]); omega)) ?_
        refine mv (.string _) rfl ?_
        refine cutT (s := t) 0 1 rfl Tryd.underlying9 rfl ⟨_, rfl⟩ (by first | omega | (simp; done) | (simp; omega)) (by first | omega | (simp; done) | (simp; omega)) (List.take 1 t) (cut_lo _ _) ?_
        refine sadd (a := (q ++ ([92] : Str))) (b := (List.take 1 t)) rfl rfl (by first | omega | ((try simp only [List.length_append]); (try simp only [List.length_cons, List.length_nil]); (try simp only [pad_length]); (try simp only [List.length_take]); (try simp only [List.length_drop]); omega)) ?_
        refine asg (.string _) rfl ?_
        refine jn ?_
        refine e_in ?_
        refine e_then ?_
        refine c_reg ?_
        refine mv (.string _) rfl ?_
        refine mv (.int _ _) rfl ?_
        refine cutT (s := t) (u8step t) t.length rfl Tryd.underlying9 ⟨_, rfl⟩ rfl (by first | omega | (simp; done) | (simp; omega)) (by first | omega | (simp; done) | (simp; omega)) (List.drop (u8step t) t) (cut_hi _ _) ?_
        refine asg (.string _) rfl ?_
        refine jn ?_
        refine e_in ?_
        exact e_loop ((List.drop (u8step t) t), ((q ++ ([92] : Str)) ++ (List.take 1 t))) (⟨u8ok_rest hI1.1 (by omega), by rw [← hI1.2.1, qbody_go HS (by omega)]; (first | rw [qstep_q (by omega), chr_take HS (by omega) (by omega)] | rw [qstep_p (by omega) (by omega), chr_take HS (by omega) (by omega)] | rw [qstep_u (by omega) (by omega), UInt64.toNat_ofNat', Nat.mod_eq_of_lt (by omega), pad_one]); simp, by first | omega | ((try simp only [List.length_append]); (try simp only [List.length_cons, List.length_nil]); (try simp only [pad_length]); (try simp only [List.length_take]); (try simp only [List.length_drop]); omega)⟩) (by have := (u8step_le HS (by omega)); simp; omega) (⟨rfl, rfl, trivial⟩) rfl rfl rfl
      · replace h3 := of_decide_eq_false h3
        refine c_seq ?_
        refine c_reg ?_
        refine mv (.int _ _) rfl ?_
        refine cmp _ rfl rfl rfl ?_
        refine mv (.bool _) rfl ?_
        refine jsplit 36 rfl (fun h4 => ?_) (fun h4 => ?_)
        · replace h4 := of_decide_eq_true h4
          refine g_on rfl rfl rfl ?_
          refine mv (.int _ _) rfl ?_
          refine g_on rfl rfl rfl ?_
          refine cmp _ rfl rfl rfl ?_
          refine pkt (.bool _) rfl rfl ?_
          refine asg (.bool _) rfl ?_
          refine jt ?_
          refine c_cond rfl (fun h5 => ?_) (fun h5 => ?_)
          · replace h5 := of_decide_eq_true h5
            refine c_reg ?_
            refine mv (.string _) rfl ?_
            refine mv (.string _) rfl ?_
            refine cutT (s := t) 0 1 rfl Tryd.underlying9 rfl ⟨_, rfl⟩ (by first | omega | (simp; done) | (simp; omega)) (by first | omega | (simp; done) | (simp; omega)) (List.take 1 t) (cut_lo _ _) ?_
            refine sadd (a := q) (b := (List.take 1 t)) rfl rfl (by first | omega | ((try simp only [List.length_append]); (try simp only [List.length_cons, List.length_nil]); (try simp only [pad_length]); (try simp only [List.length_take]); (try simp only [List.length_drop]); omega)) ?_
            refine asg (.string _) rfl ?_
            refine jn ?_
            refine e_in ?_
            refine e_then ?_
            refine c_reg ?_
            refine mv (.string _) rfl ?_
            refine mv (.int _ _) rfl ?_
            refine cutT (s := t) (u8step t) t.length rfl Tryd.underlying9 ⟨_, rfl⟩ rfl (by first | omega | (simp; done) | (simp; omega)) (by first | omega | (simp; done) | (simp; omega)) (List.drop (u8step t) t) (cut_hi _ _) ?_
            refine asg (.string _) rfl ?_
            refine jn ?_
            refine e_in ?_
            exact e_loop ((List.drop (u8step t) t), (q ++ (List.take 1 t))) (⟨u8ok_rest hI1.1 (by omega), by rw [← hI1.2.1, qbody_go HS (by omega)]; (first | rw [qstep_q (by omega), chr_take HS (by omega) (by omega)] | rw [qstep_p (by omega) (by omega), chr_take HS (by omega) (by omega)] | rw [qstep_u (by omega) (by omega), UInt64.toNat_ofNat', Nat.mod_eq_of_lt (by omega), pad_one]); simp, by first | omega | ((try simp only [List.length_append]); (try simp only [List.length_cons, List.length_nil]); (try simp only [pad_length]); (try simp only [List.length_take]); (try simp only [List.length_drop]); omega)⟩) (by have := (u8step_le HS (by omega)); simp; omega) (⟨rfl, rfl, trivial⟩) rfl rfl rfl
          · replace h5 := of_decide_eq_false h5
            refine c_reg ?_
            refine mv (.string _) rfl ?_
            refine sadd (a := q) (b := ([92, 117, 123] : Str)) rfl rfl (by first | omega | ((try simp only [List.length_append]); (try simp only [List.length_cons, List.length_nil]); (try simp only [pad_length]); (try simp only [List.length_take]); (try simp only [List.length_drop]); omega)) ?_
            refine mv (.int _ _) rfl ?_
            refine cvNU64 (n := (chr t)) rfl Tryd.underlying3 Tryd.underlying23 ?_
            refine cal (rhex_ct (UInt64.ofNat (chr t)) 1 (by omega)) [] [] [] rfl rfl rfl (by kernel_rfl) (impl_cons (impl_at 0 rfl) impl_nil) rfl ?_; rintro _ _ _ ⟨rfl, rfl, rfl⟩; refine ⟨trivial, ?_⟩
            refine sadd (a := (q ++ ([92, 117, 123] : Str))) (b := (padN 1 (fmtN 16 (UInt64.ofNat (chr t)).toNat))) rfl rfl (by first | omega | ((try simp only [List.length_append]); (try simp only [List.length_cons, List.length_nil]); (try simp only [pad_length]); (try simp only [List.length_take]); (try simp only [List.length_drop]); omega)) ?_
            refine sadd (a := ((q ++ ([92, 117, 123] : Str)) ++ (padN 1 (fmtN 16 (UInt64.ofNat (chr t)).toNat)))) (b := ([125] : Str)) rfl rfl (by first | omega | ((try simp only [List.length_append]); (try simp only [List.length_cons, List.length_nil]); (try simp only [pad_length]); (try simp only [List.length_take]); (try simp only [List.length_drop]); omega)) ?_
            refine asg (.string _) rfl ?_
            refine jn ?_
            refine e_in ?_
            refine e_then ?_
            refine c_reg ?_
            refine mv (.string _) rfl ?_
            refine mv (.int _ _) rfl ?_
            refine cutT (s := t) (u8step t) t.length rfl Tryd.underlying9 ⟨_, rfl⟩ rfl (by first | omega | (simp; done) | (simp; omega)) (by first | omega | (simp; done) | (simp; omega)) (List.drop (u8step t) t) (cut_hi _ _) ?_
            refine asg (.string _) rfl ?_
            refine jn ?_
            refine e_in ?_
            exact e_loop ((List.drop (u8step t) t), (((q ++ ([92, 117, 123] : Str)) ++ (padN 1 (fmtN 16 (UInt64.ofNat (chr t)).toNat))) ++ ([125] : Str))) (⟨u8ok_rest hI1.1 (by omega), by rw [← hI1.2.1, qbody_go HS (by omega)]; (first | rw [qstep_q (by omega), chr_take HS (by omega) (by omega)] | rw [qstep_p (by omega) (by omega), chr_take HS (by omega) (by omega)] | rw [qstep_u (by omega) (by omega), UInt64.toNat_ofNat', Nat.mod_eq_of_lt (by omega), pad_one]); simp, by first | omega | ((try simp only [List.length_append]); (try simp only [List.length_cons, List.length_nil]); (try simp only [pad_length]); (try simp only [List.length_take]); (try simp only [List.length_drop]); omega)⟩) (by have := (u8step_le HS (by omega)); simp; omega) (⟨rfl, rfl, trivial⟩) rfl rfl rfl
        · replace h4 := of_decide_eq_false h4
          refine g_off rfl rfl rfl rfl ?_
          refine g_off rfl rfl rfl rfl ?_
          refine pkf (.bool _) rfl rfl ?_
          refine asg (.bool _) rfl ?_
          refine jt ?_
          refine c_false rfl ?_
          refine c_reg ?_
          refine mv (.string _) rfl ?_
          refine sadd (a := q) (b := ([92, 117, 123] : Str)) rfl rfl (by first | omega | ((try simp only [List.length_append]); (try simp only [List.length_cons, List.length_nil]); (try simp only [pad_length]); (try simp only [List.length_take]); (try simp only [List.length_drop]); omega)) ?_
          refine mv (.int _ _) rfl ?_
          refine cvNU64 (n := (chr t)) rfl Tryd.underlying3 Tryd.underlying23 ?_
          refine cal (rhex_ct (UInt64.ofNat (chr t)) 1 (by omega)) [] [] [] rfl rfl rfl (by kernel_rfl) (impl_cons (impl_at 0 rfl) impl_nil) rfl ?_; rintro _ _ _ ⟨rfl, rfl, rfl⟩; refine ⟨trivial, ?_⟩
          refine sadd (a := (q ++ ([92, 117, 123] : Str))) (b := (padN 1 (fmtN 16 (UInt64.ofNat (chr t)).toNat))) rfl rfl (by first | omega | ((try simp only [List.length_append]); (try simp only [List.length_cons, List.length_nil]); (try simp only [pad_length]); (try simp only [List.length_take]); (try simp only [List.length_drop]); omega)) ?_
          refine sadd (a := ((q ++ ([92, 117, 123] : Str)) ++ (padN 1 (fmtN 16 (UInt64.ofNat (chr t)).toNat)))) (b := ([125] : Str)) rfl rfl (by first | omega | ((try simp only [List.length_append]); (try simp only [List.length_cons, List.length_nil]); (try simp only [pad_length]); (try simp only [List.length_take]); (try simp only [List.length_drop]); omega)) ?_
          refine asg (.string _) rfl ?_
          refine jn ?_
          refine e_in ?_
          refine e_then ?_
          refine c_reg ?_
          refine mv (.string _) rfl ?_
          refine mv (.int _ _) rfl ?_
          refine cutT (s := t) (u8step t) t.length rfl Tryd.underlying9 ⟨_, rfl⟩ rfl (by first | omega | (simp; done) | (simp; omega)) (by first | omega | (simp; done) | (simp; omega)) (List.drop (u8step t) t) (cut_hi _ _) ?_
          refine asg (.string _) rfl ?_
          refine jn ?_
          refine e_in ?_
          exact e_loop ((List.drop (u8step t) t), (((q ++ ([92, 117, 123] : Str)) ++ (padN 1 (fmtN 16 (UInt64.ofNat (chr t)).toNat))) ++ ([125] : Str))) (⟨u8ok_rest hI1.1 (by omega), by rw [← hI1.2.1, qbody_go HS (by omega)]; (first | rw [qstep_q (by omega), chr_take HS (by omega) (by omega)] | rw [qstep_p (by omega) (by omega), chr_take HS (by omega) (by omega)] | rw [qstep_u (by omega) (by omega), UInt64.toNat_ofNat', Nat.mod_eq_of_lt (by omega), pad_one]); simp, by first | omega | ((try simp only [List.length_append]); (try simp only [List.length_cons, List.length_nil]); (try simp only [pad_length]); (try simp only [List.length_take]); (try simp only [List.length_drop]); omega)⟩) (by have := (u8step_le HS (by omega)); simp; omega) (⟨rfl, rfl, trivial⟩) rfl rfl rfl
  · replace h1 := of_decide_eq_false h1
    refine c_exit rfl ?_
    refine e_then ?_
    refine c_seq ?_
    refine c_reg ?_
    refine mv (.string _) rfl ?_
    refine sadd (a := q) (b := ([34] : Str)) rfl rfl (by first | omega | ((try simp only [List.length_append]); (try simp only [List.length_cons, List.length_nil]); (try simp only [pad_length]); (try simp only [List.length_take]); (try simp only [List.length_drop]); omega)) ?_
    refine asg (.string _) rfl ?_
    refine jt ?_
    refine c_ret ?_
    exact j_end (own0 := []) (ro0 := [tDb64 8]) (.inl rfl) rfl (hr1 Tryd.results24 (rvt (v := (.string _)) rfl)) [] [] [] [] [] _ rfl rfl (by kernel_rfl) rfl impl_nil (⟨by rw [show q = [34] ++ qbody s by rw [← hI1.2.1, qbody_nil (by omega)]; simp]; rfl, rfl, rfl⟩)
set_option maxRecDepth 20000 in
set_option maxHeartbeats 4000000 in
theorem unq_ct (q : Str) (hq : q.length ≤ 140737488351232) (h2 : 2 ≤ q.length) : Ct Tryd.prog 66 [strV q] [] [tDb64 8] (fun v o r => ∃ (x : Str) (t : Bool), (t = true → u8ok x = true ∧ quoteS x = q) ∧ (t = false → ∀ y, u8ok y = true → quoteS y ≠ q) ∧ x.length ≤ 4 * q.length ∧ v = .tuple #[strV x, .bool t] ∧ o = [] ∧ r = []) := by
  refine ct_enter Tryd.func66 rfl Tryd.ntmps66 (by kernel_rfl) rfl fun w0 => ?_
  refine c_seq ?_
  refine c_reg ?_
  refine asg (.string _) rfl ?_
  refine asg (.bool _) rfl ?_
  refine jt ?_
  refine c_seq ?_
  refine c_reg ?_
  refine asg (.string _) rfl ?_
  refine jt ?_
  refine c_seq ?_
  refine c_seq ?_
  refine c_reg ?_
  refine asg (.int _ _) rfl ?_
  refine jt ?_
  refine c_block ?_
  refine c_loop (σ := Nat × Str) (fun (i, x) => RQ q x i) (fun (i, x) => q.length + 2 - i) (fun (i, x) => [(5, .int .i64 (i : Int)), (4, strV x)]) (fun (i, x) => []) (fun (i, x) => [tDb64 8]) [4, 5, 6, 7, 8, 9, 10, 11, 12, 13, 14, 15, 16, 17, 18, 19, 20, 21, 22, 23, 24, 25, 26, 27, 28, 29, 30, 31, 32, 33, 34, 35, 36, 37, 38, 39, 40, 41, 42, 43, 44, 45, 46, 47, 48, 49, 50, 51, 52, 53, 54, 55, 56, 57, 58, 59, 60, 61, 62, 63, 64, 65, 66, 67, 68, 69, 70, 71, 72, 73, 74, 75, 76, 77, 78, 79, 80, 81, 82] (1, []) (RQ.start h2) ⟨rfl, rfl, trivial⟩ rfl rfl ?_
  rintro ⟨i, x⟩ g1 hI1
  try dsimp only at hI1 ⊢
  have HLE := hI1.le
  have HLN := hI1.len
  refine c_seq ?_
  refine c_seq ?_
  refine c_reg ?_
  refine mv (.int _ _) rfl ?_
  refine mv (.string _) rfl ?_
  refine lenT (s := q) rfl Tryd.underlying9 ?_
  refine subi rfl rfl rfl (by omega) ?_
  refine cmp _ rfl rfl rfl ?_
  refine jt ?_
  refine c_cond rfl (fun h1 => ?_) (fun h1 => ?_)
  · replace h1 := of_decide_eq_true h1
    refine c_skip ?_
    refine e_then ?_
    refine c_seq ?_
    refine c_block ?_
    refine c_seq ?_
    refine c_seq ?_
    refine c_reg ?_
    refine mv (.string _) rfl ?_
    refine mv (.int _ _) rfl ?_
    refine idxT (s := q) i rfl rfl Tryd.underlying9 rfl (by first | omega | (simp; done) | (simp; omega) | (simp at *; omega)) ?_
    refine equ8 (a := (List.getD q i 0)) (b := (92 : UInt8)) _ rfl rfl rfl ?_
    refine jt ?_
    refine c_cond rfl (fun h2 => ?_) (fun h2 => ?_)
    · replace h2 := ndt h2
      refine c_seq ?_
      refine c_reg ?_
      refine mv (.string _) rfl ?_
      refine mv (.string _) rfl ?_
      refine mv (.int _ _) rfl ?_
      refine mv (.int _ _) rfl ?_
      refine addi rfl rfl rfl (by omega) ?_
      refine cutT (s := q) i (i + 1) rfl Tryd.underlying9 ⟨_, rfl⟩ ⟨_, rfl⟩ (by first | omega | (simp; done) | (simp; omega)) (by first | omega | (simp; done) | (simp; omega)) (List.take ((i + 1) - i) (List.drop i q)) rfl ?_
      refine sadd (a := x) (b := (List.take ((i + 1) - i) (List.drop i q))) rfl rfl (by first | omega | ((try simp only [List.length_append]); (try simp only [List.length_cons, List.length_nil]); (try simp only [pad_length]); (try simp only [List.length_take]); (try simp only [List.length_drop]); omega)) ?_
      refine asg (.string _) rfl ?_
      refine jt ?_
      refine c_exit rfl ?_
      refine e_then ?_
      refine c_reg ?_
      refine mv (.int _ _) rfl ?_
      refine addi rfl rfl rfl (by omega) ?_
      refine asg (.int _ _) rfl ?_
      refine jn ?_
      exact e_lp ((i + 1), (x ++ (List.take ((i + 1) - i) (List.drop i q)))) (by repeat (first | exact out_self | refine out_hav (by kernel_rfl) ?_ | refine out_look (by kernel_rfl) ?_)) (RQ.one hI1 (by omega) (by assumption)) (by show q.length + 2 - _ < q.length + 2 - i; omega) (⟨rfl, rfl, trivial⟩) rfl rfl rfl
    · replace h2 := ndf h2
      refine c_skip ?_
      refine e_then ?_
      refine c_seq ?_
      refine c_reg ?_
      refine mv (.int _ _) rfl ?_
      refine addi rfl rfl rfl (by omega) ?_
      refine asg (.int _ _) rfl ?_
      refine jt ?_
      refine c_seq ?_
      refine c_seq ?_
      refine c_reg ?_
      refine mv (.int _ _) rfl ?_
      refine addi rfl rfl rfl (by omega) ?_
      refine mv (.string _) rfl ?_
      refine lenT (s := q) rfl Tryd.underlying9 ?_
      refine subi rfl rfl rfl (by omega) ?_
      refine cmp _ rfl rfl rfl ?_
      refine mv (.bool _) rfl ?_
      refine jsplit 33 rfl (fun h3 => ?_) (fun h3 => ?_)
      · replace h3 := of_decide_eq_true h3
        refine g_on rfl rfl rfl ?_
        refine mv (.string _) rfl ?_
        refine g_on rfl rfl rfl ?_
        refine mv (.int _ _) rfl ?_
        refine g_on rfl rfl rfl ?_
        refine idxT (s := q) (i + 1) rfl rfl Tryd.underlying9 rfl (by first | omega | (simp; done) | (simp; omega) | (simp at *; omega)) ?_
        refine g_on rfl rfl rfl ?_
        refine equ8 (a := (List.getD q (i + 1) 0)) (b := (117 : UInt8)) _ rfl rfl rfl ?_
        refine pkt (.bool _) rfl rfl ?_
        refine mv (.bool _) rfl ?_
        refine jsplit 39 rfl (fun h4 => ?_) (fun h4 => ?_)
        · replace h4 := of_decide_eq_true h4
          refine g_on rfl rfl rfl ?_
          refine mv (.string _) rfl ?_
          refine g_on rfl rfl rfl ?_
          refine mv (.int _ _) rfl ?_
          refine g_on rfl rfl rfl ?_
          refine addi rfl rfl rfl (by omega) ?_
          refine g_on rfl rfl rfl ?_
          refine idxT (s := q) ((i + 1) + 1) rfl rfl Tryd.underlying9 rfl (by first | omega | (simp; done) | (simp; omega) | (simp at *; omega)) ?_
          refine g_on rfl rfl rfl ?_
          refine equ8 (a := (List.getD q ((i + 1) + 1) 0)) (b := (123 : UInt8)) _ rfl rfl rfl ?_
          refine pkt (.bool _) rfl rfl ?_
          refine jt ?_
          refine c_cond rfl (fun h5 => ?_) (fun h5 => ?_)
          · replace h5 := of_decide_eq_true h5
            refine c_seq ?_
            refine c_reg ?_
            refine asg (.int _ _) rfl ?_
            refine jt ?_
            refine c_seq ?_
            refine c_seq ?_
            refine c_reg ?_
            refine mv (.int _ _) rfl ?_
            refine addi rfl rfl rfl (by omega) ?_
            refine asg (.int _ _) rfl ?_
            refine jt ?_
            refine c_block ?_
            refine c_loop (σ := Nat × UInt64) (fun (j, n) => RN q x j n ∧ i + 3 ≤ j) (fun (j, n) => q.length - j) (fun (j, n) => [(5, .int .i64 (j : Int)), (6, .int .u64 (n.toNat : Int))]) (fun (j, n) => []) (fun (j, n) => [tDb64 8]) [5, 6, 48, 49, 50, 51, 52, 53, 54, 55, 56, 57, 58, 59, 60, 61, 62, 63, 64, 65, 66, 67, 68, 69, 70, 71] (i + 1 + 2, 0) (⟨RN.start hI1 (by omega) (by assumption) ⟨by omega, by assumption, by assumption⟩, by omega⟩) ⟨rfl, rfl, trivial⟩ rfl rfl ?_
            rintro ⟨j, n⟩ g2 hI2
            try dsimp only at hI2 ⊢
            have HLE2 := hI2.1.le
            have HLN2 := hI2.1.len
            have HEV := encv_len n.toNat
            refine c_seq ?_
            refine c_seq ?_
            refine c_reg ?_
            refine mv (.int _ _) rfl ?_
            refine mv (.string _) rfl ?_
            refine lenT (s := q) rfl Tryd.underlying9 ?_
            refine subi rfl rfl rfl (by omega) ?_
            refine cmp _ rfl rfl rfl ?_
            refine mv (.bool _) rfl ?_
            refine jsplit 53 rfl (fun h6 => ?_) (fun h6 => ?_)
            · replace h6 := of_decide_eq_true h6
              refine g_on rfl rfl rfl ?_
              refine mv (.string _) rfl ?_
              refine g_on rfl rfl rfl ?_
              refine mv (.int _ _) rfl ?_
              refine g_on rfl rfl rfl ?_
              refine idxT (s := q) j rfl rfl Tryd.underlying9 rfl (by first | omega | (simp; done) | (simp; omega) | (simp at *; omega)) ?_
              refine g_on rfl rfl rfl ?_
              refine equ8 (a := (List.getD q j 0)) (b := (125 : UInt8)) _ rfl rfl rfl ?_
              refine pkt (.bool _) rfl rfl ?_
              refine mv (.bool _) rfl ?_
              refine jsplit 59 rfl (fun h7 => ?_) (fun h7 => ?_)
              · replace h7 := ndt h7
                refine g_on rfl rfl rfl ?_
                refine mv (.int _ _) rfl ?_
                refine g_on rfl rfl rfl ?_
                refine cmp _ rfl rfl rfl ?_
                refine pkt (.bool _) rfl rfl ?_
                refine jt ?_
                refine c_cond rfl (fun h8 => ?_) (fun h8 => ?_)
                · replace h8 := of_decide_eq_true h8
                  refine c_skip ?_
                  refine e_then ?_
                  refine c_seq ?_
                  refine c_block ?_
                  refine c_reg ?_
                  refine mv (.int _ _) rfl ?_
                  refine mulU64 (a := n) (b := (16 : UInt64)) rfl rfl ?_
                  refine mv (.string _) rfl ?_
                  refine mv (.int _ _) rfl ?_
                  refine idxT (s := q) j rfl rfl Tryd.underlying9 rfl (by first | omega | (simp; done) | (simp; omega) | (simp at *; omega)) ?_
                  refine cal (digit_ct (List.getD q j 0)) [] [] [] rfl rfl rfl (by kernel_rfl) impl_nil rfl ?_; rintro _ _ _ ⟨rfl, rfl, rfl⟩; refine ⟨trivial, ?_⟩
                  refine addU64 (a := (n * (16 : UInt64))) (b := (hexu (List.getD q j 0))) rfl rfl ?_
                  refine asg (.int _ _) rfl ?_
                  refine jn ?_
                  refine e_in ?_
                  refine e_then ?_
                  refine c_reg ?_
                  refine mv (.int _ _) rfl ?_
                  refine addi rfl rfl rfl (by omega) ?_
                  refine asg (.int _ _) rfl ?_
                  refine jn ?_
                  exact e_loop (j + 1, ((n * (16 : UInt64)) + (hexu (List.getD q j 0)))) (⟨RN.go hI2.1 (by omega) (by assumption) (by omega), by omega⟩) (by show q.length - (j + 1) < q.length - j; omega) (⟨rfl, rfl, trivial⟩) rfl rfl rfl
                · replace h8 := of_decide_eq_false h8
                  refine c_exit rfl ?_
                  refine e_then ?_
                  refine c_seq ?_
                  refine c_reg ?_
                  refine mv (.string _) rfl ?_
                  refine mv (.int _ _) rfl ?_
                  refine cal (utf8_ct n) [] [] [] rfl rfl rfl (by kernel_rfl) impl_nil rfl ?_; rintro _ _ _ ⟨rfl, rfl, rfl⟩; refine ⟨trivial, ?_⟩
                  refine sadd (a := x) (b := (encv n.toNat)) rfl rfl (by first | omega | ((try simp only [List.length_append]); (try simp only [List.length_cons, List.length_nil]); (try simp only [pad_length]); (try simp only [List.length_take]); (try simp only [List.length_drop]); omega)) ?_
                  refine asg (.string _) rfl ?_
                  refine jt ?_
                  refine c_exit rfl ?_
                  refine e_then ?_
                  refine c_reg ?_
                  refine mv (.int _ _) rfl ?_
                  refine addi rfl rfl rfl (by omega) ?_
                  refine asg (.int _ _) rfl ?_
                  refine jn ?_
                  exact e_lp ((j + 1), (x ++ (encv n.toNat))) (by repeat (first | exact out_self | refine out_hav (by kernel_rfl) ?_ | refine out_look (by kernel_rfl) ?_)) (RN.fin hI2.1 (fun hh => by first | omega | exact hh.2.1 (by assumption))) (by show q.length + 2 - _ < q.length + 2 - i; omega) (⟨rfl, rfl, trivial⟩) rfl rfl rfl
              · replace h7 := ndf h7
                refine g_off rfl rfl rfl rfl ?_
                refine g_off rfl rfl rfl rfl ?_
                refine pkf (.bool _) rfl rfl ?_
                refine jt ?_
                refine c_false rfl ?_
                refine c_exit rfl ?_
                refine e_then ?_
                refine c_seq ?_
                refine c_reg ?_
                refine mv (.string _) rfl ?_
                refine mv (.int _ _) rfl ?_
                refine cal (utf8_ct n) [] [] [] rfl rfl rfl (by kernel_rfl) impl_nil rfl ?_; rintro _ _ _ ⟨rfl, rfl, rfl⟩; refine ⟨trivial, ?_⟩
                refine sadd (a := x) (b := (encv n.toNat)) rfl rfl (by first | omega | ((try simp only [List.length_append]); (try simp only [List.length_cons, List.length_nil]); (try simp only [pad_length]); (try simp only [List.length_take]); (try simp only [List.length_drop]); omega)) ?_
                refine asg (.string _) rfl ?_
                refine jt ?_
                refine c_exit rfl ?_
                refine e_then ?_
                refine c_reg ?_
                refine mv (.int _ _) rfl ?_
                refine addi rfl rfl rfl (by omega) ?_
                refine asg (.int _ _) rfl ?_
                refine jn ?_
                exact e_lp ((j + 1), (x ++ (encv n.toNat))) (by repeat (first | exact out_self | refine out_hav (by kernel_rfl) ?_ | refine out_look (by kernel_rfl) ?_)) (RN.fin hI2.1 (fun hh => by first | omega | exact hh.2.1 (by assumption))) (by show q.length + 2 - _ < q.length + 2 - i; omega) (⟨rfl, rfl, trivial⟩) rfl rfl rfl
            · replace h6 := of_decide_eq_false h6
              refine g_off rfl rfl rfl rfl ?_
              refine g_off rfl rfl rfl rfl ?_
              refine g_off rfl rfl rfl rfl ?_
              refine g_off rfl rfl rfl rfl ?_
              refine pkf (.bool _) rfl rfl ?_
              refine mv (.bool _) rfl ?_
              refine g_off rfl rfl rfl rfl ?_
              refine g_off rfl rfl rfl rfl ?_
              refine pkf (.bool _) rfl rfl ?_
              refine jt ?_
              refine c_false rfl ?_
              refine c_exit rfl ?_
              refine e_then ?_
              refine c_seq ?_
              refine c_reg ?_
              refine mv (.string _) rfl ?_
              refine mv (.int _ _) rfl ?_
              refine cal (utf8_ct n) [] [] [] rfl rfl rfl (by kernel_rfl) impl_nil rfl ?_; rintro _ _ _ ⟨rfl, rfl, rfl⟩; refine ⟨trivial, ?_⟩
              refine sadd (a := x) (b := (encv n.toNat)) rfl rfl (by first | omega | ((try simp only [List.length_append]); (try simp only [List.length_cons, List.length_nil]); (try simp only [pad_length]); (try simp only [List.length_take]); (try simp only [List.length_drop]); omega)) ?_
              refine asg (.string _) rfl ?_
              refine jt ?_
              refine c_exit rfl ?_
              refine e_then ?_
              refine c_reg ?_
              refine mv (.int _ _) rfl ?_
              refine addi rfl rfl rfl (by omega) ?_
              refine asg (.int _ _) rfl ?_
              refine jn ?_
              exact e_lp ((j + 1), (x ++ (encv n.toNat))) (by repeat (first | exact out_self | refine out_hav (by kernel_rfl) ?_ | refine out_look (by kernel_rfl) ?_)) (RN.fin hI2.1 (fun hh => by first | omega | exact hh.2.1 (by assumption))) (by show q.length + 2 - _ < q.length + 2 - i; omega) (⟨rfl, rfl, trivial⟩) rfl rfl rfl
          · replace h5 := of_decide_eq_false h5
            refine c_skip ?_
            refine e_then ?_
            refine c_reg ?_
            refine mv (.string _) rfl ?_
            refine mv (.string _) rfl ?_
            refine mv (.int _ _) rfl ?_
            refine mv (.int _ _) rfl ?_
            refine addi rfl rfl rfl (by omega) ?_
            refine cutT (s := q) (i + 1) ((i + 1) + 1) rfl Tryd.underlying9 ⟨_, rfl⟩ ⟨_, rfl⟩ (by first | omega | (simp; done) | (simp; omega)) (by first | omega | (simp; done) | (simp; omega)) (List.take (((i + 1) + 1) - (i + 1)) (List.drop (i + 1) q)) rfl ?_
            refine sadd (a := x) (b := (List.take (((i + 1) + 1) - (i + 1)) (List.drop (i + 1) q))) rfl rfl (by first | omega | ((try simp only [List.length_append]); (try simp only [List.length_cons, List.length_nil]); (try simp only [pad_length]); (try simp only [List.length_take]); (try simp only [List.length_drop]); omega)) ?_
            refine asg (.string _) rfl ?_
            refine jn ?_
            refine e_in ?_
            refine e_then ?_
            refine c_reg ?_
            refine mv (.int _ _) rfl ?_
            refine addi rfl rfl rfl (by omega) ?_
            refine asg (.int _ _) rfl ?_
            refine jn ?_
            exact e_lp (((i + 1) + 1), (x ++ (List.take (((i + 1) + 1) - (i + 1)) (List.drop (i + 1) q)))) (by repeat (first | exact out_self | refine out_hav (by kernel_rfl) ?_ | refine out_look (by kernel_rfl) ?_)) (RQ.two hI1 (by omega) (by assumption) (fun hh => by first | omega | exact absurd hh.2.1 (by assumption) | exact absurd hh.2.2 (by assumption))) (by show q.length + 2 - _ < q.length + 2 - i; omega) (⟨rfl, rfl, trivial⟩) rfl rfl rfl
        · replace h4 := of_decide_eq_false h4
          refine g_off rfl rfl rfl rfl ?_
          refine g_off rfl rfl rfl rfl ?_
          refine g_off rfl rfl rfl rfl ?_
          refine g_off rfl rfl rfl rfl ?_
          refine g_off rfl rfl rfl rfl ?_
          refine pkf (.bool _) rfl rfl ?_
          refine jt ?_
          refine c_false rfl ?_
          refine c_skip ?_
          refine e_then ?_
          refine c_reg ?_
          refine mv (.string _) rfl ?_
          refine mv (.string _) rfl ?_
          refine mv (.int _ _) rfl ?_
          refine mv (.int _ _) rfl ?_
          refine addi rfl rfl rfl (by omega) ?_
          refine cutT (s := q) (i + 1) ((i + 1) + 1) rfl Tryd.underlying9 ⟨_, rfl⟩ ⟨_, rfl⟩ (by first | omega | (simp; done) | (simp; omega)) (by first | omega | (simp; done) | (simp; omega)) (List.take (((i + 1) + 1) - (i + 1)) (List.drop (i + 1) q)) rfl ?_
          refine sadd (a := x) (b := (List.take (((i + 1) + 1) - (i + 1)) (List.drop (i + 1) q))) rfl rfl (by first | omega | ((try simp only [List.length_append]); (try simp only [List.length_cons, List.length_nil]); (try simp only [pad_length]); (try simp only [List.length_take]); (try simp only [List.length_drop]); omega)) ?_
          refine asg (.string _) rfl ?_
          refine jn ?_
          refine e_in ?_
          refine e_then ?_
          refine c_reg ?_
          refine mv (.int _ _) rfl ?_
          refine addi rfl rfl rfl (by omega) ?_
          refine asg (.int _ _) rfl ?_
          refine jn ?_
          exact e_lp (((i + 1) + 1), (x ++ (List.take (((i + 1) + 1) - (i + 1)) (List.drop (i + 1) q)))) (by repeat (first | exact out_self | refine out_hav (by kernel_rfl) ?_ | refine out_look (by kernel_rfl) ?_)) (RQ.two hI1 (by omega) (by assumption) (fun hh => by first | omega | exact absurd hh.2.1 (by assumption) | exact absurd hh.2.2 (by assumption))) (by show q.length + 2 - _ < q.length + 2 - i; omega) (⟨rfl, rfl, trivial⟩) rfl rfl rfl
      · replace h3 := of_decide_eq_false h3
        refine g_off rfl rfl rfl rfl ?_
        refine g_off rfl rfl rfl rfl ?_
        refine g_off rfl rfl rfl rfl ?_
        refine g_off rfl rfl rfl rfl ?_
        refine pkf (.bool _) rfl rfl ?_
        refine mv (.bool _) rfl ?_
        refine g_off rfl rfl rfl rfl ?_
        refine g_off rfl rfl rfl rfl ?_
        refine g_off rfl rfl rfl rfl ?_
        refine g_off rfl rfl rfl rfl ?_
        refine g_off rfl rfl rfl rfl ?_
        refine pkf (.bool _) rfl rfl ?_
        refine jt ?_
        refine c_false rfl ?_
        refine c_skip ?_
        refine e_then ?_
        refine c_reg ?_
        refine mv (.string _) rfl ?_
        refine mv (.string _) rfl ?_
        refine mv (.int _ _) rfl ?_
        refine mv (.int _ _) rfl ?_
        refine addi rfl rfl rfl (by omega) ?_
        refine cutT (s := q) (i + 1) ((i + 1) + 1) rfl Tryd.underlying9 ⟨_, rfl⟩ ⟨_, rfl⟩ (by first | omega | (simp; done) | (simp; omega)) (by first | omega | (simp; done) | (simp; omega)) (List.take (((i + 1) + 1) - (i + 1)) (List.drop (i + 1) q)) rfl ?_
        refine sadd (a := x) (b := (List.take (((i + 1) + 1) - (i + 1)) (List.drop (i + 1) q))) rfl rfl (by first | omega | ((try simp only [List.length_append]); (try simp only [List.length_cons, List.length_nil]); (try simp only [pad_length]); (try simp only [List.length_take]); (try simp only [List.length_drop]); omega)) ?_
        refine asg (.string _) rfl ?_
        refine jn ?_
        refine e_in ?_
        refine e_then ?_
        refine c_reg ?_
        refine mv (.int _ _) rfl ?_
        refine addi rfl rfl rfl (by omega) ?_
        refine asg (.int _ _) rfl ?_
        refine jn ?_
        exact e_lp (((i + 1) + 1), (x ++ (List.take (((i + 1) + 1) - (i + 1)) (List.drop (i + 1) q)))) (by repeat (first | exact out_self | refine out_hav (by kernel_rfl) ?_ | refine out_look (by kernel_rfl) ?_)) (RQ.two hI1 (by omega) (by assumption) (fun hh => by first | omega | exact absurd hh.2.1 (by assumption) | exact absurd hh.2.2 (by assumption))) (by show q.length + 2 - _ < q.length + 2 - i; omega) (⟨rfl, rfl, trivial⟩) rfl rfl rfl
  · replace h1 := of_decide_eq_false h1
    refine c_exit rfl ?_
    refine e_then ?_
    refine c_seq ?_
    refine c_reg ?_
    refine mv (.string _) rfl ?_
    refine mv (.string _) rfl ?_
    refine mv (.string _) rfl ?_
    refine lenT (s := x) rfl Tryd.underlying9 ?_
    refine cal (text_ct x 0 (x.length : Int) (by omega)) [] [] [] rfl rfl rfl (by kernel_rfl) impl_nil rfl ?_; rintro _ _ _ ⟨rfl, rfl, rfl⟩; refine ⟨trivial, ?_⟩
    refine mv (.bool _) rfl ?_
    refine jsplit 88 rfl (fun h9 => ?_) (fun h9 => ?_)
    · refine g_on rfl rfl rfl ?_
      refine mv (.string _) rfl ?_
      refine g_on rfl rfl rfl ?_
      refine cal (QuotedB_ct x (said_u8 (by assumption)) (by omega)) [] [] [] rfl rfl rfl (by kernel_rfl) (impl_cons (impl_at 0 rfl) impl_nil) rfl ?_; rintro _ _ _ ⟨rfl, rfl, rfl⟩; refine ⟨trivial, ?_⟩
      refine g_on rfl rfl rfl ?_
      refine mv (.string _) rfl ?_
      refine g_on rfl rfl rfl ?_
      refine scmp (a := (quoteS x)) (b := q) _ rfl rfl Tryd.underlying9 rfl ?_
      refine pkt (.bool _) rfl rfl ?_
      refine asg (.string _) rfl ?_
      refine asg (.bool _) rfl ?_
      refine jt ?_
      refine c_ret ?_
      exact j_end (own0 := []) (ro0 := [tDb64 8]) (.inl rfl) rfl (hr2 Tryd.results66 (rvt (v := (.string _)) rfl) (rvt (v := (.bool _)) rfl)) [] [] [] [] [] _ rfl rfl (by kernel_rfl) rfl impl_nil (⟨x, _, (fun h => ⟨said_u8 (by assumption), of_decide_eq_true h⟩), (fun h y hy e => by have := RQ.fin hI1 (by omega) hy e.symm; subst this; exact of_decide_eq_false h e), by omega, rfl, rfl, rfl⟩)
    · refine g_off rfl rfl rfl rfl ?_
      refine g_off rfl rfl rfl rfl ?_
      refine g_off rfl rfl rfl rfl ?_
      refine g_off rfl rfl rfl rfl ?_
      refine pkf (.bool _) rfl rfl ?_
      refine asg (.string _) rfl ?_
      refine asg (.bool _) rfl ?_
      refine jt ?_
      refine c_ret ?_
      exact j_end (own0 := []) (ro0 := [tDb64 8]) (.inl rfl) rfl (hr2 Tryd.results66 (rvt (v := (.string _)) rfl) (rvt (v := (.bool _)) rfl)) [] [] [] [] [] _ rfl rfl (by kernel_rfl) rfl impl_nil (⟨x, false, (fun h => by cases h), (fun _ y hy e => by have := RQ.fin hI1 (by omega) hy e.symm; subst this; exact said_no (by assumption) hy ⟨by omega, by omega⟩), by omega, rfl, rfl, rfl⟩)
set_option maxRecDepth 20000 in
set_option maxHeartbeats 4000000 in
theorem rdtext_bad (b : Nat) (s : Str) (p k : Nat) (lo hi : Nat) : Ct Tryd.prog 36 [.pointer (some ⟨b, 0, none⟩), .int .i64 (lo : Int), .int .i64 (hi : Int)] [[(b, .cells (cat [pt s, p1 (.int .i64 ((p : Nat) : Int)), p1 (.int .i64 ((k : Nat) : Int))]) 66)]] [] (fun v o r => v = strV [] ∧ o = [[(b, .cells (cat [pt s, p1 (.int .i64 ((p : Nat) : Int)), p1 (.int .i64 ((k : Nat) : Int))]) 66)]] ∧ r = []) := by
  refine ct_enter Tryd.func36 rfl Tryd.ntmps36 (by kernel_rfl) rfl fun w0 => ?_
  refine c_seq ?_
  refine c_reg ?_
  refine asg (.string _) rfl ?_
  refine jt ?_
  refine c_seq ?_
  refine c_reg ?_
  refine mv (.pointer _) rfl ?_
  refine cal (rbegin_bad b s p k) [0] [] [] rfl rfl rfl (by kernel_rfl) impl_nil rfl ?_; rintro _ _ _ ⟨rfl, rfl, rfl⟩; refine ⟨trivial, ?_⟩
  refine asg (.int _ _) rfl ?_
  refine jt ?_
  refine c_seq ?_
  refine c_seq ?_
  refine c_reg ?_
  refine mv (.int _ _) rfl ?_
  refine cmp true rfl rfl rfl ?_
  refine jt ?_
  refine c_true rfl ?_
  refine c_seq ?_
  refine c_reg ?_
  refine asg (.string _) rfl ?_
  refine jt ?_
  refine c_ret ?_
  exact j_end (own0 := [[(b, .cells (cat [pt s, p1 (.int .i64 ((p : Nat) : Int)), p1 (.int .i64 ((k : Nat) : Int))]) 66)]]) (ro0 := []) (.inl rfl) rfl (hr1 Tryd.results36 (rvt (v := (.string _)) rfl)) [0] [] [_] [] [] _ rfl rfl (by kernel_rfl) rfl impl_nil (⟨rfl, rfl, rfl⟩)
set_option maxRecDepth 20000 in
set_option maxHeartbeats 4000000 in
theorem rdtext_ct (b : Nat) (s : Str) (p : Nat) (hs : s.length ≤ 140737488351232) (hp : p ≤ s.length) (lo hi : Nat) (hlo : lo ≤ 1000000) (hhi : hi ≤ 1000000) : Ct Tryd.prog 36 [.pointer (some ⟨b, 0, none⟩), .int .i64 (lo : Int), .int .i64 (hi : Int)] [[(b, .cells (cat [pt s, p1 (.int .i64 ((p : Nat) : Int)), p1 (.int .i64 (-1))]) 66)]] [tDb64 8] (fun v o r => (∃ (n : Str) (q : Nat), textR s lo hi p = .inr (n, q) ∧ v = strV n ∧ o = [[(b, .cells (cat [pt s, p1 (.int .i64 ((q : Nat) : Int)), p1 (.int .i64 (-1))]) 66)]] ∧ r = []) ∨ (∃ (n : Str) (q a : Nat), textR s lo hi p = .inl q ∧ v = strV n ∧ o = [[(b, .cells (cat [pt s, p1 (.int .i64 ((a : Nat) : Int)), p1 (.int .i64 ((q : Nat) : Int))]) 66)]] ∧ r = [])) := by
  have HQE := fun h => qend_le (s := s) (a := p + 1) h
  refine ct_enter Tryd.func36 rfl Tryd.ntmps36 (by kernel_rfl) rfl fun w0 => ?_
  refine c_seq ?_
  refine c_reg ?_
  refine asg (.string _) rfl ?_
  refine jt ?_
  refine c_seq ?_
  refine c_reg ?_
  refine mv (.pointer _) rfl ?_
  refine cal (rbegin_ct b s p (by omega) (by omega)) [0] [] [] rfl rfl rfl (by kernel_rfl) impl_nil rfl ?_; rintro _ _ _ (⟨hbl1, rfl, rfl, rfl⟩ | ⟨hbl1, rfl, rfl, rfl⟩)
  · have hpl1 := blk_lt hbl1; refine ⟨trivial, ?_⟩
    refine asg (.int _ _) rfl ?_
    refine jt ?_
    refine c_seq ?_
    refine c_seq ?_
    refine c_reg ?_
    refine mv (.int _ _) rfl ?_
    refine cmp false rfl rfl (by simp only [cmpV]; exact congrArg some (decide_eq_false (by omega))) ?_
    refine jt ?_
    refine c_false rfl ?_
    refine c_skip ?_
    refine e_then ?_
    refine c_seq ?_
    refine c_reg ?_
    refine mv (.pointer _) rfl ?_
    refine nlc rfl ?_
    refine fad rfl Tryd.underlying66 rfl ty9.sz ?_
    refine ldp 0 0 _ rfl rfl rfl rfl ty9 ?_
    refine mv (.int _ _) rfl ?_
    refine cal (qend_ct s (p + 1) (by omega) (by omega)) [] [0] [_] rfl rfl rfl (by kernel_rfl) impl_nil rfl ?_; rintro _ _ _ ⟨rfl, rfl, rfl⟩; refine ⟨trivial, ?_⟩
    refine asg (.int _ _) rfl ?_
    refine jt ?_
    refine c_seq ?_
    refine c_seq ?_
    have HQB := HQE (by omega)
    refine c_reg ?_
    refine mv (.int _ _) rfl ?_
    refine mv (.int _ _) rfl ?_
    refine cmp _ rfl rfl rfl ?_
    refine jt ?_
    refine c_cond rfl (fun h1 => ?_) (fun h1 => ?_)
    · replace h1 := of_decide_eq_true h1
      refine c_seq ?_
      refine c_reg ?_
      refine mv (.pointer _) rfl ?_
      refine mv (.int _ _) rfl ?_
      refine nlc rfl ?_
      refine fad rfl Tryd.underlying66 rfl ty3.sz ?_
      refine stp 0 2 _ (p1 (.int .i64 ((p + 1 : Nat) : Int))) rfl rfl rfl rfl rfl rfl ty3 ⟨trivial, ?_⟩
      refine jt ?_
      refine c_seq ?_
      refine c_reg ?_
      refine asg (.string _) rfl ?_
      refine jt ?_
      refine c_ret ?_
      exact j_end (own0 := [[(b, .cells (cat [pt s, p1 (.int .i64 ((p : Nat) : Int)), p1 (.int .i64 (-1))]) 66)]]) (ro0 := [tDb64 8]) (.inl rfl) rfl (hr1 Tryd.results36 (rvt (v := (.string _)) rfl)) [0] [] [_] [] [] _ rfl rfl (by kernel_rfl) rfl impl_nil (.inr ⟨[], (p + 1), p, textR_out (by assumption) (qend_self (by omega)), rfl, rfl, rfl⟩)
    · replace h1 := of_decide_eq_false h1
      refine c_skip ?_
      refine e_then ?_
      refine c_seq ?_
      have HNE : (qend s (p + 1)) ≠ p + 1 := fun hh => by omega
      obtain ⟨HY1, HY2, HY3, HY4, HY5, HY6⟩ := qend_yes HNE
      have HQL := congrArg List.length HY6
      rw [List.length_take, List.length_drop] at HQL
      refine c_reg ?_
      refine mv (.pointer _) rfl ?_
      refine nlc rfl ?_
      refine fad rfl Tryd.underlying66 rfl ty9.sz ?_
      refine ldp 0 0 _ rfl rfl rfl rfl ty9 ?_
      refine mv (.int _ _) rfl ?_
      refine mv (.int _ _) rfl ?_
      refine cutT (s := s) (p + 1) (qend s (p + 1)) rfl Tryd.underlying9 ⟨_, rfl⟩ ⟨_, rfl⟩ (by first | omega | (simp; done) | (simp; omega)) (by first | omega | (simp; done) | (simp; omega)) (List.take ((qend s (p + 1)) - (p + 1)) (List.drop (p + 1) s)) rfl ?_
      refine j_re 35 (strV ([34] ++ qin s (p + 1) ++ [34])) (congrArg strV HY6) ?_
      refine cal (unq_ct ([34] ++ qin s (p + 1) ++ [34]) (by omega) (by omega)) [] [0] [_] rfl rfl rfl (by kernel_rfl) (impl_cons (impl_at 0 rfl) impl_nil) rfl ?_; rintro _ _ _ ⟨ux2, ub2, huy2, hun2, hux2, rfl, rfl, rfl⟩; refine ⟨trivial, ?_⟩
      refine mv (.tuple _) rfl ?_
      refine xtr (.string _) rfl rfl ?_
      refine xtr (.bool _) rfl rfl ?_
      refine asg (.string _) rfl ?_
      refine asg (.bool _) rfl ?_
      refine jt ?_
      refine c_seq ?_
      refine c_reg ?_
      refine mv (.pointer _) rfl ?_
      refine mv (.int _ _) rfl ?_
      refine nlc rfl ?_
      refine fad rfl Tryd.underlying66 rfl ty3.sz ?_
      refine stp 0 1 _ (p1 (.int .i64 ((qend s (p + 1) : Nat) : Int))) rfl rfl rfl rfl rfl rfl ty3 ⟨trivial, ?_⟩
      refine jt ?_
      refine c_seq ?_
      refine c_seq ?_
      refine c_reg ?_
      refine mv (.bool _) rfl ?_
      refine not_ rfl ?_
      refine mv (.bool _) rfl ?_
      refine jsplit 45 rfl (fun h2 => ?_) (fun h2 => ?_)
      · refine g_off rfl rfl rfl rfl ?_
        refine g_off rfl rfl rfl rfl ?_
        refine g_off rfl rfl rfl rfl ?_
        refine g_off rfl rfl rfl rfl ?_
        refine g_off rfl rfl rfl rfl ?_
        refine pkt (.bool _) rfl rfl ?_
        refine jt ?_
        refine c_true rfl ?_
        refine c_reg ?_
        refine mv (.pointer _) rfl ?_
        refine mv (.int _ _) rfl ?_
        refine nlc rfl ?_
        refine fad rfl Tryd.underlying66 rfl ty3.sz ?_
        refine stp 0 2 _ (p1 (.int .i64 ((p + 1 : Nat) : Int))) rfl rfl rfl rfl rfl rfl ty3 ⟨trivial, ?_⟩
        refine jt ?_
        refine c_seq ?_
        refine c_reg ?_
        refine mv (.string _) rfl ?_
        refine asg (.string _) rfl ?_
        refine jt ?_
        refine c_ret ?_
        exact j_end (own0 := [[(b, .cells (cat [pt s, p1 (.int .i64 ((p : Nat) : Int)), p1 (.int .i64 (-1))]) 66)]]) (ro0 := [tDb64 8]) (.inl rfl) rfl (hr1 Tryd.results36 (rvt (v := (.string _)) rfl)) [0] [] [_] [] [] _ rfl rfl (by kernel_rfl) rfl impl_nil (.inr ⟨ux2, (p + 1), _, textR_bad (by assumption) (fun t ht hb => hun2 (notT (by assumption)) t (unq_iff.1 ht).1 (quote_iff.2 (unq_iff.1 ht).2.symm)), rfl, rfl, rfl⟩)
      · refine g_on rfl rfl rfl ?_
        refine mv (.string _) rfl ?_
        refine g_on rfl rfl rfl ?_
        refine mv (.int _ _) rfl ?_
        refine g_on rfl rfl rfl ?_
        refine mv (.int _ _) rfl ?_
        refine g_on rfl rfl rfl ?_
        refine cal (text_ct ux2 (lo : Int) (hi : Int) (by omega)) [] [0] [_] rfl rfl rfl (by kernel_rfl) impl_nil rfl ?_; rintro _ _ _ ⟨rfl, rfl, rfl⟩; refine ⟨trivial, ?_⟩
        refine g_on rfl rfl rfl ?_
        refine not_ rfl ?_
        refine pkf (.bool _) rfl rfl ?_
        refine jt ?_
        refine c_cond rfl (fun h3 => ?_) (fun h3 => ?_)
        · refine c_reg ?_
          refine mv (.pointer _) rfl ?_
          refine mv (.int _ _) rfl ?_
          refine nlc rfl ?_
          refine fad rfl Tryd.underlying66 rfl ty3.sz ?_
          refine stp 0 2 _ (p1 (.int .i64 ((p + 1 : Nat) : Int))) rfl rfl rfl rfl rfl rfl ty3 ⟨trivial, ?_⟩
          refine jt ?_
          refine c_seq ?_
          refine c_reg ?_
          refine mv (.string _) rfl ?_
          refine asg (.string _) rfl ?_
          refine jt ?_
          refine c_ret ?_
          exact j_end (own0 := [[(b, .cells (cat [pt s, p1 (.int .i64 ((p : Nat) : Int)), p1 (.int .i64 (-1))]) 66)]]) (ro0 := [tDb64 8]) (.inl rfl) rfl (hr1 Tryd.results36 (rvt (v := (.string _)) rfl)) [0] [] [_] [] [] _ rfl rfl (by kernel_rfl) rfl impl_nil (.inr ⟨ux2, (p + 1), _, textR_bad (by assumption) (fun t ht hb => by have e := ht.symm.trans (unq_iff.2 ⟨(huy2 (notF (by assumption))).1, (quote_iff.1 (huy2 (notF (by assumption))).2).symm⟩); cases e; exact said_no (notT (by assumption)) (huy2 (notF (by assumption))).1 ⟨by omega, by omega⟩), rfl, rfl, rfl⟩)
        · refine c_skip ?_
          refine e_then ?_
          refine c_seq ?_
          refine c_reg ?_
          refine mv (.string _) rfl ?_
          refine asg (.string _) rfl ?_
          refine jt ?_
          refine c_ret ?_
          exact j_end (own0 := [[(b, .cells (cat [pt s, p1 (.int .i64 ((p : Nat) : Int)), p1 (.int .i64 (-1))]) 66)]]) (ro0 := [tDb64 8]) (.inl rfl) rfl (hr1 Tryd.results36 (rvt (v := (.string _)) rfl)) [0] [] [_] [] [] _ rfl rfl (by kernel_rfl) rfl impl_nil (.inl ⟨ux2, _, by rw [HY4]; exact textR_ok (by assumption) ⟨HY1, HY2, HY3⟩ (unq_iff.2 ⟨(huy2 (notF (by assumption))).1, (quote_iff.1 (huy2 (notF (by assumption))).2).symm⟩) ⟨by have := said_b (show saidB ux2 _ _ = true from notF (by assumption)); omega, by have := said_b (show saidB ux2 _ _ = true from notF (by assumption)); omega⟩, rfl, rfl, rfl⟩)
  · refine ⟨trivial, ?_⟩
    refine asg (.int _ _) rfl ?_
    refine jt ?_
    refine c_seq ?_
    refine c_seq ?_
    refine c_reg ?_
    refine mv (.int _ _) rfl ?_
    refine cmp true rfl rfl rfl ?_
    refine jt ?_
    refine c_true rfl ?_
    refine c_seq ?_
    refine c_reg ?_
    refine asg (.string _) rfl ?_
    refine jt ?_
    refine c_ret ?_
    exact j_end (own0 := [[(b, .cells (cat [pt s, p1 (.int .i64 ((p : Nat) : Int)), p1 (.int .i64 (-1))]) 66)]]) (ro0 := [tDb64 8]) (.inl rfl) rfl (hr1 Tryd.results36 (rvt (v := (.string _)) rfl)) [0] [] [_] [] [] _ rfl rfl (by kernel_rfl) rfl impl_nil (.inr ⟨[], p, p, textR_no (by assumption), rfl, rfl, rfl⟩)
end Go.Proofs.YthpbiamicidakaaDoor
namespace Go.Proofs.YthpbiamicidakaaDoor
open Go Go.Proofs Go.PW
open Go.PW.Enc (enc val)
def mleast (ms : List UInt32) : Nat := if ms.length = 0 then 0 else (List.getD ms (ms.length - 1) 0).toNat + 1
theorem mleast_0 {ms : List UInt32} (h : ms.length = 0) : mleast ms = 0 := if_pos h
theorem mleast_s {ms : List UInt32} (h : ¬ ms.length = 0) : mleast ms = (List.getD ms (ms.length - 1) 0).toNat + 1 := if_neg h
theorem mleast_app (ms : List UInt32) {n : Nat} (h : n ≤ 4294967295) : mleast (ms ++ [UInt32.ofNat n]) = n + 1 := by
  rw [mleast_s (by simp)]
  have e : List.getD (ms ++ [UInt32.ofNat n]) ((ms ++ [UInt32.ofNat n]).length - 1) 0 = UInt32.ofNat n := by simp [List.getD]
  rw [e, UInt32.toNat_ofNat']; omega
structure RK (s : Str) (p : Nat) (ms : List UInt32) (q : Nat) (bd : Int) : Prop where
  qle : bd = -1 → q ≤ s.length
  len : ms.length ≤ 101
  ways : (bd = -1 ∧ MK s p ms (mleast ms) q false) ∨ (0 ≤ bd ∧ marksR s 102 [] 0 p = .inl bd.toNat)
theorem RK.start {s : Str} {p : Nat} (hp : p ≤ s.length) : RK s p [] p (-1) := ⟨fun _ => hp, by simp, .inl ⟨rfl, MK.start hp⟩⟩
theorem RK.neg {s : Str} {p q : Nat} {ms : List UInt32} {bd : Int} (h : RK s p ms q bd) (hb : bd < 0) : bd = -1 := by rcases h.ways with h | h; exact h.1; omega
theorem RK.core {s : Str} {p q : Nat} {ms : List UInt32} {bd : Int} (h : RK s p ms q bd) (hb : bd = -1) : MK s p ms (mleast ms) q false := by rcases h.ways with h | h; exact h.2; omega
theorem RK.fail {s : Str} {p q a k : Nat} {ms : List UInt32} {x : UInt32} (h : RK s p ms q (-1)) (hg : ms.length = 0 ∨ q < s.length) (hn : numR s 0 4294967295 q = .inl k) (hk : k ≤ s.length) : RK s p (ms ++ [x]) a (k : Int) := by
  have hm := h.core rfl
  have := ((hm.good rfl).1).1
  exact ⟨fun h => by omega, by simp; omega, .inr ⟨by omega, (hm.fail (x := x) (l := 0) hg (numR_least_l hn) hk).bad rfl⟩⟩
theorem RK.full {s : Str} {p q a k n : Nat} {ms : List UInt32} {x : UInt32} (h : RK s p ms q (-1)) (hg : ms.length = 0 ∨ q < s.length) (hn : numR s 0 4294967295 q = .inr (n, k)) (hm : 100 ≤ ms.length) : RK s p (ms ++ [x]) a ((q + 1 : Nat) : Int) := by
  have hm' := h.core rfl
  have hl := ((hm'.good rfl).1).1
  have hx := numR_next hn
  refine ⟨fun h => by omega, by simp; omega, .inr ⟨by omega, ?_⟩⟩
  have hr := numR_least (l := mleast ms) hn
  by_cases hle : mleast ms ≤ n
  · rw [if_pos hle] at hr; exact (hm'.full (x := x) (l := 0) hg hr (by omega) (by omega)).bad rfl
  · rw [if_neg hle] at hr; exact (hm'.fail (x := x) (l := 0) hg hr (by omega)).bad rfl
theorem RK.low {s : Str} {p q a k n : Nat} {ms : List UInt32} {x : UInt32} (h : RK s p ms q (-1)) (hg : ms.length = 0 ∨ q < s.length) (hn : numR s 0 4294967295 q = .inr (n, k)) (hm : 0 < ms.length) (hl : n ≤ (List.getD ms (ms.length - 1) 0).toNat) : RK s p (ms ++ [x]) a ((q + 1 : Nat) : Int) := by
  have hm' := h.core rfl
  have hl' := ((hm'.good rfl).1).1
  have hx := numR_next hn
  have hr := numR_least (l := mleast ms) hn
  rw [if_neg (by rw [mleast_s (by omega)]; omega)] at hr
  exact ⟨fun h => by omega, by simp; omega, .inr ⟨by omega, (hm'.fail (x := x) (l := 0) hg hr (by omega)).bad rfl⟩⟩
theorem RK.go {s : Str} {p q k n : Nat} {ms : List UInt32} (h : RK s p ms q (-1)) (hg : ms.length = 0 ∨ q < s.length) (hn : numR s 0 4294967295 q = .inr (n, k)) (hm : ms.length < 100) (hl : ms.length = 0 ∨ (List.getD ms (ms.length - 1) 0).toNat < n) : RK s p (ms ++ [UInt32.ofNat n]) k (-1) := by
  have hm' := h.core rfl
  have hx := numR_next hn
  have hr := numR_least (l := mleast ms) hn
  rw [if_pos (by by_cases h0 : ms.length = 0; rw [mleast_0 h0]; omega; rw [mleast_s h0]; omega)] at hr
  refine ⟨fun _ => by omega, by simp; omega, .inl ⟨rfl, ?_⟩⟩
  rw [mleast_app ms (by omega)]
  exact hm'.go hg hr (by omega) (by omega) (by omega)
theorem RK.bad {s : Str} {p q : Nat} {ms : List UInt32} {bd : Int} (h : RK s p ms q bd) (hb : ¬ bd < 0) : ∃ k : Nat, bd = k ∧ marksR s 102 [] 0 p = .inl k := by
  rcases h.ways with h | h
  · omega
  · exact ⟨bd.toNat, by omega, h.2⟩
theorem RK.done {s : Str} {p q : Nat} {ms : List UInt32} (h : RK s p ms q (-1)) (hg : ¬(ms.length = 0 ∨ q < s.length)) : marksR s 102 [] 0 p = .inr (ms, q) := ((h.core rfl).good rfl).2.2 hg
theorem numR_bad_le {s : Str} {l m q k : Nat} (h : numR s l m q = .inl k) (hq : q ≤ s.length) : k ≤ s.length := by
  unfold numR at h
  by_cases hb : blk s q = true
  · rw [if_pos hb] at h
    have hp := blk_lt hb
    cases hn : pnum 10 (word s (q + 1)) with
    | none => rw [hn] at h; cases h; exact hp
    | some n =>
      rw [hn] at h; simp only at h
      by_cases h2 : l ≤ n ∧ n ≤ m
      · rw [if_pos h2] at h; cases h
      · rw [if_neg h2] at h; cases h; exact hp
  · rw [if_neg hb] at h; cases h; exact hq
theorem u32_low {n : UInt64} (hn : n.toNat ≤ 4294967295) : (UInt32.ofNat n.toNat).toNat = n.toNat := by rw [UInt32.toNat_ofNat']; omega
theorem rk_less {ms ms' : List UInt32} {b : Int} (h : ms.length ≤ 100) (hl : ms'.length = ms.length + 1) : (if 0 ≤ b then 0 else 102 - ms'.length) < (if (0 : Int) ≤ -1 then 0 else 102 - ms.length) := by
  rw [if_neg (show ¬ (0 : Int) ≤ -1 by omega)]; split <;> omega
set_option maxRecDepth 20000 in
set_option maxHeartbeats 4000000 in
theorem rdmarks_ct (b : Nat) (s : Str) (p : Nat) (hs : s.length ≤ 140737488351232) (hp : p ≤ s.length) : Ct Tryd.prog 37 [.pointer (some ⟨b, 0, none⟩)] [[(b, .cells (cat [pt s, p1 (.int .i64 ((p : Nat) : Int)), p1 (.int .i64 (-1))]) 66)]] [tPow10 3] (fun v o r => (∃ (o' : Ow) (ms : List UInt32) (q : Nat), marksR s 102 [] 0 p = .inr (ms, q) ∧ (q ≤ s.length ∧ ms.length ≤ 101) ∧ o'.ok ms ∧ v = .slice o'.adr ms.length o'.cap ∧ o = [[(b, .cells (cat [pt s, p1 (.int .i64 ((q : Nat) : Int)), p1 (.int .i64 (-1))]) 66)], o'.seg ms 47] ∧ r = []) ∨ (∃ (o' : Ow) (ms : List UInt32) (q a : Nat), marksR s 102 [] 0 p = .inl q ∧ ms.length ≤ 101 ∧ o'.ok ms ∧ v = .slice o'.adr ms.length o'.cap ∧ o = [[(b, .cells (cat [pt s, p1 (.int .i64 ((a : Nat) : Int)), p1 (.int .i64 ((q : Nat) : Int))]) 66)], o'.seg ms 47] ∧ r = [])) := by
  refine ct_enter Tryd.func37 rfl Tryd.ntmps37 (by kernel_rfl) rfl fun w0 => ?_
  refine c_seq ?_
  refine c_reg ?_
  refine asg (.slice _ _ _) rfl ?_
  refine jt ?_
  refine c_seq ?_
  refine c_reg ?_
  refine bsl (α := UInt32) ([]) Tryd.underlying22 ty47.sz rfl (by decide) z47 rfl fun b6 => ⟨trivial, ?_⟩
  refine asg (.slice _ _ _) rfl ?_
  refine jt ?_
  refine c_seq ?_
  refine c_block ?_
  refine c_loop (σ := List UInt32 × Ow × Nat × Int) (fun (ms, o, q, bd) => o.ok ms ∧ RK s p ms q bd) (fun (ms, o, q, bd) => if 0 ≤ bd then 0 else 102 - ms.length) (fun (ms, o, q, bd) => [(3, .slice o.adr ms.length o.cap)]) (fun (ms, o, q, bd) => [[(b, .cells (cat [pt s, p1 (.int .i64 ((q : Nat) : Int)), p1 (.int .i64 bd)]) 66)], o.seg ms 47]) (fun (ms, o, q, bd) => [tPow10 3]) [3, 4, 5, 7, 8, 9, 10, 11, 12, 13, 14, 15, 16, 17, 18, 19, 20, 21, 22, 23, 24, 25, 26, 27, 28, 29, 30, 31, 32, 33, 34, 35, 36, 37, 38, 39, 40, 41, 42, 43, 44, 45, 46, 47, 48, 49, 50, 51, 52, 53, 54, 55, 56, 57, 58, 59, 60, 61, 62, 63, 64, 65, 66, 67, 68, 69, 70] ([], ⟨false, b6, 0, []⟩, p, -1) (⟨⟨by simp, fun _ => rfl, Nat.le_refl _⟩, RK.start hp⟩) ⟨rfl, trivial⟩ rfl rfl ?_
  rintro ⟨ms, o, q, bd⟩ g1 hI1
  try dsimp only at hI1 ⊢
  have HMS := hI1.2.len
  refine c_seq ?_
  refine c_seq ?_
  refine c_dr [_, _, _] [] [(0, 0), (1, 0), (2, 0), (3, 0), (4, 0), (5, 0), (6, 0), (7, 0), (8, 0), (9, 0), (10, 0), (11, 0), (12, 0), (13, 0), (14, 0), (15, 0), (16, 0), (17, 0), (18, 0), (19, 0), (20, 0), (21, 0)] follows (by kernel_rfl) calm_body (keepS [0, 1, 2] rfl) ?_
  refine mv (.pointer _) rfl ?_
  refine nlc rfl ?_
  refine fad rfl Tryd.underlying66 rfl ty3.sz ?_
  refine ldp 0 2 _ rfl rfl rfl rfl ty3 ?_
  refine cmp _ rfl rfl rfl ?_
  refine mv (.bool _) rfl ?_
  refine jsplit 12 rfl (fun h1 => ?_) (fun h1 => ?_)
  · replace h1 := of_decide_eq_true h1
    refine g_on rfl rfl rfl ?_
    refine mv (.slice _ _ _) rfl ?_
    refine g_on rfl rfl rfl ?_
    refine lenS rfl Tryd.underlying22 ?_
    refine g_on rfl rfl rfl ?_
    refine cmp _ rfl rfl rfl ?_
    refine g_on rfl rfl rfl ?_
    refine mv (.bool _) rfl ?_
    refine jsplit 16 rfl (fun h2 => ?_) (fun h2 => ?_)
    · replace h2 := of_decide_eq_true h2
      refine g_off rfl rfl rfl rfl ?_
      refine g_off rfl rfl rfl rfl ?_
      refine g_off rfl rfl rfl rfl ?_
      refine g_off rfl rfl rfl rfl ?_
      refine g_off rfl rfl rfl rfl ?_
      refine g_off rfl rfl rfl rfl ?_
      refine g_off rfl rfl rfl rfl ?_
      refine g_off rfl rfl rfl rfl ?_
      refine g_off rfl rfl rfl rfl ?_
      refine g_off rfl rfl rfl rfl ?_
      refine g_on rfl rfl rfl ?_
      refine pkt (.bool _) rfl rfl ?_
      refine pkt (.bool _) rfl rfl ?_
      refine jt ?_
      refine c_true rfl ?_
      refine c_skip ?_
      refine e_then ?_
      refine c_block ?_
      refine c_seq ?_
      obtain rfl : bd = -1 := hI1.2.neg (by assumption)
      have HQ := hI1.2.qle rfl
      refine c_reg ?_
      refine mv (.pointer _) rfl ?_
      refine nlc rfl ?_
      refine fad rfl Tryd.underlying66 rfl ty3.sz ?_
      refine ldp 0 1 _ rfl rfl rfl rfl ty3 ?_
      refine addi rfl rfl rfl (by omega) ?_
      refine asg (.int _ _) rfl ?_
      refine jt ?_
      refine c_seq ?_
      refine c_reg ?_
      refine mv (.pointer _) rfl ?_
      refine cal (rdnum_ct b s q (by omega) (by omega) (4294967295 : UInt64) (by decide)) [0] [1] [_] rfl rfl rfl (by kernel_rfl) (impl_cons (impl_at 0 rfl) impl_nil) rfl ?_; rintro _ _ _ (⟨nn1, nq1, hnm1, rfl, rfl, rfl⟩ | ⟨nn1, nq1, na1, hnm1, rfl, rfl, rfl⟩)
      · have hnm1b := numR_next hnm1; refine ⟨trivial, ?_⟩
        refine asg (.int _ _) rfl ?_
        refine jt ?_
        refine c_seq ?_
        refine c_seq ?_
        have HU32 := u32_low (n := nn1) hnm1b.2.2.2
        refine c_reg ?_
        refine mv (.pointer _) rfl ?_
        refine nlc rfl ?_
        refine fad rfl Tryd.underlying66 rfl ty3.sz ?_
        refine ldp 1 2 _ rfl rfl rfl rfl ty3 ?_
        refine cmp true rfl rfl rfl ?_
        refine mv (.bool _) rfl ?_
        refine g_on rfl rfl rfl ?_
        refine mv (.slice _ _ _) rfl ?_
        refine g_on rfl rfl rfl ?_
        refine lenS rfl Tryd.underlying22 ?_
        refine g_on rfl rfl rfl ?_
        refine cmp _ rfl rfl rfl ?_
        refine g_on rfl rfl rfl ?_
        refine mv (.bool _) rfl ?_
        refine jsplit 45 rfl (fun h3 => ?_) (fun h3 => ?_)
        · replace h3 := of_decide_eq_true h3
          refine g_off rfl rfl rfl rfl ?_
          refine g_off rfl rfl rfl rfl ?_
          refine g_off rfl rfl rfl rfl ?_
          refine g_off rfl rfl rfl rfl ?_
          refine g_und rfl rfl rfl ?_
          refine g_und rfl rfl rfl ?_
          refine g_und rfl rfl rfl ?_
          refine g_und rfl rfl rfl ?_
          refine g_und rfl rfl rfl ?_
          refine g_und rfl rfl rfl ?_
          refine g_und rfl rfl rfl ?_
          refine g_und rfl rfl rfl ?_
          refine g_und rfl rfl rfl ?_
          refine g_off rfl rfl rfl rfl ?_
          refine g_on rfl rfl rfl ?_
          refine pkt (.bool _) rfl rfl ?_
          refine pkt (.bool _) rfl rfl ?_
          refine jt ?_
          refine c_true rfl ?_
          refine c_reg ?_
          refine mv (.pointer _) rfl ?_
          refine mv (.int _ _) rfl ?_
          refine nlc rfl ?_
          refine fad rfl Tryd.underlying66 rfl ty3.sz ?_
          refine stp 1 2 _ (p1 (.int .i64 (((q : Nat) : Int) + 1))) rfl rfl rfl rfl rfl rfl ty3 ⟨trivial, ?_⟩
          refine jt ?_
          refine c_reg ?_
          refine mv (.slice _ _ _) rfl ?_
          refine mv (.int _ _) rfl ?_
          refine cvNU32 (n := nn1.toNat) rfl Tryd.underlying23 Tryd.underlying47 ?_
          refine bsl (α := UInt32) ([(UInt32.ofNat nn1.toNat)]) Tryd.underlying22 ty47.sz rfl (by decide) z47 rfl fun b69 => ⟨trivial, ?_⟩
          refine app 0 o ms ([(UInt32.ofNat nn1.toNat)] : List UInt32) hI1.1 rfl ⟨rfl, rfl, rfl⟩ rfl rfl (gives_own (ys := ([(UInt32.ofNat nn1.toNat)] : List UInt32)) (pre := []) (post := []) 2 rfl (by simp) rfl) Tryd.underlying22 Tryd.underlying22 (.inl ⟨_, rfl⟩) ty47.sz by47 z47 rfl (by simp; omega) rfl fun o70_2 hk70_2 => ⟨trivial, ?_⟩
          refine asg (.slice _ _ _) rfl ?_
          refine jn ?_
          refine e_in ?_
          refine e_keep [1, 0] [2] [_, _] rfl (by kernel_rfl) ?_
          exact e_loop ((ms ++ ([(UInt32.ofNat nn1.toNat)] : List UInt32)), o70_2, nq1, (((q + 1) : Nat) : Int)) (⟨hk70_2, by first | exact RK.full hI1.2 (by omega) hnm1 (by omega) | exact RK.low hI1.2 (by omega) hnm1 (by omega) (by omega)⟩) (rk_less (by have := (((hI1.2.core rfl).good rfl).1).1; omega) (by simp)) (⟨rfl, trivial⟩) rfl rfl rfl
        · replace h3 := of_decide_eq_false h3
          refine g_on rfl rfl rfl ?_
          refine mv (.slice _ _ _) rfl ?_
          refine g_on rfl rfl rfl ?_
          refine lenS rfl Tryd.underlying22 ?_
          refine g_on rfl rfl rfl ?_
          refine cmp _ rfl rfl rfl ?_
          refine g_on rfl rfl rfl ?_
          refine mv (.bool _) rfl ?_
          refine jsplit 49 rfl (fun h4 => ?_) (fun h4 => ?_)
          · replace h4 := of_decide_eq_true h4
            refine g_on rfl rfl rfl ?_
            refine mv (.int _ _) rfl ?_
            refine g_on rfl rfl rfl ?_
            refine cvNU32 (n := nn1.toNat) rfl Tryd.underlying23 Tryd.underlying47 ?_
            refine g_on rfl rfl rfl ?_
            refine mv (.slice _ _ _) rfl ?_
            refine g_on rfl rfl rfl ?_
            refine mv (.slice _ _ _) rfl ?_
            refine g_on rfl rfl rfl ?_
            refine lenS rfl Tryd.underlying22 ?_
            refine g_on rfl rfl rfl ?_
            refine subi rfl rfl rfl (by omega) ?_
            refine g_on rfl rfl rfl ?_
            refine ixs ((o).vs) ms (ms.length - 1) (Ow.vs_ok hI1.1) rfl rfl rfl Tryd.underlying22 ty47.sz (by omega) (by omega) ?_
            refine g_on rfl rfl rfl ?_
            refine ldsoG 0 (List.getD ms (ms.length - 1) 0) hI1.1 rfl rfl rfl rfl (getD_some (by first | omega | (simp; done) | (simp; omega) | (simp at *; omega))) ty47 ?_
            refine g_on rfl rfl rfl ?_
            refine cmp _ rfl rfl rfl ?_
            refine g_on rfl rfl rfl ?_
            refine pkt (.bool _) rfl rfl ?_
            refine g_on rfl rfl rfl ?_
            refine pkf (.bool _) rfl rfl ?_
            refine pkt (.bool _) rfl rfl ?_
            refine jt ?_
            refine c_cond rfl (fun h5 => ?_) (fun h5 => ?_)
            · replace h5 := of_decide_eq_true h5
              refine c_reg ?_
              refine mv (.pointer _) rfl ?_
              refine mv (.int _ _) rfl ?_
              refine nlc rfl ?_
              refine fad rfl Tryd.underlying66 rfl ty3.sz ?_
              refine stp 1 2 _ (p1 (.int .i64 (((q : Nat) : Int) + 1))) rfl rfl rfl rfl rfl rfl ty3 ⟨trivial, ?_⟩
              refine jt ?_
              refine c_reg ?_
              refine mv (.slice _ _ _) rfl ?_
              refine mv (.int _ _) rfl ?_
              refine cvNU32 (n := nn1.toNat) rfl Tryd.underlying23 Tryd.underlying47 ?_
              refine bsl (α := UInt32) ([(UInt32.ofNat nn1.toNat)]) Tryd.underlying22 ty47.sz rfl (by decide) z47 rfl fun b69 => ⟨trivial, ?_⟩
              refine app 0 o ms ([(UInt32.ofNat nn1.toNat)] : List UInt32) hI1.1 rfl ⟨rfl, rfl, rfl⟩ rfl rfl (gives_own (ys := ([(UInt32.ofNat nn1.toNat)] : List UInt32)) (pre := []) (post := []) 2 rfl (by simp) rfl) Tryd.underlying22 Tryd.underlying22 (.inl ⟨_, rfl⟩) ty47.sz by47 z47 rfl (by simp; omega) rfl fun o70_3 hk70_3 => ⟨trivial, ?_⟩
              refine asg (.slice _ _ _) rfl ?_
              refine jn ?_
              refine e_in ?_
              refine e_keep [1, 0] [2] [_, _] rfl (by kernel_rfl) ?_
              exact e_loop ((ms ++ ([(UInt32.ofNat nn1.toNat)] : List UInt32)), o70_3, nq1, (((q + 1) : Nat) : Int)) (⟨hk70_3, by first | exact RK.full hI1.2 (by omega) hnm1 (by omega) | exact RK.low hI1.2 (by omega) hnm1 (by omega) (by omega)⟩) (rk_less (by have := (((hI1.2.core rfl).good rfl).1).1; omega) (by simp)) (⟨rfl, trivial⟩) rfl rfl rfl
            · replace h5 := of_decide_eq_false h5
              refine c_skip ?_
              refine e_then ?_
              refine c_reg ?_
              refine mv (.slice _ _ _) rfl ?_
              refine mv (.int _ _) rfl ?_
              refine cvNU32 (n := nn1.toNat) rfl Tryd.underlying23 Tryd.underlying47 ?_
              refine bsl (α := UInt32) ([(UInt32.ofNat nn1.toNat)]) Tryd.underlying22 ty47.sz rfl (by decide) z47 rfl fun b69 => ⟨trivial, ?_⟩
              refine app 0 o ms ([(UInt32.ofNat nn1.toNat)] : List UInt32) hI1.1 rfl ⟨rfl, rfl, rfl⟩ rfl rfl (gives_own (ys := ([(UInt32.ofNat nn1.toNat)] : List UInt32)) (pre := []) (post := []) 2 rfl (by simp) rfl) Tryd.underlying22 Tryd.underlying22 (.inl ⟨_, rfl⟩) ty47.sz by47 z47 rfl (by simp; omega) rfl fun o70_4 hk70_4 => ⟨trivial, ?_⟩
              refine asg (.slice _ _ _) rfl ?_
              refine jn ?_
              refine e_in ?_
              refine e_keep [1, 0] [2] [_, _] rfl (by kernel_rfl) ?_
              exact e_loop ((ms ++ ([(UInt32.ofNat nn1.toNat)] : List UInt32)), o70_4, nq1, -1) (⟨hk70_4, RK.go hI1.2 (by omega) hnm1 (by omega) (by omega)⟩) (rk_less (by have := (((hI1.2.core rfl).good rfl).1).1; omega) (by simp)) (⟨rfl, trivial⟩) rfl rfl rfl
          · replace h4 := of_decide_eq_false h4
            refine g_off rfl rfl rfl rfl ?_
            refine g_off rfl rfl rfl rfl ?_
            refine g_off rfl rfl rfl rfl ?_
            refine g_off rfl rfl rfl rfl ?_
            refine g_off rfl rfl rfl rfl ?_
            refine g_off rfl rfl rfl rfl ?_
            refine g_off rfl rfl rfl rfl ?_
            refine g_off rfl rfl rfl rfl ?_
            refine g_off rfl rfl rfl rfl ?_
            refine g_on rfl rfl rfl ?_
            refine pkf (.bool _) rfl rfl ?_
            refine g_on rfl rfl rfl ?_
            refine pkf (.bool _) rfl rfl ?_
            refine pkt (.bool _) rfl rfl ?_
            refine jt ?_
            refine c_false rfl ?_
            refine c_skip ?_
            refine e_then ?_
            refine c_reg ?_
            refine mv (.slice _ _ _) rfl ?_
            refine mv (.int _ _) rfl ?_
            refine cvNU32 (n := nn1.toNat) rfl Tryd.underlying23 Tryd.underlying47 ?_
            refine bsl (α := UInt32) ([(UInt32.ofNat nn1.toNat)]) Tryd.underlying22 ty47.sz rfl (by decide) z47 rfl fun b69 => ⟨trivial, ?_⟩
            refine app 0 o ms ([(UInt32.ofNat nn1.toNat)] : List UInt32) hI1.1 rfl ⟨rfl, rfl, rfl⟩ rfl rfl (gives_own (ys := ([(UInt32.ofNat nn1.toNat)] : List UInt32)) (pre := []) (post := []) 2 rfl (by simp) rfl) Tryd.underlying22 Tryd.underlying22 (.inl ⟨_, rfl⟩) ty47.sz by47 z47 rfl (by simp; omega) rfl fun o70_5 hk70_5 => ⟨trivial, ?_⟩
            refine asg (.slice _ _ _) rfl ?_
            refine jn ?_
            refine e_in ?_
            refine e_keep [1, 0] [2] [_, _] rfl (by kernel_rfl) ?_
            exact e_loop ((ms ++ ([(UInt32.ofNat nn1.toNat)] : List UInt32)), o70_5, nq1, -1) (⟨hk70_5, RK.go hI1.2 (by omega) hnm1 (by omega) (by omega)⟩) (rk_less (by have := (((hI1.2.core rfl).good rfl).1).1; omega) (by simp)) (⟨rfl, trivial⟩) rfl rfl rfl
      · refine ⟨trivial, ?_⟩
        refine asg (.int _ _) rfl ?_
        refine jt ?_
        refine c_seq ?_
        refine c_seq ?_
        refine c_reg ?_
        refine mv (.pointer _) rfl ?_
        refine nlc rfl ?_
        refine fad rfl Tryd.underlying66 rfl ty3.sz ?_
        refine ldp 1 2 _ rfl rfl rfl rfl ty3 ?_
        refine cmp false rfl rfl (by simp only [cmpV]; exact congrArg some (decide_eq_false (by omega))) ?_
        refine mv (.bool _) rfl ?_
        refine g_off rfl rfl rfl rfl ?_
        refine g_off rfl rfl rfl rfl ?_
        refine g_off rfl rfl rfl rfl ?_
        refine g_off rfl rfl rfl rfl ?_
        refine g_und rfl rfl rfl ?_
        refine g_und rfl rfl rfl ?_
        refine g_und rfl rfl rfl ?_
        refine g_und rfl rfl rfl ?_
        refine g_und rfl rfl rfl ?_
        refine g_und rfl rfl rfl ?_
        refine g_und rfl rfl rfl ?_
        refine g_und rfl rfl rfl ?_
        refine g_und rfl rfl rfl ?_
        refine g_und rfl rfl rfl ?_
        refine g_und rfl rfl rfl ?_
        refine g_und rfl rfl rfl ?_
        refine g_und rfl rfl rfl ?_
        refine g_und rfl rfl rfl ?_
        refine g_off rfl rfl rfl rfl ?_
        refine pkf (.bool _) rfl rfl ?_
        refine jt ?_
        refine c_false rfl ?_
        refine c_skip ?_
        refine e_then ?_
        refine c_reg ?_
        refine mv (.slice _ _ _) rfl ?_
        refine mv (.int _ _) rfl ?_
        refine cvNU32 (n := nn1.toNat) rfl Tryd.underlying23 Tryd.underlying47 ?_
        refine bsl (α := UInt32) ([(UInt32.ofNat nn1.toNat)]) Tryd.underlying22 ty47.sz rfl (by decide) z47 rfl fun b69 => ⟨trivial, ?_⟩
        refine app 0 o ms ([(UInt32.ofNat nn1.toNat)] : List UInt32) hI1.1 rfl ⟨rfl, rfl, rfl⟩ rfl rfl (gives_own (ys := ([(UInt32.ofNat nn1.toNat)] : List UInt32)) (pre := []) (post := []) 2 rfl (by simp) rfl) Tryd.underlying22 Tryd.underlying22 (.inl ⟨_, rfl⟩) ty47.sz by47 z47 rfl (by simp; omega) rfl fun o70_6 hk70_6 => ⟨trivial, ?_⟩
        refine asg (.slice _ _ _) rfl ?_
        refine jn ?_
        refine e_in ?_
        refine e_keep [1, 0] [2] [_, _] rfl (by kernel_rfl) ?_
        exact e_loop ((ms ++ ([(UInt32.ofNat nn1.toNat)] : List UInt32)), o70_6, na1, ((nq1 : Nat) : Int)) (⟨hk70_6, RK.fail hI1.2 (by omega) hnm1 (numR_bad_le hnm1 HQ)⟩) (rk_less (by have := (((hI1.2.core rfl).good rfl).1).1; omega) (by simp)) (⟨rfl, trivial⟩) rfl rfl rfl
    · replace h2 := of_decide_eq_false h2
      refine g_on rfl rfl rfl ?_
      refine mv (.pointer _) rfl ?_
      refine g_on rfl rfl rfl ?_
      refine nlc rfl ?_
      refine g_on rfl rfl rfl ?_
      refine fad rfl Tryd.underlying66 rfl ty3.sz ?_
      refine g_on rfl rfl rfl ?_
      refine ldp 0 1 _ rfl rfl rfl rfl ty3 ?_
      refine g_on rfl rfl rfl ?_
      refine mv (.pointer _) rfl ?_
      refine g_on rfl rfl rfl ?_
      refine nlc rfl ?_
      refine g_on rfl rfl rfl ?_
      refine fad rfl Tryd.underlying66 rfl ty9.sz ?_
      refine g_on rfl rfl rfl ?_
      refine ldp 0 0 _ rfl rfl rfl rfl ty9 ?_
      refine g_on rfl rfl rfl ?_
      refine lenT (s := s) rfl Tryd.underlying9 ?_
      refine g_on rfl rfl rfl ?_
      refine cmp _ rfl rfl rfl ?_
      refine g_on rfl rfl rfl ?_
      refine pkf (.bool _) rfl rfl ?_
      refine pkt (.bool _) rfl rfl ?_
      refine jt ?_
      refine c_cond rfl (fun h6 => ?_) (fun h6 => ?_)
      · replace h6 := of_decide_eq_true h6
        refine c_skip ?_
        refine e_then ?_
        refine c_block ?_
        refine c_seq ?_
        obtain rfl : bd = -1 := hI1.2.neg (by assumption)
        have HQ := hI1.2.qle rfl
        refine c_reg ?_
        refine mv (.pointer _) rfl ?_
        refine nlc rfl ?_
        refine fad rfl Tryd.underlying66 rfl ty3.sz ?_
        refine ldp 0 1 _ rfl rfl rfl rfl ty3 ?_
        refine addi rfl rfl rfl (by omega) ?_
        refine asg (.int _ _) rfl ?_
        refine jt ?_
        refine c_seq ?_
        refine c_reg ?_
        refine mv (.pointer _) rfl ?_
        refine cal (rdnum_ct b s q (by omega) (by omega) (4294967295 : UInt64) (by decide)) [0] [1] [_] rfl rfl rfl (by kernel_rfl) (impl_cons (impl_at 0 rfl) impl_nil) rfl ?_; rintro _ _ _ (⟨nn7, nq7, hnm7, rfl, rfl, rfl⟩ | ⟨nn7, nq7, na7, hnm7, rfl, rfl, rfl⟩)
        · have hnm7b := numR_next hnm7; refine ⟨trivial, ?_⟩
          refine asg (.int _ _) rfl ?_
          refine jt ?_
          refine c_seq ?_
          refine c_seq ?_
          have HU32 := u32_low (n := nn7) hnm7b.2.2.2
          refine c_reg ?_
          refine mv (.pointer _) rfl ?_
          refine nlc rfl ?_
          refine fad rfl Tryd.underlying66 rfl ty3.sz ?_
          refine ldp 1 2 _ rfl rfl rfl rfl ty3 ?_
          refine cmp true rfl rfl rfl ?_
          refine mv (.bool _) rfl ?_
          refine g_on rfl rfl rfl ?_
          refine mv (.slice _ _ _) rfl ?_
          refine g_on rfl rfl rfl ?_
          refine lenS rfl Tryd.underlying22 ?_
          refine g_on rfl rfl rfl ?_
          refine cmp _ rfl rfl rfl ?_
          refine g_on rfl rfl rfl ?_
          refine mv (.bool _) rfl ?_
          refine jsplit 45 rfl (fun h7 => ?_) (fun h7 => ?_)
          · replace h7 := of_decide_eq_true h7
            refine g_off rfl rfl rfl rfl ?_
            refine g_off rfl rfl rfl rfl ?_
            refine g_off rfl rfl rfl rfl ?_
            refine g_off rfl rfl rfl rfl ?_
            refine g_und rfl rfl rfl ?_
            refine g_und rfl rfl rfl ?_
            refine g_und rfl rfl rfl ?_
            refine g_und rfl rfl rfl ?_
            refine g_und rfl rfl rfl ?_
            refine g_und rfl rfl rfl ?_
            refine g_und rfl rfl rfl ?_
            refine g_und rfl rfl rfl ?_
            refine g_und rfl rfl rfl ?_
            refine g_off rfl rfl rfl rfl ?_
            refine g_on rfl rfl rfl ?_
            refine pkt (.bool _) rfl rfl ?_
            refine pkt (.bool _) rfl rfl ?_
            refine jt ?_
            refine c_true rfl ?_
            refine c_reg ?_
            refine mv (.pointer _) rfl ?_
            refine mv (.int _ _) rfl ?_
            refine nlc rfl ?_
            refine fad rfl Tryd.underlying66 rfl ty3.sz ?_
            refine stp 1 2 _ (p1 (.int .i64 (((q : Nat) : Int) + 1))) rfl rfl rfl rfl rfl rfl ty3 ⟨trivial, ?_⟩
            refine jt ?_
            refine c_reg ?_
            refine mv (.slice _ _ _) rfl ?_
            refine mv (.int _ _) rfl ?_
            refine cvNU32 (n := nn7.toNat) rfl Tryd.underlying23 Tryd.underlying47 ?_
            refine bsl (α := UInt32) ([(UInt32.ofNat nn7.toNat)]) Tryd.underlying22 ty47.sz rfl (by decide) z47 rfl fun b69 => ⟨trivial, ?_⟩
            refine app 0 o ms ([(UInt32.ofNat nn7.toNat)] : List UInt32) hI1.1 rfl ⟨rfl, rfl, rfl⟩ rfl rfl (gives_own (ys := ([(UInt32.ofNat nn7.toNat)] : List UInt32)) (pre := []) (post := []) 2 rfl (by simp) rfl) Tryd.underlying22 Tryd.underlying22 (.inl ⟨_, rfl⟩) ty47.sz by47 z47 rfl (by simp; omega) rfl fun o70_8 hk70_8 => ⟨trivial, ?_⟩
            refine asg (.slice _ _ _) rfl ?_
            refine jn ?_
            refine e_in ?_
            refine e_keep [1, 0] [2] [_, _] rfl (by kernel_rfl) ?_
            exact e_loop ((ms ++ ([(UInt32.ofNat nn7.toNat)] : List UInt32)), o70_8, nq7, (((q + 1) : Nat) : Int)) (⟨hk70_8, by first | exact RK.full hI1.2 (by omega) hnm7 (by omega) | exact RK.low hI1.2 (by omega) hnm7 (by omega) (by omega)⟩) (rk_less (by have := (((hI1.2.core rfl).good rfl).1).1; omega) (by simp)) (⟨rfl, trivial⟩) rfl rfl rfl
          · replace h7 := of_decide_eq_false h7
            refine g_on rfl rfl rfl ?_
            refine mv (.slice _ _ _) rfl ?_
            refine g_on rfl rfl rfl ?_
            refine lenS rfl Tryd.underlying22 ?_
            refine g_on rfl rfl rfl ?_
            refine cmp _ rfl rfl rfl ?_
            refine g_on rfl rfl rfl ?_
            refine mv (.bool _) rfl ?_
            refine jsplit 49 rfl (fun h8 => ?_) (fun h8 => ?_)
            · replace h8 := of_decide_eq_true h8
              refine g_on rfl rfl rfl ?_
              refine mv (.int _ _) rfl ?_
              refine g_on rfl rfl rfl ?_
              refine cvNU32 (n := nn7.toNat) rfl Tryd.underlying23 Tryd.underlying47 ?_
              refine g_on rfl rfl rfl ?_
              refine mv (.slice _ _ _) rfl ?_
              refine g_on rfl rfl rfl ?_
              refine mv (.slice _ _ _) rfl ?_
              refine g_on rfl rfl rfl ?_
              refine lenS rfl Tryd.underlying22 ?_
              refine g_on rfl rfl rfl ?_
              refine subi rfl rfl rfl (by omega) ?_
              refine g_on rfl rfl rfl ?_
              refine ixs ((o).vs) ms (ms.length - 1) (Ow.vs_ok hI1.1) rfl rfl rfl Tryd.underlying22 ty47.sz (by omega) (by omega) ?_
              refine g_on rfl rfl rfl ?_
              refine ldsoG 0 (List.getD ms (ms.length - 1) 0) hI1.1 rfl rfl rfl rfl (getD_some (by first | omega | (simp; done) | (simp; omega) | (simp at *; omega))) ty47 ?_
              refine g_on rfl rfl rfl ?_
              refine cmp _ rfl rfl rfl ?_
              refine g_on rfl rfl rfl ?_
              refine pkt (.bool _) rfl rfl ?_
              refine g_on rfl rfl rfl ?_
              refine pkf (.bool _) rfl rfl ?_
              refine pkt (.bool _) rfl rfl ?_
              refine jt ?_
              refine c_cond rfl (fun h9 => ?_) (fun h9 => ?_)
              · replace h9 := of_decide_eq_true h9
                refine c_reg ?_
                refine mv (.pointer _) rfl ?_
                refine mv (.int _ _) rfl ?_
                refine nlc rfl ?_
                refine fad rfl Tryd.underlying66 rfl ty3.sz ?_
                refine stp 1 2 _ (p1 (.int .i64 (((q : Nat) : Int) + 1))) rfl rfl rfl rfl rfl rfl ty3 ⟨trivial, ?_⟩
                refine jt ?_
                refine c_reg ?_
                refine mv (.slice _ _ _) rfl ?_
                refine mv (.int _ _) rfl ?_
                refine cvNU32 (n := nn7.toNat) rfl Tryd.underlying23 Tryd.underlying47 ?_
                refine bsl (α := UInt32) ([(UInt32.ofNat nn7.toNat)]) Tryd.underlying22 ty47.sz rfl (by decide) z47 rfl fun b69 => ⟨trivial, ?_⟩
                refine app 0 o ms ([(UInt32.ofNat nn7.toNat)] : List UInt32) hI1.1 rfl ⟨rfl, rfl, rfl⟩ rfl rfl (gives_own (ys := ([(UInt32.ofNat nn7.toNat)] : List UInt32)) (pre := []) (post := []) 2 rfl (by simp) rfl) Tryd.underlying22 Tryd.underlying22 (.inl ⟨_, rfl⟩) ty47.sz by47 z47 rfl (by simp; omega) rfl fun o70_9 hk70_9 => ⟨trivial, ?_⟩
                refine asg (.slice _ _ _) rfl ?_
                refine jn ?_
                refine e_in ?_
                refine e_keep [1, 0] [2] [_, _] rfl (by kernel_rfl) ?_
                exact e_loop ((ms ++ ([(UInt32.ofNat nn7.toNat)] : List UInt32)), o70_9, nq7, (((q + 1) : Nat) : Int)) (⟨hk70_9, by first | exact RK.full hI1.2 (by omega) hnm7 (by omega) | exact RK.low hI1.2 (by omega) hnm7 (by omega) (by omega)⟩) (rk_less (by have := (((hI1.2.core rfl).good rfl).1).1; omega) (by simp)) (⟨rfl, trivial⟩) rfl rfl rfl
              · replace h9 := of_decide_eq_false h9
                refine c_skip ?_
                refine e_then ?_
                refine c_reg ?_
                refine mv (.slice _ _ _) rfl ?_
                refine mv (.int _ _) rfl ?_
                refine cvNU32 (n := nn7.toNat) rfl Tryd.underlying23 Tryd.underlying47 ?_
                refine bsl (α := UInt32) ([(UInt32.ofNat nn7.toNat)]) Tryd.underlying22 ty47.sz rfl (by decide) z47 rfl fun b69 => ⟨trivial, ?_⟩
                refine app 0 o ms ([(UInt32.ofNat nn7.toNat)] : List UInt32) hI1.1 rfl ⟨rfl, rfl, rfl⟩ rfl rfl (gives_own (ys := ([(UInt32.ofNat nn7.toNat)] : List UInt32)) (pre := []) (post := []) 2 rfl (by simp) rfl) Tryd.underlying22 Tryd.underlying22 (.inl ⟨_, rfl⟩) ty47.sz by47 z47 rfl (by simp; omega) rfl fun o70_10 hk70_10 => ⟨trivial, ?_⟩
                refine asg (.slice _ _ _) rfl ?_
                refine jn ?_
                refine e_in ?_
                refine e_keep [1, 0] [2] [_, _] rfl (by kernel_rfl) ?_
                exact e_loop ((ms ++ ([(UInt32.ofNat nn7.toNat)] : List UInt32)), o70_10, nq7, -1) (⟨hk70_10, RK.go hI1.2 (by omega) hnm7 (by omega) (by omega)⟩) (rk_less (by have := (((hI1.2.core rfl).good rfl).1).1; omega) (by simp)) (⟨rfl, trivial⟩) rfl rfl rfl
            · replace h8 := of_decide_eq_false h8
              refine g_off rfl rfl rfl rfl ?_
              refine g_off rfl rfl rfl rfl ?_
              refine g_off rfl rfl rfl rfl ?_
              refine g_off rfl rfl rfl rfl ?_
              refine g_off rfl rfl rfl rfl ?_
              refine g_off rfl rfl rfl rfl ?_
              refine g_off rfl rfl rfl rfl ?_
              refine g_off rfl rfl rfl rfl ?_
              refine g_off rfl rfl rfl rfl ?_
              refine g_on rfl rfl rfl ?_
              refine pkf (.bool _) rfl rfl ?_
              refine g_on rfl rfl rfl ?_
              refine pkf (.bool _) rfl rfl ?_
              refine pkt (.bool _) rfl rfl ?_
              refine jt ?_
              refine c_false rfl ?_
              refine c_skip ?_
              refine e_then ?_
              refine c_reg ?_
              refine mv (.slice _ _ _) rfl ?_
              refine mv (.int _ _) rfl ?_
              refine cvNU32 (n := nn7.toNat) rfl Tryd.underlying23 Tryd.underlying47 ?_
              refine bsl (α := UInt32) ([(UInt32.ofNat nn7.toNat)]) Tryd.underlying22 ty47.sz rfl (by decide) z47 rfl fun b69 => ⟨trivial, ?_⟩
              refine app 0 o ms ([(UInt32.ofNat nn7.toNat)] : List UInt32) hI1.1 rfl ⟨rfl, rfl, rfl⟩ rfl rfl (gives_own (ys := ([(UInt32.ofNat nn7.toNat)] : List UInt32)) (pre := []) (post := []) 2 rfl (by simp) rfl) Tryd.underlying22 Tryd.underlying22 (.inl ⟨_, rfl⟩) ty47.sz by47 z47 rfl (by simp; omega) rfl fun o70_11 hk70_11 => ⟨trivial, ?_⟩
              refine asg (.slice _ _ _) rfl ?_
              refine jn ?_
              refine e_in ?_
              refine e_keep [1, 0] [2] [_, _] rfl (by kernel_rfl) ?_
              exact e_loop ((ms ++ ([(UInt32.ofNat nn7.toNat)] : List UInt32)), o70_11, nq7, -1) (⟨hk70_11, RK.go hI1.2 (by omega) hnm7 (by omega) (by omega)⟩) (rk_less (by have := (((hI1.2.core rfl).good rfl).1).1; omega) (by simp)) (⟨rfl, trivial⟩) rfl rfl rfl
        · refine ⟨trivial, ?_⟩
          refine asg (.int _ _) rfl ?_
          refine jt ?_
          refine c_seq ?_
          refine c_seq ?_
          refine c_reg ?_
          refine mv (.pointer _) rfl ?_
          refine nlc rfl ?_
          refine fad rfl Tryd.underlying66 rfl ty3.sz ?_
          refine ldp 1 2 _ rfl rfl rfl rfl ty3 ?_
          refine cmp false rfl rfl (by simp only [cmpV]; exact congrArg some (decide_eq_false (by omega))) ?_
          refine mv (.bool _) rfl ?_
          refine g_off rfl rfl rfl rfl ?_
          refine g_off rfl rfl rfl rfl ?_
          refine g_off rfl rfl rfl rfl ?_
          refine g_off rfl rfl rfl rfl ?_
          refine g_und rfl rfl rfl ?_
          refine g_und rfl rfl rfl ?_
          refine g_und rfl rfl rfl ?_
          refine g_und rfl rfl rfl ?_
          refine g_und rfl rfl rfl ?_
          refine g_und rfl rfl rfl ?_
          refine g_und rfl rfl rfl ?_
          refine g_und rfl rfl rfl ?_
          refine g_und rfl rfl rfl ?_
          refine g_und rfl rfl rfl ?_
          refine g_und rfl rfl rfl ?_
          refine g_und rfl rfl rfl ?_
          refine g_und rfl rfl rfl ?_
          refine g_und rfl rfl rfl ?_
          refine g_off rfl rfl rfl rfl ?_
          refine pkf (.bool _) rfl rfl ?_
          refine jt ?_
          refine c_false rfl ?_
          refine c_skip ?_
          refine e_then ?_
          refine c_reg ?_
          refine mv (.slice _ _ _) rfl ?_
          refine mv (.int _ _) rfl ?_
          refine cvNU32 (n := nn7.toNat) rfl Tryd.underlying23 Tryd.underlying47 ?_
          refine bsl (α := UInt32) ([(UInt32.ofNat nn7.toNat)]) Tryd.underlying22 ty47.sz rfl (by decide) z47 rfl fun b69 => ⟨trivial, ?_⟩
          refine app 0 o ms ([(UInt32.ofNat nn7.toNat)] : List UInt32) hI1.1 rfl ⟨rfl, rfl, rfl⟩ rfl rfl (gives_own (ys := ([(UInt32.ofNat nn7.toNat)] : List UInt32)) (pre := []) (post := []) 2 rfl (by simp) rfl) Tryd.underlying22 Tryd.underlying22 (.inl ⟨_, rfl⟩) ty47.sz by47 z47 rfl (by simp; omega) rfl fun o70_12 hk70_12 => ⟨trivial, ?_⟩
          refine asg (.slice _ _ _) rfl ?_
          refine jn ?_
          refine e_in ?_
          refine e_keep [1, 0] [2] [_, _] rfl (by kernel_rfl) ?_
          exact e_loop ((ms ++ ([(UInt32.ofNat nn7.toNat)] : List UInt32)), o70_12, na7, ((nq7 : Nat) : Int)) (⟨hk70_12, RK.fail hI1.2 (by omega) hnm7 (numR_bad_le hnm7 HQ)⟩) (rk_less (by have := (((hI1.2.core rfl).good rfl).1).1; omega) (by simp)) (⟨rfl, trivial⟩) rfl rfl rfl
      · replace h6 := of_decide_eq_false h6
        refine c_exit rfl ?_
        refine e_then ?_
        refine c_seq ?_
        obtain rfl : bd = -1 := hI1.2.neg (by assumption)
        have HQ := hI1.2.qle rfl
        refine c_reg ?_
        refine mv (.slice _ _ _) rfl ?_
        refine asg (.slice _ _ _) rfl ?_
        refine jt ?_
        refine c_ret ?_
        exact j_end (own0 := [[(b, .cells (cat [pt s, p1 (.int .i64 ((p : Nat) : Int)), p1 (.int .i64 (-1))]) 66)]]) (ro0 := [tPow10 3]) (.inl rfl) rfl (hr1 Tryd.results37 (rvt (v := (.slice _ _ _)) rfl)) [0, 1] [] [_, _] [] [] _ rfl rfl (by kernel_rfl) rfl impl_nil (.inl ⟨o, ms, q, hI1.2.done (by omega), ⟨HQ, HMS⟩, hI1.1, rfl, rfl, rfl⟩)
  · replace h1 := of_decide_eq_false h1
    refine g_off rfl rfl rfl rfl ?_
    refine g_off rfl rfl rfl rfl ?_
    refine g_off rfl rfl rfl rfl ?_
    refine g_off rfl rfl rfl rfl ?_
    refine g_und rfl rfl rfl ?_
    refine g_und rfl rfl rfl ?_
    refine g_und rfl rfl rfl ?_
    refine g_und rfl rfl rfl ?_
    refine g_und rfl rfl rfl ?_
    refine g_und rfl rfl rfl ?_
    refine g_und rfl rfl rfl ?_
    refine g_und rfl rfl rfl ?_
    refine g_und rfl rfl rfl ?_
    refine g_und rfl rfl rfl ?_
    refine g_off rfl rfl rfl rfl ?_
    refine pkf (.bool _) rfl rfl ?_
    refine jt ?_
    refine c_false rfl ?_
    refine c_exit rfl ?_
    refine e_then ?_
    refine c_seq ?_
    obtain ⟨kb, rfl, HKB⟩ := hI1.2.bad (by assumption)
    refine c_reg ?_
    refine mv (.slice _ _ _) rfl ?_
    refine asg (.slice _ _ _) rfl ?_
    refine jt ?_
    refine c_ret ?_
    exact j_end (own0 := [[(b, .cells (cat [pt s, p1 (.int .i64 ((p : Nat) : Int)), p1 (.int .i64 (-1))]) 66)]]) (ro0 := [tPow10 3]) (.inl rfl) rfl (hr1 Tryd.results37 (rvt (v := (.slice _ _ _)) rfl)) [0, 1] [] [_, _] [] [] _ rfl rfl (by kernel_rfl) rfl impl_nil (.inr ⟨o, ms, kb, q, HKB, HMS, hI1.1, rfl, rfl, rfl⟩)
end Go.Proofs.YthpbiamicidakaaDoor
