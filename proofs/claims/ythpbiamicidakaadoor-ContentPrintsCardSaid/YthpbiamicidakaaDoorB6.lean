/- Contracts of the program's functions, walked. No condition. -/
import Derived.Test.YthpbiamicidakaaDoorB5
namespace Go.Proofs.YthpbiamicidakaaDoor
open Go Go.Proofs Go.PW
open Go.PW.Enc (enc val)


theorem decimal_ct (n : UInt64) : Ct Tryd.prog 25 [.int .u64 (n.toNat : Int)] [] [tPow10 3] (fun v o r => v = strV (fmtN 10 n.toNat) ∧ o = [] ∧ r = []) := by
  refine ct_enter Tryd.func25 rfl Tryd.ntmps25 (by kernel_rfl) rfl fun w0 => ?_
  refine c_seq ?_
  refine c_reg ?_
  refine asg (.string _) rfl ?_
  refine jt ?_
  refine c_seq ?_
  refine c_reg ?_
  refine mv (.int _ _) rfl ?_
  refine cal (sFormatUint10_ct n) [] [] [] rfl rfl rfl (by kernel_rfl) (impl_cons (impl_at 0 rfl) impl_nil) rfl ?_; rintro _ _ _ ⟨rfl, rfl, rfl⟩; refine ⟨trivial, ?_⟩
  refine asg (.string _) rfl ?_
  refine jt ?_
  refine c_ret ?_
  exact j_end (own0 := []) (ro0 := [tPow10 3]) (.inl rfl) rfl (hr1 Tryd.results25 (rvt (v := (.string _)) rfl)) [] [] [] [] [] _ rfl rfl (by kernel_rfl) rfl impl_nil (⟨rfl, rfl, rfl⟩)

theorem rhex_ct (n : UInt64) (k : Nat) (hk : k ≤ 16) : Ct Tryd.prog 26 [.int .u64 (n.toNat : Int), .int .i64 (k : Int)] [] [tDb64 8] (fun v o r => v = strV (padN k (fmtN 16 n.toNat)) ∧ o = [] ∧ r = []) := by
  refine ct_enter Tryd.func26 rfl Tryd.ntmps26 (by kernel_rfl) rfl fun w0 => ?_
  refine c_seq ?_
  refine c_reg ?_
  refine asg (.string _) rfl ?_
  refine jt ?_
  refine c_seq ?_
  refine c_reg ?_
  refine mv (.int _ _) rfl ?_
  refine cal (sFormatUint16_ct n) [] [] [] rfl rfl rfl (by kernel_rfl) (impl_cons (impl_at 0 rfl) impl_nil) rfl ?_; rintro _ _ _ ⟨rfl, rfl, rfl⟩; refine ⟨trivial, ?_⟩
  refine asg (.string _) rfl ?_
  refine jt ?_
  refine c_seq ?_
  refine c_block ?_
  refine c_loop (σ := Str) (fun s => padN k s = padN k (fmtN 16 n.toNat) ∧ s.length ≤ 65) (fun s => k - s.length) (fun s => [(5, strV s)]) (fun s => []) (fun s => [tDb64 8]) [5, 8, 9, 10, 11, 12, 13] (fmtN 16 n.toNat) (⟨rfl, (fmtN_length _ _).2⟩) ⟨rfl, trivial⟩ rfl rfl ?_
  rintro s g1 hI1
  try dsimp only at hI1 ⊢
  refine c_seq ?_
  refine c_seq ?_
  refine c_reg ?_
  refine mv (.string _) rfl ?_
  refine lenT (s := s) rfl Tryd.underlying9 ?_
  refine mv (.int _ _) rfl ?_
  refine cmp _ rfl rfl rfl ?_
  refine jt ?_
  refine c_cond rfl (fun h1 => ?_) (fun h1 => ?_)
  · replace h1 := of_decide_eq_true h1
    refine c_skip ?_
    refine e_then ?_
    refine c_block ?_
    refine c_reg ?_
    refine mv (.string _) rfl ?_
    refine sadd (a := ([48] : Str)) (b := s) rfl rfl (by first | omega | (simp; omega)) ?_
    refine asg (.string _) rfl ?_
    refine jn ?_
    refine e_in ?_
    exact e_loop (([48] : Str) ++ s) (⟨by rw [pad_step (by omega)]; exact hI1.1, by simp; omega⟩) (by simp; omega) (⟨rfl, trivial⟩) rfl rfl rfl
  · replace h1 := of_decide_eq_false h1
    refine c_exit rfl ?_
    refine e_then ?_
    refine c_seq ?_
    refine c_reg ?_
    refine mv (.string _) rfl ?_
    refine asg (.string _) rfl ?_
    refine jt ?_
    refine c_ret ?_
    exact j_end (own0 := []) (ro0 := [tDb64 8]) (.inl rfl) rfl (hr1 Tryd.results26 (rvt (v := (.string _)) rfl)) [] [] [] [] [] _ rfl rfl (by kernel_rfl) rfl impl_nil (⟨by rw [← hI1.1, pad_done (by omega)], rfl, rfl⟩)

set_option maxRecDepth 20000 in
set_option maxHeartbeats 4000000 in
theorem Quoted_ct (s : Str) (hu : u8ok s = true) (hl : s.length ≤ 2000) : Ct Tryd.prog 24 [strV s] [] [tDb64 8] (fun v o r => v = strV (quoteS s) ∧ o = [] ∧ r = []) := by
  refine ct_enter Tryd.func24 rfl Tryd.ntmps24 (by kernel_rfl) rfl fun w0 => ?_
  refine c_seq ?_
  refine c_reg ?_
  refine asg (.string _) rfl ?_
  refine jt ?_
  refine c_seq ?_
  refine c_reg ?_
  refine asg (.string _) rfl ?_
  refine jt ?_
  refine c_seq ?_
  refine c_block ?_
  refine c_loop (σ := Str × Str) (fun (t, q) => u8ok t = true ∧ q ++ qbody t = [34] ++ qbody s ∧ q.length + 70 * t.length ≤ 1 + 70 * s.length) (fun (t, q) => t.length) (fun (t, q) => [(0, strV t), (3, strV q)]) (fun (t, q) => []) (fun (t, q) => [tDb64 8]) [0, 3, 4, 5, 6, 7, 8, 9, 10, 11, 12, 13, 14, 15, 16, 17, 18, 19, 20, 21, 22, 23, 24, 25, 26, 27, 28, 29, 30, 31, 32, 33, 34, 35, 36, 37, 38, 39, 40, 41, 42, 43, 44, 45, 46] (s, [34]) (⟨hu, rfl, by simp⟩) ⟨rfl, rfl, trivial⟩ rfl rfl ?_
  rintro ⟨t, q⟩ g1 hI1
  try dsimp only at hI1 ⊢
  refine c_seq ?_
  refine c_seq ?_
  refine c_reg ?_
  refine mv (.string _) rfl ?_
  refine lenT (s := t) rfl Tryd.underlying9 ?_
  refine cmp _ rfl rfl rfl ?_
  refine jt ?_
  refine c_cond rfl (fun h1 => ?_) (fun h1 => ?_)
  · replace h1 := of_decide_eq_true h1
    refine c_skip ?_
    refine e_then ?_
    refine c_block ?_
    refine c_seq ?_
    have HS := u8ok_step hI1.1 (by omega)
    have HSL := u8step_le HS (by omega)
    have HB := chr_lt t
    have HF := (fmtN_length 16 (UInt64.ofNat (chr t)).toNat).2
    have HPL := pad_length (k := 1) (s := fmtN 16 (UInt64.ofNat (chr t)).toNat)
    refine c_reg ?_
    refine mv (.string _) rfl ?_
    refine cal (character_ct t HS (by omega)) [] [] [] rfl rfl rfl (by kernel_rfl) impl_nil rfl ?_; rintro _ _ _ ⟨rfl, rfl, rfl⟩; refine ⟨trivial, ?_⟩
    refine mv (.tuple _) rfl ?_
    refine xtr (.int _ _) rfl rfl ?_
    refine xtr (.int _ _) rfl rfl ?_
    refine asg (.int _ _) rfl ?_
    refine asg (.int _ _) rfl ?_
    refine jt ?_
    refine c_seq ?_
    refine c_block ?_
    refine c_seq ?_
    refine c_reg ?_
    refine mv (.int _ _) rfl ?_
    refine cmp _ rfl rfl rfl ?_
    refine mv (.bool _) rfl ?_
    refine jsplit 24 rfl (fun h2 => ?_) (fun h2 => ?_)
    · replace h2 := of_decide_eq_true h2
      refine g_off rfl rfl rfl rfl ?_
      refine g_off rfl rfl rfl rfl ?_
      refine pkt (.bool _) rfl rfl ?_
      refine asg (.bool _) rfl ?_
      refine jt ?_
      refine c_true rfl ?_
      refine c_reg ?_
      refine mv (.string _) rfl ?_
      refine sadd (a := q) (b := ([92] : Str)) rfl rfl (by first | omega | ((try simp only [List.length_append]); (try simp only [List.length_cons, List.length_nil]); (try simp only [pad_length]); (try simp only [List.length_take]); (try simp only [List.length_drop]); omega)) ?_
      refine mv (.string _) rfl ?_
      refine cutT (s := t) 0 1 rfl Tryd.underlying9 rfl ⟨_, rfl⟩ (by first | omega | (simp; done) | (simp; omega)) (by first | omega | (simp; done) | (simp; omega)) (List.take 1 t) (cut_lo _ _) ?_
      refine sadd (a := (q ++ ([92] : Str))) (b := (List.take 1 t)) rfl rfl (by first | omega | ((try simp only [List.length_append]); (try simp only [List.length_cons, List.length_nil]); (try simp only [pad_length]); (try simp only [List.length_take]); (try simp only [List.length_drop]); omega)) ?_
      refine asg (.string _) rfl ?_
      refine jn ?_
      refine e_in ?_
      refine e_then ?_
      refine c_reg ?_
      refine mv (.string _) rfl ?_
      refine mv (.int _ _) rfl ?_
      refine cutT (s := t) (u8step t) t.length rfl Tryd.underlying9 ⟨_, rfl⟩ rfl (by first | omega | (simp; done) | (simp; omega)) (by first | omega | (simp; done) | (simp; omega)) (List.drop (u8step t) t) (cut_hi _ _) ?_
      refine asg (.string _) rfl ?_
      refine jn ?_
      refine e_in ?_
      exact e_loop ((List.drop (u8step t) t), ((q ++ ([92] : Str)) ++ (List.take 1 t))) (⟨u8ok_rest hI1.1 (by omega), by rw [← hI1.2.1, qbody_go HS (by omega)]; (first | rw [qstep_q (by omega), chr_take HS (by omega) (by omega)] | rw [qstep_p (by omega) (by omega), chr_take HS (by omega) (by omega)] | rw [qstep_u (by omega) (by omega), UInt64.toNat_ofNat', Nat.mod_eq_of_lt (by omega), pad_one]); simp, by first | omega | ((try simp only [List.length_append]); (try simp only [List.length_cons, List.length_nil]); (try simp only [pad_length]); (try simp only [List.length_take]); (try simp only [List.length_drop]); omega)⟩) (by have := (u8step_le HS (by omega)); simp; omega) (⟨rfl, rfl, trivial⟩) rfl rfl rfl
    · replace h2 := of_decide_eq_false h2
      refine g_on rfl rfl rfl ?_
      refine mv (.int _ _) rfl ?_
      refine g_on rfl rfl rfl ?_
      refine cmp _ rfl rfl rfl ?_
      refine pkf (.bool _) rfl rfl ?_
      refine asg (.bool _) rfl ?_
      refine jt ?_
      refine c_cond rfl (fun h3 => ?_) (fun h3 => ?_)
      · replace h3 := of_decide_eq_true h3
        refine c_reg ?_
        refine mv (.string _) rfl ?_
        refine sadd (a := q) (b := ([92] : Str)) rfl rfl (by first | omega | ((try simp only [List.length_append]); (try simp only [List.length_cons, List.length_nil]); (try simp only [pad_length]); (try simp only [List.length_take]); (try simp only [List.length_drop]); omega)) ?_
        refine mv (.string _) rfl ?_
        refine cutT (s := t) 0 1 rfl Tryd.underlying9 rfl ⟨_, rfl⟩ (by first | omega | (simp; done) | (simp; omega)) (by first | omega | (simp; done) | (simp; omega)) (List.take 1 t) (cut_lo _ _) ?_
        refine sadd (a := (q ++ ([92] : Str))) (b := (List.take 1 t)) rfl rfl (by first | omega | ((try simp only [List.length_append]); (try simp only [List.length_cons, List.length_nil]); (try simp only [pad_length]); (try simp only [List.length_take]); (try simp only [List.length_drop]); omega)) ?_
        refine asg (.string _) rfl ?_
        refine jn ?_
        refine e_in ?_
        refine e_then ?_
        refine c_reg ?_
        refine mv (.string _) rfl ?_
        refine mv (.int _ _) rfl ?_
        refine cutT (s := t) (u8step t) t.length rfl Tryd.underlying9 ⟨_, rfl⟩ rfl (by first | omega | (simp; done) | (simp; omega)) (by first | omega | (simp; done) | (simp; omega)) (List.drop (u8step t) t) (cut_hi _ _) ?_
        refine asg (.string _) rfl ?_
        refine jn ?_
        refine e_in ?_
        exact e_loop ((List.drop (u8step t) t), ((q ++ ([92] : Str)) ++ (List.take 1 t))) (⟨u8ok_rest hI1.1 (by omega), by rw [← hI1.2.1, qbody_go HS (by omega)]; (first | rw [qstep_q (by omega), chr_take HS (by omega) (by omega)] | rw [qstep_p (by omega) (by omega), chr_take HS (by omega) (by omega)] | rw [qstep_u (by omega) (by omega), UInt64.toNat_ofNat', Nat.mod_eq_of_lt (by omega), pad_one]); simp, by first | omega | ((try simp only [List.length_append]); (try simp only [List.length_cons, List.length_nil]); (try simp only [pad_length]); (try simp only [List.length_take]); (try simp only [List.length_drop]); omega)⟩) (by have := (u8step_le HS (by omega)); simp; omega) (⟨rfl, rfl, trivial⟩) rfl rfl rfl
      · replace h3 := of_decide_eq_false h3
        refine c_seq ?_
        refine c_reg ?_
        refine mv (.int _ _) rfl ?_
        refine cmp _ rfl rfl rfl ?_
        refine mv (.bool _) rfl ?_
        refine jsplit 36 rfl (fun h4 => ?_) (fun h4 => ?_)
        · replace h4 := of_decide_eq_true h4
          refine g_on rfl rfl rfl ?_
          refine mv (.int _ _) rfl ?_
          refine g_on rfl rfl rfl ?_
          refine cmp _ rfl rfl rfl ?_
          refine pkt (.bool _) rfl rfl ?_
          refine asg (.bool _) rfl ?_
          refine jt ?_
          refine c_cond rfl (fun h5 => ?_) (fun h5 => ?_)
          · replace h5 := of_decide_eq_true h5
            refine c_reg ?_
            refine mv (.string _) rfl ?_
            refine mv (.string _) rfl ?_
            refine cutT (s := t) 0 1 rfl Tryd.underlying9 rfl ⟨_, rfl⟩ (by first | omega | (simp; done) | (simp; omega)) (by first | omega | (simp; done) | (simp; omega)) (List.take 1 t) (cut_lo _ _) ?_
            refine sadd (a := q) (b := (List.take 1 t)) rfl rfl (by first | omega | ((try simp only [List.length_append]); (try simp only [List.length_cons, List.length_nil]); (try simp only [pad_length]); (try simp only [List.length_take]); (try simp only [List.length_drop]); omega)) ?_
            refine asg (.string _) rfl ?_
            refine jn ?_
            refine e_in ?_
            refine e_then ?_
            refine c_reg ?_
            refine mv (.string _) rfl ?_
            refine mv (.int _ _) rfl ?_
            refine cutT (s := t) (u8step t) t.length rfl Tryd.underlying9 ⟨_, rfl⟩ rfl (by first | omega | (simp; done) | (simp; omega)) (by first | omega | (simp; done) | (simp; omega)) (List.drop (u8step t) t) (cut_hi _ _) ?_
            refine asg (.string _) rfl ?_
            refine jn ?_
            refine e_in ?_
            exact e_loop ((List.drop (u8step t) t), (q ++ (List.take 1 t))) (⟨u8ok_rest hI1.1 (by omega), by rw [← hI1.2.1, qbody_go HS (by omega)]; (first | rw [qstep_q (by omega), chr_take HS (by omega) (by omega)] | rw [qstep_p (by omega) (by omega), chr_take HS (by omega) (by omega)] | rw [qstep_u (by omega) (by omega), UInt64.toNat_ofNat', Nat.mod_eq_of_lt (by omega), pad_one]); simp, by first | omega | ((try simp only [List.length_append]); (try simp only [List.length_cons, List.length_nil]); (try simp only [pad_length]); (try simp only [List.length_take]); (try simp only [List.length_drop]); omega)⟩) (by have := (u8step_le HS (by omega)); simp; omega) (⟨rfl, rfl, trivial⟩) rfl rfl rfl
          · replace h5 := of_decide_eq_false h5
            refine c_reg ?_
            refine mv (.string _) rfl ?_
            refine sadd (a := q) (b := ([92, 117, 123] : Str)) rfl rfl (by first | omega | ((try simp only [List.length_append]); (try simp only [List.length_cons, List.length_nil]); (try simp only [pad_length]); (try simp only [List.length_take]); (try simp only [List.length_drop]); omega)) ?_
            refine mv (.int _ _) rfl ?_
            refine cvNU64 (n := (chr t)) rfl Tryd.underlying3 Tryd.underlying23 ?_
            refine cal (rhex_ct (UInt64.ofNat (chr t)) 1 (by omega)) [] [] [] rfl rfl rfl (by kernel_rfl) (impl_cons (impl_at 0 rfl) impl_nil) rfl ?_; rintro _ _ _ ⟨rfl, rfl, rfl⟩; refine ⟨trivial, ?_⟩
            refine sadd (a := (q ++ ([92, 117, 123] : Str))) (b := (padN 1 (fmtN 16 (UInt64.ofNat (chr t)).toNat))) rfl rfl (by first | omega | ((try simp only [List.length_append]); (try simp only [List.length_cons, List.length_nil]); (try simp only [pad_length]); (try simp only [List.length_take]); (try simp only [List.length_drop]); omega)) ?_
            refine sadd (a := ((q ++ ([92, 117, 123] : Str)) ++ (padN 1 (fmtN 16 (UInt64.ofNat (chr t)).toNat)))) (b := ([125] : Str)) rfl rfl (by first | omega | ((try simp only [List.length_append]); (try simp only [List.length_cons, List.length_nil]); (try simp only [pad_length]); (try simp only [List.length_take]); (try simp only [List.length_drop]); omega)) ?_
            refine asg (.string _) rfl ?_
            refine jn ?_
            refine e_in ?_
            refine e_then ?_
            refine c_reg ?_
            refine mv (.string _) rfl ?_
            refine mv (.int _ _) rfl ?_
            refine cutT (s := t) (u8step t) t.length rfl Tryd.underlying9 ⟨_, rfl⟩ rfl (by first | omega | (simp; done) | (simp; omega)) (by first | omega | (simp; done) | (simp; omega)) (List.drop (u8step t) t) (cut_hi _ _) ?_
            refine asg (.string _) rfl ?_
            refine jn ?_
            refine e_in ?_
            exact e_loop ((List.drop (u8step t) t), (((q ++ ([92, 117, 123] : Str)) ++ (padN 1 (fmtN 16 (UInt64.ofNat (chr t)).toNat))) ++ ([125] : Str))) (⟨u8ok_rest hI1.1 (by omega), by rw [← hI1.2.1, qbody_go HS (by omega)]; (first | rw [qstep_q (by omega), chr_take HS (by omega) (by omega)] | rw [qstep_p (by omega) (by omega), chr_take HS (by omega) (by omega)] | rw [qstep_u (by omega) (by omega), UInt64.toNat_ofNat', Nat.mod_eq_of_lt (by omega), pad_one]); simp, by first | omega | ((try simp only [List.length_append]); (try simp only [List.length_cons, List.length_nil]); (try simp only [pad_length]); (try simp only [List.length_take]); (try simp only [List.length_drop]); omega)⟩) (by have := (u8step_le HS (by omega)); simp; omega) (⟨rfl, rfl, trivial⟩) rfl rfl rfl
        · replace h4 := of_decide_eq_false h4
          refine g_off rfl rfl rfl rfl ?_
          refine g_off rfl rfl rfl rfl ?_
          refine pkf (.bool _) rfl rfl ?_
          refine asg (.bool _) rfl ?_
          refine jt ?_
          refine c_false rfl ?_
          refine c_reg ?_
          refine mv (.string _) rfl ?_
          refine sadd (a := q) (b := ([92, 117, 123] : Str)) rfl rfl (by first | omega | ((try simp only [List.length_append]); (try simp only [List.length_cons, List.length_nil]); (try simp only [pad_length]); (try simp only [List.length_take]); (try simp only [List.length_drop]); omega)) ?_
          refine mv (.int _ _) rfl ?_
          refine cvNU64 (n := (chr t)) rfl Tryd.underlying3 Tryd.underlying23 ?_
          refine cal (rhex_ct (UInt64.ofNat (chr t)) 1 (by omega)) [] [] [] rfl rfl rfl (by kernel_rfl) (impl_cons (impl_at 0 rfl) impl_nil) rfl ?_; rintro _ _ _ ⟨rfl, rfl, rfl⟩; refine ⟨trivial, ?_⟩
          refine sadd (a := (q ++ ([92, 117, 123] : Str))) (b := (padN 1 (fmtN 16 (UInt64.ofNat (chr t)).toNat))) rfl rfl (by first | omega | ((try simp only [List.length_append]); (try simp only [List.length_cons, List.length_nil]); (try simp only [pad_length]); (try simp only [List.length_take]); (try simp only [List.length_drop]); omega)) ?_
          refine sadd (a := ((q ++ ([92, 117, 123] : Str)) ++ (padN 1 (fmtN 16 (UInt64.ofNat (chr t)).toNat)))) (b := ([125] : Str)) rfl rfl (by first | omega | ((try simp only [List.length_append]); (try simp only [List.length_cons, List.length_nil]); (try simp only [pad_length]); (try simp only [List.length_take]); (try simp only [List.length_drop]); omega)) ?_
          refine asg (.string _) rfl ?_
          refine jn ?_
          refine e_in ?_
          refine e_then ?_
          refine c_reg ?_
          refine mv (.string _) rfl ?_
          refine mv (.int _ _) rfl ?_
          refine cutT (s := t) (u8step t) t.length rfl Tryd.underlying9 ⟨_, rfl⟩ rfl (by first | omega | (simp; done) | (simp; omega)) (by first | omega | (simp; done) | (simp; omega)) (List.drop (u8step t) t) (cut_hi _ _) ?_
          refine asg (.string _) rfl ?_
          refine jn ?_
          refine e_in ?_
          exact e_loop ((List.drop (u8step t) t), (((q ++ ([92, 117, 123] : Str)) ++ (padN 1 (fmtN 16 (UInt64.ofNat (chr t)).toNat))) ++ ([125] : Str))) (⟨u8ok_rest hI1.1 (by omega), by rw [← hI1.2.1, qbody_go HS (by omega)]; (first | rw [qstep_q (by omega), chr_take HS (by omega) (by omega)] | rw [qstep_p (by omega) (by omega), chr_take HS (by omega) (by omega)] | rw [qstep_u (by omega) (by omega), UInt64.toNat_ofNat', Nat.mod_eq_of_lt (by omega), pad_one]); simp, by first | omega | ((try simp only [List.length_append]); (try simp only [List.length_cons, List.length_nil]); (try simp only [pad_length]); (try simp only [List.length_take]); (try simp only [List.length_drop]); omega)⟩) (by have := (u8step_le HS (by omega)); simp; omega) (⟨rfl, rfl, trivial⟩) rfl rfl rfl
  · replace h1 := of_decide_eq_false h1
    refine c_exit rfl ?_
    refine e_then ?_
    refine c_seq ?_
    refine c_reg ?_
    refine mv (.string _) rfl ?_
    refine sadd (a := q) (b := ([34] : Str)) rfl rfl (by first | omega | ((try simp only [List.length_append]); (try simp only [List.length_cons, List.length_nil]); (try simp only [pad_length]); (try simp only [List.length_take]); (try simp only [List.length_drop]); omega)) ?_
    refine asg (.string _) rfl ?_
    refine jt ?_
    refine c_ret ?_
    exact j_end (own0 := []) (ro0 := [tDb64 8]) (.inl rfl) rfl (hr1 Tryd.results24 (rvt (v := (.string _)) rfl)) [] [] [] [] [] _ rfl rfl (by kernel_rfl) rfl impl_nil (⟨by rw [show q = [34] ++ qbody s by rw [← hI1.2.1, qbody_nil (by omega)]; simp]; rfl, rfl, rfl⟩)
end Go.Proofs.YthpbiamicidakaaDoor
