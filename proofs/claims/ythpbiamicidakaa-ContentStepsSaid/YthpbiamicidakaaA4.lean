/- Contracts of the program's functions, walked. No condition. -/
import Derived.Test.YthpbiamicidakaaA3
import Derived.Test.YthpbiamicidakaaF5
namespace Go.Proofs.Ythpbiamicidakaa
open Go Go.Proofs Go.PW
open Go.PW.Enc (enc val)


theorem Degrees_ct (n : Int) (hn : n.natAbs ≤ 2147483648) : Ct Try.prog 9 [.int .i32 n] [] [] (fun v o r => v = .float .f64 (degF n).b.toNat ∧ o = [] ∧ r = []) := by
  refine ct_enter Try.func9 rfl Try.ntmps9 (by kernel_rfl) rfl fun w0 => ?_
  refine c_seq ?_
  refine c_reg ?_
  refine asg (.float _ _) rfl ?_
  refine jt ?_
  refine c_seq ?_
  refine c_reg ?_
  refine mv (.int _ _) rfl ?_
  refine cvf rfl Try.underlying21 Try.underlying23 ?_
  refine fari ((degF n).b.toNat) rfl rfl (deg_ok hn) ?_
  refine asg (.float _ _) rfl ?_
  refine jt ?_
  refine c_ret ?_
  exact j_end (own0 := []) (ro0 := []) (.inl rfl) rfl (hr1 Try.results9 (rvt (v := (.float _ _)) rfl)) [] [] [] [] [] _ rfl rfl (by kernel_rfl) rfl impl_nil (⟨rfl, rfl, rfl⟩)

theorem RDegrees_ct (n : Int) (hn : n.natAbs ≤ 2147483648) : Ct Try.prog 10 [.int .i32 n] [] [] (fun v o r => v = .float .f64 (degF n).b.toNat ∧ o = [] ∧ r = []) := by
  refine ct_enter Try.func10 rfl Try.ntmps10 (by kernel_rfl) rfl fun w0 => ?_
  refine c_seq ?_
  refine c_reg ?_
  refine asg (.float _ _) rfl ?_
  refine jt ?_
  refine c_seq ?_
  refine c_reg ?_
  refine mv (.int _ _) rfl ?_
  refine cvf rfl Try.underlying21 Try.underlying23 ?_
  refine fari ((degF n).b.toNat) rfl rfl (deg_ok hn) ?_
  refine asg (.float _ _) rfl ?_
  refine jt ?_
  refine c_ret ?_
  exact j_end (own0 := []) (ro0 := []) (.inl rfl) rfl (hr1 Try.results10 (rvt (v := (.float _ _)) rfl)) [] [] [] [] [] _ rfl rfl (by kernel_rfl) rfl impl_nil (⟨rfl, rfl, rfl⟩)

set_option maxRecDepth 20000 in
set_option maxHeartbeats 4000000 in
theorem RSteps_ct (f : F64) : Ct Try.prog 7 [.float .f64 f.b.toNat] [] [] (fun v o r => v = .tuple #[.int .i32 (stV f), .int .i64 (stE f)] ∧ o = [] ∧ r = []) := by
  obtain ⟨e, he⟩ : ∃ e : Nat, (shrU64 f.b 52 % 2048).toNat = e := ⟨_, rfl⟩
  have he2 : e = rung f.b.toNat / 4503599627370496 := he.symm.trans (ref_e f.b)
  have hrl := rung_lt f.b.toNat
  refine ct_enter Try.func7 rfl Try.ntmps7 (by kernel_rfl) rfl fun w0 => ?_
  refine c_seq ?_
  refine c_reg ?_
  refine asg (.int _ _) rfl ?_
  refine asg (.int _ _) rfl ?_
  refine jt ?_
  refine c_seq ?_
  refine c_reg ?_
  refine mv (.float _ _) rfl ?_
  refine xcal (args := [.float .f64 f.b.toNat]) (.int .u64 (f.b.toNat : Int)) Try.func8 (by kernel_rfl) (by kernel_rfl) (by kernel_rfl) (fun w => rfl) (by kernel_rfl) rfl ?_
  refine asg (.int _ _) rfl ?_
  refine jt ?_
  refine c_seq ?_
  refine c_reg ?_
  refine mv (.int _ _) rfl ?_
  refine shrRU64 (a := f.b) 52 rfl rfl rfl ?_
  refine remU64 (a := (shrU64 f.b 52)) (b := (2048 : UInt64)) rfl rfl (by decide) ?_
  refine cvI (e : Int) rfl Try.underlying22 Try.underlying3 (by rw [he]; exact wI64 (by omega)) ?_
  refine mv (.int _ _) rfl ?_
  refine remU64 (a := f.b) (b := (4503599627370496 : UInt64)) rfl rfl (by decide) ?_
  refine asg (.int _ _) rfl ?_
  refine asg (.int _ _) rfl ?_
  refine jt ?_
  refine c_cut (σ := Unit) (fun _u => rung f.b.toNat ≤ 4640537203540230144) (fun _u => [(5, .int .i64 (e : Int)), (6, .int .u64 ((f.b % 4503599627370496).toNat : Int))]) (fun _u => []) (fun _u => []) [2, 3, 5, 6, 22, 23, 24, 25, 26, 27, 28, 29, 30, 31] ?_ ?_
  · refine c_seq ?_
    refine c_reg ?_
    refine mv (.int _ _) rfl ?_
    refine cmp _ rfl rfl rfl ?_
    refine mv (.bool _) rfl ?_
    refine jsplit 24 rfl (fun h1 => ?_) (fun h1 => ?_)
    · replace h1 := of_decide_eq_true h1
      refine g_off rfl rfl rfl rfl ?_
      refine g_off rfl rfl rfl rfl ?_
      refine pkt (.bool _) rfl rfl ?_
      refine mv (.bool _) rfl ?_
      refine g_off rfl rfl rfl rfl ?_
      refine g_off rfl rfl rfl rfl ?_
      refine pkt (.bool _) rfl rfl ?_
      refine jt ?_
      refine c_true rfl ?_
      refine c_seq ?_
      refine c_reg ?_
      refine asg (.int _ _) rfl ?_
      refine asg (.int _ _) rfl ?_
      refine jt ?_
      refine c_ret ?_
      exact j_end (own0 := []) (ro0 := []) (.inl rfl) rfl (hr2 Try.results7 (rvt (v := (.int _ _)) rfl) (rvt (v := (.int _ _)) rfl)) [] [] [] [] [] _ rfl rfl (by kernel_rfl) rfl impl_nil (⟨by rw [(st_off (ref_off0 he2 (by omega))).1, (st_off (ref_off0 he2 (by omega))).2], rfl, rfl⟩)
    · replace h1 := of_decide_eq_false h1
      refine g_on rfl rfl rfl ?_
      refine mv (.float _ _) rfl ?_
      refine g_on rfl rfl rfl ?_
      refine fcmp (fLt f.b.toNat 13863909240395005952) rfl rfl rfl ?_
      refine pkf (.bool _) rfl rfl ?_
      refine mv (.bool _) rfl ?_
      refine jsplit 28 rfl (fun h2 => ?_) (fun h2 => ?_)
      · refine g_off rfl rfl rfl rfl ?_
        refine g_off rfl rfl rfl rfl ?_
        refine pkt (.bool _) rfl rfl ?_
        refine jt ?_
        refine c_true rfl ?_
        refine c_seq ?_
        refine c_reg ?_
        refine asg (.int _ _) rfl ?_
        refine asg (.int _ _) rfl ?_
        refine jt ?_
        refine c_ret ?_
        exact j_end (own0 := []) (ro0 := []) (.inl rfl) rfl (hr2 Try.results7 (rvt (v := (.int _ _)) rfl) (rvt (v := (.int _ _)) rfl)) [] [] [] [] [] _ rfl rfl (by kernel_rfl) rfl impl_nil (⟨by rw [(st_off (ref_off1 (by omega) (by assumption))).1, (st_off (ref_off1 (by omega) (by assumption))).2], rfl, rfl⟩)
      · refine g_on rfl rfl rfl ?_
        refine mv (.float _ _) rfl ?_
        refine g_on rfl rfl rfl ?_
        refine fcmp (fGt f.b.toNat 4640537203540230144) rfl rfl rfl ?_
        refine pkf (.bool _) rfl rfl ?_
        refine jt ?_
        refine c_cond rfl (fun h3 => ?_) (fun h3 => ?_)
        · refine c_seq ?_
          refine c_reg ?_
          refine asg (.int _ _) rfl ?_
          refine asg (.int _ _) rfl ?_
          refine jt ?_
          refine c_ret ?_
          exact j_end (own0 := []) (ro0 := []) (.inl rfl) rfl (hr2 Try.results7 (rvt (v := (.int _ _)) rfl) (rvt (v := (.int _ _)) rfl)) [] [] [] [] [] _ rfl rfl (by kernel_rfl) rfl impl_nil (⟨by rw [(st_off (ref_off2 (by omega) (by assumption))).1, (st_off (ref_off2 (by omega) (by assumption))).2], rfl, rfl⟩)
        · refine c_skip ?_
          exact e_lp () (by repeat (first | exact out_self | refine out_hav (by kernel_rfl) ?_ | refine out_look (by kernel_rfl) ?_)) (ref_on (by omega) (by assumption) (by assumption)) trivial (⟨rfl, rfl, trivial⟩) rfl rfl rfl
  · rintro _u g hC1
    try dsimp only at hC1 ⊢
    have hrb := rheN_le hC1
    refine c_cut (σ := UInt64 × Nat) (fun ⟨m, x⟩ => m.toNat = mant (rung f.b.toNat) ∧ x = max e 1) (fun ⟨m, x⟩ => [(6, .int .u64 (m.toNat : Int)), (5, .int .i64 (x : Int))]) (fun ⟨m, x⟩ => []) (fun ⟨m, x⟩ => []) [5, 6, 32, 33, 34, 35] ?_ ?_
    · refine c_seq ?_
      refine c_reg ?_
      refine mv (.int _ _) rfl ?_
      refine cmp _ rfl rfl rfl ?_
      refine jt ?_
      refine c_cond rfl (fun h4 => ?_) (fun h4 => ?_)
      · replace h4 := of_decide_eq_true h4
        refine c_reg ?_
        refine mv (.int _ _) rfl ?_
        refine addU64 (a := (f.b % 4503599627370496)) (b := (4503599627370496 : UInt64)) rfl rfl ?_
        refine asg (.int _ _) rfl ?_
        refine jn ?_
        exact e_lp (⟨((f.b % 4503599627370496) + (4503599627370496 : UInt64)), e⟩ : UInt64 × Nat) (by repeat (first | exact out_self | refine out_hav (by kernel_rfl) ?_ | refine out_look (by kernel_rfl) ?_)) (⟨ref_m1 (by omega), by omega⟩) trivial (⟨rfl, rfl, trivial⟩) rfl rfl rfl
      · replace h4 := of_decide_eq_false h4
        refine c_reg ?_
        refine asg (.int _ _) rfl ?_
        refine jn ?_
        exact e_lp (⟨(f.b % 4503599627370496), 1⟩ : UInt64 × Nat) (by repeat (first | exact out_self | refine out_hav (by kernel_rfl) ?_ | refine out_look (by kernel_rfl) ?_)) (⟨ref_m0 (by omega), by omega⟩) trivial (⟨rfl, rfl, trivial⟩) rfl rfl rfl
    · rintro ⟨m, x⟩ g hC2
      try dsimp only at hC2 ⊢
      have hm53 := mant_lt hC2.1
      refine c_seq ?_
      refine c_reg ?_
      refine mv (.int _ _) rfl ?_
      refine subi rfl rfl rfl (by omega) ?_
      obtain ⟨k, hk⟩ : ∃ k : Nat, (1075 : Int) - (x : Int) = (k : Int) := ⟨((1075 : Int) - (x : Int)).toNat, by omega⟩
      refine j_re 37 (.int .i64 (k : Int)) (congrArg (Value.int .i64) hk) ?_
      refine asg (.int _ _) rfl ?_
      refine jt ?_
      refine c_seq ?_
      refine c_reg ?_
      refine mv (.int _ _) rfl ?_
      refine remU64 (a := m) (b := (67108864 : UInt64)) rfl rfl (by decide) ?_
      refine mulU64 (a := (m % (67108864 : UInt64))) (b := (10000000 : UInt64)) rfl rfl ?_
      refine asg (.int _ _) rfl ?_
      refine jt ?_
      refine c_seq ?_
      refine c_reg ?_
      refine mv (.int _ _) rfl ?_
      refine shrRU64 (a := m) 26 rfl rfl rfl ?_
      refine mulU64 (a := (shrU64 m 26)) (b := (10000000 : UInt64)) rfl rfl ?_
      refine mv (.int _ _) rfl ?_
      refine shrRU64 (a := ((m % (67108864 : UInt64)) * (10000000 : UInt64))) 26 rfl rfl rfl ?_
      refine addU64 (a := ((shrU64 m 26) * (10000000 : UInt64))) (b := (shrU64 ((m % (67108864 : UInt64)) * (10000000 : UInt64)) 26)) rfl rfl ?_
      refine asg (.int _ _) rfl ?_
      refine jt ?_
      refine c_cut (σ := UInt64 × UInt64) (fun ⟨hi, lo⟩ => hi.toNat = m.toNat * 10000000 / 67108864 ∧ lo.toNat = m.toNat * 10000000 % 67108864) (fun ⟨hi, lo⟩ => [(9, .int .u64 (hi.toNat : Int)), (8, .int .u64 (lo.toNat : Int))]) (fun ⟨hi, lo⟩ => []) (fun ⟨hi, lo⟩ => []) [8, 9, 47, 48] ?_ ?_
      · refine c_reg ?_
        refine mv (.int _ _) rfl ?_
        refine remU64 (a := ((m % (67108864 : UInt64)) * (10000000 : UInt64))) (b := (67108864 : UInt64)) rfl rfl (by decide) ?_
        refine asg (.int _ _) rfl ?_
        refine jn ?_
        exact e_lp (⟨(((shrU64 m 26) * (10000000 : UInt64)) + (shrU64 ((m % (67108864 : UInt64)) * (10000000 : UInt64)) 26)), (((m % (67108864 : UInt64)) * (10000000 : UInt64)) % (67108864 : UInt64))⟩ : UInt64 × UInt64) (by repeat (first | exact out_self | refine out_hav (by kernel_rfl) ?_ | refine out_look (by kernel_rfl) ?_)) (ref_parts hm53) trivial (⟨rfl, rfl, trivial⟩) rfl rfl rfl
      · rintro ⟨hi, lo⟩ g hC3
        try dsimp only at hC3 ⊢
        have hkk : k = shf (rung f.b.toNat) := by unfold shf; omega
        refine c_seq ?_
        refine c_reg ?_
        refine asg (.int _ _) rfl ?_
        refine jt ?_
        refine c_cut (σ := UInt64) (fun q => q.toNat = rheN (rung f.b.toNat)) (fun q => [(10, .int .u64 (q.toNat : Int))]) (fun q => []) (fun q => []) [10, 11, 12, 13, 49, 50, 51, 52, 53, 54, 55, 56, 57, 58, 59, 60, 61, 62, 63, 64, 65, 66, 67, 68, 69, 70, 71, 72, 73, 74, 75, 76, 77, 78, 79, 80, 81, 82, 83, 84, 85, 86, 87, 88, 89, 90, 91, 92, 93] ?_ ?_
        · refine c_seq ?_
          refine c_reg ?_
          refine mv (.int _ _) rfl ?_
          refine subi rfl rfl rfl (by omega) ?_
          refine cmp _ rfl rfl rfl ?_
          refine jt ?_
          refine c_cond rfl (fun h5 => ?_) (fun h5 => ?_)
          · replace h5 := of_decide_eq_true h5
            refine c_cut (σ := UInt64) (fun u => u.toNat = 2 ^ (k - 26)) (fun u => [(11, .int .u64 (u.toNat : Int))]) (fun u => []) (fun u => []) [11, 52, 53, 54, 55] ?_ ?_
            · refine c_reg ?_
              refine mv (.int _ _) rfl ?_
              refine subi rfl rfl rfl (by omega) ?_
              refine cvZU64 (n := ((k : Int) - 26)) rfl Try.underlying3 Try.underlying36 ?_
              refine shlRU64 (a := (1 : UInt64)) (k - 26) rfl rfl (ofInt_k (by omega) (by omega)) ?_
              refine asg (.int _ _) rfl ?_
              refine jn ?_
              exact e_lp (shlU64 (1 : UInt64) (k - 26)) (by repeat (first | exact out_self | refine out_hav (by kernel_rfl) ?_ | refine out_look (by kernel_rfl) ?_)) (one_val _ (by omega)) trivial (⟨rfl, trivial⟩) rfl rfl rfl
            · rintro u g hU
              try dsimp only at hU ⊢
              obtain ⟨hr1, hr2, hr3, hr4⟩ := rem_k hC3.1 hC3.2 hU (show 27 ≤ k by omega)
              generalize hH : 2 ^ (k - 27) = H at *
              refine c_seq ?_
              refine c_reg ?_
              refine mv (.int _ _) rfl ?_
              refine mv (.int _ _) rfl ?_
              refine quoU64 (a := hi) (b := u) rfl rfl (unit_ne hU) ?_
              refine asg (.int _ _) rfl ?_
              refine jt ?_
              refine c_cut (σ := UInt64 × UInt64) (fun ⟨q, rs⟩ => q.toNat = m.toNat * 10000000 / 2 ^ k ∧ rs.toNat * 67108864 + lo.toNat = m.toNat * 10000000 % 2 ^ k) (fun ⟨q, rs⟩ => [(10, .int .u64 (q.toNat : Int)), (12, .int .u64 (rs.toNat : Int))]) (fun ⟨q, rs⟩ => []) (fun ⟨q, rs⟩ => []) [10, 12, 59, 60, 61] ?_ ?_
              · refine c_reg ?_
                refine mv (.int _ _) rfl ?_
                refine mv (.int _ _) rfl ?_
                refine remU64 (a := hi) (b := u) rfl rfl (unit_ne hU) ?_
                refine asg (.int _ _) rfl ?_
                refine jn ?_
                exact e_lp (⟨(hi / u), (hi % u)⟩ : UInt64 × UInt64) (by repeat (first | exact out_self | refine out_hav (by kernel_rfl) ?_ | refine out_look (by kernel_rfl) ?_)) (⟨quo_k hC3.1 hU (by omega), hr1⟩) trivial (⟨rfl, rfl, trivial⟩) rfl rfl rfl
              · rintro ⟨q, rs⟩ g hQ
                try dsimp only at hQ ⊢
                have hrh := ref_rhe hkk (by omega) (congrArg (· * 10000000) hC2.1) hQ.1 hQ.2 (by omega) hr4
                have hE : (rs = u / 2) ↔ rs.toNat = H := by rw [← UInt64.toNat_inj, hr3]
                have hE0 : (lo = 0) ↔ lo.toNat = 0 := by rw [← UInt64.toNat_inj]; rfl
                have hz : (0 : UInt64).toNat = 0 := rfl
                refine c_cut (σ := Bool) (fun ab => ab = true ↔ (H < rs.toNat ∨ (rs.toNat = H ∧ 0 < lo.toNat))) (fun ab => [(13, .bool ab)]) (fun ab => []) (fun ab => []) [13, 62, 63, 64, 65, 66, 67, 68, 69, 70, 71, 72, 73, 74, 75] ?_ ?_
                · refine c_reg ?_
                  refine mv (.int _ _) rfl ?_
                  refine mv (.int _ _) rfl ?_
                  refine quoU64 (a := u) (b := (2 : UInt64)) rfl rfl (by decide) ?_
                  refine cmp _ rfl rfl rfl ?_
                  refine mv (.bool _) rfl ?_
                  refine jsplit 66 rfl (fun h6 => ?_) (fun h6 => ?_)
                  · replace h6 := of_decide_eq_true h6
                    refine g_off rfl rfl rfl rfl ?_
                    refine g_off rfl rfl rfl rfl ?_
                    refine g_off rfl rfl rfl rfl ?_
                    refine g_off rfl rfl rfl rfl ?_
                    refine g_off rfl rfl rfl rfl ?_
                    refine g_und rfl rfl rfl ?_
                    refine g_und rfl rfl rfl ?_
                    refine g_off rfl rfl rfl rfl ?_
                    refine pkt (.bool _) rfl rfl ?_
                    refine asg (.bool _) rfl ?_
                    refine jn ?_
                    exact e_lp true (by repeat (first | exact out_self | refine out_hav (by kernel_rfl) ?_ | refine out_look (by kernel_rfl) ?_)) (by simp only [hE, hE0, hz, decide_eq_true_iff, true_iff, Bool.false_eq_true, false_iff] at *; omega) trivial (⟨rfl, trivial⟩) rfl rfl rfl
                  · replace h6 := of_decide_eq_false h6
                    refine g_on rfl rfl rfl ?_
                    refine mv (.int _ _) rfl ?_
                    refine g_on rfl rfl rfl ?_
                    refine mv (.int _ _) rfl ?_
                    refine g_on rfl rfl rfl ?_
                    refine quoU64 (a := u) (b := (2 : UInt64)) rfl rfl (by decide) ?_
                    refine g_on rfl rfl rfl ?_
                    refine equ64 (a := rs) (b := (u / (2 : UInt64))) _ rfl rfl rfl ?_
                    refine g_on rfl rfl rfl ?_
                    refine mv (.bool _) rfl ?_
                    refine jsplit 71 rfl (fun h7 => ?_) (fun h7 => ?_)
                    · replace h7 := of_decide_eq_true h7
                      refine g_on rfl rfl rfl ?_
                      refine mv (.int _ _) rfl ?_
                      refine g_on rfl rfl rfl ?_
                      refine cmp _ rfl rfl rfl ?_
                      refine g_on rfl rfl rfl ?_
                      refine pkt (.bool _) rfl rfl ?_
                      refine pkf (.bool _) rfl rfl ?_
                      refine asg (.bool _) rfl ?_
                      refine jn ?_
                      exact e_lp (decide (0 < (lo.toNat : Int))) (by repeat (first | exact out_self | refine out_hav (by kernel_rfl) ?_ | refine out_look (by kernel_rfl) ?_)) (by simp only [hE, hE0, hz, decide_eq_true_iff, true_iff, Bool.false_eq_true, false_iff] at *; omega) trivial (⟨rfl, trivial⟩) rfl rfl rfl
                    · replace h7 := of_decide_eq_false h7
                      refine g_off rfl rfl rfl rfl ?_
                      refine g_off rfl rfl rfl rfl ?_
                      refine g_on rfl rfl rfl ?_
                      refine pkf (.bool _) rfl rfl ?_
                      refine pkf (.bool _) rfl rfl ?_
                      refine asg (.bool _) rfl ?_
                      refine jn ?_
                      exact e_lp false (by repeat (first | exact out_self | refine out_hav (by kernel_rfl) ?_ | refine out_look (by kernel_rfl) ?_)) (by simp only [hE, hE0, hz, decide_eq_true_iff, true_iff, Bool.false_eq_true, false_iff] at *; omega) trivial (⟨rfl, trivial⟩) rfl rfl rfl
                · rintro ab g hB
                  try dsimp only at hB ⊢
                  refine c_seq ?_
                  refine c_reg ?_
                  refine mv (.bool _) rfl ?_
                  refine mv (.bool _) rfl ?_
                  refine jsplit 77 rfl (fun h8 => ?_) (fun h8 => ?_)
                  · refine g_off rfl rfl rfl rfl ?_
                    refine g_off rfl rfl rfl rfl ?_
                    refine g_off rfl rfl rfl rfl ?_
                    refine g_off rfl rfl rfl rfl ?_
                    refine g_off rfl rfl rfl rfl ?_
                    refine g_und rfl rfl rfl ?_
                    refine g_und rfl rfl rfl ?_
                    refine g_off rfl rfl rfl rfl ?_
                    refine g_off rfl rfl rfl rfl ?_
                    refine g_und rfl rfl rfl ?_
                    refine g_und rfl rfl rfl ?_
                    refine g_und rfl rfl rfl ?_
                    refine g_off rfl rfl rfl rfl ?_
                    refine pkt (.bool _) rfl rfl ?_
                    refine jt ?_
                    refine c_true rfl ?_
                    refine c_reg ?_
                    refine mv (.int _ _) rfl ?_
                    refine addU64 (a := q) (b := (1 : UInt64)) rfl rfl ?_
                    refine asg (.int _ _) rfl ?_
                    refine jn ?_
                    exact e_lp (q + (1 : UInt64)) (by repeat (first | exact out_self | refine out_hav (by kernel_rfl) ?_ | refine out_look (by kernel_rfl) ?_)) (by have hh := ref_inc hrh hrb hr3 hB; first | exact hh.1 (by assumption) | exact hh.2.1 (by assumption) (by assumption) (by assumption) (by assumption) | exact hh.2.2.1 (by assumption) (by assumption) | exact hh.2.2.2.1 (by assumption) (by assumption) (by assumption) | exact hh.2.2.2.2 (by assumption) (by assumption) (by assumption) (by assumption)) trivial (⟨rfl, trivial⟩) rfl rfl rfl
                  · refine g_on rfl rfl rfl ?_
                    refine mv (.int _ _) rfl ?_
                    refine g_on rfl rfl rfl ?_
                    refine mv (.int _ _) rfl ?_
                    refine g_on rfl rfl rfl ?_
                    refine quoU64 (a := u) (b := (2 : UInt64)) rfl rfl (by decide) ?_
                    refine g_on rfl rfl rfl ?_
                    refine equ64 (a := rs) (b := (u / (2 : UInt64))) _ rfl rfl rfl ?_
                    refine g_on rfl rfl rfl ?_
                    refine mv (.bool _) rfl ?_
                    refine jsplit 82 rfl (fun h9 => ?_) (fun h9 => ?_)
                    · replace h9 := of_decide_eq_true h9
                      refine g_on rfl rfl rfl ?_
                      refine mv (.int _ _) rfl ?_
                      refine g_on rfl rfl rfl ?_
                      refine equ64 (a := lo) (b := (0 : UInt64)) _ rfl rfl rfl ?_
                      refine g_on rfl rfl rfl ?_
                      refine pkt (.bool _) rfl rfl ?_
                      refine g_on rfl rfl rfl ?_
                      refine mv (.bool _) rfl ?_
                      refine jsplit 86 rfl (fun h10 => ?_) (fun h10 => ?_)
                      · replace h10 := of_decide_eq_true h10
                        refine g_on rfl rfl rfl ?_
                        refine mv (.int _ _) rfl ?_
                        refine g_on rfl rfl rfl ?_
                        refine remU64 (a := q) (b := (2 : UInt64)) rfl rfl (by decide) ?_
                        refine g_on rfl rfl rfl ?_
                        refine equ64 (a := (q % (2 : UInt64))) (b := (1 : UInt64)) _ rfl rfl rfl ?_
                        refine g_on rfl rfl rfl ?_
                        refine pkt (.bool _) rfl rfl ?_
                        refine pkf (.bool _) rfl rfl ?_
                        refine jt ?_
                        refine c_cond rfl (fun h11 => ?_) (fun h11 => ?_)
                        · replace h11 := of_decide_eq_true h11
                          refine c_reg ?_
                          refine mv (.int _ _) rfl ?_
                          refine addU64 (a := q) (b := (1 : UInt64)) rfl rfl ?_
                          refine asg (.int _ _) rfl ?_
                          refine jn ?_
                          exact e_lp (q + (1 : UInt64)) (by repeat (first | exact out_self | refine out_hav (by kernel_rfl) ?_ | refine out_look (by kernel_rfl) ?_)) (by have hh := ref_inc hrh hrb hr3 hB; first | exact hh.1 (by assumption) | exact hh.2.1 (by assumption) (by assumption) (by assumption) (by assumption) | exact hh.2.2.1 (by assumption) (by assumption) | exact hh.2.2.2.1 (by assumption) (by assumption) (by assumption) | exact hh.2.2.2.2 (by assumption) (by assumption) (by assumption) (by assumption)) trivial (⟨rfl, trivial⟩) rfl rfl rfl
                        · replace h11 := of_decide_eq_false h11
                          refine c_skip ?_
                          exact e_lp q (by repeat (first | exact out_self | refine out_hav (by kernel_rfl) ?_ | refine out_look (by kernel_rfl) ?_)) (by have hh := ref_inc hrh hrb hr3 hB; first | exact hh.1 (by assumption) | exact hh.2.1 (by assumption) (by assumption) (by assumption) (by assumption) | exact hh.2.2.1 (by assumption) (by assumption) | exact hh.2.2.2.1 (by assumption) (by assumption) (by assumption) | exact hh.2.2.2.2 (by assumption) (by assumption) (by assumption) (by assumption)) trivial (⟨rfl, trivial⟩) rfl rfl rfl
                      · replace h10 := of_decide_eq_false h10
                        refine g_off rfl rfl rfl rfl ?_
                        refine g_off rfl rfl rfl rfl ?_
                        refine g_off rfl rfl rfl rfl ?_
                        refine g_on rfl rfl rfl ?_
                        refine pkf (.bool _) rfl rfl ?_
                        refine pkf (.bool _) rfl rfl ?_
                        refine jt ?_
                        refine c_false rfl ?_
                        refine c_skip ?_
                        exact e_lp q (by repeat (first | exact out_self | refine out_hav (by kernel_rfl) ?_ | refine out_look (by kernel_rfl) ?_)) (by have hh := ref_inc hrh hrb hr3 hB; first | exact hh.1 (by assumption) | exact hh.2.1 (by assumption) (by assumption) (by assumption) (by assumption) | exact hh.2.2.1 (by assumption) (by assumption) | exact hh.2.2.2.1 (by assumption) (by assumption) (by assumption) | exact hh.2.2.2.2 (by assumption) (by assumption) (by assumption) (by assumption)) trivial (⟨rfl, trivial⟩) rfl rfl rfl
                    · replace h9 := of_decide_eq_false h9
                      refine g_off rfl rfl rfl rfl ?_
                      refine g_off rfl rfl rfl rfl ?_
                      refine g_on rfl rfl rfl ?_
                      refine pkf (.bool _) rfl rfl ?_
                      refine g_on rfl rfl rfl ?_
                      refine mv (.bool _) rfl ?_
                      refine g_off rfl rfl rfl rfl ?_
                      refine g_off rfl rfl rfl rfl ?_
                      refine g_off rfl rfl rfl rfl ?_
                      refine g_on rfl rfl rfl ?_
                      refine pkf (.bool _) rfl rfl ?_
                      refine pkf (.bool _) rfl rfl ?_
                      refine jt ?_
                      refine c_false rfl ?_
                      refine c_skip ?_
                      exact e_lp q (by repeat (first | exact out_self | refine out_hav (by kernel_rfl) ?_ | refine out_look (by kernel_rfl) ?_)) (by have hh := ref_inc hrh hrb hr3 hB; first | exact hh.1 (by assumption) | exact hh.2.1 (by assumption) (by assumption) (by assumption) (by assumption) | exact hh.2.2.1 (by assumption) (by assumption) | exact hh.2.2.2.1 (by assumption) (by assumption) (by assumption) | exact hh.2.2.2.2 (by assumption) (by assumption) (by assumption) (by assumption)) trivial (⟨rfl, trivial⟩) rfl rfl rfl
          · replace h5 := of_decide_eq_false h5
            refine c_skip ?_
            exact e_lp (0 : UInt64) (by repeat (first | exact out_self | refine out_hav (by kernel_rfl) ?_ | refine out_look (by kernel_rfl) ?_)) (by rw [ref_zero hC2.1 hm53 (by omega)]; rfl) trivial (⟨rfl, trivial⟩) rfl rfl rfl
        · rintro q g hR
          try dsimp only at hR ⊢
          refine c_seq ?_
          refine c_seq ?_
          refine c_reg ?_
          refine mv (.int _ _) rfl ?_
          refine shrRU64 (a := f.b) 63 rfl rfl rfl ?_
          refine equ64 (a := (shrU64 f.b 63)) (b := (1 : UInt64)) _ rfl rfl rfl ?_
          refine jt ?_
          refine c_cond rfl (fun h12 => ?_) (fun h12 => ?_)
          · replace h12 := of_decide_eq_true h12
            refine c_seq ?_
            refine c_reg ?_
            refine mv (.int _ _) rfl ?_
            refine cvI (rheN (rung f.b.toNat) : Int) rfl Try.underlying22 Try.underlying21 (by rw [hR]; exact i32w (by omega)) ?_
            refine negW rfl ?_
            refine asg (.int _ _) rfl ?_
            refine asg (.int _ _) rfl ?_
            refine jt ?_
            refine c_ret ?_
            exact j_end (own0 := []) (ro0 := []) (.inl rfl) rfl (hr2 Try.results7 (rvt (v := (.int _ _)) rfl) (rvt (v := (.int _ _)) rfl)) [] [] [] [] [] _ rfl rfl (by kernel_rfl) rfl impl_nil (⟨by have h9 := sgn_63.1 (by assumption); rw [(st_on hC1).1, (st_on hC1).2, if_pos h9, i32w (by omega), Int.zero_sub], rfl, rfl⟩)
          · replace h12 := of_decide_eq_false h12
            refine c_skip ?_
            refine e_then ?_
            refine c_seq ?_
            refine c_reg ?_
            refine mv (.int _ _) rfl ?_
            refine cvI (rheN (rung f.b.toNat) : Int) rfl Try.underlying22 Try.underlying21 (by rw [hR]; exact i32w (by omega)) ?_
            refine asg (.int _ _) rfl ?_
            refine asg (.int _ _) rfl ?_
            refine jt ?_
            refine c_ret ?_
            exact j_end (own0 := []) (ro0 := []) (.inl rfl) rfl (hr2 Try.results7 (rvt (v := (.int _ _)) rfl) (rvt (v := (.int _ _)) rfl)) [] [] [] [] [] _ rfl rfl (by kernel_rfl) rfl impl_nil (⟨by have h9 : ¬ sgn f.b.toNat = true := fun e => absurd (sgn_63.2 e) (by assumption); rw [(st_on hC1).1, (st_on hC1).2, if_neg h9], rfl, rfl⟩)
end Go.Proofs.Ythpbiamicidakaa
