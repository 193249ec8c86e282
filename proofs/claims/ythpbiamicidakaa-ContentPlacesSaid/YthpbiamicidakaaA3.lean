/- Contracts of the program's functions, walked. No condition. -/
import Derived.Test.YthpbiamicidakaaF2
namespace Go.Proofs.Ythpbiamicidakaa
open Go Go.Proofs Go.PW
open Go.PW.Enc (enc val)


set_option maxRecDepth 20000 in
set_option maxHeartbeats 4000000 in
theorem Steps_ct (f : F64) : Ct Try.prog 6 [.float .f64 f.b.toNat] [] [] (fun v o r => v = .tuple #[.int .i32 (stV f), .int .i64 (stE f)] ∧ o = [] ∧ r = []) := by
  refine ct_enter Try.func6 rfl Try.ntmps6 (by kernel_rfl) rfl fun w0 => ?_
  refine c_seq ?_
  refine c_reg ?_
  refine asg (.int _ _) rfl ?_
  refine asg (.int _ _) rfl ?_
  refine jt ?_
  refine c_seq ?_
  refine c_seq ?_
  refine c_reg ?_
  refine mv (.float _ _) rfl ?_
  refine cal (IsNaN_ct f) [] [] [] rfl rfl rfl (by kernel_rfl) impl_nil rfl ?_; rintro _ _ _ ⟨rfl, rfl, rfl⟩; refine ⟨trivial, ?_⟩
  refine mv (.bool _) rfl ?_
  refine jsplit 8 rfl (fun h1 => ?_) (fun h1 => ?_)
  · refine g_off rfl rfl rfl rfl ?_
    refine g_off rfl rfl rfl rfl ?_
    refine g_off rfl rfl rfl rfl ?_
    refine pkt (.bool _) rfl rfl ?_
    refine jt ?_
    refine c_true rfl ?_
    refine c_seq ?_
    refine c_reg ?_
    refine asg (.int _ _) rfl ?_
    refine asg (.int _ _) rfl ?_
    refine jt ?_
    refine c_ret ?_
    exact j_end (own0 := []) (ro0 := []) (.inl rfl) rfl (hr2 Try.results6 (rvt (v := (.int _ _)) rfl) (rvt (v := (.int _ _)) rfl)) [] [] [] [] [] _ rfl rfl (by kernel_rfl) rfl impl_nil (⟨by rw [(st_off (off_1 (by assumption))).1, (st_off (off_1 (by assumption))).2], rfl, rfl⟩)
  · refine g_on rfl rfl rfl ?_
    refine mv (.float _ _) rfl ?_
    refine g_on rfl rfl rfl ?_
    refine cal (Abs_ct f) [] [] [] rfl rfl rfl (by kernel_rfl) impl_nil rfl ?_; rintro _ _ _ ⟨rfl, rfl, rfl⟩; refine ⟨trivial, ?_⟩
    refine g_on rfl rfl rfl ?_
    refine fcmp (fGt ((absF f).b.toNat) 4640537203540230144) rfl rfl rfl ?_
    refine pkf (.bool _) rfl rfl ?_
    refine jt ?_
    refine c_cond rfl (fun h2 => ?_) (fun h2 => ?_)
    · refine c_seq ?_
      refine c_reg ?_
      refine asg (.int _ _) rfl ?_
      refine asg (.int _ _) rfl ?_
      refine jt ?_
      refine c_ret ?_
      exact j_end (own0 := []) (ro0 := []) (.inl rfl) rfl (hr2 Try.results6 (rvt (v := (.int _ _)) rfl) (rvt (v := (.int _ _)) rfl)) [] [] [] [] [] _ rfl rfl (by kernel_rfl) rfl impl_nil (⟨by rw [(st_off (off_2 (by assumption) (by assumption))).1, (st_off (off_2 (by assumption) (by assumption))).2], rfl, rfl⟩)
    · refine c_skip ?_
      refine e_then ?_
      refine c_seq ?_
      refine c_reg ?_
      refine mv (.float _ _) rfl ?_
      refine cal (Abs_ct f) [] [] [] rfl rfl rfl (by kernel_rfl) impl_nil rfl ?_; rintro _ _ _ ⟨rfl, rfl, rfl⟩; refine ⟨trivial, ?_⟩
      refine xcal (args := [.float .f64 ((absF f).b.toNat)]) (.int .u64 ((absF f).b.toNat : Int)) Try.func8 (by kernel_rfl) (by kernel_rfl) (by kernel_rfl) (fun w => rfl) (by kernel_rfl) rfl ?_
      obtain ⟨hon, htm, hnb, hrb⟩ : rung f.b.toNat ≤ 4640537203540230144 ∧ (nrN (absF f).b.toNat : Int).tmod 2 = ((nrN (absF f).b.toNat % 2 : Nat) : Int) ∧ nrN (absF f).b.toNat ≤ 1800000000 ∧ rheN (absF f).b.toNat ≤ 1800000000 := ⟨on_1 (by assumption) (by assumption), rfl, nrN_le (by rw [absF_b]; exact on_1 (by assumption) (by assumption)), rheN_le (by rw [absF_b]; exact on_1 (by assumption) (by assumption))⟩
      refine cal (nearest_ct ((absF f).b) (by rw [absF_b]; exact hon)) [] [] [] rfl rfl rfl (by kernel_rfl) impl_nil rfl ?_; rintro _ _ _ ⟨rfl, rfl, rfl⟩; refine ⟨trivial, ?_⟩
      refine mv (.tuple _) rfl ?_
      refine xtr (.int _ _) rfl rfl ?_
      refine xtr (.int _ _) rfl rfl ?_
      refine asg (.int _ _) rfl ?_
      refine asg (.int _ _) rfl ?_
      refine jt ?_
      refine c_cut (σ := Int) (fun n => n = (rheN (absF f).b.toNat : Int)) (fun n => [(4, .int .i64 n)]) (fun n => []) (fun n => []) [4, 20, 21, 22, 23, 24, 25, 26, 27, 28, 29, 30, 31, 32] ?_ ?_
      · refine c_seq ?_
        refine c_reg ?_
        refine mv (.int _ _) rfl ?_
        refine cmp _ rfl rfl rfl ?_
        refine mv (.bool _) rfl ?_
        refine jsplit 22 rfl (fun h3 => ?_) (fun h3 => ?_)
        · replace h3 := of_decide_eq_true h3
          refine g_off rfl rfl rfl rfl ?_
          refine g_off rfl rfl rfl rfl ?_
          refine g_off rfl rfl rfl rfl ?_
          refine g_und rfl rfl rfl ?_
          refine g_und rfl rfl rfl ?_
          refine g_und rfl rfl rfl ?_
          refine g_off rfl rfl rfl rfl ?_
          refine pkt (.bool _) rfl rfl ?_
          refine jt ?_
          refine c_true rfl ?_
          refine c_reg ?_
          refine mv (.int _ _) rfl ?_
          refine addi rfl rfl rfl (by omega) ?_
          refine asg (.int _ _) rfl ?_
          refine jn ?_
          exact e_lp ((nrN ((absF f).b).toNat : Int) + 1) (by repeat (first | exact out_self | refine out_hav (by kernel_rfl) ?_ | refine out_look (by kernel_rfl) ?_)) (by unfold rheN; split <;> omega) trivial (⟨rfl, trivial⟩) rfl rfl rfl
        · replace h3 := of_decide_eq_false h3
          refine g_on rfl rfl rfl ?_
          refine mv (.int _ _) rfl ?_
          refine g_on rfl rfl rfl ?_
          refine cmp _ rfl rfl rfl ?_
          refine g_on rfl rfl rfl ?_
          refine mv (.bool _) rfl ?_
          refine jsplit 25 rfl (fun h4 => ?_) (fun h4 => ?_)
          · replace h4 := of_decide_eq_true h4
            refine g_on rfl rfl rfl ?_
            refine mv (.int _ _) rfl ?_
            refine g_on rfl rfl rfl ?_
            refine remi rfl rfl (by omega) ?_
            refine g_on rfl rfl rfl ?_
            refine cmp _ rfl rfl rfl ?_
            refine g_on rfl rfl rfl ?_
            refine pkt (.bool _) rfl rfl ?_
            refine pkf (.bool _) rfl rfl ?_
            refine jt ?_
            refine c_cond rfl (fun h5 => ?_) (fun h5 => ?_)
            · replace h5 := ndt h5
              refine c_reg ?_
              refine mv (.int _ _) rfl ?_
              refine addi rfl rfl rfl (by omega) ?_
              refine asg (.int _ _) rfl ?_
              refine jn ?_
              exact e_lp ((nrN ((absF f).b).toNat : Int) + 1) (by repeat (first | exact out_self | refine out_hav (by kernel_rfl) ?_ | refine out_look (by kernel_rfl) ?_)) (by unfold rheN; split <;> omega) trivial (⟨rfl, trivial⟩) rfl rfl rfl
            · replace h5 := ndf h5
              refine c_skip ?_
              exact e_lp (nrN ((absF f).b).toNat : Int) (by repeat (first | exact out_self | refine out_hav (by kernel_rfl) ?_ | refine out_look (by kernel_rfl) ?_)) (by unfold rheN; split <;> omega) trivial (⟨rfl, trivial⟩) rfl rfl rfl
          · replace h4 := of_decide_eq_false h4
            refine g_off rfl rfl rfl rfl ?_
            refine g_off rfl rfl rfl rfl ?_
            refine g_off rfl rfl rfl rfl ?_
            refine g_on rfl rfl rfl ?_
            refine pkf (.bool _) rfl rfl ?_
            refine pkf (.bool _) rfl rfl ?_
            refine jt ?_
            refine c_false rfl ?_
            refine c_skip ?_
            exact e_lp (nrN ((absF f).b).toNat : Int) (by repeat (first | exact out_self | refine out_hav (by kernel_rfl) ?_ | refine out_look (by kernel_rfl) ?_)) (by unfold rheN; split <;> omega) trivial (⟨rfl, trivial⟩) rfl rfl rfl
      · rintro n g hC1
        try dsimp only at hC1 ⊢
        refine c_cut (σ := Int) (fun v => v = stV f) (fun v => [(4, .int .i64 v)]) (fun v => []) (fun v => []) [4, 33, 34, 35, 36] ?_ ?_
        · refine c_seq ?_
          refine c_reg ?_
          refine mv (.float _ _) rfl ?_
          refine fcmp (fLt f.b.toNat 0) rfl rfl rfl ?_
          refine jt ?_
          refine c_cond rfl (fun h6 => ?_) (fun h6 => ?_)
          · refine c_reg ?_
            refine mv (.int _ _) rfl ?_
            refine negI rfl (by omega) ?_
            refine asg (.int _ _) rfl ?_
            refine jn ?_
            exact e_lp (-n) (by repeat (first | exact out_self | refine out_hav (by kernel_rfl) ?_ | refine out_look (by kernel_rfl) ?_)) (by rw [st_neg hon (by assumption), hC1, absF_b]) trivial (⟨rfl, trivial⟩) rfl rfl rfl
          · refine c_skip ?_
            exact e_lp n (by repeat (first | exact out_self | refine out_hav (by kernel_rfl) ?_ | refine out_look (by kernel_rfl) ?_)) (by rw [st_pos hon (by assumption), hC1, absF_b]) trivial (⟨rfl, trivial⟩) rfl rfl rfl
        · rintro v g hC2
          try dsimp only at hC2 ⊢
          have hbd := st_bd (f := f)
          refine c_seq ?_
          refine c_reg ?_
          refine mv (.int _ _) rfl ?_
          refine cvI v rfl Try.underlying2 Try.underlying21 (i32w (by have := st_bd (f := f); omega)) ?_
          refine asg (.int _ _) rfl ?_
          refine asg (.int _ _) rfl ?_
          refine jt ?_
          refine c_ret ?_
          exact j_end (own0 := []) (ro0 := []) (.inl rfl) rfl (hr2 Try.results6 (rvt (v := (.int _ _)) rfl) (rvt (v := (.int _ _)) rfl)) [] [] [] [] [] _ rfl rfl (by kernel_rfl) rfl impl_nil (⟨by rw [(st_on hon).1, hC2], rfl, rfl⟩)
end Go.Proofs.Ythpbiamicidakaa
