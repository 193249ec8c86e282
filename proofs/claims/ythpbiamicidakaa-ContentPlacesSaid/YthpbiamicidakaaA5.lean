/- Contracts of the program's functions, walked. No condition. -/
import Derived.Test.YthpbiamicidakaaA4
import Derived.Test.YthpbiamicidakaaF6
namespace Go.Proofs.Ythpbiamicidakaa
open Go Go.Proofs Go.PW
open Go.PW.Enc (enc val)

theorem tmod_in (n : Int) : (n.tmod 1800000000).natAbs ≤ 1800000000 := by
  have h1 := Int.natAbs_tmod n 1800000000
  rw [h1]
  exact Nat.le_of_lt (Nat.mod_lt _ (by decide))

theorem CSteps_ct (bits : UInt64) (n : Int) (hn : n.natAbs ≤ 2147483648) : Ct Try.prog 3 [.int .u64 (bits.toNat : Int), .int .i32 n] [] [] (fun v o r => v = .bool true ∧ o = [] ∧ r = []) := by
  refine ct_enter Try.func3 rfl Try.ntmps3 (by kernel_rfl) rfl fun w0 => ?_
  refine c_seq ?_
  refine c_reg ?_
  refine asg (.bool _) rfl ?_
  refine jt ?_
  refine c_seq ?_
  refine c_reg ?_
  refine mv (.int _ _) rfl ?_
  refine xcal (args := [.int .u64 (bits.toNat : Int)]) (.float .f64 bits.toNat) Try.func5 (by kernel_rfl) (by kernel_rfl) (by kernel_rfl) (fun w => rfl) (by kernel_rfl) rfl ?_
  refine asg (.float _ _) rfl ?_
  refine jt ?_
  refine c_seq ?_
  refine c_reg ?_
  refine mv (.float _ _) rfl ?_
  refine cal (Steps_ct (⟨bits⟩ : F64)) [] [] [] rfl rfl rfl (by kernel_rfl) impl_nil rfl ?_; rintro _ _ _ ⟨rfl, rfl, rfl⟩; refine ⟨trivial, ?_⟩
  refine mv (.tuple _) rfl ?_
  refine xtr (.int _ _) rfl rfl ?_
  refine xtr (.int _ _) rfl rfl ?_
  refine asg (.int _ _) rfl ?_
  refine asg (.int _ _) rfl ?_
  refine jt ?_
  refine c_seq ?_
  refine c_reg ?_
  refine mv (.float _ _) rfl ?_
  refine cal (RSteps_ct (⟨bits⟩ : F64)) [] [] [] rfl rfl rfl (by kernel_rfl) impl_nil rfl ?_; rintro _ _ _ ⟨rfl, rfl, rfl⟩; refine ⟨trivial, ?_⟩
  refine mv (.tuple _) rfl ?_
  refine xtr (.int _ _) rfl rfl ?_
  refine xtr (.int _ _) rfl rfl ?_
  refine asg (.int _ _) rfl ?_
  refine asg (.int _ _) rfl ?_
  refine jt ?_
  refine c_seq ?_
  refine c_reg ?_
  refine mv (.int _ _) rfl ?_
  refine mv (.int _ _) rfl ?_
  refine cmp true rfl rfl (by simp [cmpV]) ?_
  refine mv (.bool _) rfl ?_
  refine g_on rfl rfl rfl ?_
  refine mv (.int _ _) rfl ?_
  refine g_on rfl rfl rfl ?_
  refine mv (.int _ _) rfl ?_
  refine g_on rfl rfl rfl ?_
  refine cmp true rfl rfl (by simp [cmpV]) ?_
  refine pkt (.bool _) rfl rfl ?_
  refine mv (.bool _) rfl ?_
  refine g_on rfl rfl rfl ?_
  refine mv (.int _ _) rfl ?_
  refine g_on rfl rfl rfl ?_
  refine cal (Degrees_ct n hn) [] [] [] rfl rfl rfl (by kernel_rfl) impl_nil rfl ?_; rintro _ _ _ ⟨rfl, rfl, rfl⟩; refine ⟨trivial, ?_⟩
  refine g_on rfl rfl rfl ?_
  refine xcal (args := [.float .f64 ((degF n).b.toNat)]) (.int .u64 ((degF n).b.toNat : Int)) Try.func8 (by kernel_rfl) (by kernel_rfl) (by kernel_rfl) (fun w => rfl) (by kernel_rfl) rfl ?_
  refine g_on rfl rfl rfl ?_
  refine mv (.int _ _) rfl ?_
  refine g_on rfl rfl rfl ?_
  refine cal (RDegrees_ct n hn) [] [] [] rfl rfl rfl (by kernel_rfl) impl_nil rfl ?_; rintro _ _ _ ⟨rfl, rfl, rfl⟩; refine ⟨trivial, ?_⟩
  refine g_on rfl rfl rfl ?_
  refine xcal (args := [.float .f64 ((degF n).b.toNat)]) (.int .u64 ((degF n).b.toNat : Int)) Try.func8 (by kernel_rfl) (by kernel_rfl) (by kernel_rfl) (fun w => rfl) (by kernel_rfl) rfl ?_
  refine g_on rfl rfl rfl ?_
  refine cmp true rfl rfl (by simp [cmpV]) ?_
  refine pkt (.bool _) rfl rfl ?_
  refine asg (.bool _) rfl ?_
  refine jt ?_
  refine c_ret ?_
  exact j_end (own0 := []) (ro0 := []) (.inl rfl) rfl (hr1 Try.results3 (rvt (v := (.bool _)) rfl)) [] [] [] [] [] _ rfl rfl (by kernel_rfl) rfl impl_nil (⟨by first | rfl | simp, rfl, rfl⟩)

set_option maxRecDepth 20000 in
set_option maxHeartbeats 4000000 in
theorem CPlaces_ct (n : Int) (a b : UInt64) (hn : n.natAbs ≤ 2147483648) : Ct Try.prog 4 [.int .i32 n, .int .u64 (a.toNat : Int), .int .u64 (b.toNat : Int)] [] [] (fun v o r => v = .bool true ∧ o = [] ∧ r = []) := by
  have htm := tmod_in n
  refine ct_enter Try.func4 rfl Try.ntmps4 (by kernel_rfl) rfl fun w0 => ?_
  refine c_seq ?_
  refine c_reg ?_
  refine asg (.bool _) rfl ?_
  refine jt ?_
  refine c_cut (σ := Int) (fun n2 => n2.natAbs ≤ 1800000000) (fun n2 => [(0, .int .i32 n2)]) (fun n2 => []) (fun n2 => []) [0, 18, 19, 20, 21, 22, 23, 24, 25] ?_ ?_
  · refine c_seq ?_
    refine c_reg ?_
    refine mv (.int _ _) rfl ?_
    refine cmp _ rfl rfl rfl ?_
    refine mv (.bool _) rfl ?_
    refine jsplit 20 rfl (fun h1 => ?_) (fun h1 => ?_)
    · replace h1 := of_decide_eq_true h1
      refine g_off rfl rfl rfl rfl ?_
      refine g_off rfl rfl rfl rfl ?_
      refine pkt (.bool _) rfl rfl ?_
      refine jt ?_
      refine c_true rfl ?_
      refine c_reg ?_
      refine mv (.int _ _) rfl ?_
      refine remi rfl rfl (by omega) ?_
      refine asg (.int _ _) rfl ?_
      refine jn ?_
      exact e_lp ((n).tmod 1800000000) (by repeat (first | exact out_self | refine out_hav (by kernel_rfl) ?_ | refine out_look (by kernel_rfl) ?_)) (by omega) trivial (⟨rfl, trivial⟩) rfl rfl rfl
    · replace h1 := of_decide_eq_false h1
      refine g_on rfl rfl rfl ?_
      refine mv (.int _ _) rfl ?_
      refine g_on rfl rfl rfl ?_
      refine cmp _ rfl rfl rfl ?_
      refine pkf (.bool _) rfl rfl ?_
      refine jt ?_
      refine c_cond rfl (fun h2 => ?_) (fun h2 => ?_)
      · replace h2 := of_decide_eq_true h2
        refine c_reg ?_
        refine mv (.int _ _) rfl ?_
        refine remi rfl rfl (by omega) ?_
        refine asg (.int _ _) rfl ?_
        refine jn ?_
        exact e_lp ((n).tmod 1800000000) (by repeat (first | exact out_self | refine out_hav (by kernel_rfl) ?_ | refine out_look (by kernel_rfl) ?_)) (by omega) trivial (⟨rfl, trivial⟩) rfl rfl rfl
      · replace h2 := of_decide_eq_false h2
        refine c_skip ?_
        exact e_lp n (by repeat (first | exact out_self | refine out_hav (by kernel_rfl) ?_ | refine out_look (by kernel_rfl) ?_)) (by omega) trivial (⟨rfl, trivial⟩) rfl rfl rfl
  · rintro n2 g hC1
    try dsimp only at hC1 ⊢
    refine c_seq ?_
    refine c_reg ?_
    refine mv (.int _ _) rfl ?_
    refine cal (Degrees_ct n2 (by omega)) [] [] [] rfl rfl rfl (by kernel_rfl) impl_nil rfl ?_; rintro _ _ _ ⟨rfl, rfl, rfl⟩; refine ⟨trivial, ?_⟩
    refine cal (Steps_ct (degF n2)) [] [] [] rfl rfl rfl (by kernel_rfl) impl_nil rfl ?_; rintro _ _ _ ⟨rfl, rfl, rfl⟩; refine ⟨trivial, ?_⟩
    refine mv (.tuple _) rfl ?_
    refine xtr (.int _ _) rfl rfl ?_
    refine j_re 30 (.int .i32 n2) (congrArg (Value.int .i32) ((deg_back hC1).2)) ?_
    refine xtr (.int _ _) rfl rfl ?_
    refine j_re 31 (.int .i64 0) (congrArg (Value.int .i64) ((deg_back hC1).1)) ?_
    refine asg (.int _ _) rfl ?_
    refine asg (.int _ _) rfl ?_
    refine jt ?_
    refine c_seq ?_
    refine c_seq ?_
    refine c_reg ?_
    refine mv (.int _ _) rfl ?_
    refine cmp false rfl rfl rfl ?_
    refine mv (.bool _) rfl ?_
    refine g_on rfl rfl rfl ?_
    refine mv (.int _ _) rfl ?_
    refine g_on rfl rfl rfl ?_
    refine mv (.int _ _) rfl ?_
    refine g_on rfl rfl rfl ?_
    refine cmp false rfl rfl (by simp [cmpV]) ?_
    refine pkf (.bool _) rfl rfl ?_
    refine jt ?_
    refine c_false rfl ?_
    refine c_skip ?_
    refine e_then ?_
    refine c_seq ?_
    refine c_reg ?_
    refine mv (.int _ _) rfl ?_
    refine xcal (args := [.int .u64 (a.toNat : Int)]) (.float .f64 a.toNat) Try.func5 (by kernel_rfl) (by kernel_rfl) (by kernel_rfl) (fun w => rfl) (by kernel_rfl) rfl ?_
    refine mv (.int _ _) rfl ?_
    refine xcal (args := [.int .u64 (b.toNat : Int)]) (.float .f64 b.toNat) Try.func5 (by kernel_rfl) (by kernel_rfl) (by kernel_rfl) (fun w => rfl) (by kernel_rfl) rfl ?_
    refine asg (.float _ _) rfl ?_
    refine asg (.float _ _) rfl ?_
    refine jt ?_
    refine c_seq ?_
    refine c_reg ?_
    refine mv (.float _ _) rfl ?_
    refine cal (Steps_ct (⟨a⟩ : F64)) [] [] [] rfl rfl rfl (by kernel_rfl) impl_nil rfl ?_; rintro _ _ _ ⟨rfl, rfl, rfl⟩; refine ⟨trivial, ?_⟩
    refine mv (.tuple _) rfl ?_
    refine xtr (.int _ _) rfl rfl ?_
    refine xtr (.int _ _) rfl rfl ?_
    refine asg (.int _ _) rfl ?_
    refine asg (.int _ _) rfl ?_
    refine jt ?_
    refine c_seq ?_
    refine c_reg ?_
    refine mv (.float _ _) rfl ?_
    refine fneg rfl ?_
    refine j_re 50 (.float .f64 (negF (⟨a⟩ : F64)).b.toNat) (congrArg (Value.float .f64) (negF_b (⟨a⟩ : F64))) ?_
    refine cal (Steps_ct (negF (⟨a⟩ : F64))) [] [] [] rfl rfl rfl (by kernel_rfl) impl_nil rfl ?_; rintro _ _ _ ⟨rfl, rfl, rfl⟩; refine ⟨trivial, ?_⟩
    refine mv (.tuple _) rfl ?_
    refine xtr (.int _ _) rfl rfl ?_
    refine j_re 52 (.int .i32 (-(stV (⟨a⟩ : F64)))) (congrArg (Value.int .i32) ((st_opp (⟨a⟩ : F64)).2)) ?_
    refine xtr (.int _ _) rfl rfl ?_
    refine j_re 53 (.int .i64 (stE (⟨a⟩ : F64))) (congrArg (Value.int .i64) ((st_opp (⟨a⟩ : F64)).1)) ?_
    refine asg (.int _ _) rfl ?_
    refine asg (.int _ _) rfl ?_
    refine jt ?_
    refine c_seq ?_
    refine c_reg ?_
    refine mv (.float _ _) rfl ?_
    refine cal (Steps_ct (⟨b⟩ : F64)) [] [] [] rfl rfl rfl (by kernel_rfl) impl_nil rfl ?_; rintro _ _ _ ⟨rfl, rfl, rfl⟩; refine ⟨trivial, ?_⟩
    refine mv (.tuple _) rfl ?_
    refine xtr (.int _ _) rfl rfl ?_
    refine xtr (.int _ _) rfl rfl ?_
    refine asg (.int _ _) rfl ?_
    refine asg (.int _ _) rfl ?_
    refine jt ?_
    refine c_seq ?_
    refine c_seq ?_
    refine c_reg ?_
    refine mv (.int _ _) rfl ?_
    refine mv (.int _ _) rfl ?_
    refine cmp false rfl rfl (by simp [cmpV]) ?_
    refine mv (.bool _) rfl ?_
    refine g_on rfl rfl rfl ?_
    refine mv (.int _ _) rfl ?_
    refine g_on rfl rfl rfl ?_
    refine mv (.int _ _) rfl ?_
    refine g_on rfl rfl rfl ?_
    refine negW rfl ?_
    refine j_re 65 (.int .i32 (stV (⟨a⟩ : F64))) (congrArg (Value.int .i32) (by have := st_bd (f := (⟨a⟩ : F64)); rw [i32w (by omega)]; omega)) ?_
    refine g_on rfl rfl rfl ?_
    refine cmp false rfl rfl (by simp [cmpV]) ?_
    refine pkf (.bool _) rfl rfl ?_
    refine jt ?_
    refine c_false rfl ?_
    refine c_skip ?_
    refine e_then ?_
    refine c_seq ?_
    refine c_seq ?_
    refine c_reg ?_
    refine mv (.int _ _) rfl ?_
    refine cmp _ rfl rfl rfl ?_
    refine mv (.bool _) rfl ?_
    refine jsplit 70 rfl (fun h3 => ?_) (fun h3 => ?_)
    · replace h3 := of_decide_eq_true h3
      refine g_on rfl rfl rfl ?_
      refine mv (.int _ _) rfl ?_
      refine g_on rfl rfl rfl ?_
      refine cmp _ rfl rfl rfl ?_
      refine pkt (.bool _) rfl rfl ?_
      refine mv (.bool _) rfl ?_
      refine jsplit 74 rfl (fun h4 => ?_) (fun h4 => ?_)
      · replace h4 := of_decide_eq_true h4
        refine g_on rfl rfl rfl ?_
        refine mv (.float _ _) rfl ?_
        refine g_on rfl rfl rfl ?_
        refine mv (.float _ _) rfl ?_
        refine g_on rfl rfl rfl ?_
        refine fcmp (fLe a.toNat b.toNat) rfl rfl rfl ?_
        refine pkt (.bool _) rfl rfl ?_
        refine mv (.bool _) rfl ?_
        refine jsplit 79 rfl (fun h5 => ?_) (fun h5 => ?_)
        · refine g_on rfl rfl rfl ?_
          refine mv (.int _ _) rfl ?_
          refine g_on rfl rfl rfl ?_
          refine mv (.int _ _) rfl ?_
          refine g_on rfl rfl rfl ?_
          refine cmp _ rfl rfl rfl ?_
          refine pkt (.bool _) rfl rfl ?_
          refine jt ?_
          refine c_cond rfl (fun h6 => ?_) (fun h6 => ?_)
          · replace h6 := of_decide_eq_true h6
            refine c_seq ?_
            refine c_reg ?_
            refine asg (.bool _) rfl ?_
            refine jt ?_
            refine c_ret ?_
            exact j_end (own0 := []) (ro0 := []) (.inl rfl) rfl (hr1 Try.results4 (rvt (v := (.bool _)) rfl)) [] [] [] [] [] _ rfl rfl (by kernel_rfl) rfl impl_nil (absurd (st_mono (x := (⟨a⟩ : F64)) (y := (⟨b⟩ : F64)) (by assumption) (by assumption) (by assumption)) (by omega))
          · replace h6 := of_decide_eq_false h6
            refine c_skip ?_
            refine e_then ?_
            refine c_cut (σ := Bool) (fun ib => ib = (fGe a.toNat 13863909240395005952 && fLe a.toNat 4640537203540230144)) (fun ib => [(17, .bool ib)]) (fun ib => []) (fun ib => []) [17, 84, 85, 86, 87, 88, 89] ?_ ?_
            · refine c_reg ?_
              refine mv (.float _ _) rfl ?_
              refine fcmp (fGe a.toNat 13863909240395005952) rfl rfl rfl ?_
              refine mv (.bool _) rfl ?_
              refine jsplit 86 rfl (fun h7 => ?_) (fun h7 => ?_)
              · refine g_on rfl rfl rfl ?_
                refine mv (.float _ _) rfl ?_
                refine g_on rfl rfl rfl ?_
                refine fcmp (fLe a.toNat 4640537203540230144) rfl rfl rfl ?_
                refine pkt (.bool _) rfl rfl ?_
                refine asg (.bool _) rfl ?_
                refine jn ?_
                exact e_lp (fLe a.toNat 4640537203540230144) (by repeat (first | exact out_self | refine out_hav (by kernel_rfl) ?_ | refine out_look (by kernel_rfl) ?_)) (by first | (simp only [*]; rfl) | simp [*]) trivial (⟨rfl, trivial⟩) rfl rfl rfl
              · refine g_off rfl rfl rfl rfl ?_
                refine g_off rfl rfl rfl rfl ?_
                refine pkf (.bool _) rfl rfl ?_
                refine asg (.bool _) rfl ?_
                refine jn ?_
                exact e_lp false (by repeat (first | exact out_self | refine out_hav (by kernel_rfl) ?_ | refine out_look (by kernel_rfl) ?_)) (by first | (simp only [*]; rfl) | simp [*]) trivial (⟨rfl, trivial⟩) rfl rfl rfl
            · rintro ib g hIn
              try dsimp only at hIn ⊢
              refine c_seq ?_
              refine c_reg ?_
              refine mv (.bool _) rfl ?_
              refine mv (.int _ _) rfl ?_
              refine cmp _ rfl rfl rfl ?_
              refine eqbo _ rfl rfl Try.underlying4 rfl ?_
              refine asg (.bool _) rfl ?_
              refine jt ?_
              refine c_ret ?_
              exact j_end (own0 := []) (ro0 := []) (.inl rfl) rfl (hr1 Try.results4 (rvt (v := (.bool _)) rfl)) [] [] [] [] [] _ rfl rfl (by kernel_rfl) rfl impl_nil (⟨by rw [hIn, show (fGe a.toNat 13863909240395005952 && fLe a.toNat 4640537203540230144) = decide (stE (⟨a⟩ : F64) = 0) from in_eq (⟨a⟩ : F64), beq_self_eq_true], rfl, rfl⟩)
        · refine g_off rfl rfl rfl rfl ?_
          refine g_off rfl rfl rfl rfl ?_
          refine g_off rfl rfl rfl rfl ?_
          refine pkf (.bool _) rfl rfl ?_
          refine jt ?_
          refine c_false rfl ?_
          refine c_skip ?_
          refine e_then ?_
          refine c_cut (σ := Bool) (fun ib => ib = (fGe a.toNat 13863909240395005952 && fLe a.toNat 4640537203540230144)) (fun ib => [(17, .bool ib)]) (fun ib => []) (fun ib => []) [17, 84, 85, 86, 87, 88, 89] ?_ ?_
          · refine c_reg ?_
            refine mv (.float _ _) rfl ?_
            refine fcmp (fGe a.toNat 13863909240395005952) rfl rfl rfl ?_
            refine mv (.bool _) rfl ?_
            refine jsplit 86 rfl (fun h8 => ?_) (fun h8 => ?_)
            · refine g_on rfl rfl rfl ?_
              refine mv (.float _ _) rfl ?_
              refine g_on rfl rfl rfl ?_
              refine fcmp (fLe a.toNat 4640537203540230144) rfl rfl rfl ?_
              refine pkt (.bool _) rfl rfl ?_
              refine asg (.bool _) rfl ?_
              refine jn ?_
              exact e_lp (fLe a.toNat 4640537203540230144) (by repeat (first | exact out_self | refine out_hav (by kernel_rfl) ?_ | refine out_look (by kernel_rfl) ?_)) (by first | (simp only [*]; rfl) | simp [*]) trivial (⟨rfl, trivial⟩) rfl rfl rfl
            · refine g_off rfl rfl rfl rfl ?_
              refine g_off rfl rfl rfl rfl ?_
              refine pkf (.bool _) rfl rfl ?_
              refine asg (.bool _) rfl ?_
              refine jn ?_
              exact e_lp false (by repeat (first | exact out_self | refine out_hav (by kernel_rfl) ?_ | refine out_look (by kernel_rfl) ?_)) (by first | (simp only [*]; rfl) | simp [*]) trivial (⟨rfl, trivial⟩) rfl rfl rfl
          · rintro ib g hIn
            try dsimp only at hIn ⊢
            refine c_seq ?_
            refine c_reg ?_
            refine mv (.bool _) rfl ?_
            refine mv (.int _ _) rfl ?_
            refine cmp _ rfl rfl rfl ?_
            refine eqbo _ rfl rfl Try.underlying4 rfl ?_
            refine asg (.bool _) rfl ?_
            refine jt ?_
            refine c_ret ?_
            exact j_end (own0 := []) (ro0 := []) (.inl rfl) rfl (hr1 Try.results4 (rvt (v := (.bool _)) rfl)) [] [] [] [] [] _ rfl rfl (by kernel_rfl) rfl impl_nil (⟨by rw [hIn, show (fGe a.toNat 13863909240395005952 && fLe a.toNat 4640537203540230144) = decide (stE (⟨a⟩ : F64) = 0) from in_eq (⟨a⟩ : F64), beq_self_eq_true], rfl, rfl⟩)
      · replace h4 := of_decide_eq_false h4
        refine g_off rfl rfl rfl rfl ?_
        refine g_off rfl rfl rfl rfl ?_
        refine g_off rfl rfl rfl rfl ?_
        refine pkf (.bool _) rfl rfl ?_
        refine mv (.bool _) rfl ?_
        refine g_off rfl rfl rfl rfl ?_
        refine g_off rfl rfl rfl rfl ?_
        refine g_off rfl rfl rfl rfl ?_
        refine pkf (.bool _) rfl rfl ?_
        refine jt ?_
        refine c_false rfl ?_
        refine c_skip ?_
        refine e_then ?_
        refine c_cut (σ := Bool) (fun ib => ib = (fGe a.toNat 13863909240395005952 && fLe a.toNat 4640537203540230144)) (fun ib => [(17, .bool ib)]) (fun ib => []) (fun ib => []) [17, 84, 85, 86, 87, 88, 89] ?_ ?_
        · refine c_reg ?_
          refine mv (.float _ _) rfl ?_
          refine fcmp (fGe a.toNat 13863909240395005952) rfl rfl rfl ?_
          refine mv (.bool _) rfl ?_
          refine jsplit 86 rfl (fun h9 => ?_) (fun h9 => ?_)
          · refine g_on rfl rfl rfl ?_
            refine mv (.float _ _) rfl ?_
            refine g_on rfl rfl rfl ?_
            refine fcmp (fLe a.toNat 4640537203540230144) rfl rfl rfl ?_
            refine pkt (.bool _) rfl rfl ?_
            refine asg (.bool _) rfl ?_
            refine jn ?_
            exact e_lp (fLe a.toNat 4640537203540230144) (by repeat (first | exact out_self | refine out_hav (by kernel_rfl) ?_ | refine out_look (by kernel_rfl) ?_)) (by first | (simp only [*]; rfl) | simp [*]) trivial (⟨rfl, trivial⟩) rfl rfl rfl
          · refine g_off rfl rfl rfl rfl ?_
            refine g_off rfl rfl rfl rfl ?_
            refine pkf (.bool _) rfl rfl ?_
            refine asg (.bool _) rfl ?_
            refine jn ?_
            exact e_lp false (by repeat (first | exact out_self | refine out_hav (by kernel_rfl) ?_ | refine out_look (by kernel_rfl) ?_)) (by first | (simp only [*]; rfl) | simp [*]) trivial (⟨rfl, trivial⟩) rfl rfl rfl
        · rintro ib g hIn
          try dsimp only at hIn ⊢
          refine c_seq ?_
          refine c_reg ?_
          refine mv (.bool _) rfl ?_
          refine mv (.int _ _) rfl ?_
          refine cmp _ rfl rfl rfl ?_
          refine eqbo _ rfl rfl Try.underlying4 rfl ?_
          refine asg (.bool _) rfl ?_
          refine jt ?_
          refine c_ret ?_
          exact j_end (own0 := []) (ro0 := []) (.inl rfl) rfl (hr1 Try.results4 (rvt (v := (.bool _)) rfl)) [] [] [] [] [] _ rfl rfl (by kernel_rfl) rfl impl_nil (⟨by rw [hIn, show (fGe a.toNat 13863909240395005952 && fLe a.toNat 4640537203540230144) = decide (stE (⟨a⟩ : F64) = 0) from in_eq (⟨a⟩ : F64), beq_self_eq_true], rfl, rfl⟩)
    · replace h3 := of_decide_eq_false h3
      refine g_off rfl rfl rfl rfl ?_
      refine g_off rfl rfl rfl rfl ?_
      refine pkf (.bool _) rfl rfl ?_
      refine mv (.bool _) rfl ?_
      refine g_off rfl rfl rfl rfl ?_
      refine g_off rfl rfl rfl rfl ?_
      refine g_off rfl rfl rfl rfl ?_
      refine pkf (.bool _) rfl rfl ?_
      refine mv (.bool _) rfl ?_
      refine g_off rfl rfl rfl rfl ?_
      refine g_off rfl rfl rfl rfl ?_
      refine g_off rfl rfl rfl rfl ?_
      refine pkf (.bool _) rfl rfl ?_
      refine jt ?_
      refine c_false rfl ?_
      refine c_skip ?_
      refine e_then ?_
      refine c_cut (σ := Bool) (fun ib => ib = (fGe a.toNat 13863909240395005952 && fLe a.toNat 4640537203540230144)) (fun ib => [(17, .bool ib)]) (fun ib => []) (fun ib => []) [17, 84, 85, 86, 87, 88, 89] ?_ ?_
      · refine c_reg ?_
        refine mv (.float _ _) rfl ?_
        refine fcmp (fGe a.toNat 13863909240395005952) rfl rfl rfl ?_
        refine mv (.bool _) rfl ?_
        refine jsplit 86 rfl (fun h10 => ?_) (fun h10 => ?_)
        · refine g_on rfl rfl rfl ?_
          refine mv (.float _ _) rfl ?_
          refine g_on rfl rfl rfl ?_
          refine fcmp (fLe a.toNat 4640537203540230144) rfl rfl rfl ?_
          refine pkt (.bool _) rfl rfl ?_
          refine asg (.bool _) rfl ?_
          refine jn ?_
          exact e_lp (fLe a.toNat 4640537203540230144) (by repeat (first | exact out_self | refine out_hav (by kernel_rfl) ?_ | refine out_look (by kernel_rfl) ?_)) (by first | (simp only [*]; rfl) | simp [*]) trivial (⟨rfl, trivial⟩) rfl rfl rfl
        · refine g_off rfl rfl rfl rfl ?_
          refine g_off rfl rfl rfl rfl ?_
          refine pkf (.bool _) rfl rfl ?_
          refine asg (.bool _) rfl ?_
          refine jn ?_
          exact e_lp false (by repeat (first | exact out_self | refine out_hav (by kernel_rfl) ?_ | refine out_look (by kernel_rfl) ?_)) (by first | (simp only [*]; rfl) | simp [*]) trivial (⟨rfl, trivial⟩) rfl rfl rfl
      · rintro ib g hIn
        try dsimp only at hIn ⊢
        refine c_seq ?_
        refine c_reg ?_
        refine mv (.bool _) rfl ?_
        refine mv (.int _ _) rfl ?_
        refine cmp _ rfl rfl rfl ?_
        refine eqbo _ rfl rfl Try.underlying4 rfl ?_
        refine asg (.bool _) rfl ?_
        refine jt ?_
        refine c_ret ?_
        exact j_end (own0 := []) (ro0 := []) (.inl rfl) rfl (hr1 Try.results4 (rvt (v := (.bool _)) rfl)) [] [] [] [] [] _ rfl rfl (by kernel_rfl) rfl impl_nil (⟨by rw [hIn, show (fGe a.toNat 13863909240395005952 && fLe a.toNat 4640537203540230144) = decide (stE (⟨a⟩ : F64) = 0) from in_eq (⟨a⟩ : F64), beq_self_eq_true], rfl, rfl⟩)
end Go.Proofs.Ythpbiamicidakaa
