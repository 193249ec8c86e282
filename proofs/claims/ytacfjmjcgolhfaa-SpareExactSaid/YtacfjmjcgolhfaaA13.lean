/- Contracts of the program's functions, walked. No condition. -/
import Derived.Test.YtacfjmjcgolhfaaA12
namespace Go.Proofs.Ytacfjmjcgolhfaa
open Go Go.Proofs Go.PW
open Go.PW.Enc (enc val)


theorem RNew_ct (most : Int) : Ct Try.prog 25 [.int .i64 most] [] [] (fun v w r => ((0 ≤ most ∧ most ≤ 2000) ∧ ∃ (br : Nat), v = .tuple #[.pointer (some ⟨br, 0, none⟩), .int .i64 0] ∧ w = [[(br, .cells (cat [p1 (.int .i64 most), p1 (.slice Ow.nil.adr ([] : List Spare).length Ow.nil.cap)]) 87)], Ow.nil.seg ([] : List Spare) 33] ∧ r = []) ∨ (¬ (0 ≤ most ∧ most ≤ 2000) ∧ v = .tuple #[.pointer none, .int .i64 1] ∧ w = [] ∧ r = [])) := by
  refine ct_enter Try.func25 rfl Try.ntmps25 (by kernel_rfl) rfl fun w0 => ?_
  refine c_seq ?_
  refine c_reg ?_
  refine asg (.pointer _) rfl ?_
  refine asg (.int _ _) rfl ?_
  refine jt ?_
  refine c_seq ?_
  refine c_seq ?_
  refine c_reg ?_
  refine mv (.int _ _) rfl ?_
  refine cmp _ rfl rfl rfl ?_
  refine mv (.bool _) rfl ?_
  refine jsplit 6 rfl (fun h1 => ?_) (fun h1 => ?_)
  · replace h1 := of_decide_eq_true h1
    refine g_off rfl rfl rfl rfl ?_
    refine g_off rfl rfl rfl rfl ?_
    refine pkt (.bool _) rfl rfl ?_
    refine jt ?_
    refine c_true rfl ?_
    refine c_seq ?_
    refine c_reg ?_
    refine asg (.pointer _) rfl ?_
    refine asg (.int _ _) rfl ?_
    refine jt ?_
    refine c_ret ?_
    exact j_end (own0 := []) (ro0 := []) (.inl rfl) rfl (hr2 Try.results25 (rvt (v := (.pointer _)) rfl) (rvt (v := (.int _ _)) rfl)) [] [] [] [] [] _ rfl rfl (by kernel_rfl) rfl impl_nil (.inr ⟨by omega, rfl, rfl, rfl⟩)
  · replace h1 := of_decide_eq_false h1
    refine g_on rfl rfl rfl ?_
    refine mv (.int _ _) rfl ?_
    refine g_on rfl rfl rfl ?_
    refine cmp _ rfl rfl rfl ?_
    refine pkf (.bool _) rfl rfl ?_
    refine jt ?_
    refine c_cond rfl (fun h2 => ?_) (fun h2 => ?_)
    · replace h2 := of_decide_eq_true h2
      refine c_seq ?_
      refine c_reg ?_
      refine asg (.pointer _) rfl ?_
      refine asg (.int _ _) rfl ?_
      refine jt ?_
      refine c_ret ?_
      exact j_end (own0 := []) (ro0 := []) (.inl rfl) rfl (hr2 Try.results25 (rvt (v := (.pointer _)) rfl) (rvt (v := (.int _ _)) rfl)) [] [] [] [] [] _ rfl rfl (by kernel_rfl) rfl impl_nil (.inr ⟨by omega, rfl, rfl, rfl⟩)
    · replace h2 := of_decide_eq_false h2
      refine c_skip ?_
      refine e_then ?_
      refine c_seq ?_
      refine c_reg ?_
      refine mv (.int _ _) rfl ?_
      refine bld [p1 (.int .i64 0), p1 (.slice none 0 0)] [(0, p1 (.int .i64 most))] _ Try.underlying87 (lay87 _ Try.underlying87) z87 rfl rfl rfl ?_
      refine bxx [p1 (.int .i64 most), p1 (.slice none 0 0)] _ rfl rfl fun b12 => ⟨trivial, ?_⟩
      refine asg (.pointer _) rfl ?_
      refine asg (.int _ _) rfl ?_
      refine jt ?_
      refine c_ret ?_
      refine e_addE ?_
      exact j_end (own0 := []) (ro0 := []) (.inl rfl) rfl (hr2 Try.results25 (rvt (v := (.pointer _)) rfl) (rvt (v := (.int _ _)) rfl)) [0, 1] [] [_, _] [] [] _ rfl rfl (by kernel_rfl) rfl impl_nil (.inl ⟨by omega, _, rfl, rfl, rfl⟩)

theorem RFrom_ct (most : Int) (s : Vs) (xs : List Spare) (hs : s.ok xs) (hx : xs.length ≤ 9223372036854775806) : Ct Try.prog 15 [.int .i64 most, s.v xs.length] [] [s.seg xs] (fun v w r => (fromE most xs = 0 ∧ ∃ (br : Nat) (o' : Ow), o'.ok xs ∧ v = .tuple #[.pointer (some ⟨br, 0, none⟩), .int .i64 0] ∧ w = [[(br, .cells (cat [p1 (.int .i64 most), p1 (.slice o'.adr xs.length o'.cap)]) 87)], o'.seg xs 33] ∧ r = []) ∨ (fromE most xs ≠ 0 ∧ v = .tuple #[.pointer none, .int .i64 (fromE most xs)] ∧ w = [] ∧ r = [])) := by
  refine ct_enter Try.func15 rfl Try.ntmps15 (by kernel_rfl) rfl fun w0 => ?_
  refine c_seq ?_
  refine c_reg ?_
  refine asg (.pointer _) rfl ?_
  refine asg (.int _ _) rfl ?_
  refine jt ?_
  refine c_seq ?_
  refine c_reg ?_
  refine mv (.int _ _) rfl ?_
  refine cal (RNew_ct most) [] [] [] rfl rfl rfl (by kernel_rfl) impl_nil rfl ?_; rintro _ _ _ (⟨hN10, br10, rfl, rfl, rfl⟩ | ⟨hN10, rfl, rfl, rfl⟩)
  · refine ⟨trivial, ?_⟩
    refine mv (.tuple _) rfl ?_
    refine xtr (.pointer _) rfl rfl ?_
    refine xtr (.int _ _) rfl rfl ?_
    refine asg (.pointer _) rfl ?_
    refine asg (.int _ _) rfl ?_
    refine jt ?_
    refine c_seq ?_
    refine c_seq ?_
    refine c_reg ?_
    refine mv (.int _ _) rfl ?_
    refine cmp false rfl rfl rfl ?_
    refine jt ?_
    refine c_false rfl ?_
    refine c_skip ?_
    refine e_then ?_
    refine c_seq ?_
    refine c_reg ?_
    refine mv (.pointer _) rfl ?_
    refine mv (.slice _ _ _) rfl ?_
    refine cal (RPut_is br10 Ow.nil most ([] : List Spare) Ow.nil_ok hN10 (by simp) (by simp) s xs hs (by omega) (z := putE most ([] : List Spare) xs) (l2 := (putL most ([] : List Spare) xs)) rfl rfl) [0, 1] [] [] rfl rfl rfl (by kernel_rfl) (impl_cons (impl_at 0 rfl) impl_nil) rfl ?_; rintro _ _ _ ⟨o18, ho18, rfl, rfl, rfl⟩; refine ⟨trivial, ?_⟩
    refine asg (.int _ _) rfl ?_
    refine jt ?_
    refine c_seq ?_
    refine c_seq ?_
    refine c_reg ?_
    refine mv (.int _ _) rfl ?_
    refine cmp _ rfl rfl rfl ?_
    refine jt ?_
    refine c_cond rfl (fun h1 => ?_) (fun h1 => ?_)
    · replace h1 := ndt h1
      refine c_seq ?_
      refine c_reg ?_
      refine mv (.int _ _) rfl ?_
      refine asg (.pointer _) rfl ?_
      refine asg (.int _ _) rfl ?_
      refine jt ?_
      refine c_ret ?_
      exact j_end (own0 := []) (ro0 := [s.seg xs]) (.inl rfl) rfl (hr2 Try.results15 (rvt (v := (.pointer _)) rfl) (rvt (v := (.int _ _)) rfl)) [] [0, 1] [] [_, _] [] _ rfl rfl (by kernel_rfl) rfl impl_nil (.inr ⟨by rw [from_in hN10]; exact h1, by rw [from_in hN10], rfl, rfl⟩)
    · replace h1 := ndf h1
      refine c_skip ?_
      refine e_then ?_
      refine c_seq ?_
      refine c_reg ?_
      refine mv (.pointer _) rfl ?_
      refine asg (.pointer _) rfl ?_
      refine asg (.int _ _) rfl ?_
      refine jt ?_
      refine c_ret ?_
      exact j_end (own0 := []) (ro0 := [s.seg xs]) (.inl rfl) rfl (hr2 Try.results15 (rvt (v := (.pointer _)) rfl) (rvt (v := (.int _ _)) rfl)) [0, 1] [] [_, _] [] [] _ rfl rfl (by kernel_rfl) rfl impl_nil (by have e := from_ok hN10 h1; rw [e.2] at ho18; exact .inl ⟨e.1, br10, o18, ho18, rfl, by rw [e.2], rfl⟩)
  · refine ⟨trivial, ?_⟩
    refine mv (.tuple _) rfl ?_
    refine xtr (.pointer _) rfl rfl ?_
    refine xtr (.int _ _) rfl rfl ?_
    refine asg (.pointer _) rfl ?_
    refine asg (.int _ _) rfl ?_
    refine jt ?_
    refine c_seq ?_
    refine c_seq ?_
    refine c_reg ?_
    refine mv (.int _ _) rfl ?_
    refine cmp true rfl rfl rfl ?_
    refine jt ?_
    refine c_true rfl ?_
    refine c_seq ?_
    refine c_reg ?_
    refine mv (.int _ _) rfl ?_
    refine asg (.pointer _) rfl ?_
    refine asg (.int _ _) rfl ?_
    refine jt ?_
    refine c_ret ?_
    exact j_end (own0 := []) (ro0 := [s.seg xs]) (.inl rfl) rfl (hr2 Try.results15 (rvt (v := (.pointer _)) rfl) (rvt (v := (.int _ _)) rfl)) [] [] [] [] [] _ rfl rfl (by kernel_rfl) rfl impl_nil (.inr ⟨by rw [from_out hN10]; decide, by rw [from_out hN10], rfl, rfl⟩)
end Go.Proofs.Ytacfjmjcgolhfaa
