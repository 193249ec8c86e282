/- Contracts of the program's functions, walked. No condition. -/
import Derived.Test.YthpbiamicidakaaDoorA2
namespace Go.Proofs.YthpbiamicidakaaDoor
open Go Go.Proofs Go.PW
open Go.PW.Enc (enc val)


set_option maxRecDepth 20000 in
set_option maxHeartbeats 4000000 in
theorem Text_ct (sx : Vs) (xs : Str) (hx : sx.ok xs) (hb : xs.length ≤ 4611686018427387904) : Ct Tryd.prog 72 [.slice sx.adr xs.length sx.cap] [] [sx.seg xs] (fun v o r => v = .bool (u8ok xs) ∧ o = [] ∧ r = []) := by
  refine ct_enter Tryd.func72 rfl Tryd.ntmps72 (by kernel_rfl) rfl fun w0 => ?_
  refine c_seq ?_
  refine c_reg ?_
  refine asg (.bool _) rfl ?_
  refine jt ?_
  refine c_seq ?_
  refine c_seq ?_
  refine c_reg ?_
  refine asg (.int _ _) rfl ?_
  refine jt ?_
  refine c_block ?_
  refine c_loop (σ := Nat) (fun i => i ≤ xs.length ∧ u8ok (xs.drop i) = u8ok xs) (fun i => xs.length - i) (fun i => [(3, .int .i64 (i : Int))]) (fun i => []) (fun i => [sx.seg xs]) [2, 3, 4, 5, 6, 7, 8, 9, 10, 11, 12, 13, 14, 15, 16, 17, 18, 19, 20, 21, 22, 23, 24, 25, 26, 27, 28, 29, 30, 31, 32, 33, 34, 35, 36, 37, 38, 39, 40, 41, 42, 43, 44, 45, 46, 47, 48, 49, 50, 51, 52, 53, 54, 55, 56, 57, 58, 59, 60, 61, 62, 63, 64, 65, 66, 67, 68, 69, 70, 71, 72, 73, 74, 75, 76, 77, 78, 79, 80, 81, 82, 83, 84, 85, 86, 87, 88, 89, 90, 91, 92, 93, 94, 95, 96, 97, 98, 99, 100, 101, 102] 0 (⟨by omega, rfl⟩) ⟨rfl, trivial⟩ rfl rfl ?_
  rintro i g1 hI1
  try dsimp only at hI1 ⊢
  refine c_seq ?_
  refine c_seq ?_
  refine c_reg ?_
  refine mv (.int _ _) rfl ?_
  refine mv (.slice _ _ _) rfl ?_
  refine lenS rfl Tryd.underlying50 ?_
  refine cmp _ rfl rfl rfl ?_
  refine jt ?_
  refine c_cond rfl (fun h1 => ?_) (fun h1 => ?_)
  · replace h1 := of_decide_eq_true h1
    refine c_skip ?_
    refine e_then ?_
    refine c_block ?_
    refine c_seq ?_
    refine c_reg ?_
    refine asg (.int _ _) rfl ?_
    refine jt ?_
    refine c_seq ?_
    refine c_reg ?_
    refine mv (.slice _ _ _) rfl ?_
    refine mv (.int _ _) rfl ?_
    refine ixs sx xs i hx rfl rfl rfl Tryd.underlying50 ty5.sz rfl (by first | omega | (simp; done) | (simp; omega) | (simp at *; omega)) ?_
    refine ldvsG 0 (List.getD xs i 0) hx rfl rfl rfl rfl (getD_some (by first | omega | (simp; done) | (simp; omega) | (simp at *; omega))) ty5 ?_
    refine cvI ((List.getD xs i 0).toNat : Int) rfl Tryd.underlying5 Tryd.underlying3 (wI64 (by have := UInt8.toNat_lt (List.getD xs i 0); omega)) ?_
    refine asg (.int _ _) rfl ?_
    refine jt ?_
    refine c_seq ?_
    refine c_reg ?_
    refine asg (.int _ _) rfl ?_
    refine jt ?_
    refine c_cut (σ := Int × Int × Int) (fun ⟨n, c, mn⟩ => Cls (xs.getD i 0).toNat n c mn) (fun ⟨n, c, mn⟩ => [(4, .int .i64 n), (5, .int .i64 c), (6, .int .i64 mn)]) (fun ⟨n, c, mn⟩ => []) (fun ⟨n, c, mn⟩ => [sx.seg xs]) [2, 4, 5, 6, 17, 18, 19, 20, 21, 22, 23, 24, 25, 26, 27, 28, 29, 30, 31, 32, 33, 34, 35, 36, 37, 38, 39, 40, 41, 42, 43, 44, 45, 46] ?_ ?_
    · refine c_block ?_
      refine c_seq ?_
      refine c_reg ?_
      refine mv (.int _ _) rfl ?_
      refine cmp _ rfl rfl rfl ?_
      refine asg (.bool _) rfl ?_
      refine jt ?_
      refine c_cond rfl (fun h2 => ?_) (fun h2 => ?_)
      · replace h2 := of_decide_eq_true h2
        refine c_skip ?_
        refine e_in ?_
        exact e_lp (1, ((List.getD xs i 0).toNat : Int), 0) (by repeat (first | exact out_self | refine out_hav (by kernel_rfl) ?_ | refine out_look (by kernel_rfl) ?_)) (by unfold Cls; omega) trivial (⟨rfl, rfl, rfl, trivial⟩) rfl rfl rfl
      · replace h2 := of_decide_eq_false h2
        refine c_seq ?_
        refine c_reg ?_
        refine mv (.int _ _) rfl ?_
        refine cmp _ rfl rfl rfl ?_
        refine mv (.bool _) rfl ?_
        refine jsplit 23 rfl (fun h3 => ?_) (fun h3 => ?_)
        · replace h3 := of_decide_eq_true h3
          refine g_on rfl rfl rfl ?_
          refine mv (.int _ _) rfl ?_
          refine g_on rfl rfl rfl ?_
          refine cmp _ rfl rfl rfl ?_
          refine pkt (.bool _) rfl rfl ?_
          refine asg (.bool _) rfl ?_
          refine jt ?_
          refine c_cond rfl (fun h4 => ?_) (fun h4 => ?_)
          · replace h4 := of_decide_eq_true h4
            refine c_reg ?_
            refine mv (.int _ _) rfl ?_
            refine subi rfl rfl rfl (by omega) ?_
            refine asg (.int _ _) rfl ?_
            refine asg (.int _ _) rfl ?_
            refine asg (.int _ _) rfl ?_
            refine jn ?_
            refine e_in ?_
            exact e_lp (2, ((List.getD xs i 0).toNat : Int) - 192, 128) (by repeat (first | exact out_self | refine out_hav (by kernel_rfl) ?_ | refine out_look (by kernel_rfl) ?_)) (by unfold Cls; omega) trivial (⟨rfl, rfl, rfl, trivial⟩) rfl rfl rfl
          · replace h4 := of_decide_eq_false h4
            refine c_seq ?_
            refine c_reg ?_
            refine mv (.int _ _) rfl ?_
            refine cmp _ rfl rfl rfl ?_
            refine mv (.bool _) rfl ?_
            refine jsplit 32 rfl (fun h5 => ?_) (fun h5 => ?_)
            · replace h5 := of_decide_eq_true h5
              refine g_on rfl rfl rfl ?_
              refine mv (.int _ _) rfl ?_
              refine g_on rfl rfl rfl ?_
              refine cmp _ rfl rfl rfl ?_
              refine pkt (.bool _) rfl rfl ?_
              refine asg (.bool _) rfl ?_
              refine jt ?_
              refine c_cond rfl (fun h6 => ?_) (fun h6 => ?_)
              · replace h6 := of_decide_eq_true h6
                refine c_reg ?_
                refine mv (.int _ _) rfl ?_
                refine subi rfl rfl rfl (by omega) ?_
                refine asg (.int _ _) rfl ?_
                refine asg (.int _ _) rfl ?_
                refine asg (.int _ _) rfl ?_
                refine jn ?_
                refine e_in ?_
                exact e_lp (3, ((List.getD xs i 0).toNat : Int) - 224, 2048) (by repeat (first | exact out_self | refine out_hav (by kernel_rfl) ?_ | refine out_look (by kernel_rfl) ?_)) (by unfold Cls; omega) trivial (⟨rfl, rfl, rfl, trivial⟩) rfl rfl rfl
              · replace h6 := of_decide_eq_false h6
                refine c_seq ?_
                refine c_reg ?_
                refine mv (.int _ _) rfl ?_
                refine cmp _ rfl rfl rfl ?_
                refine mv (.bool _) rfl ?_
                refine jsplit 41 rfl (fun h7 => ?_) (fun h7 => ?_)
                · replace h7 := of_decide_eq_true h7
                  refine g_on rfl rfl rfl ?_
                  refine mv (.int _ _) rfl ?_
                  refine g_on rfl rfl rfl ?_
                  refine cmp _ rfl rfl rfl ?_
                  refine pkt (.bool _) rfl rfl ?_
                  refine asg (.bool _) rfl ?_
                  refine jt ?_
                  refine c_cond rfl (fun h8 => ?_) (fun h8 => ?_)
                  · replace h8 := of_decide_eq_true h8
                    refine c_reg ?_
                    refine mv (.int _ _) rfl ?_
                    refine subi rfl rfl rfl (by omega) ?_
                    refine asg (.int _ _) rfl ?_
                    refine asg (.int _ _) rfl ?_
                    refine asg (.int _ _) rfl ?_
                    refine jn ?_
                    refine e_in ?_
                    exact e_lp (4, ((List.getD xs i 0).toNat : Int) - 240, 65536) (by repeat (first | exact out_self | refine out_hav (by kernel_rfl) ?_ | refine out_look (by kernel_rfl) ?_)) (by unfold Cls; omega) trivial (⟨rfl, rfl, rfl, trivial⟩) rfl rfl rfl
                  · replace h8 := of_decide_eq_false h8
                    refine c_seq ?_
                    refine c_reg ?_
                    refine asg (.bool _) rfl ?_
                    refine jt ?_
                    refine c_ret ?_
                    exact j_end (own0 := []) (ro0 := [sx.seg xs]) (.inl rfl) rfl (hr1 Tryd.results72 (rvt (v := (.bool _)) rfl)) [] [] [] [] [] _ rfl rfl (by kernel_rfl) rfl impl_nil (⟨(by first | exact txt_no hI1.2 (by omega) (txt_cont hC1 k (by omega) (by omega) (by omega)) | exact txt_no hI1.2 (by omega) (txt_wide hC1 hI2 (by assumption) (by omega)) | exact txt_no hI1.2 (by omega) (txt_short hC1 (by omega) (by omega)) | exact txt_no hI1.2 (by omega) (txt_head (by omega) (by omega)) | (rw [← hI1.2, u8ok_nil (by simp; omega)])), rfl, rfl⟩)
                · replace h7 := of_decide_eq_false h7
                  refine g_off rfl rfl rfl rfl ?_
                  refine g_off rfl rfl rfl rfl ?_
                  refine pkf (.bool _) rfl rfl ?_
                  refine asg (.bool _) rfl ?_
                  refine jt ?_
                  refine c_false rfl ?_
                  refine c_seq ?_
                  refine c_reg ?_
                  refine asg (.bool _) rfl ?_
                  refine jt ?_
                  refine c_ret ?_
                  exact j_end (own0 := []) (ro0 := [sx.seg xs]) (.inl rfl) rfl (hr1 Tryd.results72 (rvt (v := (.bool _)) rfl)) [] [] [] [] [] _ rfl rfl (by kernel_rfl) rfl impl_nil (⟨(by first | exact txt_no hI1.2 (by omega) (txt_cont hC1 k (by omega) (by omega) (by omega)) | exact txt_no hI1.2 (by omega) (txt_wide hC1 hI2 (by assumption) (by omega)) | exact txt_no hI1.2 (by omega) (txt_short hC1 (by omega) (by omega)) | exact txt_no hI1.2 (by omega) (txt_head (by omega) (by omega)) | (rw [← hI1.2, u8ok_nil (by simp; omega)])), rfl, rfl⟩)
            · replace h5 := of_decide_eq_false h5
              refine g_off rfl rfl rfl rfl ?_
              refine g_off rfl rfl rfl rfl ?_
              refine pkf (.bool _) rfl rfl ?_
              refine asg (.bool _) rfl ?_
              refine jt ?_
              refine c_false rfl ?_
              refine c_seq ?_
              refine c_reg ?_
              refine mv (.int _ _) rfl ?_
              refine cmp _ rfl rfl rfl ?_
              refine mv (.bool _) rfl ?_
              refine jsplit 41 rfl (fun h9 => ?_) (fun h9 => ?_)
              · replace h9 := of_decide_eq_true h9
                refine g_on rfl rfl rfl ?_
                refine mv (.int _ _) rfl ?_
                refine g_on rfl rfl rfl ?_
                refine cmp _ rfl rfl rfl ?_
                refine pkt (.bool _) rfl rfl ?_
                refine asg (.bool _) rfl ?_
                refine jt ?_
                refine c_cond rfl (fun h10 => ?_) (fun h10 => ?_)
                · replace h10 := of_decide_eq_true h10
                  refine c_reg ?_
                  refine mv (.int _ _) rfl ?_
                  refine subi rfl rfl rfl (by omega) ?_
                  refine asg (.int _ _) rfl ?_
                  refine asg (.int _ _) rfl ?_
                  refine asg (.int _ _) rfl ?_
                  refine jn ?_
                  refine e_in ?_
                  exact e_lp (4, ((List.getD xs i 0).toNat : Int) - 240, 65536) (by repeat (first | exact out_self | refine out_hav (by kernel_rfl) ?_ | refine out_look (by kernel_rfl) ?_)) (by unfold Cls; omega) trivial (⟨rfl, rfl, rfl, trivial⟩) rfl rfl rfl
                · replace h10 := of_decide_eq_false h10
                  refine c_seq ?_
                  refine c_reg ?_
                  refine asg (.bool _) rfl ?_
                  refine jt ?_
                  refine c_ret ?_
                  exact j_end (own0 := []) (ro0 := [sx.seg xs]) (.inl rfl) rfl (hr1 Tryd.results72 (rvt (v := (.bool _)) rfl)) [] [] [] [] [] _ rfl rfl (by kernel_rfl) rfl impl_nil (⟨(by first | exact txt_no hI1.2 (by omega) (txt_cont hC1 k (by omega) (by omega) (by omega)) | exact txt_no hI1.2 (by omega) (txt_wide hC1 hI2 (by assumption) (by omega)) | exact txt_no hI1.2 (by omega) (txt_short hC1 (by omega) (by omega)) | exact txt_no hI1.2 (by omega) (txt_head (by omega) (by omega)) | (rw [← hI1.2, u8ok_nil (by simp; omega)])), rfl, rfl⟩)
              · replace h9 := of_decide_eq_false h9
                refine g_off rfl rfl rfl rfl ?_
                refine g_off rfl rfl rfl rfl ?_
                refine pkf (.bool _) rfl rfl ?_
                refine asg (.bool _) rfl ?_
                refine jt ?_
                refine c_false rfl ?_
                refine c_seq ?_
                refine c_reg ?_
                refine asg (.bool _) rfl ?_
                refine jt ?_
                refine c_ret ?_
                exact j_end (own0 := []) (ro0 := [sx.seg xs]) (.inl rfl) rfl (hr1 Tryd.results72 (rvt (v := (.bool _)) rfl)) [] [] [] [] [] _ rfl rfl (by kernel_rfl) rfl impl_nil (⟨(by first | exact txt_no hI1.2 (by omega) (txt_cont hC1 k (by omega) (by omega) (by omega)) | exact txt_no hI1.2 (by omega) (txt_wide hC1 hI2 (by assumption) (by omega)) | exact txt_no hI1.2 (by omega) (txt_short hC1 (by omega) (by omega)) | exact txt_no hI1.2 (by omega) (txt_head (by omega) (by omega)) | (rw [← hI1.2, u8ok_nil (by simp; omega)])), rfl, rfl⟩)
        · replace h3 := of_decide_eq_false h3
          refine g_off rfl rfl rfl rfl ?_
          refine g_off rfl rfl rfl rfl ?_
          refine pkf (.bool _) rfl rfl ?_
          refine asg (.bool _) rfl ?_
          refine jt ?_
          refine c_false rfl ?_
          refine c_seq ?_
          refine c_reg ?_
          refine mv (.int _ _) rfl ?_
          refine cmp _ rfl rfl rfl ?_
          refine mv (.bool _) rfl ?_
          refine jsplit 32 rfl (fun h11 => ?_) (fun h11 => ?_)
          · replace h11 := of_decide_eq_true h11
            refine g_on rfl rfl rfl ?_
            refine mv (.int _ _) rfl ?_
            refine g_on rfl rfl rfl ?_
            refine cmp _ rfl rfl rfl ?_
            refine pkt (.bool _) rfl rfl ?_
            refine asg (.bool _) rfl ?_
            refine jt ?_
            refine c_cond rfl (fun h12 => ?_) (fun h12 => ?_)
            · replace h12 := of_decide_eq_true h12
              refine c_reg ?_
              refine mv (.int _ _) rfl ?_
              refine subi rfl rfl rfl (by omega) ?_
              refine asg (.int _ _) rfl ?_
              refine asg (.int _ _) rfl ?_
              refine asg (.int _ _) rfl ?_
              refine jn ?_
              refine e_in ?_
              exact e_lp (3, ((List.getD xs i 0).toNat : Int) - 224, 2048) (by repeat (first | exact out_self | refine out_hav (by kernel_rfl) ?_ | refine out_look (by kernel_rfl) ?_)) (by unfold Cls; omega) trivial (⟨rfl, rfl, rfl, trivial⟩) rfl rfl rfl
            · replace h12 := of_decide_eq_false h12
              refine c_seq ?_
              refine c_reg ?_
              refine mv (.int _ _) rfl ?_
              refine cmp _ rfl rfl rfl ?_
              refine mv (.bool _) rfl ?_
              refine jsplit 41 rfl (fun h13 => ?_) (fun h13 => ?_)
              · replace h13 := of_decide_eq_true h13
                refine g_on rfl rfl rfl ?_
                refine mv (.int _ _) rfl ?_
                refine g_on rfl rfl rfl ?_
                refine cmp _ rfl rfl rfl ?_
                refine pkt (.bool _) rfl rfl ?_
                refine asg (.bool _) rfl ?_
                refine jt ?_
                refine c_cond rfl (fun h14 => ?_) (fun h14 => ?_)
                · replace h14 := of_decide_eq_true h14
                  refine c_reg ?_
                  refine mv (.int _ _) rfl ?_
                  refine subi rfl rfl rfl (by omega) ?_
                  refine asg (.int _ _) rfl ?_
                  refine asg (.int _ _) rfl ?_
                  refine asg (.int _ _) rfl ?_
                  refine jn ?_
                  refine e_in ?_
                  exact e_lp (4, ((List.getD xs i 0).toNat : Int) - 240, 65536) (by repeat (first | exact out_self | refine out_hav (by kernel_rfl) ?_ | refine out_look (by kernel_rfl) ?_)) (by unfold Cls; omega) trivial (⟨rfl, rfl, rfl, trivial⟩) rfl rfl rfl
                · replace h14 := of_decide_eq_false h14
                  refine c_seq ?_
                  refine c_reg ?_
                  refine asg (.bool _) rfl ?_
                  refine jt ?_
                  refine c_ret ?_
                  exact j_end (own0 := []) (ro0 := [sx.seg xs]) (.inl rfl) rfl (hr1 Tryd.results72 (rvt (v := (.bool _)) rfl)) [] [] [] [] [] _ rfl rfl (by kernel_rfl) rfl impl_nil (⟨(by first | exact txt_no hI1.2 (by omega) (txt_cont hC1 k (by omega) (by omega) (by omega)) | exact txt_no hI1.2 (by omega) (txt_wide hC1 hI2 (by assumption) (by omega)) | exact txt_no hI1.2 (by omega) (txt_short hC1 (by omega) (by omega)) | exact txt_no hI1.2 (by omega) (txt_head (by omega) (by omega)) | (rw [← hI1.2, u8ok_nil (by simp; omega)])), rfl, rfl⟩)
              · replace h13 := of_decide_eq_false h13
                refine g_off rfl rfl rfl rfl ?_
                refine g_off rfl rfl rfl rfl ?_
                refine pkf (.bool _) rfl rfl ?_
                refine asg (.bool _) rfl ?_
                refine jt ?_
                refine c_false rfl ?_
                refine c_seq ?_
                refine c_reg ?_
                refine asg (.bool _) rfl ?_
                refine jt ?_
                refine c_ret ?_
                exact j_end (own0 := []) (ro0 := [sx.seg xs]) (.inl rfl) rfl (hr1 Tryd.results72 (rvt (v := (.bool _)) rfl)) [] [] [] [] [] _ rfl rfl (by kernel_rfl) rfl impl_nil (⟨(by first | exact txt_no hI1.2 (by omega) (txt_cont hC1 k (by omega) (by omega) (by omega)) | exact txt_no hI1.2 (by omega) (txt_wide hC1 hI2 (by assumption) (by omega)) | exact txt_no hI1.2 (by omega) (txt_short hC1 (by omega) (by omega)) | exact txt_no hI1.2 (by omega) (txt_head (by omega) (by omega)) | (rw [← hI1.2, u8ok_nil (by simp; omega)])), rfl, rfl⟩)
          · replace h11 := of_decide_eq_false h11
            refine g_off rfl rfl rfl rfl ?_
            refine g_off rfl rfl rfl rfl ?_
            refine pkf (.bool _) rfl rfl ?_
            refine asg (.bool _) rfl ?_
            refine jt ?_
            refine c_false rfl ?_
            refine c_seq ?_
            refine c_reg ?_
            refine mv (.int _ _) rfl ?_
            refine cmp _ rfl rfl rfl ?_
            refine mv (.bool _) rfl ?_
            refine jsplit 41 rfl (fun h15 => ?_) (fun h15 => ?_)
            · replace h15 := of_decide_eq_true h15
              refine g_on rfl rfl rfl ?_
              refine mv (.int _ _) rfl ?_
              refine g_on rfl rfl rfl ?_
              refine cmp _ rfl rfl rfl ?_
              refine pkt (.bool _) rfl rfl ?_
              refine asg (.bool _) rfl ?_
              refine jt ?_
              refine c_cond rfl (fun h16 => ?_) (fun h16 => ?_)
              · replace h16 := of_decide_eq_true h16
                refine c_reg ?_
                refine mv (.int _ _) rfl ?_
                refine subi rfl rfl rfl (by omega) ?_
                refine asg (.int _ _) rfl ?_
                refine asg (.int _ _) rfl ?_
                refine asg (.int _ _) rfl ?_
                refine jn ?_
                refine e_in ?_
                exact e_lp (4, ((List.getD xs i 0).toNat : Int) - 240, 65536) (by repeat (first | exact out_self | refine out_hav (by kernel_rfl) ?_ | refine out_look (by kernel_rfl) ?_)) (by unfold Cls; omega) trivial (⟨rfl, rfl, rfl, trivial⟩) rfl rfl rfl
              · replace h16 := of_decide_eq_false h16
                refine c_seq ?_
                refine c_reg ?_
                refine asg (.bool _) rfl ?_
                refine jt ?_
                refine c_ret ?_
                exact j_end (own0 := []) (ro0 := [sx.seg xs]) (.inl rfl) rfl (hr1 Tryd.results72 (rvt (v := (.bool _)) rfl)) [] [] [] [] [] _ rfl rfl (by kernel_rfl) rfl impl_nil (⟨(by first | exact txt_no hI1.2 (by omega) (txt_cont hC1 k (by omega) (by omega) (by omega)) | exact txt_no hI1.2 (by omega) (txt_wide hC1 hI2 (by assumption) (by omega)) | exact txt_no hI1.2 (by omega) (txt_short hC1 (by omega) (by omega)) | exact txt_no hI1.2 (by omega) (txt_head (by omega) (by omega)) | (rw [← hI1.2, u8ok_nil (by simp; omega)])), rfl, rfl⟩)
            · replace h15 := of_decide_eq_false h15
              refine g_off rfl rfl rfl rfl ?_
              refine g_off rfl rfl rfl rfl ?_
              refine pkf (.bool _) rfl rfl ?_
              refine asg (.bool _) rfl ?_
              refine jt ?_
              refine c_false rfl ?_
              refine c_seq ?_
              refine c_reg ?_
              refine asg (.bool _) rfl ?_
              refine jt ?_
              refine c_ret ?_
              exact j_end (own0 := []) (ro0 := [sx.seg xs]) (.inl rfl) rfl (hr1 Tryd.results72 (rvt (v := (.bool _)) rfl)) [] [] [] [] [] _ rfl rfl (by kernel_rfl) rfl impl_nil (⟨(by first | exact txt_no hI1.2 (by omega) (txt_cont hC1 k (by omega) (by omega) (by omega)) | exact txt_no hI1.2 (by omega) (txt_wide hC1 hI2 (by assumption) (by omega)) | exact txt_no hI1.2 (by omega) (txt_short hC1 (by omega) (by omega)) | exact txt_no hI1.2 (by omega) (txt_head (by omega) (by omega)) | (rw [← hI1.2, u8ok_nil (by simp; omega)])), rfl, rfl⟩)
    · rintro ⟨n, c, mn⟩ g hC1
      try dsimp only at hC1 ⊢
      have hCb := hC1
      unfold Cls at hCb
      have hn : 1 ≤ n ∧ n ≤ 4 := by omega
      clear hCb
      refine c_seq ?_
      refine c_seq ?_
      refine c_reg ?_
      refine mv (.int _ _) rfl ?_
      refine mv (.int _ _) rfl ?_
      refine addi rfl rfl rfl (by omega) ?_
      refine mv (.slice _ _ _) rfl ?_
      refine lenS rfl Tryd.underlying50 ?_
      refine cmp _ rfl rfl rfl ?_
      refine jt ?_
      refine c_cond rfl (fun h17 => ?_) (fun h17 => ?_)
      · replace h17 := of_decide_eq_true h17
        refine c_seq ?_
        refine c_reg ?_
        refine asg (.bool _) rfl ?_
        refine jt ?_
        refine c_ret ?_
        exact j_end (own0 := []) (ro0 := [sx.seg xs]) (.inl rfl) rfl (hr1 Tryd.results72 (rvt (v := (.bool _)) rfl)) [] [] [] [] [] _ rfl rfl (by kernel_rfl) rfl impl_nil (⟨(by first | exact txt_no hI1.2 (by omega) (txt_cont hC1 k (by omega) (by omega) (by omega)) | exact txt_no hI1.2 (by omega) (txt_wide hC1 hI2 (by assumption) (by omega)) | exact txt_no hI1.2 (by omega) (txt_short hC1 (by omega) (by omega)) | exact txt_no hI1.2 (by omega) (txt_head (by omega) (by omega)) | (rw [← hI1.2, u8ok_nil (by simp; omega)])), rfl, rfl⟩)
      · replace h17 := of_decide_eq_false h17
        refine c_skip ?_
        refine e_then ?_
        refine c_seq ?_
        refine c_seq ?_
        refine c_reg ?_
        refine asg (.int _ _) rfl ?_
        refine jt ?_
        refine c_block ?_
        refine c_loop (σ := Nat × Int) (fun ⟨k, v⟩ => TxtI xs i n c k v) (fun ⟨k, v⟩ => (n - (k : Int)).toNat) (fun ⟨k, v⟩ => [(7, .int .i64 (k : Int)), (5, .int .i64 v)]) (fun ⟨k, v⟩ => []) (fun ⟨k, v⟩ => [sx.seg xs]) [2, 5, 7, 53, 54, 55, 56, 57, 58, 59, 60, 61, 62, 63, 64, 65, 66, 67, 68, 69, 70, 71, 72, 73, 74, 75, 76, 77, 78, 79, 80, 81, 82, 83, 84] (1, c) (TxtI.start hC1) ⟨rfl, rfl, trivial⟩ rfl rfl ?_
        rintro ⟨k, v⟩ g2 hI2
        try dsimp only at hI2 ⊢
        obtain ⟨k1, k2, -, -, v0, vb1, vb2, vb3, vb4⟩ := id hI2
        refine c_seq ?_
        refine c_seq ?_
        refine c_reg ?_
        refine mv (.int _ _) rfl ?_
        refine mv (.int _ _) rfl ?_
        refine cmp _ rfl rfl rfl ?_
        refine jt ?_
        refine c_cond rfl (fun h18 => ?_) (fun h18 => ?_)
        · replace h18 := of_decide_eq_true h18
          refine c_skip ?_
          refine e_then ?_
          refine c_seq ?_
          refine c_block ?_
          refine c_seq ?_
          refine c_seq ?_
          refine c_reg ?_
          refine mv (.slice _ _ _) rfl ?_
          refine mv (.int _ _) rfl ?_
          refine mv (.int _ _) rfl ?_
          refine addi rfl rfl rfl (by omega) ?_
          refine ixs sx xs (i + k) hx rfl rfl rfl Tryd.underlying50 ty5.sz (by omega) (by omega) ?_
          refine ldvsG 0 (List.getD xs (i + k) 0) hx rfl rfl rfl rfl (getD_some (by first | omega | (simp; done) | (simp; omega) | (simp at *; omega))) ty5 ?_
          refine cmp _ rfl rfl rfl ?_
          refine mv (.bool _) rfl ?_
          refine jsplit 65 rfl (fun h19 => ?_) (fun h19 => ?_)
          · replace h19 := of_decide_eq_true h19
            refine g_off rfl rfl rfl rfl ?_
            refine g_off rfl rfl rfl rfl ?_
            refine g_off rfl rfl rfl rfl ?_
            refine g_off rfl rfl rfl rfl ?_
            refine g_off rfl rfl rfl rfl ?_
            refine g_off rfl rfl rfl rfl ?_
            refine g_off rfl rfl rfl rfl ?_
            refine pkt (.bool _) rfl rfl ?_
            refine jt ?_
            refine c_true rfl ?_
            refine c_seq ?_
            refine c_reg ?_
            refine asg (.bool _) rfl ?_
            refine jt ?_
            refine c_ret ?_
            exact j_end (own0 := []) (ro0 := [sx.seg xs]) (.inl rfl) rfl (hr1 Tryd.results72 (rvt (v := (.bool _)) rfl)) [] [] [] [] [] _ rfl rfl (by kernel_rfl) rfl impl_nil (⟨(by first | exact txt_no hI1.2 (by omega) (txt_cont hC1 k (by omega) (by omega) (by omega)) | exact txt_no hI1.2 (by omega) (txt_wide hC1 hI2 (by assumption) (by omega)) | exact txt_no hI1.2 (by omega) (txt_short hC1 (by omega) (by omega)) | exact txt_no hI1.2 (by omega) (txt_head (by omega) (by omega)) | (rw [← hI1.2, u8ok_nil (by simp; omega)])), rfl, rfl⟩)
          · replace h19 := of_decide_eq_false h19
            refine g_on rfl rfl rfl ?_
            refine mv (.slice _ _ _) rfl ?_
            refine g_on rfl rfl rfl ?_
            refine mv (.int _ _) rfl ?_
            refine g_on rfl rfl rfl ?_
            refine mv (.int _ _) rfl ?_
            refine g_on rfl rfl rfl ?_
            refine addi rfl rfl rfl (by omega) ?_
            refine g_on rfl rfl rfl ?_
            refine ixs sx xs (i + k) hx rfl rfl rfl Tryd.underlying50 ty5.sz (by omega) (by omega) ?_
            refine g_on rfl rfl rfl ?_
            refine ldvsG 0 (List.getD xs (i + k) 0) hx rfl rfl rfl rfl (getD_some (by first | omega | (simp; done) | (simp; omega) | (simp at *; omega))) ty5 ?_
            refine g_on rfl rfl rfl ?_
            refine cmp _ rfl rfl rfl ?_
            refine pkf (.bool _) rfl rfl ?_
            refine jt ?_
            refine c_cond rfl (fun h20 => ?_) (fun h20 => ?_)
            · replace h20 := of_decide_eq_true h20
              refine c_seq ?_
              refine c_reg ?_
              refine asg (.bool _) rfl ?_
              refine jt ?_
              refine c_ret ?_
              exact j_end (own0 := []) (ro0 := [sx.seg xs]) (.inl rfl) rfl (hr1 Tryd.results72 (rvt (v := (.bool _)) rfl)) [] [] [] [] [] _ rfl rfl (by kernel_rfl) rfl impl_nil (⟨(by first | exact txt_no hI1.2 (by omega) (txt_cont hC1 k (by omega) (by omega) (by omega)) | exact txt_no hI1.2 (by omega) (txt_wide hC1 hI2 (by assumption) (by omega)) | exact txt_no hI1.2 (by omega) (txt_short hC1 (by omega) (by omega)) | exact txt_no hI1.2 (by omega) (txt_head (by omega) (by omega)) | (rw [← hI1.2, u8ok_nil (by simp; omega)])), rfl, rfl⟩)
            · replace h20 := of_decide_eq_false h20
              refine c_skip ?_
              refine e_then ?_
              refine c_reg ?_
              refine mv (.int _ _) rfl ?_
              refine muli rfl rfl rfl (by omega) ?_
              refine mv (.slice _ _ _) rfl ?_
              refine mv (.int _ _) rfl ?_
              refine mv (.int _ _) rfl ?_
              refine addi rfl rfl rfl (by omega) ?_
              refine ixs sx xs (i + k) hx rfl rfl rfl Tryd.underlying50 ty5.sz (by omega) (by omega) ?_
              refine ldvsG 0 (List.getD xs (i + k) 0) hx rfl rfl rfl rfl (getD_some (by first | omega | (simp; done) | (simp; omega) | (simp at *; omega))) ty5 ?_
              refine subU8 (a := (List.getD xs (i + k) 0)) (b := (128 : UInt8)) rfl rfl ?_
              refine cvI (((List.getD xs (i + k) 0) - (128 : UInt8)).toNat : Int) rfl Tryd.underlying5 Tryd.underlying3 (wI64 (by have := UInt8.toNat_lt ((List.getD xs (i + k) 0) - (128 : UInt8)); omega)) ?_
              have hlt8 := UInt8.toNat_lt (List.getD xs (i + k) 0 - 128)
              refine addi rfl rfl rfl (by omega) ?_
              refine asg (.int _ _) rfl ?_
              refine jn ?_
              refine e_in ?_
              refine e_then ?_
              refine c_reg ?_
              refine mv (.int _ _) rfl ?_
              refine addi rfl rfl rfl (by omega) ?_
              refine asg (.int _ _) rfl ?_
              refine jn ?_
              exact e_lp (k + 1, v * 64 + ((xs.getD (i + k) 0 - 128).toNat : Int)) (by repeat (first | exact out_self | refine out_hav (by kernel_rfl) ?_ | refine out_look (by kernel_rfl) ?_)) (TxtI.next hC1 hI2 (by omega) (by omega) (by omega)) (by (try dsimp only); omega) (⟨rfl, rfl, trivial⟩) rfl rfl rfl
        · replace h18 := of_decide_eq_false h18
          refine c_exit rfl ?_
          refine e_then ?_
          refine c_seq ?_
          refine c_seq ?_
          refine c_reg ?_
          refine mv (.int _ _) rfl ?_
          refine mv (.int _ _) rfl ?_
          refine cmp _ rfl rfl rfl ?_
          refine mv (.bool _) rfl ?_
          refine jsplit 88 rfl (fun h21 => ?_) (fun h21 => ?_)
          · replace h21 := of_decide_eq_true h21
            refine g_off rfl rfl rfl rfl ?_
            refine g_off rfl rfl rfl rfl ?_
            refine pkt (.bool _) rfl rfl ?_
            refine mv (.bool _) rfl ?_
            refine g_off rfl rfl rfl rfl ?_
            refine g_off rfl rfl rfl rfl ?_
            refine g_off rfl rfl rfl rfl ?_
            refine g_und rfl rfl rfl ?_
            refine g_und rfl rfl rfl ?_
            refine g_off rfl rfl rfl rfl ?_
            refine pkt (.bool _) rfl rfl ?_
            refine jt ?_
            refine c_true rfl ?_
            refine c_seq ?_
            refine c_reg ?_
            refine asg (.bool _) rfl ?_
            refine jt ?_
            refine c_ret ?_
            exact j_end (own0 := []) (ro0 := [sx.seg xs]) (.inl rfl) rfl (hr1 Tryd.results72 (rvt (v := (.bool _)) rfl)) [] [] [] [] [] _ rfl rfl (by kernel_rfl) rfl impl_nil (⟨(by first | exact txt_no hI1.2 (by omega) (txt_cont hC1 k (by omega) (by omega) (by omega)) | exact txt_no hI1.2 (by omega) (txt_wide hC1 hI2 (by assumption) (by omega)) | exact txt_no hI1.2 (by omega) (txt_short hC1 (by omega) (by omega)) | exact txt_no hI1.2 (by omega) (txt_head (by omega) (by omega)) | (rw [← hI1.2, u8ok_nil (by simp; omega)])), rfl, rfl⟩)
          · replace h21 := of_decide_eq_false h21
            refine g_on rfl rfl rfl ?_
            refine mv (.int _ _) rfl ?_
            refine g_on rfl rfl rfl ?_
            refine cmp _ rfl rfl rfl ?_
            refine pkf (.bool _) rfl rfl ?_
            refine mv (.bool _) rfl ?_
            refine jsplit 92 rfl (fun h22 => ?_) (fun h22 => ?_)
            · replace h22 := of_decide_eq_true h22
              refine g_off rfl rfl rfl rfl ?_
              refine g_off rfl rfl rfl rfl ?_
              refine g_off rfl rfl rfl rfl ?_
              refine g_und rfl rfl rfl ?_
              refine g_und rfl rfl rfl ?_
              refine g_off rfl rfl rfl rfl ?_
              refine pkt (.bool _) rfl rfl ?_
              refine jt ?_
              refine c_true rfl ?_
              refine c_seq ?_
              refine c_reg ?_
              refine asg (.bool _) rfl ?_
              refine jt ?_
              refine c_ret ?_
              exact j_end (own0 := []) (ro0 := [sx.seg xs]) (.inl rfl) rfl (hr1 Tryd.results72 (rvt (v := (.bool _)) rfl)) [] [] [] [] [] _ rfl rfl (by kernel_rfl) rfl impl_nil (⟨(by first | exact txt_no hI1.2 (by omega) (txt_cont hC1 k (by omega) (by omega) (by omega)) | exact txt_no hI1.2 (by omega) (txt_wide hC1 hI2 (by assumption) (by omega)) | exact txt_no hI1.2 (by omega) (txt_short hC1 (by omega) (by omega)) | exact txt_no hI1.2 (by omega) (txt_head (by omega) (by omega)) | (rw [← hI1.2, u8ok_nil (by simp; omega)])), rfl, rfl⟩)
            · replace h22 := of_decide_eq_false h22
              refine g_on rfl rfl rfl ?_
              refine mv (.int _ _) rfl ?_
              refine g_on rfl rfl rfl ?_
              refine cmp _ rfl rfl rfl ?_
              refine g_on rfl rfl rfl ?_
              refine mv (.bool _) rfl ?_
              refine jsplit 95 rfl (fun h23 => ?_) (fun h23 => ?_)
              · replace h23 := of_decide_eq_true h23
                refine g_on rfl rfl rfl ?_
                refine mv (.int _ _) rfl ?_
                refine g_on rfl rfl rfl ?_
                refine cmp _ rfl rfl rfl ?_
                refine g_on rfl rfl rfl ?_
                refine pkt (.bool _) rfl rfl ?_
                refine pkf (.bool _) rfl rfl ?_
                refine jt ?_
                refine c_cond rfl (fun h24 => ?_) (fun h24 => ?_)
                · replace h24 := of_decide_eq_true h24
                  refine c_seq ?_
                  refine c_reg ?_
                  refine asg (.bool _) rfl ?_
                  refine jt ?_
                  refine c_ret ?_
                  exact j_end (own0 := []) (ro0 := [sx.seg xs]) (.inl rfl) rfl (hr1 Tryd.results72 (rvt (v := (.bool _)) rfl)) [] [] [] [] [] _ rfl rfl (by kernel_rfl) rfl impl_nil (⟨(by first | exact txt_no hI1.2 (by omega) (txt_cont hC1 k (by omega) (by omega) (by omega)) | exact txt_no hI1.2 (by omega) (txt_wide hC1 hI2 (by assumption) (by omega)) | exact txt_no hI1.2 (by omega) (txt_short hC1 (by omega) (by omega)) | exact txt_no hI1.2 (by omega) (txt_head (by omega) (by omega)) | (rw [← hI1.2, u8ok_nil (by simp; omega)])), rfl, rfl⟩)
                · replace h24 := of_decide_eq_false h24
                  refine c_skip ?_
                  refine e_then ?_
                  refine c_reg ?_
                  refine mv (.int _ _) rfl ?_
                  refine mv (.int _ _) rfl ?_
                  refine addi rfl rfl rfl (by omega) ?_
                  refine asg (.int _ _) rfl ?_
                  refine jn ?_
                  refine e_in ?_
                  exact e_lp (((i : Int) + n).toNat) (by repeat (first | exact out_self | refine out_hav (by kernel_rfl) ?_ | refine out_look (by kernel_rfl) ?_)) (⟨by omega, txt_on hI1.2 (by omega) (txt_good hC1 hI2 (by assumption) (by omega) (by omega) (by omega)) (by omega) (by omega)⟩) (by (try dsimp only); omega) (⟨congrArg (Value.int .i64) (show (i : Int) + n = (((i : Int) + n).toNat : Int) by omega), trivial⟩) rfl rfl rfl
              · replace h23 := of_decide_eq_false h23
                refine g_off rfl rfl rfl rfl ?_
                refine g_off rfl rfl rfl rfl ?_
                refine g_on rfl rfl rfl ?_
                refine pkf (.bool _) rfl rfl ?_
                refine pkf (.bool _) rfl rfl ?_
                refine jt ?_
                refine c_false rfl ?_
                refine c_skip ?_
                refine e_then ?_
                refine c_reg ?_
                refine mv (.int _ _) rfl ?_
                refine mv (.int _ _) rfl ?_
                refine addi rfl rfl rfl (by omega) ?_
                refine asg (.int _ _) rfl ?_
                refine jn ?_
                refine e_in ?_
                exact e_lp (((i : Int) + n).toNat) (by repeat (first | exact out_self | refine out_hav (by kernel_rfl) ?_ | refine out_look (by kernel_rfl) ?_)) (⟨by omega, txt_on hI1.2 (by omega) (txt_good hC1 hI2 (by assumption) (by omega) (by omega) (by omega)) (by omega) (by omega)⟩) (by (try dsimp only); omega) (⟨congrArg (Value.int .i64) (show (i : Int) + n = (((i : Int) + n).toNat : Int) by omega), trivial⟩) rfl rfl rfl
  · replace h1 := of_decide_eq_false h1
    refine c_exit rfl ?_
    refine e_then ?_
    refine c_seq ?_
    refine c_reg ?_
    refine asg (.bool _) rfl ?_
    refine jt ?_
    refine c_ret ?_
    exact j_end (own0 := []) (ro0 := [sx.seg xs]) (.inl rfl) rfl (hr1 Tryd.results72 (rvt (v := (.bool _)) rfl)) [] [] [] [] [] _ rfl rfl (by kernel_rfl) rfl impl_nil (⟨(by first | exact txt_no hI1.2 (by omega) (txt_cont hC1 k (by omega) (by omega) (by omega)) | exact txt_no hI1.2 (by omega) (txt_wide hC1 hI2 (by assumption) (by omega)) | exact txt_no hI1.2 (by omega) (txt_short hC1 (by omega) (by omega)) | exact txt_no hI1.2 (by omega) (txt_head (by omega) (by omega)) | (rw [← hI1.2, u8ok_nil (by simp; omega)])), rfl, rfl⟩)
end Go.Proofs.YthpbiamicidakaaDoor
