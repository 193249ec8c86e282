/- Laws of an engine and of the program's functions, gathered. No condition. -/
import Derived.Test.YthpbiamicidakaaDoorQ1
import Derived.Laws.IdiomStrings
import Derived.Lib.Builder
import Derived.Lib.UnsafeStr
import Derived.Lib.DecodeN
namespace Go.Proofs.YthpbiamicidakaaDoor
open Go Go.Proofs Go.PW
open Go.PW.Enc (enc val)
set_option maxRecDepth 20000 in
set_option maxHeartbeats 4000000 in
theorem Text_ct (sx : Vs) (xs : Str) (hx : sx.ok xs) (hb : xs.length ≤ 4611686018427387904) : Ct Tryd.prog 72 [.slice sx.adr xs.length sx.cap] [] [sx.seg xs] (fun v o r => v = .bool (u8ok xs) ∧ o = [] ∧ r = []) := by
  refine ct_enter Tryd.func72 rfl Tryd.ntmps72 (by kernel_rfl) rfl fun w0 => ?_
  refine c_seq ?_
  refine c_reg ?_
  refine asg (.bool _) rfl ?_
  refine jt ?_
  refine c_seq ?_
  refine c_seq ?_
  refine c_reg ?_
  refine asg (.int _ _) rfl ?_
  refine jt ?_
  refine c_block ?_
  refine c_loop (σ := Nat) (fun i => i ≤ xs.length ∧ u8ok (xs.drop i) = u8ok xs) (fun i => xs.length - i) (fun i => [(3, .int .i64 (i : Int))]) (fun i => []) (fun i => [sx.seg xs]) [2, 3, 4, 5, 6, 7, 8, 9, 10, 11, 12, 13, 14, 15, 16, 17, 18, 19, 20, 21, 22, 23, 24, 25, 26, 27, 28, 29, 30, 31, 32, 33, 34, 35, 36, 37, 38, 39, 40, 41, 42, 43, 44, 45, 46, 47, 48, 49, 50, 51, 52, 53, 54, 55, 56, 57, 58, 59, 60, 61, 62, 63, 64, 65, 66, 67, 68, 69, 70, 71, 72, 73, 74, 75, 76, 77, 78, 79, 80, 81, 82, 83, 84, 85, 86, 87, 88, 89, 90, 91, 92, 93, 94, 95, 96, 97, 98, 99, 100, 101, 102] 0 (⟨by omega, rfl⟩) ⟨rfl, trivial⟩ rfl rfl ?_
  rintro i g1 hI1
  try dsimp only at hI1 ⊢
  refine c_seq ?_
  refine c_seq ?_
  refine c_reg ?_
  refine mv (.int _ _) rfl ?_
  refine mv (.slice _ _ _) rfl ?_
  refine lenS rfl Tryd.underlying50 ?_
  refine cmp _ rfl rfl rfl ?_
  refine jt ?_
  refine c_cond rfl (fun h1 => ?_) (fun h1 => ?_)
  · replace h1 := of_decide_eq_true h1
    refine c_skip ?_
    refine e_then ?_
    refine c_block ?_
    refine c_seq ?_
    refine c_reg ?_
    refine asg (.int _ _) rfl ?_
    refine jt ?_
    refine c_seq ?_
    refine c_reg ?_
    refine mv (.slice _ _ _) rfl ?_
    refine mv (.int _ _) rfl ?_
    refine ixs sx xs i hx rfl rfl rfl Tryd.underlying50 ty5.sz rfl (by first | omega | (simp; done) | (simp; omega) | (simp at *; omega)) ?_
    refine ldvsG 0 (List.getD xs i 0) hx rfl rfl rfl rfl (getD_some (by first | omega | (simp; done) | (simp; omega) | (simp at *; omega))) ty5 ?_
    refine cvI ((List.getD xs i 0).toNat : Int) rfl Tryd.underlying5 Tryd.underlying3 (wI64 (by have := UInt8.toNat_lt (List.getD xs i 0); omega)) ?_
    refine asg (.int _ _) rfl ?_
    refine jt ?_
    refine c_seq ?_
    refine c_reg ?_
    refine asg (.int _ _) rfl ?_
    refine jt ?_
    refine c_cut (σ := Int × Int × Int) (fun ⟨n, c, mn⟩ => Cls (xs.getD i 0).toNat n c mn) (fun ⟨n, c, mn⟩ => [(4, .int .i64 n), (5, .int .i64 c), (6, .int .i64 mn)]) (fun ⟨n, c, mn⟩ => []) (fun ⟨n, c, mn⟩ => [sx.seg xs]) [2, 4, 5, 6, 17, 18, 19, 20, 21, 22, 23, 24, 25, 26, 27, 28, 29, 30, 31, 32, 33, 34, 35, 36, 37, 38, 39, 40, 41, 42, 43, 44, 45, 46] ?_ ?_
    · refine c_block ?_
      refine c_seq ?_
      refine c_reg ?_
      refine mv (.int _ _) rfl ?_
      refine cmp _ rfl rfl rfl ?_
      refine asg (.bool _) rfl ?_
      refine jt ?_
      refine c_cond rfl (fun h2 => ?_) (fun h2 => ?_)
      · replace h2 := of_decide_eq_true h2
        refine c_skip ?_
        refine e_in ?_
        exact e_lp (1, ((List.getD xs i 0).toNat : Int), 0) (by repeat (first | exact out_self | refine out_hav (by kernel_rfl) ?_ | refine out_look (by kernel_rfl) ?_)) (by unfold Cls; omega) trivial (⟨rfl, rfl, rfl, trivial⟩) rfl rfl rfl
      · replace h2 := of_decide_eq_false h2
        refine c_seq ?_
        refine c_reg ?_
        refine mv (.int _ _) rfl ?_
        refine cmp _ rfl rfl rfl ?_
        refine mv (.bool _) rfl ?_
        refine jsplit 23 rfl (fun h3 => ?_) (fun h3 => ?_)
        · replace h3 := of_decide_eq_true h3
          refine g_on rfl rfl rfl ?_
          refine mv (.int _ _) rfl ?_
          refine g_on rfl rfl rfl ?_
          refine cmp _ rfl rfl rfl ?_
          refine pkt (.bool _) rfl rfl ?_
          refine asg (.bool _) rfl ?_
          refine jt ?_
          refine c_cond rfl (fun h4 => ?_) (fun h4 => ?_)
          · replace h4 := of_decide_eq_true h4
            refine c_reg ?_
            refine mv (.int _ _) rfl ?_
            refine subi rfl rfl rfl (by omega) ?_
            refine asg (.int _ _) rfl ?_
            refine asg (.int _ _) rfl ?_
            refine asg (.int _ _) rfl ?_
            refine jn ?_
            refine e_in ?_
            exact e_lp (2, ((List.getD xs i 0).toNat : Int) - 192, 128) (by repeat (first | exact out_self | refine out_hav (by kernel_rfl) ?_ | refine out_look (by kernel_rfl) ?_)) (by unfold Cls; omega) trivial (⟨rfl, rfl, rfl, trivial⟩) rfl rfl rfl
          · replace h4 := of_decide_eq_false h4
            refine c_seq ?_
            refine c_reg ?_
            refine mv (.int _ _) rfl ?_
            refine cmp _ rfl rfl rfl ?_
            refine mv (.bool _) rfl ?_
            refine jsplit 32 rfl (fun h5 => ?_) (fun h5 => ?_)
            · replace h5 := of_decide_eq_true h5
              refine g_on rfl rfl rfl ?_
              refine mv (.int _ _) rfl ?_
              refine g_on rfl rfl rfl ?_
              refine cmp _ rfl rfl rfl ?_
              refine pkt (.bool _) rfl rfl ?_
              refine asg (.bool _) rfl ?_
              refine jt ?_
              refine c_cond rfl (fun h6 => ?_) (fun h6 => ?_)
              · replace h6 := of_decide_eq_true h6
                refine c_reg ?_
                refine mv (.int _ _) rfl ?_
                refine subi rfl rfl rfl (by omega) ?_
                refine asg (.int _ _) rfl ?_
                refine asg (.int _ _) rfl ?_
                refine asg (.int _ _) rfl ?_
                refine jn ?_
                refine e_in ?_
                exact e_lp (3, ((List.getD xs i 0).toNat : Int) - 224, 2048) (by repeat (first | exact out_self | refine out_hav (by kernel_rfl) ?_ | refine out_look (by kernel_rfl) ?_)) (by unfold Cls; omega) trivial (⟨rfl, rfl, rfl, trivial⟩) rfl rfl rfl
              · replace h6 := of_decide_eq_false h6
                refine c_seq ?_
                refine c_reg ?_
                refine mv (.int _ _) rfl ?_
                refine cmp _ rfl rfl rfl ?_
                refine mv (.bool _) rfl ?_
                refine jsplit 41 rfl (fun h7 => ?_) (fun h7 => ?_)
                · replace h7 := of_decide_eq_true h7
                  refine g_on rfl rfl rfl ?_
                  refine mv (.int _ _) rfl ?_
                  refine g_on rfl rfl rfl ?_
                  refine cmp _ rfl rfl rfl ?_
                  refine pkt (.bool _) rfl rfl ?_
                  refine asg (.bool _) rfl ?_
                  refine jt ?_
                  refine c_cond rfl (fun h8 => ?_) (fun h8 => ?_)
                  · replace h8 := of_decide_eq_true h8
                    refine c_reg ?_
                    refine mv (.int _ _) rfl ?_
                    refine subi rfl rfl rfl (by omega) ?_
                    refine asg (.int _ _) rfl ?_
                    refine asg (.int _ _) rfl ?_
                    refine asg (.int _ _) rfl ?_
                    refine jn ?_
                    refine e_in ?_
                    exact e_lp (4, ((List.getD xs i 0).toNat : Int) - 240, 65536) (by repeat (first | exact out_self | refine out_hav (by kernel_rfl) ?_ | refine out_look (by kernel_rfl) ?_)) (by unfold Cls; omega) trivial (⟨rfl, rfl, rfl, trivial⟩) rfl rfl rfl
                  · replace h8 := of_decide_eq_false h8
                    refine c_seq ?_
                    refine c_reg ?_
                    refine asg (.bool _) rfl ?_
                    refine jt ?_
                    refine c_ret ?_
                    exact j_end (own0 := []) (ro0 := [sx.seg xs]) (.inl rfl) rfl (hr1 Tryd.results72 (rvt (v := (.bool _)) rfl)) [] [] [] [] [] _ rfl rfl (by kernel_rfl) rfl impl_nil (⟨(by first | exact txt_no hI1.2 (by omega) (txt_cont hC1 k (by omega) (by omega) (by omega)) | exact txt_no hI1.2 (by omega) (txt_wide hC1 hI2 (by assumption) (by omega)) | exact txt_no hI1.2 (by omega) (txt_short hC1 (by omega) (by omega)) | exact txt_no hI1.2 (by omega) (txt_head (by omega) (by omega)) | (rw [← hI1.2, u8ok_nil (by simp; omega)])), rfl, rfl⟩)
                · replace h7 := of_decide_eq_false h7
                  refine g_off rfl rfl rfl rfl ?_
                  refine g_off rfl rfl rfl rfl ?_
                  refine pkf (.bool _) rfl rfl ?_
                  refine asg (.bool _) rfl ?_
                  refine jt ?_
                  refine c_false rfl ?_
                  refine c_seq ?_
                  refine c_reg ?_
                  refine asg (.bool _) rfl ?_
                  refine jt ?_
                  refine c_ret ?_
                  exact j_end (own0 := []) (ro0 := [sx.seg xs]) (.inl rfl) rfl (hr1 Tryd.results72 (rvt (v := (.bool _)) rfl)) [] [] [] [] [] _ rfl rfl (by kernel_rfl) rfl impl_nil (⟨(by first | exact txt_no hI1.2 (by omega) (txt_cont hC1 k (by omega) (by omega) (by omega)) | exact txt_no hI1.2 (by omega) (txt_wide hC1 hI2 (by assumption) (by omega)) | exact txt_no hI1.2 (by omega) (txt_short hC1 (by omega) (by omega)) | exact txt_no hI1.2 (by omega) (txt_head (by omega) (by omega)) | (rw [← hI1.2, u8ok_nil (by simp; omega)])), rfl, rfl⟩)
            · replace h5 := of_decide_eq_false h5
              refine g_off rfl rfl rfl rfl ?_
              refine g_off rfl rfl rfl rfl ?_
              refine pkf (.bool _) rfl rfl ?_
              refine asg (.bool _) rfl ?_
              refine jt ?_
              refine c_false rfl ?_
              refine c_seq ?_
              refine c_reg ?_
              refine mv (.int _ _) rfl ?_
              refine cmp _ rfl rfl rfl ?_
              refine mv (.bool _) rfl ?_
              refine jsplit 41 rfl (fun h9 => ?_) (fun h9 => ?_)
              · replace h9 := of_decide_eq_true h9
                refine g_on rfl rfl rfl ?_
                refine mv (.int _ _) rfl ?_
                refine g_on rfl rfl rfl ?_
                refine cmp _ rfl rfl rfl ?_
                refine pkt (.bool _) rfl rfl ?_
                refine asg (.bool _) rfl ?_
                refine jt ?_
                refine c_cond rfl (fun h10 => ?_) (fun h10 => ?_)
                · replace h10 := of_decide_eq_true h10
                  refine c_reg ?_
                  refine mv (.int _ _) rfl ?_
                  refine subi rfl rfl rfl (by omega) ?_
                  refine asg (.int _ _) rfl ?_
                  refine asg (.int _ _) rfl ?_
                  refine asg (.int _ _) rfl ?_
                  refine jn ?_
                  refine e_in ?_
                  exact e_lp (4, ((List.getD xs i 0).toNat : Int) - 240, 65536) (by repeat (first | exact out_self | refine out_hav (by kernel_rfl) ?_ | refine out_look (by kernel_rfl) ?_)) (by unfold Cls; omega) trivial (⟨rfl, rfl, rfl, trivial⟩) rfl rfl rfl
                · replace h10 := of_decide_eq_false h10
                  refine c_seq ?_
                  refine c_reg ?_
                  refine asg (.bool _) rfl ?_
                  refine jt ?_
                  refine c_ret ?_
                  exact j_end (own0 := []) (ro0 := [sx.seg xs]) (.inl rfl) rfl (hr1 Tryd.results72 (rvt (v := (.bool _)) rfl)) [] [] [] [] [] _ rfl rfl (by kernel_rfl) rfl impl_nil (⟨(by first | exact txt_no hI1.2 (by omega) (txt_cont hC1 k (by omega) (by omega) (by omega)) | exact txt_no hI1.2 (by omega) (txt_wide hC1 hI2 (by assumption) (by omega)) | exact txt_no hI1.2 (by omega) (txt_short hC1 (by omega) (by omega)) | exact txt_no hI1.2 (by omega) (txt_head (by omega) (by omega)) | (rw [← hI1.2, u8ok_nil (by simp; omega)])), rfl, rfl⟩)
              · replace h9 := of_decide_eq_false h9
                refine g_off rfl rfl rfl rfl ?_
                refine g_off rfl rfl rfl rfl ?_
                refine pkf (.bool _) rfl rfl ?_
                refine asg (.bool _) rfl ?_
                refine jt ?_
                refine c_false rfl ?_
                refine c_seq ?_
                refine c_reg ?_
                refine asg (.bool _) rfl ?_
                refine jt ?_
                refine c_ret ?_
                exact j_end (own0 := []) (ro0 := [sx.seg xs]) (.inl rfl) rfl (hr1 Tryd.results72 (rvt (v := (.bool _)) rfl)) [] [] [] [] [] _ rfl rfl (by kernel_rfl) rfl impl_nil (⟨(by first | exact txt_no hI1.2 (by omega) (txt_cont hC1 k (by omega) (by omega) (by omega)) | exact txt_no hI1.2 (by omega) (txt_wide hC1 hI2 (by assumption) (by omega)) | exact txt_no hI1.2 (by omega) (txt_short hC1 (by omega) (by omega)) | exact txt_no hI1.2 (by omega) (txt_head (by omega) (by omega)) | (rw [← hI1.2, u8ok_nil (by simp; omega)])), rfl, rfl⟩)
        · replace h3 := of_decide_eq_false h3
          refine g_off rfl rfl rfl rfl ?_
          refine g_off rfl rfl rfl rfl ?_
          refine pkf (.bool _) rfl rfl ?_
          refine asg (.bool _) rfl ?_
          refine jt ?_
          refine c_false rfl ?_
          refine c_seq ?_
          refine c_reg ?_
          refine mv (.int _ _) rfl ?_
          refine cmp _ rfl rfl rfl ?_
          refine mv (.bool _) rfl ?_
          refine jsplit 32 rfl (fun h11 => ?_) (fun h11 => ?_)
          · replace h11 := of_decide_eq_true h11
            refine g_on rfl rfl rfl ?_
            refine mv (.int _ _) rfl ?_
            refine g_on rfl rfl rfl ?_
            refine cmp _ rfl rfl rfl ?_
            refine pkt (.bool _) rfl rfl ?_
            refine asg (.bool _) rfl ?_
            refine jt ?_
            refine c_cond rfl (fun h12 => ?_) (fun h12 => ?_)
            · replace h12 := of_decide_eq_true h12
              refine c_reg ?_
              refine mv (.int _ _) rfl ?_
              refine subi rfl rfl rfl (by omega) ?_
              refine asg (.int _ _) rfl ?_
              refine asg (.int _ _) rfl ?_
              refine asg (.int _ _) rfl ?_
              refine jn ?_
              refine e_in ?_
              exact e_lp (3, ((List.getD xs i 0).toNat : Int) - 224, 2048) (by repeat (first | exact out_self | refine out_hav (by kernel_rfl) ?_ | refine out_look (by kernel_rfl) ?_)) (by unfold Cls; omega) trivial (⟨rfl, rfl, rfl, trivial⟩) rfl rfl rfl
            · replace h12 := of_decide_eq_false h12
              refine c_seq ?_
              refine c_reg ?_
              refine mv (.int _ _) rfl ?_
              refine cmp _ rfl rfl rfl ?_
              refine mv (.bool _) rfl ?_
              refine jsplit 41 rfl (fun h13 => ?_) (fun h13 => ?_)
              · replace h13 := of_decide_eq_true h13
                refine g_on rfl rfl rfl ?_
                refine mv (.int _ _) rfl ?_
                refine g_on rfl rfl rfl ?_
                refine cmp _ rfl rfl rfl ?_
                refine pkt (.bool _) rfl rfl ?_
                refine asg (.bool _) rfl ?_
                refine jt ?_
                refine c_cond rfl (fun h14 => ?_) (fun h14 => ?_)
                · replace h14 := of_decide_eq_true h14
                  refine c_reg ?_
                  refine mv (.int _ _) rfl ?_
                  refine subi rfl rfl rfl (by omega) ?_
                  refine asg (.int _ _) rfl ?_
                  refine asg (.int _ _) rfl ?_
                  refine asg (.int _ _) rfl ?_
                  refine jn ?_
                  refine e_in ?_
                  exact e_lp (4, ((List.getD xs i 0).toNat : Int) - 240, 65536) (by repeat (first | exact out_self | refine out_hav (by kernel_rfl) ?_ | refine out_look (by kernel_rfl) ?_)) (by unfold Cls; omega) trivial (⟨rfl, rfl, rfl, trivial⟩) rfl rfl rfl
                · replace h14 := of_decide_eq_false h14
                  refine c_seq ?_
                  refine c_reg ?_
                  refine asg (.bool _) rfl ?_
                  refine jt ?_
                  refine c_ret ?_
                  exact j_end (own0 := []) (ro0 := [sx.seg xs]) (.inl rfl) rfl (hr1 Tryd.results72 (rvt (v := (.bool _)) rfl)) [] [] [] [] [] _ rfl rfl (by kernel_rfl) rfl impl_nil (⟨(by first | exact txt_no hI1.2 (by omega) (txt_cont hC1 k (by omega) (by omega) (by omega)) | exact txt_no hI1.2 (by omega) (txt_wide hC1 hI2 (by assumption) (by omega)) | exact txt_no hI1.2 (by omega) (txt_short hC1 (by omega) (by omega)) | exact txt_no hI1.2 (by omega) (txt_head (by omega) (by omega)) | (rw [← hI1.2, u8ok_nil (by simp; omega)])), rfl, rfl⟩)
              · replace h13 := of_decide_eq_false h13
                refine g_off rfl rfl rfl rfl ?_
                refine g_off rfl rfl rfl rfl ?_
                refine pkf (.bool _) rfl rfl ?_
                refine asg (.bool _) rfl ?_
                refine jt ?_
                refine c_false rfl ?_
                refine c_seq ?_
                refine c_reg ?_
                refine asg (.bool _) rfl ?_
                refine jt ?_
                refine c_ret ?_
                exact j_end (own0 := []) (ro0 := [sx.seg xs]) (.inl rfl) rfl (hr1 Tryd.results72 (rvt (v := (.bool _)) rfl)) [] [] [] [] [] _ rfl rfl (by kernel_rfl) rfl impl_nil (⟨(by first | exact txt_no hI1.2 (by omega) (txt_cont hC1 k (by omega) (by omega) (by omega)) | exact txt_no hI1.2 (by omega) (txt_wide hC1 hI2 (by assumption) (by omega)) | exact txt_no hI1.2 (by omega) (txt_short hC1 (by omega) (by omega)) | exact txt_no hI1.2 (by omega) (txt_head (by omega) (by omega)) | (rw [← hI1.2, u8ok_nil (by simp; omega)])), rfl, rfl⟩)
          · replace h11 := of_decide_eq_false h11
            refine g_off rfl rfl rfl rfl ?_
            refine g_off rfl rfl rfl rfl ?_
            refine pkf (.bool _) rfl rfl ?_
            refine asg (.bool _) rfl ?_
            refine jt ?_
            refine c_false rfl ?_
            refine c_seq ?_
            refine c_reg ?_
            refine mv (.int _ _) rfl ?_
            refine cmp _ rfl rfl rfl ?_
            refine mv (.bool _) rfl ?_
            refine jsplit 41 rfl (fun h15 => ?_) (fun h15 => ?_)
            · replace h15 := of_decide_eq_true h15
              refine g_on rfl rfl rfl ?_
              refine mv (.int _ _) rfl ?_
              refine g_on rfl rfl rfl ?_
              refine cmp _ rfl rfl rfl ?_
              refine pkt (.bool _) rfl rfl ?_
              refine asg (.bool _) rfl ?_
              refine jt ?_
              refine c_cond rfl (fun h16 => ?_) (fun h16 => ?_)
              · replace h16 := of_decide_eq_true h16
                refine c_reg ?_
                refine mv (.int _ _) rfl ?_
                refine subi rfl rfl rfl (by omega) ?_
                refine asg (.int _ _) rfl ?_
                refine asg (.int _ _) rfl ?_
                refine asg (.int _ _) rfl ?_
                refine jn ?_
                refine e_in ?_
                exact e_lp (4, ((List.getD xs i 0).toNat : Int) - 240, 65536) (by repeat (first | exact out_self | refine out_hav (by kernel_rfl) ?_ | refine out_look (by kernel_rfl) ?_)) (by unfold Cls; omega) trivial (⟨rfl, rfl, rfl, trivial⟩) rfl rfl rfl
              · replace h16 := of_decide_eq_false h16
                refine c_seq ?_
                refine c_reg ?_
                refine asg (.bool _) rfl ?_
                refine jt ?_
                refine c_ret ?_
                exact j_end (own0 := []) (ro0 := [sx.seg xs]) (.inl rfl) rfl (hr1 Tryd.results72 (rvt (v := (.bool _)) rfl)) [] [] [] [] [] _ rfl rfl (by kernel_rfl) rfl impl_nil (⟨(by first | exact txt_no hI1.2 (by omega) (txt_cont hC1 k (by omega) (by omega) (by omega)) | exact txt_no hI1.2 (by omega) (txt_wide hC1 hI2 (by assumption) (by omega)) | exact txt_no hI1.2 (by omega) (txt_short hC1 (by omega) (by omega)) | exact txt_no hI1.2 (by omega) (txt_head (by omega) (by omega)) | (rw [← hI1.2, u8ok_nil (by simp; omega)])), rfl, rfl⟩)
            · replace h15 := of_decide_eq_false h15
              refine g_off rfl rfl rfl rfl ?_
              refine g_off rfl rfl rfl rfl ?_
              refine pkf (.bool _) rfl rfl ?_
              refine asg (.bool _) rfl ?_
              refine jt ?_
              refine c_false rfl ?_
              refine c_seq ?_
              refine c_reg ?_
              refine asg (.bool _) rfl ?_
              refine jt ?_
              refine c_ret ?_
              exact j_end (own0 := []) (ro0 := [sx.seg xs]) (.inl rfl) rfl (hr1 Tryd.results72 (rvt (v := (.bool _)) rfl)) [] [] [] [] [] _ rfl rfl (by kernel_rfl) rfl impl_nil (⟨(by first | exact txt_no hI1.2 (by omega) (txt_cont hC1 k (by omega) (by omega) (by omega)) | exact txt_no hI1.2 (by omega) (txt_wide hC1 hI2 (by assumption) (by omega)) | exact txt_no hI1.2 (by omega) (txt_short hC1 (by omega) (by omega)) | exact txt_no hI1.2 (by omega) (txt_head (by omega) (by omega)) | (rw [← hI1.2, u8ok_nil (by simp; omega)])), rfl, rfl⟩)
    · rintro ⟨n, c, mn⟩ g hC1
      try dsimp only at hC1 ⊢
      have hCb := hC1
      unfold Cls at hCb
      have hn : 1 ≤ n ∧ n ≤ 4 := by omega
      clear hCb
      refine c_seq ?_
      refine c_seq ?_
      refine c_reg ?_
      refine mv (.int _ _) rfl ?_
      refine mv (.int _ _) rfl ?_
      refine addi rfl rfl rfl (by omega) ?_
      refine mv (.slice _ _ _) rfl ?_
      refine lenS rfl Tryd.underlying50 ?_
      refine cmp _ rfl rfl rfl ?_
      refine jt ?_
      refine c_cond rfl (fun h17 => ?_) (fun h17 => ?_)
      · replace h17 := of_decide_eq_true h17
        refine c_seq ?_
        refine c_reg ?_
        refine asg (.bool _) rfl ?_
        refine jt ?_
        refine c_ret ?_
        exact j_end (own0 := []) (ro0 := [sx.seg xs]) (.inl rfl) rfl (hr1 Tryd.results72 (rvt (v := (.bool _)) rfl)) [] [] [] [] [] _ rfl rfl (by kernel_rfl) rfl impl_nil (⟨(by first | exact txt_no hI1.2 (by omega) (txt_cont hC1 k (by omega) (by omega) (by omega)) | exact txt_no hI1.2 (by omega) (txt_wide hC1 hI2 (by assumption) (by omega)) | exact txt_no hI1.2 (by omega) (txt_short hC1 (by omega) (by omega)) | exact txt_no hI1.2 (by omega) (txt_head (by omega) (by omega)) | (rw [← hI1.2, u8ok_nil (by simp; omega)])), rfl, rfl⟩)
      · replace h17 := of_decide_eq_false h17
        refine c_skip ?_
        refine e_then ?_
        refine c_seq ?_
        refine c_seq ?_
        refine c_reg ?_
        refine asg (.int _ _) rfl ?_
        refine jt ?_
        refine c_block ?_
        refine c_loop (σ := Nat × Int) (fun ⟨k, v⟩ => TxtI xs i n c k v) (fun ⟨k, v⟩ => (n - (k : Int)).toNat) (fun ⟨k, v⟩ => [(7, .int .i64 (k : Int)), (5, .int .i64 v)]) (fun ⟨k, v⟩ => []) (fun ⟨k, v⟩ => [sx.seg xs]) [2, 5, 7, 53, 54, 55, 56, 57, 58, 59, 60, 61, 62, 63, 64, 65, 66, 67, 68, 69, 70, 71, 72, 73, 74, 75, 76, 77, 78, 79, 80, 81, 82, 83, 84] (1, c) (TxtI.start hC1) ⟨rfl, rfl, trivial⟩ rfl rfl ?_
        rintro ⟨k, v⟩ g2 hI2
        try dsimp only at hI2 ⊢
        obtain ⟨k1, k2, -, -, v0, vb1, vb2, vb3, vb4⟩ := id hI2
        refine c_seq ?_
        refine c_seq ?_
        refine c_reg ?_
        refine mv (.int _ _) rfl ?_
        refine mv (.int _ _) rfl ?_
        refine cmp _ rfl rfl rfl ?_
        refine jt ?_
        refine c_cond rfl (fun h18 => ?_) (fun h18 => ?_)
        · replace h18 := of_decide_eq_true h18
          refine c_skip ?_
          refine e_then ?_
          refine c_seq ?_
          refine c_block ?_
          refine c_seq ?_
          refine c_seq ?_
          refine c_reg ?_
          refine mv (.slice _ _ _) rfl ?_
          refine mv (.int _ _) rfl ?_
          refine mv (.int _ _) rfl ?_
          refine addi rfl rfl rfl (by omega) ?_
          refine ixs sx xs (i + k) hx rfl rfl rfl Tryd.underlying50 ty5.sz (by omega) (by omega) ?_
          refine ldvsG 0 (List.getD xs (i + k) 0) hx rfl rfl rfl rfl (getD_some (by first | omega | (simp; done) | (simp; omega) | (simp at *; omega))) ty5 ?_
          refine cmp _ rfl rfl rfl ?_
          refine mv (.bool _) rfl ?_
          refine jsplit 65 rfl (fun h19 => ?_) (fun h19 => ?_)
          · replace h19 := of_decide_eq_true h19
            refine g_off rfl rfl rfl rfl ?_
            refine g_off rfl rfl rfl rfl ?_
            refine g_off rfl rfl rfl rfl ?_
            refine g_off rfl rfl rfl rfl ?_
            refine g_off rfl rfl rfl rfl ?_
            refine g_off rfl rfl rfl rfl ?_
            refine g_off rfl rfl rfl rfl ?_
            refine pkt (.bool _) rfl rfl ?_
            refine jt ?_
            refine c_true rfl ?_
            refine c_seq ?_
            refine c_reg ?_
            refine asg (.bool _) rfl ?_
            refine jt ?_
            refine c_ret ?_
            exact j_end (own0 := []) (ro0 := [sx.seg xs]) (.inl rfl) rfl (hr1 Tryd.results72 (rvt (v := (.bool _)) rfl)) [] [] [] [] [] _ rfl rfl (by kernel_rfl) rfl impl_nil (⟨(by first | exact txt_no hI1.2 (by omega) (txt_cont hC1 k (by omega) (by omega) (by omega)) | exact txt_no hI1.2 (by omega) (txt_wide hC1 hI2 (by assumption) (by omega)) | exact txt_no hI1.2 (by omega) (txt_short hC1 (by omega) (by omega)) | exact txt_no hI1.2 (by omega) (txt_head (by omega) (by omega)) | (rw [← hI1.2, u8ok_nil (by simp; omega)])), rfl, rfl⟩)
          · replace h19 := of_decide_eq_false h19
            refine g_on rfl rfl rfl ?_
            refine mv (.slice _ _ _) rfl ?_
            refine g_on rfl rfl rfl ?_
            refine mv (.int _ _) rfl ?_
            refine g_on rfl rfl rfl ?_
            refine mv (.int _ _) rfl ?_
            refine g_on rfl rfl rfl ?_
            refine addi rfl rfl rfl (by omega) ?_
            refine g_on rfl rfl rfl ?_
            refine ixs sx xs (i + k) hx rfl rfl rfl Tryd.underlying50 ty5.sz (by omega) (by omega) ?_
            refine g_on rfl rfl rfl ?_
            refine ldvsG 0 (List.getD xs (i + k) 0) hx rfl rfl rfl rfl (getD_some (by first | omega | (simp; done) | (simp; omega) | (simp at *; omega))) ty5 ?_
            refine g_on rfl rfl rfl ?_
            refine cmp _ rfl rfl rfl ?_
            refine pkf (.bool _) rfl rfl ?_
            refine jt ?_
            refine c_cond rfl (fun h20 => ?_) (fun h20 => ?_)
            · replace h20 := of_decide_eq_true h20
              refine c_seq ?_
              refine c_reg ?_
              refine asg (.bool _) rfl ?_
              refine jt ?_
              refine c_ret ?_
              exact j_end (own0 := []) (ro0 := [sx.seg xs]) (.inl rfl) rfl (hr1 Tryd.results72 (rvt (v := (.bool _)) rfl)) [] [] [] [] [] _ rfl rfl (by kernel_rfl) rfl impl_nil (⟨(by first | exact txt_no hI1.2 (by omega) (txt_cont hC1 k (by omega) (by omega) (by omega)) | exact txt_no hI1.2 (by omega) (txt_wide hC1 hI2 (by assumption) (by omega)) | exact txt_no hI1.2 (by omega) (txt_short hC1 (by omega) (by omega)) | exact txt_no hI1.2 (by omega) (txt_head (by omega) (by omega)) | (rw [← hI1.2, u8ok_nil (by simp; omega)])), rfl, rfl⟩)
            · replace h20 := of_decide_eq_false h20
              refine c_skip ?_
              refine e_then ?_
              refine c_reg ?_
              refine mv (.int _ _) rfl ?_
              refine muli rfl rfl rfl (by omega) ?_
              refine mv (.slice _ _ _) rfl ?_
              refine mv (.int _ _) rfl ?_
              refine mv (.int _ _) rfl ?_
              refine addi rfl rfl rfl (by omega) ?_
              refine ixs sx xs (i + k) hx rfl rfl rfl Tryd.underlying50 ty5.sz (by omega) (by omega) ?_
              refine ldvsG 0 (List.getD xs (i + k) 0) hx rfl rfl rfl rfl (getD_some (by first | omega | (simp; done) | (simp; omega) | (simp at *; omega))) ty5 ?_
              refine subU8 (a := (List.getD xs (i + k) 0)) (b := (128 : UInt8)) rfl rfl ?_
              refine cvI (((List.getD xs (i + k) 0) - (128 : UInt8)).toNat : Int) rfl Tryd.underlying5 Tryd.underlying3 (wI64 (by have := UInt8.toNat_lt ((List.getD xs (i + k) 0) - (128 : UInt8)); omega)) ?_
              have hlt8 := UInt8.toNat_lt (List.getD xs (i + k) 0 - 128)
              refine addi rfl rfl rfl (by omega) ?_
              refine asg (.int _ _) rfl ?_
              refine jn ?_
              refine e_in ?_
              refine e_then ?_
              refine c_reg ?_
              refine mv (.int _ _) rfl ?_
              refine addi rfl rfl rfl (by omega) ?_
              refine asg (.int _ _) rfl ?_
              refine jn ?_
              exact e_lp (k + 1, v * 64 + ((xs.getD (i + k) 0 - 128).toNat : Int)) (by repeat (first | exact out_self | refine out_hav (by kernel_rfl) ?_ | refine out_look (by kernel_rfl) ?_)) (TxtI.next hC1 hI2 (by omega) (by omega) (by omega)) (by (try dsimp only); omega) (⟨rfl, rfl, trivial⟩) rfl rfl rfl
        · replace h18 := of_decide_eq_false h18
          refine c_exit rfl ?_
          refine e_then ?_
          refine c_seq ?_
          refine c_seq ?_
          refine c_reg ?_
          refine mv (.int _ _) rfl ?_
          refine mv (.int _ _) rfl ?_
          refine cmp _ rfl rfl rfl ?_
          refine mv (.bool _) rfl ?_
          refine jsplit 88 rfl (fun h21 => ?_) (fun h21 => ?_)
          · replace h21 := of_decide_eq_true h21
            refine g_off rfl rfl rfl rfl ?_
            refine g_off rfl rfl rfl rfl ?_
            refine pkt (.bool _) rfl rfl ?_
            refine mv (.bool _) rfl ?_
            refine g_off rfl rfl rfl rfl ?_
            refine g_off rfl rfl rfl rfl ?_
            refine g_off rfl rfl rfl rfl ?_
            refine g_und rfl rfl rfl ?_
            refine g_und rfl rfl rfl ?_
            refine g_off rfl rfl rfl rfl ?_
            refine pkt (.bool _) rfl rfl ?_
            refine jt ?_
            refine c_true rfl ?_
            refine c_seq ?_
            refine c_reg ?_
            refine asg (.bool _) rfl ?_
            refine jt ?_
            refine c_ret ?_
            exact j_end (own0 := []) (ro0 := [sx.seg xs]) (.inl rfl) rfl (hr1 Tryd.results72 (rvt (v := (.bool _)) rfl)) [] [] [] [] [] _ rfl rfl (by kernel_rfl) rfl impl_nil (⟨(by first | exact txt_no hI1.2 (by omega) (txt_cont hC1 k (by omega) (by omega) (by omega)) | exact txt_no hI1.2 (by omega) (txt_wide hC1 hI2 (by assumption) (by omega)) | exact txt_no hI1.2 (by omega) (txt_short hC1 (by omega) (by omega)) | exact txt_no hI1.2 (by omega) (txt_head (by omega) (by omega)) | (rw [← hI1.2, u8ok_nil (by simp; omega)])), rfl, rfl⟩)
          · replace h21 := of_decide_eq_false h21
            refine g_on rfl rfl rfl ?_
            refine mv (.int _ _) rfl ?_
            refine g_on rfl rfl rfl ?_
            refine cmp _ rfl rfl rfl ?_
            refine pkf (.bool _) rfl rfl ?_
            refine mv (.bool _) rfl ?_
            refine jsplit 92 rfl (fun h22 => ?_) (fun h22 => ?_)
            · replace h22 := of_decide_eq_true h22
              refine g_off rfl rfl rfl rfl ?_
              refine g_off rfl rfl rfl rfl ?_
              refine g_off rfl rfl rfl rfl ?_
              refine g_und rfl rfl rfl ?_
              refine g_und rfl rfl rfl ?_
              refine g_off rfl rfl rfl rfl ?_
              refine pkt (.bool _) rfl rfl ?_
              refine jt ?_
              refine c_true rfl ?_
              refine c_seq ?_
              refine c_reg ?_
              refine asg (.bool _) rfl ?_
              refine jt ?_
              refine c_ret ?_
              exact j_end (own0 := []) (ro0 := [sx.seg xs]) (.inl rfl) rfl (hr1 Tryd.results72 (rvt (v := (.bool _)) rfl)) [] [] [] [] [] _ rfl rfl (by kernel_rfl) rfl impl_nil (⟨(by first | exact txt_no hI1.2 (by omega) (txt_cont hC1 k (by omega) (by omega) (by omega)) | exact txt_no hI1.2 (by omega) (txt_wide hC1 hI2 (by assumption) (by omega)) | exact txt_no hI1.2 (by omega) (txt_short hC1 (by omega) (by omega)) | exact txt_no hI1.2 (by omega) (txt_head (by omega) (by omega)) | (rw [← hI1.2, u8ok_nil (by simp; omega)])), rfl, rfl⟩)
            · replace h22 := of_decide_eq_false h22
              refine g_on rfl rfl rfl ?_
              refine mv (.int _ _) rfl ?_
              refine g_on rfl rfl rfl ?_
              refine cmp _ rfl rfl rfl ?_
              refine g_on rfl rfl rfl ?_
              refine mv (.bool _) rfl ?_
              refine jsplit 95 rfl (fun h23 => ?_) (fun h23 => ?_)
              · replace h23 := of_decide_eq_true h23
                refine g_on rfl rfl rfl ?_
                refine mv (.int _ _) rfl ?_
                refine g_on rfl rfl rfl ?_
                refine cmp _ rfl rfl rfl ?_
                refine g_on rfl rfl rfl ?_
                refine pkt (.bool _) rfl rfl ?_
                refine pkf (.bool _) rfl rfl ?_
                refine jt ?_
                refine c_cond rfl (fun h24 => ?_) (fun h24 => ?_)
                · replace h24 := of_decide_eq_true h24
                  refine c_seq ?_
                  refine c_reg ?_
                  refine asg (.bool _) rfl ?_
                  refine jt ?_
                  refine c_ret ?_
                  exact j_end (own0 := []) (ro0 := [sx.seg xs]) (.inl rfl) rfl (hr1 Tryd.results72 (rvt (v := (.bool _)) rfl)) [] [] [] [] [] _ rfl rfl (by kernel_rfl) rfl impl_nil (⟨(by first | exact txt_no hI1.2 (by omega) (txt_cont hC1 k (by omega) (by omega) (by omega)) | exact txt_no hI1.2 (by omega) (txt_wide hC1 hI2 (by assumption) (by omega)) | exact txt_no hI1.2 (by omega) (txt_short hC1 (by omega) (by omega)) | exact txt_no hI1.2 (by omega) (txt_head (by omega) (by omega)) | (rw [← hI1.2, u8ok_nil (by simp; omega)])), rfl, rfl⟩)
                · replace h24 := of_decide_eq_false h24
                  refine c_skip ?_
                  refine e_then ?_
                  refine c_reg ?_
                  refine mv (.int _ _) rfl ?_
                  refine mv (.int _ _) rfl ?_
                  refine addi rfl rfl rfl (by omega) ?_
                  refine asg (.int _ _) rfl ?_
                  refine jn ?_
                  refine e_in ?_
                  exact e_lp (((i : Int) + n).toNat) (by repeat (first | exact out_self | refine out_hav (by kernel_rfl) ?_ | refine out_look (by kernel_rfl) ?_)) (⟨by omega, txt_on hI1.2 (by omega) (txt_good hC1 hI2 (by assumption) (by omega) (by omega) (by omega)) (by omega) (by omega)⟩) (by (try dsimp only); omega) (⟨congrArg (Value.int .i64) (show (i : Int) + n = (((i : Int) + n).toNat : Int) by omega), trivial⟩) rfl rfl rfl
              · replace h23 := of_decide_eq_false h23
                refine g_off rfl rfl rfl rfl ?_
                refine g_off rfl rfl rfl rfl ?_
                refine g_on rfl rfl rfl ?_
                refine pkf (.bool _) rfl rfl ?_
                refine pkf (.bool _) rfl rfl ?_
                refine jt ?_
                refine c_false rfl ?_
                refine c_skip ?_
                refine e_then ?_
                refine c_reg ?_
                refine mv (.int _ _) rfl ?_
                refine mv (.int _ _) rfl ?_
                refine addi rfl rfl rfl (by omega) ?_
                refine asg (.int _ _) rfl ?_
                refine jn ?_
                refine e_in ?_
                exact e_lp (((i : Int) + n).toNat) (by repeat (first | exact out_self | refine out_hav (by kernel_rfl) ?_ | refine out_look (by kernel_rfl) ?_)) (⟨by omega, txt_on hI1.2 (by omega) (txt_good hC1 hI2 (by assumption) (by omega) (by omega) (by omega)) (by omega) (by omega)⟩) (by (try dsimp only); omega) (⟨congrArg (Value.int .i64) (show (i : Int) + n = (((i : Int) + n).toNat : Int) by omega), trivial⟩) rfl rfl rfl
  · replace h1 := of_decide_eq_false h1
    refine c_exit rfl ?_
    refine e_then ?_
    refine c_seq ?_
    refine c_reg ?_
    refine asg (.bool _) rfl ?_
    refine jt ?_
    refine c_ret ?_
    exact j_end (own0 := []) (ro0 := [sx.seg xs]) (.inl rfl) rfl (hr1 Tryd.results72 (rvt (v := (.bool _)) rfl)) [] [] [] [] [] _ rfl rfl (by kernel_rfl) rfl impl_nil (⟨(by first | exact txt_no hI1.2 (by omega) (txt_cont hC1 k (by omega) (by omega) (by omega)) | exact txt_no hI1.2 (by omega) (txt_wide hC1 hI2 (by assumption) (by omega)) | exact txt_no hI1.2 (by omega) (txt_short hC1 (by omega) (by omega)) | exact txt_no hI1.2 (by omega) (txt_head (by omega) (by omega)) | (rw [← hI1.2, u8ok_nil (by simp; omega)])), rfl, rfl⟩)
end Go.Proofs.YthpbiamicidakaaDoor
namespace Go.Proofs.YthpbiamicidakaaDoor
open Go Go.Proofs Go.PW
open Go.PW.Enc (enc val)
theorem ty47 : Ty Tryd.prog 47 1 false := ⟨by kernel_rfl, by kernel_rfl⟩
theorem ty3 : Ty Tryd.prog 3 1 false := ⟨by kernel_rfl, by kernel_rfl⟩
theorem ty9 : Ty Tryd.prog 9 1 false := ⟨by kernel_rfl, by kernel_rfl⟩
theorem ty28 : Ty Tryd.prog 28 1 false := ⟨by kernel_rfl, by kernel_rfl⟩
theorem ty23 : Ty Tryd.prog 23 1 false := ⟨by kernel_rfl, by kernel_rfl⟩
theorem ty25 : Ty Tryd.prog 25 32 true := ⟨by kernel_rfl, by kernel_rfl⟩
def saidB (s : Str) (lo hi : Int) : Bool := (decide (lo ≤ (s.length : Int)) && decide ((s.length : Int) ≤ hi)) && u8ok s
theorem odd_ct (x m : F64) : Ct Tryd.prog 14 [.float .f64 x.b.toNat, .float .f64 m.b.toNat] [] [] (fun v o r => v = .bool (oddB x m) ∧ o = [] ∧ r = []) := by
  refine ct_enter Tryd.func14 rfl Tryd.ntmps14 (by kernel_rfl) rfl fun w0 => ?_
  refine c_seq ?_
  refine c_reg ?_
  refine asg (.bool _) rfl ?_
  refine jt ?_
  refine c_seq ?_
  refine c_reg ?_
  refine mv (.float _ _) rfl ?_
  refine cal (IsNaN_ct x) [] [] [] rfl rfl rfl (by kernel_rfl) impl_nil rfl ?_; rintro _ _ _ ⟨rfl, rfl, rfl⟩; refine ⟨trivial, ?_⟩
  refine mv (.bool _) rfl ?_
  refine jsplit 7 rfl (fun h1 => ?_) (fun h1 => ?_)
  · refine g_off rfl rfl rfl rfl ?_
    refine g_off rfl rfl rfl rfl ?_
    refine g_off rfl rfl rfl rfl ?_
    refine g_off rfl rfl rfl rfl ?_
    refine pkt (.bool _) rfl rfl ?_
    refine mv (.bool _) rfl ?_
    refine g_off rfl rfl rfl rfl ?_
    refine g_off rfl rfl rfl rfl ?_
    refine g_off rfl rfl rfl rfl ?_
    refine g_und rfl rfl rfl ?_
    refine g_und rfl rfl rfl ?_
    refine g_off rfl rfl rfl rfl ?_
    refine pkt (.bool _) rfl rfl ?_
    refine asg (.bool _) rfl ?_
    refine jt ?_
    refine c_ret ?_
    exact j_end (own0 := []) (ro0 := []) (.inl rfl) rfl (hr1 Tryd.results14 (rvt (v := (.bool _)) rfl)) [] [] [] [] [] _ rfl rfl (by kernel_rfl) rfl impl_nil (⟨by simp [oddB, *], rfl, rfl⟩)
  · refine g_on rfl rfl rfl ?_
    refine mv (.float _ _) rfl ?_
    refine g_on rfl rfl rfl ?_
    refine cal (Abs_ct x) [] [] [] rfl rfl rfl (by kernel_rfl) impl_nil rfl ?_; rintro _ _ _ ⟨rfl, rfl, rfl⟩; refine ⟨trivial, ?_⟩
    refine g_on rfl rfl rfl ?_
    refine mv (.float _ _) rfl ?_
    refine g_on rfl rfl rfl ?_
    refine fcmp (fGt ((absF x).b.toNat) m.b.toNat) rfl rfl rfl ?_
    refine pkf (.bool _) rfl rfl ?_
    refine mv (.bool _) rfl ?_
    refine jsplit 13 rfl (fun h2 => ?_) (fun h2 => ?_)
    · refine g_off rfl rfl rfl rfl ?_
      refine g_off rfl rfl rfl rfl ?_
      refine g_off rfl rfl rfl rfl ?_
      refine g_und rfl rfl rfl ?_
      refine g_und rfl rfl rfl ?_
      refine g_off rfl rfl rfl rfl ?_
      refine pkt (.bool _) rfl rfl ?_
      refine asg (.bool _) rfl ?_
      refine jt ?_
      refine c_ret ?_
      exact j_end (own0 := []) (ro0 := []) (.inl rfl) rfl (hr1 Tryd.results14 (rvt (v := (.bool _)) rfl)) [] [] [] [] [] _ rfl rfl (by kernel_rfl) rfl impl_nil (⟨by simp [oddB, *], rfl, rfl⟩)
    · refine g_on rfl rfl rfl ?_
      refine mv (.float _ _) rfl ?_
      refine g_on rfl rfl rfl ?_
      refine fcmp (fEq x.b.toNat 0) rfl rfl rfl ?_
      refine g_on rfl rfl rfl ?_
      refine mv (.bool _) rfl ?_
      refine jsplit 16 rfl (fun h3 => ?_) (fun h3 => ?_)
      · refine g_on rfl rfl rfl ?_
        refine mv (.float _ _) rfl ?_
        refine g_on rfl rfl rfl ?_
        refine cal (Signbit_ct x) [] [] [] rfl rfl rfl (by kernel_rfl) impl_nil rfl ?_; rintro _ _ _ ⟨rfl, rfl, rfl⟩; refine ⟨trivial, ?_⟩
        refine g_on rfl rfl rfl ?_
        refine pkt (.bool _) rfl rfl ?_
        refine pkf (.bool _) rfl rfl ?_
        refine asg (.bool _) rfl ?_
        refine jt ?_
        refine c_ret ?_
        exact j_end (own0 := []) (ro0 := []) (.inl rfl) rfl (hr1 Tryd.results14 (rvt (v := (.bool _)) rfl)) [] [] [] [] [] _ rfl rfl (by kernel_rfl) rfl impl_nil (⟨by simp [oddB, *], rfl, rfl⟩)
      · refine g_off rfl rfl rfl rfl ?_
        refine g_off rfl rfl rfl rfl ?_
        refine g_on rfl rfl rfl ?_
        refine pkf (.bool _) rfl rfl ?_
        refine pkf (.bool _) rfl rfl ?_
        refine asg (.bool _) rfl ?_
        refine jt ?_
        refine c_ret ?_
        exact j_end (own0 := []) (ro0 := []) (.inl rfl) rfl (hr1 Tryd.results14 (rvt (v := (.bool _)) rfl)) [] [] [] [] [] _ rfl rfl (by kernel_rfl) rfl impl_nil (⟨by simp [oddB, *], rfl, rfl⟩)
end Go.Proofs.YthpbiamicidakaaDoor
namespace Go.Proofs.YthpbiamicidakaaDoor
open Go Go.Proofs Go.PW
open Go.PW.Enc (enc val)
theorem eq5 : EqT Tryd.prog 5 1 UInt8 := eqT_u8 Tryd.underlying5
theorem eq25 : EqT Tryd.prog 25 2 (Arr UInt8 32) := eqT_arr Tryd.underlying25 ⟨by kernel_rfl, by kernel_rfl⟩ eq5
theorem ty22 : Ty Tryd.prog 22 1 false := ⟨by kernel_rfl, by kernel_rfl⟩
theorem lay30 : ∀ fs, Tryd.prog.underlying 30 = some (.struct fs) → Lay Tryd.prog fs [(0, 1), (1, 1), (2, 1), (3, 1), (4, 1), (5, 1), (6, 32)] := fun fs h => by rw [Tryd.underlying30] at h; cases h; unfold Lay; kernel_rfl
theorem z30 : Zt Tryd.prog 30 (.agg ⟨cat [pt (0 : Int), pt ([] : Str), p1 (.slice none 0 0), pt (⟨0⟩ : F64), pt (⟨0⟩ : F64), pt (0 : UInt64), pt (zarr : (Arr UInt8 32))]⟩) := by unfold Zt; kernel_rfl
theorem ty30 : Ty Tryd.prog 30 38 true := ⟨by kernel_rfl, by kernel_rfl⟩
end Go.Proofs.YthpbiamicidakaaDoor
namespace Go.Proofs.YthpbiamicidakaaDoor
open Go Go.Proofs Go.PW
open Go.PW.Enc (enc val)
theorem whole_0 {n : UInt64} (h : ¬n = 0) : (0 : UInt64).toNat < 64 ∧ 1 ≤ n.toNat / 2 ^ (0 : UInt64).toNat := by
  have : n.toNat ≠ 0 := fun e => h (UInt64.toNat_inj.1 e)
  have e : (0 : UInt64).toNat = 0 := rfl
  rw [e]; omega
theorem whole_up {n p : UInt64} (h1 : p.toNat < 64) (h2 : 1 < n.toNat / 2 ^ p.toNat) : (p + 1).toNat = p.toNat + 1 ∧ p.toNat + 1 < 64 ∧ 2 ^ (p.toNat + 1) ≤ n.toNat := by
  have hn := n.toNat_lt
  have h3 : (p + 1).toNat = p.toNat + 1 := by rw [UInt64.toNat_add]; show (p.toNat + 1) % 2 ^ 64 = _; omega
  have h4 : 2 * 2 ^ p.toNat ≤ n.toNat := (Nat.le_div_iff_mul_le (Nat.two_pow_pos _)).1 h2
  have h5 : 2 ^ (p.toNat + 1) ≤ n.toNat := by rw [Nat.pow_succ]; omega
  refine ⟨h3, ?_, h5⟩
  rcases Nat.lt_or_ge (p.toNat + 1) 64 with h | h
  · exact h
  · have : (2 : Nat) ^ 64 ≤ 2 ^ (p.toNat + 1) := Nat.pow_le_pow_right (by decide) h
    omega
theorem whole_on {n p : UInt64} (h1 : p.toNat < 64) (h2 : 1 < n.toNat / 2 ^ p.toNat) : (p + 1).toNat < 64 ∧ 1 ≤ n.toNat / 2 ^ (p + 1).toNat := by
  obtain ⟨h3, h4, h5⟩ := whole_up h1 h2
  rw [h3]
  exact ⟨h4, (Nat.le_div_iff_mul_le (Nat.two_pow_pos _)).2 (by omega)⟩
theorem whole_z {n : UInt64} (h : n = 0) : wholeV n = 0 := by unfold wholeV; rw [if_pos h]
theorem whole_hi {n p : UInt64} (h : ¬n = 0) (h1 : p.toNat < 64) (h2 : 1 ≤ n.toNat / 2 ^ p.toNat) (h3 : n.toNat / 2 ^ p.toNat ≤ 1) (h4 : 52 < p.toNat) : wholeV n = shlU64 (1023 + p) 52 := by
  have e : Nat.log2 n.toNat = p.toNat := log2_unique h2 h3
  unfold wholeV; rw [if_neg h, e, UInt64.ofNat_toNat, if_pos h4]
theorem whole_lo {n p : UInt64} (h : ¬n = 0) (h1 : p.toNat < 64) (h2 : 1 ≤ n.toNat / 2 ^ p.toNat) (h3 : n.toNat / 2 ^ p.toNat ≤ 1) (h4 : ¬52 < p.toNat) : wholeV n = shlU64 (1023 + p) 52 + shlU64 n (52 - p).toNat - 4503599627370496 := by
  have e : Nat.log2 n.toNat = p.toNat := log2_unique h2 h3
  unfold wholeV; rw [if_neg h, e, UInt64.ofNat_toNat, if_neg h4]
set_option maxRecDepth 20000 in
set_option maxHeartbeats 4000000 in
theorem whole_ct (n : UInt64) (hn : n.toNat < 9223372036854775808) : Ct Tryd.prog 71 [.int .u64 (n.toNat : Int)] [] [] (fun v o r => v = .int .u64 (wholeV n).toNat ∧ o = [] ∧ r = []) := by
  refine ct_enter Tryd.func71 rfl Tryd.ntmps71 (by kernel_rfl) rfl fun w0 => ?_
  refine c_seq ?_
  refine c_reg ?_
  refine asg (.int _ _) rfl ?_
  refine jt ?_
  refine c_seq ?_
  refine c_seq ?_
  refine c_reg ?_
  refine mv (.int _ _) rfl ?_
  refine equ64 (a := n) (b := (0 : UInt64)) _ rfl rfl rfl ?_
  refine jt ?_
  refine c_cond rfl (fun h1 => ?_) (fun h1 => ?_)
  · replace h1 := of_decide_eq_true h1
    refine c_seq ?_
    refine c_reg ?_
    refine asg (.int _ _) rfl ?_
    refine jt ?_
    refine c_ret ?_
    exact j_end (own0 := []) (ro0 := []) (.inl rfl) rfl (hr1 Tryd.results71 (rvt (v := (.int _ _)) rfl)) [] [] [] [] [] _ rfl rfl (by kernel_rfl) rfl impl_nil (⟨by rw [whole_z h1]; rfl, rfl, rfl⟩)
  · replace h1 := of_decide_eq_false h1
    refine c_skip ?_
    refine e_then ?_
    refine c_seq ?_
    refine c_reg ?_
    refine asg (.int _ _) rfl ?_
    refine jt ?_
    refine c_seq ?_
    refine c_block ?_
    refine c_loop (σ := UInt64) (fun p => p.toNat < 64 ∧ 1 ≤ n.toNat / 2 ^ p.toNat) (fun p => 64 - p.toNat) (fun p => [(3, .int .u64 (p.toNat : Int))]) (fun p => []) (fun p => []) [3, 6, 7, 8, 9, 10, 11] 0 (whole_0 h1) ⟨rfl, trivial⟩ rfl rfl ?_
    rintro p g1 hI1
    try dsimp only at hI1 ⊢
    refine c_seq ?_
    refine c_seq ?_
    refine c_reg ?_
    refine mv (.int _ _) rfl ?_
    refine mv (.int _ _) rfl ?_
    refine shrRU64 (a := n) p.toNat rfl rfl rfl ?_
    refine cmp _ rfl rfl rfl ?_
    refine jt ?_
    refine c_cond rfl (fun h2 => ?_) (fun h2 => ?_)
    · replace h2 := of_decide_eq_true h2
      refine c_skip ?_
      refine e_then ?_
      refine c_block ?_
      refine c_reg ?_
      refine mv (.int _ _) rfl ?_
      refine addU64 (a := p) (b := (1 : UInt64)) rfl rfl ?_
      refine asg (.int _ _) rfl ?_
      refine jn ?_
      refine e_in ?_
      exact e_loop (p + 1) (whole_on (p := p) hI1.1 (by rw [shrU64_toNat] at h2; omega)) (by have h9 := whole_up (n := n) (p := p) hI1.1 (by rw [shrU64_toNat] at h2; omega); (try dsimp only); omega) (⟨rfl, trivial⟩) rfl rfl rfl
    · replace h2 := of_decide_eq_false h2
      refine c_exit rfl ?_
      refine e_then ?_
      refine c_seq ?_
      refine c_seq ?_
      refine c_reg ?_
      refine mv (.int _ _) rfl ?_
      refine cmp _ rfl rfl rfl ?_
      refine jt ?_
      refine c_cond rfl (fun h3 => ?_) (fun h3 => ?_)
      · replace h3 := of_decide_eq_true h3
        refine c_seq ?_
        refine c_reg ?_
        refine mv (.int _ _) rfl ?_
        refine addU64 (a := (1023 : UInt64)) (b := p) rfl rfl ?_
        refine shlRU64 (a := ((1023 : UInt64) + p)) 52 rfl rfl rfl ?_
        refine asg (.int _ _) rfl ?_
        refine jt ?_
        refine c_ret ?_
        exact j_end (own0 := []) (ro0 := []) (.inl rfl) rfl (hr1 Tryd.results71 (rvt (v := (.int _ _)) rfl)) [] [] [] [] [] _ rfl rfl (by kernel_rfl) rfl impl_nil (⟨by rw [whole_hi h1 hI1.1 hI1.2 (by rw [shrU64_toNat] at h2; omega) (by omega)], rfl, rfl⟩)
      · replace h3 := of_decide_eq_false h3
        refine c_skip ?_
        refine e_then ?_
        refine c_seq ?_
        refine c_reg ?_
        refine mv (.int _ _) rfl ?_
        refine addU64 (a := (1023 : UInt64)) (b := p) rfl rfl ?_
        refine shlRU64 (a := ((1023 : UInt64) + p)) 52 rfl rfl rfl ?_
        refine mv (.int _ _) rfl ?_
        refine mv (.int _ _) rfl ?_
        refine subU64 (a := (52 : UInt64)) (b := p) rfl rfl ?_
        refine shlRU64 (a := n) ((52 - p).toNat) rfl rfl rfl ?_
        refine addU64 (a := (shlU64 ((1023 : UInt64) + p) 52)) (b := (shlU64 n ((52 - p).toNat))) rfl rfl ?_
        refine subU64 (a := ((shlU64 ((1023 : UInt64) + p) 52) + (shlU64 n ((52 - p).toNat)))) (b := (4503599627370496 : UInt64)) rfl rfl ?_
        refine asg (.int _ _) rfl ?_
        refine jt ?_
        refine c_ret ?_
        exact j_end (own0 := []) (ro0 := []) (.inl rfl) rfl (hr1 Tryd.results71 (rvt (v := (.int _ _)) rfl)) [] [] [] [] [] _ rfl rfl (by kernel_rfl) rfl impl_nil (⟨by rw [whole_lo h1 hI1.1 hI1.2 (by rw [shrU64_toNat] at h2; omega) (by omega)], rfl, rfl⟩)
end Go.Proofs.YthpbiamicidakaaDoor
namespace Go.Proofs.YthpbiamicidakaaDoor
open Go Go.Proofs Go.PW
open Go.PW.Enc (enc val)
theorem z25 : Zt Tryd.prog 25 (.agg ⟨cat [pt (zarr : (Arr UInt8 32))]⟩) := by unfold Zt; kernel_rfl
theorem Float_ct (b m : UInt64) (hm : m.toNat < 9223372036854775808) : Ct Tryd.prog 47 [.int .u64 (b.toNat : Int), .int .u64 (m.toNat : Int)] [] [] (fun v o r => v = .int .i64 (floatV b m) ∧ o = [] ∧ r = []) := by
  refine ct_enter Tryd.func47 rfl Tryd.ntmps47 (by kernel_rfl) rfl fun w0 => ?_
  refine c_seq ?_
  refine c_reg ?_
  refine asg (.int _ _) rfl ?_
  refine jt ?_
  refine c_seq ?_
  refine c_reg ?_
  refine mv (.int _ _) rfl ?_
  refine remU64 (a := b) (b := (9223372036854775808 : UInt64)) rfl rfl (by decide) ?_
  refine asg (.int _ _) rfl ?_
  refine jt ?_
  refine c_seq ?_
  refine c_seq ?_
  refine c_reg ?_
  refine mv (.int _ _) rfl ?_
  refine cmp _ rfl rfl rfl ?_
  refine mv (.bool _) rfl ?_
  refine jsplit 10 rfl (fun h1 => ?_) (fun h1 => ?_)
  · replace h1 := of_decide_eq_true h1
    refine g_off rfl rfl rfl rfl ?_
    refine g_off rfl rfl rfl rfl ?_
    refine pkt (.bool _) rfl rfl ?_
    refine jt ?_
    refine c_true rfl ?_
    refine c_seq ?_
    refine c_reg ?_
    refine asg (.int _ _) rfl ?_
    refine jt ?_
    refine c_ret ?_
    exact j_end (own0 := []) (ro0 := []) (.inl rfl) rfl (hr1 Tryd.results47 (rvt (v := (.int _ _)) rfl)) [] [] [] [] [] _ rfl rfl (by kernel_rfl) rfl impl_nil (⟨(by unfold floatV; first | rw [if_pos (.inl (by omega))] | rw [if_pos (.inr (by assumption))] | rw [if_neg (fun h => h.elim (fun h => by omega) (by assumption)), if_pos (by omega)] | rw [if_neg (fun h => h.elim (fun h => by omega) (by assumption)), if_neg (by omega)]), rfl, rfl⟩)
  · replace h1 := of_decide_eq_false h1
    refine g_on rfl rfl rfl ?_
    refine mv (.int _ _) rfl ?_
    refine g_on rfl rfl rfl ?_
    refine equ64 (a := b) (b := (9223372036854775808 : UInt64)) _ rfl rfl rfl ?_
    refine pkf (.bool _) rfl rfl ?_
    refine jt ?_
    refine c_cond rfl (fun h2 => ?_) (fun h2 => ?_)
    · replace h2 := of_decide_eq_true h2
      refine c_seq ?_
      refine c_reg ?_
      refine asg (.int _ _) rfl ?_
      refine jt ?_
      refine c_ret ?_
      exact j_end (own0 := []) (ro0 := []) (.inl rfl) rfl (hr1 Tryd.results47 (rvt (v := (.int _ _)) rfl)) [] [] [] [] [] _ rfl rfl (by kernel_rfl) rfl impl_nil (⟨(by unfold floatV; first | rw [if_pos (.inl (by omega))] | rw [if_pos (.inr (by assumption))] | rw [if_neg (fun h => h.elim (fun h => by omega) (by assumption)), if_pos (by omega)] | rw [if_neg (fun h => h.elim (fun h => by omega) (by assumption)), if_neg (by omega)]), rfl, rfl⟩)
    · replace h2 := of_decide_eq_false h2
      refine c_skip ?_
      refine e_then ?_
      refine c_seq ?_
      refine c_seq ?_
      refine c_reg ?_
      refine mv (.int _ _) rfl ?_
      refine mv (.int _ _) rfl ?_
      refine cal (whole_ct m hm) [] [] [] rfl rfl rfl (by kernel_rfl) impl_nil rfl ?_; rintro _ _ _ ⟨rfl, rfl, rfl⟩; refine ⟨trivial, ?_⟩
      refine cmp _ rfl rfl rfl ?_
      refine jt ?_
      refine c_cond rfl (fun h3 => ?_) (fun h3 => ?_)
      · replace h3 := of_decide_eq_true h3
        refine c_seq ?_
        refine c_reg ?_
        refine asg (.int _ _) rfl ?_
        refine jt ?_
        refine c_ret ?_
        exact j_end (own0 := []) (ro0 := []) (.inl rfl) rfl (hr1 Tryd.results47 (rvt (v := (.int _ _)) rfl)) [] [] [] [] [] _ rfl rfl (by kernel_rfl) rfl impl_nil (⟨(by unfold floatV; first | rw [if_pos (.inl (by omega))] | rw [if_pos (.inr (by assumption))] | rw [if_neg (fun h => h.elim (fun h => by omega) (by assumption)), if_pos (by omega)] | rw [if_neg (fun h => h.elim (fun h => by omega) (by assumption)), if_neg (by omega)]), rfl, rfl⟩)
      · replace h3 := of_decide_eq_false h3
        refine c_skip ?_
        refine e_then ?_
        refine c_seq ?_
        refine c_reg ?_
        refine asg (.int _ _) rfl ?_
        refine jt ?_
        refine c_ret ?_
        exact j_end (own0 := []) (ro0 := []) (.inl rfl) rfl (hr1 Tryd.results47 (rvt (v := (.int _ _)) rfl)) [] [] [] [] [] _ rfl rfl (by kernel_rfl) rfl impl_nil (⟨(by unfold floatV; first | rw [if_pos (.inl (by omega))] | rw [if_pos (.inr (by assumption))] | rw [if_neg (fun h => h.elim (fun h => by omega) (by assumption)), if_pos (by omega)] | rw [if_neg (fun h => h.elim (fun h => by omega) (by assumption)), if_neg (by omega)]), rfl, rfl⟩)
theorem onEarth_ct (f : F64) (m : UInt64) (hm : m.toNat < 9223372036854775808) : Ct Tryd.prog 17 [.float .f64 f.b.toNat, .int .u64 (m.toNat : Int)] [] [] (fun v o r => v = .bool (decide (floatV f.b m = 0)) ∧ o = [] ∧ r = []) := by
  refine ct_enter Tryd.func17 rfl Tryd.ntmps17 (by kernel_rfl) rfl fun w0 => ?_
  refine c_seq ?_
  refine c_reg ?_
  refine asg (.bool _) rfl ?_
  refine jt ?_
  refine c_seq ?_
  refine c_reg ?_
  refine mv (.float _ _) rfl ?_
  refine xcal (args := [.float .f64 f.b.toNat]) (.int .u64 (f.b.toNat : Int)) Tryd.func27 (by kernel_rfl) (by kernel_rfl) (by kernel_rfl) (fun w => rfl) (by kernel_rfl) rfl ?_
  refine mv (.int _ _) rfl ?_
  refine cal (Float_ct f.b m hm) [] [] [] rfl rfl rfl (by kernel_rfl) impl_nil rfl ?_; rintro _ _ _ ⟨rfl, rfl, rfl⟩; refine ⟨trivial, ?_⟩
  refine cmp _ rfl rfl rfl ?_
  refine asg (.bool _) rfl ?_
  refine jt ?_
  refine c_ret ?_
  exact j_end (own0 := []) (ro0 := []) (.inl rfl) rfl (hr1 Tryd.results17 (rvt (v := (.bool _)) rfl)) [] [] [] [] [] _ rfl rfl (by kernel_rfl) rfl impl_nil (⟨rfl, rfl, rfl⟩)
theorem text_ct (s : Str) (lo hi : Int) (hh : hi ≤ 4611686018427387904) : Ct Tryd.prog 48 [strV s, .int .i64 lo, .int .i64 hi] [] [] (fun v o r => v = .bool (saidB s lo hi) ∧ o = [] ∧ r = []) := by
  refine ct_enter Tryd.func48 rfl Tryd.ntmps48 (by kernel_rfl) rfl fun w0 => ?_
  refine c_seq ?_
  refine c_reg ?_
  refine asg (.bool _) rfl ?_
  refine jt ?_
  refine c_seq ?_
  refine c_reg ?_
  refine mv (.string _) rfl ?_
  refine lenT (s := s) rfl Tryd.underlying9 ?_
  refine mv (.int _ _) rfl ?_
  refine cmp _ rfl rfl rfl ?_
  refine mv (.bool _) rfl ?_
  refine jsplit 11 rfl (fun h1 => ?_) (fun h1 => ?_)
  · replace h1 := of_decide_eq_true h1
    refine g_on rfl rfl rfl ?_
    refine mv (.string _) rfl ?_
    refine g_on rfl rfl rfl ?_
    refine lenT (s := s) rfl Tryd.underlying9 ?_
    refine g_on rfl rfl rfl ?_
    refine mv (.int _ _) rfl ?_
    refine g_on rfl rfl rfl ?_
    refine cmp _ rfl rfl rfl ?_
    refine pkt (.bool _) rfl rfl ?_
    refine mv (.bool _) rfl ?_
    refine jsplit 17 rfl (fun h2 => ?_) (fun h2 => ?_)
    · replace h2 := of_decide_eq_true h2
      refine g_on rfl rfl rfl ?_
      refine mv (.string _) rfl ?_
      refine g_on rfl rfl rfl ?_
      refine cvSB (s := s) rfl Tryd.underlying9 Tryd.underlying50 Tryd.underlying5 fun c19 hc19 => ⟨trivial, ?_⟩
      refine g_on rfl rfl rfl ?_
      refine cal (Text_ct ((c19).vs) s (Ow.vs_ok hc19) (by omega)) [] [0] [_] rfl rfl rfl (by kernel_rfl) (impl_cons (ow_impl 0 rfl) impl_nil) rfl ?_; rintro _ _ _ ⟨rfl, rfl, rfl⟩; refine ⟨trivial, ?_⟩
      refine pkt (.bool _) rfl rfl ?_
      refine asg (.bool _) rfl ?_
      refine jt ?_
      refine c_ret ?_
      exact j_end (own0 := []) (ro0 := []) (.inl rfl) rfl (hr1 Tryd.results48 (rvt (v := (.bool _)) rfl)) [] [0] [] [_] [] _ rfl rfl (by kernel_rfl) rfl impl_nil (⟨by simp [saidB, *], rfl, rfl⟩)
    · replace h2 := of_decide_eq_false h2
      refine g_off rfl rfl rfl rfl ?_
      refine g_off rfl rfl rfl rfl ?_
      refine g_off rfl rfl rfl rfl ?_
      refine pkf (.bool _) rfl rfl ?_
      refine asg (.bool _) rfl ?_
      refine jt ?_
      refine c_ret ?_
      exact j_end (own0 := []) (ro0 := []) (.inl rfl) rfl (hr1 Tryd.results48 (rvt (v := (.bool _)) rfl)) [] [] [] [] [] _ rfl rfl (by kernel_rfl) rfl impl_nil (⟨by simp [saidB, *], rfl, rfl⟩)
  · replace h1 := of_decide_eq_false h1
    refine g_off rfl rfl rfl rfl ?_
    refine g_off rfl rfl rfl rfl ?_
    refine g_off rfl rfl rfl rfl ?_
    refine g_off rfl rfl rfl rfl ?_
    refine pkf (.bool _) rfl rfl ?_
    refine mv (.bool _) rfl ?_
    refine g_off rfl rfl rfl rfl ?_
    refine g_off rfl rfl rfl rfl ?_
    refine g_off rfl rfl rfl rfl ?_
    refine pkf (.bool _) rfl rfl ?_
    refine asg (.bool _) rfl ?_
    refine jt ?_
    refine c_ret ?_
    exact j_end (own0 := []) (ro0 := []) (.inl rfl) rfl (hr1 Tryd.results48 (rvt (v := (.bool _)) rfl)) [] [] [] [] [] _ rfl rfl (by kernel_rfl) rfl impl_nil (⟨by simp [saidB, *], rfl, rfl⟩)
end Go.Proofs.YthpbiamicidakaaDoor
namespace Go.Proofs.YthpbiamicidakaaDoor
open Go Go.Proofs Go.PW
open Go.PW.Enc (enc val)
theorem z47 : Zt Tryd.prog 47 ((pt (0 : UInt32)).v) := by unfold Zt; kernel_rfl
theorem by47 : (Tryd.prog.info? 47).map (·.bytes) = some 4 := by kernel_rfl
end Go.Proofs.YthpbiamicidakaaDoor
namespace Go.PW
open Enc (enc val)
open Go
theorem encs_set {α : Type} [Enc α] (xs : List α) (k : Nat) (h : k < xs.length) (v : α) : encs (xs.set k v) = encs (xs.take k) ++ (enc v ++ encs (xs.drop (k + 1))) := by
  rw [List.set_eq_take_append_cons_drop, if_pos h, encs_append]; rfl
section
variable {cx : Cx} {md : Md} {ops : Array Oper} {Q : Exit → Act → World → Prop} {rest : List (Oper × Nat)} {kq : Nat} {base : Nat → Value} {L : List (Nat × Value)} {own ro : List Seg}
variable {q : Nat} {d : Nat} {ty : TypeId} {pos : String} {aft : Array Edge} {x y z : Operand} {xt yt : TypeId}
theorem sta {α : Type} [Enc α] {n t bk o E : Nat} (j i : Nat) (ps : List Pt) (a : Arr α n) (k : Nat) (v : α) (hx : ev cx.n base L x = .pointer (some ⟨bk, o, none⟩)) (hy : ev cx.n base L y = val v) (hs : own[j]? = some [(bk, .cells (cat ps) E)])
    (hp : ps[i]? = some (pt a)) (ho : o = psum ps i + k * Enc.n α) (hk : k < n) (ht : Ty cx.P t (Enc.n α) (Enc.ag α))
    (h : Keep md kq rest (own.set j [(bk, .cells (cat (ps.set i (pt (a.set k v)))) E)]) ro ∧ JG cx md ops Q rest base L (own.set j [(bk, .cells (cat (ps.set i (pt (a.set k v)))) E)]) ro) :
    JG cx md ops Q ((⟨none, .store t x y, ty, pos, aft, none⟩, kq + 1) :: rest) base L own ro := by
  obtain ⟨pre, post, h1, h2, h3⟩ := cat_split hp
  have hkl : k < a.l.length := by rw [a.h]; exact hk
  have e1 : cat ps = (pre ++ encs (a.l.take k)) ++ (enc a.l[k] ++ (encs (a.l.drop (k + 1)) ++ post)) := by
    rw [h1]; show pre ++ (encs a.l ++ post) = _
    rw [encs_split a.l k hkl]; simp
  have e2 : cat (ps.set i (pt (a.set k v))) = (pre ++ encs (a.l.take k)) ++ ((pt v).c ++ (encs (a.l.drop (k + 1)) ++ post)) := by
    rw [h3]; show pre ++ (encs (a.l.set k v) ++ post) = _
    rw [encs_set a.l k hkl]; simp [pt]
  rw [e2] at h
  exact stg (p := pt v) hx hy hs ht e1 (by rw [Enc.len]; rfl) (by rw [List.length_append, h2, encs_length, List.length_take, Nat.min_eq_left (by omega)]; exact ho.symm) h
theorem In.part {z : Zt0} {own own' ro : List Seg} {w : World} (h : In z own ro w) (hp : own'.flatten.Perm own.flatten) : In z own' ro w := by
  have hb : (blks own').Perm (blks own) := by unfold blks; exact hp.map _
  refine ⟨⟨fun s hs p hps => ?_, h.has.r, (hb.nodup_iff).2 h.has.nd, fun b h1 h2 => h.has.dj b ((hb.mem_iff).1 h1) h2⟩, h.ext, fun b hb' => h.fr b ((hb.mem_iff).1 hb'), h.rf⟩
  have hm : p ∈ own.flatten := (hp.mem_iff).1 (List.mem_flatten.2 ⟨s, hs, hps⟩)
  obtain ⟨s', hs', hp'⟩ := List.mem_flatten.1 hm
  exact h.has.o s' hs' p hp'
theorem c_part {Q0 : Exit → Act → World → Prop} {st : List Fr} {c : Code} {own' : List Seg} (hp : own'.flatten.Perm own.flatten) (h : JC cx c Q0 st base L own' ro) : JC cx c Q0 st base L own ro := JC.mk fun w hw => h.out w (hw.part hp)
end
theorem JG.mk {cx : Cx} {ops : Array Oper} {Q : Exit → Act → World → Prop} {l : List (Oper × Nat)} {base : Nat → Value} {L : List (Nat × Value)} {own own' ro : List Seg} (hp : own'.flatten.Perm own.flatten) (h : JG cx .pl ops Q l base L own' ro) : JG cx .pl ops Q l base L own ro := by
  unfold JG at *
  exact fun w hw => h w (hw.part hp)
end Go.PW
namespace Go.PW
open Enc (enc val)
open Go
section
variable {cx : Cx} {md : Md} {ops : Array Oper} {Q : Exit → Act → World → Prop} {rest : List (Oper × Nat)} {kq : Nat} {base : Nat → Value} {L : List (Nat × Value)} {own ro : List Seg}
variable {q : Nat} {d : Nat} {ty : TypeId} {pos : String} {aft : Array Edge} {x y z : Operand} {xt yt : TypeId}
theorem cvBS {s : Vs} {ys : Str} {len : Nat} {src dst e : TypeId} (j : Nat) (hok : s.ok ys) (hx : ev cx.n base L x = .slice s.adr len s.cap) (hl : len = ys.length) (hs : (Src md q own ro)[j]? = some (s.seg ys)) (hsrc : cx.P.underlying src = some (.slice e)) (hd : cx.P.underlying dst = some .string) (he : cx.P.underlying e = some (.int .u8))
    (h : JG cx md ops Q rest base ((d, strV ys) :: L) own ro) : JG cx md ops Q ((⟨some d, .convert src dst x, ty, pos, aft, none⟩, q) :: rest) base L own ro :=
  qt (fun w hw => by
    subst hl
    have hseg := hw _ (List.mem_of_getElem? hs)
    cases hn : s.nl with
    | true =>
      have := hok.nl hn; subst this
      have hr : (convert src dst (.slice s.adr 0 s.cap)).run cx.P w = .ok (strV []) w := by
        rw [run_convert_bytes_string w src dst e _ 0 s.cap hsrc he hd]
        cases s.adr with
        | none => simp [Conv.bytesToString]; rfl
        | some a =>
          have := run_bytesToString (P := cx.P) w a 0 s.cap [] rfl
          rw [this]; rfl
      simp only [List.length_nil] at hx
      simp only [execOp, hx, Sem.run_bind, hr, Result.andThen_ok, Sem.run_pure]
    | false =>
      have ha : s.adr = some ⟨s.b, s.off, none⟩ := by simp [Vs.adr, hn]
      have hg : s.seg ys = [(s.b, .view s.off (encs ys))] := by simp [Vs.seg, hn]
      rw [hg] at hseg
      have hc : cellsAt w s.b s.off (encs ys) := cellsAt_view (pre := []) (post := []) hseg (List.mem_singleton.2 rfl) (by simp) rfl
      have hl := run_loadCells_list (P := cx.P) w ⟨s.b, s.off, none⟩ ((ys.map (fun b => (b.toNat : Int))).map (Value.int .u8)) (fun j v hj => by
        rw [add_none]
        refine hc j v ?_
        rw [encs_bytes]
        simpa using hj)
      simp only [List.length_map] at hl
      have hr : (convert src dst (.slice s.adr ys.length s.cap)).run cx.P w = .ok (strV ys) w := by
        rw [ha, run_convert_bytes_string w src dst e _ ys.length s.cap hsrc he hd, run_bytesToString w _ ys.length s.cap _ hl, foldl_push_byteCells]
        have he0 : ByteArray.empty.data = #[] := rfl
        rw [he0]
        simp
      simp only [execOp, hx, Sem.run_bind, hr, Result.andThen_ok, Sem.run_pure]) h
theorem seg_shape {w : World} {b E : Nat} {c : List Value} (h : SegIn w [(b, .cells c E)]) : w.shape? b = some (E, c.length) := by
  obtain ⟨o, ho, fr, rfl, _⟩ := h _ (List.mem_singleton.2 rfl)
  simp [World.shape?, ho]
theorem cvPU {bk E n : Nat} {c : List Value} {src dst t : TypeId} (j : Nat) (hx : ev cx.n base L x = .pointer (some ⟨bk, 0, none⟩)) (hs : (Src md q own ro)[j]? = some [(bk, .cells c E)]) (hc : 0 < c.length) (hsrc : cx.P.underlying src = some (.pointer t)) (hd : cx.P.underlying dst = some .unsafePointer) (hsz : (cx.P.info? t).map (·.size) = some (n + 1))
    (h : JG cx md ops Q rest base ((d, .pointer (some ⟨bk, 0, none⟩)) :: L) own ro) : JG cx md ops Q ((⟨some d, .convert src dst x, ty, pos, aft, none⟩, q) :: rest) base L own ro :=
  qt (fun w hw => by
    have hsh := seg_shape (hw _ (List.mem_of_getElem? hs))
    cases hi : cx.P.info? t with
    | none => simp [hi] at hsz
    | some i =>
      have hj : i.size ≠ 0 := by simp [hi] at hsz; omega
      have hr := Lib.run_to_unsafe (P := cx.P) (w := w) (src := src) (dst := dst) ⟨bk, 0, none⟩ hsrc hd hi hj hsh hc
      simp only [execOp, hx, Sem.run_bind, hr, Result.andThen_ok, Sem.run_pure]) h
theorem cvUP {bk E : Nat} {c : List Value} {src dst u : TypeId} (j : Nat) (hx : ev cx.n base L x = .pointer (some ⟨bk, 0, none⟩)) (hs : (Src md q own ro)[j]? = some [(bk, .cells c E)]) (hsrc : cx.P.underlying src = some .unsafePointer) (hd : cx.P.underlying dst = some (.pointer u)) (hi : (cx.P.info? u).isSome = true)
    (hlies : liesAt cx.P cx.P.depth E (c.length / cx.P.cellsOf E) 0 u 1 = true)
    (h : JG cx md ops Q rest base ((d, .pointer (some ⟨bk, 0, none⟩)) :: L) own ro) : JG cx md ops Q ((⟨some d, .convert src dst x, ty, pos, aft, none⟩, q) :: rest) base L own ro :=
  qt (fun w hw => by
    have hsh := seg_shape (hw _ (List.mem_of_getElem? hs))
    cases hi' : cx.P.info? u with
    | none => simp [hi'] at hi
    | some i =>
      have hr := Lib.run_from_unsafe (P := cx.P) (w := w) (src := src) (dst := dst) ⟨bk, 0, none⟩ hsrc hd hi' hsh hlies
      simp only [execOp, hx, Sem.run_bind, hr, Result.andThen_ok, Sem.run_pure]) h
theorem eqps {a : Addr} {e : TypeId} {op : BinOp} (r : Bool) (hx : ev cx.n base L x = .pointer (some a)) (hy : ev cx.n base L y = .pointer (some a)) (hu : cx.P.underlying xt = some (.pointer e)) (hi : (cx.P.info? e).isSome = true)
    (hr : (match op with | .eql => some true | .neq => some false | _ => none) = some r)
    (h : JG cx md ops Q rest base ((d, .bool r) :: L) own ro) : JG cx md ops Q ((⟨some d, .binOp op xt x y yt, ty, pos, aft, none⟩, q) :: rest) base L own ro :=
  qt (fun w _ => by
    cases hi' : cx.P.info? e with
    | none => simp [hi'] at hi
    | some j =>
      have h0 : ∀ op, eqGuard op xt x y (.pointer (some a)) (.pointer (some a)) = pure () := fun op => eqGuard_at_pointer ..
      have hq' : ∀ n : Nat, (Op.equalIn (n + 1) xt (.pointer (some a)) (.pointer (some a))).run cx.P w = .ok true w := fun n => by
        simp [Op.equalIn, run_underlying hu, sizeOf, typeInfo, hi', run_sameAddr_same]
      have hq := hq' 9999
      have h1 : binOp .eql xt (.pointer (some a)) (.pointer (some a)) = (do pure (.bool (← Op.equalIn (9999 + 1) xt (.pointer (some a)) (.pointer (some a))))) := rfl
      have h2 : binOp .neq xt (.pointer (some a)) (.pointer (some a)) = (do pure (.bool (!(← Op.equalIn (9999 + 1) xt (.pointer (some a)) (.pointer (some a)))))) := rfl
      cases op <;> dsimp only at hr <;> cases hr
      · simp only [execOp, hx, hy, h0, h1, Sem.run_bind, Sem.run_pure, Result.andThen_ok, hq]
      · simp only [execOp, hx, hy, h0, h2, Sem.run_bind, Sem.run_pure, Result.andThen_ok, hq]; rfl) h
theorem usd {len cap : Nat} {a : Option Addr} {ts : Array TypeId} (hx : ev cx.n base L x = .slice a len cap) (hc : cap ≠ 0 ∨ a = none)
    (h : JG cx md ops Q rest base ((d, .pointer a) :: L) own ro) : JG cx md ops Q ((⟨some d, .call ⟨.builtin .unsafeSliceData, #[x], ts⟩, ty, pos, aft, none⟩, q) :: rest) base L own ro :=
  qt (fun w _ => by
    have hr : (Builtin.unsafeSliceData_ ts ty #[.slice a len cap]).run cx.P w = .ok (.pointer a) w := by
      cases a with
      | none => exact Lib.run_unsafeSliceData_nil w ts ty len cap
      | some a =>
        rcases hc with hc | hc
        · exact Lib.run_unsafeSliceData_row w ts ty a len cap hc
        · cases hc
    simp [execOp, resolve, hx, invoke, builtin, hr]) h
theorem ust {o : Ow} {ys : Str} {E pt it len : Nat} {a : Option Addr} (j : Nat) (hok : o.ok ys) (hx : ev cx.n base L x = .pointer a) (ha : a = o.adr) (hy : ev cx.n base L y = .int .i64 (len : Int)) (hl : len = ys.length) (hs : own[j]? = some (o.seg ys E)) (hp : cx.P.underlying pt = some (.pointer E)) (hc : cx.P.cellsOf E = 1) (h63 : ys.length ≤ 9223372036854775807)
    (h : Keep md kq rest (own.set j []) ro ∧ JG cx md ops Q rest base ((d, strV ys) :: L) (own.set j []) ro) :
    JG cx md ops Q ((⟨some d, .call ⟨.builtin .unsafeString, #[x, y], #[pt, it]⟩, ty, pos, aft, none⟩, kq + 1) :: rest) base L own ro :=
  nq (Post := fun L' own' ro' => L' = (d, strV ys) :: L ∧ own' = own.set j [] ∧ ro' = ro) rfl
    (fun w K hw hK => by
      subst ha; subst hl
      have hrun : ∃ w', (Builtin.unsafeString_ #[pt, it] ty #[.pointer o.adr, .int .i64 (ys.length : Int)]).run cx.P w = .ok (strV ys) w' ∧ (∀ b, b < w.heap.size → b ∉ (o.seg ys E).map (·.1) → w'.heap[b]? = w.heap[b]?) ∧ w.heap.size ≤ w'.heap.size ∧ w'.os = w.os ∧ w'.tape = w.tape ∧ w'.output = w.output := by
        by_cases h0 : ys = []
        · subst h0
          exact ⟨w, Lib.run_unsafeString_none w pt it ty o.adr, fun _ _ _ => rfl, Nat.le_refl _, rfl, rfl, rfl⟩
        · have hnl : o.nl = false := by
            cases hn : o.nl with
            | false => rfl
            | true => exact absurd (hok.nl hn).1 h0
          have hadr : o.adr = some ⟨o.b, 0, none⟩ := by simp [Ow.adr, hnl]
          have hseg : o.seg ys E = [(o.b, .cells (encs ys ++ o.sp) E)] := by simp [Ow.seg, hnl]
          have hin := hw.has.o _ (List.mem_of_getElem? hs)
          rw [hseg] at hin
          have hsh := seg_shape hin
          have hcells : cellsAt w o.b 0 (encs ys) := cellsAt_cells (pre := []) (post := o.sp) hin (List.mem_singleton.2 rfl) (by simp) rfl
          have hr := Lib.run_unsafeString_row (P := cx.P) w pt it ty E hp hc o.b (encs ys ++ o.sp).length hsh ys h0 (by rw [List.length_append, encs_length]; show ys.length ≤ ys.length * 1 + _; omega) h63 (fun i v hv => by
            rw [add_none]
            refine hcells i _ ?_
            rw [encs_bytes]; simp [hv])
          have hpos : ys.length ≠ 0 := by simpa using h0
          refine ⟨_, by rw [hadr]; exact hr, fun b hb hnb => ?_, ?_, ?_, ?_, ?_⟩
          · rw [hseg] at hnb
            simp only [List.map_cons, List.map_nil, List.mem_singleton] at hnb
            simp [World.freeze, hpos, Array.getElem?_modify, Ne.symm hnb]
          all_goals simp [World.freeze, hpos]
      obtain ⟨w', hr, hk, hsz, hos, htp, hout⟩ := hrun
      unfold Oper.wp
      rw [A_eval_fun]
      have hr' : (execOp (ev cx.n base L) ⟨some d, .call ⟨.builtin .unsafeString, #[x, y], #[pt, it]⟩, ty, pos, aft, none⟩).run cx.P w = .ok (.value (strV ys)) w' := by
        simp [execOp, resolve, hx, hy, invoke, builtin, hr]
      simp only [hr', Oper.upon]
      rw [A_put]
      exact hK _ _ _ _ ⟨rfl, rfl, rfl⟩ (hw.dropAdd hs (fun p hp => by cases hp) hk hsz hos htp hout (by simp) (by simp)))
    (by rintro L' own' ro' ⟨rfl, rfl, rfl⟩; exact h.1)
    (by rintro L' own' ro' ⟨rfl, rfl, rfl⟩; exact h.2)
end
end Go.PW
namespace Go.PW
open Enc (enc val)
open Go
def Gseg {α : Type} [Enc α] (b E : Nat) (pre : List Value) (xs : List α) (post : List Value) : Seg := [(b, .cells (pre ++ (encs xs ++ post)) E)]
theorem gr_of {α : Type} [Enc α] {n : Nat} (b E : Nat) (a : Arr α n) (l m : Nat) (h : l + m ≤ n) : [(b, Ck.cells (cat [pt a]) E)] = Gseg b E (encs (a.l.take l)) ((a.l.drop l).take m) (encs (a.l.drop (l + m))) := by
  have e1 : a.l = a.l.take l ++ ((a.l.drop l).take m ++ a.l.drop (l + m)) := by rw [← List.drop_drop, List.take_append_drop, List.take_append_drop]
  show [(b, Ck.cells (encs a.l) E)] = _
  unfold Gseg
  conv => lhs; rw [e1]
  rw [encs_append, encs_append]
theorem gr_of0 {α : Type} [Enc α] {n : Nat} (b E : Nat) (a : Arr α n) (m : Nat) (h : m ≤ n) : [(b, Ck.cells (cat [pt a]) E)] = Gseg b E [] (a.l.take m) (encs (a.l.drop m)) := by
  have := gr_of b E a 0 m (by omega)
  rw [List.take_zero, List.drop_zero, Nat.zero_add] at this
  exact this
theorem gr_len0 {α : Type} {n : Nat} (a : Arr α n) (m : Nat) (h : m ≤ n) : (a.l.take m).length = m := by
  rw [List.length_take, a.h, Nat.min_eq_left h]
theorem gr_pre {α : Type} [Enc α] {n : Nat} (a : Arr α n) (l : Nat) (h : l ≤ n) : (encs (a.l.take l)).length = l * Enc.n α := by
  rw [encs_length, List.length_take, Nat.min_eq_left (by rw [a.h]; exact h)]
theorem gr_len {α : Type} {n : Nat} (a : Arr α n) (l m : Nat) (h : l + m ≤ n) : ((a.l.drop l).take m).length = m := by
  rw [List.length_take, List.length_drop, a.h, Nat.min_eq_left (by omega)]
section
variable {cx : Cx} {md : Md} {ops : Array Oper} {Q : Exit → Act → World → Prop} {rest : List (Oper × Nat)} {kq : Nat} {base : Nat → Value} {L : List (Nat × Value)} {own ro : List Seg}
variable {q : Nat} {d : Nat} {ty : TypeId} {pos : String} {aft : Array Edge} {x y z : Operand} {xt yt : TypeId}
theorem slaA {bk o n sz : Nat} {e : TypeId} {lo hi : Option Operand} (l h : Nat) (hx : ev cx.n base L x = .pointer (some ⟨bk, o, none⟩)) (hu : cx.P.underlying xt = some (.array n e)) (hs : (cx.P.info? e).map (·.size) = some sz)
    (hlo : match lo with | none => l = 0 | some o => ∃ k, ev cx.n base L o = .int k (l : Int)) (hhi : match hi with | none => h = n | some o => ∃ k, ev cx.n base L o = .int k (h : Int)) (hlh : l ≤ h) (hc : h ≤ n) (hl : l < n)
    (hr : JG cx md ops Q rest base ((d, .slice (some ⟨bk, o + l * sz, none⟩) (h - l) (n - l)) :: L) own ro) : JG cx md ops Q ((⟨some d, .slice xt x lo hi none, ty, pos, aft, none⟩, q) :: rest) base L own ro :=
  qt (fun w _ => by
    have hb : ∀ (k : IntKind) (n m : Nat) (c : BoundsCode), n ≤ m → (Instr.sliceBound (.int k (n : Int)) m c).run cx.P w = .ok n w := fun k n m c hnm => by
      simp only [Instr.sliceBound, asIntOf, Sem.run_bind, Sem.run_pure, Result.andThen_ok]
      rw [if_pos ⟨Int.natCast_nonneg n, Int.ofNat_le.mpr hnm⟩]
      simp
    have h2 : (Instr.sliceBounds false n n (lo.map (ev cx.n base L)) (hi.map (ev cx.n base L)) none).run cx.P w = .ok (l, h, n) w := by
      unfold Instr.sliceBounds
      cases hi with
      | none =>
        dsimp only at hhi; subst hhi
        cases lo with
        | none => dsimp only at hlo; subst hlo; simp
        | some o => obtain ⟨k, hk⟩ := hlo; simp [hk, hb k l _ _ hlh]
      | some o' =>
        obtain ⟨k', hk'⟩ := hhi
        cases lo with
        | none => dsimp only at hlo; subst hlo; simp [hk', hb k' h _ _ hc]
        | some o => obtain ⟨k, hk⟩ := hlo; simp [hk', hb k' h _ _ hc, hk, hb k l h _ hlh]
    have hne : ¬ n = l := by omega
    simp only [execOp, hx, Instr.sliceAt, Sem.run_bind, run_underlying hu, Result.andThen_ok, Instr.sureAddr, Sem.run_pure, Option.map_none, h2, run_sizeOf' hs, if_neg hne, add_none]) hr
theorem stG {α : Type} [Enc α] {t bk o E : Nat} {pre post : List Value} (j i : Nat) (xs : List α) (v : α) (hx : ev cx.n base L x = .pointer (some ⟨bk, o, none⟩)) (hy : ev cx.n base L y = val v) (hs : own[j]? = some (Gseg bk E pre xs post))
    (ho : o = pre.length + i * Enc.n α) (hi : i < xs.length) (ht : Ty cx.P t (Enc.n α) (Enc.ag α))
    (h : Keep md kq rest (own.set j (Gseg bk E pre (xs.set i v) post)) ro ∧ JG cx md ops Q rest base L (own.set j (Gseg bk E pre (xs.set i v) post)) ro) :
    JG cx md ops Q ((⟨none, .store t x y, ty, pos, aft, none⟩, kq + 1) :: rest) base L own ro := by
  have e1 : pre ++ (encs xs ++ post) = (pre ++ encs (xs.take i)) ++ (enc xs[i] ++ (encs (xs.drop (i + 1)) ++ post)) := by
    rw [encs_split xs i hi]; simp
  have e2 : Gseg bk E pre (xs.set i v) post = [(bk, .cells ((pre ++ encs (xs.take i)) ++ ((pt v).c ++ (encs (xs.drop (i + 1)) ++ post))) E)] := by
    unfold Gseg; rw [encs_set xs i hi]; simp [pt]
  rw [e2] at h
  exact stg (p := pt v) hx hy hs ht e1 (by rw [Enc.len]; rfl) (by rw [List.length_append, encs_length, List.length_take, Nat.min_eq_left (by omega)]; exact ho.symm) h
theorem cvC {bk o E : Nat} {c pre post : List Value} {ys : Str} {len cp : Nat} {src dst e : TypeId} (j : Nat) (hx : ev cx.n base L x = .slice (some ⟨bk, o, none⟩) len cp) (hl : len = ys.length) (hs : (Src md q own ro)[j]? = some [(bk, .cells c E)])
    (hcc : c = pre ++ (encs ys ++ post)) (ho : pre.length = o) (hsrc : cx.P.underlying src = some (.slice e)) (hd : cx.P.underlying dst = some .string) (he : cx.P.underlying e = some (.int .u8))
    (h : JG cx md ops Q rest base ((d, strV ys) :: L) own ro) : JG cx md ops Q ((⟨some d, .convert src dst x, ty, pos, aft, none⟩, q) :: rest) base L own ro :=
  qt (fun w hw => by
    subst hl
    have hseg := hw _ (List.mem_of_getElem? hs)
    have hc : cellsAt w bk o (encs ys) := cellsAt_cells hseg (List.mem_singleton.2 rfl) hcc ho
    have hl := run_loadCells_list (P := cx.P) w ⟨bk, o, none⟩ ((ys.map (fun b => (b.toNat : Int))).map (Value.int .u8)) (fun j v hj => by
      rw [add_none]
      refine hc j v ?_
      rw [encs_bytes]
      simpa using hj)
    simp only [List.length_map] at hl
    have hr : (convert src dst (.slice (some ⟨bk, o, none⟩) ys.length cp)).run cx.P w = .ok (strV ys) w := by
      rw [run_convert_bytes_string w src dst e _ ys.length cp hsrc he hd, run_bytesToString w _ ys.length cp _ hl, foldl_push_byteCells]
      have he0 : ByteArray.empty.data = #[] := rfl
      rw [he0]
      simp
    simp only [execOp, hx, Sem.run_bind, hr, Result.andThen_ok, Sem.run_pure]) h
theorem cvG {bk o E : Nat} {pre post : List Value} {ys : Str} {len cp : Nat} {src dst e : TypeId} (j : Nat) (hx : ev cx.n base L x = .slice (some ⟨bk, o, none⟩) len cp) (hl : len = ys.length) (hs : (Src md q own ro)[j]? = some (Gseg bk E pre ys post))
    (ho : pre.length = o) (hsrc : cx.P.underlying src = some (.slice e)) (hd : cx.P.underlying dst = some .string) (he : cx.P.underlying e = some (.int .u8))
    (h : JG cx md ops Q rest base ((d, strV ys) :: L) own ro) : JG cx md ops Q ((⟨some d, .convert src dst x, ty, pos, aft, none⟩, q) :: rest) base L own ro :=
  cvC j hx hl hs rfl ho hsrc hd he h
theorem cvA {bk o E n l : Nat} {ps : List Pt} (a : Arr UInt8 n) (m i : Nat) {len cp : Nat} {src dst e : TypeId} (j : Nat) (hx : ev cx.n base L x = .slice (some ⟨bk, o, none⟩) len cp) (hl : len = m) (hs : (Src md q own ro)[j]? = some [(bk, .cells (cat ps) E)])
    (hp : ps[i]? = some (pt a)) (ho : o = psum ps i + l * 1) (hm : l + m ≤ n) (hsrc : cx.P.underlying src = some (.slice e)) (hd : cx.P.underlying dst = some .string) (he : cx.P.underlying e = some (.int .u8))
    (h : JG cx md ops Q rest base ((d, strV ((a.l.drop l).take m)) :: L) own ro) : JG cx md ops Q ((⟨some d, .convert src dst x, ty, pos, aft, none⟩, q) :: rest) base L own ro := by
  obtain ⟨pre, post, h1, h2, _⟩ := cat_split hp
  have e1 : a.l = a.l.take l ++ ((a.l.drop l).take m ++ a.l.drop (l + m)) := by rw [← List.drop_drop, List.take_append_drop, List.take_append_drop]
  have hlen := gr_len a l m hm
  refine cvC (pre := pre ++ encs (a.l.take l)) (post := encs (a.l.drop (l + m)) ++ post) j hx (by rw [hlen]; exact hl) hs ?_ ?_ hsrc hd he h
  · rw [h1]; show pre ++ (encs a.l ++ post) = _
    conv => lhs; rw [e1]
    rw [encs_append, encs_append]; simp
  · rw [List.length_append, gr_pre a l (by omega), h2]; exact ho.symm
end
theorem gives_str {P : Program} {S : List Seg} (s : Str) : Gives P S (strV s) s := fun w _ => by
  refine ⟨rfl, ?_⟩
  simp only [Builtin.firstCells, Sem.run_pure]
  congr 1
  have : (⟨⟨s⟩⟩ : ByteArray).extract 0 s.length = ⟨⟨s⟩⟩ := by rw [extract_l]; simp
  rw [this, encs_bytes]
  apply Array.ext'; simp
end Go.PW
namespace Go.PW
open Go
def dch (n : Nat) : UInt8 := if n < 10 then UInt8.ofNat (48 + n) else UInt8.ofNat (87 + n)
def digs (b : Nat) : Nat → Nat → Str
  | 0, _ => []
  | k + 1, n => digs b k (n / b) ++ [dch (n % b)]
def ndg (b : Nat) : Nat → Nat → Nat
  | 0, _ => 1
  | f + 1, n => if n < b then 1 else ndg b f (n / b) + 1
def fmtN (b n : Nat) : Str := digs b (ndg b 64 n) n
theorem digs_length (b : Nat) : ∀ k n, (digs b k n).length = k
  | 0, _ => rfl
  | k + 1, n => by simp [digs, digs_length b k]
theorem digs_add (b j : Nat) : ∀ k n, digs b (j + k) n = digs b j (n / b ^ k) ++ digs b k n
  | 0, n => by simp [digs]
  | k + 1, n => by
    show digs b (j + k) (n / b) ++ [dch (n % b)] = _
    rw [digs_add b j k (n / b), Nat.div_div_eq_div_mul, ← Nat.pow_succ']
    simp [digs]
theorem digs_head (b k n : Nat) : digs b (k + 1) n = dch (n / b ^ k % b) :: digs b k n := by
  rw [Nat.add_comm, digs_add]; rfl
theorem ndg_of {b : Nat} (hb : 2 ≤ b) : ∀ {f k n : Nat}, 1 ≤ k → k ≤ f + 1 → n < b ^ k → (k = 1 ∨ b ^ (k - 1) ≤ n) → ndg b f n = k
  | 0, k, n, h1, h2, _, _ => by simp [ndg]; omega
  | f + 1, k, n, h1, h2, h3, h4 => by
    unfold ndg
    by_cases hn : n < b
    · rw [if_pos hn]
      rcases h4 with h4 | h4
      · exact h4.symm
      · by_cases hk : k = 1
        · exact hk.symm
        · have : b ^ 1 ≤ b ^ (k - 1) := Nat.pow_le_pow_right (by omega) (by omega)
          rw [Nat.pow_one] at this; omega
    · rw [if_neg hn]
      obtain ⟨j, rfl⟩ : ∃ j, k = j + 1 := ⟨k - 1, by omega⟩
      have hj : 1 ≤ j := by
        rcases Nat.eq_zero_or_pos j with h | h
        · subst h; simp at h3; omega
        · exact h
      have h5 : n / b < b ^ j := by
        rw [Nat.div_lt_iff_lt_mul (by omega)]; rw [Nat.pow_succ] at h3; exact h3
      have h6 : j = 1 ∨ b ^ (j - 1) ≤ n / b := by
        rcases h4 with h4 | h4
        · exact .inl (by omega)
        · by_cases hj1 : j = 1
          · exact .inl hj1
          · refine .inr ?_
            rw [Nat.le_div_iff_mul_le (by omega), ← Nat.pow_succ]
            have : (j - 1).succ = j + 1 - 1 := by omega
            rw [this]; exact h4
      rw [ndg_of hb (k := j) hj (by omega) h5 h6]
theorem fmtN_of {b k n : Nat} (hb : 2 ≤ b) (h1 : 1 ≤ k) (h2 : k ≤ 65) (h3 : n < b ^ k) (h4 : k = 1 ∨ b ^ (k - 1) ≤ n) : fmtN b n = digs b k n := by
  unfold fmtN; rw [ndg_of hb h1 h2 h3 h4]
theorem ndg_pos (b : Nat) : ∀ f n, 1 ≤ ndg b f n
  | 0, _ => Nat.le_refl _
  | f + 1, n => by unfold ndg; split <;> omega
theorem ndg_le (b : Nat) : ∀ f n, ndg b f n ≤ f + 1
  | 0, _ => Nat.le_refl _
  | f + 1, n => by unfold ndg; have := ndg_le b f (n / b); split <;> omega
theorem fmtN_length (b n : Nat) : 1 ≤ (fmtN b n).length ∧ (fmtN b n).length ≤ 65 := by
  unfold fmtN; rw [digs_length]; exact ⟨ndg_pos _ _ _, ndg_le _ _ _⟩
def digitsL : Str := [48, 49, 50, 51, 52, 53, 54, 55, 56, 57, 97, 98, 99, 100, 101, 102, 103, 104, 105, 106, 107, 108, 109, 110, 111, 112, 113, 114, 115, 116, 117, 118, 119, 120, 121, 122]
def hexL : Str := [48, 49, 50, 51, 52, 53, 54, 55, 56, 57, 97, 98, 99, 100, 101, 102]
def smallsL : Str := [48, 48, 48, 49, 48, 50, 48, 51, 48, 52, 48, 53, 48, 54, 48, 55, 48, 56, 48, 57, 49, 48, 49, 49, 49, 50, 49, 51, 49, 52, 49, 53, 49, 54, 49, 55, 49, 56, 49, 57, 50, 48, 50, 49, 50, 50, 50, 51, 50, 52, 50, 53, 50, 54, 50, 55, 50, 56, 50, 57, 51, 48, 51, 49, 51, 50, 51, 51, 51, 52, 51, 53, 51, 54, 51, 55, 51, 56, 51, 57, 52, 48, 52, 49, 52, 50, 52, 51, 52, 52, 52, 53, 52, 54, 52, 55, 52, 56, 52, 57, 53, 48, 53, 49, 53, 50, 53, 51, 53, 52, 53, 53, 53, 54, 53, 55, 53, 56, 53, 57, 54, 48, 54, 49, 54, 50, 54, 51, 54, 52, 54, 53, 54, 54, 54, 55, 54, 56, 54, 57, 55, 48, 55, 49, 55, 50, 55, 51, 55, 52, 55, 53, 55, 54, 55, 55, 55, 56, 55, 57, 56, 48, 56, 49, 56, 50, 56, 51, 56, 52, 56, 53, 56, 54, 56, 55, 56, 56, 56, 57, 57, 48, 57, 49, 57, 50, 57, 51, 57, 52, 57, 53, 57, 54, 57, 55, 57, 56, 57, 57]
theorem digitsL_at : ∀ k, k < 36 → digitsL.getD k 0 = dch k := by decide
theorem smallsL_at : ∀ k, k < 100 → smallsL.getD (2 * k) 0 = dch (k / 10) ∧ smallsL.getD (2 * k + 1) 0 = dch (k % 10) := by decide +kernel
theorem smallsL_length : smallsL.length = 200 := by decide +kernel
theorem small_one : ∀ k, k < 10 → (digitsL.drop k).take 1 = fmtN 10 k := by decide
theorem small_two : ∀ k, k < 100 → 10 ≤ k → (smallsL.drop (2 * k)).take 2 = fmtN 10 k := by decide +kernel
end Go.PW
namespace Go.PW
open Enc (enc val)
open Go
section
variable {cx : Cx} {md : Md} {ops : Array Oper} {Q : Exit → Act → World → Prop} {rest : List (Oper × Nat)} {kq : Nat} {base : Nat → Value} {L : List (Nat × Value)} {own ro : List Seg}
variable {q : Nat} {d : Nat} {ty : TypeId} {pos : String} {aft : Array Edge} {x y z : Operand} {xt yt : TypeId} {k k2 : IntKind}
theorem negC {a : Int} (r : Int) (hx : ev cx.n base L x = .int k a) (hr : k.wrap (0 - a) = r) (h : JG cx md ops Q rest base ((d, .int k r) :: L) own ro) : JG cx md ops Q ((⟨some d, .unOp .neg xt x, ty, pos, aft, none⟩, q) :: rest) base L own ro :=
  negW hx (by rw [hr]; exact h)
theorem remn {a b : Nat} (hx : ev cx.n base L x = .int k (a : Int)) (hy : ev cx.n base L y = .int k (b : Int)) (hb : b ≠ 0)
    (h : JG cx md ops Q rest base ((d, .int k ((a % b : Nat) : Int)) :: L) own ro) : JG cx md ops Q ((⟨some d, .binOp .rem xt x y yt, ty, pos, aft, none⟩, q) :: rest) base L own ro :=
  remi hx hy (by omega) (by rw [← Int.ofNat_tmod]; exact h)
theorem lenC {s : Str} (n : Int) (hx : ev cx.n base L x = strV s) (hu : cx.P.underlying xt = some .string) (hn : (s.length : Int) = n)
    (h : JG cx md ops Q rest base ((d, .int .i64 n) :: L) own ro) : JG cx md ops Q ((⟨some d, .call ⟨.builtin .len, #[x], #[xt]⟩, ty, pos, aft, none⟩, q) :: rest) base L own ro :=
  lenT hx hu (by rw [hn]; exact h)
theorem shrI {a i m : Int} (n : Nat) (hx : ev cx.n base L x = .int .i64 a) (hy : ev cx.n base L y = .int k2 i) (hn : i = (n : Int)) (hm : (2 : Int) ^ (min n 64) = m) (h : JG cx md ops Q rest base ((d, .int .i64 (a / m)) :: L) own ro) : JG cx md ops Q ((⟨some d, .binOp .shr xt x y yt, ty, pos, aft, none⟩, q) :: rest) base L own ro :=
  bopI _ hx hy (by
    subst hn
    show Op.shift .shr .i64 _ k2 _ = _
    rw [shift_shr_any _ _ _ _ (by omega), Int.toNat_natCast, show IntKind.i64.bits = 64 from rfl, hm]) h
theorem cvBO {o : Ow} {ys : Str} {E len : Nat} {src dst e : TypeId} (j : Nat) (hok : o.ok ys) (hx : ev cx.n base L x = .slice o.adr len o.cap) (hl : len = ys.length) (hs : (Src md q own ro)[j]? = some (o.seg ys E)) (hsrc : cx.P.underlying src = some (.slice e)) (hd : cx.P.underlying dst = some .string) (he : cx.P.underlying e = some (.int .u8))
    (h : JG cx md ops Q rest base ((d, strV ys) :: L) own ro) : JG cx md ops Q ((⟨some d, .convert src dst x, ty, pos, aft, none⟩, q) :: rest) base L own ro := by
  cases hn : o.nl with
  | true =>
    obtain ⟨rfl, h2⟩ := hok.nl hn
    have ha : o.adr = none := by simp [Ow.adr, hn]
    rw [ha] at hx
    exact cvBS (s := ⟨true, 0, 0, o.cap, none⟩) j ⟨fun _ => rfl, Nat.zero_le _⟩ hx hl (by rw [hs]; simp [Ow.seg, Vs.seg, hn]) hsrc hd he h
  | false =>
    have ha : o.adr = some ⟨o.b, 0, none⟩ := by simp [Ow.adr, hn]
    rw [ha] at hx
    exact cvC (pre := []) (post := o.sp) j hx hl (by rw [hs]; simp only [Ow.seg, hn]; rfl) rfl rfl hsrc hd he h
end
theorem ow_cap {o : Ow} {ys : Str} (h : o.ok ys) (hl : 0 < ys.length) : o.cap ≠ 0 ∨ o.adr = none := .inl (by have := h.le; omega)
end Go.PW
namespace Go.PW
open Enc (enc val)
open Go
def blen (n : Nat) : Nat := if n = 0 then 0 else Nat.log2 n + 1
def len8L : Str := [0, 1, 2, 2, 3, 3, 3, 3, 4, 4, 4, 4, 4, 4, 4, 4, 5, 5, 5, 5, 5, 5, 5, 5, 5, 5, 5, 5, 5, 5, 5, 5, 6, 6, 6, 6, 6, 6, 6, 6, 6, 6, 6, 6, 6, 6, 6, 6, 6, 6, 6, 6, 6, 6, 6, 6, 6, 6, 6, 6, 6, 6, 6, 6, 7, 7, 7, 7, 7, 7, 7, 7, 7, 7, 7, 7, 7, 7, 7, 7, 7, 7, 7, 7, 7, 7, 7, 7, 7, 7, 7, 7, 7, 7, 7, 7, 7, 7, 7, 7, 7, 7, 7, 7, 7, 7, 7, 7, 7, 7, 7, 7, 7, 7, 7, 7, 7, 7, 7, 7, 7, 7, 7, 7, 7, 7, 7, 7, 8, 8, 8, 8, 8, 8, 8, 8, 8, 8, 8, 8, 8, 8, 8, 8, 8, 8, 8, 8, 8, 8, 8, 8, 8, 8, 8, 8, 8, 8, 8, 8, 8, 8, 8, 8, 8, 8, 8, 8, 8, 8, 8, 8, 8, 8, 8, 8, 8, 8, 8, 8, 8, 8, 8, 8, 8, 8, 8, 8, 8, 8, 8, 8, 8, 8, 8, 8, 8, 8, 8, 8, 8, 8, 8, 8, 8, 8, 8, 8, 8, 8, 8, 8, 8, 8, 8, 8, 8, 8, 8, 8, 8, 8, 8, 8, 8, 8, 8, 8, 8, 8, 8, 8, 8, 8, 8, 8, 8, 8, 8, 8, 8, 8, 8, 8, 8, 8, 8, 8, 8, 8, 8, 8, 8, 8, 8, 8]
def pow10L : List UInt64 := (List.range 20).map fun k => UInt64.ofNat (10 ^ k)
def dbL : Str := [0, 1, 56, 2, 57, 49, 28, 3, 61, 58, 42, 50, 38, 29, 17, 4, 62, 47, 59, 36, 45, 43, 51, 22, 53, 39, 33, 30, 24, 18, 12, 5, 63, 55, 48, 27, 60, 41, 37, 16, 46, 35, 44, 21, 52, 32, 23, 11, 54, 26, 40, 15, 34, 20, 31, 10, 25, 14, 19, 9, 13, 8, 7, 6]
def tPow10 (b : Nat) : Seg := [(b, .view 0 (encs pow10L))]
def tDb64 (b : Nat) : Seg := [(b, .view 0 (encs dbL))]
theorem blen_bd (n : Nat) : n < 2 ^ blen n ∧ (n = 0 ∨ 2 ^ (blen n - 1) ≤ n) := by
  unfold blen
  by_cases h : n = 0
  · subst h; simp
  · rw [if_neg h]
    exact ⟨Nat.lt_log2_self, .inr (by rw [Nat.add_sub_cancel]; exact Nat.log2_self_le h)⟩
theorem blen_of {n k : Nat} (h1 : n < 2 ^ k) (h2 : k = 0 ∨ 2 ^ (k - 1) ≤ n) : blen n = k := by
  have hb := blen_bd n
  rcases Nat.lt_trichotomy (blen n) k with h | h | h
  · rcases h2 with h2 | h2
    · omega
    · have : 2 ^ blen n ≤ 2 ^ (k - 1) := Nat.pow_le_pow_right (by omega) (by omega)
      omega
  · exact h
  · rcases hb.2 with h3 | h3
    · subst h3; simp [blen] at h
    · have : 2 ^ k ≤ 2 ^ (blen n - 1) := Nat.pow_le_pow_right (by omega) (by omega)
      omega
theorem blen_up (n s : Nat) (h : 1 ≤ n / 2 ^ s) : blen n = s + blen (n / 2 ^ s) := by
  have hb := blen_bd (n / 2 ^ s)
  refine blen_of ?_ (.inr ?_)
  · rw [Nat.pow_add]
    have h1 := hb.1
    rw [Nat.div_lt_iff_lt_mul (Nat.two_pow_pos s)] at h1
    rw [Nat.mul_comm]; exact h1
  · rcases hb.2 with h3 | h3
    · omega
    · have hp : 1 ≤ blen (n / 2 ^ s) := by
        unfold blen; rw [if_neg (by omega)]; omega
      rw [show s + blen (n / 2 ^ s) - 1 = s + (blen (n / 2 ^ s) - 1) by omega, Nat.pow_add]
      rw [Nat.le_div_iff_mul_le (Nat.two_pow_pos s)] at h3
      rw [Nat.mul_comm]; exact h3
theorem len8_at : ∀ k, k < 256 → (len8L.getD k 0).toNat = blen k := by decide +kernel
theorem len8_length : len8L.length = 256 := by decide +kernel
theorem blen_le {n : Nat} (h : n < 18446744073709551616) : blen n ≤ 64 := by
  rcases (blen_bd n).2 with h2 | h2
  · subst h2; simp [blen]
  · refine Nat.le_of_not_lt fun h3 => ?_
    have : 2 ^ 64 ≤ 2 ^ (blen n - 1) := Nat.pow_le_pow_right (by omega) (by omega)
    omega
theorem blen_pos {n : Nat} (h : 1 ≤ n) : 1 ≤ blen n := by unfold blen; rw [if_neg (by omega)]; omega
theorem pow10_at : ∀ k, k < 20 → (pow10L.getD k 0).toNat = 10 ^ k := by decide +kernel
theorem nd_tab : ∀ l, l < 65 → 1 ≤ l → 2 ^ l ≤ 10 ^ (l * 78913 / 262144 + 1) ∧ (l * 78913 / 262144 = 0 ∨ 10 ^ (l * 78913 / 262144 - 1) ≤ 2 ^ (l - 1)) ∧ l * 78913 / 262144 < 20 := by decide +kernel
theorem nd_law {n : Nat} (h1 : 1 ≤ n) (h2 : n < 18446744073709551616) : (blen n * 78913 / 262144) + (if 10 ^ (blen n * 78913 / 262144) ≤ n then 1 else 0) = ndg 10 64 n := by
  have hl := blen_le h2
  have hp := blen_pos h1
  have hb := blen_bd n
  obtain ⟨t1, t2, t3⟩ := nd_tab (blen n) (by omega) hp
  generalize hP : blen n * 78913 / 262144 = p at *
  symm
  by_cases h : 10 ^ p ≤ n
  · rw [if_pos h]
    exact ndg_of (by omega) (by omega) (by omega) (by omega) (.inr (by rw [Nat.add_sub_cancel]; exact h))
  · rw [if_neg h, Nat.add_zero]
    have hp0 : p ≠ 0 := fun e => by subst e; simp at h; omega
    refine ndg_of (by omega) (by omega) (by omega) (by omega) (.inr ?_)
    rcases t2 with t2 | t2
    · omega
    · rcases hb.2 with h3 | h3 <;> omega
theorem len_p {n m s : Nat} (hm : m % 256 = n / 2 ^ s) (h : s = 0 ∨ 1 ≤ n / 2 ^ s) : (s : Int) + ((blen (m % 256) : Nat) : Int) = ((blen n : Nat) : Int) := by
  rw [hm]
  rcases h with rfl | h
  · simp
  · rw [blen_up n s h]; omega
theorem nd_int {d : UInt64} (hd : 1 ≤ d.toNat) : ((blen d.toNat * 78913 / 262144 : Nat) : Int) + (if decide (((List.getD pow10L (blen d.toNat * 78913 / 262144) 0).toNat : Int) ≤ (d.toNat : Int)) = true then (1 : Int) else 0) = ((ndg 10 64 d.toNat : Nat) : Int) := by
  have hx := d.toNat_lt
  have h1 := nd_law hd (by omega)
  have hl := blen_le (n := d.toNat) (by omega)
  have hp := blen_pos hd
  obtain ⟨_, _, t3⟩ := nd_tab (blen d.toNat) (by omega) hp
  rw [pow10_at _ t3, ← h1]
  by_cases h : 10 ^ (blen d.toNat * 78913 / 262144) ≤ d.toNat
  · rw [if_pos h, if_pos (by rw [decide_eq_true_eq]; exact_mod_cast h)]; omega
  · rw [if_neg h, if_neg (by rw [decide_eq_true_eq]; exact_mod_cast h)]; omega
structure FB (N u0 nd : Nat) (ys : Str) (u : Nat) : Prop where
  le : nd ≤ N
  len : ys.length = N
  eq : digs 10 N u0 = digs 10 nd u ++ ys.drop nd
  lt : u < 10 ^ nd
theorem FB.begin {N u0 : Nat} {ys : Str} (hl : ys.length = N) (h : u0 < 10 ^ N) : FB N u0 N ys u0 := ⟨Nat.le_refl _, hl, by rw [List.drop_of_length_le (by omega)]; simp, h⟩
theorem FB.fin {N u0 u : Nat} {ys : Str} (h : FB N u0 0 ys u) : ys = digs 10 N u0 := by rw [h.eq]; simp [digs]
theorem FB.fin0 {N u0 nd u : Nat} {ys : Str} (h : FB N u0 nd ys u) (h0 : nd = 0) : ys = digs 10 N u0 := by subst h0; exact h.fin
theorem set_drop {ys : Str} {k : Nat} {v : UInt8} (h : k < ys.length) : (ys.set k v).drop k = v :: ys.drop (k + 1) := by
  rw [List.drop_eq_getElem_cons (by simpa using h), List.drop_set_of_lt (by omega)]; simp
theorem FB.one {N u0 nd u : Nat} {ys : Str} {c : UInt8} (h : FB N u0 nd ys u) (h1 : 1 ≤ nd) (hc : c = dch (u % 10)) : FB N u0 (nd - 1) (ys.set (nd - 1) c) (u / 10) := by
  obtain ⟨k, rfl⟩ : ∃ k, nd = k + 1 := ⟨nd - 1, by omega⟩
  rw [Nat.add_sub_cancel]
  refine ⟨by have := h.le; omega, by simpa using h.len, ?_, ?_⟩
  · rw [h.eq, set_drop (by have := h.le; have := h.len; omega), hc]
    simp [digs]
  · have := h.lt; rw [Nat.pow_succ] at this; omega
theorem FB.two {N u0 nd u : Nat} {ys : Str} {c d : UInt8} (h : FB N u0 nd ys u) (h1 : 2 ≤ nd) (hc : c = dch (u % 10)) (hd : d = dch (u / 10 % 10)) : FB N u0 (nd - 2) ((ys.set (nd - 1) c).set (nd - 2) d) (u / 100) := by
  have h2 := (h.one (by omega) hc).one (c := d) (by omega) hd
  rw [Nat.div_div_eq_div_mul] at h2
  exact h2
theorem FB.four {N u0 nd u : Nat} {ys : Str} {c0 c1 c2 c3 : UInt8} (h : FB N u0 nd ys u) (h1 : 4 ≤ nd) (e0 : c0 = dch (u % 10)) (e1 : c1 = dch (u / 10 % 10)) (e2 : c2 = dch (u / 100 % 10)) (e3 : c3 = dch (u / 1000 % 10)) :
    FB N u0 (nd - 4) ((((ys.set (nd - 1) c0).set (nd - 2) c1).set (nd - 3) c2).set (nd - 4) c3) (u / 10000) := by
  have h2 := (h.two (by omega) e0 e1).two (c := c2) (d := c3) (by omega) e2 (by rw [Nat.div_div_eq_div_mul]; exact e3)
  rw [Nat.div_div_eq_div_mul] at h2
  exact h2
theorem FB.eight {N u0 nd u : Nat} {ys : Str} {c0 c1 c2 c3 c4 c5 c6 c7 : UInt8} (h : FB N u0 nd ys u) (h1 : 8 ≤ nd) (e0 : c0 = dch (u % 10)) (e1 : c1 = dch (u / 10 % 10)) (e2 : c2 = dch (u / 100 % 10)) (e3 : c3 = dch (u / 1000 % 10))
    (e4 : c4 = dch (u / 10000 % 10)) (e5 : c5 = dch (u / 100000 % 10)) (e6 : c6 = dch (u / 1000000 % 10)) (e7 : c7 = dch (u / 10000000 % 10)) :
    FB N u0 (nd - 8) ((((((((ys.set (nd - 1) c0).set (nd - 2) c1).set (nd - 3) c2).set (nd - 4) c3).set (nd - 5) c4).set (nd - 6) c5).set (nd - 7) c6).set (nd - 8) c7) (u / 100000000) := by
  have h2 := (h.four (by omega) e0 e1 e2 e3).four (c0 := c4) (c1 := c5) (c2 := c6) (c3 := c7) (by omega) e4 (by rw [Nat.div_div_eq_div_mul]; exact e5) (by rw [Nat.div_div_eq_div_mul]; exact e6) (by rw [Nat.div_div_eq_div_mul]; exact e7)
  rw [Nat.div_div_eq_div_mul] at h2
  exact h2
theorem sml {x k : Nat} (h : x = 2 * k) (hk : k < 100) : smallsL.getD x 0 = dch (k / 10) := by subst h; exact (smallsL_at k hk).1
theorem smh {x k : Nat} (h : x = 2 * k + 1) (hk : k < 100) : smallsL.getD x 0 = dch (k % 10) := by subst h; exact (smallsL_at k hk).2
theorem sml2 {x k u : Nat} (h : x = 2 * k) (hk : k < 100) (hu : k / 10 = u) : smallsL.getD x 0 = dch u := by subst hu; exact sml h hk
theorem smh2 {x k u : Nat} (h : x = 2 * k + 1) (hk : k < 100) (hu : k % 10 = u) : smallsL.getD x 0 = dch u := by subst hu; exact smh h hk
theorem fb_x {w : UInt64} {nd : Nat} (h : w.toNat < 10 ^ nd) (hn : nd < 8) : (UInt32.ofNat w.toNat).toNat = w.toNat := by
  have : 10 ^ nd ≤ 10 ^ 7 := Nat.pow_le_pow_right (by omega) (by omega)
  rw [UInt32.toNat_ofNat']; omega
theorem dch_small {x : UInt32} {n : Nat} (h : x.toNat = 48 + n) (hn : n < 10) : UInt8.ofNat x.toNat = dch (n % 10) := by
  rw [h, Nat.mod_eq_of_lt hn]; unfold dch; rw [if_pos hn]
structure FX (u0 k : Nat) (a : Arr UInt8 65) (u : Nat) : Prop where
  le : k ≤ 15
  eq : a.l.drop (65 - k) = digs 16 k u0
  u : u = u0 / 16 ^ k
  ge : k = 0 ∨ 16 ^ k ≤ u0
theorem FX.begin (u0 : Nat) (a : Arr UInt8 65) : FX u0 0 a u0 := ⟨by omega, by rw [List.drop_of_length_le (by rw [a.h]; omega)]; rfl, by simp, .inl rfl⟩
theorem FX.put {u0 k : Nat} {a : Arr UInt8 65} {u : Nat} {c : UInt8} (h : FX u0 k a u) (hc : c = dch (u % 16)) : (a.set (64 - k) c).l.drop (64 - k) = digs 16 (k + 1) u0 := by
  have := h.le
  show (a.l.set (64 - k) c).drop (64 - k) = _
  rw [set_drop (by rw [a.h]; omega), show 64 - k + 1 = 65 - k by omega, h.eq, digs_head, hc, h.u]
theorem FX.step {u0 k : Nat} {a : Arr UInt8 65} {u : Nat} {c : UInt8} (h : FX u0 k a u) (h0 : u0 < 18446744073709551616) (hu : 16 ≤ u) (hc : c = dch (u % 16)) : FX u0 (k + 1) (a.set (64 - k) c) (u / 16) := by
  have hge : 16 ^ (k + 1) ≤ u0 := by
    have h1 := h.u
    rw [h1, Nat.le_div_iff_mul_le (Nat.pow_pos (by omega))] at hu
    rw [Nat.pow_succ, Nat.mul_comm]; exact hu
  have hle : k + 1 ≤ 15 := Nat.le_of_not_lt fun hn => by
    have : 16 ^ 16 ≤ 16 ^ (k + 1) := Nat.pow_le_pow_right (by omega) hn
    omega
  exact ⟨hle, by rw [show 65 - (k + 1) = 64 - k by omega]; exact h.put hc, by rw [h.u, Nat.div_div_eq_div_mul, ← Nat.pow_succ], .inr hge⟩
theorem FX.fin {u0 k : Nat} {a : Arr UInt8 65} {u : Nat} {c : UInt8} (h : FX u0 k a u) (hu : u < 16) (hc : c = dch u) : List.take (65 - (64 - k)) (List.drop (64 - k) (a.set (64 - k) c).l) = fmtN 16 u0 := by
  have hle := h.le
  rw [h.put (by rw [hc, Nat.mod_eq_of_lt hu]), List.take_of_length_le (by rw [digs_length]; omega)]
  symm
  refine fmtN_of (by omega) (by omega) (by omega) ?_ ?_
  · have h1 := h.u
    rw [h1, Nat.div_lt_iff_lt_mul (Nat.pow_pos (by omega))] at hu
    rw [Nat.pow_succ, Nat.mul_comm]; exact hu
  · rcases h.ge with h2 | h2
    · exact .inl (by omega)
    · exact .inr (by rw [Nat.add_sub_cancel]; exact h2)
theorem fx_and (w : UInt64) : (w &&& 15).toNat = w.toNat % 16 := by
  rw [UInt64.toNat_and, show (15 : UInt64).toNat = 2 ^ 4 - 1 from rfl, Nat.and_two_pow_sub_one_eq_mod]
theorem ndg_lt {b : Nat} (hb : 2 ≤ b) : ∀ f n, n < b ^ (f + 1) → n < b ^ ndg b f n
  | 0, n, h => by simpa [ndg] using h
  | f + 1, n, h => by
    unfold ndg
    by_cases hn : n < b
    · rw [if_pos hn, Nat.pow_one]; exact hn
    · rw [if_neg hn, Nat.pow_succ, ← Nat.div_lt_iff_lt_mul (by omega)]
      exact ndg_lt hb f (n / b) (by rw [Nat.div_lt_iff_lt_mul (by omega), ← Nat.pow_succ]; exact h)
theorem nd_lt {u : UInt64} : u.toNat < 10 ^ ndg 10 64 u.toNat := ndg_lt (by omega) 64 _ (Nat.lt_of_lt_of_le u.toNat_lt (by decide))
theorem nd_20 {u : UInt64} (h : 1 ≤ u.toNat) : ndg 10 64 u.toNat ≤ 20 := by
  have hx := u.toNat_lt
  rw [← nd_law h (by omega)]
  have hl := blen_le (n := u.toNat) (by omega)
  obtain ⟨_, _, t3⟩ := nd_tab (blen u.toNat) (by omega) (blen_pos h)
  split <;> omega
end Go.PW
namespace Go.Proofs.YthpbiamicidakaaDoor
open Go Go.Proofs Go.PW
open Go.PW.Enc (enc val)
theorem small_ct (n : Nat) (hn : n < 100) : Ct Tryd.prog 73 [.int .i64 (n : Int)] [] [] (fun v o r => v = strV (fmtN 10 n) ∧ o = [] ∧ r = []) := by
  refine ct_enter Tryd.func73 rfl Tryd.ntmps73 (by kernel_rfl) rfl fun w0 => ?_
  refine c_seq ?_
  refine c_reg ?_
  refine asg (.string _) rfl ?_
  refine jt ?_
  refine c_seq ?_
  refine c_seq ?_
  refine c_reg ?_
  refine mv (.int _ _) rfl ?_
  refine cmp _ rfl rfl rfl ?_
  refine jt ?_
  refine c_cond rfl (fun h1 => ?_) (fun h1 => ?_)
  · replace h1 := of_decide_eq_true h1
    refine c_seq ?_
    refine c_reg ?_
    refine mv (.int _ _) rfl ?_
    refine mv (.int _ _) rfl ?_
    refine addi rfl rfl rfl (by omega) ?_
    refine cutT (s := digitsL) n (n + 1) (by kernel_rfl) Tryd.underlying9 ⟨_, rfl⟩ ⟨_, congrArg (Value.int _) (by omega)⟩ (by omega) (by simp [digitsL]; omega) (List.take ((n + 1) - n) (List.drop n digitsL)) rfl ?_
    refine asg (.string _) rfl ?_
    refine jt ?_
    refine c_ret ?_
    exact j_end (own0 := []) (ro0 := []) (.inl rfl) rfl (hr1 Tryd.results73 (rvt (v := (.string _)) rfl)) [] [] [] [] [] _ rfl rfl (by kernel_rfl) rfl impl_nil (⟨by rw [← small_one n (by omega)]; simp, rfl, rfl⟩)
  · replace h1 := of_decide_eq_false h1
    refine c_skip ?_
    refine e_then ?_
    refine c_seq ?_
    refine c_reg ?_
    refine mv (.int _ _) rfl ?_
    refine muli rfl rfl rfl (by omega) ?_
    refine mv (.int _ _) rfl ?_
    refine muli rfl rfl rfl (by omega) ?_
    refine addi rfl rfl rfl (by omega) ?_
    refine cutT (s := smallsL) (2 * n) (2 * n + 2) (by kernel_rfl) Tryd.underlying9 ⟨_, congrArg (Value.int _) (by omega)⟩ ⟨_, congrArg (Value.int _) (by omega)⟩ (by omega) (by rw [smallsL_length]; omega) (List.take ((2 * n + 2) - (2 * n)) (List.drop (2 * n) smallsL)) rfl ?_
    refine asg (.string _) rfl ?_
    refine jt ?_
    refine c_ret ?_
    exact j_end (own0 := []) (ro0 := []) (.inl rfl) rfl (hr1 Tryd.results73 (rvt (v := (.string _)) rfl)) [] [] [] [] [] _ rfl rfl (by kernel_rfl) rfl impl_nil (⟨by rw [← small_two n hn (by omega)]; simp, rfl, rfl⟩)
theorem log10Pow2_ct (n : Nat) (hn : n ≤ 64) : Ct Tryd.prog 91 [.int .i64 (n : Int)] [] [] (fun v o r => v = .int .i64 ((n * 78913 / 262144 : Nat) : Int) ∧ o = [] ∧ r = []) := by
  refine ct_enter Tryd.func91 rfl Tryd.ntmps91 (by kernel_rfl) rfl fun w0 => ?_
  refine c_seq ?_
  refine c_reg ?_
  refine asg (.int _ _) rfl ?_
  refine jt ?_
  refine c_seq ?_
  refine c_reg ?_
  refine mv (.int _ _) rfl ?_
  refine muli rfl rfl rfl (by omega) ?_
  refine shrI (m := 262144) 18 rfl rfl rfl (by decide) ?_
  refine asg (.int _ _) rfl ?_
  refine jt ?_
  refine c_ret ?_
  exact j_end (own0 := []) (ro0 := []) (.inl rfl) rfl (hr1 Tryd.results91 (rvt (v := (.int _ _)) rfl)) [] [] [] [] [] _ rfl rfl (by kernel_rfl) rfl impl_nil (⟨congrArg (Value.int _) (by omega), rfl, rfl⟩)
theorem bool2_ct (b : Bool) : Ct Tryd.prog 93 [.bool b] [] [] (fun v o r => v = .int .i64 (if b = true then 1 else 0) ∧ o = [] ∧ r = []) := by
  refine ct_enter Tryd.func93 rfl Tryd.ntmps93 (by kernel_rfl) rfl fun w0 => ?_
  refine c_seq ?_
  refine c_reg ?_
  refine asg (.int _ _) rfl ?_
  refine jt ?_
  refine c_seq ?_
  refine c_seq ?_
  refine c_reg ?_
  refine mv (.bool _) rfl ?_
  refine jt ?_
  refine c_cond rfl (fun h1 => ?_) (fun h1 => ?_)
  · refine c_seq ?_
    refine c_reg ?_
    refine asg (.int _ _) rfl ?_
    refine jt ?_
    refine c_ret ?_
    exact j_end (own0 := []) (ro0 := []) (.inl rfl) rfl (hr1 Tryd.results93 (rvt (v := (.int _ _)) rfl)) [] [] [] [] [] _ rfl rfl (by kernel_rfl) rfl impl_nil (⟨by rw [h1]; rfl, rfl, rfl⟩)
  · refine c_skip ?_
    refine e_then ?_
    refine c_seq ?_
    refine c_reg ?_
    refine asg (.int _ _) rfl ?_
    refine jt ?_
    refine c_ret ?_
    exact j_end (own0 := []) (ro0 := []) (.inl rfl) rfl (hr1 Tryd.results93 (rvt (v := (.int _ _)) rfl)) [] [] [] [] [] _ rfl rfl (by kernel_rfl) rfl impl_nil (⟨by rw [h1]; rfl, rfl, rfl⟩)
set_option maxRecDepth 20000 in
set_option maxHeartbeats 4000000 in
theorem Len64_ct (x : UInt64) : Ct Tryd.prog 92 [.int .u64 (x.toNat : Int)] [] [] (fun v o r => v = .int .i64 (blen x.toNat : Int) ∧ o = [] ∧ r = []) := by
  have HX := x.toNat_lt
  refine ct_enter Tryd.func92 rfl Tryd.ntmps92 (by kernel_rfl) rfl fun w0 => ?_
  refine c_seq ?_
  refine c_reg ?_
  refine asg (.int _ _) rfl ?_
  refine jt ?_
  refine c_seq ?_
  refine c_seq ?_
  refine c_reg ?_
  refine mv (.int _ _) rfl ?_
  refine cmp _ rfl rfl rfl ?_
  refine jt ?_
  refine c_cond rfl (fun h1 => ?_) (fun h1 => ?_)
  · replace h1 := of_decide_eq_true h1
    refine c_seq ?_
    refine c_reg ?_
    refine mv (.int _ _) rfl ?_
    refine shrRU64 (a := x) 32 rfl rfl rfl ?_
    refine asg (.int _ _) rfl ?_
    refine jt ?_
    refine c_reg ?_
    refine asg (.int _ _) rfl ?_
    refine jt ?_
    refine c_seq ?_
    refine c_seq ?_
    refine c_reg ?_
    refine mv (.int _ _) rfl ?_
    refine cmp _ rfl rfl rfl ?_
    refine jt ?_
    refine c_cond rfl (fun h2 => ?_) (fun h2 => ?_)
    · replace h2 := of_decide_eq_true h2
      refine c_seq ?_
      refine c_reg ?_
      refine mv (.int _ _) rfl ?_
      refine shrRU64 (a := (shrU64 x 32)) 16 rfl rfl rfl ?_
      refine asg (.int _ _) rfl ?_
      refine jt ?_
      refine c_reg ?_
      refine mv (.int _ _) rfl ?_
      refine bopI (.int .i64 48) rfl rfl (by kernel_rfl) ?_
      refine asg (.int _ _) rfl ?_
      refine jt ?_
      refine c_seq ?_
      refine c_seq ?_
      refine c_reg ?_
      refine mv (.int _ _) rfl ?_
      refine cmp _ rfl rfl rfl ?_
      refine jt ?_
      refine c_cond rfl (fun h3 => ?_) (fun h3 => ?_)
      · replace h3 := of_decide_eq_true h3
        refine c_seq ?_
        refine c_reg ?_
        refine mv (.int _ _) rfl ?_
        refine shrRU64 (a := (shrU64 (shrU64 x 32) 16)) 8 rfl rfl rfl ?_
        refine asg (.int _ _) rfl ?_
        refine jt ?_
        refine c_reg ?_
        refine mv (.int _ _) rfl ?_
        refine bopI (.int .i64 56) rfl rfl (by kernel_rfl) ?_
        refine asg (.int _ _) rfl ?_
        refine jt ?_
        refine c_seq ?_
        refine c_reg ?_
        refine mv (.int _ _) rfl ?_
        refine mv (.int _ _) rfl ?_
        refine cvNU8 (n := (shrU64 (shrU64 (shrU64 x 32) 16) 8).toNat) rfl Tryd.underlying23 Tryd.underlying5 ?_
        refine idxT (s := len8L) ((UInt8.ofNat ((shrU64 (shrU64 (shrU64 x 32) 16) 8).toNat)).toNat) (by kernel_rfl) rfl Tryd.underlying9 rfl (by rw [len8_length]; exact UInt8.toNat_lt _) ?_
        have H9 := UInt8.toNat_lt (List.getD len8L ((UInt8.ofNat ((shrU64 (shrU64 (shrU64 x 32) 16) 8).toNat)).toNat) 0)
        refine cvI ((List.getD len8L ((UInt8.ofNat ((shrU64 (shrU64 (shrU64 x 32) 16) 8).toNat)).toNat) 0).toNat : Int) rfl Tryd.underlying5 Tryd.underlying3 (wI64 (by have := UInt8.toNat_lt (List.getD len8L ((UInt8.ofNat ((shrU64 (shrU64 (shrU64 x 32) 16) 8).toNat)).toNat) 0); omega)) ?_
        refine addi rfl rfl rfl (by omega) ?_
        refine asg (.int _ _) rfl ?_
        refine jt ?_
        refine c_ret ?_
        exact j_end (own0 := []) (ro0 := []) (.inl rfl) rfl (hr1 Tryd.results92 (rvt (v := (.int _ _)) rfl)) [] [] [] [] [] _ rfl rfl (by kernel_rfl) rfl impl_nil (⟨congrArg (Value.int _) (by rw [len8_at _ (UInt8.toNat_lt _)]; simp only [UInt8.toNat_ofNat', shrU64_toNat, Nat.reducePow] at *; exact len_p (s := 56) (by omega) (by omega)), rfl, rfl⟩)
      · replace h3 := of_decide_eq_false h3
        refine c_skip ?_
        refine e_then ?_
        refine c_seq ?_
        refine c_reg ?_
        refine mv (.int _ _) rfl ?_
        refine mv (.int _ _) rfl ?_
        refine cvNU8 (n := (shrU64 (shrU64 x 32) 16).toNat) rfl Tryd.underlying23 Tryd.underlying5 ?_
        refine idxT (s := len8L) ((UInt8.ofNat ((shrU64 (shrU64 x 32) 16).toNat)).toNat) (by kernel_rfl) rfl Tryd.underlying9 rfl (by rw [len8_length]; exact UInt8.toNat_lt _) ?_
        have H9 := UInt8.toNat_lt (List.getD len8L ((UInt8.ofNat ((shrU64 (shrU64 x 32) 16).toNat)).toNat) 0)
        refine cvI ((List.getD len8L ((UInt8.ofNat ((shrU64 (shrU64 x 32) 16).toNat)).toNat) 0).toNat : Int) rfl Tryd.underlying5 Tryd.underlying3 (wI64 (by have := UInt8.toNat_lt (List.getD len8L ((UInt8.ofNat ((shrU64 (shrU64 x 32) 16).toNat)).toNat) 0); omega)) ?_
        refine addi rfl rfl rfl (by omega) ?_
        refine asg (.int _ _) rfl ?_
        refine jt ?_
        refine c_ret ?_
        exact j_end (own0 := []) (ro0 := []) (.inl rfl) rfl (hr1 Tryd.results92 (rvt (v := (.int _ _)) rfl)) [] [] [] [] [] _ rfl rfl (by kernel_rfl) rfl impl_nil (⟨congrArg (Value.int _) (by rw [len8_at _ (UInt8.toNat_lt _)]; simp only [UInt8.toNat_ofNat', shrU64_toNat, Nat.reducePow] at *; exact len_p (s := 48) (by omega) (by omega)), rfl, rfl⟩)
    · replace h2 := of_decide_eq_false h2
      refine c_skip ?_
      refine e_then ?_
      refine c_seq ?_
      refine c_seq ?_
      refine c_reg ?_
      refine mv (.int _ _) rfl ?_
      refine cmp _ rfl rfl rfl ?_
      refine jt ?_
      refine c_cond rfl (fun h4 => ?_) (fun h4 => ?_)
      · replace h4 := of_decide_eq_true h4
        refine c_seq ?_
        refine c_reg ?_
        refine mv (.int _ _) rfl ?_
        refine shrRU64 (a := (shrU64 x 32)) 8 rfl rfl rfl ?_
        refine asg (.int _ _) rfl ?_
        refine jt ?_
        refine c_reg ?_
        refine mv (.int _ _) rfl ?_
        refine bopI (.int .i64 40) rfl rfl (by kernel_rfl) ?_
        refine asg (.int _ _) rfl ?_
        refine jt ?_
        refine c_seq ?_
        refine c_reg ?_
        refine mv (.int _ _) rfl ?_
        refine mv (.int _ _) rfl ?_
        refine cvNU8 (n := (shrU64 (shrU64 x 32) 8).toNat) rfl Tryd.underlying23 Tryd.underlying5 ?_
        refine idxT (s := len8L) ((UInt8.ofNat ((shrU64 (shrU64 x 32) 8).toNat)).toNat) (by kernel_rfl) rfl Tryd.underlying9 rfl (by rw [len8_length]; exact UInt8.toNat_lt _) ?_
        have H9 := UInt8.toNat_lt (List.getD len8L ((UInt8.ofNat ((shrU64 (shrU64 x 32) 8).toNat)).toNat) 0)
        refine cvI ((List.getD len8L ((UInt8.ofNat ((shrU64 (shrU64 x 32) 8).toNat)).toNat) 0).toNat : Int) rfl Tryd.underlying5 Tryd.underlying3 (wI64 (by have := UInt8.toNat_lt (List.getD len8L ((UInt8.ofNat ((shrU64 (shrU64 x 32) 8).toNat)).toNat) 0); omega)) ?_
        refine addi rfl rfl rfl (by omega) ?_
        refine asg (.int _ _) rfl ?_
        refine jt ?_
        refine c_ret ?_
        exact j_end (own0 := []) (ro0 := []) (.inl rfl) rfl (hr1 Tryd.results92 (rvt (v := (.int _ _)) rfl)) [] [] [] [] [] _ rfl rfl (by kernel_rfl) rfl impl_nil (⟨congrArg (Value.int _) (by rw [len8_at _ (UInt8.toNat_lt _)]; simp only [UInt8.toNat_ofNat', shrU64_toNat, Nat.reducePow] at *; exact len_p (s := 40) (by omega) (by omega)), rfl, rfl⟩)
      · replace h4 := of_decide_eq_false h4
        refine c_skip ?_
        refine e_then ?_
        refine c_seq ?_
        refine c_reg ?_
        refine mv (.int _ _) rfl ?_
        refine mv (.int _ _) rfl ?_
        refine cvNU8 (n := (shrU64 x 32).toNat) rfl Tryd.underlying23 Tryd.underlying5 ?_
        refine idxT (s := len8L) ((UInt8.ofNat ((shrU64 x 32).toNat)).toNat) (by kernel_rfl) rfl Tryd.underlying9 rfl (by rw [len8_length]; exact UInt8.toNat_lt _) ?_
        have H9 := UInt8.toNat_lt (List.getD len8L ((UInt8.ofNat ((shrU64 x 32).toNat)).toNat) 0)
        refine cvI ((List.getD len8L ((UInt8.ofNat ((shrU64 x 32).toNat)).toNat) 0).toNat : Int) rfl Tryd.underlying5 Tryd.underlying3 (wI64 (by have := UInt8.toNat_lt (List.getD len8L ((UInt8.ofNat ((shrU64 x 32).toNat)).toNat) 0); omega)) ?_
        refine addi rfl rfl rfl (by omega) ?_
        refine asg (.int _ _) rfl ?_
        refine jt ?_
        refine c_ret ?_
        exact j_end (own0 := []) (ro0 := []) (.inl rfl) rfl (hr1 Tryd.results92 (rvt (v := (.int _ _)) rfl)) [] [] [] [] [] _ rfl rfl (by kernel_rfl) rfl impl_nil (⟨congrArg (Value.int _) (by rw [len8_at _ (UInt8.toNat_lt _)]; simp only [UInt8.toNat_ofNat', shrU64_toNat, Nat.reducePow] at *; exact len_p (s := 32) (by omega) (by omega)), rfl, rfl⟩)
  · replace h1 := of_decide_eq_false h1
    refine c_skip ?_
    refine e_then ?_
    refine c_seq ?_
    refine c_seq ?_
    refine c_reg ?_
    refine mv (.int _ _) rfl ?_
    refine cmp _ rfl rfl rfl ?_
    refine jt ?_
    refine c_cond rfl (fun h5 => ?_) (fun h5 => ?_)
    · replace h5 := of_decide_eq_true h5
      refine c_seq ?_
      refine c_reg ?_
      refine mv (.int _ _) rfl ?_
      refine shrRU64 (a := x) 16 rfl rfl rfl ?_
      refine asg (.int _ _) rfl ?_
      refine jt ?_
      refine c_reg ?_
      refine mv (.int _ _) rfl ?_
      refine bopI (.int .i64 16) rfl rfl (by kernel_rfl) ?_
      refine asg (.int _ _) rfl ?_
      refine jt ?_
      refine c_seq ?_
      refine c_seq ?_
      refine c_reg ?_
      refine mv (.int _ _) rfl ?_
      refine cmp _ rfl rfl rfl ?_
      refine jt ?_
      refine c_cond rfl (fun h6 => ?_) (fun h6 => ?_)
      · replace h6 := of_decide_eq_true h6
        refine c_seq ?_
        refine c_reg ?_
        refine mv (.int _ _) rfl ?_
        refine shrRU64 (a := (shrU64 x 16)) 8 rfl rfl rfl ?_
        refine asg (.int _ _) rfl ?_
        refine jt ?_
        refine c_reg ?_
        refine mv (.int _ _) rfl ?_
        refine bopI (.int .i64 24) rfl rfl (by kernel_rfl) ?_
        refine asg (.int _ _) rfl ?_
        refine jt ?_
        refine c_seq ?_
        refine c_reg ?_
        refine mv (.int _ _) rfl ?_
        refine mv (.int _ _) rfl ?_
        refine cvNU8 (n := (shrU64 (shrU64 x 16) 8).toNat) rfl Tryd.underlying23 Tryd.underlying5 ?_
        refine idxT (s := len8L) ((UInt8.ofNat ((shrU64 (shrU64 x 16) 8).toNat)).toNat) (by kernel_rfl) rfl Tryd.underlying9 rfl (by rw [len8_length]; exact UInt8.toNat_lt _) ?_
        have H9 := UInt8.toNat_lt (List.getD len8L ((UInt8.ofNat ((shrU64 (shrU64 x 16) 8).toNat)).toNat) 0)
        refine cvI ((List.getD len8L ((UInt8.ofNat ((shrU64 (shrU64 x 16) 8).toNat)).toNat) 0).toNat : Int) rfl Tryd.underlying5 Tryd.underlying3 (wI64 (by have := UInt8.toNat_lt (List.getD len8L ((UInt8.ofNat ((shrU64 (shrU64 x 16) 8).toNat)).toNat) 0); omega)) ?_
        refine addi rfl rfl rfl (by omega) ?_
        refine asg (.int _ _) rfl ?_
        refine jt ?_
        refine c_ret ?_
        exact j_end (own0 := []) (ro0 := []) (.inl rfl) rfl (hr1 Tryd.results92 (rvt (v := (.int _ _)) rfl)) [] [] [] [] [] _ rfl rfl (by kernel_rfl) rfl impl_nil (⟨congrArg (Value.int _) (by rw [len8_at _ (UInt8.toNat_lt _)]; simp only [UInt8.toNat_ofNat', shrU64_toNat, Nat.reducePow] at *; exact len_p (s := 24) (by omega) (by omega)), rfl, rfl⟩)
      · replace h6 := of_decide_eq_false h6
        refine c_skip ?_
        refine e_then ?_
        refine c_seq ?_
        refine c_reg ?_
        refine mv (.int _ _) rfl ?_
        refine mv (.int _ _) rfl ?_
        refine cvNU8 (n := (shrU64 x 16).toNat) rfl Tryd.underlying23 Tryd.underlying5 ?_
        refine idxT (s := len8L) ((UInt8.ofNat ((shrU64 x 16).toNat)).toNat) (by kernel_rfl) rfl Tryd.underlying9 rfl (by rw [len8_length]; exact UInt8.toNat_lt _) ?_
        have H9 := UInt8.toNat_lt (List.getD len8L ((UInt8.ofNat ((shrU64 x 16).toNat)).toNat) 0)
        refine cvI ((List.getD len8L ((UInt8.ofNat ((shrU64 x 16).toNat)).toNat) 0).toNat : Int) rfl Tryd.underlying5 Tryd.underlying3 (wI64 (by have := UInt8.toNat_lt (List.getD len8L ((UInt8.ofNat ((shrU64 x 16).toNat)).toNat) 0); omega)) ?_
        refine addi rfl rfl rfl (by omega) ?_
        refine asg (.int _ _) rfl ?_
        refine jt ?_
        refine c_ret ?_
        exact j_end (own0 := []) (ro0 := []) (.inl rfl) rfl (hr1 Tryd.results92 (rvt (v := (.int _ _)) rfl)) [] [] [] [] [] _ rfl rfl (by kernel_rfl) rfl impl_nil (⟨congrArg (Value.int _) (by rw [len8_at _ (UInt8.toNat_lt _)]; simp only [UInt8.toNat_ofNat', shrU64_toNat, Nat.reducePow] at *; exact len_p (s := 16) (by omega) (by omega)), rfl, rfl⟩)
    · replace h5 := of_decide_eq_false h5
      refine c_skip ?_
      refine e_then ?_
      refine c_seq ?_
      refine c_seq ?_
      refine c_reg ?_
      refine mv (.int _ _) rfl ?_
      refine cmp _ rfl rfl rfl ?_
      refine jt ?_
      refine c_cond rfl (fun h7 => ?_) (fun h7 => ?_)
      · replace h7 := of_decide_eq_true h7
        refine c_seq ?_
        refine c_reg ?_
        refine mv (.int _ _) rfl ?_
        refine shrRU64 (a := x) 8 rfl rfl rfl ?_
        refine asg (.int _ _) rfl ?_
        refine jt ?_
        refine c_reg ?_
        refine mv (.int _ _) rfl ?_
        refine bopI (.int .i64 8) rfl rfl (by kernel_rfl) ?_
        refine asg (.int _ _) rfl ?_
        refine jt ?_
        refine c_seq ?_
        refine c_reg ?_
        refine mv (.int _ _) rfl ?_
        refine mv (.int _ _) rfl ?_
        refine cvNU8 (n := (shrU64 x 8).toNat) rfl Tryd.underlying23 Tryd.underlying5 ?_
        refine idxT (s := len8L) ((UInt8.ofNat ((shrU64 x 8).toNat)).toNat) (by kernel_rfl) rfl Tryd.underlying9 rfl (by rw [len8_length]; exact UInt8.toNat_lt _) ?_
        have H9 := UInt8.toNat_lt (List.getD len8L ((UInt8.ofNat ((shrU64 x 8).toNat)).toNat) 0)
        refine cvI ((List.getD len8L ((UInt8.ofNat ((shrU64 x 8).toNat)).toNat) 0).toNat : Int) rfl Tryd.underlying5 Tryd.underlying3 (wI64 (by have := UInt8.toNat_lt (List.getD len8L ((UInt8.ofNat ((shrU64 x 8).toNat)).toNat) 0); omega)) ?_
        refine addi rfl rfl rfl (by omega) ?_
        refine asg (.int _ _) rfl ?_
        refine jt ?_
        refine c_ret ?_
        exact j_end (own0 := []) (ro0 := []) (.inl rfl) rfl (hr1 Tryd.results92 (rvt (v := (.int _ _)) rfl)) [] [] [] [] [] _ rfl rfl (by kernel_rfl) rfl impl_nil (⟨congrArg (Value.int _) (by rw [len8_at _ (UInt8.toNat_lt _)]; simp only [UInt8.toNat_ofNat', shrU64_toNat, Nat.reducePow] at *; exact len_p (s := 8) (by omega) (by omega)), rfl, rfl⟩)
      · replace h7 := of_decide_eq_false h7
        refine c_skip ?_
        refine e_then ?_
        refine c_seq ?_
        refine c_reg ?_
        refine mv (.int _ _) rfl ?_
        refine mv (.int _ _) rfl ?_
        refine cvNU8 (n := x.toNat) rfl Tryd.underlying23 Tryd.underlying5 ?_
        refine idxT (s := len8L) ((UInt8.ofNat x.toNat).toNat) (by kernel_rfl) rfl Tryd.underlying9 rfl (by rw [len8_length]; exact UInt8.toNat_lt _) ?_
        have H9 := UInt8.toNat_lt (List.getD len8L ((UInt8.ofNat x.toNat).toNat) 0)
        refine cvI ((List.getD len8L ((UInt8.ofNat x.toNat).toNat) 0).toNat : Int) rfl Tryd.underlying5 Tryd.underlying3 (wI64 (by have := UInt8.toNat_lt (List.getD len8L ((UInt8.ofNat x.toNat).toNat) 0); omega)) ?_
        refine addi rfl rfl rfl (by omega) ?_
        refine asg (.int _ _) rfl ?_
        refine jt ?_
        refine c_ret ?_
        exact j_end (own0 := []) (ro0 := []) (.inl rfl) rfl (hr1 Tryd.results92 (rvt (v := (.int _ _)) rfl)) [] [] [] [] [] _ rfl rfl (by kernel_rfl) rfl impl_nil (⟨congrArg (Value.int _) (by rw [len8_at _ (UInt8.toNat_lt _)]; simp only [UInt8.toNat_ofNat', shrU64_toNat, Nat.reducePow] at *; exact len_p (s := 0) (by omega) (by omega)), rfl, rfl⟩)
theorem numDigits_ct (d : UInt64) (hd : 1 ≤ d.toNat) : Ct Tryd.prog 74 [.int .u64 (d.toNat : Int)] [] [tPow10 3] (fun v o r => v = .int .i64 (ndg 10 64 d.toNat : Int) ∧ o = [] ∧ r = []) := by
  have HX := d.toNat_lt
  have HL := blen_le (n := d.toNat) (by omega)
  have HB := blen_pos hd
  refine ct_enter Tryd.func74 rfl Tryd.ntmps74 (by kernel_rfl) rfl fun w0 => ?_
  refine c_seq ?_
  refine c_reg ?_
  refine asg (.int _ _) rfl ?_
  refine jt ?_
  refine c_seq ?_
  refine c_reg ?_
  refine mv (.int _ _) rfl ?_
  refine cal (Len64_ct d) [] [] [] rfl rfl rfl (by kernel_rfl) impl_nil rfl ?_; rintro _ _ _ ⟨rfl, rfl, rfl⟩; refine ⟨trivial, ?_⟩
  refine cal (log10Pow2_ct (blen d.toNat) (by omega)) [] [] [] rfl rfl rfl (by kernel_rfl) impl_nil rfl ?_; rintro _ _ _ ⟨rfl, rfl, rfl⟩; refine ⟨trivial, ?_⟩
  refine asg (.int _ _) rfl ?_
  refine jt ?_
  refine c_seq ?_
  refine c_reg ?_
  refine mv (.int _ _) rfl ?_
  refine mv (.int _ _) rfl ?_
  refine mv (.int _ _) rfl ?_
  refine ixaA (blen d.toNat * 78913 / 262144) rfl rfl Tryd.underlying127 ty23.sz rfl (show (blen d.toNat * 78913 / 262144) < 20 by omega) ?_
  refine ldvG 0 (blen d.toNat * 78913 / 262144) (List.getD pow10L (blen d.toNat * 78913 / 262144) (0)) rfl rfl rfl (getD_some (show (blen d.toNat * 78913 / 262144) < 20 by omega)) ty23 ?_
  refine cmp _ rfl rfl rfl ?_
  refine cal (bool2_ct (decide (((List.getD pow10L (blen d.toNat * 78913 / 262144) (0)).toNat : Int) ≤ (d.toNat : Int)))) [] [] [] rfl rfl rfl (by kernel_rfl) impl_nil rfl ?_; rintro _ _ _ ⟨rfl, rfl, rfl⟩; refine ⟨trivial, ?_⟩
  refine addi rfl rfl rfl (by omega) ?_
  refine asg (.int _ _) rfl ?_
  refine jt ?_
  refine c_ret ?_
  exact j_end (own0 := []) (ro0 := [tPow10 3]) (.inl rfl) rfl (hr1 Tryd.results74 (rvt (v := (.int _ _)) rfl)) [] [] [] [] [] _ rfl rfl (by kernel_rfl) rfl impl_nil (⟨congrArg (Value.int _) (nd_int hd), rfl, rfl⟩)
set_option maxRecDepth 20000 in
set_option maxHeartbeats 4000000 in
theorem formatBase10_ct (b E cp N : Nat) (pre post : List Value) (ys0 : Str) (u : UInt64) (hN : ys0.length = N) (hN2 : N ≤ 24) (hu : u.toNat < 10 ^ N) : Ct Tryd.prog 75 [.slice (some ⟨b, pre.length, none⟩) ys0.length cp, .int .u64 (u.toNat : Int)] [Gseg b E pre ys0 post] [] (fun v o r => v = .tuple #[] ∧ o = [Gseg b E pre (digs 10 N u.toNat) post] ∧ r = []) := by
  have HU := u.toNat_lt
  refine ct_enter Tryd.func75 rfl Tryd.ntmps75 (by kernel_rfl) rfl fun w0 => ?_
  refine c_seq ?_
  refine c_reg ?_
  refine mv (.slice _ _ _) rfl ?_
  refine lenS rfl Tryd.underlying50 ?_
  refine asg (.int _ _) rfl ?_
  refine jt ?_
  refine c_seq ?_
  refine c_block ?_
  refine c_loop (σ := Nat × Str × UInt64) (fun (nd, ys, w) => FB N u.toNat nd ys w.toNat) (fun (nd, ys, w) => nd) (fun (nd, ys, w) => [(4, .int .i64 (nd : Int)), (1, .int .u64 (w.toNat : Int))]) (fun (nd, ys, w) => [Gseg b E pre ys post]) (fun (nd, ys, w) => []) [1, 4, 5, 6, 7, 8, 9, 10, 11, 19, 20, 21, 22, 23, 24, 25, 26, 27, 28, 29, 30, 31, 32, 33, 34, 35, 36, 37, 38, 39, 40, 41, 42, 43, 44, 45, 46, 47, 48, 49, 50, 51, 52, 53, 54, 55, 56, 57, 58, 59, 60, 61, 62, 63, 64, 65, 66, 67, 68, 69, 70, 71, 72, 73, 74, 75, 76, 77, 78, 79, 80, 81, 82, 83, 84, 85, 86, 87, 88, 89, 90, 91, 92, 93, 94, 95] (N, ys0, u) (FB.begin hN hu) ⟨congrArg (Value.int _) (by omega), rfl, trivial⟩ rfl rfl ?_
  rintro ⟨nd, ys, w⟩ g1 hI1
  try dsimp only at hI1 ⊢
  have HLE := hI1.le
  have HLN := hI1.len
  have HW := w.toNat_lt
  refine c_seq ?_
  refine c_seq ?_
  refine c_reg ?_
  refine mv (.int _ _) rfl ?_
  refine cmp _ rfl rfl rfl ?_
  refine jt ?_
  refine c_cond rfl (fun h1 => ?_) (fun h1 => ?_)
  · replace h1 := of_decide_eq_true h1
    refine c_skip ?_
    refine e_then ?_
    refine c_block ?_
    refine c_seq ?_
    refine c_reg ?_
    refine mv (.int _ _) rfl ?_
    refine remU64 (a := w) (b := (100000000 : UInt64)) rfl rfl (by decide) ?_
    refine cvNU32 (n := (w % (100000000 : UInt64)).toNat) rfl Tryd.underlying23 Tryd.underlying47 ?_
    have N23 : (UInt32.ofNat ((w % (100000000 : UInt64)).toNat)).toNat = w.toNat % 100000000 := by rw [UInt32.toNat_ofNat', UInt64.toNat_mod]; simp only [UInt64.reduceToNat, Nat.reducePow]; omega
    refine asg (.int _ _) rfl ?_
    refine jt ?_
    refine c_seq ?_
    refine c_reg ?_
    refine mv (.int _ _) rfl ?_
    refine quoU64 (a := w) (b := (100000000 : UInt64)) rfl rfl (by decide) ?_
    refine asg (.int _ _) rfl ?_
    refine jt ?_
    refine c_seq ?_
    refine c_reg ?_
    refine mv (.int _ _) rfl ?_
    refine quoU32 (a := (UInt32.ofNat ((w % (100000000 : UInt64)).toNat))) (b := (10000 : UInt32)) rfl rfl (by decide) ?_
    have N27 : ((UInt32.ofNat ((w % (100000000 : UInt64)).toNat)) / (10000 : UInt32)).toNat = w.toNat % 100000000 / 10000 := by rw [UInt32.toNat_div, N23]; rfl
    refine mv (.int _ _) rfl ?_
    refine remU32 (a := (UInt32.ofNat ((w % (100000000 : UInt64)).toNat))) (b := (10000 : UInt32)) rfl rfl (by decide) ?_
    have N29 : ((UInt32.ofNat ((w % (100000000 : UInt64)).toNat)) % (10000 : UInt32)).toNat = w.toNat % 10000 := by rw [UInt32.toNat_mod, N23]; simp only [UInt32.reduceToNat, Nat.reducePow]; omega
    refine asg (.int _ _) rfl ?_
    refine asg (.int _ _) rfl ?_
    refine jt ?_
    refine c_seq ?_
    refine c_reg ?_
    refine mv (.int _ _) rfl ?_
    refine quoU32 (a := ((UInt32.ofNat ((w % (100000000 : UInt64)).toNat)) % (10000 : UInt32))) (b := (100 : UInt32)) rfl rfl (by decide) ?_
    refine mulU32 (a := (((UInt32.ofNat ((w % (100000000 : UInt64)).toNat)) % (10000 : UInt32)) / (100 : UInt32))) (b := (2 : UInt32)) rfl rfl ?_
    have N32 : ((((UInt32.ofNat ((w % (100000000 : UInt64)).toNat)) % (10000 : UInt32)) / (100 : UInt32)) * (2 : UInt32)).toNat = 2 * (w.toNat / 100 % 100) := by rw [UInt32.toNat_mul, UInt32.toNat_div, N29]; simp only [UInt32.reduceToNat, Nat.reducePow]; omega
    refine mv (.int _ _) rfl ?_
    refine remU32 (a := ((UInt32.ofNat ((w % (100000000 : UInt64)).toNat)) % (10000 : UInt32))) (b := (100 : UInt32)) rfl rfl (by decide) ?_
    refine mulU32 (a := (((UInt32.ofNat ((w % (100000000 : UInt64)).toNat)) % (10000 : UInt32)) % (100 : UInt32))) (b := (2 : UInt32)) rfl rfl ?_
    have N35 : ((((UInt32.ofNat ((w % (100000000 : UInt64)).toNat)) % (10000 : UInt32)) % (100 : UInt32)) * (2 : UInt32)).toNat = 2 * (w.toNat % 100) := by rw [UInt32.toNat_mul, UInt32.toNat_mod, N29]; simp only [UInt32.reduceToNat, Nat.reducePow]; omega
    refine asg (.int _ _) rfl ?_
    refine asg (.int _ _) rfl ?_
    refine jt ?_
    refine c_seq ?_
    refine c_reg ?_
    refine mv (.int _ _) rfl ?_
    refine quoU32 (a := ((UInt32.ofNat ((w % (100000000 : UInt64)).toNat)) / (10000 : UInt32))) (b := (100 : UInt32)) rfl rfl (by decide) ?_
    refine mulU32 (a := (((UInt32.ofNat ((w % (100000000 : UInt64)).toNat)) / (10000 : UInt32)) / (100 : UInt32))) (b := (2 : UInt32)) rfl rfl ?_
    have N38 : ((((UInt32.ofNat ((w % (100000000 : UInt64)).toNat)) / (10000 : UInt32)) / (100 : UInt32)) * (2 : UInt32)).toNat = 2 * (w.toNat / 1000000 % 100) := by rw [UInt32.toNat_mul, UInt32.toNat_div, N27]; simp only [UInt32.reduceToNat, Nat.reducePow]; omega
    refine mv (.int _ _) rfl ?_
    refine remU32 (a := ((UInt32.ofNat ((w % (100000000 : UInt64)).toNat)) / (10000 : UInt32))) (b := (100 : UInt32)) rfl rfl (by decide) ?_
    refine mulU32 (a := (((UInt32.ofNat ((w % (100000000 : UInt64)).toNat)) / (10000 : UInt32)) % (100 : UInt32))) (b := (2 : UInt32)) rfl rfl ?_
    have N41 : ((((UInt32.ofNat ((w % (100000000 : UInt64)).toNat)) / (10000 : UInt32)) % (100 : UInt32)) * (2 : UInt32)).toNat = 2 * (w.toNat / 10000 % 100) := by rw [UInt32.toNat_mul, UInt32.toNat_mod, N27]; simp only [UInt32.reduceToNat, Nat.reducePow]; omega
    refine asg (.int _ _) rfl ?_
    refine asg (.int _ _) rfl ?_
    refine jt ?_
    refine c_seq ?_
    refine c_dr [] [] [(0, 0), (1, 0), (2, 0), (3, 0), (4, 0), (5, 0), (6, 0), (7, 0), (8, 0), (9, 0), (10, 0), (11, 0), (12, 1), (13, 0), (14, 1)] follows (by kernel_rfl) calm_body (keepS [] rfl) ?_
    refine mv (.slice _ _ _) rfl ?_
    refine mv (.int _ _) rfl ?_
    refine subi rfl rfl rfl (by omega) ?_
    refine mv (.slice _ _ _) rfl ?_
    refine mv (.int _ _) rfl ?_
    refine subi rfl rfl rfl (by omega) ?_
    refine mv (.int _ _) rfl ?_
    refine addU32 (a := ((((UInt32.ofNat ((w % (100000000 : UInt64)).toNat)) % (10000 : UInt32)) % (100 : UInt32)) * (2 : UInt32))) (b := (1 : UInt32)) rfl rfl ?_
    have N49 : (((((UInt32.ofNat ((w % (100000000 : UInt64)).toNat)) % (10000 : UInt32)) % (100 : UInt32)) * (2 : UInt32)) + (1 : UInt32)).toNat = 2 * (w.toNat % 100) + 1 := by rw [UInt32.toNat_add, N35]; simp only [UInt32.reduceToNat, Nat.reducePow]; omega
    refine idxT (s := smallsL) ((((((UInt32.ofNat ((w % (100000000 : UInt64)).toNat)) % (10000 : UInt32)) % (100 : UInt32)) * (2 : UInt32)) + (1 : UInt32)).toNat) (by kernel_rfl) rfl Tryd.underlying9 rfl (by rw [smallsL_length]; omega) ?_
    refine mv (.int _ _) rfl ?_
    refine idxT (s := smallsL) (((((UInt32.ofNat ((w % (100000000 : UInt64)).toNat)) % (10000 : UInt32)) % (100 : UInt32)) * (2 : UInt32)).toNat) (by kernel_rfl) rfl Tryd.underlying9 rfl (by rw [smallsL_length]; omega) ?_
    refine ixa (nd - 1) rfl rfl Tryd.underlying50 ty5.sz (by omega) (by omega) ?_
    refine stG 0 (nd - 1) _ (List.getD smallsL ((((((UInt32.ofNat ((w % (100000000 : UInt64)).toNat)) % (10000 : UInt32)) % (100 : UInt32)) * (2 : UInt32)) + (1 : UInt32)).toNat) 0) rfl rfl rfl rfl (by first | omega | (simp; done) | (simp; omega) | (simp at *; omega)) ty5 ⟨keepI [] rfl, ?_⟩
    refine ixa (nd - 2) rfl rfl Tryd.underlying50 ty5.sz (by omega) (by omega) ?_
    refine stG 0 (nd - 2) _ (List.getD smallsL (((((UInt32.ofNat ((w % (100000000 : UInt64)).toNat)) % (10000 : UInt32)) % (100 : UInt32)) * (2 : UInt32)).toNat) 0) rfl rfl rfl rfl (by first | omega | (simp; done) | (simp; omega) | (simp at *; omega)) ty5 ⟨keepI [] rfl, ?_⟩
    refine jt ?_
    refine c_seq ?_
    refine c_dr [] [] [(0, 0), (1, 0), (2, 0), (3, 0), (4, 0), (5, 0), (6, 0), (7, 0), (8, 0), (9, 0), (10, 0), (11, 0), (12, 1), (13, 0), (14, 1)] follows (by kernel_rfl) calm_body (keepS [] rfl) ?_
    refine mv (.slice _ _ _) rfl ?_
    refine mv (.int _ _) rfl ?_
    refine subi rfl rfl rfl (by omega) ?_
    refine mv (.slice _ _ _) rfl ?_
    refine mv (.int _ _) rfl ?_
    refine subi rfl rfl rfl (by omega) ?_
    refine mv (.int _ _) rfl ?_
    refine addU32 (a := ((((UInt32.ofNat ((w % (100000000 : UInt64)).toNat)) % (10000 : UInt32)) / (100 : UInt32)) * (2 : UInt32))) (b := (1 : UInt32)) rfl rfl ?_
    have N62 : (((((UInt32.ofNat ((w % (100000000 : UInt64)).toNat)) % (10000 : UInt32)) / (100 : UInt32)) * (2 : UInt32)) + (1 : UInt32)).toNat = 2 * (w.toNat / 100 % 100) + 1 := by rw [UInt32.toNat_add, N32]; simp only [UInt32.reduceToNat, Nat.reducePow]; omega
    refine idxT (s := smallsL) ((((((UInt32.ofNat ((w % (100000000 : UInt64)).toNat)) % (10000 : UInt32)) / (100 : UInt32)) * (2 : UInt32)) + (1 : UInt32)).toNat) (by kernel_rfl) rfl Tryd.underlying9 rfl (by rw [smallsL_length]; omega) ?_
    refine mv (.int _ _) rfl ?_
    refine idxT (s := smallsL) (((((UInt32.ofNat ((w % (100000000 : UInt64)).toNat)) % (10000 : UInt32)) / (100 : UInt32)) * (2 : UInt32)).toNat) (by kernel_rfl) rfl Tryd.underlying9 rfl (by rw [smallsL_length]; omega) ?_
    refine ixa (nd - 3) rfl rfl Tryd.underlying50 ty5.sz (by omega) (by omega) ?_
    refine stG 0 (nd - 3) _ (List.getD smallsL ((((((UInt32.ofNat ((w % (100000000 : UInt64)).toNat)) % (10000 : UInt32)) / (100 : UInt32)) * (2 : UInt32)) + (1 : UInt32)).toNat) 0) rfl rfl rfl rfl (by first | omega | (simp; done) | (simp; omega) | (simp at *; omega)) ty5 ⟨keepI [] rfl, ?_⟩
    refine ixa (nd - 4) rfl rfl Tryd.underlying50 ty5.sz (by omega) (by omega) ?_
    refine stG 0 (nd - 4) _ (List.getD smallsL (((((UInt32.ofNat ((w % (100000000 : UInt64)).toNat)) % (10000 : UInt32)) / (100 : UInt32)) * (2 : UInt32)).toNat) 0) rfl rfl rfl rfl (by first | omega | (simp; done) | (simp; omega) | (simp at *; omega)) ty5 ⟨keepI [] rfl, ?_⟩
    refine jt ?_
    refine c_seq ?_
    refine c_dr [] [] [(0, 0), (1, 0), (2, 0), (3, 0), (4, 0), (5, 0), (6, 0), (7, 0), (8, 0), (9, 0), (10, 0), (11, 0), (12, 1), (13, 0), (14, 1)] follows (by kernel_rfl) calm_body (keepS [] rfl) ?_
    refine mv (.slice _ _ _) rfl ?_
    refine mv (.int _ _) rfl ?_
    refine subi rfl rfl rfl (by omega) ?_
    refine mv (.slice _ _ _) rfl ?_
    refine mv (.int _ _) rfl ?_
    refine subi rfl rfl rfl (by omega) ?_
    refine mv (.int _ _) rfl ?_
    refine addU32 (a := ((((UInt32.ofNat ((w % (100000000 : UInt64)).toNat)) / (10000 : UInt32)) % (100 : UInt32)) * (2 : UInt32))) (b := (1 : UInt32)) rfl rfl ?_
    have N75 : (((((UInt32.ofNat ((w % (100000000 : UInt64)).toNat)) / (10000 : UInt32)) % (100 : UInt32)) * (2 : UInt32)) + (1 : UInt32)).toNat = 2 * (w.toNat / 10000 % 100) + 1 := by rw [UInt32.toNat_add, N41]; simp only [UInt32.reduceToNat, Nat.reducePow]; omega
    refine idxT (s := smallsL) ((((((UInt32.ofNat ((w % (100000000 : UInt64)).toNat)) / (10000 : UInt32)) % (100 : UInt32)) * (2 : UInt32)) + (1 : UInt32)).toNat) (by kernel_rfl) rfl Tryd.underlying9 rfl (by rw [smallsL_length]; omega) ?_
    refine mv (.int _ _) rfl ?_
    refine idxT (s := smallsL) (((((UInt32.ofNat ((w % (100000000 : UInt64)).toNat)) / (10000 : UInt32)) % (100 : UInt32)) * (2 : UInt32)).toNat) (by kernel_rfl) rfl Tryd.underlying9 rfl (by rw [smallsL_length]; omega) ?_
    refine ixa (nd - 5) rfl rfl Tryd.underlying50 ty5.sz (by omega) (by omega) ?_
    refine stG 0 (nd - 5) _ (List.getD smallsL ((((((UInt32.ofNat ((w % (100000000 : UInt64)).toNat)) / (10000 : UInt32)) % (100 : UInt32)) * (2 : UInt32)) + (1 : UInt32)).toNat) 0) rfl rfl rfl rfl (by first | omega | (simp; done) | (simp; omega) | (simp at *; omega)) ty5 ⟨keepI [] rfl, ?_⟩
    refine ixa (nd - 6) rfl rfl Tryd.underlying50 ty5.sz (by omega) (by omega) ?_
    refine stG 0 (nd - 6) _ (List.getD smallsL (((((UInt32.ofNat ((w % (100000000 : UInt64)).toNat)) / (10000 : UInt32)) % (100 : UInt32)) * (2 : UInt32)).toNat) 0) rfl rfl rfl rfl (by first | omega | (simp; done) | (simp; omega) | (simp at *; omega)) ty5 ⟨keepI [] rfl, ?_⟩
    refine jt ?_
    refine c_seq ?_
    refine c_dr [] [] [(0, 0), (1, 0), (2, 0), (3, 0), (4, 0), (5, 0), (6, 0), (7, 0), (8, 0), (9, 0), (10, 0), (11, 0), (12, 1), (13, 0), (14, 1)] follows (by kernel_rfl) calm_body (keepS [] rfl) ?_
    refine mv (.slice _ _ _) rfl ?_
    refine mv (.int _ _) rfl ?_
    refine subi rfl rfl rfl (by omega) ?_
    refine mv (.slice _ _ _) rfl ?_
    refine mv (.int _ _) rfl ?_
    refine subi rfl rfl rfl (by omega) ?_
    refine mv (.int _ _) rfl ?_
    refine addU32 (a := ((((UInt32.ofNat ((w % (100000000 : UInt64)).toNat)) / (10000 : UInt32)) / (100 : UInt32)) * (2 : UInt32))) (b := (1 : UInt32)) rfl rfl ?_
    have N88 : (((((UInt32.ofNat ((w % (100000000 : UInt64)).toNat)) / (10000 : UInt32)) / (100 : UInt32)) * (2 : UInt32)) + (1 : UInt32)).toNat = 2 * (w.toNat / 1000000 % 100) + 1 := by rw [UInt32.toNat_add, N38]; simp only [UInt32.reduceToNat, Nat.reducePow]; omega
    refine idxT (s := smallsL) ((((((UInt32.ofNat ((w % (100000000 : UInt64)).toNat)) / (10000 : UInt32)) / (100 : UInt32)) * (2 : UInt32)) + (1 : UInt32)).toNat) (by kernel_rfl) rfl Tryd.underlying9 rfl (by rw [smallsL_length]; omega) ?_
    refine mv (.int _ _) rfl ?_
    refine idxT (s := smallsL) (((((UInt32.ofNat ((w % (100000000 : UInt64)).toNat)) / (10000 : UInt32)) / (100 : UInt32)) * (2 : UInt32)).toNat) (by kernel_rfl) rfl Tryd.underlying9 rfl (by rw [smallsL_length]; omega) ?_
    refine ixa (nd - 7) rfl rfl Tryd.underlying50 ty5.sz (by omega) (by omega) ?_
    refine stG 0 (nd - 7) _ (List.getD smallsL ((((((UInt32.ofNat ((w % (100000000 : UInt64)).toNat)) / (10000 : UInt32)) / (100 : UInt32)) * (2 : UInt32)) + (1 : UInt32)).toNat) 0) rfl rfl rfl rfl (by first | omega | (simp; done) | (simp; omega) | (simp at *; omega)) ty5 ⟨keepI [] rfl, ?_⟩
    refine ixa (nd - 8) rfl rfl Tryd.underlying50 ty5.sz (by omega) (by omega) ?_
    refine stG 0 (nd - 8) _ (List.getD smallsL (((((UInt32.ofNat ((w % (100000000 : UInt64)).toNat)) / (10000 : UInt32)) / (100 : UInt32)) * (2 : UInt32)).toNat) 0) rfl rfl rfl rfl (by first | omega | (simp; done) | (simp; omega) | (simp at *; omega)) ty5 ⟨keepI [] rfl, ?_⟩
    refine jt ?_
    refine c_reg ?_
    refine mv (.int _ _) rfl ?_
    refine subi rfl rfl rfl (by omega) ?_
    refine asg (.int _ _) rfl ?_
    refine jn ?_
    refine e_in ?_
    exact e_loop (nd - 8, ((((((((ys.set (nd - 1) (List.getD smallsL ((((((UInt32.ofNat ((w % (100000000 : UInt64)).toNat)) % (10000 : UInt32)) % (100 : UInt32)) * (2 : UInt32)) + (1 : UInt32)).toNat) 0)).set (nd - 2) (List.getD smallsL (((((UInt32.ofNat ((w % (100000000 : UInt64)).toNat)) % (10000 : UInt32)) % (100 : UInt32)) * (2 : UInt32)).toNat) 0)).set (nd - 3) (List.getD smallsL ((((((UInt32.ofNat ((w % (100000000 : UInt64)).toNat)) % (10000 : UInt32)) / (100 : UInt32)) * (2 : UInt32)) + (1 : UInt32)).toNat) 0)).set (nd - 4) (List.getD smallsL (((((UInt32.ofNat ((w % (100000000 : UInt64)).toNat)) % (10000 : UInt32)) / (100 : UInt32)) * (2 : UInt32)).toNat) 0)).set (nd - 5) (List.getD smallsL ((((((UInt32.ofNat ((w % (100000000 : UInt64)).toNat)) / (10000 : UInt32)) % (100 : UInt32)) * (2 : UInt32)) + (1 : UInt32)).toNat) 0)).set (nd - 6) (List.getD smallsL (((((UInt32.ofNat ((w % (100000000 : UInt64)).toNat)) / (10000 : UInt32)) % (100 : UInt32)) * (2 : UInt32)).toNat) 0)).set (nd - 7) (List.getD smallsL ((((((UInt32.ofNat ((w % (100000000 : UInt64)).toNat)) / (10000 : UInt32)) / (100 : UInt32)) * (2 : UInt32)) + (1 : UInt32)).toNat) 0)).set (nd - 8) (List.getD smallsL (((((UInt32.ofNat ((w % (100000000 : UInt64)).toNat)) / (10000 : UInt32)) / (100 : UInt32)) * (2 : UInt32)).toNat) 0)), w / 100000000) (by rw [show (w / 100000000).toNat = w.toNat / 100000000 from by rw [UInt64.toNat_div]; rfl]; exact FB.eight hI1 (by omega) (smh2 N49 (by omega) (by omega)) (sml2 N35 (by omega) (by omega)) (smh2 N62 (by omega) (by omega)) (sml2 N32 (by omega) (by omega)) (smh2 N75 (by omega) (by omega)) (sml2 N41 (by omega) (by omega)) (smh2 N88 (by omega) (by omega)) (sml2 N38 (by omega) (by omega))) (by have := hI1.le; show nd - 8 < nd; omega) (⟨congrArg (Value.int _) (by omega), rfl, trivial⟩) rfl rfl rfl
  · replace h1 := of_decide_eq_false h1
    refine c_exit rfl ?_
    refine e_then ?_
    refine c_seq ?_
    refine c_reg ?_
    refine mv (.int _ _) rfl ?_
    refine cvNU32 (n := w.toNat) rfl Tryd.underlying23 Tryd.underlying47 ?_
    have N97 : (UInt32.ofNat w.toNat).toNat = w.toNat := by exact fb_x hI1.lt (by omega)
    refine asg (.int _ _) rfl ?_
    refine jt ?_
    refine c_seq ?_
    refine c_seq ?_
    refine c_reg ?_
    refine mv (.int _ _) rfl ?_
    refine cmp _ rfl rfl rfl ?_
    refine jt ?_
    refine c_cond rfl (fun h2 => ?_) (fun h2 => ?_)
    · replace h2 := of_decide_eq_true h2
      refine c_seq ?_
      refine c_reg ?_
      refine mv (.int _ _) rfl ?_
      refine remU32 (a := (UInt32.ofNat w.toNat)) (b := (10000 : UInt32)) rfl rfl (by decide) ?_
      have N101 : ((UInt32.ofNat w.toNat) % (10000 : UInt32)).toNat = w.toNat % 10000 := by rw [UInt32.toNat_mod, N97]; rfl
      refine asg (.int _ _) rfl ?_
      refine jt ?_
      refine c_seq ?_
      refine c_reg ?_
      refine mv (.int _ _) rfl ?_
      refine quoU32 (a := (UInt32.ofNat w.toNat)) (b := (10000 : UInt32)) rfl rfl (by decide) ?_
      have N103 : ((UInt32.ofNat w.toNat) / (10000 : UInt32)).toNat = w.toNat / 10000 := by rw [UInt32.toNat_div, N97]; rfl
      refine asg (.int _ _) rfl ?_
      refine jt ?_
      refine c_seq ?_
      refine c_reg ?_
      refine mv (.int _ _) rfl ?_
      refine quoU32 (a := ((UInt32.ofNat w.toNat) % (10000 : UInt32))) (b := (100 : UInt32)) rfl rfl (by decide) ?_
      refine mulU32 (a := (((UInt32.ofNat w.toNat) % (10000 : UInt32)) / (100 : UInt32))) (b := (2 : UInt32)) rfl rfl ?_
      have N106 : ((((UInt32.ofNat w.toNat) % (10000 : UInt32)) / (100 : UInt32)) * (2 : UInt32)).toNat = 2 * (w.toNat / 100 % 100) := by rw [UInt32.toNat_mul, UInt32.toNat_div, N101]; simp only [UInt32.reduceToNat, Nat.reducePow]; omega
      refine mv (.int _ _) rfl ?_
      refine remU32 (a := ((UInt32.ofNat w.toNat) % (10000 : UInt32))) (b := (100 : UInt32)) rfl rfl (by decide) ?_
      refine mulU32 (a := (((UInt32.ofNat w.toNat) % (10000 : UInt32)) % (100 : UInt32))) (b := (2 : UInt32)) rfl rfl ?_
      have N109 : ((((UInt32.ofNat w.toNat) % (10000 : UInt32)) % (100 : UInt32)) * (2 : UInt32)).toNat = 2 * (w.toNat % 100) := by rw [UInt32.toNat_mul, UInt32.toNat_mod, N101]; simp only [UInt32.reduceToNat, Nat.reducePow]; omega
      refine asg (.int _ _) rfl ?_
      refine asg (.int _ _) rfl ?_
      refine jt ?_
      refine c_seq ?_
      refine c_dr [] [] [(0, 0), (1, 0), (2, 0), (3, 0), (4, 0), (5, 0), (6, 0), (7, 0), (8, 0), (9, 0), (10, 0), (11, 0), (12, 1), (13, 0), (14, 1)] follows (by kernel_rfl) calm_body (keepS [] rfl) ?_
      refine mv (.slice _ _ _) rfl ?_
      refine mv (.int _ _) rfl ?_
      refine subi rfl rfl rfl (by omega) ?_
      refine mv (.slice _ _ _) rfl ?_
      refine mv (.int _ _) rfl ?_
      refine subi rfl rfl rfl (by omega) ?_
      refine mv (.int _ _) rfl ?_
      refine addU32 (a := ((((UInt32.ofNat w.toNat) % (10000 : UInt32)) % (100 : UInt32)) * (2 : UInt32))) (b := (1 : UInt32)) rfl rfl ?_
      have N117 : (((((UInt32.ofNat w.toNat) % (10000 : UInt32)) % (100 : UInt32)) * (2 : UInt32)) + (1 : UInt32)).toNat = 2 * (w.toNat % 100) + 1 := by rw [UInt32.toNat_add, N109]; simp only [UInt32.reduceToNat, Nat.reducePow]; omega
      refine idxT (s := smallsL) ((((((UInt32.ofNat w.toNat) % (10000 : UInt32)) % (100 : UInt32)) * (2 : UInt32)) + (1 : UInt32)).toNat) (by kernel_rfl) rfl Tryd.underlying9 rfl (by rw [smallsL_length]; omega) ?_
      refine mv (.int _ _) rfl ?_
      refine idxT (s := smallsL) (((((UInt32.ofNat w.toNat) % (10000 : UInt32)) % (100 : UInt32)) * (2 : UInt32)).toNat) (by kernel_rfl) rfl Tryd.underlying9 rfl (by rw [smallsL_length]; omega) ?_
      refine ixa (nd - 1) rfl rfl Tryd.underlying50 ty5.sz (by omega) (by omega) ?_
      refine stG 0 (nd - 1) _ (List.getD smallsL ((((((UInt32.ofNat w.toNat) % (10000 : UInt32)) % (100 : UInt32)) * (2 : UInt32)) + (1 : UInt32)).toNat) 0) rfl rfl rfl rfl (by first | omega | (simp; done) | (simp; omega) | (simp at *; omega)) ty5 ⟨keepI [] rfl, ?_⟩
      refine ixa (nd - 2) rfl rfl Tryd.underlying50 ty5.sz (by omega) (by omega) ?_
      refine stG 0 (nd - 2) _ (List.getD smallsL (((((UInt32.ofNat w.toNat) % (10000 : UInt32)) % (100 : UInt32)) * (2 : UInt32)).toNat) 0) rfl rfl rfl rfl (by first | omega | (simp; done) | (simp; omega) | (simp at *; omega)) ty5 ⟨keepI [] rfl, ?_⟩
      refine jt ?_
      refine c_seq ?_
      refine c_dr [] [] [(0, 0), (1, 0), (2, 0), (3, 0), (4, 0), (5, 0), (6, 0), (7, 0), (8, 0), (9, 0), (10, 0), (11, 0), (12, 1), (13, 0), (14, 1)] follows (by kernel_rfl) calm_body (keepS [] rfl) ?_
      refine mv (.slice _ _ _) rfl ?_
      refine mv (.int _ _) rfl ?_
      refine subi rfl rfl rfl (by omega) ?_
      refine mv (.slice _ _ _) rfl ?_
      refine mv (.int _ _) rfl ?_
      refine subi rfl rfl rfl (by omega) ?_
      refine mv (.int _ _) rfl ?_
      refine addU32 (a := ((((UInt32.ofNat w.toNat) % (10000 : UInt32)) / (100 : UInt32)) * (2 : UInt32))) (b := (1 : UInt32)) rfl rfl ?_
      have N130 : (((((UInt32.ofNat w.toNat) % (10000 : UInt32)) / (100 : UInt32)) * (2 : UInt32)) + (1 : UInt32)).toNat = 2 * (w.toNat / 100 % 100) + 1 := by rw [UInt32.toNat_add, N106]; simp only [UInt32.reduceToNat, Nat.reducePow]; omega
      refine idxT (s := smallsL) ((((((UInt32.ofNat w.toNat) % (10000 : UInt32)) / (100 : UInt32)) * (2 : UInt32)) + (1 : UInt32)).toNat) (by kernel_rfl) rfl Tryd.underlying9 rfl (by rw [smallsL_length]; omega) ?_
      refine mv (.int _ _) rfl ?_
      refine idxT (s := smallsL) (((((UInt32.ofNat w.toNat) % (10000 : UInt32)) / (100 : UInt32)) * (2 : UInt32)).toNat) (by kernel_rfl) rfl Tryd.underlying9 rfl (by rw [smallsL_length]; omega) ?_
      refine ixa (nd - 3) rfl rfl Tryd.underlying50 ty5.sz (by omega) (by omega) ?_
      refine stG 0 (nd - 3) _ (List.getD smallsL ((((((UInt32.ofNat w.toNat) % (10000 : UInt32)) / (100 : UInt32)) * (2 : UInt32)) + (1 : UInt32)).toNat) 0) rfl rfl rfl rfl (by first | omega | (simp; done) | (simp; omega) | (simp at *; omega)) ty5 ⟨keepI [] rfl, ?_⟩
      refine ixa (nd - 4) rfl rfl Tryd.underlying50 ty5.sz (by omega) (by omega) ?_
      refine stG 0 (nd - 4) _ (List.getD smallsL (((((UInt32.ofNat w.toNat) % (10000 : UInt32)) / (100 : UInt32)) * (2 : UInt32)).toNat) 0) rfl rfl rfl rfl (by first | omega | (simp; done) | (simp; omega) | (simp at *; omega)) ty5 ⟨keepI [] rfl, ?_⟩
      refine jt ?_
      refine c_reg ?_
      refine mv (.int _ _) rfl ?_
      refine subi rfl rfl rfl (by omega) ?_
      refine asg (.int _ _) rfl ?_
      refine jt ?_
      refine c_seq ?_
      refine c_seq ?_
      have G4 := FB.four hI1 (by omega) (smh2 N117 (by omega) (by omega)) (sml2 N109 (by omega) (by omega)) (smh2 N130 (by omega) (by omega)) (sml2 N106 (by omega) (by omega))
      refine c_reg ?_
      refine mv (.int _ _) rfl ?_
      refine cmp _ rfl rfl rfl ?_
      refine jt ?_
      refine c_cond rfl (fun h3 => ?_) (fun h3 => ?_)
      · replace h3 := of_decide_eq_true h3
        refine c_seq ?_
        refine c_reg ?_
        refine mv (.int _ _) rfl ?_
        refine remU32 (a := ((UInt32.ofNat w.toNat) / (10000 : UInt32))) (b := (100 : UInt32)) rfl rfl (by decide) ?_
        refine mulU32 (a := (((UInt32.ofNat w.toNat) / (10000 : UInt32)) % (100 : UInt32))) (b := (2 : UInt32)) rfl rfl ?_
        have N142 : ((((UInt32.ofNat w.toNat) / (10000 : UInt32)) % (100 : UInt32)) * (2 : UInt32)).toNat = 2 * (w.toNat / 10000 % 100) := by rw [UInt32.toNat_mul, UInt32.toNat_mod, N103]; simp only [UInt32.reduceToNat, Nat.reducePow]; omega
        refine asg (.int _ _) rfl ?_
        refine jt ?_
        refine c_seq ?_
        refine c_reg ?_
        refine mv (.int _ _) rfl ?_
        refine quoU32 (a := ((UInt32.ofNat w.toNat) / (10000 : UInt32))) (b := (100 : UInt32)) rfl rfl (by decide) ?_
        have N144 : (((UInt32.ofNat w.toNat) / (10000 : UInt32)) / (100 : UInt32)).toNat = w.toNat / 10000 / 100 := by rw [UInt32.toNat_div, N103]; rfl
        refine asg (.int _ _) rfl ?_
        refine jt ?_
        refine c_seq ?_
        refine c_dr [] [] [(0, 0), (1, 0), (2, 0), (3, 0), (4, 0), (5, 0), (6, 0), (7, 0), (8, 0), (9, 0), (10, 0), (11, 0), (12, 1), (13, 0), (14, 1)] follows (by kernel_rfl) calm_body (keepS [] rfl) ?_
        refine mv (.slice _ _ _) rfl ?_
        refine mv (.int _ _) rfl ?_
        refine subi rfl rfl rfl (by omega) ?_
        refine mv (.slice _ _ _) rfl ?_
        refine mv (.int _ _) rfl ?_
        refine subi rfl rfl rfl (by omega) ?_
        refine mv (.int _ _) rfl ?_
        refine addU32 (a := ((((UInt32.ofNat w.toNat) / (10000 : UInt32)) % (100 : UInt32)) * (2 : UInt32))) (b := (1 : UInt32)) rfl rfl ?_
        have N152 : (((((UInt32.ofNat w.toNat) / (10000 : UInt32)) % (100 : UInt32)) * (2 : UInt32)) + (1 : UInt32)).toNat = 2 * (w.toNat / 10000 % 100) + 1 := by rw [UInt32.toNat_add, N142]; simp only [UInt32.reduceToNat, Nat.reducePow]; omega
        refine idxT (s := smallsL) ((((((UInt32.ofNat w.toNat) / (10000 : UInt32)) % (100 : UInt32)) * (2 : UInt32)) + (1 : UInt32)).toNat) (by kernel_rfl) rfl Tryd.underlying9 rfl (by rw [smallsL_length]; omega) ?_
        refine mv (.int _ _) rfl ?_
        refine idxT (s := smallsL) (((((UInt32.ofNat w.toNat) / (10000 : UInt32)) % (100 : UInt32)) * (2 : UInt32)).toNat) (by kernel_rfl) rfl Tryd.underlying9 rfl (by rw [smallsL_length]; omega) ?_
        refine ixa (nd - 4 - 1) rfl rfl Tryd.underlying50 ty5.sz (by omega) (by omega) ?_
        refine stG 0 (nd - 4 - 1) _ (List.getD smallsL ((((((UInt32.ofNat w.toNat) / (10000 : UInt32)) % (100 : UInt32)) * (2 : UInt32)) + (1 : UInt32)).toNat) 0) rfl rfl rfl rfl (by first | omega | (simp; done) | (simp; omega) | (simp at *; omega)) ty5 ⟨keepI [] rfl, ?_⟩
        refine ixa (nd - 4 - 2) rfl rfl Tryd.underlying50 ty5.sz (by omega) (by omega) ?_
        refine stG 0 (nd - 4 - 2) _ (List.getD smallsL (((((UInt32.ofNat w.toNat) / (10000 : UInt32)) % (100 : UInt32)) * (2 : UInt32)).toNat) 0) rfl rfl rfl rfl (by first | omega | (simp; done) | (simp; omega) | (simp at *; omega)) ty5 ⟨keepI [] rfl, ?_⟩
        refine jt ?_
        refine c_reg ?_
        refine mv (.int _ _) rfl ?_
        refine subi rfl rfl rfl (by omega) ?_
        refine asg (.int _ _) rfl ?_
        refine jt ?_
        refine c_seq ?_
        have G2 := FB.two G4 (by omega) (smh2 N152 (by omega) (by omega)) (sml2 N142 (by omega) (by omega))
        refine c_reg ?_
        refine mv (.int _ _) rfl ?_
        refine cmp _ rfl rfl rfl ?_
        refine jt ?_
        refine c_cond rfl (fun h4 => ?_) (fun h4 => ?_)
        · replace h4 := of_decide_eq_true h4
          refine c_reg ?_
          refine mv (.slice _ _ _) rfl ?_
          refine mv (.int _ _) rfl ?_
          refine addU32 (a := (48 : UInt32)) (b := (((UInt32.ofNat w.toNat) / (10000 : UInt32)) / (100 : UInt32))) rfl rfl ?_
          have N164 : ((48 : UInt32) + (((UInt32.ofNat w.toNat) / (10000 : UInt32)) / (100 : UInt32))).toNat = 48 + w.toNat / 10000 / 100 := by have L := G2.lt; rw [show nd - 4 - 2 = 1 by omega] at L; rw [UInt32.toNat_add, N144]; simp only [UInt32.reduceToNat, Nat.reducePow]; omega
          refine cvNU8 (n := ((48 : UInt32) + (((UInt32.ofNat w.toNat) / (10000 : UInt32)) / (100 : UInt32))).toNat) rfl Tryd.underlying47 Tryd.underlying5 ?_
          refine ixa 0 rfl rfl Tryd.underlying50 ty5.sz rfl (by omega) ?_
          refine stG 0 0 _ (UInt8.ofNat (((48 : UInt32) + (((UInt32.ofNat w.toNat) / (10000 : UInt32)) / (100 : UInt32))).toNat)) rfl rfl rfl rfl (by first | omega | (simp; done) | (simp; omega) | (simp at *; omega)) ty5 ⟨trivial, ?_⟩
          refine jn ?_
          exact j_end (own0 := [Gseg b E pre ys0 post]) (ro0 := []) (.inr rfl) rfl (hr0 Tryd.results75) [0] [] [_] [] [] _ rfl rfl (by kernel_rfl) rfl impl_nil (⟨rfl, by have L := G2.lt; rw [show nd - 4 - 2 = 1 by omega] at L; have G1 := FB.one G2 (by omega) (dch_small N164 (by omega)); rw [show nd - 4 - 2 - 1 = 0 by omega] at G1; rw [G1.fin], rfl⟩)
        · replace h4 := of_decide_eq_false h4
          refine c_skip ?_
          exact j_end (own0 := [Gseg b E pre ys0 post]) (ro0 := []) (.inr rfl) rfl (hr0 Tryd.results75) [0] [] [_] [] [] _ rfl rfl (by kernel_rfl) rfl impl_nil (⟨rfl, by rw [G2.fin0 (by omega)], rfl⟩)
      · replace h3 := of_decide_eq_false h3
        refine c_skip ?_
        refine e_then ?_
        refine c_seq ?_
        have G2 := G4
        refine c_reg ?_
        refine mv (.int _ _) rfl ?_
        refine cmp _ rfl rfl rfl ?_
        refine jt ?_
        refine c_cond rfl (fun h5 => ?_) (fun h5 => ?_)
        · replace h5 := of_decide_eq_true h5
          refine c_reg ?_
          refine mv (.slice _ _ _) rfl ?_
          refine mv (.int _ _) rfl ?_
          refine addU32 (a := (48 : UInt32)) (b := ((UInt32.ofNat w.toNat) / (10000 : UInt32))) rfl rfl ?_
          have N164 : ((48 : UInt32) + ((UInt32.ofNat w.toNat) / (10000 : UInt32))).toNat = 48 + w.toNat / 10000 := by have L := G2.lt; rw [show nd - 4 = 1 by omega] at L; rw [UInt32.toNat_add, N103]; simp only [UInt32.reduceToNat, Nat.reducePow]; omega
          refine cvNU8 (n := ((48 : UInt32) + ((UInt32.ofNat w.toNat) / (10000 : UInt32))).toNat) rfl Tryd.underlying47 Tryd.underlying5 ?_
          refine ixa 0 rfl rfl Tryd.underlying50 ty5.sz rfl (by omega) ?_
          refine stG 0 0 _ (UInt8.ofNat (((48 : UInt32) + ((UInt32.ofNat w.toNat) / (10000 : UInt32))).toNat)) rfl rfl rfl rfl (by first | omega | (simp; done) | (simp; omega) | (simp at *; omega)) ty5 ⟨trivial, ?_⟩
          refine jn ?_
          exact j_end (own0 := [Gseg b E pre ys0 post]) (ro0 := []) (.inr rfl) rfl (hr0 Tryd.results75) [0] [] [_] [] [] _ rfl rfl (by kernel_rfl) rfl impl_nil (⟨rfl, by have L := G2.lt; rw [show nd - 4 = 1 by omega] at L; have G1 := FB.one G2 (by omega) (dch_small N164 (by omega)); rw [show nd - 4 - 1 = 0 by omega] at G1; rw [G1.fin], rfl⟩)
        · replace h5 := of_decide_eq_false h5
          refine c_skip ?_
          exact j_end (own0 := [Gseg b E pre ys0 post]) (ro0 := []) (.inr rfl) rfl (hr0 Tryd.results75) [0] [] [_] [] [] _ rfl rfl (by kernel_rfl) rfl impl_nil (⟨rfl, by rw [G2.fin0 (by omega)], rfl⟩)
    · replace h2 := of_decide_eq_false h2
      refine c_skip ?_
      refine e_then ?_
      refine c_seq ?_
      refine c_seq ?_
      have G4 := hI1
      refine c_reg ?_
      refine mv (.int _ _) rfl ?_
      refine cmp _ rfl rfl rfl ?_
      refine jt ?_
      refine c_cond rfl (fun h6 => ?_) (fun h6 => ?_)
      · replace h6 := of_decide_eq_true h6
        refine c_seq ?_
        refine c_reg ?_
        refine mv (.int _ _) rfl ?_
        refine remU32 (a := (UInt32.ofNat w.toNat)) (b := (100 : UInt32)) rfl rfl (by decide) ?_
        refine mulU32 (a := ((UInt32.ofNat w.toNat) % (100 : UInt32))) (b := (2 : UInt32)) rfl rfl ?_
        have N142 : (((UInt32.ofNat w.toNat) % (100 : UInt32)) * (2 : UInt32)).toNat = 2 * (w.toNat % 100) := by rw [UInt32.toNat_mul, UInt32.toNat_mod, N97]; simp only [UInt32.reduceToNat, Nat.reducePow]; omega
        refine asg (.int _ _) rfl ?_
        refine jt ?_
        refine c_seq ?_
        refine c_reg ?_
        refine mv (.int _ _) rfl ?_
        refine quoU32 (a := (UInt32.ofNat w.toNat)) (b := (100 : UInt32)) rfl rfl (by decide) ?_
        have N144 : ((UInt32.ofNat w.toNat) / (100 : UInt32)).toNat = w.toNat / 100 := by rw [UInt32.toNat_div, N97]; rfl
        refine asg (.int _ _) rfl ?_
        refine jt ?_
        refine c_seq ?_
        refine c_dr [] [] [(0, 0), (1, 0), (2, 0), (3, 0), (4, 0), (5, 0), (6, 0), (7, 0), (8, 0), (9, 0), (10, 0), (11, 0), (12, 1), (13, 0), (14, 1)] follows (by kernel_rfl) calm_body (keepS [] rfl) ?_
        refine mv (.slice _ _ _) rfl ?_
        refine mv (.int _ _) rfl ?_
        refine subi rfl rfl rfl (by omega) ?_
        refine mv (.slice _ _ _) rfl ?_
        refine mv (.int _ _) rfl ?_
        refine subi rfl rfl rfl (by omega) ?_
        refine mv (.int _ _) rfl ?_
        refine addU32 (a := (((UInt32.ofNat w.toNat) % (100 : UInt32)) * (2 : UInt32))) (b := (1 : UInt32)) rfl rfl ?_
        have N152 : ((((UInt32.ofNat w.toNat) % (100 : UInt32)) * (2 : UInt32)) + (1 : UInt32)).toNat = 2 * (w.toNat % 100) + 1 := by rw [UInt32.toNat_add, N142]; simp only [UInt32.reduceToNat, Nat.reducePow]; omega
        refine idxT (s := smallsL) (((((UInt32.ofNat w.toNat) % (100 : UInt32)) * (2 : UInt32)) + (1 : UInt32)).toNat) (by kernel_rfl) rfl Tryd.underlying9 rfl (by rw [smallsL_length]; omega) ?_
        refine mv (.int _ _) rfl ?_
        refine idxT (s := smallsL) ((((UInt32.ofNat w.toNat) % (100 : UInt32)) * (2 : UInt32)).toNat) (by kernel_rfl) rfl Tryd.underlying9 rfl (by rw [smallsL_length]; omega) ?_
        refine ixa (nd - 1) rfl rfl Tryd.underlying50 ty5.sz (by omega) (by omega) ?_
        refine stG 0 (nd - 1) _ (List.getD smallsL (((((UInt32.ofNat w.toNat) % (100 : UInt32)) * (2 : UInt32)) + (1 : UInt32)).toNat) 0) rfl rfl rfl rfl (by first | omega | (simp; done) | (simp; omega) | (simp at *; omega)) ty5 ⟨keepI [] rfl, ?_⟩
        refine ixa (nd - 2) rfl rfl Tryd.underlying50 ty5.sz (by omega) (by omega) ?_
        refine stG 0 (nd - 2) _ (List.getD smallsL ((((UInt32.ofNat w.toNat) % (100 : UInt32)) * (2 : UInt32)).toNat) 0) rfl rfl rfl rfl (by first | omega | (simp; done) | (simp; omega) | (simp at *; omega)) ty5 ⟨keepI [] rfl, ?_⟩
        refine jt ?_
        refine c_reg ?_
        refine mv (.int _ _) rfl ?_
        refine subi rfl rfl rfl (by omega) ?_
        refine asg (.int _ _) rfl ?_
        refine jt ?_
        refine c_seq ?_
        have G2 := FB.two G4 (by omega) (smh2 N152 (by omega) (by omega)) (sml2 N142 (by omega) (by omega))
        refine c_reg ?_
        refine mv (.int _ _) rfl ?_
        refine cmp _ rfl rfl rfl ?_
        refine jt ?_
        refine c_cond rfl (fun h7 => ?_) (fun h7 => ?_)
        · replace h7 := of_decide_eq_true h7
          refine c_reg ?_
          refine mv (.slice _ _ _) rfl ?_
          refine mv (.int _ _) rfl ?_
          refine addU32 (a := (48 : UInt32)) (b := ((UInt32.ofNat w.toNat) / (100 : UInt32))) rfl rfl ?_
          have N164 : ((48 : UInt32) + ((UInt32.ofNat w.toNat) / (100 : UInt32))).toNat = 48 + w.toNat / 100 := by have L := G2.lt; rw [show nd - 2 = 1 by omega] at L; rw [UInt32.toNat_add, N144]; simp only [UInt32.reduceToNat, Nat.reducePow]; omega
          refine cvNU8 (n := ((48 : UInt32) + ((UInt32.ofNat w.toNat) / (100 : UInt32))).toNat) rfl Tryd.underlying47 Tryd.underlying5 ?_
          refine ixa 0 rfl rfl Tryd.underlying50 ty5.sz rfl (by omega) ?_
          refine stG 0 0 _ (UInt8.ofNat (((48 : UInt32) + ((UInt32.ofNat w.toNat) / (100 : UInt32))).toNat)) rfl rfl rfl rfl (by first | omega | (simp; done) | (simp; omega) | (simp at *; omega)) ty5 ⟨trivial, ?_⟩
          refine jn ?_
          exact j_end (own0 := [Gseg b E pre ys0 post]) (ro0 := []) (.inr rfl) rfl (hr0 Tryd.results75) [0] [] [_] [] [] _ rfl rfl (by kernel_rfl) rfl impl_nil (⟨rfl, by have L := G2.lt; rw [show nd - 2 = 1 by omega] at L; have G1 := FB.one G2 (by omega) (dch_small N164 (by omega)); rw [show nd - 2 - 1 = 0 by omega] at G1; rw [G1.fin], rfl⟩)
        · replace h7 := of_decide_eq_false h7
          refine c_skip ?_
          exact j_end (own0 := [Gseg b E pre ys0 post]) (ro0 := []) (.inr rfl) rfl (hr0 Tryd.results75) [0] [] [_] [] [] _ rfl rfl (by kernel_rfl) rfl impl_nil (⟨rfl, by rw [G2.fin0 (by omega)], rfl⟩)
      · replace h6 := of_decide_eq_false h6
        refine c_skip ?_
        refine e_then ?_
        refine c_seq ?_
        have G2 := G4
        refine c_reg ?_
        refine mv (.int _ _) rfl ?_
        refine cmp _ rfl rfl rfl ?_
        refine jt ?_
        refine c_cond rfl (fun h8 => ?_) (fun h8 => ?_)
        · replace h8 := of_decide_eq_true h8
          refine c_reg ?_
          refine mv (.slice _ _ _) rfl ?_
          refine mv (.int _ _) rfl ?_
          refine addU32 (a := (48 : UInt32)) (b := (UInt32.ofNat w.toNat)) rfl rfl ?_
          have N164 : ((48 : UInt32) + (UInt32.ofNat w.toNat)).toNat = 48 + w.toNat := by have L := G2.lt; rw [show nd = 1 by omega] at L; rw [UInt32.toNat_add, N97]; simp only [UInt32.reduceToNat, Nat.reducePow]; omega
          refine cvNU8 (n := ((48 : UInt32) + (UInt32.ofNat w.toNat)).toNat) rfl Tryd.underlying47 Tryd.underlying5 ?_
          refine ixa 0 rfl rfl Tryd.underlying50 ty5.sz rfl (by omega) ?_
          refine stG 0 0 _ (UInt8.ofNat (((48 : UInt32) + (UInt32.ofNat w.toNat)).toNat)) rfl rfl rfl rfl (by first | omega | (simp; done) | (simp; omega) | (simp at *; omega)) ty5 ⟨trivial, ?_⟩
          refine jn ?_
          exact j_end (own0 := [Gseg b E pre ys0 post]) (ro0 := []) (.inr rfl) rfl (hr0 Tryd.results75) [0] [] [_] [] [] _ rfl rfl (by kernel_rfl) rfl impl_nil (⟨rfl, by have L := G2.lt; rw [show nd = 1 by omega] at L; have G1 := FB.one G2 (by omega) (dch_small N164 (by omega)); rw [show nd - 1 = 0 by omega] at G1; rw [G1.fin], rfl⟩)
        · replace h8 := of_decide_eq_false h8
          refine c_skip ?_
          exact j_end (own0 := [Gseg b E pre ys0 post]) (ro0 := []) (.inr rfl) rfl (hr0 Tryd.results75) [0] [] [_] [] [] _ rfl rfl (by kernel_rfl) rfl impl_nil (⟨rfl, by rw [G2.fin0 (by omega)], rfl⟩)
end Go.Proofs.YthpbiamicidakaaDoor
namespace Go.Proofs.YthpbiamicidakaaDoor
open Go Go.Proofs Go.PW
open Go.PW.Enc (enc val)
theorem z128 : Zt Tryd.prog 128 (.agg ⟨cat [pt (zarr : (Arr UInt8 65))]⟩) := by unfold Zt; kernel_rfl
theorem z106 : Zt Tryd.prog 106 (.agg ⟨cat [pt (zarr : (Arr UInt8 24))]⟩) := by unfold Zt; kernel_rfl
theorem isPow16_ct  : Ct Tryd.prog 94 [.int .i64 16] [] [] (fun v o r => v = .bool true ∧ o = [] ∧ r = []) := by
  refine ct_enter Tryd.func94 rfl Tryd.ntmps94 (by kernel_rfl) rfl fun w0 => ?_
  refine c_seq ?_
  refine c_reg ?_
  refine asg (.bool _) rfl ?_
  refine jt ?_
  refine c_seq ?_
  refine c_reg ?_
  refine mv (.int _ _) rfl ?_
  refine mv (.int _ _) rfl ?_
  refine bopI (.int .i64 15) rfl rfl (by kernel_rfl) ?_
  refine bopI (.int .i64 0) rfl rfl (by kernel_rfl) ?_
  refine cmp true rfl rfl rfl ?_
  refine asg (.bool _) rfl ?_
  refine jt ?_
  refine c_ret ?_
  exact j_end (own0 := []) (ro0 := []) (.inl rfl) rfl (hr1 Tryd.results94 (rvt (v := (.bool _)) rfl)) [] [] [] [] [] _ rfl rfl (by kernel_rfl) rfl impl_nil (⟨rfl, rfl, rfl⟩)
theorem tz64_16_ct  : Ct Tryd.prog 113 [.int .u64 16] [] [tDb64 8] (fun v o r => v = .int .i64 4 ∧ o = [] ∧ r = []) := by
  refine ct_enter Tryd.func113 rfl Tryd.ntmps113 (by kernel_rfl) rfl fun w0 => ?_
  refine c_seq ?_
  refine c_reg ?_
  refine asg (.int _ _) rfl ?_
  refine jt ?_
  refine c_seq ?_
  refine c_seq ?_
  refine c_reg ?_
  refine mv (.int _ _) rfl ?_
  refine cmp false rfl rfl rfl ?_
  refine jt ?_
  refine c_false rfl ?_
  refine c_skip ?_
  refine e_then ?_
  refine c_seq ?_
  refine c_reg ?_
  refine mv (.int _ _) rfl ?_
  refine mv (.int _ _) rfl ?_
  refine negC 18446744073709551600 rfl (by kernel_rfl) ?_
  refine bopI (.int .u64 16) rfl rfl (by kernel_rfl) ?_
  refine bopI (.int .u64 4573923408821661840) rfl rfl (by kernel_rfl) ?_
  refine bopI (.int .u64 15) rfl rfl (by kernel_rfl) ?_
  refine ixaA 15 rfl rfl Tryd.underlying150 ty5.sz rfl (by decide) ?_
  refine ldvG 0 15 (List.getD dbL 15 (0)) rfl rfl rfl (getD_some (by decide)) ty5 ?_
  refine cvI ((List.getD dbL 15 (0)).toNat : Int) rfl Tryd.underlying5 Tryd.underlying3 (wI64 (by have := UInt8.toNat_lt (List.getD dbL 15 (0)); omega)) ?_
  refine asg (.int _ _) rfl ?_
  refine jt ?_
  refine c_ret ?_
  exact j_end (own0 := []) (ro0 := [tDb64 8]) (.inl rfl) rfl (hr1 Tryd.results113 (rvt (v := (.int _ _)) rfl)) [] [] [] [] [] _ rfl rfl (by kernel_rfl) rfl impl_nil (⟨by kernel_rfl, rfl, rfl⟩)
theorem tz_16_ct  : Ct Tryd.prog 95 [.int .u64 16] [] [tDb64 8] (fun v o r => v = .int .i64 4 ∧ o = [] ∧ r = []) := by
  refine ct_enter Tryd.func95 rfl Tryd.ntmps95 (by kernel_rfl) rfl fun w0 => ?_
  refine c_seq ?_
  refine c_reg ?_
  refine asg (.int _ _) rfl ?_
  refine jt ?_
  refine c_seq ?_
  refine c_false rfl ?_
  refine c_skip ?_
  refine e_then ?_
  refine c_seq ?_
  refine c_reg ?_
  refine mv (.int _ _) rfl ?_
  refine cal tz64_16_ct [] [] [] rfl rfl rfl (by kernel_rfl) (impl_cons (impl_at 0 rfl) impl_nil) rfl ?_; rintro _ _ _ ⟨rfl, rfl, rfl⟩; refine ⟨trivial, ?_⟩
  refine asg (.int _ _) rfl ?_
  refine jt ?_
  refine c_ret ?_
  exact j_end (own0 := []) (ro0 := [tDb64 8]) (.inl rfl) rfl (hr1 Tryd.results95 (rvt (v := (.int _ _)) rfl)) [] [] [] [] [] _ rfl rfl (by kernel_rfl) rfl impl_nil (⟨rfl, rfl, rfl⟩)
set_option maxRecDepth 20000 in
set_option maxHeartbeats 4000000 in
theorem formatBits_ct (u : UInt64) : Ct Tryd.prog 76 [.slice none 0 0, .int .u64 (u.toNat : Int), .int .i64 16, .bool false, .bool false] [] [tDb64 8] (fun v o r => v = .tuple #[.slice none 0 0, strV (fmtN 16 u.toNat)] ∧ o = [] ∧ r = []) := by
  have HU := u.toNat_lt
  refine ct_enter Tryd.func76 rfl Tryd.ntmps76 (by kernel_rfl) rfl fun w0 => ?_
  refine c_seq ?_
  refine c_reg ?_
  refine asg (.slice _ _ _) rfl ?_
  refine asg (.string _) rfl ?_
  refine jt ?_
  refine c_seq ?_
  refine c_seq ?_
  refine c_reg ?_
  refine mv (.int _ _) rfl ?_
  refine cmp false rfl rfl rfl ?_
  refine mv (.bool _) rfl ?_
  refine g_on rfl rfl rfl ?_
  refine mv (.int _ _) rfl ?_
  refine g_on rfl rfl rfl ?_
  refine cmp false rfl rfl rfl ?_
  refine pkf (.bool _) rfl rfl ?_
  refine mv (.bool _) rfl ?_
  refine g_on rfl rfl rfl ?_
  refine mv (.int _ _) rfl ?_
  refine g_on rfl rfl rfl ?_
  refine cmp false rfl rfl rfl ?_
  refine pkf (.bool _) rfl rfl ?_
  refine jt ?_
  refine c_false rfl ?_
  refine c_skip ?_
  refine e_then ?_
  refine c_seq ?_
  refine c_reg ?_
  refine alo [pt (zarr : (Arr UInt8 65))] _ z128 rfl fun b12 => ⟨trivial, ?_⟩
  refine jt ?_
  refine c_seq ?_
  refine c_reg ?_
  refine asg (.int _ _) rfl ?_
  refine jt ?_
  refine c_seq ?_
  refine c_seq ?_
  refine c_reg ?_
  refine mv (.bool _) rfl ?_
  refine jt ?_
  refine c_false rfl ?_
  refine c_skip ?_
  refine e_then ?_
  refine c_seq ?_
  refine c_seq ?_
  refine c_reg ?_
  refine mv (.int _ _) rfl ?_
  refine cal isPow16_ct [] [0] [_] rfl rfl rfl (by kernel_rfl) impl_nil rfl ?_; rintro _ _ _ ⟨rfl, rfl, rfl⟩; refine ⟨trivial, ?_⟩
  refine jt ?_
  refine c_true rfl ?_
  refine c_seq ?_
  refine c_reg ?_
  refine mv (.int _ _) rfl ?_
  refine cvI 16 rfl Tryd.underlying3 Tryd.underlying87 (by kernel_rfl) ?_
  refine cal tz_16_ct [] [0] [_] rfl rfl rfl (by kernel_rfl) (impl_cons (impl_at 0 rfl) impl_nil) rfl ?_; rintro _ _ _ ⟨rfl, rfl, rfl⟩; refine ⟨trivial, ?_⟩
  refine cvI 4 rfl Tryd.underlying3 Tryd.underlying87 (by kernel_rfl) ?_
  refine asg (.int _ _) rfl ?_
  refine jt ?_
  refine c_seq ?_
  refine c_reg ?_
  refine mv (.int _ _) rfl ?_
  refine cvI 16 rfl Tryd.underlying3 Tryd.underlying23 (by kernel_rfl) ?_
  refine asg (.int _ _) rfl ?_
  refine jt ?_
  refine c_seq ?_
  refine c_reg ?_
  refine mv (.int _ _) rfl ?_
  refine cvI 16 rfl Tryd.underlying3 Tryd.underlying87 (by kernel_rfl) ?_
  refine bopI (.int .u64 15) rfl rfl (by kernel_rfl) ?_
  refine asg (.int _ _) rfl ?_
  refine jt ?_
  refine c_seq ?_
  refine c_block ?_
  refine c_loop (σ := Nat × Arr UInt8 65 × UInt64) (fun (k, a, w) => FX u.toNat k a w.toNat) (fun (k, a, w) => w.toNat) (fun (k, a, w) => [(13, .int .i64 (65 - (k : Int))), (1, .int .u64 (w.toNat : Int))]) (fun (k, a, w) => [[(b12, .cells (cat [pt a]) 128)]]) (fun (k, a, w) => [tDb64 8]) [1, 13, 44, 45, 46, 47, 48, 49, 50, 51, 52, 53, 54, 55, 56, 57] (0, (zarr : Arr UInt8 65), u) (FX.begin _ _) ⟨by rfl, rfl, trivial⟩ rfl rfl ?_
  rintro ⟨k, a, w⟩ g1 hI1
  try dsimp only at hI1 ⊢
  have HLE := hI1.le
  have HW := w.toNat_lt
  refine c_seq ?_
  refine c_seq ?_
  refine c_reg ?_
  refine mv (.int _ _) rfl ?_
  refine mv (.int _ _) rfl ?_
  refine cmp _ rfl rfl rfl ?_
  refine jt ?_
  refine c_cond rfl (fun h1 => ?_) (fun h1 => ?_)
  · replace h1 := of_decide_eq_true h1
    refine c_skip ?_
    refine e_then ?_
    refine c_block ?_
    refine c_seq ?_
    refine c_reg ?_
    refine mv (.int _ _) rfl ?_
    refine subi rfl rfl rfl (by omega) ?_
    refine asg (.int _ _) rfl ?_
    refine jt ?_
    refine c_seq ?_
    refine c_reg ?_
    refine mv (.int _ _) rfl ?_
    refine mv (.int _ _) rfl ?_
    refine mv (.int _ _) rfl ?_
    refine andU64 (a := w) (b := (15 : UInt64)) rfl rfl ?_
    refine idxT (s := digitsL) ((w &&& 15).toNat) (by kernel_rfl) rfl Tryd.underlying9 rfl (by rw [fx_and]; show _ < 36; omega) ?_
    refine ixaA (64 - k) rfl rfl Tryd.underlying128 ty5.sz (by omega) (by omega) ?_
    refine sta 0 0 _ a (64 - k) (List.getD digitsL ((w &&& 15).toNat) 0) rfl rfl rfl rfl rfl (by omega) ty5 ⟨trivial, ?_⟩
    refine jt ?_
    refine c_reg ?_
    refine mv (.int _ _) rfl ?_
    refine mv (.int _ _) rfl ?_
    refine shrRU64 (a := w) 4 rfl rfl rfl ?_
    refine asg (.int _ _) rfl ?_
    refine jn ?_
    refine e_in ?_
    exact e_loop (k + 1, (Arr.set a (64 - k) (List.getD digitsL ((w &&& 15).toNat) 0)), (shrU64 w 4)) (by rw [show (shrU64 w 4).toNat = w.toNat / 16 from shrU64_toNat w 4]; exact FX.step hI1 HU (by omega) (by rw [digitsL_at _ (by rw [fx_and]; omega), fx_and])) (by show (shrU64 w 4).toNat < w.toNat; rw [shrU64_toNat]; omega) (⟨congrArg (Value.int _) (by omega), rfl, trivial⟩) rfl rfl rfl
  · replace h1 := of_decide_eq_false h1
    refine c_exit rfl ?_
    refine e_then ?_
    refine c_seq ?_
    refine c_reg ?_
    refine mv (.int _ _) rfl ?_
    refine subi rfl rfl rfl (by omega) ?_
    refine asg (.int _ _) rfl ?_
    refine jt ?_
    refine c_reg ?_
    refine mv (.int _ _) rfl ?_
    refine mv (.int _ _) rfl ?_
    refine idxT (s := digitsL) w.toNat (by kernel_rfl) rfl Tryd.underlying9 rfl (by show _ < 36; omega) ?_
    refine ixaA (64 - k) rfl rfl Tryd.underlying128 ty5.sz (by omega) (by omega) ?_
    refine sta 0 0 _ a (64 - k) (List.getD digitsL w.toNat 0) rfl rfl rfl rfl rfl (by omega) ty5 ⟨trivial, ?_⟩
    refine jt ?_
    refine c_seq ?_
    refine c_seq ?_
    refine c_reg ?_
    refine mv (.bool _) rfl ?_
    refine jt ?_
    refine c_false rfl ?_
    refine c_skip ?_
    refine e_then ?_
    refine c_seq ?_
    refine c_seq ?_
    refine c_reg ?_
    refine mv (.bool _) rfl ?_
    refine jt ?_
    refine c_false rfl ?_
    refine c_skip ?_
    refine e_then ?_
    refine c_seq ?_
    refine c_reg ?_
    refine mv (.int _ _) rfl ?_
    refine slaA (64 - k) 65 rfl Tryd.underlying128 ty5.sz ⟨_, congrArg (Value.int _) (by omega)⟩ rfl (by first | omega | (simp; done) | (simp; omega) | (simp at *; omega)) (by first | omega | (simp; done) | (simp; omega) | (simp at *; omega)) (by first | omega | (simp; done) | (simp; omega) | (simp at *; omega)) ?_
    refine cvA (l := (64 - k)) (Arr.set a (64 - k) (List.getD digitsL w.toNat 0)) (65 - (64 - k)) 0 0 rfl (by first | omega | (simp; done) | (simp; omega) | (simp at *; omega)) rfl rfl rfl (by first | omega | (simp; done) | (simp; omega) | (simp at *; omega)) Tryd.underlying50 Tryd.underlying9 Tryd.underlying5 ?_
    refine asg (.string _) rfl ?_
    refine jt ?_
    refine c_ret ?_
    exact j_end (own0 := []) (ro0 := [tDb64 8]) (.inl rfl) rfl (hr2 Tryd.results76 (rvt (v := (.slice _ _ _)) rfl) (rvt (v := (.string _)) rfl)) [] [0] [] [_] [] _ rfl rfl (by kernel_rfl) rfl impl_nil (⟨by rw [FX.fin hI1 (by omega) (digitsL_at _ (by omega))], rfl, rfl⟩)
theorem FormatUint10_ct (u : UInt64) : Ct Tryd.prog 50 [.int .u64 (u.toNat : Int), .int .i64 10] [] [tPow10 3] (fun v o r => v = strV (fmtN 10 u.toNat) ∧ o = [] ∧ r = []) := by
  have HU := u.toNat_lt
  refine ct_enter Tryd.func50 rfl Tryd.ntmps50 (by kernel_rfl) rfl fun w0 => ?_
  refine c_seq ?_
  refine c_reg ?_
  refine asg (.string _) rfl ?_
  refine jt ?_
  refine c_seq ?_
  refine c_seq ?_
  refine c_reg ?_
  refine mv (.int _ _) rfl ?_
  refine cmp true rfl rfl rfl ?_
  refine jt ?_
  refine c_true rfl ?_
  refine c_seq ?_
  refine c_seq ?_
  refine c_reg ?_
  refine mv (.int _ _) rfl ?_
  refine cmp _ rfl rfl rfl ?_
  refine jt ?_
  refine c_cond rfl (fun h1 => ?_) (fun h1 => ?_)
  · replace h1 := of_decide_eq_true h1
    refine c_seq ?_
    refine c_reg ?_
    refine mv (.int _ _) rfl ?_
    refine cvI (u.toNat : Int) rfl Tryd.underlying23 Tryd.underlying3 (wI64 (by omega)) ?_
    refine cal (small_ct u.toNat (by omega)) [] [] [] rfl rfl rfl (by kernel_rfl) impl_nil rfl ?_; rintro _ _ _ ⟨rfl, rfl, rfl⟩; refine ⟨trivial, ?_⟩
    refine asg (.string _) rfl ?_
    refine jt ?_
    refine c_ret ?_
    exact j_end (own0 := []) (ro0 := [tPow10 3]) (.inl rfl) rfl (hr1 Tryd.results50 (rvt (v := (.string _)) rfl)) [] [] [] [] [] _ rfl rfl (by kernel_rfl) rfl impl_nil (⟨rfl, rfl, rfl⟩)
  · replace h1 := of_decide_eq_false h1
    refine c_skip ?_
    refine e_then ?_
    refine c_seq ?_
    refine c_reg ?_
    refine alo [pt (zarr : (Arr UInt8 24))] _ z106 rfl fun b5 => ⟨trivial, ?_⟩
    refine jt ?_
    refine c_seq ?_
    refine c_reg ?_
    refine mv (.int _ _) rfl ?_
    refine cal (numDigits_ct u (by omega)) [] [0] [_] rfl rfl rfl (by kernel_rfl) (impl_cons (impl_at 0 rfl) impl_nil) rfl ?_; rintro _ _ _ ⟨rfl, rfl, rfl⟩; refine ⟨trivial, ?_⟩
    refine asg (.int _ _) rfl ?_
    refine jt ?_
    refine c_seq ?_
    have HND := nd_20 (u := u) (by omega)
    have HLT := nd_lt (u := u)
    refine c_part (own' := [Gseg b5 106 ([]) (List.take (ndg 10 64 u.toNat) (zarr : Arr UInt8 24).l) (encs (List.drop (ndg 10 64 u.toNat) (zarr : Arr UInt8 24).l))]) (by rw [gr_of0 b5 106 (zarr : Arr UInt8 24) (ndg 10 64 u.toNat) (by omega)]; exact List.Perm.refl _) ?_
    refine c_reg ?_
    refine mv (.int _ _) rfl ?_
    refine slaA 0 (ndg 10 64 u.toNat) rfl Tryd.underlying106 ty5.sz rfl ⟨_, rfl⟩ (by first | omega | (simp; done) | (simp; omega) | (simp at *; omega)) (by first | omega | (simp; done) | (simp; omega) | (simp at *; omega)) (by first | omega | (simp; done) | (simp; omega) | (simp at *; omega)) ?_
    refine mv (.int _ _) rfl ?_
    refine cal (formatBase10_ct b5 106 _ (ndg 10 64 u.toNat) ([]) (encs (List.drop (ndg 10 64 u.toNat) (zarr : Arr UInt8 24).l)) (List.take (ndg 10 64 u.toNat) (zarr : Arr UInt8 24).l) u (gr_len0 _ _ (by omega)) (by omega) HLT) [0] [] [] rfl (hx_cons rfl (hx_len (gr_len0 _ _ (by omega)).symm) rfl) rfl (by kernel_rfl) impl_nil rfl ?_; rintro _ _ _ ⟨rfl, rfl, rfl⟩; refine ⟨trivial, ?_⟩
    refine jt ?_
    refine c_seq ?_
    refine c_reg ?_
    refine mv (.int _ _) rfl ?_
    refine slaA 0 (ndg 10 64 u.toNat) rfl Tryd.underlying106 ty5.sz rfl ⟨_, rfl⟩ (by first | omega | (simp; done) | (simp; omega) | (simp at *; omega)) (by first | omega | (simp; done) | (simp; omega) | (simp at *; omega)) (by first | omega | (simp; done) | (simp; omega) | (simp at *; omega)) ?_
    refine cvG (ys := (digs 10 (ndg 10 64 u.toNat) u.toNat)) 0 rfl (by rw [digs_length]; omega) rfl rfl Tryd.underlying50 Tryd.underlying9 Tryd.underlying5 ?_
    refine asg (.string _) rfl ?_
    refine jt ?_
    refine c_ret ?_
    exact j_end (own0 := []) (ro0 := [tPow10 3]) (.inl rfl) rfl (hr1 Tryd.results50 (rvt (v := (.string _)) rfl)) [] [0] [] [_] [] _ rfl rfl (by kernel_rfl) rfl impl_nil (⟨rfl, rfl, rfl⟩)
theorem FormatUint16_ct (u : UInt64) : Ct Tryd.prog 50 [.int .u64 (u.toNat : Int), .int .i64 16] [] [tDb64 8] (fun v o r => v = strV (fmtN 16 u.toNat) ∧ o = [] ∧ r = []) := by
  have HU := u.toNat_lt
  refine ct_enter Tryd.func50 rfl Tryd.ntmps50 (by kernel_rfl) rfl fun w0 => ?_
  refine c_seq ?_
  refine c_reg ?_
  refine asg (.string _) rfl ?_
  refine jt ?_
  refine c_seq ?_
  refine c_seq ?_
  refine c_reg ?_
  refine mv (.int _ _) rfl ?_
  refine cmp false rfl rfl rfl ?_
  refine jt ?_
  refine c_false rfl ?_
  refine c_skip ?_
  refine e_then ?_
  refine c_seq ?_
  refine c_reg ?_
  refine mv (.int _ _) rfl ?_
  refine mv (.int _ _) rfl ?_
  refine cal (formatBits_ct u) [] [] [] rfl rfl rfl (by kernel_rfl) (impl_cons (impl_at 0 rfl) impl_nil) rfl ?_; rintro _ _ _ ⟨rfl, rfl, rfl⟩; refine ⟨trivial, ?_⟩
  refine mv (.tuple _) rfl ?_
  refine xtr (.slice _ _ _) rfl rfl ?_
  refine xtr (.string _) rfl rfl ?_
  refine asg (.slice _ _ _) rfl ?_
  refine asg (.string _) rfl ?_
  refine jt ?_
  refine c_seq ?_
  refine c_reg ?_
  refine mv (.string _) rfl ?_
  refine asg (.string _) rfl ?_
  refine jt ?_
  refine c_ret ?_
  exact j_end (own0 := []) (ro0 := [tDb64 8]) (.inl rfl) rfl (hr1 Tryd.results50 (rvt (v := (.string _)) rfl)) [] [] [] [] [] _ rfl rfl (by kernel_rfl) rfl impl_nil (⟨rfl, rfl, rfl⟩)
theorem sFormatUint10_ct (u : UInt64) : Ct Tryd.prog 20 [.int .u64 (u.toNat : Int), .int .i64 10] [] [tPow10 3] (fun v o r => v = strV (fmtN 10 u.toNat) ∧ o = [] ∧ r = []) := by
  refine ct_enter Tryd.func20 rfl Tryd.ntmps20 (by kernel_rfl) rfl fun w0 => ?_
  refine c_seq ?_
  refine c_reg ?_
  refine asg (.string _) rfl ?_
  refine jt ?_
  refine c_seq ?_
  refine c_reg ?_
  refine mv (.int _ _) rfl ?_
  refine mv (.int _ _) rfl ?_
  refine cal (FormatUint10_ct u) [] [] [] rfl rfl rfl (by kernel_rfl) (impl_cons (impl_at 0 rfl) impl_nil) rfl ?_; rintro _ _ _ ⟨rfl, rfl, rfl⟩; refine ⟨trivial, ?_⟩
  refine asg (.string _) rfl ?_
  refine jt ?_
  refine c_ret ?_
  exact j_end (own0 := []) (ro0 := [tPow10 3]) (.inl rfl) rfl (hr1 Tryd.results20 (rvt (v := (.string _)) rfl)) [] [] [] [] [] _ rfl rfl (by kernel_rfl) rfl impl_nil (⟨rfl, rfl, rfl⟩)
theorem sFormatUint16_ct (u : UInt64) : Ct Tryd.prog 20 [.int .u64 (u.toNat : Int), .int .i64 16] [] [tDb64 8] (fun v o r => v = strV (fmtN 16 u.toNat) ∧ o = [] ∧ r = []) := by
  refine ct_enter Tryd.func20 rfl Tryd.ntmps20 (by kernel_rfl) rfl fun w0 => ?_
  refine c_seq ?_
  refine c_reg ?_
  refine asg (.string _) rfl ?_
  refine jt ?_
  refine c_seq ?_
  refine c_reg ?_
  refine mv (.int _ _) rfl ?_
  refine mv (.int _ _) rfl ?_
  refine cal (FormatUint16_ct u) [] [] [] rfl rfl rfl (by kernel_rfl) (impl_cons (impl_at 0 rfl) impl_nil) rfl ?_; rintro _ _ _ ⟨rfl, rfl, rfl⟩; refine ⟨trivial, ?_⟩
  refine asg (.string _) rfl ?_
  refine jt ?_
  refine c_ret ?_
  exact j_end (own0 := []) (ro0 := [tDb64 8]) (.inl rfl) rfl (hr1 Tryd.results20 (rvt (v := (.string _)) rfl)) [] [] [] [] [] _ rfl rfl (by kernel_rfl) rfl impl_nil (⟨rfl, rfl, rfl⟩)
set_option maxRecDepth 20000 in
set_option maxHeartbeats 4000000 in
theorem FormatInt16_ct (n : Nat) (hn : n < 9223372036854775808) : Ct Tryd.prog 79 [.int .i64 (n : Int), .int .i64 16] [] [tDb64 8] (fun v o r => v = strV (fmtN 16 n) ∧ o = [] ∧ r = []) := by
  refine ct_enter Tryd.func79 rfl Tryd.ntmps79 (by kernel_rfl) rfl fun w0 => ?_
  refine c_seq ?_
  refine c_reg ?_
  refine asg (.string _) rfl ?_
  refine jt ?_
  refine c_seq ?_
  refine c_seq ?_
  refine c_reg ?_
  refine mv (.int _ _) rfl ?_
  refine cmp false rfl rfl rfl ?_
  refine jt ?_
  refine c_false rfl ?_
  refine c_skip ?_
  refine e_then ?_
  refine c_seq ?_
  refine c_reg ?_
  refine mv (.int _ _) rfl ?_
  refine cvNU64 (n := n) rfl Tryd.underlying2 Tryd.underlying23 ?_
  refine mv (.int _ _) rfl ?_
  refine mv (.int _ _) rfl ?_
  refine cmp false rfl rfl (by simp [cmpV]) ?_
  refine cal (formatBits_ct (UInt64.ofNat n)) [] [] [] rfl rfl rfl (by kernel_rfl) (impl_cons (impl_at 0 rfl) impl_nil) rfl ?_; rintro _ _ _ ⟨rfl, rfl, rfl⟩; refine ⟨trivial, ?_⟩
  refine mv (.tuple _) rfl ?_
  refine xtr (.slice _ _ _) rfl rfl ?_
  refine xtr (.string _) rfl rfl ?_
  refine asg (.slice _ _ _) rfl ?_
  refine asg (.string _) rfl ?_
  refine jt ?_
  refine c_seq ?_
  refine c_reg ?_
  refine mv (.string _) rfl ?_
  refine asg (.string _) rfl ?_
  refine jt ?_
  refine c_ret ?_
  exact j_end (own0 := []) (ro0 := [tDb64 8]) (.inl rfl) rfl (hr1 Tryd.results79 (rvt (v := (.string _)) rfl)) [] [] [] [] [] _ rfl rfl (by kernel_rfl) rfl impl_nil (⟨by rw [UInt64.toNat_ofNat', Nat.mod_eq_of_lt (by omega)], rfl, rfl⟩)
theorem sFormatInt16_ct (n : Nat) (hn : n < 9223372036854775808) : Ct Tryd.prog 54 [.int .i64 (n : Int), .int .i64 16] [] [tDb64 8] (fun v o r => v = strV (fmtN 16 n) ∧ o = [] ∧ r = []) := by
  refine ct_enter Tryd.func54 rfl Tryd.ntmps54 (by kernel_rfl) rfl fun w0 => ?_
  refine c_seq ?_
  refine c_reg ?_
  refine asg (.string _) rfl ?_
  refine jt ?_
  refine c_seq ?_
  refine c_reg ?_
  refine mv (.int _ _) rfl ?_
  refine mv (.int _ _) rfl ?_
  refine cal (FormatInt16_ct n hn) [] [] [] rfl rfl rfl (by kernel_rfl) (impl_cons (impl_at 0 rfl) impl_nil) rfl ?_; rintro _ _ _ ⟨rfl, rfl, rfl⟩; refine ⟨trivial, ?_⟩
  refine asg (.string _) rfl ?_
  refine jt ?_
  refine c_ret ?_
  exact j_end (own0 := []) (ro0 := [tDb64 8]) (.inl rfl) rfl (hr1 Tryd.results54 (rvt (v := (.string _)) rfl)) [] [] [] [] [] _ rfl rfl (by kernel_rfl) rfl impl_nil (⟨rfl, rfl, rfl⟩)
end Go.Proofs.YthpbiamicidakaaDoor
namespace Go.Proofs.YthpbiamicidakaaDoor
open Go Go.Proofs Go.PW
open Go.PW.Enc (enc val)
theorem ty76 : Ty Tryd.prog 76 1 false := ⟨by kernel_rfl, by kernel_rfl⟩
theorem ty78 : Ty Tryd.prog 78 2 true := ⟨by kernel_rfl, by kernel_rfl⟩
theorem ty50 : Ty Tryd.prog 50 1 false := ⟨by kernel_rfl, by kernel_rfl⟩
theorem z5 : Zt Tryd.prog 5 ((pt (0 : UInt8)).v) := by unfold Zt; kernel_rfl
theorem by5 : (Tryd.prog.info? 5).map (·.bytes) = some 1 := by kernel_rfl
theorem copyCheck0_ct (b : Nat) (ad : Option Addr) (n c : Nat) : Ct Tryd.prog 77 [.pointer (some ⟨b, 0, none⟩)] [[(b, .cells (cat [p1 (.pointer none), p1 (.slice ad n c)]) 78)]] [] (fun v o r => v = .tuple #[] ∧ o = [[(b, .cells (cat [p1 (.pointer (some ⟨b, 0, none⟩)), p1 (.slice ad n c)]) 78)]] ∧ r = []) := by
  refine ct_enter Tryd.func77 rfl Tryd.ntmps77 (by kernel_rfl) rfl fun w0 => ?_
  refine c_seq ?_
  refine c_reg ?_
  refine mv (.pointer _) rfl ?_
  refine nlc rfl ?_
  refine fad rfl Tryd.underlying78 rfl ty76.sz ?_
  refine ldp 0 0 _ rfl rfl rfl rfl ty76 ?_
  refine eqpn true rfl rfl Tryd.underlying76 rfl ?_
  refine jt ?_
  refine c_true rfl ?_
  refine c_reg ?_
  refine mv (.pointer _) rfl ?_
  refine mv (.pointer _) rfl ?_
  refine cvPU 0 rfl rfl (by simp [cat, p1]) Tryd.underlying76 Tryd.underlying131 ty78.sz ?_
  refine xcal (args := [.pointer (some ⟨b, 0, none⟩)]) (.pointer (some ⟨b, 0, none⟩)) Tryd.func96 (by kernel_rfl) (by kernel_rfl) (by kernel_rfl) (fun w => rfl) (by kernel_rfl) rfl ?_
  refine cvUP 0 rfl rfl Tryd.underlying131 Tryd.underlying76 (by kernel_rfl) (by kernel_rfl) ?_
  refine nlc rfl ?_
  refine fad rfl Tryd.underlying78 rfl ty76.sz ?_
  refine stp 0 0 _ (p1 (.pointer (some ⟨b, 0, none⟩))) rfl rfl rfl rfl rfl rfl ty76 ⟨trivial, ?_⟩
  refine jn ?_
  exact j_end (own0 := [[(b, .cells (cat [p1 (.pointer none), p1 (.slice ad n c)]) 78)]]) (ro0 := []) (.inr rfl) rfl (hr0 Tryd.results77) [0] [] [_] [] [] _ rfl rfl (by kernel_rfl) rfl impl_nil (⟨rfl, rfl, rfl⟩)
theorem copyCheck1_ct (b : Nat) (ad : Option Addr) (n c : Nat) : Ct Tryd.prog 77 [.pointer (some ⟨b, 0, none⟩)] [[(b, .cells (cat [p1 (.pointer (some ⟨b, 0, none⟩)), p1 (.slice ad n c)]) 78)]] [] (fun v o r => v = .tuple #[] ∧ o = [[(b, .cells (cat [p1 (.pointer (some ⟨b, 0, none⟩)), p1 (.slice ad n c)]) 78)]] ∧ r = []) := by
  refine ct_enter Tryd.func77 rfl Tryd.ntmps77 (by kernel_rfl) rfl fun w0 => ?_
  refine c_seq ?_
  refine c_reg ?_
  refine mv (.pointer _) rfl ?_
  refine nlc rfl ?_
  refine fad rfl Tryd.underlying78 rfl ty76.sz ?_
  refine ldp 0 0 _ rfl rfl rfl rfl ty76 ?_
  refine eqpn false rfl rfl Tryd.underlying76 rfl ?_
  refine jt ?_
  refine c_false rfl ?_
  refine c_seq ?_
  refine c_reg ?_
  refine mv (.pointer _) rfl ?_
  refine nlc rfl ?_
  refine fad rfl Tryd.underlying78 rfl ty76.sz ?_
  refine ldp 0 0 _ rfl rfl rfl rfl ty76 ?_
  refine mv (.pointer _) rfl ?_
  refine eqps false rfl rfl Tryd.underlying76 (by kernel_rfl) rfl ?_
  refine jt ?_
  refine c_false rfl ?_
  refine c_skip ?_
  exact j_end (own0 := [[(b, .cells (cat [p1 (.pointer (some ⟨b, 0, none⟩)), p1 (.slice ad n c)]) 78)]]) (ro0 := []) (.inr rfl) rfl (hr0 Tryd.results77) [0] [] [_] [] [] _ rfl rfl (by kernel_rfl) rfl impl_nil (⟨rfl, rfl, rfl⟩)
theorem copyCheck_ct (b : Nat) (a : Option Addr) (ha : a = none ∨ a = (some ⟨b, 0, none⟩)) (ad : Option Addr) (n c : Nat) : Ct Tryd.prog 77 [.pointer (some ⟨b, 0, none⟩)] [[(b, .cells (cat [p1 (.pointer a), p1 (.slice ad n c)]) 78)]] [] (fun v o r => v = .tuple #[] ∧ o = [[(b, .cells (cat [p1 (.pointer (some ⟨b, 0, none⟩)), p1 (.slice ad n c)]) 78)]] ∧ r = []) := by
  rcases ha with rfl | rfl
  · exact copyCheck0_ct b ad n c
  · exact copyCheck1_ct b ad n c
end Go.Proofs.YthpbiamicidakaaDoor
namespace Go.PW
open Go
structure U1 (t : Str) : Prop where
  k : u8step t = 1
  a : (List.getD t 0 0).toNat < 128
structure U2 (t : Str) : Prop where
  k : u8step t = 2
  a : 194 ≤ (List.getD t 0 0).toNat ∧ (List.getD t 0 0).toNat < 224
  b : 128 ≤ (List.getD t 1 0).toNat ∧ (List.getD t 1 0).toNat < 192
structure U3 (t : Str) : Prop where
  k : u8step t = 3
  a : 224 ≤ (List.getD t 0 0).toNat ∧ (List.getD t 0 0).toNat < 240
  b : 128 ≤ (List.getD t 1 0).toNat ∧ (List.getD t 1 0).toNat < 192
  c : 128 ≤ (List.getD t 2 0).toNat ∧ (List.getD t 2 0).toNat < 192
  lo : (List.getD t 0 0).toNat = 224 → 160 ≤ (List.getD t 1 0).toNat
  hi : (List.getD t 0 0).toNat = 237 → (List.getD t 1 0).toNat < 160
structure U4 (t : Str) : Prop where
  k : u8step t = 4
  a : 240 ≤ (List.getD t 0 0).toNat ∧ (List.getD t 0 0).toNat < 245
  b : 128 ≤ (List.getD t 1 0).toNat ∧ (List.getD t 1 0).toNat < 192
  c : 128 ≤ (List.getD t 2 0).toNat ∧ (List.getD t 2 0).toNat < 192
  d : 128 ≤ (List.getD t 3 0).toNat ∧ (List.getD t 3 0).toNat < 192
  lo : (List.getD t 0 0).toNat = 240 → 144 ≤ (List.getD t 1 0).toNat
  hi : (List.getD t 0 0).toNat = 244 → (List.getD t 1 0).toNat < 144
theorem u8_cases {t : Str} (h : u8step t ≠ 0) : U1 t ∨ U2 t ∨ U3 t ∨ U4 t := by
  unfold u8step at h
  by_cases h1 : bt t 0 < 128
  · exact .inl ⟨by unfold u8step; rw [if_pos h1], h1⟩
  rw [if_neg h1] at h
  by_cases h2 : bt t 0 < 194
  · rw [if_pos h2] at h; exact absurd rfl h
  rw [if_neg h2] at h
  by_cases h3 : bt t 0 < 224
  · rw [if_pos h3] at h
    by_cases hc : cont (bt t 1) = true
    · refine .inr (.inl ⟨by unfold u8step; rw [if_neg h1, if_neg h2, if_pos h3, if_pos hc], ⟨Nat.le_of_not_lt h2, h3⟩, ?_⟩)
      simp only [cont, Bool.and_eq_true, decide_eq_true_eq] at hc
      exact hc
    · rw [if_neg hc] at h; exact absurd rfl h
  rw [if_neg h3] at h
  by_cases h4 : bt t 0 < 240
  · rw [if_pos h4] at h
    by_cases hc : (cont (bt t 1) && cont (bt t 2) && decide (bt t 0 = 224 → 160 ≤ bt t 1) && decide (bt t 0 = 237 → bt t 1 < 160)) = true
    · refine .inr (.inr (.inl ?_))
      have hk : u8step t = 3 := by unfold u8step; rw [if_neg h1, if_neg h2, if_neg h3, if_pos h4, if_pos hc]
      simp only [cont, Bool.and_eq_true, decide_eq_true_eq] at hc
      exact ⟨hk, ⟨Nat.le_of_not_lt h3, h4⟩, hc.1.1.1, hc.1.1.2, hc.1.2, hc.2⟩
    · rw [if_neg hc] at h; exact absurd rfl h
  rw [if_neg h4] at h
  by_cases h5 : bt t 0 < 245
  · rw [if_pos h5] at h
    by_cases hc : (cont (bt t 1) && cont (bt t 2) && cont (bt t 3) && decide (bt t 0 = 240 → 144 ≤ bt t 1) && decide (bt t 0 = 244 → bt t 1 < 144)) = true
    · refine .inr (.inr (.inr ?_))
      have hk : u8step t = 4 := by unfold u8step; rw [if_neg h1, if_neg h2, if_neg h3, if_neg h4, if_pos h5, if_pos hc]
      simp only [cont, Bool.and_eq_true, decide_eq_true_eq] at hc
      exact ⟨hk, ⟨Nat.le_of_not_lt h4, h5⟩, hc.1.1.1.1, hc.1.1.1.2, hc.1.1.2, hc.1.2, hc.2⟩
    · rw [if_neg hc] at h; exact absurd rfl h
  · rw [if_neg h5] at h; exact absurd rfl h
theorem getD_in {t : Str} {i : Nat} (h : 0 < (List.getD t i 0).toNat) : i < t.length := Nat.lt_of_not_le fun hn => by
  have := bt_out hn
  have h2 : bt t i = (List.getD t i 0).toNat := rfl
  omega
theorem u8step_le {t : Str} (h : u8step t ≠ 0) (hl : 0 < t.length) : 1 ≤ u8step t ∧ u8step t ≤ t.length ∧ u8step t ≤ 4 := by
  rcases u8_cases h with c | c | c | c
  · have := c.k; omega
  · have := c.k; have := c.b; have := getD_in (t := t) (i := 1) (by omega); omega
  · have := c.k; have := c.c; have := getD_in (t := t) (i := 2) (by omega); omega
  · have := c.k; have := c.d; have := getD_in (t := t) (i := 3) (by omega); omega
theorem u8ok_step {t : Str} (h : u8ok t = true) (hl : 0 < t.length) : u8step t ≠ 0 := fun h0 => by
  rw [u8ok_bad hl h0] at h; cases h
theorem u8ok_rest {t : Str} (h : u8ok t = true) (hl : 0 < t.length) : u8ok (t.drop (u8step t)) = true := by
  have h1 := u8ok_step h hl
  have h2 := u8step_le h1 hl
  rw [u8ok_go (u8step t) hl rfl (by omega)]; exact h
def chr (t : Str) : Nat :=
  if (List.getD t 0 0).toNat < 128 then (List.getD t 0 0).toNat
  else if (List.getD t 0 0).toNat < 224 then (List.getD t 0 0).toNat % 32 * 64 + (List.getD t 1 0).toNat % 64
  else if (List.getD t 0 0).toNat < 240 then ((List.getD t 0 0).toNat % 16 * 64 + (List.getD t 1 0).toNat % 64) * 64 + (List.getD t 2 0).toNat % 64
  else (((List.getD t 0 0).toNat % 8 * 64 + (List.getD t 1 0).toNat % 64) * 64 + (List.getD t 2 0).toNat % 64) * 64 + (List.getD t 3 0).toNat % 64
theorem U1.chr {t : Str} (c : U1 t) : chr t = (List.getD t 0 0).toNat := by unfold PW.chr; rw [if_pos c.a]
theorem U2.chr {t : Str} (c : U2 t) : chr t = (List.getD t 0 0).toNat % 32 * 64 + (List.getD t 1 0).toNat % 64 := by
  have := c.a
  unfold PW.chr; rw [if_neg (by omega), if_pos (by omega)]
theorem U3.chr {t : Str} (c : U3 t) : chr t = ((List.getD t 0 0).toNat % 16 * 64 + (List.getD t 1 0).toNat % 64) * 64 + (List.getD t 2 0).toNat % 64 := by
  have := c.a
  unfold PW.chr; rw [if_neg (by omega), if_neg (by omega), if_pos (by omega)]
theorem U4.chr {t : Str} (c : U4 t) : chr t = (((List.getD t 0 0).toNat % 8 * 64 + (List.getD t 1 0).toNat % 64) * 64 + (List.getD t 2 0).toNat % 64) * 64 + (List.getD t 3 0).toNat % 64 := by
  have := c.a
  unfold PW.chr; rw [if_neg (by omega), if_neg (by omega), if_neg (by omega)]
theorem chr_lt (t : Str) : chr t < 2097152 := by
  have := bt_lt t 0
  unfold chr
  repeat' split
  all_goals omega
theorem chr_asc {t : Str} (h : u8step t ≠ 0) (hc : chr t < 128) : u8step t = 1 ∧ (List.getD t 0 0).toNat = chr t := by
  rcases u8_cases h with c | c | c | c
  · exact ⟨c.k, c.chr.symm⟩
  · have := c.chr; have := c.a; have := c.b; omega
  · have := c.chr; have := c.a; have := c.b; have := c.lo; omega
  · have := c.chr; have := c.a; have := c.b; have := c.lo; omega
theorem chr_take {t : Str} (h : u8step t ≠ 0) (hl : 0 < t.length) (hc : chr t < 128) : t.take 1 = [UInt8.ofNat (chr t)] := by
  obtain ⟨_, h2⟩ := chr_asc h hc
  cases t with
  | nil => simp at hl
  | cons a r =>
    rw [← h2]
    simp
def qstep (c : Nat) : Str := if c = 34 ∨ c = 92 then [92, UInt8.ofNat c] else if 32 ≤ c ∧ c ≤ 126 then [UInt8.ofNat c] else [92, 117, 123] ++ fmtN 16 c ++ [125]
theorem qstep_q {c : Nat} (h : c = 34 ∨ c = 92) : qstep c = [92, UInt8.ofNat c] := if_pos h
theorem qstep_p {c : Nat} (h : ¬(c = 34 ∨ c = 92)) (h2 : 32 ≤ c ∧ c ≤ 126) : qstep c = [UInt8.ofNat c] := by unfold qstep; rw [if_neg h, if_pos h2]
theorem qstep_u {c : Nat} (h : ¬(c = 34 ∨ c = 92)) (h2 : ¬(32 ≤ c ∧ c ≤ 126)) : qstep c = [92, 117, 123] ++ fmtN 16 c ++ [125] := by unfold qstep; rw [if_neg h, if_neg h2]
def qbody (t : Str) : Str :=
  if t.length = 0 then []
  else if u8step t = 0 then []
  else qstep (chr t) ++ qbody (t.drop (u8step t))
termination_by t.length
decreasing_by simp; omega
theorem qbody_nil {t : Str} (h : t.length = 0) : qbody t = [] := by rw [qbody, if_pos h]
theorem qbody_go {t : Str} (h : u8step t ≠ 0) (hl : 0 < t.length) : qbody t = qstep (chr t) ++ qbody (t.drop (u8step t)) := by
  rw [qbody, if_neg (by omega), if_neg h]
def quoteS (s : Str) : Str := [34] ++ qbody s ++ [34]
theorem ndg_bound {b : Nat} (hb : 2 ≤ b) : ∀ {f k n : Nat}, 1 ≤ k → n < b ^ k → ndg b f n ≤ k
  | 0, k, n, h1, _ => by simpa [ndg] using h1
  | f + 1, k, n, h1, h2 => by
    unfold ndg
    by_cases hn : n < b
    · rw [if_pos hn]; exact h1
    · rw [if_neg hn]
      obtain ⟨j, rfl⟩ : ∃ j, k = j + 1 := ⟨k - 1, by omega⟩
      have hj : 1 ≤ j := by
        rcases Nat.eq_zero_or_pos j with h | h
        · subst h; simp at h2; omega
        · exact h
      have := ndg_bound hb (f := f) hj (show n / b < b ^ j by rw [Nat.div_lt_iff_lt_mul (by omega), ← Nat.pow_succ]; exact h2)
      omega
def padN (k : Nat) (s : Str) : Str := List.replicate (k - s.length) 48 ++ s
theorem pad_done {k : Nat} {s : Str} (h : k ≤ s.length) : padN k s = s := by unfold padN; rw [Nat.sub_eq_zero_of_le h]; rfl
theorem pad_step {k : Nat} {s : Str} (h : s.length < k) : padN k ([48] ++ s) = padN k s := by
  unfold padN
  rw [show k - s.length = (k - ([48] ++ s).length) + 1 by simp; omega, List.replicate_succ']
  simp
theorem pad_length {k : Nat} {s : Str} : (padN k s).length = max k s.length := by unfold padN; simp; omega
theorem pad_one (b n : Nat) : padN 1 (fmtN b n) = fmtN b n := pad_done (fmtN_length b n).1
def pfx (s p : Str) : Bool := decide (p.length ≤ s.length) && decide (s.take p.length = p)
end Go.PW
namespace Go.Proofs.YthpbiamicidakaaDoor
open Go Go.Proofs Go.PW
open Go.PW.Enc (enc val)
theorem slHasPrefix_ct (s p : Str) (hs : s.length ≤ 9223372036854775807) (hp : p.length ≤ 9223372036854775807) : Ct Tryd.prog 100 [strV s, strV p] [] [] (fun v o r => v = .bool (pfx s p) ∧ o = [] ∧ r = []) := by
  refine ct_enter Tryd.func100 rfl Tryd.ntmps100 (by kernel_rfl) rfl fun w0 => ?_
  refine c_seq ?_
  refine c_reg ?_
  refine asg (.bool _) rfl ?_
  refine jt ?_
  refine c_seq ?_
  refine c_reg ?_
  refine mv (.string _) rfl ?_
  refine lenT (s := s) rfl Tryd.underlying9 ?_
  refine mv (.string _) rfl ?_
  refine lenT (s := p) rfl Tryd.underlying9 ?_
  refine cmp _ rfl rfl rfl ?_
  refine mv (.bool _) rfl ?_
  refine jsplit 10 rfl (fun h1 => ?_) (fun h1 => ?_)
  · replace h1 := of_decide_eq_true h1
    refine g_on rfl rfl rfl ?_
    refine mv (.string _) rfl ?_
    refine g_on rfl rfl rfl ?_
    refine mv (.string _) rfl ?_
    refine g_on rfl rfl rfl ?_
    refine lenT (s := p) rfl Tryd.underlying9 ?_
    refine g_on rfl rfl rfl ?_
    refine cutT (s := s) 0 p.length rfl Tryd.underlying9 rfl ⟨_, rfl⟩ (by first | omega | (simp; done) | (simp; omega)) (by first | omega | (simp; done) | (simp; omega)) (List.take p.length s) (cut_lo _ _) ?_
    refine g_on rfl rfl rfl ?_
    refine mv (.string _) rfl ?_
    refine g_on rfl rfl rfl ?_
    refine scmp (a := (List.take p.length s)) (b := p) _ rfl rfl Tryd.underlying9 rfl ?_
    refine pkt (.bool _) rfl rfl ?_
    refine asg (.bool _) rfl ?_
    refine jt ?_
    refine c_ret ?_
    exact j_end (own0 := []) (ro0 := []) (.inl rfl) rfl (hr1 Tryd.results100 (rvt (v := (.bool _)) rfl)) [] [] [] [] [] _ rfl rfl (by kernel_rfl) rfl impl_nil (⟨by unfold pfx; rw [decide_eq_true (show p.length ≤ s.length by omega)]; simp, rfl, rfl⟩)
  · replace h1 := of_decide_eq_false h1
    refine g_off rfl rfl rfl rfl ?_
    refine g_off rfl rfl rfl rfl ?_
    refine g_off rfl rfl rfl rfl ?_
    refine g_off rfl rfl rfl rfl ?_
    refine g_off rfl rfl rfl rfl ?_
    refine g_off rfl rfl rfl rfl ?_
    refine pkf (.bool _) rfl rfl ?_
    refine asg (.bool _) rfl ?_
    refine jt ?_
    refine c_ret ?_
    exact j_end (own0 := []) (ro0 := []) (.inl rfl) rfl (hr1 Tryd.results100 (rvt (v := (.bool _)) rfl)) [] [] [] [] [] _ rfl rfl (by kernel_rfl) rfl impl_nil (⟨by unfold pfx; rw [decide_eq_false (show ¬ p.length ≤ s.length by omega)]; rfl, rfl, rfl⟩)
theorem sHasPrefix_ct (s p : Str) (hs : s.length ≤ 9223372036854775807) (hp : p.length ≤ 9223372036854775807) : Ct Tryd.prog 81 [strV s, strV p] [] [] (fun v o r => v = .bool (pfx s p) ∧ o = [] ∧ r = []) := by
  refine ct_enter Tryd.func81 rfl Tryd.ntmps81 (by kernel_rfl) rfl fun w0 => ?_
  refine c_seq ?_
  refine c_reg ?_
  refine asg (.bool _) rfl ?_
  refine jt ?_
  refine c_seq ?_
  refine c_reg ?_
  refine mv (.string _) rfl ?_
  refine mv (.string _) rfl ?_
  refine cal (slHasPrefix_ct s p hs hp) [] [] [] rfl rfl rfl (by kernel_rfl) impl_nil rfl ?_; rintro _ _ _ ⟨rfl, rfl, rfl⟩; refine ⟨trivial, ?_⟩
  refine asg (.bool _) rfl ?_
  refine jt ?_
  refine c_ret ?_
  exact j_end (own0 := []) (ro0 := []) (.inl rfl) rfl (hr1 Tryd.results81 (rvt (v := (.bool _)) rfl)) [] [] [] [] [] _ rfl rfl (by kernel_rfl) rfl impl_nil (⟨rfl, rfl, rfl⟩)
end Go.Proofs.YthpbiamicidakaaDoor
namespace Go.Proofs.YthpbiamicidakaaDoor
open Go Go.Proofs Go.PW
open Go.PW.Enc (enc val)
set_option maxRecDepth 20000 in
set_option maxHeartbeats 4000000 in
theorem character_ct (t : Str) (hs : u8step t ≠ 0) (hl : 0 < t.length) : Ct Tryd.prog 57 [strV t] [] [] (fun v o r => v = .tuple #[.int .i64 (chr t : Int), .int .i64 (u8step t : Int)] ∧ o = [] ∧ r = []) := by
  refine ct_enter Tryd.func57 rfl Tryd.ntmps57 (by kernel_rfl) rfl fun w0 => ?_
  refine c_seq ?_
  refine c_reg ?_
  refine asg (.int _ _) rfl ?_
  refine asg (.int _ _) rfl ?_
  refine jt ?_
  refine c_seq ?_
  refine c_reg ?_
  refine mv (.string _) rfl ?_
  refine idxT (s := t) 0 rfl rfl Tryd.underlying9 rfl hl ?_
  refine cvI ((List.getD t 0 0).toNat : Int) rfl Tryd.underlying5 Tryd.underlying3 (wI64 (by have := UInt8.toNat_lt (List.getD t 0 0); omega)) ?_
  refine asg (.int _ _) rfl ?_
  refine jt ?_
  refine c_seq ?_
  refine c_reg ?_
  refine asg (.int _ _) rfl ?_
  refine jt ?_
  refine c_seq ?_
  refine c_seq ?_
  refine c_reg ?_
  refine mv (.int _ _) rfl ?_
  refine cmp _ rfl rfl rfl ?_
  refine jt ?_
  refine c_cond rfl (fun h1 => ?_) (fun h1 => ?_)
  · replace h1 := of_decide_eq_true h1
    refine c_reg ?_
    refine mv (.int _ _) rfl ?_
    refine remn (a := (List.getD t 0 0).toNat) (b := 8) rfl rfl (by decide) ?_
    refine asg (.int _ _) rfl ?_
    refine asg (.int _ _) rfl ?_
    refine jt ?_
    refine c_seq ?_
    refine c_seq ?_
    have HB0 := UInt8.toNat_lt (List.getD t 0 0)
    have HC : chr t = (((((List.getD t 0 0).toNat % 8)) * 64 + (List.getD t 1 0).toNat % 64) * 64 + (List.getD t 2 0).toNat % 64) * 64 + (List.getD t 3 0).toNat % 64 ∧ u8step t = 4 := by rcases u8_cases hs with c | c | c | c <;> first | exact ⟨c.chr, c.k⟩ | (have := c.a; omega)
    have HLN : 4 ≤ t.length := by have := u8step_le hs hl; have := HC.2; omega
    refine c_reg ?_
    refine asg (.int _ _) rfl ?_
    refine jt ?_
    refine c_block ?_
    refine c_loop (σ := Nat × Nat) (fun (i, c) => (i = 1 ∧ c = ((List.getD t 0 0).toNat % 8)) ∨ (i = 2 ∧ c = (((List.getD t 0 0).toNat % 8)) * 64 + (List.getD t 1 0).toNat % 64) ∨ (i = 3 ∧ c = ((((List.getD t 0 0).toNat % 8)) * 64 + (List.getD t 1 0).toNat % 64) * 64 + (List.getD t 2 0).toNat % 64) ∨ (i = 4 ∧ c = (((((List.getD t 0 0).toNat % 8)) * 64 + (List.getD t 1 0).toNat % 64) * 64 + (List.getD t 2 0).toNat % 64) * 64 + (List.getD t 3 0).toNat % 64)) (fun (i, c) => 4 - i) (fun (i, c) => [(6, .int .i64 (i : Int)), (4, .int .i64 (c : Int))]) (fun (i, c) => []) (fun (i, c) => []) [4, 6, 22, 23, 24, 25, 26, 27, 28, 29, 30, 31, 32, 33, 34] (1, ((List.getD t 0 0).toNat % 8)) (by simp) ⟨rfl, rfl, trivial⟩ rfl rfl ?_
    rintro ⟨i, c⟩ g1 hI1
    try dsimp only at hI1 ⊢
    have HB1 := UInt8.toNat_lt (List.getD t i 0)
    refine c_seq ?_
    refine c_seq ?_
    refine c_reg ?_
    refine mv (.int _ _) rfl ?_
    refine mv (.int _ _) rfl ?_
    refine cmp _ rfl rfl rfl ?_
    refine jt ?_
    refine c_cond rfl (fun h2 => ?_) (fun h2 => ?_)
    · replace h2 := of_decide_eq_true h2
      refine c_skip ?_
      refine e_then ?_
      refine c_seq ?_
      refine c_block ?_
      refine c_reg ?_
      refine mv (.int _ _) rfl ?_
      refine muli rfl rfl rfl (by omega) ?_
      refine mv (.string _) rfl ?_
      refine mv (.int _ _) rfl ?_
      refine idxT (s := t) i rfl rfl Tryd.underlying9 rfl (by omega) ?_
      refine cvI ((List.getD t i 0).toNat : Int) rfl Tryd.underlying5 Tryd.underlying3 (wI64 (by have := UInt8.toNat_lt (List.getD t i 0); omega)) ?_
      refine remn (a := (List.getD t i 0).toNat) (b := 64) rfl rfl (by decide) ?_
      refine addi rfl rfl rfl (by omega) ?_
      refine asg (.int _ _) rfl ?_
      refine jn ?_
      refine e_in ?_
      refine e_then ?_
      refine c_reg ?_
      refine mv (.int _ _) rfl ?_
      refine addi rfl rfl rfl (by omega) ?_
      refine asg (.int _ _) rfl ?_
      refine jn ?_
      exact e_loop (i + 1, c * 64 + (List.getD t i 0).toNat % 64) (by rcases hI1 with ⟨hi, hc⟩ | ⟨hi, hc⟩ | ⟨hi, hc⟩ | ⟨hi, hc⟩ <;> subst hi <;> omega) (by show 4 - (i + 1) < 4 - i; omega) (⟨rfl, congrArg (Value.int _) (by omega), trivial⟩) rfl rfl rfl
    · replace h2 := of_decide_eq_false h2
      refine c_exit rfl ?_
      refine e_then ?_
      refine c_seq ?_
      refine c_reg ?_
      refine mv (.int _ _) rfl ?_
      refine mv (.int _ _) rfl ?_
      refine asg (.int _ _) rfl ?_
      refine asg (.int _ _) rfl ?_
      refine jt ?_
      refine c_ret ?_
      exact j_end (own0 := []) (ro0 := []) (.inl rfl) rfl (hr2 Tryd.results57 (rvt (v := (.int _ _)) rfl) (rvt (v := (.int _ _)) rfl)) [] [] [] [] [] _ rfl rfl (by kernel_rfl) rfl impl_nil (⟨by rw [HC.1, HC.2, show c = (((((List.getD t 0 0).toNat % 8)) * 64 + (List.getD t 1 0).toNat % 64) * 64 + (List.getD t 2 0).toNat % 64) * 64 + (List.getD t 3 0).toNat % 64 by omega]; rfl, rfl, rfl⟩)
  · replace h1 := of_decide_eq_false h1
    refine c_seq ?_
    refine c_reg ?_
    refine mv (.int _ _) rfl ?_
    refine cmp _ rfl rfl rfl ?_
    refine jt ?_
    refine c_cond rfl (fun h3 => ?_) (fun h3 => ?_)
    · replace h3 := of_decide_eq_true h3
      refine c_reg ?_
      refine mv (.int _ _) rfl ?_
      refine remn (a := (List.getD t 0 0).toNat) (b := 16) rfl rfl (by decide) ?_
      refine asg (.int _ _) rfl ?_
      refine asg (.int _ _) rfl ?_
      refine jt ?_
      refine c_seq ?_
      refine c_seq ?_
      have HB0 := UInt8.toNat_lt (List.getD t 0 0)
      have HC : chr t = ((((List.getD t 0 0).toNat % 16)) * 64 + (List.getD t 1 0).toNat % 64) * 64 + (List.getD t 2 0).toNat % 64 ∧ u8step t = 3 := by rcases u8_cases hs with c | c | c | c <;> first | exact ⟨c.chr, c.k⟩ | (have := c.a; omega)
      have HLN : 3 ≤ t.length := by have := u8step_le hs hl; have := HC.2; omega
      refine c_reg ?_
      refine asg (.int _ _) rfl ?_
      refine jt ?_
      refine c_block ?_
      refine c_loop (σ := Nat × Nat) (fun (i, c) => (i = 1 ∧ c = ((List.getD t 0 0).toNat % 16)) ∨ (i = 2 ∧ c = (((List.getD t 0 0).toNat % 16)) * 64 + (List.getD t 1 0).toNat % 64) ∨ (i = 3 ∧ c = ((((List.getD t 0 0).toNat % 16)) * 64 + (List.getD t 1 0).toNat % 64) * 64 + (List.getD t 2 0).toNat % 64)) (fun (i, c) => 4 - i) (fun (i, c) => [(6, .int .i64 (i : Int)), (4, .int .i64 (c : Int))]) (fun (i, c) => []) (fun (i, c) => []) [4, 6, 22, 23, 24, 25, 26, 27, 28, 29, 30, 31, 32, 33, 34] (1, ((List.getD t 0 0).toNat % 16)) (by simp) ⟨rfl, rfl, trivial⟩ rfl rfl ?_
      rintro ⟨i, c⟩ g1 hI1
      try dsimp only at hI1 ⊢
      have HB1 := UInt8.toNat_lt (List.getD t i 0)
      refine c_seq ?_
      refine c_seq ?_
      refine c_reg ?_
      refine mv (.int _ _) rfl ?_
      refine mv (.int _ _) rfl ?_
      refine cmp _ rfl rfl rfl ?_
      refine jt ?_
      refine c_cond rfl (fun h4 => ?_) (fun h4 => ?_)
      · replace h4 := of_decide_eq_true h4
        refine c_skip ?_
        refine e_then ?_
        refine c_seq ?_
        refine c_block ?_
        refine c_reg ?_
        refine mv (.int _ _) rfl ?_
        refine muli rfl rfl rfl (by omega) ?_
        refine mv (.string _) rfl ?_
        refine mv (.int _ _) rfl ?_
        refine idxT (s := t) i rfl rfl Tryd.underlying9 rfl (by omega) ?_
        refine cvI ((List.getD t i 0).toNat : Int) rfl Tryd.underlying5 Tryd.underlying3 (wI64 (by have := UInt8.toNat_lt (List.getD t i 0); omega)) ?_
        refine remn (a := (List.getD t i 0).toNat) (b := 64) rfl rfl (by decide) ?_
        refine addi rfl rfl rfl (by omega) ?_
        refine asg (.int _ _) rfl ?_
        refine jn ?_
        refine e_in ?_
        refine e_then ?_
        refine c_reg ?_
        refine mv (.int _ _) rfl ?_
        refine addi rfl rfl rfl (by omega) ?_
        refine asg (.int _ _) rfl ?_
        refine jn ?_
        exact e_loop (i + 1, c * 64 + (List.getD t i 0).toNat % 64) (by rcases hI1 with ⟨hi, hc⟩ | ⟨hi, hc⟩ | ⟨hi, hc⟩ <;> subst hi <;> omega) (by show 4 - (i + 1) < 4 - i; omega) (⟨rfl, congrArg (Value.int _) (by omega), trivial⟩) rfl rfl rfl
      · replace h4 := of_decide_eq_false h4
        refine c_exit rfl ?_
        refine e_then ?_
        refine c_seq ?_
        refine c_reg ?_
        refine mv (.int _ _) rfl ?_
        refine mv (.int _ _) rfl ?_
        refine asg (.int _ _) rfl ?_
        refine asg (.int _ _) rfl ?_
        refine jt ?_
        refine c_ret ?_
        exact j_end (own0 := []) (ro0 := []) (.inl rfl) rfl (hr2 Tryd.results57 (rvt (v := (.int _ _)) rfl) (rvt (v := (.int _ _)) rfl)) [] [] [] [] [] _ rfl rfl (by kernel_rfl) rfl impl_nil (⟨by rw [HC.1, HC.2, show c = ((((List.getD t 0 0).toNat % 16)) * 64 + (List.getD t 1 0).toNat % 64) * 64 + (List.getD t 2 0).toNat % 64 by omega]; rfl, rfl, rfl⟩)
    · replace h3 := of_decide_eq_false h3
      refine c_seq ?_
      refine c_reg ?_
      refine mv (.int _ _) rfl ?_
      refine cmp _ rfl rfl rfl ?_
      refine jt ?_
      refine c_cond rfl (fun h5 => ?_) (fun h5 => ?_)
      · replace h5 := of_decide_eq_true h5
        refine c_reg ?_
        refine mv (.int _ _) rfl ?_
        refine remn (a := (List.getD t 0 0).toNat) (b := 32) rfl rfl (by decide) ?_
        refine asg (.int _ _) rfl ?_
        refine asg (.int _ _) rfl ?_
        refine jt ?_
        refine c_seq ?_
        refine c_seq ?_
        have HB0 := UInt8.toNat_lt (List.getD t 0 0)
        have HC : chr t = (((List.getD t 0 0).toNat % 32)) * 64 + (List.getD t 1 0).toNat % 64 ∧ u8step t = 2 := by rcases u8_cases hs with c | c | c | c <;> first | exact ⟨c.chr, c.k⟩ | (have := c.a; omega)
        have HLN : 2 ≤ t.length := by have := u8step_le hs hl; have := HC.2; omega
        refine c_reg ?_
        refine asg (.int _ _) rfl ?_
        refine jt ?_
        refine c_block ?_
        refine c_loop (σ := Nat × Nat) (fun (i, c) => (i = 1 ∧ c = ((List.getD t 0 0).toNat % 32)) ∨ (i = 2 ∧ c = (((List.getD t 0 0).toNat % 32)) * 64 + (List.getD t 1 0).toNat % 64)) (fun (i, c) => 4 - i) (fun (i, c) => [(6, .int .i64 (i : Int)), (4, .int .i64 (c : Int))]) (fun (i, c) => []) (fun (i, c) => []) [4, 6, 22, 23, 24, 25, 26, 27, 28, 29, 30, 31, 32, 33, 34] (1, ((List.getD t 0 0).toNat % 32)) (by simp) ⟨rfl, rfl, trivial⟩ rfl rfl ?_
        rintro ⟨i, c⟩ g1 hI1
        try dsimp only at hI1 ⊢
        have HB1 := UInt8.toNat_lt (List.getD t i 0)
        refine c_seq ?_
        refine c_seq ?_
        refine c_reg ?_
        refine mv (.int _ _) rfl ?_
        refine mv (.int _ _) rfl ?_
        refine cmp _ rfl rfl rfl ?_
        refine jt ?_
        refine c_cond rfl (fun h6 => ?_) (fun h6 => ?_)
        · replace h6 := of_decide_eq_true h6
          refine c_skip ?_
          refine e_then ?_
          refine c_seq ?_
          refine c_block ?_
          refine c_reg ?_
          refine mv (.int _ _) rfl ?_
          refine muli rfl rfl rfl (by omega) ?_
          refine mv (.string _) rfl ?_
          refine mv (.int _ _) rfl ?_
          refine idxT (s := t) i rfl rfl Tryd.underlying9 rfl (by omega) ?_
          refine cvI ((List.getD t i 0).toNat : Int) rfl Tryd.underlying5 Tryd.underlying3 (wI64 (by have := UInt8.toNat_lt (List.getD t i 0); omega)) ?_
          refine remn (a := (List.getD t i 0).toNat) (b := 64) rfl rfl (by decide) ?_
          refine addi rfl rfl rfl (by omega) ?_
          refine asg (.int _ _) rfl ?_
          refine jn ?_
          refine e_in ?_
          refine e_then ?_
          refine c_reg ?_
          refine mv (.int _ _) rfl ?_
          refine addi rfl rfl rfl (by omega) ?_
          refine asg (.int _ _) rfl ?_
          refine jn ?_
          exact e_loop (i + 1, c * 64 + (List.getD t i 0).toNat % 64) (by rcases hI1 with ⟨hi, hc⟩ | ⟨hi, hc⟩ <;> subst hi <;> omega) (by show 4 - (i + 1) < 4 - i; omega) (⟨rfl, congrArg (Value.int _) (by omega), trivial⟩) rfl rfl rfl
        · replace h6 := of_decide_eq_false h6
          refine c_exit rfl ?_
          refine e_then ?_
          refine c_seq ?_
          refine c_reg ?_
          refine mv (.int _ _) rfl ?_
          refine mv (.int _ _) rfl ?_
          refine asg (.int _ _) rfl ?_
          refine asg (.int _ _) rfl ?_
          refine jt ?_
          refine c_ret ?_
          exact j_end (own0 := []) (ro0 := []) (.inl rfl) rfl (hr2 Tryd.results57 (rvt (v := (.int _ _)) rfl) (rvt (v := (.int _ _)) rfl)) [] [] [] [] [] _ rfl rfl (by kernel_rfl) rfl impl_nil (⟨by rw [HC.1, HC.2, show c = (((List.getD t 0 0).toNat % 32)) * 64 + (List.getD t 1 0).toNat % 64 by omega]; rfl, rfl, rfl⟩)
      · replace h5 := of_decide_eq_false h5
        refine c_skip ?_
        refine e_then ?_
        refine c_seq ?_
        refine c_seq ?_
        have HB0 := UInt8.toNat_lt (List.getD t 0 0)
        have HC : chr t = (List.getD t 0 0).toNat ∧ u8step t = 1 := by rcases u8_cases hs with c | c | c | c <;> first | exact ⟨c.chr, c.k⟩ | (have := c.a; omega)
        have HLN : 1 ≤ t.length := by have := u8step_le hs hl; have := HC.2; omega
        refine c_reg ?_
        refine asg (.int _ _) rfl ?_
        refine jt ?_
        refine c_block ?_
        refine c_loop (σ := Nat × Nat) (fun (i, c) => (i = 1 ∧ c = (List.getD t 0 0).toNat)) (fun (i, c) => 4 - i) (fun (i, c) => [(6, .int .i64 (i : Int)), (4, .int .i64 (c : Int))]) (fun (i, c) => []) (fun (i, c) => []) [4, 6, 22, 23, 24, 25, 26, 27, 28, 29, 30, 31, 32, 33, 34] (1, (List.getD t 0 0).toNat) (by simp) ⟨rfl, rfl, trivial⟩ rfl rfl ?_
        rintro ⟨i, c⟩ g1 hI1
        try dsimp only at hI1 ⊢
        have HB1 := UInt8.toNat_lt (List.getD t i 0)
        refine c_seq ?_
        refine c_seq ?_
        refine c_reg ?_
        refine mv (.int _ _) rfl ?_
        refine mv (.int _ _) rfl ?_
        refine cmp _ rfl rfl rfl ?_
        refine jt ?_
        refine c_cond rfl (fun h7 => ?_) (fun h7 => ?_)
        · replace h7 := of_decide_eq_true h7
          refine c_skip ?_
          refine e_then ?_
          refine c_seq ?_
          refine c_block ?_
          refine c_reg ?_
          refine mv (.int _ _) rfl ?_
          refine muli rfl rfl rfl (by omega) ?_
          refine mv (.string _) rfl ?_
          refine mv (.int _ _) rfl ?_
          refine idxT (s := t) i rfl rfl Tryd.underlying9 rfl (by omega) ?_
          refine cvI ((List.getD t i 0).toNat : Int) rfl Tryd.underlying5 Tryd.underlying3 (wI64 (by have := UInt8.toNat_lt (List.getD t i 0); omega)) ?_
          refine remn (a := (List.getD t i 0).toNat) (b := 64) rfl rfl (by decide) ?_
          refine addi rfl rfl rfl (by omega) ?_
          refine asg (.int _ _) rfl ?_
          refine jn ?_
          refine e_in ?_
          refine e_then ?_
          refine c_reg ?_
          refine mv (.int _ _) rfl ?_
          refine addi rfl rfl rfl (by omega) ?_
          refine asg (.int _ _) rfl ?_
          refine jn ?_
          exact e_loop (i + 1, c * 64 + (List.getD t i 0).toNat % 64) (by obtain ⟨hi, hc⟩ := hI1; omega) (by show 4 - (i + 1) < 4 - i; omega) (⟨rfl, congrArg (Value.int _) (by omega), trivial⟩) rfl rfl rfl
        · replace h7 := of_decide_eq_false h7
          refine c_exit rfl ?_
          refine e_then ?_
          refine c_seq ?_
          refine c_reg ?_
          refine mv (.int _ _) rfl ?_
          refine mv (.int _ _) rfl ?_
          refine asg (.int _ _) rfl ?_
          refine asg (.int _ _) rfl ?_
          refine jt ?_
          refine c_ret ?_
          exact j_end (own0 := []) (ro0 := []) (.inl rfl) rfl (hr2 Tryd.results57 (rvt (v := (.int _ _)) rfl) (rvt (v := (.int _ _)) rfl)) [] [] [] [] [] _ rfl rfl (by kernel_rfl) rfl impl_nil (⟨by rw [HC.1, HC.2, show c = (List.getD t 0 0).toNat by omega]; rfl, rfl, rfl⟩)
end Go.Proofs.YthpbiamicidakaaDoor
namespace Go.Proofs.YthpbiamicidakaaDoor
open Go Go.Proofs Go.PW
open Go.PW.Enc (enc val)
theorem decimal_ct (n : UInt64) : Ct Tryd.prog 25 [.int .u64 (n.toNat : Int)] [] [tPow10 3] (fun v o r => v = strV (fmtN 10 n.toNat) ∧ o = [] ∧ r = []) := by
  refine ct_enter Tryd.func25 rfl Tryd.ntmps25 (by kernel_rfl) rfl fun w0 => ?_
  refine c_seq ?_
  refine c_reg ?_
  refine asg (.string _) rfl ?_
  refine jt ?_
  refine c_seq ?_
  refine c_reg ?_
  refine mv (.int _ _) rfl ?_
  refine cal (sFormatUint10_ct n) [] [] [] rfl rfl rfl (by kernel_rfl) (impl_cons (impl_at 0 rfl) impl_nil) rfl ?_; rintro _ _ _ ⟨rfl, rfl, rfl⟩; refine ⟨trivial, ?_⟩
  refine asg (.string _) rfl ?_
  refine jt ?_
  refine c_ret ?_
  exact j_end (own0 := []) (ro0 := [tPow10 3]) (.inl rfl) rfl (hr1 Tryd.results25 (rvt (v := (.string _)) rfl)) [] [] [] [] [] _ rfl rfl (by kernel_rfl) rfl impl_nil (⟨rfl, rfl, rfl⟩)
theorem rhex_ct (n : UInt64) (k : Nat) (hk : k ≤ 16) : Ct Tryd.prog 26 [.int .u64 (n.toNat : Int), .int .i64 (k : Int)] [] [tDb64 8] (fun v o r => v = strV (padN k (fmtN 16 n.toNat)) ∧ o = [] ∧ r = []) := by
  refine ct_enter Tryd.func26 rfl Tryd.ntmps26 (by kernel_rfl) rfl fun w0 => ?_
  refine c_seq ?_
  refine c_reg ?_
  refine asg (.string _) rfl ?_
  refine jt ?_
  refine c_seq ?_
  refine c_reg ?_
  refine mv (.int _ _) rfl ?_
  refine cal (sFormatUint16_ct n) [] [] [] rfl rfl rfl (by kernel_rfl) (impl_cons (impl_at 0 rfl) impl_nil) rfl ?_; rintro _ _ _ ⟨rfl, rfl, rfl⟩; refine ⟨trivial, ?_⟩
  refine asg (.string _) rfl ?_
  refine jt ?_
  refine c_seq ?_
  refine c_block ?_
  refine c_loop (σ := Str) (fun s => padN k s = padN k (fmtN 16 n.toNat) ∧ s.length ≤ 65) (fun s => k - s.length) (fun s => [(5, strV s)]) (fun s => []) (fun s => [tDb64 8]) [5, 8, 9, 10, 11, 12, 13] (fmtN 16 n.toNat) (⟨rfl, (fmtN_length _ _).2⟩) ⟨rfl, trivial⟩ rfl rfl ?_
  rintro s g1 hI1
  try dsimp only at hI1 ⊢
  refine c_seq ?_
  refine c_seq ?_
  refine c_reg ?_
  refine mv (.string _) rfl ?_
  refine lenT (s := s) rfl Tryd.underlying9 ?_
  refine mv (.int _ _) rfl ?_
  refine cmp _ rfl rfl rfl ?_
  refine jt ?_
  refine c_cond rfl (fun h1 => ?_) (fun h1 => ?_)
  · replace h1 := of_decide_eq_true h1
    refine c_skip ?_
    refine e_then ?_
    refine c_block ?_
    refine c_reg ?_
    refine mv (.string _) rfl ?_
    refine sadd (a := ([48] : Str)) (b := s) rfl rfl (by first | omega | (simp; omega)) ?_
    refine asg (.string _) rfl ?_
    refine jn ?_
    refine e_in ?_
    exact e_loop (([48] : Str) ++ s) (⟨by rw [pad_step (by omega)]; exact hI1.1, by simp; omega⟩) (by simp; omega) (⟨rfl, trivial⟩) rfl rfl rfl
  · replace h1 := of_decide_eq_false h1
    refine c_exit rfl ?_
    refine e_then ?_
    refine c_seq ?_
    refine c_reg ?_
    refine mv (.string _) rfl ?_
    refine asg (.string _) rfl ?_
    refine jt ?_
    refine c_ret ?_
    exact j_end (own0 := []) (ro0 := [tDb64 8]) (.inl rfl) rfl (hr1 Tryd.results26 (rvt (v := (.string _)) rfl)) [] [] [] [] [] _ rfl rfl (by kernel_rfl) rfl impl_nil (⟨by rw [← hI1.1, pad_done (by omega)], rfl, rfl⟩)
end Go.Proofs.YthpbiamicidakaaDoor
namespace Go.Proofs.YthpbiamicidakaaDoor
open Go Go.Proofs Go.PW
open Go.PW.Enc (enc val)
theorem z78 : Zt Tryd.prog 78 (.agg ⟨cat [p1 (.pointer none), p1 (.slice none 0 0)]⟩) := by unfold Zt; kernel_rfl
end Go.Proofs.YthpbiamicidakaaDoor
namespace Go.Proofs.YthpbiamicidakaaDoor
open Go Go.Proofs Go.PW
open Go.PW.Enc (enc val)
structure PrOk (c : Con) (ms : List UInt32) : Prop where
  k : 1 ≤ c.kind ∧ c.kind ≤ 6
  t : c.kind ≠ 2 → c.kind ≠ 5 → u8ok c.text = true ∧ c.text.length ≤ 2000
  m : c.kind = 2 → ms.length ≤ 100
def alikeV (x : Con) (mx : List UInt32) (y : Con) (my : List UInt32) : Bool := decide (x.kind = y.kind ∧ x.text = y.text ∧ x.number = y.number ∧ x.key = y.key ∧ mx = my ∧ x.lat.b = y.lat.b ∧ x.long.b = y.long.b)
theorem alike_refl (x : Con) (mx : List UInt32) : alikeV x mx x mx = true := decide_eq_true ⟨rfl, rfl, rfl, rfl, rfl, rfl, rfl⟩
theorem marks_eq {mx my : List UInt32} (hl : mx.length = my.length) (h : ∀ j, j < mx.length → List.getD mx j 0 = List.getD my j 0) : mx = my := by
  apply List.ext_getElem hl
  intro i h1 h2
  have := h i h1
  simpa [List.getD, h1, h2] using this
set_option maxRecDepth 20000 in
set_option maxHeartbeats 4000000 in
theorem alike_ct (x : Con) (sx : Vs) (mx : List UInt32) (hx : sx.ok mx) (y : Con) (sy : Vs) (my : List UInt32) (hy : sy.ok my) (hb : mx.length ≤ 4611686018427387904) : Ct Tryd.prog 11 [.agg ⟨cat [pt x.kind, pt x.text, p1 (.slice sx.adr mx.length sx.cap), pt x.lat, pt x.long, pt x.number, pt x.key]⟩, .agg ⟨cat [pt y.kind, pt y.text, p1 (.slice sy.adr my.length sy.cap), pt y.lat, pt y.long, pt y.number, pt y.key]⟩] [] [sx.seg mx, sy.seg my] (fun v o r => v = .bool (alikeV x mx y my) ∧ o = [] ∧ r = []) := by
  refine ct_enter Tryd.func11 rfl Tryd.ntmps11 (by kernel_rfl) rfl fun w0 => ?_
  refine c_seq ?_
  refine c_reg ?_
  refine bxx [pt x.kind, pt x.text, p1 (.slice sx.adr mx.length sx.cap), pt x.lat, pt x.long, pt x.number, pt x.key] _ rfl rfl fun b2 => ⟨trivial, ?_⟩
  refine bxx [pt y.kind, pt y.text, p1 (.slice sy.adr my.length sy.cap), pt y.lat, pt y.long, pt y.number, pt y.key] _ rfl rfl fun b3 => ⟨trivial, ?_⟩
  refine asg (.bool _) rfl ?_
  refine jt ?_
  refine c_seq ?_
  refine c_seq ?_
  refine c_reg ?_
  refine fad rfl Tryd.underlying30 rfl ty3.sz ?_
  refine ldp 0 0 _ rfl rfl rfl rfl ty3 ?_
  refine fad rfl Tryd.underlying30 rfl ty3.sz ?_
  refine ldp 1 0 _ rfl rfl rfl rfl ty3 ?_
  refine cmp _ rfl rfl rfl ?_
  refine mv (.bool _) rfl ?_
  refine jsplit 11 rfl (fun h1 => ?_) (fun h1 => ?_)
  · replace h1 := ndt h1
    refine g_off rfl rfl rfl rfl ?_
    refine g_off rfl rfl rfl rfl ?_
    refine g_off rfl rfl rfl rfl ?_
    refine g_off rfl rfl rfl rfl ?_
    refine g_off rfl rfl rfl rfl ?_
    refine pkt (.bool _) rfl rfl ?_
    refine mv (.bool _) rfl ?_
    refine g_off rfl rfl rfl rfl ?_
    refine g_off rfl rfl rfl rfl ?_
    refine g_off rfl rfl rfl rfl ?_
    refine g_off rfl rfl rfl rfl ?_
    refine g_off rfl rfl rfl rfl ?_
    refine pkt (.bool _) rfl rfl ?_
    refine mv (.bool _) rfl ?_
    refine g_off rfl rfl rfl rfl ?_
    refine g_off rfl rfl rfl rfl ?_
    refine g_off rfl rfl rfl rfl ?_
    refine g_off rfl rfl rfl rfl ?_
    refine g_off rfl rfl rfl rfl ?_
    refine pkt (.bool _) rfl rfl ?_
    refine mv (.bool _) rfl ?_
    refine g_off rfl rfl rfl rfl ?_
    refine g_off rfl rfl rfl rfl ?_
    refine g_off rfl rfl rfl rfl ?_
    refine g_off rfl rfl rfl rfl ?_
    refine g_off rfl rfl rfl rfl ?_
    refine g_off rfl rfl rfl rfl ?_
    refine g_off rfl rfl rfl rfl ?_
    refine pkt (.bool _) rfl rfl ?_
    refine jt ?_
    refine c_true rfl ?_
    refine c_seq ?_
    refine c_reg ?_
    refine asg (.bool _) rfl ?_
    refine jt ?_
    refine c_ret ?_
    exact j_end (own0 := []) (ro0 := [sx.seg mx, sy.seg my]) (.inl rfl) rfl (hr1 Tryd.results11 (rvt (v := (.bool _)) rfl)) [] [0, 1] [] [_, _] [] _ rfl rfl (by kernel_rfl) rfl impl_nil (⟨congrArg Value.bool (decide_eq_false (fun h => by obtain ⟨a1, a2, a3, a4, a5, a6, a7⟩ := h; subst a5; first | contradiction | omega)).symm, rfl, rfl⟩)
  · replace h1 := ndf h1
    refine g_on rfl rfl rfl ?_
    refine fad rfl Tryd.underlying30 rfl ty9.sz ?_
    refine g_on rfl rfl rfl ?_
    refine ldp 0 1 _ rfl rfl rfl rfl ty9 ?_
    refine g_on rfl rfl rfl ?_
    refine fad rfl Tryd.underlying30 rfl ty9.sz ?_
    refine g_on rfl rfl rfl ?_
    refine ldp 1 1 _ rfl rfl rfl rfl ty9 ?_
    refine g_on rfl rfl rfl ?_
    refine scmp (a := x.text) (b := y.text) _ rfl rfl Tryd.underlying9 rfl ?_
    refine pkf (.bool _) rfl rfl ?_
    refine mv (.bool _) rfl ?_
    refine jsplit 18 rfl (fun h2 => ?_) (fun h2 => ?_)
    · replace h2 := ndt h2
      refine g_off rfl rfl rfl rfl ?_
      refine g_off rfl rfl rfl rfl ?_
      refine g_off rfl rfl rfl rfl ?_
      refine g_off rfl rfl rfl rfl ?_
      refine g_off rfl rfl rfl rfl ?_
      refine pkt (.bool _) rfl rfl ?_
      refine mv (.bool _) rfl ?_
      refine g_off rfl rfl rfl rfl ?_
      refine g_off rfl rfl rfl rfl ?_
      refine g_off rfl rfl rfl rfl ?_
      refine g_off rfl rfl rfl rfl ?_
      refine g_off rfl rfl rfl rfl ?_
      refine pkt (.bool _) rfl rfl ?_
      refine mv (.bool _) rfl ?_
      refine g_off rfl rfl rfl rfl ?_
      refine g_off rfl rfl rfl rfl ?_
      refine g_off rfl rfl rfl rfl ?_
      refine g_off rfl rfl rfl rfl ?_
      refine g_off rfl rfl rfl rfl ?_
      refine g_off rfl rfl rfl rfl ?_
      refine g_off rfl rfl rfl rfl ?_
      refine pkt (.bool _) rfl rfl ?_
      refine jt ?_
      refine c_true rfl ?_
      refine c_seq ?_
      refine c_reg ?_
      refine asg (.bool _) rfl ?_
      refine jt ?_
      refine c_ret ?_
      exact j_end (own0 := []) (ro0 := [sx.seg mx, sy.seg my]) (.inl rfl) rfl (hr1 Tryd.results11 (rvt (v := (.bool _)) rfl)) [] [0, 1] [] [_, _] [] _ rfl rfl (by kernel_rfl) rfl impl_nil (⟨congrArg Value.bool (decide_eq_false (fun h => by obtain ⟨a1, a2, a3, a4, a5, a6, a7⟩ := h; subst a5; first | contradiction | omega)).symm, rfl, rfl⟩)
    · replace h2 := ndf h2
      refine g_on rfl rfl rfl ?_
      refine fad rfl Tryd.underlying30 rfl ty23.sz ?_
      refine g_on rfl rfl rfl ?_
      refine ldp 0 5 _ rfl rfl rfl rfl ty23 ?_
      refine g_on rfl rfl rfl ?_
      refine fad rfl Tryd.underlying30 rfl ty23.sz ?_
      refine g_on rfl rfl rfl ?_
      refine ldp 1 5 _ rfl rfl rfl rfl ty23 ?_
      refine g_on rfl rfl rfl ?_
      refine equ64 (a := x.number) (b := y.number) _ rfl rfl rfl ?_
      refine pkf (.bool _) rfl rfl ?_
      refine mv (.bool _) rfl ?_
      refine jsplit 25 rfl (fun h3 => ?_) (fun h3 => ?_)
      · replace h3 := ndt h3
        refine g_off rfl rfl rfl rfl ?_
        refine g_off rfl rfl rfl rfl ?_
        refine g_off rfl rfl rfl rfl ?_
        refine g_off rfl rfl rfl rfl ?_
        refine g_off rfl rfl rfl rfl ?_
        refine pkt (.bool _) rfl rfl ?_
        refine mv (.bool _) rfl ?_
        refine g_off rfl rfl rfl rfl ?_
        refine g_off rfl rfl rfl rfl ?_
        refine g_off rfl rfl rfl rfl ?_
        refine g_off rfl rfl rfl rfl ?_
        refine g_off rfl rfl rfl rfl ?_
        refine g_off rfl rfl rfl rfl ?_
        refine g_off rfl rfl rfl rfl ?_
        refine pkt (.bool _) rfl rfl ?_
        refine jt ?_
        refine c_true rfl ?_
        refine c_seq ?_
        refine c_reg ?_
        refine asg (.bool _) rfl ?_
        refine jt ?_
        refine c_ret ?_
        exact j_end (own0 := []) (ro0 := [sx.seg mx, sy.seg my]) (.inl rfl) rfl (hr1 Tryd.results11 (rvt (v := (.bool _)) rfl)) [] [0, 1] [] [_, _] [] _ rfl rfl (by kernel_rfl) rfl impl_nil (⟨congrArg Value.bool (decide_eq_false (fun h => by obtain ⟨a1, a2, a3, a4, a5, a6, a7⟩ := h; subst a5; first | contradiction | omega)).symm, rfl, rfl⟩)
      · replace h3 := ndf h3
        refine g_on rfl rfl rfl ?_
        refine fad rfl Tryd.underlying30 rfl ty25.sz ?_
        refine g_on rfl rfl rfl ?_
        refine ldp 0 6 _ rfl rfl rfl rfl ty25 ?_
        refine g_on rfl rfl rfl ?_
        refine fad rfl Tryd.underlying30 rfl ty25.sz ?_
        refine g_on rfl rfl rfl ?_
        refine ldp 1 6 _ rfl rfl rfl rfl ty25 ?_
        refine g_on rfl rfl rfl ?_
        refine eqA x.key y.key _ rfl rfl rfl rfl eq25 rfl Tryd.eqGuardType25 rfl ?_
        refine pkf (.bool _) rfl rfl ?_
        refine mv (.bool _) rfl ?_
        refine jsplit 32 rfl (fun h4 => ?_) (fun h4 => ?_)
        · replace h4 := ndt h4
          refine g_off rfl rfl rfl rfl ?_
          refine g_off rfl rfl rfl rfl ?_
          refine g_off rfl rfl rfl rfl ?_
          refine g_off rfl rfl rfl rfl ?_
          refine g_off rfl rfl rfl rfl ?_
          refine g_off rfl rfl rfl rfl ?_
          refine g_off rfl rfl rfl rfl ?_
          refine pkt (.bool _) rfl rfl ?_
          refine jt ?_
          refine c_true rfl ?_
          refine c_seq ?_
          refine c_reg ?_
          refine asg (.bool _) rfl ?_
          refine jt ?_
          refine c_ret ?_
          exact j_end (own0 := []) (ro0 := [sx.seg mx, sy.seg my]) (.inl rfl) rfl (hr1 Tryd.results11 (rvt (v := (.bool _)) rfl)) [] [0, 1] [] [_, _] [] _ rfl rfl (by kernel_rfl) rfl impl_nil (⟨congrArg Value.bool (decide_eq_false (fun h => by obtain ⟨a1, a2, a3, a4, a5, a6, a7⟩ := h; subst a5; first | contradiction | omega)).symm, rfl, rfl⟩)
        · replace h4 := ndf h4
          refine g_on rfl rfl rfl ?_
          refine fad rfl Tryd.underlying30 rfl ty22.sz ?_
          refine g_on rfl rfl rfl ?_
          refine ldp 0 2 _ rfl rfl rfl rfl ty22 ?_
          refine g_on rfl rfl rfl ?_
          refine lenS rfl Tryd.underlying22 ?_
          refine g_on rfl rfl rfl ?_
          refine fad rfl Tryd.underlying30 rfl ty22.sz ?_
          refine g_on rfl rfl rfl ?_
          refine ldp 1 2 _ rfl rfl rfl rfl ty22 ?_
          refine g_on rfl rfl rfl ?_
          refine lenS rfl Tryd.underlying22 ?_
          refine g_on rfl rfl rfl ?_
          refine cmp _ rfl rfl rfl ?_
          refine pkf (.bool _) rfl rfl ?_
          refine jt ?_
          refine c_cond rfl (fun h5 => ?_) (fun h5 => ?_)
          · replace h5 := ndt h5
            refine c_seq ?_
            refine c_reg ?_
            refine asg (.bool _) rfl ?_
            refine jt ?_
            refine c_ret ?_
            exact j_end (own0 := []) (ro0 := [sx.seg mx, sy.seg my]) (.inl rfl) rfl (hr1 Tryd.results11 (rvt (v := (.bool _)) rfl)) [] [0, 1] [] [_, _] [] _ rfl rfl (by kernel_rfl) rfl impl_nil (⟨congrArg Value.bool (decide_eq_false (fun h => by obtain ⟨a1, a2, a3, a4, a5, a6, a7⟩ := h; subst a5; first | contradiction | omega)).symm, rfl, rfl⟩)
          · replace h5 := ndf h5
            refine c_skip ?_
            refine e_then ?_
            refine c_seq ?_
            refine c_seq ?_
            refine c_reg ?_
            refine asg (.int _ _) rfl ?_
            refine jt ?_
            refine c_block ?_
            refine c_loop (σ := Nat) (fun i => i ≤ mx.length ∧ mx.length = my.length ∧ ∀ j, j < i → List.getD mx j 0 = List.getD my j 0) (fun i => mx.length - i) (fun i => [(5, .int .i64 (i : Int))]) (fun i => [[(b2, .cells (cat [pt x.kind, pt x.text, p1 (.slice sx.adr mx.length sx.cap), pt x.lat, pt x.long, pt x.number, pt x.key]) 30)], [(b3, .cells (cat [pt y.kind, pt y.text, p1 (.slice sy.adr my.length sy.cap), pt y.lat, pt y.long, pt y.number, pt y.key]) 30)]]) (fun i => [sx.seg mx, sy.seg my]) [4, 5, 41, 42, 43, 44, 45, 46, 47, 48, 49, 50, 51, 52, 53, 54, 55, 56, 57, 58] 0 (⟨by omega, by omega, fun j hj => by omega⟩) ⟨rfl, trivial⟩ rfl rfl ?_
            rintro i g1 hI1
            try dsimp only at hI1 ⊢
            refine c_seq ?_
            refine c_seq ?_
            refine c_reg ?_
            refine mv (.int _ _) rfl ?_
            refine fad rfl Tryd.underlying30 rfl ty22.sz ?_
            refine ldp 0 2 _ rfl rfl rfl rfl ty22 ?_
            refine lenS rfl Tryd.underlying22 ?_
            refine cmp _ rfl rfl rfl ?_
            refine jt ?_
            refine c_cond rfl (fun h6 => ?_) (fun h6 => ?_)
            · replace h6 := of_decide_eq_true h6
              refine c_skip ?_
              refine e_then ?_
              refine c_seq ?_
              refine c_block ?_
              refine c_seq ?_
              refine c_dr [_, _, _, _] [] [(0, 0), (1, 0), (2, 0), (3, 0), (4, 0), (5, 0), (6, 0), (7, 0), (8, 0), (9, 0), (10, 0)] follows (by kernel_rfl) calm_body (keepS [0, 1, 2, 3] rfl) ?_
              refine fad rfl Tryd.underlying30 rfl ty22.sz ?_
              refine ldp 0 2 _ rfl rfl rfl rfl ty22 ?_
              refine mv (.int _ _) rfl ?_
              refine ixs sx mx i hx rfl rfl rfl Tryd.underlying22 ty47.sz rfl (by first | omega | (simp; done) | (simp; omega) | (simp at *; omega)) ?_
              refine ldvsG 2 (List.getD mx i 0) hx rfl rfl rfl rfl (getD_some (by first | omega | (simp; done) | (simp; omega) | (simp at *; omega))) ty47 ?_
              refine fad rfl Tryd.underlying30 rfl ty22.sz ?_
              refine ldp 1 2 _ rfl rfl rfl rfl ty22 ?_
              refine mv (.int _ _) rfl ?_
              refine ixs sy my i hy rfl rfl rfl Tryd.underlying22 ty47.sz rfl (by first | omega | (simp; done) | (simp; omega) | (simp at *; omega)) ?_
              refine ldvsG 3 (List.getD my i 0) hy rfl rfl rfl rfl (getD_some (by first | omega | (simp; done) | (simp; omega) | (simp at *; omega))) ty47 ?_
              refine equ32 (a := (List.getD mx i 0)) (b := (List.getD my i 0)) _ rfl rfl rfl ?_
              refine jt ?_
              refine c_cond rfl (fun h7 => ?_) (fun h7 => ?_)
              · replace h7 := ndt h7
                refine c_seq ?_
                refine c_reg ?_
                refine asg (.bool _) rfl ?_
                refine jt ?_
                refine c_ret ?_
                exact j_end (own0 := []) (ro0 := [sx.seg mx, sy.seg my]) (.inl rfl) rfl (hr1 Tryd.results11 (rvt (v := (.bool _)) rfl)) [] [0, 1] [] [_, _] [] _ rfl rfl (by kernel_rfl) rfl impl_nil (⟨congrArg Value.bool (decide_eq_false (fun h => by obtain ⟨a1, a2, a3, a4, a5, a6, a7⟩ := h; subst a5; first | contradiction | omega)).symm, rfl, rfl⟩)
              · replace h7 := ndf h7
                refine c_skip ?_
                refine e_in ?_
                refine e_then ?_
                refine c_reg ?_
                refine mv (.int _ _) rfl ?_
                refine addi rfl rfl rfl (by omega) ?_
                refine asg (.int _ _) rfl ?_
                refine jn ?_
                exact e_loop (i + 1) (⟨by omega, hI1.2.1, fun j hj => by rcases Nat.lt_succ_iff_lt_or_eq.1 hj with h | h; exact hI1.2.2 j h; subst h; assumption⟩) (by (try dsimp only); omega) (⟨rfl, trivial⟩) rfl rfl rfl
            · replace h6 := of_decide_eq_false h6
              refine c_exit rfl ?_
              refine e_then ?_
              refine c_seq ?_
              have HM : mx = my := marks_eq hI1.2.1 (fun j hj => hI1.2.2 j (by omega))
              refine c_dr [_, _, _, _] [] [(0, 0), (1, 0), (3, 0), (4, 0), (2, 1), (5, 1), (6, 0), (7, 0), (8, 0), (9, 0), (11, 0), (12, 0), (10, 1), (13, 1), (14, 0), (15, 0), (16, 0)] follows (by kernel_rfl) calm_body (keepS [0, 1, 2, 3] rfl) ?_
              refine fad rfl Tryd.underlying30 rfl ty28.sz ?_
              refine ldp 0 3 _ rfl rfl rfl rfl ty28 ?_
              refine fad rfl Tryd.underlying30 rfl ty28.sz ?_
              refine ldp 1 3 _ rfl rfl rfl rfl ty28 ?_
              refine xcal (args := [.float .f64 x.lat.b.toNat]) (.int .u64 (x.lat.b.toNat : Int)) Tryd.func27 (by kernel_rfl) (by kernel_rfl) (by kernel_rfl) (fun w => rfl) (by kernel_rfl) rfl ?_
              refine xcal (args := [.float .f64 y.lat.b.toNat]) (.int .u64 (y.lat.b.toNat : Int)) Tryd.func27 (by kernel_rfl) (by kernel_rfl) (by kernel_rfl) (fun w => rfl) (by kernel_rfl) rfl ?_
              refine equ64 (a := x.lat.b) (b := y.lat.b) _ rfl rfl rfl ?_
              refine mv (.bool _) rfl ?_
              refine jsplit 66 rfl (fun h8 => ?_) (fun h8 => ?_)
              · replace h8 := of_decide_eq_true h8
                refine g_on rfl rfl rfl ?_
                refine fad rfl Tryd.underlying30 rfl ty28.sz ?_
                refine g_on rfl rfl rfl ?_
                refine ldp 0 4 _ rfl rfl rfl rfl ty28 ?_
                refine g_on rfl rfl rfl ?_
                refine fad rfl Tryd.underlying30 rfl ty28.sz ?_
                refine g_on rfl rfl rfl ?_
                refine ldp 1 4 _ rfl rfl rfl rfl ty28 ?_
                refine g_on rfl rfl rfl ?_
                refine xcal (args := [.float .f64 x.long.b.toNat]) (.int .u64 (x.long.b.toNat : Int)) Tryd.func27 (by kernel_rfl) (by kernel_rfl) (by kernel_rfl) (fun w => rfl) (by kernel_rfl) rfl ?_
                refine g_on rfl rfl rfl ?_
                refine xcal (args := [.float .f64 y.long.b.toNat]) (.int .u64 (y.long.b.toNat : Int)) Tryd.func27 (by kernel_rfl) (by kernel_rfl) (by kernel_rfl) (fun w => rfl) (by kernel_rfl) rfl ?_
                refine g_on rfl rfl rfl ?_
                refine equ64 (a := x.long.b) (b := y.long.b) _ rfl rfl rfl ?_
                refine pkt (.bool _) rfl rfl ?_
                refine asg (.bool _) rfl ?_
                refine jt ?_
                refine c_ret ?_
                exact j_end (own0 := []) (ro0 := [sx.seg mx, sy.seg my]) (.inl rfl) rfl (hr1 Tryd.results11 (rvt (v := (.bool _)) rfl)) [] [0, 1] [] [_, _] [] _ rfl rfl (by kernel_rfl) rfl impl_nil (⟨by rw [show alikeV x mx y my = decide (x.long.b = y.long.b) from by simp [alikeV, *]], rfl, rfl⟩)
              · replace h8 := of_decide_eq_false h8
                refine g_off rfl rfl rfl rfl ?_
                refine g_off rfl rfl rfl rfl ?_
                refine g_off rfl rfl rfl rfl ?_
                refine g_off rfl rfl rfl rfl ?_
                refine g_off rfl rfl rfl rfl ?_
                refine g_off rfl rfl rfl rfl ?_
                refine g_off rfl rfl rfl rfl ?_
                refine pkf (.bool _) rfl rfl ?_
                refine asg (.bool _) rfl ?_
                refine jt ?_
                refine c_ret ?_
                exact j_end (own0 := []) (ro0 := [sx.seg mx, sy.seg my]) (.inl rfl) rfl (hr1 Tryd.results11 (rvt (v := (.bool _)) rfl)) [] [0, 1] [] [_, _] [] _ rfl rfl (by kernel_rfl) rfl impl_nil (⟨by rw [show alikeV x mx y my = false from by simp [alikeV, *]], rfl, rfl⟩)
end Go.Proofs.YthpbiamicidakaaDoor
