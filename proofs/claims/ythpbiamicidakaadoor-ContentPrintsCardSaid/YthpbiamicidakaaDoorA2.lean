/- Contracts of the program's functions, walked. No condition. -/
import Derived.Test.YthpbiamicidakaaDoorA1
namespace Go.Proofs.YthpbiamicidakaaDoor
open Go Go.Proofs Go.PW
open Go.PW.Enc (enc val)
theorem ty5 : Ty Tryd.prog 5 1 false := ⟨by kernel_rfl, by kernel_rfl⟩
theorem ty123 : Ty Tryd.prog 123 2 true := ⟨by kernel_rfl, by kernel_rfl⟩
theorem z123 : Zt Tryd.prog 123 (.agg ⟨cat [pt (0 : UInt8), pt (0 : UInt8)]⟩) := by unfold Zt; kernel_rfl

set_option maxRecDepth 20000 in
set_option maxHeartbeats 4000000 in
theorem ValidString_ct (s : Str) : Ct Tryd.prog 70 [strV s] [] [tFirst 1, tAcc 2] (fun v o r => v = .bool (u8ok s) ∧ o = [] ∧ r = []) := by
  refine ct_enter Tryd.func70 rfl Tryd.ntmps70 (by kernel_rfl) rfl fun w0 => ?_
  refine c_seq ?_
  refine c_reg ?_
  refine asg (.bool _) rfl ?_
  refine jt ?_
  refine c_seq ?_
  refine c_block ?_
  refine c_loop (σ := Str) (fun t => u8ok t = u8ok s) (fun t => t.length) (fun t => [(0, strV t)]) (fun t => []) (fun t => [tFirst 1, tAcc 2]) [0, 2, 3, 4, 5, 6, 7, 8, 9, 10, 11, 12, 13, 14, 15, 16, 17, 18, 19, 20, 21, 22, 23, 24, 25, 26, 27, 28, 29, 30, 31, 32, 33, 34, 35, 36, 37, 38, 39, 40, 41, 42, 43, 44, 45, 46, 47, 48, 49, 50, 51, 52, 53, 54, 55, 56, 57, 58, 59, 60, 61, 62, 63, 64, 65, 66, 67, 68, 69, 70, 71, 72, 73, 74, 75, 76, 77, 78, 79, 80, 81, 82, 83, 84, 85, 86, 87, 88, 89, 90, 91, 92, 93, 94, 95, 96, 97, 98, 99, 100, 101, 102, 103, 104, 105, 106, 107, 108, 109, 110, 111, 112, 113, 114, 115, 116, 117, 118, 119, 120, 121, 122, 123, 124, 125, 126, 127, 128, 129, 130, 131, 132, 133, 134, 135, 136, 137, 138, 139, 140, 141, 142, 143, 144, 145, 146, 147, 148, 149, 150, 151, 152, 153, 154, 155, 156, 157, 158, 159, 160, 161, 162, 163, 164, 165, 166, 167, 168] s (rfl) ⟨rfl, trivial⟩ rfl rfl ?_
  rintro t g1 hI1
  try dsimp only at hI1 ⊢
  refine c_seq ?_
  refine c_seq ?_
  refine c_reg ?_
  refine mv (.string _) rfl ?_
  refine lenT (s := t) rfl Tryd.underlying9 ?_
  refine cmp _ rfl rfl rfl ?_
  refine jt ?_
  refine c_cond rfl (fun h1 => ?_) (fun h1 => ?_)
  · replace h1 := of_decide_eq_true h1
    refine c_skip ?_
    refine e_then ?_
    refine c_block ?_
    refine c_seq ?_
    refine c_reg ?_
    refine mv (.string _) rfl ?_
    refine idxT (s := t) 0 rfl rfl Tryd.underlying9 rfl (by first | omega | (simp; done) | (simp; omega) | (simp at *; omega)) ?_
    refine asg (.int _ _) rfl ?_
    refine jt ?_
    refine c_seq ?_
    refine c_seq ?_
    refine c_reg ?_
    refine mv (.int _ _) rfl ?_
    refine cmp _ rfl rfl rfl ?_
    refine jt ?_
    refine c_cond rfl (fun h2 => ?_) (fun h2 => ?_)
    · replace h2 := of_decide_eq_true h2
      refine c_seq ?_
      refine c_reg ?_
      refine mv (.string _) rfl ?_
      refine cutT (s := t) 1 t.length rfl Tryd.underlying9 ⟨_, rfl⟩ rfl (by first | omega | (simp; done) | (simp; omega)) (by first | omega | (simp; done) | (simp; omega)) (List.drop 1 t) (cut_hi _ _) ?_
      refine asg (.string _) rfl ?_
      refine jt ?_
      refine c_seq ?_
      refine c_seq ?_
      refine c_reg ?_
      refine mv (.string _) rfl ?_
      refine lenT (s := (List.drop 1 t)) rfl Tryd.underlying9 ?_
      refine cmp _ rfl rfl rfl ?_
      refine mv (.bool _) rfl ?_
      refine jsplit 19 rfl (fun h3 => ?_) (fun h3 => ?_)
      · replace h3 := of_decide_eq_true h3
        refine g_on rfl rfl rfl ?_
        refine mv (.string _) rfl ?_
        refine g_on rfl rfl rfl ?_
        refine cal (word_ct (List.drop 1 t) (by first | omega | (rw [List.length_drop]; omega) | (simp only [List.length_drop] at *; omega))) [] [] [] rfl rfl rfl (by kernel_rfl) impl_nil rfl ?_; rintro _ _ _ ⟨rfl, rfl, rfl⟩; refine ⟨trivial, ?_⟩
        refine g_on rfl rfl rfl ?_
        refine andU64 (a := (w8 (List.drop 1 t))) (b := (9259542123273814144 : UInt64)) rfl rfl ?_
        refine g_on rfl rfl rfl ?_
        refine equ64 (a := ((w8 (List.drop 1 t)) &&& (9259542123273814144 : UInt64))) (b := (0 : UInt64)) _ rfl rfl rfl ?_
        refine pkt (.bool _) rfl rfl ?_
        refine jt ?_
        refine c_cond rfl (fun h4 => ?_) (fun h4 => ?_)
        · replace h4 := of_decide_eq_true h4
          refine c_seq ?_
          refine c_reg ?_
          refine mv (.string _) rfl ?_
          refine cutT (s := (List.drop 1 t)) 8 ((List.drop 1 t).length) rfl Tryd.underlying9 ⟨_, rfl⟩ rfl (by first | omega | (simp; done) | (simp; omega)) (by first | omega | (simp; done) | (simp; omega)) (List.drop 8 (List.drop 1 t)) (cut_hi _ _) ?_
          refine asg (.string _) rfl ?_
          refine jt ?_
          refine c_seq ?_
          refine c_dr [_, _] [] [(0, 0), (1, 0), (2, 0), (3, 0), (4, 0), (6, 0), (7, 0), (5, 1), (8, 1), (9, 0), (10, 0), (11, 0), (12, 0)] follows (by kernel_rfl) calm_body (keepS [0, 1] rfl) ?_
          refine mv (.string _) rfl ?_
          refine lenT (s := (List.drop 8 (List.drop 1 t))) rfl Tryd.underlying9 ?_
          refine cmp _ rfl rfl rfl ?_
          refine mv (.bool _) rfl ?_
          refine jsplit 30 rfl (fun h5 => ?_) (fun h5 => ?_)
          · replace h5 := of_decide_eq_true h5
            refine g_on rfl rfl rfl ?_
            refine mv (.string _) rfl ?_
            refine g_on rfl rfl rfl ?_
            refine mv (.string _) rfl ?_
            refine g_on rfl rfl rfl ?_
            refine cutT (s := (List.drop 8 (List.drop 1 t))) 8 ((List.drop 8 (List.drop 1 t)).length) rfl Tryd.underlying9 ⟨_, rfl⟩ rfl (by first | omega | (simp; done) | (simp; omega)) (by first | omega | (simp; done) | (simp; omega)) (List.drop 8 (List.drop 8 (List.drop 1 t))) (cut_hi _ _) ?_
            refine g_on rfl rfl rfl ?_
            refine cal (word_ct (List.drop 8 (List.drop 1 t)) (by first | omega | (rw [List.length_drop]; omega) | (simp only [List.length_drop] at *; omega))) [] [] [] rfl rfl rfl (by kernel_rfl) impl_nil rfl ?_; rintro _ _ _ ⟨rfl, rfl, rfl⟩; refine ⟨keepI [0, 1] rfl, ?_⟩
            refine g_on rfl rfl rfl ?_
            refine cal (word_ct (List.drop 8 (List.drop 8 (List.drop 1 t))) (by first | omega | (rw [List.length_drop]; omega) | (simp only [List.length_drop] at *; omega))) [] [] [] rfl rfl rfl (by kernel_rfl) impl_nil rfl ?_; rintro _ _ _ ⟨rfl, rfl, rfl⟩; refine ⟨keepI [0, 1] rfl, ?_⟩
            refine g_on rfl rfl rfl ?_
            refine orU64 (a := (w8 (List.drop 8 (List.drop 1 t)))) (b := (w8 (List.drop 8 (List.drop 8 (List.drop 1 t))))) rfl rfl ?_
            refine g_on rfl rfl rfl ?_
            refine andU64 (a := ((w8 (List.drop 8 (List.drop 1 t))) ||| (w8 (List.drop 8 (List.drop 8 (List.drop 1 t)))))) (b := (9259542123273814144 : UInt64)) rfl rfl ?_
            refine g_on rfl rfl rfl ?_
            refine equ64 (a := (((w8 (List.drop 8 (List.drop 1 t))) ||| (w8 (List.drop 8 (List.drop 8 (List.drop 1 t))))) &&& (9259542123273814144 : UInt64))) (b := (0 : UInt64)) _ rfl rfl rfl ?_
            refine pkt (.bool _) rfl rfl ?_
            refine jt ?_
            refine c_cond rfl (fun h6 => ?_) (fun h6 => ?_)
            · replace h6 := of_decide_eq_true h6
              refine c_seq ?_
              refine c_reg ?_
              refine mv (.string _) rfl ?_
              refine cutT (s := (List.drop 8 (List.drop 1 t))) 16 ((List.drop 8 (List.drop 1 t)).length) rfl Tryd.underlying9 ⟨_, rfl⟩ rfl (by first | omega | (simp; done) | (simp; omega)) (by first | omega | (simp; done) | (simp; omega)) (List.drop 16 (List.drop 8 (List.drop 1 t))) (cut_hi _ _) ?_
              refine asg (.string _) rfl ?_
              refine jt ?_
              refine c_block ?_
              refine c_loop (σ := Str) (fun t2 => u8ok t2 = u8ok s ∧ t2.length < t.length) (fun t2 => t2.length) (fun t2 => [(0, strV t2)]) (fun t2 => []) (fun t2 => [tFirst 1, tAcc 2]) [0, 42, 43, 44, 45, 46, 47, 48, 49, 50, 51, 52, 53, 54, 55, 56, 57, 58, 59, 60, 61, 62, 63, 64] (List.drop 16 (List.drop 8 (List.drop 1 t))) (⟨(w8_skip2 (by first | omega | (rw [List.length_drop]; omega) | (simp only [List.length_drop] at *; omega)) (by assumption)).trans ((w8_skip (by first | omega | (rw [List.length_drop]; omega) | (simp only [List.length_drop] at *; omega)) (by assumption)).trans ((u8_asc (l := t) (by first | omega | (unfold bt; omega)) (by first | omega | (unfold bt; omega))).trans hI1)), by simp only [List.length_drop] at *; omega⟩) ⟨rfl, trivial⟩ rfl rfl ?_
              rintro t2 g2 hI2
              try dsimp only at hI2 ⊢
              refine c_seq ?_
              refine c_seq ?_
              refine c_dr [_, _] [] [(0, 0), (1, 0), (2, 0), (3, 0), (4, 0), (6, 0), (7, 0), (10, 0), (11, 0), (13, 0), (14, 0), (5, 1), (8, 1), (9, 0), (12, 1), (15, 1), (16, 0), (17, 0), (18, 0), (19, 0), (20, 0)] follows (by kernel_rfl) calm_body (keepS [0, 1] rfl) ?_
              refine mv (.string _) rfl ?_
              refine lenT (s := t2) rfl Tryd.underlying9 ?_
              refine cmp _ rfl rfl rfl ?_
              refine mv (.bool _) rfl ?_
              refine jsplit 45 rfl (fun h7 => ?_) (fun h7 => ?_)
              · replace h7 := of_decide_eq_true h7
                refine g_on rfl rfl rfl ?_
                refine mv (.string _) rfl ?_
                refine g_on rfl rfl rfl ?_
                refine mv (.string _) rfl ?_
                refine g_on rfl rfl rfl ?_
                refine cutT (s := t2) 8 t2.length rfl Tryd.underlying9 ⟨_, rfl⟩ rfl (by first | omega | (simp; done) | (simp; omega)) (by first | omega | (simp; done) | (simp; omega)) (List.drop 8 t2) (cut_hi _ _) ?_
                refine g_on rfl rfl rfl ?_
                refine mv (.string _) rfl ?_
                refine g_on rfl rfl rfl ?_
                refine cutT (s := t2) 16 t2.length rfl Tryd.underlying9 ⟨_, rfl⟩ rfl (by first | omega | (simp; done) | (simp; omega)) (by first | omega | (simp; done) | (simp; omega)) (List.drop 16 t2) (cut_hi _ _) ?_
                refine g_on rfl rfl rfl ?_
                refine mv (.string _) rfl ?_
                refine g_on rfl rfl rfl ?_
                refine cutT (s := t2) 24 t2.length rfl Tryd.underlying9 ⟨_, rfl⟩ rfl (by first | omega | (simp; done) | (simp; omega)) (by first | omega | (simp; done) | (simp; omega)) (List.drop 24 t2) (cut_hi _ _) ?_
                refine g_on rfl rfl rfl ?_
                refine cal (word_ct t2 (by first | omega | (rw [List.length_drop]; omega) | (simp only [List.length_drop] at *; omega))) [] [] [] rfl rfl rfl (by kernel_rfl) impl_nil rfl ?_; rintro _ _ _ ⟨rfl, rfl, rfl⟩; refine ⟨keepI [0, 1] rfl, ?_⟩
                refine g_on rfl rfl rfl ?_
                refine cal (word_ct (List.drop 8 t2) (by first | omega | (rw [List.length_drop]; omega) | (simp only [List.length_drop] at *; omega))) [] [] [] rfl rfl rfl (by kernel_rfl) impl_nil rfl ?_; rintro _ _ _ ⟨rfl, rfl, rfl⟩; refine ⟨keepI [0, 1] rfl, ?_⟩
                refine g_on rfl rfl rfl ?_
                refine orU64 (a := (w8 t2)) (b := (w8 (List.drop 8 t2))) rfl rfl ?_
                refine g_on rfl rfl rfl ?_
                refine cal (word_ct (List.drop 16 t2) (by first | omega | (rw [List.length_drop]; omega) | (simp only [List.length_drop] at *; omega))) [] [] [] rfl rfl rfl (by kernel_rfl) impl_nil rfl ?_; rintro _ _ _ ⟨rfl, rfl, rfl⟩; refine ⟨keepI [0, 1] rfl, ?_⟩
                refine g_on rfl rfl rfl ?_
                refine cal (word_ct (List.drop 24 t2) (by first | omega | (rw [List.length_drop]; omega) | (simp only [List.length_drop] at *; omega))) [] [] [] rfl rfl rfl (by kernel_rfl) impl_nil rfl ?_; rintro _ _ _ ⟨rfl, rfl, rfl⟩; refine ⟨keepI [0, 1] rfl, ?_⟩
                refine g_on rfl rfl rfl ?_
                refine orU64 (a := (w8 (List.drop 16 t2))) (b := (w8 (List.drop 24 t2))) rfl rfl ?_
                refine g_on rfl rfl rfl ?_
                refine orU64 (a := ((w8 t2) ||| (w8 (List.drop 8 t2)))) (b := ((w8 (List.drop 16 t2)) ||| (w8 (List.drop 24 t2)))) rfl rfl ?_
                refine g_on rfl rfl rfl ?_
                refine andU64 (a := (((w8 t2) ||| (w8 (List.drop 8 t2))) ||| ((w8 (List.drop 16 t2)) ||| (w8 (List.drop 24 t2))))) (b := (9259542123273814144 : UInt64)) rfl rfl ?_
                refine g_on rfl rfl rfl ?_
                refine equ64 (a := ((((w8 t2) ||| (w8 (List.drop 8 t2))) ||| ((w8 (List.drop 16 t2)) ||| (w8 (List.drop 24 t2)))) &&& (9259542123273814144 : UInt64))) (b := (0 : UInt64)) _ rfl rfl rfl ?_
                refine pkt (.bool _) rfl rfl ?_
                refine jt ?_
                refine c_cond rfl (fun h8 => ?_) (fun h8 => ?_)
                · replace h8 := of_decide_eq_true h8
                  refine c_skip ?_
                  refine e_then ?_
                  refine c_block ?_
                  refine c_reg ?_
                  refine mv (.string _) rfl ?_
                  refine cutT (s := t2) 32 t2.length rfl Tryd.underlying9 ⟨_, rfl⟩ rfl (by first | omega | (simp; done) | (simp; omega)) (by first | omega | (simp; done) | (simp; omega)) (List.drop 32 t2) (cut_hi _ _) ?_
                  refine asg (.string _) rfl ?_
                  refine jn ?_
                  refine e_in ?_
                  exact e_loop (List.drop 32 t2) (⟨(w8_skip4 (by omega) (by assumption)).trans hI2.1, by have := hI2.2; simp; omega⟩) (by simp; omega) (⟨rfl, trivial⟩) rfl rfl rfl
                · replace h8 := of_decide_eq_false h8
                  refine c_exit rfl ?_
                  refine e_then ?_
                  refine c_exit rfl ?_
                  exact e_lp t2 (by repeat (first | exact out_self | refine out_hav (by kernel_rfl) ?_ | refine out_look (by kernel_rfl) ?_)) (hI2.1) (hI2.2) (⟨rfl, trivial⟩) rfl rfl rfl
              · replace h7 := of_decide_eq_false h7
                refine g_off rfl rfl rfl rfl ?_
                refine g_off rfl rfl rfl rfl ?_
                refine g_off rfl rfl rfl rfl ?_
                refine g_off rfl rfl rfl rfl ?_
                refine g_off rfl rfl rfl rfl ?_
                refine g_off rfl rfl rfl rfl ?_
                refine g_off rfl rfl rfl rfl ?_
                refine g_off rfl rfl rfl rfl ?_
                refine g_off rfl rfl rfl rfl ?_
                refine g_off rfl rfl rfl rfl ?_
                refine g_off rfl rfl rfl rfl ?_
                refine g_off rfl rfl rfl rfl ?_
                refine g_off rfl rfl rfl rfl ?_
                refine g_off rfl rfl rfl rfl ?_
                refine g_off rfl rfl rfl rfl ?_
                refine g_off rfl rfl rfl rfl ?_
                refine pkf (.bool _) rfl rfl ?_
                refine jt ?_
                refine c_false rfl ?_
                refine c_exit rfl ?_
                refine e_then ?_
                refine c_exit rfl ?_
                exact e_lp t2 (by repeat (first | exact out_self | refine out_hav (by kernel_rfl) ?_ | refine out_look (by kernel_rfl) ?_)) (hI2.1) (hI2.2) (⟨rfl, trivial⟩) rfl rfl rfl
            · replace h6 := of_decide_eq_false h6
              refine c_skip ?_
              refine e_then ?_
              refine c_exit rfl ?_
              exact e_lp (List.drop 8 (List.drop 1 t)) (by repeat (first | exact out_self | refine out_hav (by kernel_rfl) ?_ | refine out_look (by kernel_rfl) ?_)) ((w8_skip (by first | omega | (rw [List.length_drop]; omega) | (simp only [List.length_drop] at *; omega)) (by assumption)).trans ((u8_asc (l := t) (by first | omega | (unfold bt; omega)) (by first | omega | (unfold bt; omega))).trans hI1)) (by simp; omega) (⟨rfl, trivial⟩) rfl rfl rfl
          · replace h5 := of_decide_eq_false h5
            refine g_off rfl rfl rfl rfl ?_
            refine g_off rfl rfl rfl rfl ?_
            refine g_off rfl rfl rfl rfl ?_
            refine g_off rfl rfl rfl rfl ?_
            refine g_off rfl rfl rfl rfl ?_
            refine g_off rfl rfl rfl rfl ?_
            refine g_off rfl rfl rfl rfl ?_
            refine g_off rfl rfl rfl rfl ?_
            refine pkf (.bool _) rfl rfl ?_
            refine jt ?_
            refine c_false rfl ?_
            refine c_skip ?_
            refine e_then ?_
            refine c_exit rfl ?_
            exact e_lp (List.drop 8 (List.drop 1 t)) (by repeat (first | exact out_self | refine out_hav (by kernel_rfl) ?_ | refine out_look (by kernel_rfl) ?_)) ((w8_skip (by first | omega | (rw [List.length_drop]; omega) | (simp only [List.length_drop] at *; omega)) (by assumption)).trans ((u8_asc (l := t) (by first | omega | (unfold bt; omega)) (by first | omega | (unfold bt; omega))).trans hI1)) (by simp; omega) (⟨rfl, trivial⟩) rfl rfl rfl
        · replace h4 := of_decide_eq_false h4
          refine c_skip ?_
          refine e_then ?_
          refine c_exit rfl ?_
          exact e_lp (List.drop 1 t) (by repeat (first | exact out_self | refine out_hav (by kernel_rfl) ?_ | refine out_look (by kernel_rfl) ?_)) ((u8_asc (l := t) (by first | omega | (unfold bt; omega)) (by first | omega | (unfold bt; omega))).trans hI1) (by simp; omega) (⟨rfl, trivial⟩) rfl rfl rfl
      · replace h3 := of_decide_eq_false h3
        refine g_off rfl rfl rfl rfl ?_
        refine g_off rfl rfl rfl rfl ?_
        refine g_off rfl rfl rfl rfl ?_
        refine g_off rfl rfl rfl rfl ?_
        refine pkf (.bool _) rfl rfl ?_
        refine jt ?_
        refine c_false rfl ?_
        refine c_skip ?_
        refine e_then ?_
        refine c_exit rfl ?_
        exact e_lp (List.drop 1 t) (by repeat (first | exact out_self | refine out_hav (by kernel_rfl) ?_ | refine out_look (by kernel_rfl) ?_)) ((u8_asc (l := t) (by first | omega | (unfold bt; omega)) (by first | omega | (unfold bt; omega))).trans hI1) (by simp; omega) (⟨rfl, trivial⟩) rfl rfl rfl
    · replace h2 := of_decide_eq_false h2
      refine c_skip ?_
      refine e_then ?_
      refine c_seq ?_
      refine c_reg ?_
      refine mv (.int _ _) rfl ?_
      refine ixaA ((List.getD t 0 0).toNat) rfl rfl Tryd.underlying121 ty5.sz rfl (first_in t 0) ?_
      refine ldvG 0 ((List.getD t 0 0).toNat) (List.getD firstL ((List.getD t 0 0).toNat) (0)) rfl rfl rfl (getD_some (first_in t 0)) ty5 ?_
      have FS := firstSaid (bt t 0) (bt_lt t 0) (by unfold bt; omega)
      refine asg (.int _ _) rfl ?_
      refine jt ?_
      refine c_seq ?_
      refine c_reg ?_
      refine mv (.int _ _) rfl ?_
      refine andU8 (a := (List.getD firstL ((List.getD t 0 0).toNat) (0))) (b := (7 : UInt8)) rfl rfl ?_
      refine cvI (((List.getD firstL ((List.getD t 0 0).toNat) (0)) &&& (7 : UInt8)).toNat : Int) rfl Tryd.underlying5 Tryd.underlying3 (wI64 (by have := UInt8.toNat_lt ((List.getD firstL ((List.getD t 0 0).toNat) (0)) &&& (7 : UInt8)); omega)) ?_
      refine asg (.int _ _) rfl ?_
      refine jt ?_
      refine c_seq ?_
      refine c_reg ?_
      refine mv (.int _ _) rfl ?_
      refine shrRU8 (a := (List.getD firstL ((List.getD t 0 0).toNat) (0))) 4 rfl rfl rfl ?_
      refine ixaA ((shrU8 (List.getD firstL (List.getD t 0 0).toNat 0) 4).toNat) rfl rfl Tryd.underlying124 ty123.sz rfl (acc_in FS.le) ?_
      refine ldvG 1 ((shrU8 (List.getD firstL (List.getD t 0 0).toNat 0) 4).toNat) (List.getD accL ((shrU8 (List.getD firstL (List.getD t 0 0).toNat 0) 4).toNat) (⟨0, 0⟩)) rfl rfl rfl (getD_some (acc_in FS.le)) ty123 ?_
      refine alo [pt (0 : UInt8), pt (0 : UInt8)] _ z123 rfl fun b6 => ⟨trivial, ?_⟩
      refine stw 0 _ [pt ((List.getD accL ((shrU8 (List.getD firstL (List.getD t 0 0).toNat 0) 4).toNat) (⟨0, 0⟩)).lo), pt ((List.getD accL ((shrU8 (List.getD firstL (List.getD t 0 0).toNat 0) 4).toNat) (⟨0, 0⟩)).hi)] rfl rfl rfl rfl ty123 ⟨trivial, ?_⟩
      refine jt ?_
      refine c_seq ?_
      refine c_reg ?_
      refine mv (.int _ _) rfl ?_
      refine jt ?_
      refine c_block ?_
      refine c_seq ?_
      refine c_reg ?_
      refine cmp _ rfl rfl rfl ?_
      refine asg (.bool _) rfl ?_
      refine jt ?_
      refine c_cond rfl (fun h9 => ?_) (fun h9 => ?_)
      · replace h9 := of_decide_eq_true h9
        refine c_seq ?_
        refine c_seq ?_
        refine c_dr [_, _, _] [] [(0, 0), (1, 0), (2, 0), (3, 0), (4, 0), (5, 0), (6, 0), (7, 0), (8, 0), (9, 0), (10, 0), (11, 0), (12, 0), (13, 0), (14, 0), (15, 0), (16, 0)] follows (by kernel_rfl) calm_body (keepS [0, 1, 2] rfl) ?_
        refine mv (.string _) rfl ?_
        refine lenT (s := t) rfl Tryd.underlying9 ?_
        refine cmp _ rfl rfl rfl ?_
        refine mv (.bool _) rfl ?_
        refine jsplit 81 rfl (fun h10 => ?_) (fun h10 => ?_)
        · replace h10 := of_decide_eq_true h10
          refine g_off rfl rfl rfl rfl ?_
          refine g_off rfl rfl rfl rfl ?_
          refine g_off rfl rfl rfl rfl ?_
          refine g_off rfl rfl rfl rfl ?_
          refine g_off rfl rfl rfl rfl ?_
          refine pkt (.bool _) rfl rfl ?_
          refine mv (.bool _) rfl ?_
          refine g_off rfl rfl rfl rfl ?_
          refine g_off rfl rfl rfl rfl ?_
          refine g_off rfl rfl rfl rfl ?_
          refine g_off rfl rfl rfl rfl ?_
          refine g_off rfl rfl rfl rfl ?_
          refine pkt (.bool _) rfl rfl ?_
          refine jt ?_
          refine c_true rfl ?_
          refine c_seq ?_
          refine c_reg ?_
          refine asg (.bool _) rfl ?_
          refine jt ?_
          refine c_ret ?_
          exact j_end (own0 := []) (ro0 := [tFirst 1, tAcc 2]) (.inl rfl) rfl (hr1 Tryd.results70 (rvt (v := (.bool _)) rfl)) [] [0] [] [_] [] _ rfl rfl (by kernel_rfl) rfl impl_nil (⟨u8_bad hI1 (by first | omega | (unfold bt; omega)) (by first | omega | (unfold bt; omega)) FS (by first | omega | (unfold bt; omega)) (by first | omega | (unfold bt; omega)) (by first | omega | (unfold bt; omega)), rfl, rfl⟩)
        · replace h10 := of_decide_eq_false h10
          refine g_on rfl rfl rfl ?_
          refine mv (.string _) rfl ?_
          refine g_on rfl rfl rfl ?_
          refine idxT (s := t) 1 rfl rfl Tryd.underlying9 rfl (by first | omega | (simp; done) | (simp; omega) | (simp at *; omega)) ?_
          refine g_on rfl rfl rfl ?_
          refine fad rfl Tryd.underlying123 rfl ty5.sz ?_
          refine g_on rfl rfl rfl ?_
          refine ldp 0 0 _ rfl rfl rfl rfl ty5 ?_
          refine g_on rfl rfl rfl ?_
          refine cmp _ rfl rfl rfl ?_
          refine pkf (.bool _) rfl rfl ?_
          refine mv (.bool _) rfl ?_
          refine jsplit 88 rfl (fun h11 => ?_) (fun h11 => ?_)
          · replace h11 := of_decide_eq_true h11
            refine g_off rfl rfl rfl rfl ?_
            refine g_off rfl rfl rfl rfl ?_
            refine g_off rfl rfl rfl rfl ?_
            refine g_off rfl rfl rfl rfl ?_
            refine g_off rfl rfl rfl rfl ?_
            refine pkt (.bool _) rfl rfl ?_
            refine jt ?_
            refine c_true rfl ?_
            refine c_seq ?_
            refine c_reg ?_
            refine asg (.bool _) rfl ?_
            refine jt ?_
            refine c_ret ?_
            exact j_end (own0 := []) (ro0 := [tFirst 1, tAcc 2]) (.inl rfl) rfl (hr1 Tryd.results70 (rvt (v := (.bool _)) rfl)) [] [0] [] [_] [] _ rfl rfl (by kernel_rfl) rfl impl_nil (⟨u8_bad hI1 (by first | omega | (unfold bt; omega)) (by first | omega | (unfold bt; omega)) FS (by first | omega | (unfold bt; omega)) (by first | omega | (unfold bt; omega)) (by first | omega | (unfold bt; omega)), rfl, rfl⟩)
          · replace h11 := of_decide_eq_false h11
            refine g_on rfl rfl rfl ?_
            refine fad rfl Tryd.underlying123 rfl ty5.sz ?_
            refine g_on rfl rfl rfl ?_
            refine ldp 0 1 _ rfl rfl rfl rfl ty5 ?_
            refine g_on rfl rfl rfl ?_
            refine mv (.string _) rfl ?_
            refine g_on rfl rfl rfl ?_
            refine idxT (s := t) 1 rfl rfl Tryd.underlying9 rfl (by first | omega | (simp; done) | (simp; omega) | (simp at *; omega)) ?_
            refine g_on rfl rfl rfl ?_
            refine cmp _ rfl rfl rfl ?_
            refine pkf (.bool _) rfl rfl ?_
            refine jt ?_
            refine c_cond rfl (fun h12 => ?_) (fun h12 => ?_)
            · replace h12 := of_decide_eq_true h12
              refine c_seq ?_
              refine c_reg ?_
              refine asg (.bool _) rfl ?_
              refine jt ?_
              refine c_ret ?_
              exact j_end (own0 := []) (ro0 := [tFirst 1, tAcc 2]) (.inl rfl) rfl (hr1 Tryd.results70 (rvt (v := (.bool _)) rfl)) [] [0] [] [_] [] _ rfl rfl (by kernel_rfl) rfl impl_nil (⟨u8_bad hI1 (by first | omega | (unfold bt; omega)) (by first | omega | (unfold bt; omega)) FS (by first | omega | (unfold bt; omega)) (by first | omega | (unfold bt; omega)) (by first | omega | (unfold bt; omega)), rfl, rfl⟩)
            · replace h12 := of_decide_eq_false h12
              refine c_skip ?_
              refine e_then ?_
              refine c_reg ?_
              refine mv (.string _) rfl ?_
              refine cutT (s := t) 2 t.length rfl Tryd.underlying9 ⟨_, rfl⟩ rfl (by first | omega | (simp; done) | (simp; omega)) (by first | omega | (simp; done) | (simp; omega)) (List.drop 2 t) (cut_hi _ _) ?_
              refine asg (.string _) rfl ?_
              refine jn ?_
              refine e_in ?_
              refine e_in ?_
              refine e_keep [] [0] [] rfl (by kernel_rfl) ?_
              exact e_lp (List.drop 2 t) (by repeat (first | exact out_self | refine out_hav (by kernel_rfl) ?_ | refine out_look (by kernel_rfl) ?_)) ((u8ok_go 2 (by first | omega | (unfold bt; omega)) (u8_two FS (by first | omega | (unfold bt; omega)) (by first | omega | (unfold bt; omega)) (by first | omega | (unfold bt; omega))) (by first | omega | (unfold bt; omega))).trans hI1) (by simp; omega) (⟨rfl, trivial⟩) rfl rfl rfl
      · replace h9 := of_decide_eq_false h9
        refine c_seq ?_
        refine c_reg ?_
        refine cmp _ rfl rfl rfl ?_
        refine asg (.bool _) rfl ?_
        refine jt ?_
        refine c_cond rfl (fun h13 => ?_) (fun h13 => ?_)
        · replace h13 := of_decide_eq_true h13
          refine c_seq ?_
          refine c_seq ?_
          refine c_dr [_, _, _] [] [(0, 0), (1, 0), (2, 0), (3, 0), (4, 0), (5, 0), (6, 0), (7, 0), (8, 0), (9, 0), (10, 0), (11, 0), (12, 0), (13, 0), (14, 0), (15, 0), (16, 0), (17, 0), (18, 0), (19, 0), (20, 0), (21, 0), (22, 0), (23, 0), (24, 0), (25, 0), (26, 0)] follows (by kernel_rfl) calm_body (keepS [0, 1, 2] rfl) ?_
          refine mv (.string _) rfl ?_
          refine lenT (s := t) rfl Tryd.underlying9 ?_
          refine cmp _ rfl rfl rfl ?_
          refine mv (.bool _) rfl ?_
          refine jsplit 102 rfl (fun h14 => ?_) (fun h14 => ?_)
          · replace h14 := of_decide_eq_true h14
            refine g_off rfl rfl rfl rfl ?_
            refine g_off rfl rfl rfl rfl ?_
            refine g_off rfl rfl rfl rfl ?_
            refine g_off rfl rfl rfl rfl ?_
            refine g_off rfl rfl rfl rfl ?_
            refine pkt (.bool _) rfl rfl ?_
            refine mv (.bool _) rfl ?_
            refine g_off rfl rfl rfl rfl ?_
            refine g_off rfl rfl rfl rfl ?_
            refine g_off rfl rfl rfl rfl ?_
            refine g_off rfl rfl rfl rfl ?_
            refine g_off rfl rfl rfl rfl ?_
            refine pkt (.bool _) rfl rfl ?_
            refine mv (.bool _) rfl ?_
            refine g_off rfl rfl rfl rfl ?_
            refine g_off rfl rfl rfl rfl ?_
            refine g_off rfl rfl rfl rfl ?_
            refine pkt (.bool _) rfl rfl ?_
            refine mv (.bool _) rfl ?_
            refine g_off rfl rfl rfl rfl ?_
            refine g_off rfl rfl rfl rfl ?_
            refine g_off rfl rfl rfl rfl ?_
            refine pkt (.bool _) rfl rfl ?_
            refine jt ?_
            refine c_true rfl ?_
            refine c_seq ?_
            refine c_reg ?_
            refine asg (.bool _) rfl ?_
            refine jt ?_
            refine c_ret ?_
            exact j_end (own0 := []) (ro0 := [tFirst 1, tAcc 2]) (.inl rfl) rfl (hr1 Tryd.results70 (rvt (v := (.bool _)) rfl)) [] [0] [] [_] [] _ rfl rfl (by kernel_rfl) rfl impl_nil (⟨u8_bad hI1 (by first | omega | (unfold bt; omega)) (by first | omega | (unfold bt; omega)) FS (by first | omega | (unfold bt; omega)) (by first | omega | (unfold bt; omega)) (by first | omega | (unfold bt; omega)), rfl, rfl⟩)
          · replace h14 := of_decide_eq_false h14
            refine g_on rfl rfl rfl ?_
            refine mv (.string _) rfl ?_
            refine g_on rfl rfl rfl ?_
            refine idxT (s := t) 1 rfl rfl Tryd.underlying9 rfl (by first | omega | (simp; done) | (simp; omega) | (simp at *; omega)) ?_
            refine g_on rfl rfl rfl ?_
            refine fad rfl Tryd.underlying123 rfl ty5.sz ?_
            refine g_on rfl rfl rfl ?_
            refine ldp 0 0 _ rfl rfl rfl rfl ty5 ?_
            refine g_on rfl rfl rfl ?_
            refine cmp _ rfl rfl rfl ?_
            refine pkf (.bool _) rfl rfl ?_
            refine mv (.bool _) rfl ?_
            refine jsplit 109 rfl (fun h15 => ?_) (fun h15 => ?_)
            · replace h15 := of_decide_eq_true h15
              refine g_off rfl rfl rfl rfl ?_
              refine g_off rfl rfl rfl rfl ?_
              refine g_off rfl rfl rfl rfl ?_
              refine g_off rfl rfl rfl rfl ?_
              refine g_off rfl rfl rfl rfl ?_
              refine pkt (.bool _) rfl rfl ?_
              refine mv (.bool _) rfl ?_
              refine g_off rfl rfl rfl rfl ?_
              refine g_off rfl rfl rfl rfl ?_
              refine g_off rfl rfl rfl rfl ?_
              refine pkt (.bool _) rfl rfl ?_
              refine mv (.bool _) rfl ?_
              refine g_off rfl rfl rfl rfl ?_
              refine g_off rfl rfl rfl rfl ?_
              refine g_off rfl rfl rfl rfl ?_
              refine pkt (.bool _) rfl rfl ?_
              refine jt ?_
              refine c_true rfl ?_
              refine c_seq ?_
              refine c_reg ?_
              refine asg (.bool _) rfl ?_
              refine jt ?_
              refine c_ret ?_
              exact j_end (own0 := []) (ro0 := [tFirst 1, tAcc 2]) (.inl rfl) rfl (hr1 Tryd.results70 (rvt (v := (.bool _)) rfl)) [] [0] [] [_] [] _ rfl rfl (by kernel_rfl) rfl impl_nil (⟨u8_bad hI1 (by first | omega | (unfold bt; omega)) (by first | omega | (unfold bt; omega)) FS (by first | omega | (unfold bt; omega)) (by first | omega | (unfold bt; omega)) (by first | omega | (unfold bt; omega)), rfl, rfl⟩)
            · replace h15 := of_decide_eq_false h15
              refine g_on rfl rfl rfl ?_
              refine fad rfl Tryd.underlying123 rfl ty5.sz ?_
              refine g_on rfl rfl rfl ?_
              refine ldp 0 1 _ rfl rfl rfl rfl ty5 ?_
              refine g_on rfl rfl rfl ?_
              refine mv (.string _) rfl ?_
              refine g_on rfl rfl rfl ?_
              refine idxT (s := t) 1 rfl rfl Tryd.underlying9 rfl (by first | omega | (simp; done) | (simp; omega) | (simp at *; omega)) ?_
              refine g_on rfl rfl rfl ?_
              refine cmp _ rfl rfl rfl ?_
              refine pkf (.bool _) rfl rfl ?_
              refine mv (.bool _) rfl ?_
              refine jsplit 116 rfl (fun h16 => ?_) (fun h16 => ?_)
              · replace h16 := of_decide_eq_true h16
                refine g_off rfl rfl rfl rfl ?_
                refine g_off rfl rfl rfl rfl ?_
                refine g_off rfl rfl rfl rfl ?_
                refine pkt (.bool _) rfl rfl ?_
                refine mv (.bool _) rfl ?_
                refine g_off rfl rfl rfl rfl ?_
                refine g_off rfl rfl rfl rfl ?_
                refine g_off rfl rfl rfl rfl ?_
                refine pkt (.bool _) rfl rfl ?_
                refine jt ?_
                refine c_true rfl ?_
                refine c_seq ?_
                refine c_reg ?_
                refine asg (.bool _) rfl ?_
                refine jt ?_
                refine c_ret ?_
                exact j_end (own0 := []) (ro0 := [tFirst 1, tAcc 2]) (.inl rfl) rfl (hr1 Tryd.results70 (rvt (v := (.bool _)) rfl)) [] [0] [] [_] [] _ rfl rfl (by kernel_rfl) rfl impl_nil (⟨u8_bad hI1 (by first | omega | (unfold bt; omega)) (by first | omega | (unfold bt; omega)) FS (by first | omega | (unfold bt; omega)) (by first | omega | (unfold bt; omega)) (by first | omega | (unfold bt; omega)), rfl, rfl⟩)
              · replace h16 := of_decide_eq_false h16
                refine g_on rfl rfl rfl ?_
                refine mv (.string _) rfl ?_
                refine g_on rfl rfl rfl ?_
                refine idxT (s := t) 2 rfl rfl Tryd.underlying9 rfl (by first | omega | (simp; done) | (simp; omega) | (simp at *; omega)) ?_
                refine g_on rfl rfl rfl ?_
                refine cmp _ rfl rfl rfl ?_
                refine pkf (.bool _) rfl rfl ?_
                refine mv (.bool _) rfl ?_
                refine jsplit 121 rfl (fun h17 => ?_) (fun h17 => ?_)
                · replace h17 := of_decide_eq_true h17
                  refine g_off rfl rfl rfl rfl ?_
                  refine g_off rfl rfl rfl rfl ?_
                  refine g_off rfl rfl rfl rfl ?_
                  refine pkt (.bool _) rfl rfl ?_
                  refine jt ?_
                  refine c_true rfl ?_
                  refine c_seq ?_
                  refine c_reg ?_
                  refine asg (.bool _) rfl ?_
                  refine jt ?_
                  refine c_ret ?_
                  exact j_end (own0 := []) (ro0 := [tFirst 1, tAcc 2]) (.inl rfl) rfl (hr1 Tryd.results70 (rvt (v := (.bool _)) rfl)) [] [0] [] [_] [] _ rfl rfl (by kernel_rfl) rfl impl_nil (⟨u8_bad hI1 (by first | omega | (unfold bt; omega)) (by first | omega | (unfold bt; omega)) FS (by first | omega | (unfold bt; omega)) (by first | omega | (unfold bt; omega)) (by first | omega | (unfold bt; omega)), rfl, rfl⟩)
                · replace h17 := of_decide_eq_false h17
                  refine g_on rfl rfl rfl ?_
                  refine mv (.string _) rfl ?_
                  refine g_on rfl rfl rfl ?_
                  refine idxT (s := t) 2 rfl rfl Tryd.underlying9 rfl (by first | omega | (simp; done) | (simp; omega) | (simp at *; omega)) ?_
                  refine g_on rfl rfl rfl ?_
                  refine cmp _ rfl rfl rfl ?_
                  refine pkf (.bool _) rfl rfl ?_
                  refine jt ?_
                  refine c_cond rfl (fun h18 => ?_) (fun h18 => ?_)
                  · replace h18 := of_decide_eq_true h18
                    refine c_seq ?_
                    refine c_reg ?_
                    refine asg (.bool _) rfl ?_
                    refine jt ?_
                    refine c_ret ?_
                    exact j_end (own0 := []) (ro0 := [tFirst 1, tAcc 2]) (.inl rfl) rfl (hr1 Tryd.results70 (rvt (v := (.bool _)) rfl)) [] [0] [] [_] [] _ rfl rfl (by kernel_rfl) rfl impl_nil (⟨u8_bad hI1 (by first | omega | (unfold bt; omega)) (by first | omega | (unfold bt; omega)) FS (by first | omega | (unfold bt; omega)) (by first | omega | (unfold bt; omega)) (by first | omega | (unfold bt; omega)), rfl, rfl⟩)
                  · replace h18 := of_decide_eq_false h18
                    refine c_skip ?_
                    refine e_then ?_
                    refine c_reg ?_
                    refine mv (.string _) rfl ?_
                    refine cutT (s := t) 3 t.length rfl Tryd.underlying9 ⟨_, rfl⟩ rfl (by first | omega | (simp; done) | (simp; omega)) (by first | omega | (simp; done) | (simp; omega)) (List.drop 3 t) (cut_hi _ _) ?_
                    refine asg (.string _) rfl ?_
                    refine jn ?_
                    refine e_in ?_
                    refine e_in ?_
                    refine e_keep [] [0] [] rfl (by kernel_rfl) ?_
                    exact e_lp (List.drop 3 t) (by repeat (first | exact out_self | refine out_hav (by kernel_rfl) ?_ | refine out_look (by kernel_rfl) ?_)) ((u8ok_go 3 (by first | omega | (unfold bt; omega)) (u8_three FS (by first | omega | (unfold bt; omega)) (by first | omega | (unfold bt; omega)) (by first | omega | (unfold bt; omega)) (by first | omega | (unfold bt; omega)) (by first | omega | (unfold bt; omega))) (by first | omega | (unfold bt; omega))).trans hI1) (by simp; omega) (⟨rfl, trivial⟩) rfl rfl rfl
        · replace h13 := of_decide_eq_false h13
          refine c_seq ?_
          refine c_reg ?_
          refine cmp _ rfl rfl rfl ?_
          refine asg (.bool _) rfl ?_
          refine jt ?_
          refine c_cond rfl (fun h19 => ?_) (fun h19 => ?_)
          · replace h19 := of_decide_eq_true h19
            refine c_seq ?_
            refine c_seq ?_
            refine c_dr [_, _, _] [] [(0, 0), (1, 0), (2, 0), (3, 0), (4, 0), (5, 0), (6, 0), (7, 0), (8, 0), (9, 0), (10, 0), (11, 0), (12, 0), (13, 0), (14, 0), (15, 0), (16, 0), (17, 0), (18, 0), (19, 0), (20, 0), (21, 0), (22, 0), (23, 0), (24, 0), (25, 0), (26, 0), (27, 0), (28, 0), (29, 0), (30, 0), (31, 0), (32, 0), (33, 0), (34, 0), (35, 0), (36, 0)] follows (by kernel_rfl) calm_body (keepS [0, 1, 2] rfl) ?_
            refine mv (.string _) rfl ?_
            refine lenT (s := t) rfl Tryd.underlying9 ?_
            refine cmp _ rfl rfl rfl ?_
            refine mv (.bool _) rfl ?_
            refine jsplit 133 rfl (fun h20 => ?_) (fun h20 => ?_)
            · replace h20 := of_decide_eq_true h20
              refine g_off rfl rfl rfl rfl ?_
              refine g_off rfl rfl rfl rfl ?_
              refine g_off rfl rfl rfl rfl ?_
              refine g_off rfl rfl rfl rfl ?_
              refine g_off rfl rfl rfl rfl ?_
              refine pkt (.bool _) rfl rfl ?_
              refine mv (.bool _) rfl ?_
              refine g_off rfl rfl rfl rfl ?_
              refine g_off rfl rfl rfl rfl ?_
              refine g_off rfl rfl rfl rfl ?_
              refine g_off rfl rfl rfl rfl ?_
              refine g_off rfl rfl rfl rfl ?_
              refine pkt (.bool _) rfl rfl ?_
              refine mv (.bool _) rfl ?_
              refine g_off rfl rfl rfl rfl ?_
              refine g_off rfl rfl rfl rfl ?_
              refine g_off rfl rfl rfl rfl ?_
              refine pkt (.bool _) rfl rfl ?_
              refine mv (.bool _) rfl ?_
              refine g_off rfl rfl rfl rfl ?_
              refine g_off rfl rfl rfl rfl ?_
              refine g_off rfl rfl rfl rfl ?_
              refine pkt (.bool _) rfl rfl ?_
              refine mv (.bool _) rfl ?_
              refine g_off rfl rfl rfl rfl ?_
              refine g_off rfl rfl rfl rfl ?_
              refine g_off rfl rfl rfl rfl ?_
              refine pkt (.bool _) rfl rfl ?_
              refine mv (.bool _) rfl ?_
              refine g_off rfl rfl rfl rfl ?_
              refine g_off rfl rfl rfl rfl ?_
              refine g_off rfl rfl rfl rfl ?_
              refine pkt (.bool _) rfl rfl ?_
              refine jt ?_
              refine c_true rfl ?_
              refine c_seq ?_
              refine c_reg ?_
              refine asg (.bool _) rfl ?_
              refine jt ?_
              refine c_ret ?_
              exact j_end (own0 := []) (ro0 := [tFirst 1, tAcc 2]) (.inl rfl) rfl (hr1 Tryd.results70 (rvt (v := (.bool _)) rfl)) [] [0] [] [_] [] _ rfl rfl (by kernel_rfl) rfl impl_nil (⟨u8_bad hI1 (by first | omega | (unfold bt; omega)) (by first | omega | (unfold bt; omega)) FS (by first | omega | (unfold bt; omega)) (by first | omega | (unfold bt; omega)) (by first | omega | (unfold bt; omega)), rfl, rfl⟩)
            · replace h20 := of_decide_eq_false h20
              refine g_on rfl rfl rfl ?_
              refine mv (.string _) rfl ?_
              refine g_on rfl rfl rfl ?_
              refine idxT (s := t) 1 rfl rfl Tryd.underlying9 rfl (by first | omega | (simp; done) | (simp; omega) | (simp at *; omega)) ?_
              refine g_on rfl rfl rfl ?_
              refine fad rfl Tryd.underlying123 rfl ty5.sz ?_
              refine g_on rfl rfl rfl ?_
              refine ldp 0 0 _ rfl rfl rfl rfl ty5 ?_
              refine g_on rfl rfl rfl ?_
              refine cmp _ rfl rfl rfl ?_
              refine pkf (.bool _) rfl rfl ?_
              refine mv (.bool _) rfl ?_
              refine jsplit 140 rfl (fun h21 => ?_) (fun h21 => ?_)
              · replace h21 := of_decide_eq_true h21
                refine g_off rfl rfl rfl rfl ?_
                refine g_off rfl rfl rfl rfl ?_
                refine g_off rfl rfl rfl rfl ?_
                refine g_off rfl rfl rfl rfl ?_
                refine g_off rfl rfl rfl rfl ?_
                refine pkt (.bool _) rfl rfl ?_
                refine mv (.bool _) rfl ?_
                refine g_off rfl rfl rfl rfl ?_
                refine g_off rfl rfl rfl rfl ?_
                refine g_off rfl rfl rfl rfl ?_
                refine pkt (.bool _) rfl rfl ?_
                refine mv (.bool _) rfl ?_
                refine g_off rfl rfl rfl rfl ?_
                refine g_off rfl rfl rfl rfl ?_
                refine g_off rfl rfl rfl rfl ?_
                refine pkt (.bool _) rfl rfl ?_
                refine mv (.bool _) rfl ?_
                refine g_off rfl rfl rfl rfl ?_
                refine g_off rfl rfl rfl rfl ?_
                refine g_off rfl rfl rfl rfl ?_
                refine pkt (.bool _) rfl rfl ?_
                refine mv (.bool _) rfl ?_
                refine g_off rfl rfl rfl rfl ?_
                refine g_off rfl rfl rfl rfl ?_
                refine g_off rfl rfl rfl rfl ?_
                refine pkt (.bool _) rfl rfl ?_
                refine jt ?_
                refine c_true rfl ?_
                refine c_seq ?_
                refine c_reg ?_
                refine asg (.bool _) rfl ?_
                refine jt ?_
                refine c_ret ?_
                exact j_end (own0 := []) (ro0 := [tFirst 1, tAcc 2]) (.inl rfl) rfl (hr1 Tryd.results70 (rvt (v := (.bool _)) rfl)) [] [0] [] [_] [] _ rfl rfl (by kernel_rfl) rfl impl_nil (⟨u8_bad hI1 (by first | omega | (unfold bt; omega)) (by first | omega | (unfold bt; omega)) FS (by first | omega | (unfold bt; omega)) (by first | omega | (unfold bt; omega)) (by first | omega | (unfold bt; omega)), rfl, rfl⟩)
              · replace h21 := of_decide_eq_false h21
                refine g_on rfl rfl rfl ?_
                refine fad rfl Tryd.underlying123 rfl ty5.sz ?_
                refine g_on rfl rfl rfl ?_
                refine ldp 0 1 _ rfl rfl rfl rfl ty5 ?_
                refine g_on rfl rfl rfl ?_
                refine mv (.string _) rfl ?_
                refine g_on rfl rfl rfl ?_
                refine idxT (s := t) 1 rfl rfl Tryd.underlying9 rfl (by first | omega | (simp; done) | (simp; omega) | (simp at *; omega)) ?_
                refine g_on rfl rfl rfl ?_
                refine cmp _ rfl rfl rfl ?_
                refine pkf (.bool _) rfl rfl ?_
                refine mv (.bool _) rfl ?_
                refine jsplit 147 rfl (fun h22 => ?_) (fun h22 => ?_)
                · replace h22 := of_decide_eq_true h22
                  refine g_off rfl rfl rfl rfl ?_
                  refine g_off rfl rfl rfl rfl ?_
                  refine g_off rfl rfl rfl rfl ?_
                  refine pkt (.bool _) rfl rfl ?_
                  refine mv (.bool _) rfl ?_
                  refine g_off rfl rfl rfl rfl ?_
                  refine g_off rfl rfl rfl rfl ?_
                  refine g_off rfl rfl rfl rfl ?_
                  refine pkt (.bool _) rfl rfl ?_
                  refine mv (.bool _) rfl ?_
                  refine g_off rfl rfl rfl rfl ?_
                  refine g_off rfl rfl rfl rfl ?_
                  refine g_off rfl rfl rfl rfl ?_
                  refine pkt (.bool _) rfl rfl ?_
                  refine mv (.bool _) rfl ?_
                  refine g_off rfl rfl rfl rfl ?_
                  refine g_off rfl rfl rfl rfl ?_
                  refine g_off rfl rfl rfl rfl ?_
                  refine pkt (.bool _) rfl rfl ?_
                  refine jt ?_
                  refine c_true rfl ?_
                  refine c_seq ?_
                  refine c_reg ?_
                  refine asg (.bool _) rfl ?_
                  refine jt ?_
                  refine c_ret ?_
                  exact j_end (own0 := []) (ro0 := [tFirst 1, tAcc 2]) (.inl rfl) rfl (hr1 Tryd.results70 (rvt (v := (.bool _)) rfl)) [] [0] [] [_] [] _ rfl rfl (by kernel_rfl) rfl impl_nil (⟨u8_bad hI1 (by first | omega | (unfold bt; omega)) (by first | omega | (unfold bt; omega)) FS (by first | omega | (unfold bt; omega)) (by first | omega | (unfold bt; omega)) (by first | omega | (unfold bt; omega)), rfl, rfl⟩)
                · replace h22 := of_decide_eq_false h22
                  refine g_on rfl rfl rfl ?_
                  refine mv (.string _) rfl ?_
                  refine g_on rfl rfl rfl ?_
                  refine idxT (s := t) 2 rfl rfl Tryd.underlying9 rfl (by first | omega | (simp; done) | (simp; omega) | (simp at *; omega)) ?_
                  refine g_on rfl rfl rfl ?_
                  refine cmp _ rfl rfl rfl ?_
                  refine pkf (.bool _) rfl rfl ?_
                  refine mv (.bool _) rfl ?_
                  refine jsplit 152 rfl (fun h23 => ?_) (fun h23 => ?_)
                  · replace h23 := of_decide_eq_true h23
                    refine g_off rfl rfl rfl rfl ?_
                    refine g_off rfl rfl rfl rfl ?_
                    refine g_off rfl rfl rfl rfl ?_
                    refine pkt (.bool _) rfl rfl ?_
                    refine mv (.bool _) rfl ?_
                    refine g_off rfl rfl rfl rfl ?_
                    refine g_off rfl rfl rfl rfl ?_
                    refine g_off rfl rfl rfl rfl ?_
                    refine pkt (.bool _) rfl rfl ?_
                    refine mv (.bool _) rfl ?_
                    refine g_off rfl rfl rfl rfl ?_
                    refine g_off rfl rfl rfl rfl ?_
                    refine g_off rfl rfl rfl rfl ?_
                    refine pkt (.bool _) rfl rfl ?_
                    refine jt ?_
                    refine c_true rfl ?_
                    refine c_seq ?_
                    refine c_reg ?_
                    refine asg (.bool _) rfl ?_
                    refine jt ?_
                    refine c_ret ?_
                    exact j_end (own0 := []) (ro0 := [tFirst 1, tAcc 2]) (.inl rfl) rfl (hr1 Tryd.results70 (rvt (v := (.bool _)) rfl)) [] [0] [] [_] [] _ rfl rfl (by kernel_rfl) rfl impl_nil (⟨u8_bad hI1 (by first | omega | (unfold bt; omega)) (by first | omega | (unfold bt; omega)) FS (by first | omega | (unfold bt; omega)) (by first | omega | (unfold bt; omega)) (by first | omega | (unfold bt; omega)), rfl, rfl⟩)
                  · replace h23 := of_decide_eq_false h23
                    refine g_on rfl rfl rfl ?_
                    refine mv (.string _) rfl ?_
                    refine g_on rfl rfl rfl ?_
                    refine idxT (s := t) 2 rfl rfl Tryd.underlying9 rfl (by first | omega | (simp; done) | (simp; omega) | (simp at *; omega)) ?_
                    refine g_on rfl rfl rfl ?_
                    refine cmp _ rfl rfl rfl ?_
                    refine pkf (.bool _) rfl rfl ?_
                    refine mv (.bool _) rfl ?_
                    refine jsplit 157 rfl (fun h24 => ?_) (fun h24 => ?_)
                    · replace h24 := of_decide_eq_true h24
                      refine g_off rfl rfl rfl rfl ?_
                      refine g_off rfl rfl rfl rfl ?_
                      refine g_off rfl rfl rfl rfl ?_
                      refine pkt (.bool _) rfl rfl ?_
                      refine mv (.bool _) rfl ?_
                      refine g_off rfl rfl rfl rfl ?_
                      refine g_off rfl rfl rfl rfl ?_
                      refine g_off rfl rfl rfl rfl ?_
                      refine pkt (.bool _) rfl rfl ?_
                      refine jt ?_
                      refine c_true rfl ?_
                      refine c_seq ?_
                      refine c_reg ?_
                      refine asg (.bool _) rfl ?_
                      refine jt ?_
                      refine c_ret ?_
                      exact j_end (own0 := []) (ro0 := [tFirst 1, tAcc 2]) (.inl rfl) rfl (hr1 Tryd.results70 (rvt (v := (.bool _)) rfl)) [] [0] [] [_] [] _ rfl rfl (by kernel_rfl) rfl impl_nil (⟨u8_bad hI1 (by first | omega | (unfold bt; omega)) (by first | omega | (unfold bt; omega)) FS (by first | omega | (unfold bt; omega)) (by first | omega | (unfold bt; omega)) (by first | omega | (unfold bt; omega)), rfl, rfl⟩)
                    · replace h24 := of_decide_eq_false h24
                      refine g_on rfl rfl rfl ?_
                      refine mv (.string _) rfl ?_
                      refine g_on rfl rfl rfl ?_
                      refine idxT (s := t) 3 rfl rfl Tryd.underlying9 rfl (by first | omega | (simp; done) | (simp; omega) | (simp at *; omega)) ?_
                      refine g_on rfl rfl rfl ?_
                      refine cmp _ rfl rfl rfl ?_
                      refine pkf (.bool _) rfl rfl ?_
                      refine mv (.bool _) rfl ?_
                      refine jsplit 162 rfl (fun h25 => ?_) (fun h25 => ?_)
                      · replace h25 := of_decide_eq_true h25
                        refine g_off rfl rfl rfl rfl ?_
                        refine g_off rfl rfl rfl rfl ?_
                        refine g_off rfl rfl rfl rfl ?_
                        refine pkt (.bool _) rfl rfl ?_
                        refine jt ?_
                        refine c_true rfl ?_
                        refine c_seq ?_
                        refine c_reg ?_
                        refine asg (.bool _) rfl ?_
                        refine jt ?_
                        refine c_ret ?_
                        exact j_end (own0 := []) (ro0 := [tFirst 1, tAcc 2]) (.inl rfl) rfl (hr1 Tryd.results70 (rvt (v := (.bool _)) rfl)) [] [0] [] [_] [] _ rfl rfl (by kernel_rfl) rfl impl_nil (⟨u8_bad hI1 (by first | omega | (unfold bt; omega)) (by first | omega | (unfold bt; omega)) FS (by first | omega | (unfold bt; omega)) (by first | omega | (unfold bt; omega)) (by first | omega | (unfold bt; omega)), rfl, rfl⟩)
                      · replace h25 := of_decide_eq_false h25
                        refine g_on rfl rfl rfl ?_
                        refine mv (.string _) rfl ?_
                        refine g_on rfl rfl rfl ?_
                        refine idxT (s := t) 3 rfl rfl Tryd.underlying9 rfl (by first | omega | (simp; done) | (simp; omega) | (simp at *; omega)) ?_
                        refine g_on rfl rfl rfl ?_
                        refine cmp _ rfl rfl rfl ?_
                        refine pkf (.bool _) rfl rfl ?_
                        refine jt ?_
                        refine c_cond rfl (fun h26 => ?_) (fun h26 => ?_)
                        · replace h26 := of_decide_eq_true h26
                          refine c_seq ?_
                          refine c_reg ?_
                          refine asg (.bool _) rfl ?_
                          refine jt ?_
                          refine c_ret ?_
                          exact j_end (own0 := []) (ro0 := [tFirst 1, tAcc 2]) (.inl rfl) rfl (hr1 Tryd.results70 (rvt (v := (.bool _)) rfl)) [] [0] [] [_] [] _ rfl rfl (by kernel_rfl) rfl impl_nil (⟨u8_bad hI1 (by first | omega | (unfold bt; omega)) (by first | omega | (unfold bt; omega)) FS (by first | omega | (unfold bt; omega)) (by first | omega | (unfold bt; omega)) (by first | omega | (unfold bt; omega)), rfl, rfl⟩)
                        · replace h26 := of_decide_eq_false h26
                          refine c_skip ?_
                          refine e_then ?_
                          refine c_reg ?_
                          refine mv (.string _) rfl ?_
                          refine cutT (s := t) 4 t.length rfl Tryd.underlying9 ⟨_, rfl⟩ rfl (by first | omega | (simp; done) | (simp; omega)) (by first | omega | (simp; done) | (simp; omega)) (List.drop 4 t) (cut_hi _ _) ?_
                          refine asg (.string _) rfl ?_
                          refine jn ?_
                          refine e_in ?_
                          refine e_in ?_
                          refine e_keep [] [0] [] rfl (by kernel_rfl) ?_
                          exact e_lp (List.drop 4 t) (by repeat (first | exact out_self | refine out_hav (by kernel_rfl) ?_ | refine out_look (by kernel_rfl) ?_)) ((u8ok_go 4 (by first | omega | (unfold bt; omega)) (u8_four FS (by first | omega | (unfold bt; omega)) (by first | omega | (unfold bt; omega)) (by first | omega | (unfold bt; omega)) (by first | omega | (unfold bt; omega)) (by first | omega | (unfold bt; omega)) (by first | omega | (unfold bt; omega)) (by first | omega | (unfold bt; omega))) (by first | omega | (unfold bt; omega))).trans hI1) (by simp; omega) (⟨rfl, trivial⟩) rfl rfl rfl
          · replace h19 := of_decide_eq_false h19
            refine c_seq ?_
            refine c_reg ?_
            refine asg (.bool _) rfl ?_
            refine jt ?_
            refine c_ret ?_
            exact j_end (own0 := []) (ro0 := [tFirst 1, tAcc 2]) (.inl rfl) rfl (hr1 Tryd.results70 (rvt (v := (.bool _)) rfl)) [] [0] [] [_] [] _ rfl rfl (by kernel_rfl) rfl impl_nil (⟨u8_bad hI1 (by first | omega | (unfold bt; omega)) (by first | omega | (unfold bt; omega)) FS (by first | omega | (unfold bt; omega)) (by first | omega | (unfold bt; omega)) (by first | omega | (unfold bt; omega)), rfl, rfl⟩)
  · replace h1 := of_decide_eq_false h1
    refine c_exit rfl ?_
    refine e_then ?_
    refine c_seq ?_
    refine c_reg ?_
    refine asg (.bool _) rfl ?_
    refine jt ?_
    refine c_ret ?_
    exact j_end (own0 := []) (ro0 := [tFirst 1, tAcc 2]) (.inl rfl) rfl (hr1 Tryd.results70 (rvt (v := (.bool _)) rfl)) [] [] [] [] [] _ rfl rfl (by kernel_rfl) rfl impl_nil (⟨by rw [← hI1, u8ok_nil (by omega)], rfl, rfl⟩)
end Go.Proofs.YthpbiamicidakaaDoor
