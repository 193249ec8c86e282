/- Contracts of the program's functions, walked. No condition. -/
import Derived.Test.YthpbiamicidakaaDoorB6
namespace Go.Proofs.YthpbiamicidakaaDoor
open Go Go.Proofs Go.PW
open Go.PW.Enc (enc val)
theorem z78 : Zt Tryd.prog 78 (.agg ⟨cat [p1 (.pointer none), p1 (.slice none 0 0)]⟩) := by unfold Zt; kernel_rfl

set_option maxRecDepth 20000 in
set_option maxHeartbeats 4000000 in
theorem quoted_ct (s : Str) (hu : u8ok s = true) (hl : s.length ≤ 2000) : Ct Tryd.prog 21 [strV s] [] [tDb64 8] (fun v o r => v = strV (quoteS s) ∧ o = [] ∧ r = []) := by
  refine ct_enter Tryd.func21 rfl Tryd.ntmps21 (by kernel_rfl) rfl fun w0 => ?_
  refine c_seq ?_
  refine c_reg ?_
  refine asg (.string _) rfl ?_
  refine jt ?_
  refine c_seq ?_
  refine c_reg ?_
  refine alo [p1 (.pointer none), p1 (.slice Ow.nil.adr ([] : List UInt8).length Ow.nil.cap)] _ z78 rfl fun b3 => ⟨trivial, ?_⟩; refine j_addE ?_
  refine jt ?_
  refine c_seq ?_
  refine c_reg ?_
  refine cal (bWriteByte_ct b3 _ (.inl rfl) Ow.nil ([] : List UInt8) Ow.nil_ok (by first | omega | (simp; done) | (simp; omega)) (34 : UInt8) ) [0, 1] [] [] rfl rfl rfl (by kernel_rfl) impl_nil rfl ?_; rintro _ _ _ ⟨bo6_1, hkbo6_1, rfl, rfl, rfl⟩; refine ⟨trivial, ?_⟩
  refine jt ?_
  refine c_seq ?_
  refine c_seq ?_
  refine c_reg ?_
  refine mv (.string _) rfl ?_
  refine rngT (s := s) rfl Tryd.underlying9 fun it8 => ⟨trivial, ?_⟩
  refine jt ?_
  refine c_block ?_
  refine c_loop (σ := Nat × Ow × Str) (fun (i, o, xs) => i ≤ s.length ∧ u8ok (s.drop i) = true ∧ o.ok xs ∧ xs ++ qbody (s.drop i) = [34] ++ qbody s ∧ xs.length ≤ 1 + 70 * i ∧ 0 < xs.length) (fun (i, o, xs) => s.length - i) (fun (i, o, xs) => []) (fun (i, o, xs) => [[(b3, .cells (cat [p1 (.pointer (some ⟨b3, 0, none⟩)), p1 (.slice o.adr xs.length o.cap)]) 78)], o.seg xs 5, [(it8, .pred (isIter s i))]]) (fun (i, o, xs) => [tDb64 8]) [5, 9, 10, 11, 12, 13, 14, 15, 16, 17, 18, 19, 20, 21, 22, 23, 24, 25, 26, 27, 28, 29, 30, 31, 32, 33, 34, 35, 36] (0, bo6_1, [34]) (⟨by omega, hu, hkbo6_1, rfl, by simp, by simp⟩) trivial rfl rfl ?_
  rintro ⟨i, o, xs⟩ g1 hI1
  try dsimp only at hI1 ⊢
  refine c_seq ?_
  refine c_reg ?_
  rcases Nat.lt_or_ge i s.length with hN9 | hN9
  · refine nxtT 2 rfl rfl hN9 ⟨trivial, ?_⟩
    refine xtr (.bool _) rfl rfl ?_
    refine jt ?_
    refine c_seq ?_
    refine c_true rfl ?_
    refine c_skip ?_
    refine e_then ?_
    refine c_block ?_
    refine c_seq ?_
    obtain ⟨HQ, HV, HP, HE, HB, HW⟩ := qbody_at hN9 hI1.2.1
    have HF := (fmtN_length 16 (decA s i).1).2
    have HX := hI1.2.2.2.2.1
    have HY := hI1.2.2.2.2.2
    refine c_reg ?_
    refine xtr (.int _ _) rfl rfl ?_
    refine asg (.int _ _) rfl ?_
    refine jt ?_
    refine c_block ?_
    refine c_seq ?_
    refine c_reg ?_
    refine mv (.int _ _) rfl ?_
    refine cmp _ rfl rfl rfl ?_
    refine mv (.bool _) rfl ?_
    refine jsplit 21 rfl (fun h1 => ?_) (fun h1 => ?_)
    · replace h1 := of_decide_eq_true h1
      refine g_off rfl rfl rfl rfl ?_
      refine g_off rfl rfl rfl rfl ?_
      refine pkt (.bool _) rfl rfl ?_
      refine asg (.bool _) rfl ?_
      refine jt ?_
      refine c_true rfl ?_
      refine c_seq ?_
      refine c_reg ?_
      refine cal (bWriteByte_ct b3 _ (.inr rfl) o xs hI1.2.2.1 (by first | omega | ((try simp only [List.length_append]); (try simp only [List.length_cons, List.length_nil]); (try simp only [pad_length]); (try simp only [List.length_take]); (try simp only [List.length_drop]); omega)) (92 : UInt8) ) [0, 1] [2] [_] rfl rfl rfl (by kernel_rfl) impl_nil rfl ?_; rintro _ _ _ ⟨bo25_2, hkbo25_2, rfl, rfl, rfl⟩; refine ⟨trivial, ?_⟩
      refine jt ?_
      refine c_reg ?_
      refine mv (.int _ _) rfl ?_
      refine cal (bWriteRune_ct b3 _ (.inr rfl) bo25_2 (xs ++ [(92 : UInt8)]) hkbo25_2 (by first | omega | ((try simp only [List.length_append]); (try simp only [List.length_cons, List.length_nil]); (try simp only [pad_length]); (try simp only [List.length_take]); (try simp only [List.length_drop]); omega)) ((decA s i).1) (by omega)) [1, 2] [0] [_] rfl rfl rfl (by kernel_rfl) impl_nil rfl ?_; rintro _ _ _ ⟨bo27_3, hkbo27_3, rfl, rfl, rfl⟩; refine ⟨trivial, ?_⟩
      refine jn ?_
      refine e_in ?_
      refine e_in ?_
      refine e_keep [1, 2, 0] [] [_, _, _] rfl (by kernel_rfl) ?_
      exact e_loop (i + (decA s i).2, bo27_3, ((xs ++ [(92 : UInt8)]) ++ [UInt8.ofNat ((decA s i).1)])) (⟨HE, HV, hkbo27_3, by rw [← hI1.2.2.2.1, HQ]; (first | rw [qstep_q (by omega)] | rw [qstep_p (by omega) (by omega)] | rw [qstep_u (by omega) (by omega)]); simp, by first | omega | ((try simp only [List.length_append]); (try simp only [List.length_cons, List.length_nil]); (try simp only [pad_length]); (try simp only [List.length_take]); (try simp only [List.length_drop]); omega), by first | omega | ((try simp only [List.length_append]); (try simp only [List.length_cons, List.length_nil]); (try simp only [pad_length]); (try simp only [List.length_take]); (try simp only [List.length_drop]); omega)⟩) (by show s.length - (i + (decA s i).2) < s.length - i; omega) trivial rfl rfl rfl
    · replace h1 := of_decide_eq_false h1
      refine g_on rfl rfl rfl ?_
      refine mv (.int _ _) rfl ?_
      refine g_on rfl rfl rfl ?_
      refine cmp _ rfl rfl rfl ?_
      refine pkf (.bool _) rfl rfl ?_
      refine asg (.bool _) rfl ?_
      refine jt ?_
      refine c_cond rfl (fun h2 => ?_) (fun h2 => ?_)
      · replace h2 := of_decide_eq_true h2
        refine c_seq ?_
        refine c_reg ?_
        refine cal (bWriteByte_ct b3 _ (.inr rfl) o xs hI1.2.2.1 (by first | omega | ((try simp only [List.length_append]); (try simp only [List.length_cons, List.length_nil]); (try simp only [pad_length]); (try simp only [List.length_take]); (try simp only [List.length_drop]); omega)) (92 : UInt8) ) [0, 1] [2] [_] rfl rfl rfl (by kernel_rfl) impl_nil rfl ?_; rintro _ _ _ ⟨bo25_4, hkbo25_4, rfl, rfl, rfl⟩; refine ⟨trivial, ?_⟩
        refine jt ?_
        refine c_reg ?_
        refine mv (.int _ _) rfl ?_
        refine cal (bWriteRune_ct b3 _ (.inr rfl) bo25_4 (xs ++ [(92 : UInt8)]) hkbo25_4 (by first | omega | ((try simp only [List.length_append]); (try simp only [List.length_cons, List.length_nil]); (try simp only [pad_length]); (try simp only [List.length_take]); (try simp only [List.length_drop]); omega)) ((decA s i).1) (by omega)) [1, 2] [0] [_] rfl rfl rfl (by kernel_rfl) impl_nil rfl ?_; rintro _ _ _ ⟨bo27_5, hkbo27_5, rfl, rfl, rfl⟩; refine ⟨trivial, ?_⟩
        refine jn ?_
        refine e_in ?_
        refine e_in ?_
        refine e_keep [1, 2, 0] [] [_, _, _] rfl (by kernel_rfl) ?_
        exact e_loop (i + (decA s i).2, bo27_5, ((xs ++ [(92 : UInt8)]) ++ [UInt8.ofNat ((decA s i).1)])) (⟨HE, HV, hkbo27_5, by rw [← hI1.2.2.2.1, HQ]; (first | rw [qstep_q (by omega)] | rw [qstep_p (by omega) (by omega)] | rw [qstep_u (by omega) (by omega)]); simp, by first | omega | ((try simp only [List.length_append]); (try simp only [List.length_cons, List.length_nil]); (try simp only [pad_length]); (try simp only [List.length_take]); (try simp only [List.length_drop]); omega), by first | omega | ((try simp only [List.length_append]); (try simp only [List.length_cons, List.length_nil]); (try simp only [pad_length]); (try simp only [List.length_take]); (try simp only [List.length_drop]); omega)⟩) (by show s.length - (i + (decA s i).2) < s.length - i; omega) trivial rfl rfl rfl
      · replace h2 := of_decide_eq_false h2
        refine c_seq ?_
        refine c_reg ?_
        refine mv (.int _ _) rfl ?_
        refine cmp _ rfl rfl rfl ?_
        refine mv (.bool _) rfl ?_
        refine jsplit 31 rfl (fun h3 => ?_) (fun h3 => ?_)
        · replace h3 := of_decide_eq_true h3
          refine g_on rfl rfl rfl ?_
          refine mv (.int _ _) rfl ?_
          refine g_on rfl rfl rfl ?_
          refine cmp _ rfl rfl rfl ?_
          refine pkt (.bool _) rfl rfl ?_
          refine asg (.bool _) rfl ?_
          refine jt ?_
          refine c_cond rfl (fun h4 => ?_) (fun h4 => ?_)
          · replace h4 := of_decide_eq_true h4
            refine c_reg ?_
            refine mv (.int _ _) rfl ?_
            refine cal (bWriteRune_ct b3 _ (.inr rfl) o xs hI1.2.2.1 (by first | omega | ((try simp only [List.length_append]); (try simp only [List.length_cons, List.length_nil]); (try simp only [pad_length]); (try simp only [List.length_take]); (try simp only [List.length_drop]); omega)) ((decA s i).1) (by omega)) [0, 1] [2] [_] rfl rfl rfl (by kernel_rfl) impl_nil rfl ?_; rintro _ _ _ ⟨bo36_6, hkbo36_6, rfl, rfl, rfl⟩; refine ⟨trivial, ?_⟩
            refine jn ?_
            refine e_in ?_
            refine e_in ?_
            refine e_keep [1, 2, 0] [] [_, _, _] rfl (by kernel_rfl) ?_
            exact e_loop (i + (decA s i).2, bo36_6, (xs ++ [UInt8.ofNat ((decA s i).1)])) (⟨HE, HV, hkbo36_6, by rw [← hI1.2.2.2.1, HQ]; (first | rw [qstep_q (by omega)] | rw [qstep_p (by omega) (by omega)] | rw [qstep_u (by omega) (by omega)]); simp, by first | omega | ((try simp only [List.length_append]); (try simp only [List.length_cons, List.length_nil]); (try simp only [pad_length]); (try simp only [List.length_take]); (try simp only [List.length_drop]); omega), by first | omega | ((try simp only [List.length_append]); (try simp only [List.length_cons, List.length_nil]); (try simp only [pad_length]); (try simp only [List.length_take]); (try simp only [List.length_drop]); omega)⟩) (by show s.length - (i + (decA s i).2) < s.length - i; omega) trivial rfl rfl rfl
          · replace h4 := of_decide_eq_false h4
            refine c_reg ?_
            refine mv (.int _ _) rfl ?_
            refine cvI ((decA s i).1 : Int) rfl Tryd.underlying21 Tryd.underlying2 (wI64 (by omega)) ?_
            refine cal (sFormatInt16_ct ((decA s i).1) (by omega)) [] [0, 1, 2] [_, _, _] rfl rfl rfl (by kernel_rfl) (impl_cons (impl_at 0 rfl) impl_nil) rfl ?_; rintro _ _ _ ⟨rfl, rfl, rfl⟩; refine ⟨trivial, ?_⟩
            refine sadd (a := ([92, 117, 123] : Str)) (b := (fmtN 16 ((decA s i).1))) rfl rfl (by first | omega | ((try simp only [List.length_append]); (try simp only [List.length_cons, List.length_nil]); (try simp only [pad_length]); (try simp only [List.length_take]); (try simp only [List.length_drop]); omega)) ?_
            refine sadd (a := (([92, 117, 123] : Str) ++ (fmtN 16 ((decA s i).1)))) (b := ([125] : Str)) rfl rfl (by first | omega | ((try simp only [List.length_append]); (try simp only [List.length_cons, List.length_nil]); (try simp only [pad_length]); (try simp only [List.length_take]); (try simp only [List.length_drop]); omega)) ?_
            refine cal (bWriteString_ct b3 _ (.inr rfl) o xs hI1.2.2.1 (by first | omega | ((try simp only [List.length_append]); (try simp only [List.length_cons, List.length_nil]); (try simp only [pad_length]); (try simp only [List.length_take]); (try simp only [List.length_drop]); omega)) ((([92, 117, 123] : Str) ++ (fmtN 16 ((decA s i).1))) ++ ([125] : Str)) (by first | omega | ((try simp only [List.length_append]); (try simp only [List.length_cons, List.length_nil]); (try simp only [pad_length]); (try simp only [List.length_take]); (try simp only [List.length_drop]); omega))) [0, 1] [2] [_] rfl rfl rfl (by kernel_rfl) impl_nil rfl ?_; rintro _ _ _ ⟨bo17_7, hkbo17_7, rfl, rfl, rfl⟩; refine ⟨trivial, ?_⟩
            refine jn ?_
            refine e_in ?_
            refine e_in ?_
            refine e_keep [1, 2, 0] [] [_, _, _] rfl (by kernel_rfl) ?_
            exact e_loop (i + (decA s i).2, bo17_7, (xs ++ ((([92, 117, 123] : Str) ++ (fmtN 16 ((decA s i).1))) ++ ([125] : Str)))) (⟨HE, HV, hkbo17_7, by rw [← hI1.2.2.2.1, HQ]; (first | rw [qstep_q (by omega)] | rw [qstep_p (by omega) (by omega)] | rw [qstep_u (by omega) (by omega)]); simp, by first | omega | ((try simp only [List.length_append]); (try simp only [List.length_cons, List.length_nil]); (try simp only [pad_length]); (try simp only [List.length_take]); (try simp only [List.length_drop]); omega), by first | omega | ((try simp only [List.length_append]); (try simp only [List.length_cons, List.length_nil]); (try simp only [pad_length]); (try simp only [List.length_take]); (try simp only [List.length_drop]); omega)⟩) (by show s.length - (i + (decA s i).2) < s.length - i; omega) trivial rfl rfl rfl
        · replace h3 := of_decide_eq_false h3
          refine g_off rfl rfl rfl rfl ?_
          refine g_off rfl rfl rfl rfl ?_
          refine pkf (.bool _) rfl rfl ?_
          refine asg (.bool _) rfl ?_
          refine jt ?_
          refine c_false rfl ?_
          refine c_reg ?_
          refine mv (.int _ _) rfl ?_
          refine cvI ((decA s i).1 : Int) rfl Tryd.underlying21 Tryd.underlying2 (wI64 (by omega)) ?_
          refine cal (sFormatInt16_ct ((decA s i).1) (by omega)) [] [0, 1, 2] [_, _, _] rfl rfl rfl (by kernel_rfl) (impl_cons (impl_at 0 rfl) impl_nil) rfl ?_; rintro _ _ _ ⟨rfl, rfl, rfl⟩; refine ⟨trivial, ?_⟩
          refine sadd (a := ([92, 117, 123] : Str)) (b := (fmtN 16 ((decA s i).1))) rfl rfl (by first | omega | ((try simp only [List.length_append]); (try simp only [List.length_cons, List.length_nil]); (try simp only [pad_length]); (try simp only [List.length_take]); (try simp only [List.length_drop]); omega)) ?_
          refine sadd (a := (([92, 117, 123] : Str) ++ (fmtN 16 ((decA s i).1)))) (b := ([125] : Str)) rfl rfl (by first | omega | ((try simp only [List.length_append]); (try simp only [List.length_cons, List.length_nil]); (try simp only [pad_length]); (try simp only [List.length_take]); (try simp only [List.length_drop]); omega)) ?_
          refine cal (bWriteString_ct b3 _ (.inr rfl) o xs hI1.2.2.1 (by first | omega | ((try simp only [List.length_append]); (try simp only [List.length_cons, List.length_nil]); (try simp only [pad_length]); (try simp only [List.length_take]); (try simp only [List.length_drop]); omega)) ((([92, 117, 123] : Str) ++ (fmtN 16 ((decA s i).1))) ++ ([125] : Str)) (by first | omega | ((try simp only [List.length_append]); (try simp only [List.length_cons, List.length_nil]); (try simp only [pad_length]); (try simp only [List.length_take]); (try simp only [List.length_drop]); omega))) [0, 1] [2] [_] rfl rfl rfl (by kernel_rfl) impl_nil rfl ?_; rintro _ _ _ ⟨bo17_8, hkbo17_8, rfl, rfl, rfl⟩; refine ⟨trivial, ?_⟩
          refine jn ?_
          refine e_in ?_
          refine e_in ?_
          refine e_keep [1, 2, 0] [] [_, _, _] rfl (by kernel_rfl) ?_
          exact e_loop (i + (decA s i).2, bo17_8, (xs ++ ((([92, 117, 123] : Str) ++ (fmtN 16 ((decA s i).1))) ++ ([125] : Str)))) (⟨HE, HV, hkbo17_8, by rw [← hI1.2.2.2.1, HQ]; (first | rw [qstep_q (by omega)] | rw [qstep_p (by omega) (by omega)] | rw [qstep_u (by omega) (by omega)]); simp, by first | omega | ((try simp only [List.length_append]); (try simp only [List.length_cons, List.length_nil]); (try simp only [pad_length]); (try simp only [List.length_take]); (try simp only [List.length_drop]); omega), by first | omega | ((try simp only [List.length_append]); (try simp only [List.length_cons, List.length_nil]); (try simp only [pad_length]); (try simp only [List.length_take]); (try simp only [List.length_drop]); omega)⟩) (by show s.length - (i + (decA s i).2) < s.length - i; omega) trivial rfl rfl rfl
  · refine nxtE 2 rfl rfl (by omega) ⟨trivial, ?_⟩
    refine xtr (.bool _) rfl rfl ?_
    refine jt ?_
    refine c_seq ?_
    refine c_false rfl ?_
    refine c_exit rfl ?_
    refine e_then ?_
    refine c_seq ?_
    have HX := hI1.2.2.2.2.1
    have HY := hI1.2.2.2.2.2
    refine c_reg ?_
    refine cal (bWriteByte_ct b3 _ (.inr rfl) o xs hI1.2.2.1 (by first | omega | ((try simp only [List.length_append]); (try simp only [List.length_cons, List.length_nil]); (try simp only [pad_length]); (try simp only [List.length_take]); (try simp only [List.length_drop]); omega)) (34 : UInt8) ) [0, 1] [2] [_] rfl rfl rfl (by kernel_rfl) impl_nil rfl ?_; rintro _ _ _ ⟨bo37_9, hkbo37_9, rfl, rfl, rfl⟩; refine ⟨trivial, ?_⟩
    refine jt ?_
    refine c_seq ?_
    refine c_reg ?_
    refine cal (bString_ct b3 _ (.inr rfl) bo37_9 (xs ++ [(34 : UInt8)]) hkbo37_9 (by first | omega | ((try simp only [List.length_append]); (try simp only [List.length_cons, List.length_nil]); (try simp only [pad_length]); (try simp only [List.length_take]); (try simp only [List.length_drop]); omega)) (by first | omega | ((try simp only [List.length_append]); (try simp only [List.length_cons, List.length_nil]); (try simp only [pad_length]); (try simp only [List.length_take]); (try simp only [List.length_drop]); omega))) [1, 2] [0] [_] rfl rfl rfl (by kernel_rfl) impl_nil rfl ?_; rintro _ _ _ ⟨rfl, rfl, rfl⟩; refine ⟨trivial, ?_⟩
    refine asg (.string _) rfl ?_
    refine jt ?_
    refine c_ret ?_
    exact j_end (own0 := []) (ro0 := [tDb64 8]) (.inl rfl) rfl (hr1 Tryd.results21 (rvt (v := (.string _)) rfl)) [] [0] [] [_] [] _ rfl rfl (by kernel_rfl) rfl impl_nil (⟨by rw [show xs = [34] ++ qbody s by rw [← hI1.2.2.2.1, qbody_nil (by simp; omega)]; simp]; rfl, rfl, rfl⟩)

set_option maxRecDepth 20000 in
set_option maxHeartbeats 4000000 in
theorem hex_ct (sm : Vs) (ms : Str) (hm : sm.ok ms) (hp : 0 < ms.length) (hb : ms.length ≤ 1000000) : Ct Tryd.prog 23 [.slice sm.adr ms.length sm.cap] [] [sm.seg ms] (fun v o r => v = strV (hexS ms) ∧ o = [] ∧ r = []) := by
  refine ct_enter Tryd.func23 rfl Tryd.ntmps23 (by kernel_rfl) rfl fun w0 => ?_
  refine c_seq ?_
  refine c_reg ?_
  refine asg (.string _) rfl ?_
  refine jt ?_
  refine c_seq ?_
  refine c_reg ?_
  refine alo [p1 (.pointer none), p1 (.slice Ow.nil.adr ([] : List UInt8).length Ow.nil.cap)] _ z78 rfl fun b3 => ⟨trivial, ?_⟩; refine j_addE ?_
  refine jt ?_
  refine c_seq ?_
  refine c_seq ?_
  refine c_reg ?_
  refine mv (.slice _ _ _) rfl ?_
  refine lenS rfl Tryd.underlying50 ?_
  refine mv (.int _ _) rfl ?_
  refine jt ?_
  refine c_block ?_
  refine c_loop (σ := Nat × Option Addr × Ow × Str) (fun (i, a, o, xs) => i ≤ ms.length ∧ (a = none ∨ a = (some ⟨b3, 0, none⟩)) ∧ o.ok xs ∧ xs = hexS (ms.take i)) (fun (i, a, o, xs) => ms.length - i) (fun (i, a, o, xs) => [(8, .int .i64 (i : Int))]) (fun (i, a, o, xs) => [[(b3, .cells (cat [p1 (.pointer a), p1 (.slice o.adr xs.length o.cap)]) 78)], o.seg xs 5]) (fun (i, a, o, xs) => [sm.seg ms]) [5, 8, 9, 10, 11, 12, 13, 14, 15, 16, 17, 18, 19, 20] (0, none, Ow.nil, []) (⟨by omega, .inl rfl, Ow.nil_ok, rfl⟩) ⟨rfl, trivial⟩ rfl rfl ?_
  rintro ⟨i, a, o, xs⟩ g1 hI1
  try dsimp only at hI1 ⊢
  have ha := hI1.2.1
  have HX : xs.length = 2 * i := by rw [hI1.2.2.2, hexS_length]; simp; omega
  refine c_seq ?_
  refine c_reg ?_
  refine cmp _ rfl rfl rfl ?_
  refine jt ?_
  refine c_seq ?_
  refine c_cond rfl (fun h1 => ?_) (fun h1 => ?_)
  · replace h1 := of_decide_eq_true h1
    refine c_skip ?_
    refine e_then ?_
    refine c_seq ?_
    refine c_block ?_
    refine c_seq ?_
    refine c_reg ?_
    refine ixs sm ms i hm rfl rfl rfl Tryd.underlying50 ty5.sz rfl (by first | omega | (simp; done) | (simp; omega) | (simp at *; omega)) ?_
    refine ldvsG 2 (List.getD ms i 0) hm rfl rfl rfl rfl (getD_some (by first | omega | (simp; done) | (simp; omega) | (simp at *; omega))) ty5 ?_
    refine asg (.int _ _) rfl ?_
    refine jt ?_
    refine c_seq ?_
    refine c_reg ?_
    refine mv (.int _ _) rfl ?_
    refine shrRU8 (a := (List.getD ms i 0)) 4 rfl rfl rfl ?_
    refine idxT (s := hexL) ((shrU8 (List.getD ms i 0) 4).toNat) rfl rfl Tryd.underlying9 rfl (by have := UInt8.toNat_lt (List.getD ms i 0); rw [shrU8_toNat]; show _ < 16; omega) ?_
    refine cal (bWriteByte_ct b3 _ ha o xs hI1.2.2.1 (by first | omega | ((try simp only [List.length_append]); (try simp only [List.length_cons, List.length_nil]); (try simp only [pad_length]); (try simp only [List.length_take]); (try simp only [List.length_drop]); omega)) (List.getD hexL ((shrU8 (List.getD ms i 0) 4).toNat) 0) ) [0, 1] [] [] rfl rfl rfl (by kernel_rfl) impl_nil rfl ?_; rintro _ _ _ ⟨bo15_1, hkbo15_1, rfl, rfl, rfl⟩; refine ⟨trivial, ?_⟩
    refine jt ?_
    refine c_reg ?_
    refine mv (.int _ _) rfl ?_
    refine andU8 (a := (List.getD ms i 0)) (b := (15 : UInt8)) rfl rfl ?_
    refine idxT (s := hexL) ((List.getD ms i 0 &&& 15).toNat) rfl rfl Tryd.underlying9 rfl (by rw [and_hex]; show _ < 16; omega) ?_
    refine cal (bWriteByte_ct b3 _ (.inr rfl) bo15_1 (xs ++ [(List.getD hexL ((shrU8 (List.getD ms i 0) 4).toNat) 0)]) hkbo15_1 (by first | omega | ((try simp only [List.length_append]); (try simp only [List.length_cons, List.length_nil]); (try simp only [pad_length]); (try simp only [List.length_take]); (try simp only [List.length_drop]); omega)) (List.getD hexL ((List.getD ms i 0 &&& 15).toNat) 0) ) [0, 1] [] [] rfl rfl rfl (by kernel_rfl) impl_nil rfl ?_; rintro _ _ _ ⟨bo19_2, hkbo19_2, rfl, rfl, rfl⟩; refine ⟨trivial, ?_⟩
    refine jn ?_
    refine e_in ?_
    refine e_then ?_
    refine c_reg ?_
    refine addi rfl rfl rfl (by omega) ?_
    refine mv (.int _ _) rfl ?_
    refine jn ?_
    exact e_loop (i + 1, (some ⟨b3, 0, none⟩), bo19_2, ((xs ++ [(List.getD hexL ((shrU8 (List.getD ms i 0) 4).toNat) 0)]) ++ [(List.getD hexL ((List.getD ms i 0 &&& 15).toNat) 0)])) (⟨by omega, .inr rfl, hkbo19_2, by rw [hexS_take (by omega), ← hI1.2.2.2, shr_hex, and_hex']; simp⟩) (by show ms.length - (i + 1) < ms.length - i; omega) (⟨rfl, trivial⟩) rfl rfl rfl
  · replace h1 := of_decide_eq_false h1
    refine c_exit rfl ?_
    refine e_then ?_
    refine c_seq ?_
    refine c_reg ?_
    refine cal (bString_ct b3 _ ha o xs hI1.2.2.1 (by first | omega | ((try simp only [List.length_append]); (try simp only [List.length_cons, List.length_nil]); (try simp only [pad_length]); (try simp only [List.length_take]); (try simp only [List.length_drop]); omega)) (by first | omega | ((try simp only [List.length_append]); (try simp only [List.length_cons, List.length_nil]); (try simp only [pad_length]); (try simp only [List.length_take]); (try simp only [List.length_drop]); omega))) [0, 1] [] [] rfl rfl rfl (by kernel_rfl) impl_nil rfl ?_; rintro _ _ _ ⟨rfl, rfl, rfl⟩; refine ⟨trivial, ?_⟩
    refine asg (.string _) rfl ?_
    refine jt ?_
    refine c_ret ?_
    exact j_end (own0 := []) (ro0 := [sm.seg ms]) (.inl rfl) rfl (hr1 Tryd.results23 (rvt (v := (.string _)) rfl)) [] [] [] [] [] _ rfl rfl (by kernel_rfl) rfl impl_nil (⟨by rw [hI1.2.2.2, List.take_of_length_le (by omega)], rfl, rfl⟩)

theorem float_ct (x : F64) : Ct Tryd.prog 22 [.float .f64 x.b.toNat] [] [tDb64 8] (fun v o r => v = strV (padN 16 (fmtN 16 x.b.toNat)) ∧ o = [] ∧ r = []) := by
  have HF := fmt16_le x.b
  refine ct_enter Tryd.func22 rfl Tryd.ntmps22 (by kernel_rfl) rfl fun w0 => ?_
  refine c_seq ?_
  refine c_reg ?_
  refine asg (.string _) rfl ?_
  refine jt ?_
  refine c_seq ?_
  refine c_reg ?_
  refine mv (.float _ _) rfl ?_
  refine xcal (args := [.float .f64 x.b.toNat]) (.int .u64 (x.b.toNat : Int)) Tryd.func27 (by kernel_rfl) (by kernel_rfl) (by kernel_rfl) (fun w => rfl) (by kernel_rfl) rfl ?_
  refine cal (sFormatUint16_ct x.b) [] [] [] rfl rfl rfl (by kernel_rfl) (impl_cons (impl_at 0 rfl) impl_nil) rfl ?_; rintro _ _ _ ⟨rfl, rfl, rfl⟩; refine ⟨trivial, ?_⟩
  refine asg (.string _) rfl ?_
  refine jt ?_
  refine c_seq ?_
  refine c_reg ?_
  refine mv (.string _) rfl ?_
  refine lenT (s := (fmtN 16 x.b.toNat)) rfl Tryd.underlying9 ?_
  refine subi rfl rfl rfl (by omega) ?_
  refine cal (Repeat0_ct (16 - (fmtN 16 x.b.toNat).length) (by omega)) [] [] [] rfl (hx_cons rfl rfl (hx_cons rfl (congrArg (Value.int _) (by omega)) rfl)) rfl (by kernel_rfl) impl_nil rfl ?_; rintro _ _ _ ⟨rfl, rfl, rfl⟩; refine ⟨trivial, ?_⟩
  refine mv (.string _) rfl ?_
  refine sadd (a := (List.replicate (16 - (fmtN 16 x.b.toNat).length) (48 : UInt8))) (b := (fmtN 16 x.b.toNat)) rfl rfl (by rw [List.length_replicate]; omega) ?_
  refine asg (.string _) rfl ?_
  refine jt ?_
  refine c_ret ?_
  exact j_end (own0 := []) (ro0 := [tDb64 8]) (.inl rfl) rfl (hr1 Tryd.results22 (rvt (v := (.string _)) rfl)) [] [] [] [] [] _ rfl rfl (by kernel_rfl) rfl impl_nil (⟨rfl, rfl, rfl⟩)

theorem keyText_ct (k : Key) : Ct Tryd.prog 28 [.agg ⟨cat [pt k]⟩] [] [tDb64 8] (fun v o r => v = strV (hexS k.l) ∧ o = [] ∧ r = []) := by
  have HK := k.h
  refine ct_enter Tryd.func28 rfl Tryd.ntmps28 (by kernel_rfl) rfl fun w0 => ?_
  refine c_seq ?_
  refine c_reg ?_
  refine bxx [pt k] _ rfl rfl fun b1 => ⟨trivial, ?_⟩
  refine asg (.string _) rfl ?_
  refine jt ?_
  refine c_seq ?_
  refine c_reg ?_
  refine asg (.string _) rfl ?_
  refine jt ?_
  refine c_seq ?_
  refine c_seq ?_
  refine c_reg ?_
  refine asg (.int _ _) rfl ?_
  refine jt ?_
  refine c_block ?_
  refine c_loop (σ := Nat × Str) (fun (i, s) => i ≤ 32 ∧ s = hexS (k.l.take i)) (fun (i, s) => 32 - i) (fun (i, s) => [(4, .int .i64 (i : Int)), (3, strV s)]) (fun (i, s) => [[(b1, .cells (cat [pt k]) 25)]]) (fun (i, s) => [tDb64 8]) [3, 4, 5, 6, 7, 8, 9, 10, 11, 12, 13, 14, 15] (0, []) (⟨by omega, rfl⟩) ⟨rfl, rfl, trivial⟩ rfl rfl ?_
  rintro ⟨i, s⟩ g1 hI1
  try dsimp only at hI1 ⊢
  have HX : s.length = 2 * i := by rw [hI1.2, hexS_length, List.length_take, HK]; omega
  have HB := UInt8.toNat_lt (List.getD k.l i 0)
  have HP : padN 2 (fmtN 16 (UInt64.ofNat (List.getD k.l i 0).toNat).toNat) = [dch ((List.getD k.l i 0).toNat / 16), dch ((List.getD k.l i 0).toNat % 16)] := by rw [UInt64.toNat_ofNat', Nat.mod_eq_of_lt (by omega)]; exact pad_byte _ HB
  refine c_seq ?_
  refine c_seq ?_
  refine c_reg ?_
  refine mv (.int _ _) rfl ?_
  refine cmp _ rfl rfl rfl ?_
  refine jt ?_
  refine c_cond rfl (fun h1 => ?_) (fun h1 => ?_)
  · replace h1 := of_decide_eq_true h1
    refine c_skip ?_
    refine e_then ?_
    refine c_seq ?_
    refine c_block ?_
    refine c_reg ?_
    refine mv (.string _) rfl ?_
    refine mv (.int _ _) rfl ?_
    refine ixaA i rfl rfl Tryd.underlying25 ty5.sz rfl (by first | omega | (simp; done) | (simp; omega) | (simp at *; omega)) ?_
    refine lda 0 0 _ k i (List.getD k.l i 0) rfl rfl rfl rfl (getD_some (by rw [Arr.h]; omega)) ty5 ?_
    refine cvNU64 (n := (List.getD k.l i 0).toNat) rfl Tryd.underlying5 Tryd.underlying23 ?_
    refine cal (rhex_ct (UInt64.ofNat ((List.getD k.l i 0).toNat)) 2 (by omega)) [] [0] [_] rfl rfl rfl (by kernel_rfl) (impl_cons (impl_at 0 rfl) impl_nil) rfl ?_; rintro _ _ _ ⟨rfl, rfl, rfl⟩; refine ⟨trivial, ?_⟩
    refine sadd (a := s) (b := (padN 2 (fmtN 16 (UInt64.ofNat ((List.getD k.l i 0).toNat)).toNat))) rfl rfl (by rw [HP]; simp only [List.length_cons, List.length_nil]; omega) ?_
    refine asg (.string _) rfl ?_
    refine jn ?_
    refine e_in ?_
    refine e_then ?_
    refine c_reg ?_
    refine mv (.int _ _) rfl ?_
    refine addi rfl rfl rfl (by omega) ?_
    refine asg (.int _ _) rfl ?_
    refine jn ?_
    exact e_loop (i + 1, (s ++ (padN 2 (fmtN 16 (UInt64.ofNat ((List.getD k.l i 0).toNat)).toNat)))) (⟨by omega, by rw [hexS_take (by omega), ← hI1.2, HP]⟩) (by show 32 - (i + 1) < 32 - i; omega) (⟨rfl, rfl, trivial⟩) rfl rfl rfl
  · replace h1 := of_decide_eq_false h1
    refine c_exit rfl ?_
    refine e_then ?_
    refine c_seq ?_
    refine c_reg ?_
    refine mv (.string _) rfl ?_
    refine asg (.string _) rfl ?_
    refine jt ?_
    refine c_ret ?_
    exact j_end (own0 := []) (ro0 := [tDb64 8]) (.inl rfl) rfl (hr1 Tryd.results28 (rvt (v := (.string _)) rfl)) [] [0] [] [_] [] _ rfl rfl (by kernel_rfl) rfl impl_nil (⟨by rw [hI1.2, List.take_of_length_le (by omega)], rfl, rfl⟩)
end Go.Proofs.YthpbiamicidakaaDoor
