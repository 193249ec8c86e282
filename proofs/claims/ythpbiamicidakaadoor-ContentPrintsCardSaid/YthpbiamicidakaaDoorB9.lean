/- Contracts of the program's functions, walked. No condition. -/
import Derived.Test.YthpbiamicidakaaDoorB8
namespace Go.Proofs.YthpbiamicidakaaDoor
open Go Go.Proofs Go.PW
open Go.PW.Enc (enc val)


set_option maxRecDepth 20000 in
set_option maxHeartbeats 4000000 in
theorem Print_ct (c : Con) (sm : Vs) (ms : List UInt32) (hm : sm.ok ms) (hb : ms.length ≤ 4611686018427387904) : Ct Tryd.prog 9 [.agg ⟨cat [pt c.kind, pt c.text, p1 (.slice sm.adr ms.length sm.cap), pt c.lat, pt c.long, pt c.number, pt c.key]⟩] [] [sm.seg ms, tFirst 1, tAcc 2, tPow10 3, tDb64 8] (fun v o r => v = .tuple #[strV (printV c ms), .int .i64 (chkV c ms)] ∧ o = [] ∧ r = []) := by
  refine ct_enter Tryd.func9 rfl Tryd.ntmps9 (by kernel_rfl) rfl fun w0 => ?_
  refine c_seq ?_
  refine c_reg ?_
  refine bxx [pt c.kind, pt c.text, p1 (.slice sm.adr ms.length sm.cap), pt c.lat, pt c.long, pt c.number, pt c.key] _ rfl rfl fun b1 => ⟨trivial, ?_⟩
  refine asg (.string _) rfl ?_
  refine asg (.int _ _) rfl ?_
  refine jt ?_
  refine c_seq ?_
  refine c_seq ?_
  refine c_reg ?_
  refine ldw 0 _ rfl rfl ty30 ?_
  refine cal (Check_ct c sm ms hm hb) [] [0] [_] rfl rfl rfl (by kernel_rfl) (impl_cons (impl_at 0 rfl) (impl_cons (impl_at 1 rfl) (impl_cons (impl_at 2 rfl) impl_nil))) rfl ?_; rintro _ _ _ ⟨rfl, rfl, rfl⟩; refine ⟨trivial, ?_⟩
  refine asg (.int _ _) rfl ?_
  refine jt ?_
  refine c_seq ?_
  refine c_reg ?_
  refine mv (.int _ _) rfl ?_
  refine cmp _ rfl rfl rfl ?_
  refine jt ?_
  refine c_cond rfl (fun h1 => ?_) (fun h1 => ?_)
  · replace h1 := ndt h1
    refine c_seq ?_
    have HE := h1
    refine c_reg ?_
    refine mv (.int _ _) rfl ?_
    refine asg (.string _) rfl ?_
    refine asg (.int _ _) rfl ?_
    refine jt ?_
    refine c_ret ?_
    exact j_end (own0 := []) (ro0 := [sm.seg ms, tFirst 1, tAcc 2, tPow10 3, tDb64 8]) (.inl rfl) rfl (hr2 Tryd.results9 (rvt (v := (.string _)) rfl) (rvt (v := (.int _ _)) rfl)) [] [0] [] [_] [] _ rfl rfl (by kernel_rfl) rfl impl_nil (⟨by rw [show printV c ms = [] from if_neg HE], rfl, rfl⟩)
  · replace h1 := ndf h1
    refine c_skip ?_
    refine e_then ?_
    refine c_seq ?_
    have H0 : chkV c ms = 0 := by omega
    have HT := pr_ok H0
    have HQL := quoteS_len c.text
    have HN := (fmtN_length 10 c.number.toNat).2
    have HP1 := pad_length (k := 16) (s := fmtN 16 c.lat.b.toNat)
    have HP2 := pad_length (k := 16) (s := fmtN 16 c.long.b.toNat)
    have HP3 := fmt16_le c.lat.b
    have HP4 := fmt16_le c.long.b
    have HKL : (hexS c.key.l).length = 64 := by rw [hexS_length, c.key.h]
    refine c_reg ?_
    refine fad rfl Tryd.underlying30 rfl ty23.sz ?_
    refine ldp 0 5 _ rfl rfl rfl rfl ty23 ?_
    refine cal (sFormatUint10_ct c.number) [] [0] [_] rfl rfl rfl (by kernel_rfl) (impl_cons (impl_at 3 rfl) impl_nil) rfl ?_; rintro _ _ _ ⟨rfl, rfl, rfl⟩; refine ⟨trivial, ?_⟩
    refine asg (.string _) rfl ?_
    refine jt ?_
    refine c_seq ?_
    refine c_seq ?_
    refine c_reg ?_
    refine fad rfl Tryd.underlying30 rfl ty3.sz ?_
    refine ldp 0 0 _ rfl rfl rfl rfl ty3 ?_
    refine jt ?_
    refine c_block ?_
    refine c_seq ?_
    refine c_reg ?_
    refine cmp _ rfl rfl rfl ?_
    refine asg (.bool _) rfl ?_
    refine jt ?_
    refine c_cond rfl (fun h2 => ?_) (fun h2 => ?_)
    · replace h2 := of_decide_eq_true h2
      refine c_seq ?_
      refine c_reg ?_
      refine fad rfl Tryd.underlying30 rfl ty9.sz ?_
      refine ldp 0 1 _ rfl rfl rfl rfl ty9 ?_
      refine cal (quoted_ct c.text (HT.t (by omega) (by omega)).1 (HT.t (by omega) (by omega)).2) [] [0] [_] rfl rfl rfl (by kernel_rfl) (impl_cons (impl_at 4 rfl) impl_nil) rfl ?_; rintro _ _ _ ⟨rfl, rfl, rfl⟩; refine ⟨trivial, ?_⟩
      refine sadd (a := ([116, 101, 120, 116, 32] : Str)) (b := (quoteS c.text)) rfl rfl (by have HTT := (HT.t (by omega) (by omega)).2; first | omega | ((try simp only [List.length_append]); (try simp only [List.length_cons, List.length_nil]); (try simp only [pad_length]); (try simp only [List.length_take]); (try simp only [List.length_drop]); omega)) ?_
      refine asg (.string _) rfl ?_
      refine asg (.int _ _) rfl ?_
      refine jt ?_
      refine c_ret ?_
      exact j_end (own0 := []) (ro0 := [sm.seg ms, tFirst 1, tAcc 2, tPow10 3, tDb64 8]) (.inl rfl) rfl (hr2 Tryd.results9 (rvt (v := (.string _)) rfl) (rvt (v := (.int _ _)) rfl)) [] [0] [] [_] [] _ rfl rfl (by kernel_rfl) rfl impl_nil (⟨by rw [show printV c ms = bodyV c ms from if_pos H0, bodyV, if_pos (by omega), h1], rfl, rfl⟩)
    · replace h2 := of_decide_eq_false h2
      refine c_seq ?_
      refine c_reg ?_
      refine cmp _ rfl rfl rfl ?_
      refine asg (.bool _) rfl ?_
      refine jt ?_
      refine c_cond rfl (fun h3 => ?_) (fun h3 => ?_)
      · replace h3 := of_decide_eq_true h3
        refine c_seq ?_
        refine c_reg ?_
        refine asg (.string _) rfl ?_
        refine jt ?_
        refine c_seq ?_
        refine c_seq ?_
        refine c_reg ?_
        refine fad rfl Tryd.underlying30 rfl ty23.sz ?_
        refine ldp 0 5 _ rfl rfl rfl rfl ty23 ?_
        refine equ64 (a := c.number) (b := (2 : UInt64)) _ rfl rfl rfl ?_
        refine jt ?_
        refine c_cond rfl (fun h4 => ?_) (fun h4 => ?_)
        · replace h4 := of_decide_eq_true h4
          refine c_reg ?_
          refine asg (.string _) rfl ?_
          refine jt ?_
          refine c_seq ?_
          refine c_seq ?_
          refine c_reg ?_
          refine fad rfl Tryd.underlying30 rfl ty22.sz ?_
          refine ldp 0 2 _ rfl rfl rfl rfl ty22 ?_
          refine lenS rfl Tryd.underlying22 ?_
          refine mv (.int _ _) rfl ?_
          refine jt ?_
          refine c_block ?_
          refine c_loop (σ := Nat × Str) (fun (i, l) => i ≤ ms.length ∧ l = ([114, 101, 97, 100] : Str) ++ marksS (ms.take i)) (fun (i, l) => ms.length - i) (fun (i, l) => [(33, .int .i64 (i : Int)), (6, strV l)]) (fun (i, l) => [[(b1, .cells (cat [pt c.kind, pt c.text, p1 (.slice sm.adr ms.length sm.cap), pt c.lat, pt c.long, pt c.number, pt c.key]) 30)]]) (fun (i, l) => [sm.seg ms, tFirst 1, tAcc 2, tPow10 3, tDb64 8]) [6, 8, 33, 34, 35, 36, 37, 38, 39, 40, 41, 42, 43] (0, ([114, 101, 97, 100] : Str)) (⟨by omega, rfl⟩) ⟨rfl, rfl, trivial⟩ rfl rfl ?_
          rintro ⟨i, l⟩ g1 hI1
          try dsimp only at hI1 ⊢
          have HX : l.length ≤ 4 + 66 * i := by have := marksS_len (ms.take i); rw [List.length_take] at this; rw [hI1.2]; simp only [List.length_append, List.length_cons, List.length_nil]; omega
          have HM := HT.m (by omega)
          have HY := (fmtN_length 10 (UInt64.ofNat (List.getD ms i 0).toNat).toNat).2
          have HZ : (UInt64.ofNat (List.getD ms i 0).toNat).toNat = (List.getD ms i 0).toNat := by have := UInt32.toNat_lt (List.getD ms i 0); rw [UInt64.toNat_ofNat']; omega
          refine c_seq ?_
          refine c_reg ?_
          refine cmp _ rfl rfl rfl ?_
          refine jt ?_
          refine c_seq ?_
          refine c_cond rfl (fun h5 => ?_) (fun h5 => ?_)
          · replace h5 := of_decide_eq_true h5
            refine c_skip ?_
            refine e_then ?_
            refine c_seq ?_
            refine c_block ?_
            refine c_seq ?_
            refine c_reg ?_
            refine ixs sm ms i hm rfl rfl rfl Tryd.underlying22 ty47.sz rfl (by first | omega | (simp; done) | (simp; omega) | (simp at *; omega)) ?_
            refine ldvsG 1 (List.getD ms i 0) hm rfl rfl rfl rfl (getD_some (by first | omega | (simp; done) | (simp; omega) | (simp at *; omega))) ty47 ?_
            refine asg (.int _ _) rfl ?_
            refine jt ?_
            refine c_reg ?_
            refine mv (.string _) rfl ?_
            refine mv (.int _ _) rfl ?_
            refine cvNU64 (n := (List.getD ms i 0).toNat) rfl Tryd.underlying47 Tryd.underlying23 ?_
            refine cal (sFormatUint10_ct (UInt64.ofNat ((List.getD ms i 0).toNat))) [] [0] [_] rfl rfl rfl (by kernel_rfl) (impl_cons (impl_at 3 rfl) impl_nil) rfl ?_; rintro _ _ _ ⟨rfl, rfl, rfl⟩; refine ⟨trivial, ?_⟩
            refine sadd (a := ([32] : Str)) (b := (fmtN 10 (UInt64.ofNat ((List.getD ms i 0).toNat)).toNat)) rfl rfl (by first | omega | ((try simp only [List.length_append]); (try simp only [List.length_cons, List.length_nil]); (try simp only [pad_length]); (try simp only [List.length_take]); (try simp only [List.length_drop]); omega)) ?_
            refine sadd (a := l) (b := (([32] : Str) ++ (fmtN 10 (UInt64.ofNat ((List.getD ms i 0).toNat)).toNat))) rfl rfl (by first | omega | ((try simp only [List.length_append]); (try simp only [List.length_cons, List.length_nil]); (try simp only [pad_length]); (try simp only [List.length_take]); (try simp only [List.length_drop]); omega)) ?_
            refine asg (.string _) rfl ?_
            refine jn ?_
            refine e_in ?_
            refine e_then ?_
            refine c_reg ?_
            refine addi rfl rfl rfl (by omega) ?_
            refine mv (.int _ _) rfl ?_
            refine jn ?_
            exact e_loop (i + 1, (l ++ (([32] : Str) ++ (fmtN 10 (UInt64.ofNat ((List.getD ms i 0).toNat)).toNat)))) (⟨by omega, by rw [marksS_on (by omega), hI1.2, HZ]; simp⟩) (by show ms.length - (i + 1) < ms.length - i; omega) (⟨rfl, rfl, trivial⟩) rfl rfl rfl
          · replace h5 := of_decide_eq_false h5
            refine c_exit rfl ?_
            refine e_then ?_
            refine c_seq ?_
            refine c_reg ?_
            refine mv (.string _) rfl ?_
            refine asg (.string _) rfl ?_
            refine asg (.int _ _) rfl ?_
            refine jt ?_
            refine c_ret ?_
            exact j_end (own0 := []) (ro0 := [sm.seg ms, tFirst 1, tAcc 2, tPow10 3, tDb64 8]) (.inl rfl) rfl (hr2 Tryd.results9 (rvt (v := (.string _)) rfl) (rvt (v := (.int _ _)) rfl)) [] [0] [] [_] [] _ rfl rfl (by kernel_rfl) rfl impl_nil (⟨by rw [show printV c ms = bodyV c ms from if_pos H0, bodyV, if_neg (by omega), if_pos (by omega), if_pos (by assumption), hI1.2, List.take_of_length_le (by omega), h1], rfl, rfl⟩)
        · replace h4 := of_decide_eq_false h4
          refine c_skip ?_
          refine e_then ?_
          refine c_seq ?_
          refine c_seq ?_
          refine c_reg ?_
          refine fad rfl Tryd.underlying30 rfl ty22.sz ?_
          refine ldp 0 2 _ rfl rfl rfl rfl ty22 ?_
          refine lenS rfl Tryd.underlying22 ?_
          refine mv (.int _ _) rfl ?_
          refine jt ?_
          refine c_block ?_
          refine c_loop (σ := Nat × Str) (fun (i, l) => i ≤ ms.length ∧ l = ([99, 97, 109, 101] : Str) ++ marksS (ms.take i)) (fun (i, l) => ms.length - i) (fun (i, l) => [(33, .int .i64 (i : Int)), (6, strV l)]) (fun (i, l) => [[(b1, .cells (cat [pt c.kind, pt c.text, p1 (.slice sm.adr ms.length sm.cap), pt c.lat, pt c.long, pt c.number, pt c.key]) 30)]]) (fun (i, l) => [sm.seg ms, tFirst 1, tAcc 2, tPow10 3, tDb64 8]) [6, 8, 33, 34, 35, 36, 37, 38, 39, 40, 41, 42, 43] (0, ([99, 97, 109, 101] : Str)) (⟨by omega, rfl⟩) ⟨rfl, rfl, trivial⟩ rfl rfl ?_
          rintro ⟨i, l⟩ g1 hI1
          try dsimp only at hI1 ⊢
          have HX : l.length ≤ 4 + 66 * i := by have := marksS_len (ms.take i); rw [List.length_take] at this; rw [hI1.2]; simp only [List.length_append, List.length_cons, List.length_nil]; omega
          have HM := HT.m (by omega)
          have HY := (fmtN_length 10 (UInt64.ofNat (List.getD ms i 0).toNat).toNat).2
          have HZ : (UInt64.ofNat (List.getD ms i 0).toNat).toNat = (List.getD ms i 0).toNat := by have := UInt32.toNat_lt (List.getD ms i 0); rw [UInt64.toNat_ofNat']; omega
          refine c_seq ?_
          refine c_reg ?_
          refine cmp _ rfl rfl rfl ?_
          refine jt ?_
          refine c_seq ?_
          refine c_cond rfl (fun h6 => ?_) (fun h6 => ?_)
          · replace h6 := of_decide_eq_true h6
            refine c_skip ?_
            refine e_then ?_
            refine c_seq ?_
            refine c_block ?_
            refine c_seq ?_
            refine c_reg ?_
            refine ixs sm ms i hm rfl rfl rfl Tryd.underlying22 ty47.sz rfl (by first | omega | (simp; done) | (simp; omega) | (simp at *; omega)) ?_
            refine ldvsG 1 (List.getD ms i 0) hm rfl rfl rfl rfl (getD_some (by first | omega | (simp; done) | (simp; omega) | (simp at *; omega))) ty47 ?_
            refine asg (.int _ _) rfl ?_
            refine jt ?_
            refine c_reg ?_
            refine mv (.string _) rfl ?_
            refine mv (.int _ _) rfl ?_
            refine cvNU64 (n := (List.getD ms i 0).toNat) rfl Tryd.underlying47 Tryd.underlying23 ?_
            refine cal (sFormatUint10_ct (UInt64.ofNat ((List.getD ms i 0).toNat))) [] [0] [_] rfl rfl rfl (by kernel_rfl) (impl_cons (impl_at 3 rfl) impl_nil) rfl ?_; rintro _ _ _ ⟨rfl, rfl, rfl⟩; refine ⟨trivial, ?_⟩
            refine sadd (a := ([32] : Str)) (b := (fmtN 10 (UInt64.ofNat ((List.getD ms i 0).toNat)).toNat)) rfl rfl (by first | omega | ((try simp only [List.length_append]); (try simp only [List.length_cons, List.length_nil]); (try simp only [pad_length]); (try simp only [List.length_take]); (try simp only [List.length_drop]); omega)) ?_
            refine sadd (a := l) (b := (([32] : Str) ++ (fmtN 10 (UInt64.ofNat ((List.getD ms i 0).toNat)).toNat))) rfl rfl (by first | omega | ((try simp only [List.length_append]); (try simp only [List.length_cons, List.length_nil]); (try simp only [pad_length]); (try simp only [List.length_take]); (try simp only [List.length_drop]); omega)) ?_
            refine asg (.string _) rfl ?_
            refine jn ?_
            refine e_in ?_
            refine e_then ?_
            refine c_reg ?_
            refine addi rfl rfl rfl (by omega) ?_
            refine mv (.int _ _) rfl ?_
            refine jn ?_
            exact e_loop (i + 1, (l ++ (([32] : Str) ++ (fmtN 10 (UInt64.ofNat ((List.getD ms i 0).toNat)).toNat)))) (⟨by omega, by rw [marksS_on (by omega), hI1.2, HZ]; simp⟩) (by show ms.length - (i + 1) < ms.length - i; omega) (⟨rfl, rfl, trivial⟩) rfl rfl rfl
          · replace h6 := of_decide_eq_false h6
            refine c_exit rfl ?_
            refine e_then ?_
            refine c_seq ?_
            refine c_reg ?_
            refine mv (.string _) rfl ?_
            refine asg (.string _) rfl ?_
            refine asg (.int _ _) rfl ?_
            refine jt ?_
            refine c_ret ?_
            exact j_end (own0 := []) (ro0 := [sm.seg ms, tFirst 1, tAcc 2, tPow10 3, tDb64 8]) (.inl rfl) rfl (hr2 Tryd.results9 (rvt (v := (.string _)) rfl) (rvt (v := (.int _ _)) rfl)) [] [0] [] [_] [] _ rfl rfl (by kernel_rfl) rfl impl_nil (⟨by rw [show printV c ms = bodyV c ms from if_pos H0, bodyV, if_neg (by omega), if_pos (by omega), if_neg (by assumption), hI1.2, List.take_of_length_le (by omega), h1], rfl, rfl⟩)
      · replace h3 := of_decide_eq_false h3
        refine c_seq ?_
        refine c_reg ?_
        refine cmp _ rfl rfl rfl ?_
        refine asg (.bool _) rfl ?_
        refine jt ?_
        refine c_cond rfl (fun h7 => ?_) (fun h7 => ?_)
        · replace h7 := of_decide_eq_true h7
          refine c_seq ?_
          refine c_dr [_, _, _, _, _, _] [] [(0, 0), (1, 0), (5, 0), (6, 0), (10, 0), (11, 0), (2, 1), (3, 0), (4, 0), (7, 1), (8, 0), (9, 0), (12, 1), (13, 0), (14, 0), (15, 0)] follows (by kernel_rfl) calm_body (keepS [0, 1, 2, 3, 4, 5] rfl) ?_
          refine fad rfl Tryd.underlying30 rfl ty28.sz ?_
          refine ldp 0 3 _ rfl rfl rfl rfl ty28 ?_
          refine fad rfl Tryd.underlying30 rfl ty28.sz ?_
          refine ldp 0 4 _ rfl rfl rfl rfl ty28 ?_
          refine fad rfl Tryd.underlying30 rfl ty9.sz ?_
          refine ldp 0 1 _ rfl rfl rfl rfl ty9 ?_
          refine cal (float_ct c.lat) [] [0] [_] rfl rfl rfl (by kernel_rfl) (impl_cons (impl_at 4 rfl) impl_nil) rfl ?_; rintro _ _ _ ⟨rfl, rfl, rfl⟩; refine ⟨keepI [0, 1, 2, 3, 4, 5] rfl, ?_⟩
          refine sadd (a := ([112, 108, 97, 99, 101, 32] : Str)) (b := (padN 16 (fmtN 16 c.lat.b.toNat))) rfl rfl (by have HTT := (HT.t (by omega) (by omega)).2; first | omega | ((try simp only [List.length_append]); (try simp only [List.length_cons, List.length_nil]); (try simp only [pad_length]); (try simp only [List.length_take]); (try simp only [List.length_drop]); omega)) ?_
          refine sadd (a := (([112, 108, 97, 99, 101, 32] : Str) ++ (padN 16 (fmtN 16 c.lat.b.toNat)))) (b := ([32] : Str)) rfl rfl (by have HTT := (HT.t (by omega) (by omega)).2; first | omega | ((try simp only [List.length_append]); (try simp only [List.length_cons, List.length_nil]); (try simp only [pad_length]); (try simp only [List.length_take]); (try simp only [List.length_drop]); omega)) ?_
          refine cal (float_ct c.long) [] [0] [_] rfl rfl rfl (by kernel_rfl) (impl_cons (impl_at 4 rfl) impl_nil) rfl ?_; rintro _ _ _ ⟨rfl, rfl, rfl⟩; refine ⟨keepI [0, 1, 2, 3, 4, 5] rfl, ?_⟩
          refine sadd (a := ((([112, 108, 97, 99, 101, 32] : Str) ++ (padN 16 (fmtN 16 c.lat.b.toNat))) ++ ([32] : Str))) (b := (padN 16 (fmtN 16 c.long.b.toNat))) rfl rfl (by have HTT := (HT.t (by omega) (by omega)).2; first | omega | ((try simp only [List.length_append]); (try simp only [List.length_cons, List.length_nil]); (try simp only [pad_length]); (try simp only [List.length_take]); (try simp only [List.length_drop]); omega)) ?_
          refine sadd (a := (((([112, 108, 97, 99, 101, 32] : Str) ++ (padN 16 (fmtN 16 c.lat.b.toNat))) ++ ([32] : Str)) ++ (padN 16 (fmtN 16 c.long.b.toNat)))) (b := ([32] : Str)) rfl rfl (by have HTT := (HT.t (by omega) (by omega)).2; first | omega | ((try simp only [List.length_append]); (try simp only [List.length_cons, List.length_nil]); (try simp only [pad_length]); (try simp only [List.length_take]); (try simp only [List.length_drop]); omega)) ?_
          refine cal (quoted_ct c.text (HT.t (by omega) (by omega)).1 (HT.t (by omega) (by omega)).2) [] [0] [_] rfl rfl rfl (by kernel_rfl) (impl_cons (impl_at 4 rfl) impl_nil) rfl ?_; rintro _ _ _ ⟨rfl, rfl, rfl⟩; refine ⟨keepI [0, 1, 2, 3, 4, 5] rfl, ?_⟩
          refine sadd (a := ((((([112, 108, 97, 99, 101, 32] : Str) ++ (padN 16 (fmtN 16 c.lat.b.toNat))) ++ ([32] : Str)) ++ (padN 16 (fmtN 16 c.long.b.toNat))) ++ ([32] : Str))) (b := (quoteS c.text)) rfl rfl (by have HTT := (HT.t (by omega) (by omega)).2; first | omega | ((try simp only [List.length_append]); (try simp only [List.length_cons, List.length_nil]); (try simp only [pad_length]); (try simp only [List.length_take]); (try simp only [List.length_drop]); omega)) ?_
          refine asg (.string _) rfl ?_
          refine asg (.int _ _) rfl ?_
          refine jt ?_
          refine c_ret ?_
          exact j_end (own0 := []) (ro0 := [sm.seg ms, tFirst 1, tAcc 2, tPow10 3, tDb64 8]) (.inl rfl) rfl (hr2 Tryd.results9 (rvt (v := (.string _)) rfl) (rvt (v := (.int _ _)) rfl)) [] [0] [] [_] [] _ rfl rfl (by kernel_rfl) rfl impl_nil (⟨by rw [show printV c ms = bodyV c ms from if_pos H0, bodyV, if_neg (by omega), if_neg (by omega), if_pos (by omega), h1], rfl, rfl⟩)
        · replace h7 := of_decide_eq_false h7
          refine c_seq ?_
          refine c_reg ?_
          refine cmp _ rfl rfl rfl ?_
          refine asg (.bool _) rfl ?_
          refine jt ?_
          refine c_cond rfl (fun h8 => ?_) (fun h8 => ?_)
          · replace h8 := of_decide_eq_true h8
            refine c_seq ?_
            refine c_reg ?_
            refine mv (.string _) rfl ?_
            refine sadd (a := ([114, 101, 97, 99, 116, 32] : Str)) (b := (fmtN 10 c.number.toNat)) rfl rfl (by have HTT := (HT.t (by omega) (by omega)).2; first | omega | ((try simp only [List.length_append]); (try simp only [List.length_cons, List.length_nil]); (try simp only [pad_length]); (try simp only [List.length_take]); (try simp only [List.length_drop]); omega)) ?_
            refine sadd (a := (([114, 101, 97, 99, 116, 32] : Str) ++ (fmtN 10 c.number.toNat))) (b := ([32] : Str)) rfl rfl (by have HTT := (HT.t (by omega) (by omega)).2; first | omega | ((try simp only [List.length_append]); (try simp only [List.length_cons, List.length_nil]); (try simp only [pad_length]); (try simp only [List.length_take]); (try simp only [List.length_drop]); omega)) ?_
            refine fad rfl Tryd.underlying30 rfl ty9.sz ?_
            refine ldp 0 1 _ rfl rfl rfl rfl ty9 ?_
            refine cal (quoted_ct c.text (HT.t (by omega) (by omega)).1 (HT.t (by omega) (by omega)).2) [] [0] [_] rfl rfl rfl (by kernel_rfl) (impl_cons (impl_at 4 rfl) impl_nil) rfl ?_; rintro _ _ _ ⟨rfl, rfl, rfl⟩; refine ⟨trivial, ?_⟩
            refine sadd (a := ((([114, 101, 97, 99, 116, 32] : Str) ++ (fmtN 10 c.number.toNat)) ++ ([32] : Str))) (b := (quoteS c.text)) rfl rfl (by have HTT := (HT.t (by omega) (by omega)).2; first | omega | ((try simp only [List.length_append]); (try simp only [List.length_cons, List.length_nil]); (try simp only [pad_length]); (try simp only [List.length_take]); (try simp only [List.length_drop]); omega)) ?_
            refine asg (.string _) rfl ?_
            refine asg (.int _ _) rfl ?_
            refine jt ?_
            refine c_ret ?_
            exact j_end (own0 := []) (ro0 := [sm.seg ms, tFirst 1, tAcc 2, tPow10 3, tDb64 8]) (.inl rfl) rfl (hr2 Tryd.results9 (rvt (v := (.string _)) rfl) (rvt (v := (.int _ _)) rfl)) [] [0] [] [_] [] _ rfl rfl (by kernel_rfl) rfl impl_nil (⟨by rw [show printV c ms = bodyV c ms from if_pos H0, bodyV, if_neg (by omega), if_neg (by omega), if_neg (by omega), if_pos (by omega), h1], rfl, rfl⟩)
          · replace h8 := of_decide_eq_false h8
            refine c_seq ?_
            refine c_reg ?_
            refine cmp _ rfl rfl rfl ?_
            refine asg (.bool _) rfl ?_
            refine jt ?_
            refine c_cond rfl (fun h9 => ?_) (fun h9 => ?_)
            · replace h9 := of_decide_eq_true h9
              refine c_seq ?_
              refine c_reg ?_
              refine mv (.string _) rfl ?_
              refine sadd (a := ([116, 105, 109, 101, 114, 32] : Str)) (b := (fmtN 10 c.number.toNat)) rfl rfl (by first | omega | ((try simp only [List.length_append]); (try simp only [List.length_cons, List.length_nil]); (try simp only [pad_length]); (try simp only [List.length_take]); (try simp only [List.length_drop]); omega)) ?_
              refine asg (.string _) rfl ?_
              refine asg (.int _ _) rfl ?_
              refine jt ?_
              refine c_ret ?_
              exact j_end (own0 := []) (ro0 := [sm.seg ms, tFirst 1, tAcc 2, tPow10 3, tDb64 8]) (.inl rfl) rfl (hr2 Tryd.results9 (rvt (v := (.string _)) rfl) (rvt (v := (.int _ _)) rfl)) [] [0] [] [_] [] _ rfl rfl (by kernel_rfl) rfl impl_nil (⟨by rw [show printV c ms = bodyV c ms from if_pos H0, bodyV, if_neg (by omega), if_neg (by omega), if_neg (by omega), if_neg (by omega), if_pos (by omega), h1], rfl, rfl⟩)
            · replace h9 := of_decide_eq_false h9
              refine c_skip ?_
              refine e_in ?_
              refine e_then ?_
              refine c_seq ?_
              refine c_dr [_, _, _, _, _, _] [] [(0, 0), (1, 0), (5, 0), (8, 0), (9, 0), (2, 1), (3, 0), (4, 0), (6, 0), (7, 0), (10, 1), (11, 0), (12, 0), (13, 0)] follows (by kernel_rfl) calm_body (keepS [0, 1, 2, 3, 4, 5] rfl) ?_
              refine fad rfl Tryd.underlying30 rfl ty9.sz ?_
              refine ldp 0 1 _ rfl rfl rfl rfl ty9 ?_
              refine mv (.string _) rfl ?_
              refine fad rfl Tryd.underlying30 rfl ty25.sz ?_
              refine slaA 0 32 rfl Tryd.underlying25 ty5.sz rfl rfl (by first | omega | (simp; done) | (simp; omega) | (simp at *; omega)) (by first | omega | (simp; done) | (simp; omega) | (simp at *; omega)) (by first | omega | (simp; done) | (simp; omega) | (simp at *; omega)) ?_
              refine cal (quoted_ct c.text (HT.t (by omega) (by omega)).1 (HT.t (by omega) (by omega)).2) [] [0] [_] rfl rfl rfl (by kernel_rfl) (impl_cons (impl_at 4 rfl) impl_nil) rfl ?_; rintro _ _ _ ⟨rfl, rfl, rfl⟩; refine ⟨keepI [0, 1, 2, 3, 4, 5] rfl, ?_⟩
              refine sadd (a := ([102, 105, 108, 101, 32] : Str)) (b := (quoteS c.text)) rfl rfl (by have HTT := (HT.t (by omega) (by omega)).2; first | omega | ((try simp only [List.length_append]); (try simp only [List.length_cons, List.length_nil]); (try simp only [pad_length]); (try simp only [List.length_take]); (try simp only [List.length_drop]); omega)) ?_
              refine sadd (a := (([102, 105, 108, 101, 32] : Str) ++ (quoteS c.text))) (b := ([32] : Str)) rfl rfl (by have HTT := (HT.t (by omega) (by omega)).2; first | omega | ((try simp only [List.length_append]); (try simp only [List.length_cons, List.length_nil]); (try simp only [pad_length]); (try simp only [List.length_take]); (try simp only [List.length_drop]); omega)) ?_
              refine sadd (a := ((([102, 105, 108, 101, 32] : Str) ++ (quoteS c.text)) ++ ([32] : Str))) (b := (fmtN 10 c.number.toNat)) rfl rfl (by have HTT := (HT.t (by omega) (by omega)).2; first | omega | ((try simp only [List.length_append]); (try simp only [List.length_cons, List.length_nil]); (try simp only [pad_length]); (try simp only [List.length_take]); (try simp only [List.length_drop]); omega)) ?_
              refine sadd (a := (((([102, 105, 108, 101, 32] : Str) ++ (quoteS c.text)) ++ ([32] : Str)) ++ (fmtN 10 c.number.toNat))) (b := ([32] : Str)) rfl rfl (by have HTT := (HT.t (by omega) (by omega)).2; first | omega | ((try simp only [List.length_append]); (try simp only [List.length_cons, List.length_nil]); (try simp only [pad_length]); (try simp only [List.length_take]); (try simp only [List.length_drop]); omega)) ?_
              refine cal (hex_ct (⟨false, b1, 6, 32, none⟩ : Vs) c.key.l (part_ok _ _ c.key _ (by omega)) (by rw [c.key.h]; omega) (by rw [c.key.h]; omega)) [] [0] [_] rfl (hx_cons rfl (hx_len c.key.h.symm) rfl) rfl (by kernel_rfl) (impl_cons (impl_part c.key 6 5 rfl rfl rfl) impl_nil) rfl ?_; rintro _ _ _ ⟨rfl, rfl, rfl⟩; refine ⟨keepI [0, 1, 2, 3, 4, 5] rfl, ?_⟩
              refine sadd (a := ((((([102, 105, 108, 101, 32] : Str) ++ (quoteS c.text)) ++ ([32] : Str)) ++ (fmtN 10 c.number.toNat)) ++ ([32] : Str))) (b := (hexS c.key.l)) rfl rfl (by have HTT := (HT.t (by omega) (by omega)).2; first | omega | ((try simp only [List.length_append]); (try simp only [List.length_cons, List.length_nil]); (try simp only [pad_length]); (try simp only [List.length_take]); (try simp only [List.length_drop]); omega)) ?_
              refine asg (.string _) rfl ?_
              refine asg (.int _ _) rfl ?_
              refine jt ?_
              refine c_ret ?_
              exact j_end (own0 := []) (ro0 := [sm.seg ms, tFirst 1, tAcc 2, tPow10 3, tDb64 8]) (.inl rfl) rfl (hr2 Tryd.results9 (rvt (v := (.string _)) rfl) (rvt (v := (.int _ _)) rfl)) [] [0] [] [_] [] _ rfl rfl (by kernel_rfl) rfl impl_nil (⟨by rw [show printV c ms = bodyV c ms from if_pos H0, bodyV, if_neg (by omega), if_neg (by omega), if_neg (by omega), if_neg (by omega), if_neg (by omega), h1], rfl, rfl⟩)

set_option maxRecDepth 20000 in
set_option maxHeartbeats 4000000 in
theorem RPrint_ct (c : Con) (sm : Vs) (ms : List UInt32) (hm : sm.ok ms) (hb : ms.length ≤ 4611686018427387904) : Ct Tryd.prog 10 [.agg ⟨cat [pt c.kind, pt c.text, p1 (.slice sm.adr ms.length sm.cap), pt c.lat, pt c.long, pt c.number, pt c.key]⟩] [] [sm.seg ms, tPow10 3, tDb64 8] (fun v o r => v = .tuple #[strV (printV c ms), .int .i64 (rchkV c ms)] ∧ o = [] ∧ r = []) := by
  refine ct_enter Tryd.func10 rfl Tryd.ntmps10 (by kernel_rfl) rfl fun w0 => ?_
  refine c_seq ?_
  refine c_reg ?_
  refine bxx [pt c.kind, pt c.text, p1 (.slice sm.adr ms.length sm.cap), pt c.lat, pt c.long, pt c.number, pt c.key] _ rfl rfl fun b1 => ⟨trivial, ?_⟩
  refine asg (.string _) rfl ?_
  refine asg (.int _ _) rfl ?_
  refine jt ?_
  refine c_seq ?_
  refine c_seq ?_
  refine c_reg ?_
  refine ldw 0 _ rfl rfl ty30 ?_
  refine cal (RCheck_ct c sm ms hm hb) [] [0] [_] rfl rfl rfl (by kernel_rfl) (impl_cons (impl_at 0 rfl) impl_nil) rfl ?_; rintro _ _ _ ⟨rfl, rfl, rfl⟩; refine ⟨trivial, ?_⟩
  refine asg (.int _ _) rfl ?_
  refine jt ?_
  refine c_seq ?_
  refine c_reg ?_
  refine mv (.int _ _) rfl ?_
  refine cmp _ rfl rfl rfl ?_
  refine jt ?_
  refine c_cond rfl (fun h1 => ?_) (fun h1 => ?_)
  · replace h1 := ndt h1
    refine c_seq ?_
    have HE : ¬chkV c ms = 0 := by rw [chk_same c ms]; exact h1
    refine c_reg ?_
    refine mv (.int _ _) rfl ?_
    refine asg (.string _) rfl ?_
    refine asg (.int _ _) rfl ?_
    refine jt ?_
    refine c_ret ?_
    exact j_end (own0 := []) (ro0 := [sm.seg ms, tPow10 3, tDb64 8]) (.inl rfl) rfl (hr2 Tryd.results10 (rvt (v := (.string _)) rfl) (rvt (v := (.int _ _)) rfl)) [] [0] [] [_] [] _ rfl rfl (by kernel_rfl) rfl impl_nil (⟨by rw [show printV c ms = [] from if_neg HE], rfl, rfl⟩)
  · replace h1 := ndf h1
    refine c_skip ?_
    refine e_then ?_
    refine c_seq ?_
    refine c_seq ?_
    have H0 : chkV c ms = 0 := by rw [chk_same c ms]; omega
    have HT := pr_ok H0
    have HQL := quoteS_len c.text
    have HN := (fmtN_length 10 c.number.toNat).2
    have HP1 := pad_length (k := 16) (s := fmtN 16 c.lat.b.toNat)
    have HP2 := pad_length (k := 16) (s := fmtN 16 c.long.b.toNat)
    have HP3 := fmt16_le c.lat.b
    have HP4 := fmt16_le c.long.b
    have HKL : (hexS c.key.l).length = 64 := by rw [hexS_length, c.key.h]
    refine c_reg ?_
    refine fad rfl Tryd.underlying30 rfl ty3.sz ?_
    refine ldp 0 0 _ rfl rfl rfl rfl ty3 ?_
    refine jt ?_
    refine c_block ?_
    refine c_seq ?_
    refine c_reg ?_
    refine cmp _ rfl rfl rfl ?_
    refine asg (.bool _) rfl ?_
    refine jt ?_
    refine c_cond rfl (fun h2 => ?_) (fun h2 => ?_)
    · replace h2 := of_decide_eq_true h2
      refine c_seq ?_
      refine c_reg ?_
      refine fad rfl Tryd.underlying30 rfl ty9.sz ?_
      refine ldp 0 1 _ rfl rfl rfl rfl ty9 ?_
      refine cal (Quoted_ct c.text (HT.t (by omega) (by omega)).1 (HT.t (by omega) (by omega)).2) [] [0] [_] rfl rfl rfl (by kernel_rfl) (impl_cons (impl_at 2 rfl) impl_nil) rfl ?_; rintro _ _ _ ⟨rfl, rfl, rfl⟩; refine ⟨trivial, ?_⟩
      refine sadd (a := ([116, 101, 120, 116, 32] : Str)) (b := (quoteS c.text)) rfl rfl (by have HTT := (HT.t (by omega) (by omega)).2; first | omega | ((try simp only [List.length_append]); (try simp only [List.length_cons, List.length_nil]); (try simp only [pad_length]); (try simp only [List.length_take]); (try simp only [List.length_drop]); omega)) ?_
      refine asg (.string _) rfl ?_
      refine asg (.int _ _) rfl ?_
      refine jt ?_
      refine c_ret ?_
      exact j_end (own0 := []) (ro0 := [sm.seg ms, tPow10 3, tDb64 8]) (.inl rfl) rfl (hr2 Tryd.results10 (rvt (v := (.string _)) rfl) (rvt (v := (.int _ _)) rfl)) [] [0] [] [_] [] _ rfl rfl (by kernel_rfl) rfl impl_nil (⟨by rw [show printV c ms = bodyV c ms from if_pos H0, bodyV, if_pos (by omega), h1], rfl, rfl⟩)
    · replace h2 := of_decide_eq_false h2
      refine c_seq ?_
      refine c_reg ?_
      refine cmp _ rfl rfl rfl ?_
      refine asg (.bool _) rfl ?_
      refine jt ?_
      refine c_cond rfl (fun h3 => ?_) (fun h3 => ?_)
      · replace h3 := of_decide_eq_true h3
        refine c_seq ?_
        refine c_reg ?_
        refine asg (.string _) rfl ?_
        refine jt ?_
        refine c_seq ?_
        refine c_seq ?_
        refine c_reg ?_
        refine fad rfl Tryd.underlying30 rfl ty23.sz ?_
        refine ldp 0 5 _ rfl rfl rfl rfl ty23 ?_
        refine equ64 (a := c.number) (b := (2 : UInt64)) _ rfl rfl rfl ?_
        refine jt ?_
        refine c_cond rfl (fun h4 => ?_) (fun h4 => ?_)
        · replace h4 := of_decide_eq_true h4
          refine c_reg ?_
          refine asg (.string _) rfl ?_
          refine jt ?_
          refine c_seq ?_
          refine c_seq ?_
          refine c_reg ?_
          refine asg (.int _ _) rfl ?_
          refine jt ?_
          refine c_block ?_
          refine c_loop (σ := Nat × Str) (fun (i, l) => i ≤ ms.length ∧ l = ([114, 101, 97, 100] : Str) ++ marksS (ms.take i)) (fun (i, l) => ms.length - i) (fun (i, l) => [(6, .int .i64 (i : Int)), (5, strV l)]) (fun (i, l) => [[(b1, .cells (cat [pt c.kind, pt c.text, p1 (.slice sm.adr ms.length sm.cap), pt c.lat, pt c.long, pt c.number, pt c.key]) 30)]]) (fun (i, l) => [sm.seg ms, tPow10 3, tDb64 8]) [5, 6, 25, 26, 27, 28, 29, 30, 31, 32, 33, 34, 35, 36, 37, 38, 39, 40, 41] (0, ([114, 101, 97, 100] : Str)) (⟨by omega, rfl⟩) ⟨rfl, rfl, trivial⟩ rfl rfl ?_
          rintro ⟨i, l⟩ g1 hI1
          try dsimp only at hI1 ⊢
          have HX : l.length ≤ 4 + 66 * i := by have := marksS_len (ms.take i); rw [List.length_take] at this; rw [hI1.2]; simp only [List.length_append, List.length_cons, List.length_nil]; omega
          have HM := HT.m (by omega)
          have HY := (fmtN_length 10 (UInt64.ofNat (List.getD ms i 0).toNat).toNat).2
          have HZ : (UInt64.ofNat (List.getD ms i 0).toNat).toNat = (List.getD ms i 0).toNat := by have := UInt32.toNat_lt (List.getD ms i 0); rw [UInt64.toNat_ofNat']; omega
          refine c_seq ?_
          refine c_seq ?_
          refine c_reg ?_
          refine mv (.int _ _) rfl ?_
          refine fad rfl Tryd.underlying30 rfl ty22.sz ?_
          refine ldp 0 2 _ rfl rfl rfl rfl ty22 ?_
          refine lenS rfl Tryd.underlying22 ?_
          refine cmp _ rfl rfl rfl ?_
          refine jt ?_
          refine c_cond rfl (fun h5 => ?_) (fun h5 => ?_)
          · replace h5 := of_decide_eq_true h5
            refine c_skip ?_
            refine e_then ?_
            refine c_seq ?_
            refine c_block ?_
            refine c_reg ?_
            refine mv (.string _) rfl ?_
            refine sadd (a := l) (b := ([32] : Str)) rfl rfl (by first | omega | ((try simp only [List.length_append]); (try simp only [List.length_cons, List.length_nil]); (try simp only [pad_length]); (try simp only [List.length_take]); (try simp only [List.length_drop]); omega)) ?_
            refine fad rfl Tryd.underlying30 rfl ty22.sz ?_
            refine ldp 0 2 _ rfl rfl rfl rfl ty22 ?_
            refine mv (.int _ _) rfl ?_
            refine ixs sm ms i hm rfl rfl rfl Tryd.underlying22 ty47.sz rfl (by first | omega | (simp; done) | (simp; omega) | (simp at *; omega)) ?_
            refine ldvsG 1 (List.getD ms i 0) hm rfl rfl rfl rfl (getD_some (by first | omega | (simp; done) | (simp; omega) | (simp at *; omega))) ty47 ?_
            refine cvNU64 (n := (List.getD ms i 0).toNat) rfl Tryd.underlying47 Tryd.underlying23 ?_
            refine cal (decimal_ct (UInt64.ofNat ((List.getD ms i 0).toNat))) [] [0] [_] rfl rfl rfl (by kernel_rfl) (impl_cons (impl_at 1 rfl) impl_nil) rfl ?_; rintro _ _ _ ⟨rfl, rfl, rfl⟩; refine ⟨trivial, ?_⟩
            refine sadd (a := (l ++ ([32] : Str))) (b := (fmtN 10 (UInt64.ofNat ((List.getD ms i 0).toNat)).toNat)) rfl rfl (by first | omega | ((try simp only [List.length_append]); (try simp only [List.length_cons, List.length_nil]); (try simp only [pad_length]); (try simp only [List.length_take]); (try simp only [List.length_drop]); omega)) ?_
            refine asg (.string _) rfl ?_
            refine jn ?_
            refine e_in ?_
            refine e_then ?_
            refine c_reg ?_
            refine mv (.int _ _) rfl ?_
            refine addi rfl rfl rfl (by omega) ?_
            refine asg (.int _ _) rfl ?_
            refine jn ?_
            exact e_loop (i + 1, ((l ++ ([32] : Str)) ++ (fmtN 10 (UInt64.ofNat ((List.getD ms i 0).toNat)).toNat))) (⟨by omega, by rw [marksS_on (by omega), hI1.2, HZ]; simp⟩) (by show ms.length - (i + 1) < ms.length - i; omega) (⟨rfl, rfl, trivial⟩) rfl rfl rfl
          · replace h5 := of_decide_eq_false h5
            refine c_exit rfl ?_
            refine e_then ?_
            refine c_seq ?_
            refine c_reg ?_
            refine mv (.string _) rfl ?_
            refine asg (.string _) rfl ?_
            refine asg (.int _ _) rfl ?_
            refine jt ?_
            refine c_ret ?_
            exact j_end (own0 := []) (ro0 := [sm.seg ms, tPow10 3, tDb64 8]) (.inl rfl) rfl (hr2 Tryd.results10 (rvt (v := (.string _)) rfl) (rvt (v := (.int _ _)) rfl)) [] [0] [] [_] [] _ rfl rfl (by kernel_rfl) rfl impl_nil (⟨by rw [show printV c ms = bodyV c ms from if_pos H0, bodyV, if_neg (by omega), if_pos (by omega), if_pos (by assumption), hI1.2, List.take_of_length_le (by omega), h1], rfl, rfl⟩)
        · replace h4 := of_decide_eq_false h4
          refine c_skip ?_
          refine e_then ?_
          refine c_seq ?_
          refine c_seq ?_
          refine c_reg ?_
          refine asg (.int _ _) rfl ?_
          refine jt ?_
          refine c_block ?_
          refine c_loop (σ := Nat × Str) (fun (i, l) => i ≤ ms.length ∧ l = ([99, 97, 109, 101] : Str) ++ marksS (ms.take i)) (fun (i, l) => ms.length - i) (fun (i, l) => [(6, .int .i64 (i : Int)), (5, strV l)]) (fun (i, l) => [[(b1, .cells (cat [pt c.kind, pt c.text, p1 (.slice sm.adr ms.length sm.cap), pt c.lat, pt c.long, pt c.number, pt c.key]) 30)]]) (fun (i, l) => [sm.seg ms, tPow10 3, tDb64 8]) [5, 6, 25, 26, 27, 28, 29, 30, 31, 32, 33, 34, 35, 36, 37, 38, 39, 40, 41] (0, ([99, 97, 109, 101] : Str)) (⟨by omega, rfl⟩) ⟨rfl, rfl, trivial⟩ rfl rfl ?_
          rintro ⟨i, l⟩ g1 hI1
          try dsimp only at hI1 ⊢
          have HX : l.length ≤ 4 + 66 * i := by have := marksS_len (ms.take i); rw [List.length_take] at this; rw [hI1.2]; simp only [List.length_append, List.length_cons, List.length_nil]; omega
          have HM := HT.m (by omega)
          have HY := (fmtN_length 10 (UInt64.ofNat (List.getD ms i 0).toNat).toNat).2
          have HZ : (UInt64.ofNat (List.getD ms i 0).toNat).toNat = (List.getD ms i 0).toNat := by have := UInt32.toNat_lt (List.getD ms i 0); rw [UInt64.toNat_ofNat']; omega
          refine c_seq ?_
          refine c_seq ?_
          refine c_reg ?_
          refine mv (.int _ _) rfl ?_
          refine fad rfl Tryd.underlying30 rfl ty22.sz ?_
          refine ldp 0 2 _ rfl rfl rfl rfl ty22 ?_
          refine lenS rfl Tryd.underlying22 ?_
          refine cmp _ rfl rfl rfl ?_
          refine jt ?_
          refine c_cond rfl (fun h6 => ?_) (fun h6 => ?_)
          · replace h6 := of_decide_eq_true h6
            refine c_skip ?_
            refine e_then ?_
            refine c_seq ?_
            refine c_block ?_
            refine c_reg ?_
            refine mv (.string _) rfl ?_
            refine sadd (a := l) (b := ([32] : Str)) rfl rfl (by first | omega | ((try simp only [List.length_append]); (try simp only [List.length_cons, List.length_nil]); (try simp only [pad_length]); (try simp only [List.length_take]); (try simp only [List.length_drop]); omega)) ?_
            refine fad rfl Tryd.underlying30 rfl ty22.sz ?_
            refine ldp 0 2 _ rfl rfl rfl rfl ty22 ?_
            refine mv (.int _ _) rfl ?_
            refine ixs sm ms i hm rfl rfl rfl Tryd.underlying22 ty47.sz rfl (by first | omega | (simp; done) | (simp; omega) | (simp at *; omega)) ?_
            refine ldvsG 1 (List.getD ms i 0) hm rfl rfl rfl rfl (getD_some (by first | omega | (simp; done) | (simp; omega) | (simp at *; omega))) ty47 ?_
            refine cvNU64 (n := (List.getD ms i 0).toNat) rfl Tryd.underlying47 Tryd.underlying23 ?_
            refine cal (decimal_ct (UInt64.ofNat ((List.getD ms i 0).toNat))) [] [0] [_] rfl rfl rfl (by kernel_rfl) (impl_cons (impl_at 1 rfl) impl_nil) rfl ?_; rintro _ _ _ ⟨rfl, rfl, rfl⟩; refine ⟨trivial, ?_⟩
            refine sadd (a := (l ++ ([32] : Str))) (b := (fmtN 10 (UInt64.ofNat ((List.getD ms i 0).toNat)).toNat)) rfl rfl (by first | omega | ((try simp only [List.length_append]); (try simp only [List.length_cons, List.length_nil]); (try simp only [pad_length]); (try simp only [List.length_take]); (try simp only [List.length_drop]); omega)) ?_
            refine asg (.string _) rfl ?_
            refine jn ?_
            refine e_in ?_
            refine e_then ?_
            refine c_reg ?_
            refine mv (.int _ _) rfl ?_
            refine addi rfl rfl rfl (by omega) ?_
            refine asg (.int _ _) rfl ?_
            refine jn ?_
            exact e_loop (i + 1, ((l ++ ([32] : Str)) ++ (fmtN 10 (UInt64.ofNat ((List.getD ms i 0).toNat)).toNat))) (⟨by omega, by rw [marksS_on (by omega), hI1.2, HZ]; simp⟩) (by show ms.length - (i + 1) < ms.length - i; omega) (⟨rfl, rfl, trivial⟩) rfl rfl rfl
          · replace h6 := of_decide_eq_false h6
            refine c_exit rfl ?_
            refine e_then ?_
            refine c_seq ?_
            refine c_reg ?_
            refine mv (.string _) rfl ?_
            refine asg (.string _) rfl ?_
            refine asg (.int _ _) rfl ?_
            refine jt ?_
            refine c_ret ?_
            exact j_end (own0 := []) (ro0 := [sm.seg ms, tPow10 3, tDb64 8]) (.inl rfl) rfl (hr2 Tryd.results10 (rvt (v := (.string _)) rfl) (rvt (v := (.int _ _)) rfl)) [] [0] [] [_] [] _ rfl rfl (by kernel_rfl) rfl impl_nil (⟨by rw [show printV c ms = bodyV c ms from if_pos H0, bodyV, if_neg (by omega), if_pos (by omega), if_neg (by assumption), hI1.2, List.take_of_length_le (by omega), h1], rfl, rfl⟩)
      · replace h3 := of_decide_eq_false h3
        refine c_seq ?_
        refine c_reg ?_
        refine cmp _ rfl rfl rfl ?_
        refine asg (.bool _) rfl ?_
        refine jt ?_
        refine c_cond rfl (fun h7 => ?_) (fun h7 => ?_)
        · replace h7 := of_decide_eq_true h7
          refine c_seq ?_
          refine c_dr [_, _, _, _] [] [(0, 0), (1, 0), (6, 0), (7, 0), (12, 0), (13, 0), (2, 1), (3, 1), (4, 0), (5, 0), (8, 1), (9, 1), (10, 0), (11, 0), (14, 1), (15, 0), (16, 0), (17, 0)] follows (by kernel_rfl) calm_body (keepS [0, 1, 2, 3] rfl) ?_
          refine fad rfl Tryd.underlying30 rfl ty28.sz ?_
          refine ldp 0 3 _ rfl rfl rfl rfl ty28 ?_
          refine fad rfl Tryd.underlying30 rfl ty28.sz ?_
          refine ldp 0 4 _ rfl rfl rfl rfl ty28 ?_
          refine fad rfl Tryd.underlying30 rfl ty9.sz ?_
          refine ldp 0 1 _ rfl rfl rfl rfl ty9 ?_
          refine xcal (args := [.float .f64 c.lat.b.toNat]) (.int .u64 (c.lat.b.toNat : Int)) Tryd.func27 (by kernel_rfl) (by kernel_rfl) (by kernel_rfl) (fun w => rfl) (by kernel_rfl) rfl ?_
          refine cal (rhex_ct c.lat.b 16 (by omega)) [] [0] [_] rfl rfl rfl (by kernel_rfl) (impl_cons (impl_at 2 rfl) impl_nil) rfl ?_; rintro _ _ _ ⟨rfl, rfl, rfl⟩; refine ⟨keepI [0, 1, 2, 3] rfl, ?_⟩
          refine sadd (a := ([112, 108, 97, 99, 101, 32] : Str)) (b := (padN 16 (fmtN 16 c.lat.b.toNat))) rfl rfl (by have HTT := (HT.t (by omega) (by omega)).2; first | omega | ((try simp only [List.length_append]); (try simp only [List.length_cons, List.length_nil]); (try simp only [pad_length]); (try simp only [List.length_take]); (try simp only [List.length_drop]); omega)) ?_
          refine sadd (a := (([112, 108, 97, 99, 101, 32] : Str) ++ (padN 16 (fmtN 16 c.lat.b.toNat)))) (b := ([32] : Str)) rfl rfl (by have HTT := (HT.t (by omega) (by omega)).2; first | omega | ((try simp only [List.length_append]); (try simp only [List.length_cons, List.length_nil]); (try simp only [pad_length]); (try simp only [List.length_take]); (try simp only [List.length_drop]); omega)) ?_
          refine xcal (args := [.float .f64 c.long.b.toNat]) (.int .u64 (c.long.b.toNat : Int)) Tryd.func27 (by kernel_rfl) (by kernel_rfl) (by kernel_rfl) (fun w => rfl) (by kernel_rfl) rfl ?_
          refine cal (rhex_ct c.long.b 16 (by omega)) [] [0] [_] rfl rfl rfl (by kernel_rfl) (impl_cons (impl_at 2 rfl) impl_nil) rfl ?_; rintro _ _ _ ⟨rfl, rfl, rfl⟩; refine ⟨keepI [0, 1, 2, 3] rfl, ?_⟩
          refine sadd (a := ((([112, 108, 97, 99, 101, 32] : Str) ++ (padN 16 (fmtN 16 c.lat.b.toNat))) ++ ([32] : Str))) (b := (padN 16 (fmtN 16 c.long.b.toNat))) rfl rfl (by have HTT := (HT.t (by omega) (by omega)).2; first | omega | ((try simp only [List.length_append]); (try simp only [List.length_cons, List.length_nil]); (try simp only [pad_length]); (try simp only [List.length_take]); (try simp only [List.length_drop]); omega)) ?_
          refine sadd (a := (((([112, 108, 97, 99, 101, 32] : Str) ++ (padN 16 (fmtN 16 c.lat.b.toNat))) ++ ([32] : Str)) ++ (padN 16 (fmtN 16 c.long.b.toNat)))) (b := ([32] : Str)) rfl rfl (by have HTT := (HT.t (by omega) (by omega)).2; first | omega | ((try simp only [List.length_append]); (try simp only [List.length_cons, List.length_nil]); (try simp only [pad_length]); (try simp only [List.length_take]); (try simp only [List.length_drop]); omega)) ?_
          refine cal (Quoted_ct c.text (HT.t (by omega) (by omega)).1 (HT.t (by omega) (by omega)).2) [] [0] [_] rfl rfl rfl (by kernel_rfl) (impl_cons (impl_at 2 rfl) impl_nil) rfl ?_; rintro _ _ _ ⟨rfl, rfl, rfl⟩; refine ⟨keepI [0, 1, 2, 3] rfl, ?_⟩
          refine sadd (a := ((((([112, 108, 97, 99, 101, 32] : Str) ++ (padN 16 (fmtN 16 c.lat.b.toNat))) ++ ([32] : Str)) ++ (padN 16 (fmtN 16 c.long.b.toNat))) ++ ([32] : Str))) (b := (quoteS c.text)) rfl rfl (by have HTT := (HT.t (by omega) (by omega)).2; first | omega | ((try simp only [List.length_append]); (try simp only [List.length_cons, List.length_nil]); (try simp only [pad_length]); (try simp only [List.length_take]); (try simp only [List.length_drop]); omega)) ?_
          refine asg (.string _) rfl ?_
          refine asg (.int _ _) rfl ?_
          refine jt ?_
          refine c_ret ?_
          exact j_end (own0 := []) (ro0 := [sm.seg ms, tPow10 3, tDb64 8]) (.inl rfl) rfl (hr2 Tryd.results10 (rvt (v := (.string _)) rfl) (rvt (v := (.int _ _)) rfl)) [] [0] [] [_] [] _ rfl rfl (by kernel_rfl) rfl impl_nil (⟨by rw [show printV c ms = bodyV c ms from if_pos H0, bodyV, if_neg (by omega), if_neg (by omega), if_pos (by omega), h1], rfl, rfl⟩)
        · replace h7 := of_decide_eq_false h7
          refine c_seq ?_
          refine c_reg ?_
          refine cmp _ rfl rfl rfl ?_
          refine asg (.bool _) rfl ?_
          refine jt ?_
          refine c_cond rfl (fun h8 => ?_) (fun h8 => ?_)
          · replace h8 := of_decide_eq_true h8
            refine c_seq ?_
            refine c_dr [_, _, _, _] [] [(0, 0), (1, 0), (5, 0), (6, 0), (2, 1), (3, 0), (4, 0), (7, 1), (8, 0), (9, 0), (10, 0)] follows (by kernel_rfl) calm_body (keepS [0, 1, 2, 3] rfl) ?_
            refine fad rfl Tryd.underlying30 rfl ty23.sz ?_
            refine ldp 0 5 _ rfl rfl rfl rfl ty23 ?_
            refine fad rfl Tryd.underlying30 rfl ty9.sz ?_
            refine ldp 0 1 _ rfl rfl rfl rfl ty9 ?_
            refine cal (decimal_ct c.number) [] [0] [_] rfl rfl rfl (by kernel_rfl) (impl_cons (impl_at 1 rfl) impl_nil) rfl ?_; rintro _ _ _ ⟨rfl, rfl, rfl⟩; refine ⟨keepI [0, 1, 2, 3] rfl, ?_⟩
            refine sadd (a := ([114, 101, 97, 99, 116, 32] : Str)) (b := (fmtN 10 c.number.toNat)) rfl rfl (by have HTT := (HT.t (by omega) (by omega)).2; first | omega | ((try simp only [List.length_append]); (try simp only [List.length_cons, List.length_nil]); (try simp only [pad_length]); (try simp only [List.length_take]); (try simp only [List.length_drop]); omega)) ?_
            refine sadd (a := (([114, 101, 97, 99, 116, 32] : Str) ++ (fmtN 10 c.number.toNat))) (b := ([32] : Str)) rfl rfl (by have HTT := (HT.t (by omega) (by omega)).2; first | omega | ((try simp only [List.length_append]); (try simp only [List.length_cons, List.length_nil]); (try simp only [pad_length]); (try simp only [List.length_take]); (try simp only [List.length_drop]); omega)) ?_
            refine cal (Quoted_ct c.text (HT.t (by omega) (by omega)).1 (HT.t (by omega) (by omega)).2) [] [0] [_] rfl rfl rfl (by kernel_rfl) (impl_cons (impl_at 2 rfl) impl_nil) rfl ?_; rintro _ _ _ ⟨rfl, rfl, rfl⟩; refine ⟨keepI [0, 1, 2, 3] rfl, ?_⟩
            refine sadd (a := ((([114, 101, 97, 99, 116, 32] : Str) ++ (fmtN 10 c.number.toNat)) ++ ([32] : Str))) (b := (quoteS c.text)) rfl rfl (by have HTT := (HT.t (by omega) (by omega)).2; first | omega | ((try simp only [List.length_append]); (try simp only [List.length_cons, List.length_nil]); (try simp only [pad_length]); (try simp only [List.length_take]); (try simp only [List.length_drop]); omega)) ?_
            refine asg (.string _) rfl ?_
            refine asg (.int _ _) rfl ?_
            refine jt ?_
            refine c_ret ?_
            exact j_end (own0 := []) (ro0 := [sm.seg ms, tPow10 3, tDb64 8]) (.inl rfl) rfl (hr2 Tryd.results10 (rvt (v := (.string _)) rfl) (rvt (v := (.int _ _)) rfl)) [] [0] [] [_] [] _ rfl rfl (by kernel_rfl) rfl impl_nil (⟨by rw [show printV c ms = bodyV c ms from if_pos H0, bodyV, if_neg (by omega), if_neg (by omega), if_neg (by omega), if_pos (by omega), h1], rfl, rfl⟩)
          · replace h8 := of_decide_eq_false h8
            refine c_seq ?_
            refine c_reg ?_
            refine cmp _ rfl rfl rfl ?_
            refine asg (.bool _) rfl ?_
            refine jt ?_
            refine c_cond rfl (fun h9 => ?_) (fun h9 => ?_)
            · replace h9 := of_decide_eq_true h9
              refine c_seq ?_
              refine c_reg ?_
              refine fad rfl Tryd.underlying30 rfl ty23.sz ?_
              refine ldp 0 5 _ rfl rfl rfl rfl ty23 ?_
              refine cal (decimal_ct c.number) [] [0] [_] rfl rfl rfl (by kernel_rfl) (impl_cons (impl_at 1 rfl) impl_nil) rfl ?_; rintro _ _ _ ⟨rfl, rfl, rfl⟩; refine ⟨trivial, ?_⟩
              refine sadd (a := ([116, 105, 109, 101, 114, 32] : Str)) (b := (fmtN 10 c.number.toNat)) rfl rfl (by first | omega | ((try simp only [List.length_append]); (try simp only [List.length_cons, List.length_nil]); (try simp only [pad_length]); (try simp only [List.length_take]); (try simp only [List.length_drop]); omega)) ?_
              refine asg (.string _) rfl ?_
              refine asg (.int _ _) rfl ?_
              refine jt ?_
              refine c_ret ?_
              exact j_end (own0 := []) (ro0 := [sm.seg ms, tPow10 3, tDb64 8]) (.inl rfl) rfl (hr2 Tryd.results10 (rvt (v := (.string _)) rfl) (rvt (v := (.int _ _)) rfl)) [] [0] [] [_] [] _ rfl rfl (by kernel_rfl) rfl impl_nil (⟨by rw [show printV c ms = bodyV c ms from if_pos H0, bodyV, if_neg (by omega), if_neg (by omega), if_neg (by omega), if_neg (by omega), if_pos (by omega), h1], rfl, rfl⟩)
            · replace h9 := of_decide_eq_false h9
              refine c_skip ?_
              refine e_in ?_
              refine e_then ?_
              refine c_seq ?_
              refine c_dr [_, _, _, _] [] [(0, 0), (1, 0), (5, 0), (6, 0), (10, 0), (11, 0), (2, 1), (3, 0), (4, 0), (7, 1), (8, 0), (9, 0), (12, 1), (13, 0), (14, 0), (15, 0)] follows (by kernel_rfl) calm_body (keepS [0, 1, 2, 3] rfl) ?_
              refine fad rfl Tryd.underlying30 rfl ty9.sz ?_
              refine ldp 0 1 _ rfl rfl rfl rfl ty9 ?_
              refine fad rfl Tryd.underlying30 rfl ty23.sz ?_
              refine ldp 0 5 _ rfl rfl rfl rfl ty23 ?_
              refine fad rfl Tryd.underlying30 rfl ty25.sz ?_
              refine ldp 0 6 _ rfl rfl rfl rfl ty25 ?_
              refine cal (Quoted_ct c.text (HT.t (by omega) (by omega)).1 (HT.t (by omega) (by omega)).2) [] [0] [_] rfl rfl rfl (by kernel_rfl) (impl_cons (impl_at 2 rfl) impl_nil) rfl ?_; rintro _ _ _ ⟨rfl, rfl, rfl⟩; refine ⟨keepI [0, 1, 2, 3] rfl, ?_⟩
              refine sadd (a := ([102, 105, 108, 101, 32] : Str)) (b := (quoteS c.text)) rfl rfl (by have HTT := (HT.t (by omega) (by omega)).2; first | omega | ((try simp only [List.length_append]); (try simp only [List.length_cons, List.length_nil]); (try simp only [pad_length]); (try simp only [List.length_take]); (try simp only [List.length_drop]); omega)) ?_
              refine sadd (a := (([102, 105, 108, 101, 32] : Str) ++ (quoteS c.text))) (b := ([32] : Str)) rfl rfl (by have HTT := (HT.t (by omega) (by omega)).2; first | omega | ((try simp only [List.length_append]); (try simp only [List.length_cons, List.length_nil]); (try simp only [pad_length]); (try simp only [List.length_take]); (try simp only [List.length_drop]); omega)) ?_
              refine cal (decimal_ct c.number) [] [0] [_] rfl rfl rfl (by kernel_rfl) (impl_cons (impl_at 1 rfl) impl_nil) rfl ?_; rintro _ _ _ ⟨rfl, rfl, rfl⟩; refine ⟨keepI [0, 1, 2, 3] rfl, ?_⟩
              refine sadd (a := ((([102, 105, 108, 101, 32] : Str) ++ (quoteS c.text)) ++ ([32] : Str))) (b := (fmtN 10 c.number.toNat)) rfl rfl (by have HTT := (HT.t (by omega) (by omega)).2; first | omega | ((try simp only [List.length_append]); (try simp only [List.length_cons, List.length_nil]); (try simp only [pad_length]); (try simp only [List.length_take]); (try simp only [List.length_drop]); omega)) ?_
              refine sadd (a := (((([102, 105, 108, 101, 32] : Str) ++ (quoteS c.text)) ++ ([32] : Str)) ++ (fmtN 10 c.number.toNat))) (b := ([32] : Str)) rfl rfl (by have HTT := (HT.t (by omega) (by omega)).2; first | omega | ((try simp only [List.length_append]); (try simp only [List.length_cons, List.length_nil]); (try simp only [pad_length]); (try simp only [List.length_take]); (try simp only [List.length_drop]); omega)) ?_
              refine cal (keyText_ct c.key) [] [0] [_] rfl rfl rfl (by kernel_rfl) (impl_cons (impl_at 2 rfl) impl_nil) rfl ?_; rintro _ _ _ ⟨rfl, rfl, rfl⟩; refine ⟨keepI [0, 1, 2, 3] rfl, ?_⟩
              refine sadd (a := ((((([102, 105, 108, 101, 32] : Str) ++ (quoteS c.text)) ++ ([32] : Str)) ++ (fmtN 10 c.number.toNat)) ++ ([32] : Str))) (b := (hexS c.key.l)) rfl rfl (by have HTT := (HT.t (by omega) (by omega)).2; first | omega | ((try simp only [List.length_append]); (try simp only [List.length_cons, List.length_nil]); (try simp only [pad_length]); (try simp only [List.length_take]); (try simp only [List.length_drop]); omega)) ?_
              refine asg (.string _) rfl ?_
              refine asg (.int _ _) rfl ?_
              refine jt ?_
              refine c_ret ?_
              exact j_end (own0 := []) (ro0 := [sm.seg ms, tPow10 3, tDb64 8]) (.inl rfl) rfl (hr2 Tryd.results10 (rvt (v := (.string _)) rfl) (rvt (v := (.int _ _)) rfl)) [] [0] [] [_] [] _ rfl rfl (by kernel_rfl) rfl impl_nil (⟨by rw [show printV c ms = bodyV c ms from if_pos H0, bodyV, if_neg (by omega), if_neg (by omega), if_neg (by omega), if_neg (by omega), if_neg (by omega), h1], rfl, rfl⟩)
end Go.Proofs.YthpbiamicidakaaDoor
