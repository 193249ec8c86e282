/- Contracts of the program's functions, walked. No condition. -/
import Derived.Test.YtacfjmjcgolhfaaA25
namespace Go.Proofs.Ytacfjmjcgolhfaa
open Go Go.Proofs Go.PW
open Go.PW.Enc (enc val)
theorem ty4 : Ty Try.prog 4 1 false := ⟨by kernel_rfl, by kernel_rfl⟩
theorem ty42 : Ty Try.prog 42 2 true := ⟨by kernel_rfl, by kernel_rfl⟩
theorem New_bad (most : Int) (h : ¬ (0 ≤ most ∧ most ≤ 2000)) : Ct Try.prog 18 [.int .i64 most] [] [] (fun v w r => v = .tuple #[.pointer none, .int .i64 1] ∧ w = [] ∧ r = []) :=
  (New_ct most).mono fun v w r h2 => h2.elim (fun h3 => absurd h3.1 h) (fun h3 => h3.2)
theorem RNew_ok (most : Int) (h : 0 ≤ most ∧ most ≤ 2000) : Ct Try.prog 25 [.int .i64 most] [] [] (fun v w r => ∃ (br : Nat), v = .tuple #[.pointer (some ⟨br, 0, none⟩), .int .i64 0] ∧ w = [[(br, .cells (cat [p1 (.int .i64 most), p1 (.slice Ow.nil.adr ([] : List Spare).length Ow.nil.cap)]) 87)], Ow.nil.seg ([] : List Spare) 33] ∧ r = []) :=
  (RNew_ct most).mono fun v w r h2 => h2.elim (fun h3 => h3.2) (fun h3 => absurd h h3.1)
theorem RNew_bad (most : Int) (h : ¬ (0 ≤ most ∧ most ≤ 2000)) : Ct Try.prog 25 [.int .i64 most] [] [] (fun v w r => v = .tuple #[.pointer none, .int .i64 1] ∧ w = [] ∧ r = []) :=
  (RNew_ct most).mono fun v w r h2 => h2.elim (fun h3 => absurd h3.1 h) (fun h3 => h3.2)

set_option maxRecDepth 20000 in
set_option maxHeartbeats 4000000 in
theorem Exact_ct (most : Int) (t : Vs) (sc : List OpR) (ht : t.ok sc) (hops : ∀ o ∈ sc, o.s.ok o.l ∧ o.l.length ≤ 2069668946341) (hsc : sc.length ≤ 1599289640354) : Ct Try.prog 8 [.int .i64 most, t.v sc.length] [] [t.seg sc, opsSeg sc] (fun v w r => v = .bool true ∧ w = [] ∧ r = []) := by
  refine ct_enter Try.func8 rfl Try.ntmps8 (by kernel_rfl) rfl fun w0 => ?_
  refine c_seq ?_
  refine c_reg ?_
  refine asg (.bool _) rfl ?_
  refine jt ?_
  refine c_seq ?_
  refine c_reg ?_
  refine mv (.int _ _) rfl ?_
  refine cal (New_ct most) [] [] [] rfl rfl rfl (by kernel_rfl) impl_nil rfl ?_; rintro _ _ _ (⟨hN21, bs21, m21, rfl, rfl, rfl⟩ | ⟨hN21, rfl, rfl, rfl⟩)
  · refine ⟨trivial, ?_⟩
    refine mv (.tuple _) rfl ?_
    refine xtr (.pointer _) rfl rfl ?_
    refine xtr (.int _ _) rfl rfl ?_
    refine asg (.pointer _) rfl ?_
    refine asg (.int _ _) rfl ?_
    refine jt ?_
    refine c_seq ?_
    refine c_reg ?_
    refine mv (.int _ _) rfl ?_
    refine cal (New_ok most hN21) [] [0, 1, 2] [_, _, _] rfl rfl rfl (by kernel_rfl) impl_nil rfl ?_; rintro _ _ _ ⟨bs26, m26, rfl, rfl, rfl⟩; refine ⟨trivial, ?_⟩
    refine mv (.tuple _) rfl ?_
    refine xtr (.pointer _) rfl rfl ?_
    refine xtr (.int _ _) rfl rfl ?_
    refine asg (.pointer _) rfl ?_
    refine asg (.int _ _) rfl ?_
    refine jt ?_
    refine c_seq ?_
    refine c_reg ?_
    refine mv (.int _ _) rfl ?_
    refine cal (RNew_ok most hN21) [] [0, 1, 2, 3, 4, 5] [_, _, _, _, _, _] rfl rfl rfl (by kernel_rfl) impl_nil rfl ?_; rintro _ _ _ ⟨br31, rfl, rfl, rfl⟩; refine ⟨trivial, ?_⟩
    refine mv (.tuple _) rfl ?_
    refine xtr (.pointer _) rfl rfl ?_
    refine xtr (.int _ _) rfl rfl ?_
    refine asg (.pointer _) rfl ?_
    refine asg (.int _ _) rfl ?_
    refine jt ?_
    refine c_seq ?_
    refine c_reg ?_
    refine mv (.int _ _) rfl ?_
    refine cal (RNew_ok most hN21) [] [0, 1, 2, 3, 4, 5, 6, 7] [_, _, _, _, _, _, _, _] rfl rfl rfl (by kernel_rfl) impl_nil rfl ?_; rintro _ _ _ ⟨br36, rfl, rfl, rfl⟩; refine ⟨trivial, ?_⟩
    refine mv (.tuple _) rfl ?_
    refine xtr (.pointer _) rfl rfl ?_
    refine xtr (.int _ _) rfl rfl ?_
    refine asg (.pointer _) rfl ?_
    refine asg (.int _ _) rfl ?_
    refine jt ?_
    refine c_seq ?_
    refine c_seq ?_
    refine c_reg ?_
    refine mv (.int _ _) rfl ?_
    refine mv (.int _ _) rfl ?_
    refine cmp false rfl rfl rfl ?_
    refine mv (.bool _) rfl ?_
    refine g_on rfl rfl rfl ?_
    refine mv (.pointer _) rfl ?_
    refine g_on rfl rfl rfl ?_
    refine eqpn false rfl rfl Try.underlying24 rfl ?_
    refine g_on rfl rfl rfl ?_
    refine mv (.pointer _) rfl ?_
    refine g_on rfl rfl rfl ?_
    refine eqpn false rfl rfl Try.underlying38 rfl ?_
    refine g_on rfl rfl rfl ?_
    refine eqbo false rfl rfl Try.underlying4 (by simp) ?_
    refine pkf (.bool _) rfl rfl ?_
    refine mv (.bool _) rfl ?_
    refine g_on rfl rfl rfl ?_
    refine mv (.pointer _) rfl ?_
    refine g_on rfl rfl rfl ?_
    refine eqpn false rfl rfl Try.underlying24 rfl ?_
    refine g_on rfl rfl rfl ?_
    refine mv (.pointer _) rfl ?_
    refine g_on rfl rfl rfl ?_
    refine eqpn false rfl rfl Try.underlying38 rfl ?_
    refine g_on rfl rfl rfl ?_
    refine eqbo false rfl rfl Try.underlying4 (by simp) ?_
    refine pkf (.bool _) rfl rfl ?_
    refine jt ?_
    refine c_false rfl ?_
    refine c_skip ?_
    refine e_then ?_
    refine c_seq ?_
    refine c_seq ?_
    refine c_reg ?_
    refine mv (.pointer _) rfl ?_
    refine eqpn false rfl rfl Try.underlying24 rfl ?_
    refine mv (.bool _) rfl ?_
    refine g_on rfl rfl rfl ?_
    refine mv (.pointer _) rfl ?_
    refine g_on rfl rfl rfl ?_
    refine eqpn false rfl rfl Try.underlying24 rfl ?_
    refine pkf (.bool _) rfl rfl ?_
    refine jt ?_
    refine c_false rfl ?_
    refine c_skip ?_
    refine e_then ?_
    refine c_seq ?_
    refine c_reg ?_
    refine mv (.pointer _) rfl ?_
    refine mv (.pointer _) rfl ?_
    refine bld [p1 (.pointer none), p1 (.pointer none)] [(0, p1 (.pointer (some ⟨bs21, 0, none⟩))), (1, p1 (.pointer (some ⟨br31, 0, none⟩)))] _ Try.underlying42 (lay42 _ Try.underlying42) z42 rfl rfl rfl ?_
    refine bxx [p1 (.pointer (some ⟨bs21, 0, none⟩)), p1 (.pointer (some ⟨br31, 0, none⟩))] _ rfl rfl fun b71 => ⟨trivial, ?_⟩
    refine asg (.pointer _) rfl ?_
    refine jt ?_
    refine c_seq ?_
    refine c_reg ?_
    refine mv (.pointer _) rfl ?_
    refine mv (.pointer _) rfl ?_
    refine bld [p1 (.pointer none), p1 (.pointer none)] [(0, p1 (.pointer (some ⟨bs26, 0, none⟩))), (1, p1 (.pointer (some ⟨br36, 0, none⟩)))] _ Try.underlying42 (lay42 _ Try.underlying42) z42 rfl rfl rfl ?_
    refine bxx [p1 (.pointer (some ⟨bs26, 0, none⟩)), p1 (.pointer (some ⟨br36, 0, none⟩))] _ rfl rfl fun b75 => ⟨trivial, ?_⟩
    refine asg (.pointer _) rfl ?_
    refine jt ?_
    refine c_seq ?_
    refine c_reg ?_
    refine bld [p1 (.slice none 0 0), p1 (.slice none 0 0), p1 (.slice none 0 0), p1 (.slice none 0 0)] [] _ Try.underlying48 (lay48 _ Try.underlying48) z48 rfl rfl rfl ?_
    refine bxx [p1 (.slice none 0 0), p1 (.slice none 0 0), p1 (.slice none 0 0), p1 (.slice none 0 0)] _ rfl rfl fun b77 => ⟨trivial, ?_⟩; refine j_addE ?_; refine j_addE ?_; refine j_addE ?_; refine j_addE ?_
    refine asg (.pointer _) rfl ?_
    refine jt ?_
    refine c_seq ?_
    refine c_seq ?_
    refine c_addE ?_
    refine c_addE ?_
    refine c_addE ?_
    refine c_addE ?_
    refine c_reg ?_
    refine asg (.int _ _) rfl ?_
    refine jt ?_
    refine c_block ?_
    refine c_loop (σ := Nat × PS × PS × SS) (fun ⟨i, ⟨bs1, m1, o1, most1, l1, br1, r1⟩, ⟨bs2, m2, o2, most2, l2, br2, r2⟩, ⟨oL, oW, oK, oY, hL, hW, hK, hY, HL, HK⟩⟩ => i ≤ sc.length ∧ PS.ok ⟨bs1, m1, o1, most1, l1, br1, r1⟩ ∧ PS.ok ⟨bs2, m2, o2, most2, l2, br2, r2⟩ ∧ SS.ok ⟨oL, oW, oK, oY, hL, hW, hK, hY, HL, HK⟩ ∧ HL.length ≤ i ∧ HK.length ≤ i) (fun ⟨i, ⟨bs1, m1, o1, most1, l1, br1, r1⟩, ⟨bs2, m2, o2, most2, l2, br2, r2⟩, ⟨oL, oW, oK, oY, hL, hW, hK, hY, HL, HK⟩⟩ => sc.length - i) (fun ⟨i, ⟨bs1, m1, o1, most1, l1, br1, r1⟩, ⟨bs2, m2, o2, most2, l2, br2, r2⟩, ⟨oL, oW, oK, oY, hL, hW, hK, hY, HL, HK⟩⟩ => [(16, .int .i64 (i : Int))]) (fun ⟨i, ⟨bs1, m1, o1, most1, l1, br1, r1⟩, ⟨bs2, m2, o2, most2, l2, br2, r2⟩, ⟨oL, oW, oK, oY, hL, hW, hK, hY, HL, HK⟩⟩ => [[(bs1, .cells (cat [p1 (.int .i64 most1), p1 (.map (some m1)), p1 (.slice o1.adr (List.map plc l1).length o1.cap)]) 76)], [(m1, .pred (isMap (List.map skv l1)))], o1.seg (List.map plc l1) 72, [(bs2, .cells (cat [p1 (.int .i64 most2), p1 (.map (some m2)), p1 (.slice o2.adr (List.map plc l2).length o2.cap)]) 76)], [(m2, .pred (isMap (List.map skv l2)))], o2.seg (List.map plc l2) 72, [(br1, .cells (cat [p1 (.int .i64 most1), p1 (.slice r1.adr l1.length r1.cap)]) 87)], r1.seg l1 33, [(br2, .cells (cat [p1 (.int .i64 most2), p1 (.slice r2.adr l2.length r2.cap)]) 87)], r2.seg l2 33, [(b71, .cells (cat [p1 (.pointer (some ⟨bs1, 0, none⟩)), p1 (.pointer (some ⟨br1, 0, none⟩))]) 42)], [(b75, .cells (cat [p1 (.pointer (some ⟨bs2, 0, none⟩)), p1 (.pointer (some ⟨br2, 0, none⟩))]) 42)], [(b77, .cells (cat [p1 (.slice oL.adr hL.length oL.cap), p1 (.slice oW.adr hW.length oW.cap), p1 (.slice oK.adr hK.length oK.cap), p1 (.slice oY.adr hY.length oY.cap)]) 48)], oL.seg hL 22, oW.seg hW 22, oK.seg hK 77, oY.seg hY 77, segA 33 HL, segB 33 HL, segA 30 HK, segB 30 HK]) (fun ⟨i, ⟨bs1, m1, o1, most1, l1, br1, r1⟩, ⟨bs2, m2, o2, most2, l2, br2, r2⟩, ⟨oL, oW, oK, oY, hL, hW, hK, hY, HL, HK⟩⟩ => [t.seg sc, opsSeg sc]) [4, 16, 17, 18, 78, 79, 80, 81, 82, 83, 84, 85, 86, 87, 88, 89, 90, 91, 92, 93, 94, 95, 96, 97, 98, 99, 100, 101] (⟨0, (⟨bs21, m21, Ow.nil, most, ([] : List Spare), br31, Ow.nil⟩ : PS), (⟨bs26, m26, Ow.nil, most, ([] : List Spare), br36, Ow.nil⟩ : PS), (⟨Ow.nil, Ow.nil, Ow.nil, Ow.nil, ([] : List SlH), ([] : List SlH), ([] : List SlH), ([] : List SlH), ([] : List (Hd Spare)), ([] : List (Hd Key))⟩ : SS)⟩ : Nat × PS × PS × SS) (⟨by omega, ⟨Ow.nil_ok, Ow.nil_ok, hN21, by simp, by simp; omega⟩, ⟨Ow.nil_ok, Ow.nil_ok, hN21, by simp, by simp; omega⟩, ⟨Ow.nil_ok, Ow.nil_ok, Ow.nil_ok, Ow.nil_ok, rfl, rfl, rfl, rfl, by simp, by simp⟩, by simp, by simp⟩) ⟨rfl, trivial⟩ rfl rfl ?_
    rintro ⟨i, ⟨bs1, m1, o1, most1, l1, br1, r1⟩, ⟨bs2, m2, o2, most2, l2, br2, r2⟩, ⟨oL, oW, oK, oY, hL, hW, hK, hY, HL, HK⟩⟩ g1 hI1
    try dsimp only at hI1 ⊢
    have hnL : HL.length ≤ 2000000000000 := by omega
    have hnK : HK.length ≤ 2000000000000 := by omega
    refine c_seq ?_
    refine c_seq ?_
    refine c_reg ?_
    refine mv (.int _ _) rfl ?_
    refine mv (.slice _ _ _) rfl ?_
    refine lenS rfl Try.underlying54 ?_
    refine cmp _ rfl rfl rfl ?_
    refine jt ?_
    refine c_cond rfl (fun h1 => ?_) (fun h1 => ?_)
    · replace h1 := of_decide_eq_true h1
      refine c_skip ?_
      refine e_then ?_
      refine c_seq ?_
      refine c_block ?_
      refine c_seq ?_
      refine c_reg ?_
      refine mv (.pointer _) rfl ?_
      refine mv (.pointer _) rfl ?_
      refine asg (.pointer _) rfl ?_
      refine asg (.pointer _) rfl ?_
      refine jt ?_
      refine c_seq ?_
      refine c_seq ?_
      refine c_reg ?_
      refine mv (.slice _ _ _) rfl ?_
      refine mv (.int _ _) rfl ?_
      refine ixs t sc i ht rfl rfl rfl Try.underlying54 ty57.sz rfl (by first | omega | (simp; done) | (simp; omega) | (simp at *; omega)) ?_
      refine fad rfl Try.underlying57 rfl ty4.sz ?_
      refine ldvsf 21 _ 1 ht rfl rfl rfl (by first | omega | (simp; done) | (simp; omega) | (simp at *; omega)) rfl rfl ty4 ?_
      refine jt ?_
      refine c_cond rfl (fun h2 => ?_) (fun h2 => ?_)
      · refine c_reg ?_
        refine mv (.pointer _) rfl ?_
        refine mv (.pointer _) rfl ?_
        refine asg (.pointer _) rfl ?_
        refine asg (.pointer _) rfl ?_
        refine jt ?_
        refine c_seq ?_
        refine c_reg ?_
        refine mv (.pointer _) rfl ?_
        refine mv (.slice _ _ _) rfl ?_
        refine mv (.int _ _) rfl ?_
        refine ixs t sc i ht rfl rfl rfl Try.underlying54 ty57.sz rfl (by first | omega | (simp; done) | (simp; omega) | (simp at *; omega)) ?_
        refine ldvs 21 _ ht rfl rfl rfl rfl (by first | omega | (simp; done) | (simp; omega) | (simp at *; omega)) ty57 ?_
        refine mv (.pointer _) rfl ?_
        refine mv (.pointer _) rfl ?_
        refine cal (step_ct b75 bs2 m2 o2 most2 l2 hI1.2.2.1.o br2 r2 hI1.2.2.1.p hI1.2.2.1.m hI1.2.2.1.nd hI1.2.2.1.le b71 bs1 m1 o1 most1 l1 hI1.2.1.o br1 r1 hI1.2.1.p hI1.2.1.m hI1.2.1.nd hI1.2.1.le b77 oL oW oK oY hL hW hK hY HL HK hI1.2.2.2.1 hnL hnK sc[i] (hops sc[i] (List.getElem_mem (by omega)))) [11, 3, 4, 5, 8, 9, 10, 0, 1, 2, 6, 7, 12, 13, 14, 15, 16, 17, 18, 19, 20] [] [] rfl rfl rfl (by kernel_rfl) (impl_op 1 rfl (show i < sc.length by omega)) rfl ?_; rintro _ _ _ ⟨⟨bsa0, ma0, oa0, mosta0, la0, bra0, pa0⟩, ⟨bsb0, mb0, ob0, mostb0, lb0, brb0, pb0⟩, ⟨oLc0, oWc0, oKc0, oYc0, hLc0, hWc0, hKc0, hYc0, HLc0, HKc0⟩, hxa0, hxb0, hsc0, hHLc0, hHKc0, rfl, rfl, rfl⟩; refine ⟨trivial, ?_⟩
        refine not_ rfl ?_
        refine jt ?_
        refine c_false rfl ?_
        refine c_skip ?_
        refine e_in ?_
        refine e_then ?_
        refine c_reg ?_
        refine mv (.int _ _) rfl ?_
        refine addi rfl rfl rfl (by omega) ?_
        refine asg (.int _ _) rfl ?_
        refine jn ?_
        refine e_keep [7, 8, 9, 1, 2, 3, 10, 11, 4, 5, 6, 0, 12, 13, 14, 15, 16, 17, 18, 19, 20] [] [_, _, _, _, _, _, _, _, _, _, _, _, _, _, _, _, _, _, _, _, _] rfl (by kernel_rfl) ?_
        exact e_loop (⟨i + 1, (⟨bsb0, mb0, ob0, mostb0, lb0, brb0, pb0⟩ : PS), (⟨bsa0, ma0, oa0, mosta0, la0, bra0, pa0⟩ : PS), (⟨oLc0, oWc0, oKc0, oYc0, hLc0, hWc0, hKc0, hYc0, HLc0, HKc0⟩ : SS)⟩ : Nat × PS × PS × SS) (⟨by omega, hxb0, hxa0, hsc0, Nat.le_trans hHLc0 (Nat.succ_le_succ hI1.2.2.2.2.1), Nat.le_trans hHKc0 (Nat.succ_le_succ hI1.2.2.2.2.2)⟩) (by (try dsimp only); omega) (⟨rfl, trivial⟩) rfl rfl rfl
      · refine c_skip ?_
        refine e_then ?_
        refine c_seq ?_
        refine c_reg ?_
        refine mv (.pointer _) rfl ?_
        refine mv (.slice _ _ _) rfl ?_
        refine mv (.int _ _) rfl ?_
        refine ixs t sc i ht rfl rfl rfl Try.underlying54 ty57.sz rfl (by first | omega | (simp; done) | (simp; omega) | (simp at *; omega)) ?_
        refine ldvs 21 _ ht rfl rfl rfl rfl (by first | omega | (simp; done) | (simp; omega) | (simp at *; omega)) ty57 ?_
        refine mv (.pointer _) rfl ?_
        refine mv (.pointer _) rfl ?_
        refine cal (step_ct b71 bs1 m1 o1 most1 l1 hI1.2.1.o br1 r1 hI1.2.1.p hI1.2.1.m hI1.2.1.nd hI1.2.1.le b75 bs2 m2 o2 most2 l2 hI1.2.2.1.o br2 r2 hI1.2.2.1.p hI1.2.2.1.m hI1.2.2.1.nd hI1.2.2.1.le b77 oL oW oK oY hL hW hK hY HL HK hI1.2.2.2.1 hnL hnK sc[i] (hops sc[i] (List.getElem_mem (by omega)))) [10, 0, 1, 2, 6, 7, 11, 3, 4, 5, 8, 9, 12, 13, 14, 15, 16, 17, 18, 19, 20] [] [] rfl rfl rfl (by kernel_rfl) (impl_op 1 rfl (show i < sc.length by omega)) rfl ?_; rintro _ _ _ ⟨⟨bsa1, ma1, oa1, mosta1, la1, bra1, pa1⟩, ⟨bsb1, mb1, ob1, mostb1, lb1, brb1, pb1⟩, ⟨oLc1, oWc1, oKc1, oYc1, hLc1, hWc1, hKc1, hYc1, HLc1, HKc1⟩, hxa1, hxb1, hsc1, hHLc1, hHKc1, rfl, rfl, rfl⟩; refine ⟨trivial, ?_⟩
        refine not_ rfl ?_
        refine jt ?_
        refine c_false rfl ?_
        refine c_skip ?_
        refine e_in ?_
        refine e_then ?_
        refine c_reg ?_
        refine mv (.int _ _) rfl ?_
        refine addi rfl rfl rfl (by omega) ?_
        refine asg (.int _ _) rfl ?_
        refine jn ?_
        refine e_keep [1, 2, 3, 7, 8, 9, 4, 5, 10, 11, 0, 6, 12, 13, 14, 15, 16, 17, 18, 19, 20] [] [_, _, _, _, _, _, _, _, _, _, _, _, _, _, _, _, _, _, _, _, _] rfl (by kernel_rfl) ?_
        exact e_loop (⟨i + 1, (⟨bsa1, ma1, oa1, mosta1, la1, bra1, pa1⟩ : PS), (⟨bsb1, mb1, ob1, mostb1, lb1, brb1, pb1⟩ : PS), (⟨oLc1, oWc1, oKc1, oYc1, hLc1, hWc1, hKc1, hYc1, HLc1, HKc1⟩ : SS)⟩ : Nat × PS × PS × SS) (⟨by omega, hxa1, hxb1, hsc1, Nat.le_trans hHLc1 (Nat.succ_le_succ hI1.2.2.2.2.1), Nat.le_trans hHKc1 (Nat.succ_le_succ hI1.2.2.2.2.2)⟩) (by (try dsimp only); omega) (⟨rfl, trivial⟩) rfl rfl rfl
    · replace h1 := of_decide_eq_false h1
      refine c_exit rfl ?_
      refine e_then ?_
      refine c_seq ?_
      obtain ⟨x1o, x1p, x1m, x1nd, x1le⟩ := hI1.2.1
      obtain ⟨x2o, x2p, x2m, x2nd, x2le⟩ := hI1.2.2.1
      have hS := hI1.2.2.2.1
      have eL := hS.eL
      have eW := hS.eW
      have eK := hS.eK
      have eY := hS.eY
      dsimp only at x1o x1p x1m x1nd x1le x2o x2p x2m x2nd x2le eL eW eK eY
      subst eL eW eK eY
      have hmL : (List.map hdA HL).length = HL.length := by simp
      have hmW : (List.map hdB HL).length = HL.length := by simp
      have hmK : (List.map hdA HK).length = HK.length := by simp
      have hmY : (List.map hdB HK).length = HK.length := by simp
      have hh1 := hdrs_le l1
      have hh2 := hdrs_le l2
      refine c_reg ?_
      refine mv (.pointer _) rfl ?_
      refine nlc rfl ?_
      refine ldw 10 _ rfl rfl ty42 ?_
      refine mv (.pointer _) rfl ?_
      refine cal (same_ct bs1 m1 o1 most1 l1 hI1.2.1.o br1 r1 hI1.2.1.p x1m (by omega) x1nd b77 oL oW oK oY (HL.map hdA) (HL.map hdB) (HK.map hdA) (HK.map hdB) hS.L (by first | omega | (simp; omega)) hS.W (by first | omega | (simp; omega)) hS.K (by first | omega | (simp; omega)) hS.Y (by first | omega | (simp; omega))) [12, 13, 14, 15, 16] [0, 1, 2, 3, 4, 5, 6, 7, 8, 9, 10, 11, 17, 18, 19, 20] [_, _, _, _, _, _, _, _, _, _, _, _, _, _, _, _] rfl rfl rfl (by kernel_rfl) (impl_cons (impl_at 2 rfl) (impl_cons (impl_at 3 rfl) (impl_cons (impl_at 4 rfl) (impl_cons (impl_at 8 rfl) (impl_cons (impl_at 9 rfl) impl_nil))))) rfl ?_; rintro _ _ _ ⟨oL1, oW1, oK1, oY1, oc1a, oc1b, oc1c, oc1d, hoL1, hoW1, hoK1, hoY1, hoc1a, hoc1b, hoc1c, hoc1d, rfl, rfl, rfl⟩; refine ⟨trivial, ?_⟩
      refine mv (.bool _) rfl ?_
      refine g_on rfl rfl rfl ?_
      refine mv (.pointer _) rfl ?_
      refine g_on rfl rfl rfl ?_
      refine nlc rfl ?_
      refine g_on rfl rfl rfl ?_
      refine ldw 11 _ rfl rfl ty42 ?_
      refine g_on rfl rfl rfl ?_
      refine mv (.pointer _) rfl ?_
      refine g_on rfl rfl rfl ?_
      refine cal (same_ct bs2 m2 o2 most2 l2 hI1.2.2.1.o br2 r2 hI1.2.2.1.p x2m (by omega) x2nd b77 oL1 oW1 oK1 oY1 ((HL.map hdA) ++ [(⟨oc1a.adr, l1.length, oc1a.cap⟩ : SlH)]) ((HL.map hdB) ++ [(⟨oc1b.adr, l1.length, oc1b.cap⟩ : SlH)]) ((HK.map hdA) ++ [(⟨oc1c.adr, (hdrs l1).length, oc1c.cap⟩ : SlH)]) ((HK.map hdB) ++ [(⟨oc1d.adr, (hdrs l1).length, oc1d.cap⟩ : SlH)]) hoL1 (by first | omega | (simp; omega)) hoW1 (by first | omega | (simp; omega)) hoK1 (by first | omega | (simp; omega)) hoY1 (by first | omega | (simp; omega))) [16, 17, 18, 19, 20] [0, 1, 2, 3, 4, 5, 6, 7, 8, 9, 10, 11, 12, 13, 14, 15, 21, 22, 23, 24] [_, _, _, _, _, _, _, _, _, _, _, _, _, _, _, _, _, _, _, _] rfl rfl rfl (by kernel_rfl) (impl_cons (impl_at 5 rfl) (impl_cons (impl_at 6 rfl) (impl_cons (impl_at 7 rfl) (impl_cons (impl_at 10 rfl) (impl_cons (impl_at 11 rfl) impl_nil))))) rfl ?_; rintro _ _ _ ⟨oL2, oW2, oK2, oY2, oc2a, oc2b, oc2c, oc2d, hoL2, hoW2, hoK2, hoY2, hoc2a, hoc2b, hoc2c, hoc2d, rfl, rfl, rfl⟩; refine ⟨trivial, ?_⟩
      refine j_keep [10, 0, 1, 2, 6, 7, 11, 3, 4, 5, 8, 9, 20, 21, 22, 23, 24, 12, 16, 25, 13, 17, 26, 14, 18, 27, 15, 19, 28] [] [_, _, _, _, _, _, _, _, _, _, _, _, _, _, _, _, _, _, _, _, _, _, _, _, _, _, _, _, _] rfl (by kernel_rfl) ?_
      have hqL : oL2.ok (((HL ++ [(⟨oc1a, oc1b, l1⟩ : Hd Spare)]) ++ [(⟨oc2a, oc2b, l2⟩ : Hd Spare)]).map hdA) := by simpa [hdA, hdB] using hoL2
      have hqW : oW2.ok (((HL ++ [(⟨oc1a, oc1b, l1⟩ : Hd Spare)]) ++ [(⟨oc2a, oc2b, l2⟩ : Hd Spare)]).map hdB) := by simpa [hdA, hdB] using hoW2
      have hqK : oK2.ok (((HK ++ [(⟨oc1c, oc1d, hdrs l1⟩ : Hd Key)]) ++ [(⟨oc2c, oc2d, hdrs l2⟩ : Hd Key)]).map hdA) := by simpa [hdA, hdB] using hoK2
      have hqY : oY2.ok (((HK ++ [(⟨oc1c, oc1d, hdrs l1⟩ : Hd Key)]) ++ [(⟨oc2c, oc2d, hdrs l2⟩ : Hd Key)]).map hdB) := by simpa [hdA, hdB] using hoY2
      have hqA : ∀ p ∈ ((HL ++ [(⟨oc1a, oc1b, l1⟩ : Hd Spare)]) ++ [(⟨oc2a, oc2b, l2⟩ : Hd Spare)]), p.ok := fun p hp => (List.mem_append.1 hp).elim (fun hp => (List.mem_append.1 hp).elim (hS.aL p) (fun h => by rw [List.mem_singleton] at h; subst h; exact ⟨hoc1a, hoc1b, by show List.length l1 ≤ 2000; omega⟩)) (fun h => by rw [List.mem_singleton] at h; subst h; exact ⟨hoc2a, hoc2b, by show List.length l2 ≤ 2000; omega⟩)
      have hqB : ∀ p ∈ ((HK ++ [(⟨oc1c, oc1d, hdrs l1⟩ : Hd Key)]) ++ [(⟨oc2c, oc2d, hdrs l2⟩ : Hd Key)]), p.ok := fun p hp => (List.mem_append.1 hp).elim (fun hp => (List.mem_append.1 hp).elim (hS.aK p) (fun h => by rw [List.mem_singleton] at h; subst h; exact ⟨hoc1c, hoc1d, by show List.length (hdrs l1) ≤ 2000; omega⟩)) (fun h => by rw [List.mem_singleton] at h; subst h; exact ⟨hoc2c, hoc2d, by show List.length (hdrs l2) ≤ 2000; omega⟩)
      refine JG.mk (own' := [[(b71, .cells (cat [p1 (.pointer (some ⟨bs1, 0, none⟩)), p1 (.pointer (some ⟨br1, 0, none⟩))]) 42)], [(bs1, .cells (cat [p1 (.int .i64 most1), p1 (.map (some m1)), p1 (.slice o1.adr (List.map plc l1).length o1.cap)]) 76)], [(m1, .pred (isMap (List.map skv l1)))], o1.seg (List.map plc l1) 72, [(br1, .cells (cat [p1 (.int .i64 most1), p1 (.slice r1.adr l1.length r1.cap)]) 87)], r1.seg l1 33, [(b75, .cells (cat [p1 (.pointer (some ⟨bs2, 0, none⟩)), p1 (.pointer (some ⟨br2, 0, none⟩))]) 42)], [(bs2, .cells (cat [p1 (.int .i64 most2), p1 (.map (some m2)), p1 (.slice o2.adr (List.map plc l2).length o2.cap)]) 76)], [(m2, .pred (isMap (List.map skv l2)))], o2.seg (List.map plc l2) 72, [(br2, .cells (cat [p1 (.int .i64 most2), p1 (.slice r2.adr l2.length r2.cap)]) 87)], r2.seg l2 33, [(b77, .cells (cat [p1 (.slice oL2.adr (((HL ++ [(⟨oc1a, oc1b, l1⟩ : Hd Spare)]) ++ [(⟨oc2a, oc2b, l2⟩ : Hd Spare)]).map hdA).length oL2.cap), p1 (.slice oW2.adr (((HL ++ [(⟨oc1a, oc1b, l1⟩ : Hd Spare)]) ++ [(⟨oc2a, oc2b, l2⟩ : Hd Spare)]).map hdB).length oW2.cap), p1 (.slice oK2.adr (((HK ++ [(⟨oc1c, oc1d, hdrs l1⟩ : Hd Key)]) ++ [(⟨oc2c, oc2d, hdrs l2⟩ : Hd Key)]).map hdA).length oK2.cap), p1 (.slice oY2.adr (((HK ++ [(⟨oc1c, oc1d, hdrs l1⟩ : Hd Key)]) ++ [(⟨oc2c, oc2d, hdrs l2⟩ : Hd Key)]).map hdB).length oY2.cap)]) 48)], oL2.seg (((HL ++ [(⟨oc1a, oc1b, l1⟩ : Hd Spare)]) ++ [(⟨oc2a, oc2b, l2⟩ : Hd Spare)]).map hdA) 22, oW2.seg (((HL ++ [(⟨oc1a, oc1b, l1⟩ : Hd Spare)]) ++ [(⟨oc2a, oc2b, l2⟩ : Hd Spare)]).map hdB) 22, oK2.seg (((HK ++ [(⟨oc1c, oc1d, hdrs l1⟩ : Hd Key)]) ++ [(⟨oc2c, oc2d, hdrs l2⟩ : Hd Key)]).map hdA) 77, oY2.seg (((HK ++ [(⟨oc1c, oc1d, hdrs l1⟩ : Hd Key)]) ++ [(⟨oc2c, oc2d, hdrs l2⟩ : Hd Key)]).map hdB) 77, segA 33 ((HL ++ [(⟨oc1a, oc1b, l1⟩ : Hd Spare)]) ++ [(⟨oc2a, oc2b, l2⟩ : Hd Spare)]), segB 33 ((HL ++ [(⟨oc1a, oc1b, l1⟩ : Hd Spare)]) ++ [(⟨oc2a, oc2b, l2⟩ : Hd Spare)]), segA 30 ((HK ++ [(⟨oc1c, oc1d, hdrs l1⟩ : Hd Key)]) ++ [(⟨oc2c, oc2d, hdrs l2⟩ : Hd Key)]), segB 30 ((HK ++ [(⟨oc1c, oc1d, hdrs l1⟩ : Hd Key)]) ++ [(⟨oc2c, oc2d, hdrs l2⟩ : Hd Key)])]) (List.Perm.of_eq (by simp [segA, segB, hdA, hdB])) ?_
      refine pkt (.bool _) rfl rfl ?_
      refine mv (.bool _) rfl ?_
      refine g_on rfl rfl rfl ?_
      refine mv (.pointer _) rfl ?_
      refine g_on rfl rfl rfl ?_
      refine cal (kept_ct b77 oL2 oW2 oK2 oY2 ((HL ++ [(⟨oc1a, oc1b, l1⟩ : Hd Spare)]) ++ [(⟨oc2a, oc2b, l2⟩ : Hd Spare)]) ((HK ++ [(⟨oc1c, oc1d, hdrs l1⟩ : Hd Key)]) ++ [(⟨oc2c, oc2d, hdrs l2⟩ : Hd Key)]) hqL hqW hqK hqY hqA hqB 0 0 (by simp; omega) (by simp; omega) (by omega) (by omega)) [] [0, 1, 2, 3, 4, 5, 6, 7, 8, 9, 10, 11, 12, 13, 14, 15, 16, 17, 18, 19, 20] [_, _, _, _, _, _, _, _, _, _, _, _, _, _, _, _, _, _, _, _, _] rfl rfl rfl (by kernel_rfl) (impl_cons (impl_at 14 rfl) (impl_cons (impl_at 15 rfl) (impl_cons (impl_at 16 rfl) (impl_cons (impl_at 17 rfl) (impl_cons (impl_at 18 rfl) (impl_cons (impl_at 19 rfl) (impl_cons (impl_at 20 rfl) (impl_cons (impl_at 21 rfl) (impl_cons (impl_at 22 rfl) impl_nil))))))))) rfl ?_; rintro _ _ _ ⟨rfl, rfl, rfl⟩; refine ⟨trivial, ?_⟩
      refine pkt (.bool _) rfl rfl ?_
      refine mv (.bool _) rfl ?_
      refine g_on rfl rfl rfl ?_
      refine mv (.pointer _) rfl ?_
      refine g_on rfl rfl rfl ?_
      refine cal (spoil_ct b77 oL2 oW2 oK2 oY2 ((HL ++ [(⟨oc1a, oc1b, l1⟩ : Hd Spare)]) ++ [(⟨oc2a, oc2b, l2⟩ : Hd Spare)]) ((HK ++ [(⟨oc1c, oc1d, hdrs l1⟩ : Hd Key)]) ++ [(⟨oc2c, oc2d, hdrs l2⟩ : Hd Key)]) hqL hqW hqK hqY hqA hqB (by simp; omega) (by simp; omega)) [12, 13, 14, 15, 16, 17, 18, 19, 20] [0, 1, 2, 3, 4, 5, 6, 7, 8, 9, 10, 11] [_, _, _, _, _, _, _, _, _, _, _, _] rfl rfl rfl (by kernel_rfl) impl_nil rfl ?_; rintro _ _ _ ⟨rfl, rfl, rfl⟩; refine ⟨trivial, ?_⟩
      refine pkt (.bool _) rfl rfl ?_
      refine mv (.bool _) rfl ?_
      refine g_on rfl rfl rfl ?_
      refine mv (.pointer _) rfl ?_
      refine g_on rfl rfl rfl ?_
      refine nlc rfl ?_
      refine g_on rfl rfl rfl ?_
      refine ldw 0 _ rfl rfl ty42 ?_
      refine g_on rfl rfl rfl ?_
      refine mv (.pointer _) rfl ?_
      refine g_on rfl rfl rfl ?_
      refine cal (same_ct bs1 m1 o1 most1 l1 hI1.2.1.o br1 r1 hI1.2.1.p x1m (by omega) x1nd b77 oL2 oW2 oK2 oY2 (((HL ++ [(⟨oc1a, oc1b, l1⟩ : Hd Spare)]) ++ [(⟨oc2a, oc2b, l2⟩ : Hd Spare)]).map hdA) (((HL ++ [(⟨oc1a, oc1b, l1⟩ : Hd Spare)]) ++ [(⟨oc2a, oc2b, l2⟩ : Hd Spare)]).map hdB) (((HK ++ [(⟨oc1c, oc1d, hdrs l1⟩ : Hd Key)]) ++ [(⟨oc2c, oc2d, hdrs l2⟩ : Hd Key)]).map hdA) (((HK ++ [(⟨oc1c, oc1d, hdrs l1⟩ : Hd Key)]) ++ [(⟨oc2c, oc2d, hdrs l2⟩ : Hd Key)]).map hdB) hqL (by first | omega | (simp; omega)) hqW (by first | omega | (simp; omega)) hqK (by first | omega | (simp; omega)) hqY (by first | omega | (simp; omega))) [12, 13, 14, 15, 16] [0, 1, 2, 3, 4, 5, 6, 7, 8, 9, 10, 11] [_, _, _, _, _, _, _, _, _, _, _, _] rfl rfl rfl (by kernel_rfl) (impl_cons (impl_at 3 rfl) (impl_cons (impl_at 4 rfl) (impl_cons (impl_at 5 rfl) (impl_cons (impl_at 6 rfl) (impl_cons (impl_at 7 rfl) impl_nil))))) rfl ?_; rintro _ _ _ ⟨oL3, oW3, oK3, oY3, oc3a, oc3b, oc3c, oc3d, hoL3, hoW3, hoK3, hoY3, hoc3a, hoc3b, hoc3c, hoc3d, rfl, rfl, rfl⟩; refine ⟨trivial, ?_⟩
      refine pkt (.bool _) rfl rfl ?_
      refine mv (.bool _) rfl ?_
      refine g_on rfl rfl rfl ?_
      refine mv (.pointer _) rfl ?_
      refine g_on rfl rfl rfl ?_
      refine nlc rfl ?_
      refine g_on rfl rfl rfl ?_
      refine ldw 6 _ rfl rfl ty42 ?_
      refine g_on rfl rfl rfl ?_
      refine mv (.pointer _) rfl ?_
      refine g_on rfl rfl rfl ?_
      refine cal (same_ct bs2 m2 o2 most2 l2 hI1.2.2.1.o br2 r2 hI1.2.2.1.p x2m (by omega) x2nd b77 oL3 oW3 oK3 oY3 ((((HL ++ [(⟨oc1a, oc1b, l1⟩ : Hd Spare)]) ++ [(⟨oc2a, oc2b, l2⟩ : Hd Spare)]).map hdA) ++ [(⟨oc3a.adr, l1.length, oc3a.cap⟩ : SlH)]) ((((HL ++ [(⟨oc1a, oc1b, l1⟩ : Hd Spare)]) ++ [(⟨oc2a, oc2b, l2⟩ : Hd Spare)]).map hdB) ++ [(⟨oc3b.adr, l1.length, oc3b.cap⟩ : SlH)]) ((((HK ++ [(⟨oc1c, oc1d, hdrs l1⟩ : Hd Key)]) ++ [(⟨oc2c, oc2d, hdrs l2⟩ : Hd Key)]).map hdA) ++ [(⟨oc3c.adr, (hdrs l1).length, oc3c.cap⟩ : SlH)]) ((((HK ++ [(⟨oc1c, oc1d, hdrs l1⟩ : Hd Key)]) ++ [(⟨oc2c, oc2d, hdrs l2⟩ : Hd Key)]).map hdB) ++ [(⟨oc3d.adr, (hdrs l1).length, oc3d.cap⟩ : SlH)]) hoL3 (by first | omega | (simp; omega)) hoW3 (by first | omega | (simp; omega)) hoK3 (by first | omega | (simp; omega)) hoY3 (by first | omega | (simp; omega))) [12, 13, 14, 15, 16] [0, 1, 2, 3, 4, 5, 6, 7, 8, 9, 10, 11, 17, 18, 19, 20] [_, _, _, _, _, _, _, _, _, _, _, _, _, _, _, _] rfl rfl rfl (by kernel_rfl) (impl_cons (impl_at 9 rfl) (impl_cons (impl_at 10 rfl) (impl_cons (impl_at 11 rfl) (impl_cons (impl_at 12 rfl) (impl_cons (impl_at 13 rfl) impl_nil))))) rfl ?_; rintro _ _ _ ⟨oL4, oW4, oK4, oY4, oc4a, oc4b, oc4c, oc4d, hoL4, hoW4, hoK4, hoY4, hoc4a, hoc4b, hoc4c, hoc4d, rfl, rfl, rfl⟩; refine ⟨trivial, ?_⟩
      refine pkt (.bool _) rfl rfl ?_
      refine asg (.bool _) rfl ?_
      refine jt ?_
      refine c_ret ?_
      exact j_end (own0 := []) (ro0 := [t.seg sc, opsSeg sc]) (.inl rfl) rfl (hr1 Try.results8 (rvt (v := (.bool _)) rfl)) [] [0, 1, 2, 3, 4, 5, 6, 7, 8, 9, 10, 11, 12, 13, 14, 15, 16, 17, 18, 19, 20, 21, 22, 23, 24] [] [_, _, _, _, _, _, _, _, _, _, _, _, _, _, _, _, _, _, _, _, _, _, _, _, _] [] _ rfl rfl (by kernel_rfl) rfl impl_nil (⟨rfl, rfl, rfl⟩)
  · refine ⟨trivial, ?_⟩
    refine mv (.tuple _) rfl ?_
    refine xtr (.pointer _) rfl rfl ?_
    refine xtr (.int _ _) rfl rfl ?_
    refine asg (.pointer _) rfl ?_
    refine asg (.int _ _) rfl ?_
    refine jt ?_
    refine c_seq ?_
    refine c_reg ?_
    refine mv (.int _ _) rfl ?_
    refine cal (New_bad most hN21) [] [] [] rfl rfl rfl (by kernel_rfl) impl_nil rfl ?_; rintro _ _ _ ⟨rfl, rfl, rfl⟩; refine ⟨trivial, ?_⟩
    refine mv (.tuple _) rfl ?_
    refine xtr (.pointer _) rfl rfl ?_
    refine xtr (.int _ _) rfl rfl ?_
    refine asg (.pointer _) rfl ?_
    refine asg (.int _ _) rfl ?_
    refine jt ?_
    refine c_seq ?_
    refine c_reg ?_
    refine mv (.int _ _) rfl ?_
    refine cal (RNew_bad most hN21) [] [] [] rfl rfl rfl (by kernel_rfl) impl_nil rfl ?_; rintro _ _ _ ⟨rfl, rfl, rfl⟩; refine ⟨trivial, ?_⟩
    refine mv (.tuple _) rfl ?_
    refine xtr (.pointer _) rfl rfl ?_
    refine xtr (.int _ _) rfl rfl ?_
    refine asg (.pointer _) rfl ?_
    refine asg (.int _ _) rfl ?_
    refine jt ?_
    refine c_seq ?_
    refine c_reg ?_
    refine mv (.int _ _) rfl ?_
    refine cal (RNew_bad most hN21) [] [] [] rfl rfl rfl (by kernel_rfl) impl_nil rfl ?_; rintro _ _ _ ⟨rfl, rfl, rfl⟩; refine ⟨trivial, ?_⟩
    refine mv (.tuple _) rfl ?_
    refine xtr (.pointer _) rfl rfl ?_
    refine xtr (.int _ _) rfl rfl ?_
    refine asg (.pointer _) rfl ?_
    refine asg (.int _ _) rfl ?_
    refine jt ?_
    refine c_seq ?_
    refine c_seq ?_
    refine c_reg ?_
    refine mv (.int _ _) rfl ?_
    refine mv (.int _ _) rfl ?_
    refine cmp false rfl rfl rfl ?_
    refine mv (.bool _) rfl ?_
    refine g_on rfl rfl rfl ?_
    refine mv (.pointer _) rfl ?_
    refine g_on rfl rfl rfl ?_
    refine eqpn true rfl rfl Try.underlying24 rfl ?_
    refine g_on rfl rfl rfl ?_
    refine mv (.pointer _) rfl ?_
    refine g_on rfl rfl rfl ?_
    refine eqpn true rfl rfl Try.underlying38 rfl ?_
    refine g_on rfl rfl rfl ?_
    refine eqbo false rfl rfl Try.underlying4 (by simp) ?_
    refine pkf (.bool _) rfl rfl ?_
    refine mv (.bool _) rfl ?_
    refine g_on rfl rfl rfl ?_
    refine mv (.pointer _) rfl ?_
    refine g_on rfl rfl rfl ?_
    refine eqpn true rfl rfl Try.underlying24 rfl ?_
    refine g_on rfl rfl rfl ?_
    refine mv (.pointer _) rfl ?_
    refine g_on rfl rfl rfl ?_
    refine eqpn true rfl rfl Try.underlying38 rfl ?_
    refine g_on rfl rfl rfl ?_
    refine eqbo false rfl rfl Try.underlying4 (by simp) ?_
    refine pkf (.bool _) rfl rfl ?_
    refine jt ?_
    refine c_false rfl ?_
    refine c_skip ?_
    refine e_then ?_
    refine c_seq ?_
    refine c_seq ?_
    refine c_reg ?_
    refine mv (.pointer _) rfl ?_
    refine eqpn true rfl rfl Try.underlying24 rfl ?_
    refine mv (.bool _) rfl ?_
    refine g_off rfl rfl rfl rfl ?_
    refine g_off rfl rfl rfl rfl ?_
    refine pkt (.bool _) rfl rfl ?_
    refine jt ?_
    refine c_true rfl ?_
    refine c_seq ?_
    refine c_reg ?_
    refine mv (.int _ _) rfl ?_
    refine cmp _ rfl rfl rfl ?_
    refine mv (.bool _) rfl ?_
    refine jsplit 64 rfl (fun h3 => ?_) (fun h3 => ?_)
    · replace h3 := of_decide_eq_true h3
      refine g_off rfl rfl rfl rfl ?_
      refine g_off rfl rfl rfl rfl ?_
      refine pkt (.bool _) rfl rfl ?_
      refine asg (.bool _) rfl ?_
      refine jt ?_
      refine c_ret ?_
      exact j_end (own0 := []) (ro0 := [t.seg sc, opsSeg sc]) (.inl rfl) rfl (hr1 Try.results8 (rvt (v := (.bool _)) rfl)) [] [] [] [] [] _ rfl rfl (by kernel_rfl) rfl impl_nil (⟨rfl, rfl, rfl⟩)
    · replace h3 := of_decide_eq_false h3
      refine g_on rfl rfl rfl ?_
      refine mv (.int _ _) rfl ?_
      refine g_on rfl rfl rfl ?_
      refine cmp _ rfl rfl rfl ?_
      refine j_re 66 (.bool true) (congrArg Value.bool (decide_eq_true (by omega))) ?_
      refine pkf (.bool _) rfl rfl ?_
      refine asg (.bool _) rfl ?_
      refine jt ?_
      refine c_ret ?_
      exact j_end (own0 := []) (ro0 := [t.seg sc, opsSeg sc]) (.inl rfl) rfl (hr1 Try.results8 (rvt (v := (.bool _)) rfl)) [] [] [] [] [] _ rfl rfl (by kernel_rfl) rfl impl_nil (⟨rfl, rfl, rfl⟩)
end Go.Proofs.Ytacfjmjcgolhfaa
