/- Contracts of the program's functions, walked. No condition. -/
import Derived.Test.YtacfjmjcgolhfaaA23
namespace Go.Proofs.Ytacfjmjcgolhfaa
open Go Go.Proofs Go.PW
open Go.PW.Enc (enc val)

theorem handV_ok {o : Ow} {xs : List Spare} (h : o.ok (xs ++ mks)) : (o.vs.sub 0 65).ok xs := by
  have := Vs.sub_ok (Ow.vs_ok h) 0 xs.length 65 (by simp)
  simpa using this
theorem handV_impl {o : Ow} {xs : List Spare} (h : o.ok (xs ++ mks)) {src : List Seg} (j : Nat) (hs : src[j]? = some (o.seg (xs ++ mks) 33)) : Impl src [(o.vs.sub 0 65).seg xs] := by
  have := ow_sub h 0 xs.length (by simp) j hs
  exact (by simpa using this : Impl src [(o.vs.sub 0 (Enc.n Spare)).seg xs])
/-- Two stores, as they stand: the program's and the reference's. -/
structure PS where
  bs : Nat
  m : Nat
  o : Ow
  most : Int
  l : List Spare
  br : Nat
  p : Ow
structure PS.ok (x : PS) : Prop where
  o : x.o.ok (List.map plc x.l)
  p : x.p.ok x.l
  m : 0 ≤ x.most ∧ x.most ≤ 2000
  nd : (x.l.map plc).Nodup
  le : (x.l.length : Int) ≤ x.most
def PS.segs (x : PS) (b : Nat) : List Seg := [[(b, .cells (cat [p1 (.pointer (some ⟨x.bs, 0, none⟩)), p1 (.pointer (some ⟨x.br, 0, none⟩))]) 42)],
  [(x.bs, .cells (cat [p1 (.int .i64 x.most), p1 (.map (some x.m)), p1 (.slice x.o.adr (List.map plc x.l).length x.o.cap)]) 76)], [(x.m, .pred (isMap (List.map skv x.l)))], x.o.seg (List.map plc x.l) 72,
  [(x.br, .cells (cat [p1 (.int .i64 x.most), p1 (.slice x.p.adr x.l.length x.p.cap)]) 87)], x.p.seg x.l 33]

set_option maxRecDepth 20000 in
set_option maxHeartbeats 4000000 in
theorem from_ct (bp : Nat) (bs m : Nat) (o : Ow) (most : Int) (l : List Spare) (ho : o.ok (List.map plc l)) (br : Nat) (rP : Ow) (hrP : rP.ok l) (hm : 0 ≤ most ∧ most ≤ 2000) (hnd : (l.map plc).Nodup) (hle : (l.length : Int) ≤ most) (op : OpR) (hop : op.s.ok op.l ∧ op.l.length ≤ 2069668946341) : Ct Try.prog 51 [.pointer (some ⟨bp, 0, none⟩), val op] [[(bp, .cells (cat [p1 (.pointer (some ⟨bs, 0, none⟩)), p1 (.pointer (some ⟨br, 0, none⟩))]) 42)], [(bs, .cells (cat [p1 (.int .i64 most), p1 (.map (some m)), p1 (.slice o.adr (List.map plc l).length o.cap)]) 76)], [(m, .pred (isMap (List.map skv l)))], o.seg (List.map plc l) 72, [(br, .cells (cat [p1 (.int .i64 most), p1 (.slice rP.adr l.length rP.cap)]) 87)], rP.seg l 33] [op.s.seg op.l] (fun v w r => ∃ x : PS, x.ok ∧ v = .bool true ∧ w = x.segs bp ∧ r = []) := by
  have hml : (op.l ++ mks).length = op.l.length + 3 := by simp [mks]
  refine ct_enter Try.func51 rfl Try.ntmps51 (by kernel_rfl) rfl fun w0 => ?_
  refine c_seq ?_
  refine c_reg ?_
  refine bxx [pt op.kind, pt op.other, p1 (.slice op.s.adr op.l.length op.s.cap), pt op.header, pt op.n, pt op.count] _ rfl rfl fun b3 => ⟨trivial, ?_⟩
  refine asg (.bool _) rfl ?_
  refine jt ?_
  refine c_seq ?_
  refine c_reg ?_
  refine fad rfl Try.underlying57 rfl ty22.sz ?_
  refine ldp 6 2 _ rfl rfl rfl rfl ty22 ?_
  refine cal (hand_ct op.s op.l hop.1 (by omega)) [] [0, 1, 2, 3, 4, 5, 6] [_, _, _, _, _, _, _] rfl rfl rfl (by kernel_rfl) (impl_cons (impl_at 0 rfl) impl_nil) rfl ?_; rintro _ _ _ ⟨o13, ho13, rfl, rfl, rfl⟩; refine ⟨trivial, ?_⟩
  refine asg (.slice _ _ _) rfl ?_
  refine jt ?_
  refine c_seq ?_
  refine c_dr [_, _, _, _, _, _, _, _, _] [] [(0, 0), (1, 0), (2, 0), (3, 0), (4, 0), (5, 0), (6, 0), (7, 1), (8, 0), (9, 0), (10, 0), (11, 0), (12, 0)] follows (by kernel_rfl) calm_body (keepS [0, 1, 2, 3, 4, 5, 6, 7, 8] rfl) ?_
  refine fad rfl Try.underlying57 rfl ty3.sz ?_
  refine ldp 6 5 _ rfl rfl rfl rfl ty3 ?_
  refine mv (.slice _ _ _) rfl ?_
  refine fad rfl Try.underlying57 rfl ty22.sz ?_
  refine ldp 6 2 _ rfl rfl rfl rfl ty22 ?_
  refine lenS rfl Try.underlying22 ?_
  refine sli ((o13).vs) 0 op.l.length rfl Try.underlying22 ty33.sz rfl (⟨_, rfl⟩) (by simp) (by have := ho13.le; simp [mks] at this; show op.l.length ≤ o13.cap; omega) (by have := ho13.le; show _ ≤ o13.cap; omega) ?_
  skip
  refine cal (From_ct op.count (Vs.sub (o13).vs 0 65) op.l (handV_ok ho13) (by omega)) [] [0, 1, 2, 3, 4, 5, 6, 7] [_, _, _, _, _, _, _, _] rfl rfl rfl (by kernel_rfl) (impl_cons (handV_impl ho13 8 rfl) impl_nil) rfl ?_; rintro _ _ _ (⟨hF22, bs22, m22, o22, ho22, rfl, rfl, rfl⟩ | ⟨hF22, rfl, rfl, rfl⟩)
  · have hf22 := from_facts hF22; refine ⟨keepI [0, 1, 2, 3, 4, 5, 6, 7, 11] rfl, ?_⟩
    refine mv (.tuple _) rfl ?_
    refine xtr (.pointer _) rfl rfl ?_
    refine xtr (.int _ _) rfl rfl ?_
    refine asg (.pointer _) rfl ?_
    refine asg (.int _ _) rfl ?_
    refine jt ?_
    refine c_seq ?_
    refine c_reg ?_
    refine fad rfl Try.underlying57 rfl ty3.sz ?_
    refine ldp 6 5 _ rfl rfl rfl rfl ty3 ?_
    refine fad rfl Try.underlying57 rfl ty22.sz ?_
    refine ldp 6 2 _ rfl rfl rfl rfl ty22 ?_
    refine cal (RFrom_ok op.count op.s op.l hop.1 (by omega) hF22) [] [0, 1, 2, 3, 4, 5, 6, 7, 8, 9, 10] [_, _, _, _, _, _, _, _, _, _, _] rfl rfl rfl (by kernel_rfl) (impl_cons (impl_at 0 rfl) impl_nil) rfl ?_; rintro _ _ _ ⟨br30, o30, ho30, rfl, rfl, rfl⟩; refine ⟨trivial, ?_⟩
    refine mv (.tuple _) rfl ?_
    refine xtr (.pointer _) rfl rfl ?_
    refine xtr (.int _ _) rfl rfl ?_
    refine asg (.pointer _) rfl ?_
    refine asg (.int _ _) rfl ?_
    refine jt ?_
    refine c_seq ?_
    refine c_seq ?_
    refine c_reg ?_
    refine mv (.int _ _) rfl ?_
    refine mv (.int _ _) rfl ?_
    refine cmp false rfl rfl rfl ?_
    refine mv (.bool _) rfl ?_
    refine g_on rfl rfl rfl ?_
    refine mv (.pointer _) rfl ?_
    refine g_on rfl rfl rfl ?_
    refine eqpn false rfl rfl Try.underlying24 rfl ?_
    refine g_on rfl rfl rfl ?_
    refine mv (.pointer _) rfl ?_
    refine g_on rfl rfl rfl ?_
    refine eqpn false rfl rfl Try.underlying38 rfl ?_
    refine g_on rfl rfl rfl ?_
    refine eqbo false rfl rfl Try.underlying4 (by simp) ?_
    refine pkf (.bool _) rfl rfl ?_
    refine mv (.bool _) rfl ?_
    refine g_on rfl rfl rfl ?_
    refine mv (.slice _ _ _) rfl ?_
    refine g_on rfl rfl rfl ?_
    refine fad rfl Try.underlying57 rfl ty22.sz ?_
    refine g_on rfl rfl rfl ?_
    refine ldp 6 2 _ rfl rfl rfl rfl ty22 ?_
    refine g_on rfl rfl rfl ?_
    refine cal (left_ct ((o13).vs) op.s op.l (Ow.vs_ok ho13) hop.1 (by omega)) [] [0, 1, 2, 3, 4, 5, 6, 7, 8, 9, 10, 11, 12] [_, _, _, _, _, _, _, _, _, _, _, _, _] rfl rfl rfl (by kernel_rfl) (impl_cons (ow_impl 8 rfl) (impl_cons (impl_at 0 rfl) impl_nil)) rfl ?_; rintro _ _ _ ⟨rfl, rfl, rfl⟩; refine ⟨trivial, ?_⟩
    refine g_on rfl rfl rfl ?_
    refine not_ rfl ?_
    refine pkf (.bool _) rfl rfl ?_
    refine jt ?_
    refine c_false rfl ?_
    refine c_skip ?_
    refine e_then ?_
    refine c_seq ?_
    refine c_seq ?_
    refine c_reg ?_
    refine asg (.int _ _) rfl ?_
    refine jt ?_
    refine c_block ?_
    refine c_loop (σ := Nat × List Spare) (fun ⟨j, zs⟩ => zs.length = (op.l ++ mks).length ∧ o13.ok zs) (fun ⟨j, zs⟩ => (op.l ++ mks).length - j) (fun ⟨j, zs⟩ => [(10, .int .i64 (j : Int)), (5, .slice o13.adr (op.l ++ mks).length o13.cap)]) (fun ⟨j, zs⟩ => [[(bp, .cells (cat [p1 (.pointer (some ⟨bs, 0, none⟩)), p1 (.pointer (some ⟨br, 0, none⟩))]) 42)], [(bs, .cells (cat [p1 (.int .i64 most), p1 (.map (some m)), p1 (.slice o.adr (List.map plc l).length o.cap)]) 76)], [(m, .pred (isMap (List.map skv l)))], o.seg (List.map plc l) 72, [(br, .cells (cat [p1 (.int .i64 most), p1 (.slice rP.adr l.length rP.cap)]) 87)], rP.seg l 33, [(b3, .cells (cat [pt op.kind, pt op.other, p1 (.slice op.s.adr op.l.length op.s.cap), pt op.header, pt op.n, pt op.count]) 57)], o13.seg zs 33, [(bs22, .cells (cat [p1 (.int .i64 op.count), p1 (.map (some m22)), p1 (.slice o22.adr (List.map plc op.l).length o22.cap)]) 76)], [(m22, .pred (isMap (List.map skv op.l)))], o22.seg (List.map plc op.l) 72, [(br30, .cells (cat [p1 (.int .i64 op.count), p1 (.slice o30.adr op.l.length o30.cap)]) 87)], o30.seg op.l 33]) (fun ⟨j, zs⟩ => [op.s.seg op.l]) [5, 10, 50, 51, 52, 53, 54, 55, 56, 57, 58, 59] (0, op.l ++ mks) (⟨rfl, ho13⟩) ⟨rfl, rfl, trivial⟩ rfl rfl ?_
    rintro ⟨j, zs⟩ g1 hI1
    try dsimp only at hI1 ⊢
    refine c_seq ?_
    refine c_seq ?_
    refine c_reg ?_
    refine mv (.int _ _) rfl ?_
    refine mv (.slice _ _ _) rfl ?_
    refine lenS rfl Try.underlying22 ?_
    refine cmp _ rfl rfl rfl ?_
    refine jt ?_
    refine c_cond rfl (fun h1 => ?_) (fun h1 => ?_)
    · replace h1 := of_decide_eq_true h1
      refine c_skip ?_
      refine e_then ?_
      refine c_seq ?_
      refine c_block ?_
      refine c_reg ?_
      refine mv (.slice _ _ _) rfl ?_
      refine mv (.int _ _) rfl ?_
      refine cal (mark_ct 5 (by omega)) [] [0, 1, 2, 3, 4, 5, 6, 7, 8, 9, 10, 11, 12] [_, _, _, _, _, _, _, _, _, _, _, _, _] rfl rfl rfl (by kernel_rfl) impl_nil rfl ?_; rintro _ _ _ ⟨rfl, rfl, rfl⟩; refine ⟨trivial, ?_⟩
      refine ixs ((o13).vs) zs j (Ow.vs_ok hI1.2) rfl hI1.1.symm rfl Try.underlying22 ty33.sz rfl (by omega) ?_
      refine sto 7 j (mk 5) hI1.2 rfl rfl rfl rfl rfl (by omega) ty33 ⟨trivial, ?_⟩
      refine jn ?_
      refine e_in ?_
      refine e_then ?_
      refine c_reg ?_
      refine mv (.int _ _) rfl ?_
      refine addi rfl rfl rfl (by omega) ?_
      refine asg (.int _ _) rfl ?_
      refine jn ?_
      exact e_loop (j + 1, zs.set j (mk 5)) (⟨by rw [List.length_set]; exact hI1.1, Ow.ok_set hI1.2 j (mk 5)⟩) (by (try dsimp only); omega) (⟨rfl, rfl, trivial⟩) rfl rfl rfl
    · replace h1 := of_decide_eq_false h1
      refine c_exit rfl ?_
      refine e_then ?_
      refine c_seq ?_
      refine c_seq ?_
      refine c_reg ?_
      refine mv (.pointer _) rfl ?_
      refine eqpn true rfl rfl Try.underlying24 rfl ?_
      refine jt ?_
      refine c_true rfl ?_
      refine c_seq ?_
      refine c_reg ?_
      refine mv (.pointer _) rfl ?_
      refine mv (.pointer _) rfl ?_
      refine nlc rfl ?_
      refine fad rfl Try.underlying42 rfl ty24.sz ?_
      refine stp 0 0 _ (p1 (.pointer (some ⟨bs22, 0, none⟩))) rfl rfl rfl rfl rfl rfl ty24 ⟨trivial, ?_⟩
      refine jt ?_
      refine c_reg ?_
      refine mv (.pointer _) rfl ?_
      refine mv (.pointer _) rfl ?_
      refine nlc rfl ?_
      refine fad rfl Try.underlying42 rfl ty38.sz ?_
      refine stp 0 1 _ (p1 (.pointer (some ⟨br30, 0, none⟩))) rfl rfl rfl rfl rfl rfl ty38 ⟨trivial, ?_⟩
      refine jt ?_
      refine c_seq ?_
      refine c_reg ?_
      refine asg (.bool _) rfl ?_
      refine jt ?_
      refine c_ret ?_
      exact j_end (own0 := [[(bp, .cells (cat [p1 (.pointer (some ⟨bs, 0, none⟩)), p1 (.pointer (some ⟨br, 0, none⟩))]) 42)], [(bs, .cells (cat [p1 (.int .i64 most), p1 (.map (some m)), p1 (.slice o.adr (List.map plc l).length o.cap)]) 76)], [(m, .pred (isMap (List.map skv l)))], o.seg (List.map plc l) 72, [(br, .cells (cat [p1 (.int .i64 most), p1 (.slice rP.adr l.length rP.cap)]) 87)], rP.seg l 33]) (ro0 := [op.s.seg op.l]) (.inl rfl) rfl (hr1 Try.results51 (rvt (v := (.bool _)) rfl)) [0, 8, 9, 10, 11, 12] [1, 2, 3, 4, 5, 6, 7] [_, _, _, _, _, _] [_, _, _, _, _, _, _] [] _ rfl rfl (by kernel_rfl) rfl impl_nil (⟨(⟨bs22, m22, o22, op.count, op.l, br30, o30⟩ : PS), ⟨ho22, ho30, by first | assumption | exact hf22.1, by first | exact hnd | exact putL_nd hnd | exact takeL_nd hnd | exact drop_nd hnd | exact hf22.2.1, by first | exact hle | exact putL_most hle | exact takeL_most hle | exact drop_most hle | exact hf22.2.2⟩, rfl, rfl, rfl⟩)
  · refine ⟨keepI [0, 1, 2, 3, 4, 5, 6, 7, 8] rfl, ?_⟩
    refine mv (.tuple _) rfl ?_
    refine xtr (.pointer _) rfl rfl ?_
    refine xtr (.int _ _) rfl rfl ?_
    refine asg (.pointer _) rfl ?_
    refine asg (.int _ _) rfl ?_
    refine jt ?_
    refine c_seq ?_
    refine c_reg ?_
    refine fad rfl Try.underlying57 rfl ty3.sz ?_
    refine ldp 6 5 _ rfl rfl rfl rfl ty3 ?_
    refine fad rfl Try.underlying57 rfl ty22.sz ?_
    refine ldp 6 2 _ rfl rfl rfl rfl ty22 ?_
    refine cal (RFrom_bad op.count op.s op.l hop.1 (by omega) hF22) [] [0, 1, 2, 3, 4, 5, 6, 7] [_, _, _, _, _, _, _, _] rfl rfl rfl (by kernel_rfl) (impl_cons (impl_at 0 rfl) impl_nil) rfl ?_; rintro _ _ _ ⟨rfl, rfl, rfl⟩; refine ⟨trivial, ?_⟩
    refine mv (.tuple _) rfl ?_
    refine xtr (.pointer _) rfl rfl ?_
    refine xtr (.int _ _) rfl rfl ?_
    refine asg (.pointer _) rfl ?_
    refine asg (.int _ _) rfl ?_
    refine jt ?_
    refine c_seq ?_
    refine c_seq ?_
    refine c_reg ?_
    refine mv (.int _ _) rfl ?_
    refine mv (.int _ _) rfl ?_
    refine cmp false rfl rfl (by simp [cmpV]) ?_
    refine mv (.bool _) rfl ?_
    refine g_on rfl rfl rfl ?_
    refine mv (.pointer _) rfl ?_
    refine g_on rfl rfl rfl ?_
    refine eqpn true rfl rfl Try.underlying24 rfl ?_
    refine g_on rfl rfl rfl ?_
    refine mv (.pointer _) rfl ?_
    refine g_on rfl rfl rfl ?_
    refine eqpn true rfl rfl Try.underlying38 rfl ?_
    refine g_on rfl rfl rfl ?_
    refine eqbo false rfl rfl Try.underlying4 (by simp) ?_
    refine pkf (.bool _) rfl rfl ?_
    refine mv (.bool _) rfl ?_
    refine g_on rfl rfl rfl ?_
    refine mv (.slice _ _ _) rfl ?_
    refine g_on rfl rfl rfl ?_
    refine fad rfl Try.underlying57 rfl ty22.sz ?_
    refine g_on rfl rfl rfl ?_
    refine ldp 6 2 _ rfl rfl rfl rfl ty22 ?_
    refine g_on rfl rfl rfl ?_
    refine cal (left_ct ((o13).vs) op.s op.l (Ow.vs_ok ho13) hop.1 (by omega)) [] [0, 1, 2, 3, 4, 5, 6, 7] [_, _, _, _, _, _, _, _] rfl rfl rfl (by kernel_rfl) (impl_cons (ow_impl 8 rfl) (impl_cons (impl_at 0 rfl) impl_nil)) rfl ?_; rintro _ _ _ ⟨rfl, rfl, rfl⟩; refine ⟨trivial, ?_⟩
    refine g_on rfl rfl rfl ?_
    refine not_ rfl ?_
    refine pkf (.bool _) rfl rfl ?_
    refine jt ?_
    refine c_false rfl ?_
    refine c_skip ?_
    refine e_then ?_
    refine c_seq ?_
    refine c_seq ?_
    refine c_reg ?_
    refine asg (.int _ _) rfl ?_
    refine jt ?_
    refine c_block ?_
    refine c_loop (σ := Nat × List Spare) (fun ⟨j, zs⟩ => zs.length = (op.l ++ mks).length ∧ o13.ok zs) (fun ⟨j, zs⟩ => (op.l ++ mks).length - j) (fun ⟨j, zs⟩ => [(10, .int .i64 (j : Int)), (5, .slice o13.adr (op.l ++ mks).length o13.cap)]) (fun ⟨j, zs⟩ => [[(bp, .cells (cat [p1 (.pointer (some ⟨bs, 0, none⟩)), p1 (.pointer (some ⟨br, 0, none⟩))]) 42)], [(bs, .cells (cat [p1 (.int .i64 most), p1 (.map (some m)), p1 (.slice o.adr (List.map plc l).length o.cap)]) 76)], [(m, .pred (isMap (List.map skv l)))], o.seg (List.map plc l) 72, [(br, .cells (cat [p1 (.int .i64 most), p1 (.slice rP.adr l.length rP.cap)]) 87)], rP.seg l 33, [(b3, .cells (cat [pt op.kind, pt op.other, p1 (.slice op.s.adr op.l.length op.s.cap), pt op.header, pt op.n, pt op.count]) 57)], o13.seg zs 33]) (fun ⟨j, zs⟩ => [op.s.seg op.l]) [5, 10, 50, 51, 52, 53, 54, 55, 56, 57, 58, 59] (0, op.l ++ mks) (⟨rfl, ho13⟩) ⟨rfl, rfl, trivial⟩ rfl rfl ?_
    rintro ⟨j, zs⟩ g1 hI1
    try dsimp only at hI1 ⊢
    refine c_seq ?_
    refine c_seq ?_
    refine c_reg ?_
    refine mv (.int _ _) rfl ?_
    refine mv (.slice _ _ _) rfl ?_
    refine lenS rfl Try.underlying22 ?_
    refine cmp _ rfl rfl rfl ?_
    refine jt ?_
    refine c_cond rfl (fun h2 => ?_) (fun h2 => ?_)
    · replace h2 := of_decide_eq_true h2
      refine c_skip ?_
      refine e_then ?_
      refine c_seq ?_
      refine c_block ?_
      refine c_reg ?_
      refine mv (.slice _ _ _) rfl ?_
      refine mv (.int _ _) rfl ?_
      refine cal (mark_ct 5 (by omega)) [] [0, 1, 2, 3, 4, 5, 6, 7] [_, _, _, _, _, _, _, _] rfl rfl rfl (by kernel_rfl) impl_nil rfl ?_; rintro _ _ _ ⟨rfl, rfl, rfl⟩; refine ⟨trivial, ?_⟩
      refine ixs ((o13).vs) zs j (Ow.vs_ok hI1.2) rfl hI1.1.symm rfl Try.underlying22 ty33.sz rfl (by omega) ?_
      refine sto 7 j (mk 5) hI1.2 rfl rfl rfl rfl rfl (by omega) ty33 ⟨trivial, ?_⟩
      refine jn ?_
      refine e_in ?_
      refine e_then ?_
      refine c_reg ?_
      refine mv (.int _ _) rfl ?_
      refine addi rfl rfl rfl (by omega) ?_
      refine asg (.int _ _) rfl ?_
      refine jn ?_
      exact e_loop (j + 1, zs.set j (mk 5)) (⟨by rw [List.length_set]; exact hI1.1, Ow.ok_set hI1.2 j (mk 5)⟩) (by (try dsimp only); omega) (⟨rfl, rfl, trivial⟩) rfl rfl rfl
    · replace h2 := of_decide_eq_false h2
      refine c_exit rfl ?_
      refine e_then ?_
      refine c_seq ?_
      refine c_seq ?_
      refine c_reg ?_
      refine mv (.pointer _) rfl ?_
      refine eqpn false rfl rfl Try.underlying24 rfl ?_
      refine jt ?_
      refine c_false rfl ?_
      refine c_skip ?_
      refine e_then ?_
      refine c_seq ?_
      refine c_reg ?_
      refine asg (.bool _) rfl ?_
      refine jt ?_
      refine c_ret ?_
      exact j_end (own0 := [[(bp, .cells (cat [p1 (.pointer (some ⟨bs, 0, none⟩)), p1 (.pointer (some ⟨br, 0, none⟩))]) 42)], [(bs, .cells (cat [p1 (.int .i64 most), p1 (.map (some m)), p1 (.slice o.adr (List.map plc l).length o.cap)]) 76)], [(m, .pred (isMap (List.map skv l)))], o.seg (List.map plc l) 72, [(br, .cells (cat [p1 (.int .i64 most), p1 (.slice rP.adr l.length rP.cap)]) 87)], rP.seg l 33]) (ro0 := [op.s.seg op.l]) (.inl rfl) rfl (hr1 Try.results51 (rvt (v := (.bool _)) rfl)) [0, 1, 2, 3, 4, 5] [6, 7] [_, _, _, _, _, _] [_, _] [] _ rfl rfl (by kernel_rfl) rfl impl_nil (⟨(⟨bs, m, o, most, l, br, rP⟩ : PS), ⟨ho, hrP, by first | assumption | exact hf22.1, by first | exact hnd | exact putL_nd hnd | exact takeL_nd hnd | exact drop_nd hnd | exact hf22.2.1, by first | exact hle | exact putL_most hle | exact takeL_most hle | exact drop_most hle | exact hf22.2.2⟩, rfl, rfl, rfl⟩)
end Go.Proofs.Ytacfjmjcgolhfaa
