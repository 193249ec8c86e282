/- Contracts of the program's functions, walked. No condition. -/
import Derived.Test.YtacfjmjcgolhfaaA24
namespace Go.Proofs.Ytacfjmjcgolhfaa
open Go Go.Proofs Go.PW
open Go.PW.Enc (enc val)

/-- The shelf, as it stands, with all that was handed out. -/
structure SS where
  oL : Ow
  oW : Ow
  oK : Ow
  oY : Ow
  hL : List SlH
  hW : List SlH
  hK : List SlH
  hY : List SlH
  HL : List (Hd Spare)
  HK : List (Hd Key)
structure SS.ok (s : SS) : Prop where
  L : s.oL.ok s.hL
  W : s.oW.ok s.hW
  K : s.oK.ok s.hK
  Y : s.oY.ok s.hY
  eL : s.hL = s.HL.map hdA
  eW : s.hW = s.HL.map hdB
  eK : s.hK = s.HK.map hdA
  eY : s.hY = s.HK.map hdB
  aL : ∀ p ∈ s.HL, p.ok
  aK : ∀ p ∈ s.HK, p.ok
def SS.segs (s : SS) (b : Nat) : List Seg := [[(b, .cells (cat [p1 (.slice s.oL.adr s.hL.length s.oL.cap), p1 (.slice s.oW.adr s.hW.length s.oW.cap), p1 (.slice s.oK.adr s.hK.length s.oK.cap), p1 (.slice s.oY.adr s.hY.length s.oY.cap)]) 48)],
  s.oL.seg s.hL 22, s.oW.seg s.hW 22, s.oK.seg s.hK 77, s.oY.seg s.hY 77, segA 33 s.HL, segB 33 s.HL, segA 30 s.HK, segB 30 s.HK]
theorem segA_snoc {α : Type} [Enc α] {E : Nat} {H : List (Hd α)} {p : Hd α} : segA E (H ++ [p]) = segA E H ++ p.a.seg p.xs E := by simp [segA]
theorem segB_snoc {α : Type} [Enc α] {E : Nat} {H : List (Hd α)} {p : Hd α} : segB E (H ++ [p]) = segB E H ++ p.b.seg p.xs E := by simp [segB]

set_option maxRecDepth 20000 in
set_option maxHeartbeats 4000000 in
theorem step_ct (bp : Nat) (bs m : Nat) (o : Ow) (most : Int) (l : List Spare) (ho : o.ok (List.map plc l)) (br : Nat) (rP : Ow) (hrP : rP.ok l) (hm : 0 ≤ most ∧ most ≤ 2000) (hnd : (l.map plc).Nodup) (hle : (l.length : Int) ≤ most) (bq : Nat) (bsQ mQ : Nat) (oQ : Ow) (mostQ : Int) (lQ : List Spare) (hoQ : oQ.ok (List.map plc lQ)) (brQ : Nat) (rQ : Ow) (hrQ : rQ.ok lQ) (hmQ : 0 ≤ mostQ ∧ mostQ ≤ 2000) (hndQ : (lQ.map plc).Nodup) (hleQ : (lQ.length : Int) ≤ mostQ) (bsh : Nat) (oL oW oK oY : Ow) (hL hW hK hY : List SlH) (HL : List (Hd Spare)) (HK : List (Hd Key)) (hss : SS.ok ⟨oL, oW, oK, oY, hL, hW, hK, hY, HL, HK⟩) (hnL : HL.length ≤ 2000000000000) (hnK : HK.length ≤ 2000000000000) (op : OpR) (hop : op.s.ok op.l ∧ op.l.length ≤ 2069668946341) : Ct Try.prog 26 [.pointer (some ⟨bp, 0, none⟩), val op, .pointer (some ⟨bq, 0, none⟩), .pointer (some ⟨bsh, 0, none⟩)] [[(bp, .cells (cat [p1 (.pointer (some ⟨bs, 0, none⟩)), p1 (.pointer (some ⟨br, 0, none⟩))]) 42)], [(bs, .cells (cat [p1 (.int .i64 most), p1 (.map (some m)), p1 (.slice o.adr (List.map plc l).length o.cap)]) 76)], [(m, .pred (isMap (List.map skv l)))], o.seg (List.map plc l) 72, [(br, .cells (cat [p1 (.int .i64 most), p1 (.slice rP.adr l.length rP.cap)]) 87)], rP.seg l 33, [(bq, .cells (cat [p1 (.pointer (some ⟨bsQ, 0, none⟩)), p1 (.pointer (some ⟨brQ, 0, none⟩))]) 42)], [(bsQ, .cells (cat [p1 (.int .i64 mostQ), p1 (.map (some mQ)), p1 (.slice oQ.adr (List.map plc lQ).length oQ.cap)]) 76)], [(mQ, .pred (isMap (List.map skv lQ)))], oQ.seg (List.map plc lQ) 72, [(brQ, .cells (cat [p1 (.int .i64 mostQ), p1 (.slice rQ.adr lQ.length rQ.cap)]) 87)], rQ.seg lQ 33, [(bsh, .cells (cat [p1 (.slice oL.adr hL.length oL.cap), p1 (.slice oW.adr hW.length oW.cap), p1 (.slice oK.adr hK.length oK.cap), p1 (.slice oY.adr hY.length oY.cap)]) 48)], oL.seg hL 22, oW.seg hW 22, oK.seg hK 77, oY.seg hY 77, segA 33 HL, segB 33 HL, segA 30 HK, segB 30 HK] [op.s.seg op.l] (fun v w r => ∃ (x y : PS) (s : SS), x.ok ∧ y.ok ∧ s.ok ∧ s.HL.length ≤ HL.length + 1 ∧ s.HK.length ≤ HK.length + 1 ∧ v = .bool true ∧ w = x.segs bp ++ (y.segs bq ++ s.segs bsh) ∧ r = []) := by
  have hlL : hL.length = HL.length := (congrArg List.length hss.eL).trans (by simp)
  have hlW : hW.length = HL.length := (congrArg List.length hss.eW).trans (by simp)
  have hlK : hK.length = HK.length := (congrArg List.length hss.eK).trans (by simp)
  have hlY : hY.length = HK.length := (congrArg List.length hss.eY).trans (by simp)
  have hml : (op.l ++ mks).length = op.l.length + 3 := by simp [mks]
  have hhl := hdrs_le l
  refine ct_enter Try.func26 rfl Try.ntmps26 (by kernel_rfl) rfl fun w0 => ?_
  refine c_seq ?_
  refine c_reg ?_
  refine bxx [pt op.kind, pt op.other, p1 (.slice op.s.adr op.l.length op.s.cap), pt op.header, pt op.n, pt op.count] _ rfl rfl fun b5 => ⟨trivial, ?_⟩
  refine asg (.bool _) rfl ?_
  refine jt ?_
  refine c_seq ?_
  refine c_seq ?_
  refine c_reg ?_
  refine fad rfl Try.underlying57 rfl ty3.sz ?_
  refine ldp 21 0 _ rfl rfl rfl rfl ty3 ?_
  refine jt ?_
  refine c_block ?_
  refine c_seq ?_
  refine c_reg ?_
  refine cmp _ rfl rfl rfl ?_
  refine asg (.bool _) rfl ?_
  refine jt ?_
  refine c_cond rfl (fun h1 => ?_) (fun h1 => ?_)
  · replace h1 := of_decide_eq_true h1
    refine c_seq ?_
    refine c_reg ?_
    refine fad rfl Try.underlying57 rfl ty22.sz ?_
    refine ldp 21 2 _ rfl rfl rfl rfl ty22 ?_
    refine cal (hand_ct op.s op.l hop.1 (by omega)) [] [0, 1, 2, 3, 4, 5, 6, 7, 8, 9, 10, 11, 12, 13, 14, 15, 16, 17, 18, 19, 20, 21] [_, _, _, _, _, _, _, _, _, _, _, _, _, _, _, _, _, _, _, _, _, _] rfl rfl rfl (by kernel_rfl) (impl_cons (impl_at 0 rfl) impl_nil) rfl ?_; rintro _ _ _ ⟨o29, ho29, rfl, rfl, rfl⟩; refine ⟨trivial, ?_⟩
    refine asg (.slice _ _ _) rfl ?_
    refine jt ?_
    refine c_seq ?_
    refine c_dr [_, _, _, _, _, _, _, _, _, _, _, _, _, _, _, _, _, _, _, _, _] [] [(0, 0), (1, 0), (2, 0), (3, 0), (4, 0), (5, 0), (6, 0), (7, 0), (8, 0), (9, 1), (10, 0)] follows (by kernel_rfl) calm_body (keepS [0, 4, 5, 6, 7, 8, 9, 10, 11, 12, 13, 14, 15, 16, 17, 18, 19, 20, 21, 22, 23] rfl) ?_
    refine mv (.pointer _) rfl ?_
    refine nlc rfl ?_
    refine fad rfl Try.underlying42 rfl ty24.sz ?_
    refine ldp 0 0 _ rfl rfl rfl rfl ty24 ?_
    refine mv (.slice _ _ _) rfl ?_
    refine fad rfl Try.underlying57 rfl ty22.sz ?_
    refine ldp 18 2 _ rfl rfl rfl rfl ty22 ?_
    refine lenS rfl Try.underlying22 ?_
    refine sli ((o29).vs) 0 op.l.length rfl Try.underlying22 ty33.sz rfl (⟨_, rfl⟩) (by simp) (by have := ho29.le; simp [mks] at this; show op.l.length ≤ o29.cap; omega) (by have := ho29.le; show _ ≤ o29.cap; omega) ?_
    skip
    refine cal (Put_is bs m o most l ho (by omega) (by omega) hnd (Vs.sub (o29).vs 0 65) op.l (handV_ok ho29) (by omega) (z := putE most l op.l) (l2 := (putL most l op.l)) rfl rfl) [1, 2, 3] [0, 4, 5, 6, 7, 8, 9, 10, 11, 12, 13, 14, 15, 16, 17, 18, 19, 20, 21, 22] [_, _, _, _, _, _, _, _, _, _, _, _, _, _, _, _, _, _, _, _] rfl rfl rfl (by kernel_rfl) (impl_cons (handV_impl ho29 20 rfl) impl_nil) rfl ?_; rintro _ _ _ ⟨o39, ho39, rfl, rfl, rfl⟩; refine ⟨keepI [0, 1, 2, 3, 4, 5, 6, 7, 8, 9, 10, 11, 12, 13, 14, 15, 16, 17, 18, 19, 23] rfl, ?_⟩
    refine asg (.int _ _) rfl ?_
    refine jt ?_
    refine c_seq ?_
    refine c_dr [_, _, _, _, _, _, _, _, _, _, _, _, _, _, _, _, _, _, _, _, _, _] [] [(0, 0), (1, 0), (2, 0), (3, 0), (4, 0), (5, 0), (6, 0), (7, 1), (8, 0), (9, 0), (10, 0), (11, 0), (12, 0), (13, 1), (14, 0), (15, 0)] follows (by kernel_rfl) calm_body (keepS [0, 3, 4, 5, 6, 7, 8, 9, 10, 11, 12, 13, 14, 15, 16, 17, 18, 19, 20, 21, 22, 23] rfl) ?_
    refine mv (.int _ _) rfl ?_
    refine mv (.pointer _) rfl ?_
    refine nlc rfl ?_
    refine fad rfl Try.underlying42 rfl ty38.sz ?_
    refine ldp 0 1 _ rfl rfl rfl rfl ty38 ?_
    refine fad rfl Try.underlying57 rfl ty22.sz ?_
    refine ldp 16 2 _ rfl rfl rfl rfl ty22 ?_
    refine cal (RPut_is br rP most l hrP (by omega) (by omega) hnd op.s op.l hop.1 (by omega) (z := putE most l op.l) (l2 := (putL most l op.l)) rfl rfl) [1, 2] [0, 3, 4, 5, 6, 7, 8, 9, 10, 11, 12, 13, 14, 15, 16, 17, 18, 19, 20, 21, 22] [_, _, _, _, _, _, _, _, _, _, _, _, _, _, _, _, _, _, _, _, _] rfl rfl rfl (by kernel_rfl) (impl_cons (impl_at 0 rfl) impl_nil) rfl ?_; rintro _ _ _ ⟨o47, ho47, rfl, rfl, rfl⟩; refine ⟨keepI [0, 1, 2, 3, 4, 5, 6, 7, 8, 9, 10, 11, 12, 13, 14, 15, 16, 17, 18, 19, 20, 23] rfl, ?_⟩
    refine cmp true rfl rfl (by simp [cmpV]) ?_
    refine mv (.bool _) rfl ?_
    refine g_on rfl rfl rfl ?_
    refine mv (.slice _ _ _) rfl ?_
    refine g_on rfl rfl rfl ?_
    refine fad rfl Try.underlying57 rfl ty22.sz ?_
    refine g_on rfl rfl rfl ?_
    refine ldp 16 2 _ rfl rfl rfl rfl ty22 ?_
    refine g_on rfl rfl rfl ?_
    refine cal (left_ct ((o29).vs) op.s op.l (Ow.vs_ok ho29) hop.1 (by omega)) [] [0, 1, 2, 3, 4, 5, 6, 7, 8, 9, 10, 11, 12, 13, 14, 15, 16, 17, 18, 19, 20, 21, 22] [_, _, _, _, _, _, _, _, _, _, _, _, _, _, _, _, _, _, _, _, _, _, _] rfl rfl rfl (by kernel_rfl) (impl_cons (ow_impl 18 rfl) (impl_cons (impl_at 0 rfl) impl_nil)) rfl ?_; rintro _ _ _ ⟨rfl, rfl, rfl⟩; refine ⟨keepI [0, 1, 2, 3, 4, 5, 6, 7, 8, 9, 10, 11, 12, 13, 14, 15, 16, 17, 18, 19, 20, 23] rfl, ?_⟩
    refine pkt (.bool _) rfl rfl ?_
    refine asg (.bool _) rfl ?_
    refine jt ?_
    refine c_seq ?_
    refine c_seq ?_
    refine c_reg ?_
    refine asg (.int _ _) rfl ?_
    refine jt ?_
    refine c_block ?_
    refine c_loop (σ := Nat × List Spare) (fun ⟨j, zs⟩ => zs.length = (op.l ++ mks).length ∧ o29.ok zs) (fun ⟨j, zs⟩ => (op.l ++ mks).length - j) (fun ⟨j, zs⟩ => [(12, .int .i64 (j : Int)), (9, .slice o29.adr (op.l ++ mks).length o29.cap)]) (fun ⟨j, zs⟩ => [[(bp, .cells (cat [p1 (.pointer (some ⟨bs, 0, none⟩)), p1 (.pointer (some ⟨br, 0, none⟩))]) 42)], [(bq, .cells (cat [p1 (.pointer (some ⟨bsQ, 0, none⟩)), p1 (.pointer (some ⟨brQ, 0, none⟩))]) 42)], [(bsQ, .cells (cat [p1 (.int .i64 mostQ), p1 (.map (some mQ)), p1 (.slice oQ.adr (List.map plc lQ).length oQ.cap)]) 76)], [(mQ, .pred (isMap (List.map skv lQ)))], oQ.seg (List.map plc lQ) 72, [(brQ, .cells (cat [p1 (.int .i64 mostQ), p1 (.slice rQ.adr lQ.length rQ.cap)]) 87)], rQ.seg lQ 33, [(bsh, .cells (cat [p1 (.slice oL.adr hL.length oL.cap), p1 (.slice oW.adr hW.length oW.cap), p1 (.slice oK.adr hK.length oK.cap), p1 (.slice oY.adr hY.length oY.cap)]) 48)], oL.seg hL 22, oW.seg hW 22, oK.seg hK 77, oY.seg hY 77, segA 33 HL, segB 33 HL, segA 30 HK, segB 30 HK, [(b5, .cells (cat [pt op.kind, pt op.other, p1 (.slice op.s.adr op.l.length op.s.cap), pt op.header, pt op.n, pt op.count]) 57)], o29.seg zs 33, [(bs, .cells (cat [p1 (.int .i64 most), p1 (.map (some m)), p1 (.slice o39.adr (List.map plc (putL most l op.l)).length o39.cap)]) 76)], [(m, .pred (isMap (List.map skv (putL most l op.l))))], o39.seg (List.map plc (putL most l op.l)) 72, [(br, .cells (cat [p1 (.int .i64 most), p1 (.slice o47.adr (putL most l op.l).length o47.cap)]) 87)], o47.seg (putL most l op.l) 33]) (fun ⟨j, zs⟩ => [op.s.seg op.l]) [9, 12, 55, 56, 57, 58, 59, 60, 61, 62, 63, 64] (0, op.l ++ mks) (⟨rfl, ho29⟩) ⟨rfl, rfl, trivial⟩ rfl rfl ?_
    rintro ⟨j, zs⟩ g1 hI1
    try dsimp only at hI1 ⊢
    refine c_seq ?_
    refine c_seq ?_
    refine c_reg ?_
    refine mv (.int _ _) rfl ?_
    refine mv (.slice _ _ _) rfl ?_
    refine lenS rfl Try.underlying22 ?_
    refine cmp _ rfl rfl rfl ?_
    refine jt ?_
    refine c_cond rfl (fun h2 => ?_) (fun h2 => ?_)
    · replace h2 := of_decide_eq_true h2
      refine c_skip ?_
      refine e_then ?_
      refine c_seq ?_
      refine c_block ?_
      refine c_reg ?_
      refine mv (.slice _ _ _) rfl ?_
      refine mv (.int _ _) rfl ?_
      refine cal (mark_ct 5 (by omega)) [] [0, 1, 2, 3, 4, 5, 6, 7, 8, 9, 10, 11, 12, 13, 14, 15, 16, 17, 18, 19, 20, 21, 22] [_, _, _, _, _, _, _, _, _, _, _, _, _, _, _, _, _, _, _, _, _, _, _] rfl rfl rfl (by kernel_rfl) impl_nil rfl ?_; rintro _ _ _ ⟨rfl, rfl, rfl⟩; refine ⟨trivial, ?_⟩
      refine ixs ((o29).vs) zs j (Ow.vs_ok hI1.2) rfl hI1.1.symm rfl Try.underlying22 ty33.sz rfl (by omega) ?_
      refine sto 17 j (mk 5) hI1.2 rfl rfl rfl rfl rfl (by omega) ty33 ⟨trivial, ?_⟩
      refine jn ?_
      refine e_in ?_
      refine e_then ?_
      refine c_reg ?_
      refine mv (.int _ _) rfl ?_
      refine addi rfl rfl rfl (by omega) ?_
      refine asg (.int _ _) rfl ?_
      refine jn ?_
      exact e_loop (j + 1, zs.set j (mk 5)) (⟨by rw [List.length_set]; exact hI1.1, Ow.ok_set hI1.2 j (mk 5)⟩) (by (try dsimp only); omega) (⟨rfl, rfl, trivial⟩) rfl rfl rfl
    · replace h2 := of_decide_eq_false h2
      refine c_exit rfl ?_
      refine e_then ?_
      refine c_seq ?_
      refine c_reg ?_
      refine mv (.bool _) rfl ?_
      refine asg (.bool _) rfl ?_
      refine jt ?_
      refine c_ret ?_
      exact j_end (own0 := [[(bp, .cells (cat [p1 (.pointer (some ⟨bs, 0, none⟩)), p1 (.pointer (some ⟨br, 0, none⟩))]) 42)], [(bs, .cells (cat [p1 (.int .i64 most), p1 (.map (some m)), p1 (.slice o.adr (List.map plc l).length o.cap)]) 76)], [(m, .pred (isMap (List.map skv l)))], o.seg (List.map plc l) 72, [(br, .cells (cat [p1 (.int .i64 most), p1 (.slice rP.adr l.length rP.cap)]) 87)], rP.seg l 33, [(bq, .cells (cat [p1 (.pointer (some ⟨bsQ, 0, none⟩)), p1 (.pointer (some ⟨brQ, 0, none⟩))]) 42)], [(bsQ, .cells (cat [p1 (.int .i64 mostQ), p1 (.map (some mQ)), p1 (.slice oQ.adr (List.map plc lQ).length oQ.cap)]) 76)], [(mQ, .pred (isMap (List.map skv lQ)))], oQ.seg (List.map plc lQ) 72, [(brQ, .cells (cat [p1 (.int .i64 mostQ), p1 (.slice rQ.adr lQ.length rQ.cap)]) 87)], rQ.seg lQ 33, [(bsh, .cells (cat [p1 (.slice oL.adr hL.length oL.cap), p1 (.slice oW.adr hW.length oW.cap), p1 (.slice oK.adr hK.length oK.cap), p1 (.slice oY.adr hY.length oY.cap)]) 48)], oL.seg hL 22, oW.seg hW 22, oK.seg hK 77, oY.seg hY 77, segA 33 HL, segB 33 HL, segA 30 HK, segB 30 HK]) (ro0 := [op.s.seg op.l]) (.inl rfl) rfl (hr1 Try.results26 (rvt (v := (.bool _)) rfl)) [0, 18, 19, 20, 21, 22, 1, 2, 3, 4, 5, 6, 7, 8, 9, 10, 11, 12, 13, 14, 15] [16, 17] [_, _, _, _, _, _, _, _, _, _, _, _, _, _, _, _, _, _, _, _, _] [_, _] [] _ rfl rfl (by kernel_rfl) rfl impl_nil (⟨(⟨bs, m, o39, most, (putL most l op.l), br, o47⟩ : PS), (⟨bsQ, mQ, oQ, mostQ, lQ, brQ, rQ⟩ : PS), (⟨oL, oW, oK, oY, hL, hW, hK, hY, HL, HK⟩ : SS), ⟨ho39, ho47, by first | assumption | exact hx8.m, by first | exact hnd | exact putL_nd hnd | exact takeL_nd hnd | exact drop_nd hnd | exact hx8.nd | exact hnd, by first | exact hle | exact putL_most hle | exact takeL_most hle | exact drop_most hle | exact hx8.le | exact hle⟩, ⟨hoQ, hrQ, by first | assumption | exact hx8.m, by first | exact hndQ | exact putL_nd hndQ | exact takeL_nd hndQ | exact drop_nd hndQ | exact hx8.nd | exact hnd, by first | exact hleQ | exact putL_most hleQ | exact takeL_most hleQ | exact drop_most hleQ | exact hx8.le | exact hle⟩, ⟨hss.L, hss.W, hss.K, hss.Y, hss.eL, hss.eW, hss.eK, hss.eY, hss.aL, hss.aK⟩, (by first | exact Nat.le_succ _ | (simp; done)), (by first | exact Nat.le_succ _ | (simp; done)), rfl, rfl, rfl⟩)
  · replace h1 := of_decide_eq_false h1
    refine c_seq ?_
    refine c_reg ?_
    refine cmp _ rfl rfl rfl ?_
    refine asg (.bool _) rfl ?_
    refine jt ?_
    refine c_cond rfl (fun h3 => ?_) (fun h3 => ?_)
    · replace h3 := of_decide_eq_true h3
      refine c_seq ?_
      refine c_drT [_, _, _, _, _, _, _, _, _, _, _, _, _, _, _, _, _, _, _, _, _, _, _] [] (PT.of [(0, 0), (1, 0), (2, 0), (3, 0), (4, 0), (5, 0), (6, 0), (7, 0)] (.alt (PT.of [(8, 1), (9, 0), (10, 0), (11, 0), (12, 1), (13, 1), (14, 0)] .leaf) (PT.of [(12, 1), (8, 1), (9, 0), (10, 0), (11, 0), (13, 1), (14, 0)] .leaf))) follows (by kernel_rfl) calm_body (keepS [0, 1, 2, 3, 4, 5, 6, 7, 8, 9, 10, 11, 12, 13, 14, 15, 16, 17, 18, 19, 20, 21, 22] rfl) ?_
      refine jt_of [(0, 0), (1, 0), (2, 0), (3, 0), (4, 0), (5, 0), (6, 0), (7, 0)] ?_
      refine mv (.pointer _) rfl ?_
      refine nlc rfl ?_
      refine fad rfl Try.underlying42 rfl ty24.sz ?_
      refine ldp 0 0 _ rfl rfl rfl rfl ty24 ?_
      refine fad rfl Try.underlying57 rfl ty30.sz ?_
      refine ldp 21 3 _ rfl rfl rfl rfl ty30 ?_
      refine fad rfl Try.underlying57 rfl ty31.sz ?_
      refine ldp 21 4 _ rfl rfl rfl rfl ty31 ?_
      refine j_alt (keepS [0, 1, 2, 3, 4, 5, 6, 7, 8, 9, 10, 11, 12, 13, 14, 15, 16, 17, 18, 19, 20, 21, 22] rfl) ?_
      refine jt_alt ?_ ?_
      · refine jt_fin [(8, 1), (9, 0), (10, 0), (11, 0), (12, 1), (13, 1), (14, 0)] ?_
        refine cal (Find_is bs m o most l ho op.header op.n (z := mget (⟨op.header, op.n⟩ : SpP) (List.map skv l)) (k := (mget (⟨op.header, op.n⟩ : SpP) (List.map skv l)).getD zarr) (f := (mget (⟨op.header, op.n⟩ : SpP) (List.map skv l)).isSome) rfl rfl rfl) [] [0, 1, 2, 3, 4, 5, 6, 7, 8, 9, 10, 11, 12, 13, 14, 15, 16, 17, 18, 19, 20, 21] [_, _, _, _, _, _, _, _, _, _, _, _, _, _, _, _, _, _, _, _, _, _] rfl rfl rfl (by kernel_rfl) (impl_cons (impl_at 2 rfl) (impl_cons (impl_at 3 rfl) (impl_cons (impl_at 4 rfl) impl_nil))) rfl ?_; rintro _ _ _ ⟨rfl, rfl, rfl⟩; refine ⟨keepI [0, 1, 2, 3, 4, 5, 6, 7, 8, 9, 10, 11, 12, 13, 14, 15, 16, 17, 18, 19, 20, 21, 22] rfl, ?_⟩
        refine mv (.tuple _) rfl ?_
        refine xtr (.agg _) rfl rfl ?_
        refine xtr (.bool _) rfl rfl ?_
        refine alo [pt (zarr : Key)] _ z30 rfl fun b13 => ⟨keepI [0, 1, 2, 3, 4, 5, 6, 7, 8, 9, 10, 11, 12, 13, 14, 15, 16, 17, 18, 19, 20, 21, 23] rfl, ?_⟩
        refine stw 22 _ [pt ((mget (⟨op.header, op.n⟩ : SpP) (List.map skv l)).getD zarr)] rfl rfl rfl rfl ty30 ⟨keepI [0, 1, 2, 3, 4, 5, 6, 7, 8, 9, 10, 11, 12, 13, 14, 15, 16, 17, 18, 19, 20, 21, 23] rfl, ?_⟩
        refine asg (.bool _) rfl ?_
        refine jt ?_
        refine c_seq ?_
        refine c_drT [_, _, _, _, _, _, _, _, _, _, _, _, _, _, _, _, _, _, _, _, _, _, _, _] [] (PT.of [(0, 0), (1, 0), (2, 0), (3, 0), (4, 0), (5, 0), (6, 0), (7, 0)] (.alt (PT.of [(8, 1), (9, 0), (10, 0), (11, 0), (12, 1), (13, 1), (14, 0)] .leaf) (PT.of [(12, 1), (8, 1), (9, 0), (10, 0), (11, 0), (13, 1), (14, 0)] .leaf))) follows (by kernel_rfl) calm_body (keepS [0, 1, 2, 3, 4, 5, 6, 7, 8, 9, 10, 11, 12, 13, 14, 15, 16, 17, 18, 19, 20, 21, 22, 23] rfl) ?_
        refine jt_of [(0, 0), (1, 0), (2, 0), (3, 0), (4, 0), (5, 0), (6, 0), (7, 0)] ?_
        refine mv (.pointer _) rfl ?_
        refine nlc rfl ?_
        refine fad rfl Try.underlying42 rfl ty38.sz ?_
        refine ldp 0 1 _ rfl rfl rfl rfl ty38 ?_
        refine fad rfl Try.underlying57 rfl ty30.sz ?_
        refine ldp 21 3 _ rfl rfl rfl rfl ty30 ?_
        refine fad rfl Try.underlying57 rfl ty31.sz ?_
        refine ldp 21 4 _ rfl rfl rfl rfl ty31 ?_
        refine j_alt (keepS [0, 1, 2, 3, 4, 5, 6, 7, 8, 9, 10, 11, 12, 13, 14, 15, 16, 17, 18, 19, 20, 21, 22, 23] rfl) ?_
        refine jt_alt ?_ ?_
        · refine jt_fin [(8, 1), (9, 0), (10, 0), (11, 0), (12, 1), (13, 1), (14, 0)] ?_
          refine cal (RFind_ct br rP most l hrP (by omega) hnd op.header op.n) [] [0, 1, 2, 3, 4, 5, 6, 7, 8, 9, 10, 11, 12, 13, 14, 15, 16, 17, 18, 19, 20, 21, 22] [_, _, _, _, _, _, _, _, _, _, _, _, _, _, _, _, _, _, _, _, _, _, _] rfl rfl rfl (by kernel_rfl) (impl_cons (impl_at 5 rfl) (impl_cons (impl_at 6 rfl) impl_nil)) rfl ?_; rintro _ _ _ ⟨rfl, rfl, rfl⟩; refine ⟨keepI [0, 1, 2, 3, 4, 5, 6, 7, 8, 9, 10, 11, 12, 13, 14, 15, 16, 17, 18, 19, 20, 21, 22, 23] rfl, ?_⟩
          refine mv (.tuple _) rfl ?_
          refine xtr (.agg _) rfl rfl ?_
          refine xtr (.bool _) rfl rfl ?_
          refine alo [pt (zarr : Key)] _ z30 rfl fun b15 => ⟨keepI [0, 1, 2, 3, 4, 5, 6, 7, 8, 9, 10, 11, 12, 13, 14, 15, 16, 17, 18, 19, 20, 21, 22, 24] rfl, ?_⟩
          refine stw 23 _ [pt ((mget (⟨op.header, op.n⟩ : SpP) (List.map skv l)).getD zarr)] rfl rfl rfl rfl ty30 ⟨keepI [0, 1, 2, 3, 4, 5, 6, 7, 8, 9, 10, 11, 12, 13, 14, 15, 16, 17, 18, 19, 20, 21, 22, 24] rfl, ?_⟩
          refine asg (.bool _) rfl ?_
          refine jt ?_
          refine c_seq ?_
          refine c_reg ?_
          refine ldp 22 0 _ rfl rfl rfl rfl ty30 ?_
          refine ldp 23 0 _ rfl rfl rfl rfl ty30 ?_
          refine eqA ((mget (⟨op.header, op.n⟩ : SpP) (List.map skv l)).getD zarr) ((mget (⟨op.header, op.n⟩ : SpP) (List.map skv l)).getD zarr) true rfl rfl rfl rfl eq30 rfl Try.eqGuardType30 (by simp) ?_
          refine mv (.bool _) rfl ?_
          refine g_on rfl rfl rfl ?_
          refine mv (.bool _) rfl ?_
          refine g_on rfl rfl rfl ?_
          refine mv (.bool _) rfl ?_
          refine g_on rfl rfl rfl ?_
          refine eqbo true rfl rfl Try.underlying4 (by simp) ?_
          refine pkt (.bool _) rfl rfl ?_
          refine asg (.bool _) rfl ?_
          refine jt ?_
          refine c_ret ?_
          exact j_end (own0 := [[(bp, .cells (cat [p1 (.pointer (some ⟨bs, 0, none⟩)), p1 (.pointer (some ⟨br, 0, none⟩))]) 42)], [(bs, .cells (cat [p1 (.int .i64 most), p1 (.map (some m)), p1 (.slice o.adr (List.map plc l).length o.cap)]) 76)], [(m, .pred (isMap (List.map skv l)))], o.seg (List.map plc l) 72, [(br, .cells (cat [p1 (.int .i64 most), p1 (.slice rP.adr l.length rP.cap)]) 87)], rP.seg l 33, [(bq, .cells (cat [p1 (.pointer (some ⟨bsQ, 0, none⟩)), p1 (.pointer (some ⟨brQ, 0, none⟩))]) 42)], [(bsQ, .cells (cat [p1 (.int .i64 mostQ), p1 (.map (some mQ)), p1 (.slice oQ.adr (List.map plc lQ).length oQ.cap)]) 76)], [(mQ, .pred (isMap (List.map skv lQ)))], oQ.seg (List.map plc lQ) 72, [(brQ, .cells (cat [p1 (.int .i64 mostQ), p1 (.slice rQ.adr lQ.length rQ.cap)]) 87)], rQ.seg lQ 33, [(bsh, .cells (cat [p1 (.slice oL.adr hL.length oL.cap), p1 (.slice oW.adr hW.length oW.cap), p1 (.slice oK.adr hK.length oK.cap), p1 (.slice oY.adr hY.length oY.cap)]) 48)], oL.seg hL 22, oW.seg hW 22, oK.seg hK 77, oY.seg hY 77, segA 33 HL, segB 33 HL, segA 30 HK, segB 30 HK]) (ro0 := [op.s.seg op.l]) (.inl rfl) rfl (hr1 Try.results26 (rvt (v := (.bool _)) rfl)) [0, 1, 2, 3, 4, 5, 6, 7, 8, 9, 10, 11, 12, 13, 14, 15, 16, 17, 18, 19, 20] [21, 22, 23] [_, _, _, _, _, _, _, _, _, _, _, _, _, _, _, _, _, _, _, _, _] [_, _, _] [] _ rfl rfl (by kernel_rfl) rfl impl_nil (⟨(⟨bs, m, o, most, l, br, rP⟩ : PS), (⟨bsQ, mQ, oQ, mostQ, lQ, brQ, rQ⟩ : PS), (⟨oL, oW, oK, oY, hL, hW, hK, hY, HL, HK⟩ : SS), ⟨ho, hrP, by first | assumption | exact hx8.m, by first | exact hnd | exact putL_nd hnd | exact takeL_nd hnd | exact drop_nd hnd | exact hx8.nd | exact hnd, by first | exact hle | exact putL_most hle | exact takeL_most hle | exact drop_most hle | exact hx8.le | exact hle⟩, ⟨hoQ, hrQ, by first | assumption | exact hx8.m, by first | exact hndQ | exact putL_nd hndQ | exact takeL_nd hndQ | exact drop_nd hndQ | exact hx8.nd | exact hnd, by first | exact hleQ | exact putL_most hleQ | exact takeL_most hleQ | exact drop_most hleQ | exact hx8.le | exact hle⟩, ⟨hss.L, hss.W, hss.K, hss.Y, hss.eL, hss.eW, hss.eK, hss.eY, hss.aL, hss.aK⟩, (by first | exact Nat.le_succ _ | (simp; done)), (by first | exact Nat.le_succ _ | (simp; done)), rfl, rfl, rfl⟩)
        · refine jt_fin [(12, 1), (8, 1), (9, 0), (10, 0), (11, 0), (13, 1), (14, 0)] ?_
          refine alo [pt (zarr : Key)] _ z30 rfl fun b15 => ⟨keepI [0, 1, 2, 3, 4, 5, 6, 7, 8, 9, 10, 11, 12, 13, 14, 15, 16, 17, 18, 19, 20, 21, 22, 24] rfl, ?_⟩
          refine cal (RFind_ct br rP most l hrP (by omega) hnd op.header op.n) [] [0, 1, 2, 3, 4, 5, 6, 7, 8, 9, 10, 11, 12, 13, 14, 15, 16, 17, 18, 19, 20, 21, 22, 23] [_, _, _, _, _, _, _, _, _, _, _, _, _, _, _, _, _, _, _, _, _, _, _, _] rfl rfl rfl (by kernel_rfl) (impl_cons (impl_at 5 rfl) (impl_cons (impl_at 6 rfl) impl_nil)) rfl ?_; rintro _ _ _ ⟨rfl, rfl, rfl⟩; refine ⟨keepI [0, 1, 2, 3, 4, 5, 6, 7, 8, 9, 10, 11, 12, 13, 14, 15, 16, 17, 18, 19, 20, 21, 22, 24] rfl, ?_⟩
          refine mv (.tuple _) rfl ?_
          refine xtr (.agg _) rfl rfl ?_
          refine xtr (.bool _) rfl rfl ?_
          refine stw 23 _ [pt ((mget (⟨op.header, op.n⟩ : SpP) (List.map skv l)).getD zarr)] rfl rfl rfl rfl ty30 ⟨keepI [0, 1, 2, 3, 4, 5, 6, 7, 8, 9, 10, 11, 12, 13, 14, 15, 16, 17, 18, 19, 20, 21, 22, 24] rfl, ?_⟩
          refine asg (.bool _) rfl ?_
          refine jt ?_
          refine c_seq ?_
          refine c_reg ?_
          refine ldp 22 0 _ rfl rfl rfl rfl ty30 ?_
          refine ldp 23 0 _ rfl rfl rfl rfl ty30 ?_
          refine eqA ((mget (⟨op.header, op.n⟩ : SpP) (List.map skv l)).getD zarr) ((mget (⟨op.header, op.n⟩ : SpP) (List.map skv l)).getD zarr) true rfl rfl rfl rfl eq30 rfl Try.eqGuardType30 (by simp) ?_
          refine mv (.bool _) rfl ?_
          refine g_on rfl rfl rfl ?_
          refine mv (.bool _) rfl ?_
          refine g_on rfl rfl rfl ?_
          refine mv (.bool _) rfl ?_
          refine g_on rfl rfl rfl ?_
          refine eqbo true rfl rfl Try.underlying4 (by simp) ?_
          refine pkt (.bool _) rfl rfl ?_
          refine asg (.bool _) rfl ?_
          refine jt ?_
          refine c_ret ?_
          exact j_end (own0 := [[(bp, .cells (cat [p1 (.pointer (some ⟨bs, 0, none⟩)), p1 (.pointer (some ⟨br, 0, none⟩))]) 42)], [(bs, .cells (cat [p1 (.int .i64 most), p1 (.map (some m)), p1 (.slice o.adr (List.map plc l).length o.cap)]) 76)], [(m, .pred (isMap (List.map skv l)))], o.seg (List.map plc l) 72, [(br, .cells (cat [p1 (.int .i64 most), p1 (.slice rP.adr l.length rP.cap)]) 87)], rP.seg l 33, [(bq, .cells (cat [p1 (.pointer (some ⟨bsQ, 0, none⟩)), p1 (.pointer (some ⟨brQ, 0, none⟩))]) 42)], [(bsQ, .cells (cat [p1 (.int .i64 mostQ), p1 (.map (some mQ)), p1 (.slice oQ.adr (List.map plc lQ).length oQ.cap)]) 76)], [(mQ, .pred (isMap (List.map skv lQ)))], oQ.seg (List.map plc lQ) 72, [(brQ, .cells (cat [p1 (.int .i64 mostQ), p1 (.slice rQ.adr lQ.length rQ.cap)]) 87)], rQ.seg lQ 33, [(bsh, .cells (cat [p1 (.slice oL.adr hL.length oL.cap), p1 (.slice oW.adr hW.length oW.cap), p1 (.slice oK.adr hK.length oK.cap), p1 (.slice oY.adr hY.length oY.cap)]) 48)], oL.seg hL 22, oW.seg hW 22, oK.seg hK 77, oY.seg hY 77, segA 33 HL, segB 33 HL, segA 30 HK, segB 30 HK]) (ro0 := [op.s.seg op.l]) (.inl rfl) rfl (hr1 Try.results26 (rvt (v := (.bool _)) rfl)) [0, 1, 2, 3, 4, 5, 6, 7, 8, 9, 10, 11, 12, 13, 14, 15, 16, 17, 18, 19, 20] [21, 22, 23] [_, _, _, _, _, _, _, _, _, _, _, _, _, _, _, _, _, _, _, _, _] [_, _, _] [] _ rfl rfl (by kernel_rfl) rfl impl_nil (⟨(⟨bs, m, o, most, l, br, rP⟩ : PS), (⟨bsQ, mQ, oQ, mostQ, lQ, brQ, rQ⟩ : PS), (⟨oL, oW, oK, oY, hL, hW, hK, hY, HL, HK⟩ : SS), ⟨ho, hrP, by first | assumption | exact hx8.m, by first | exact hnd | exact putL_nd hnd | exact takeL_nd hnd | exact drop_nd hnd | exact hx8.nd | exact hnd, by first | exact hle | exact putL_most hle | exact takeL_most hle | exact drop_most hle | exact hx8.le | exact hle⟩, ⟨hoQ, hrQ, by first | assumption | exact hx8.m, by first | exact hndQ | exact putL_nd hndQ | exact takeL_nd hndQ | exact drop_nd hndQ | exact hx8.nd | exact hnd, by first | exact hleQ | exact putL_most hleQ | exact takeL_most hleQ | exact drop_most hleQ | exact hx8.le | exact hle⟩, ⟨hss.L, hss.W, hss.K, hss.Y, hss.eL, hss.eW, hss.eK, hss.eY, hss.aL, hss.aK⟩, (by first | exact Nat.le_succ _ | (simp; done)), (by first | exact Nat.le_succ _ | (simp; done)), rfl, rfl, rfl⟩)
      · refine jt_fin [(12, 1), (8, 1), (9, 0), (10, 0), (11, 0), (13, 1), (14, 0)] ?_
        refine alo [pt (zarr : Key)] _ z30 rfl fun b13 => ⟨keepI [0, 1, 2, 3, 4, 5, 6, 7, 8, 9, 10, 11, 12, 13, 14, 15, 16, 17, 18, 19, 20, 21, 23] rfl, ?_⟩
        refine cal (Find_is bs m o most l ho op.header op.n (z := mget (⟨op.header, op.n⟩ : SpP) (List.map skv l)) (k := (mget (⟨op.header, op.n⟩ : SpP) (List.map skv l)).getD zarr) (f := (mget (⟨op.header, op.n⟩ : SpP) (List.map skv l)).isSome) rfl rfl rfl) [] [0, 1, 2, 3, 4, 5, 6, 7, 8, 9, 10, 11, 12, 13, 14, 15, 16, 17, 18, 19, 20, 21, 22] [_, _, _, _, _, _, _, _, _, _, _, _, _, _, _, _, _, _, _, _, _, _, _] rfl rfl rfl (by kernel_rfl) (impl_cons (impl_at 2 rfl) (impl_cons (impl_at 3 rfl) (impl_cons (impl_at 4 rfl) impl_nil))) rfl ?_; rintro _ _ _ ⟨rfl, rfl, rfl⟩; refine ⟨keepI [0, 1, 2, 3, 4, 5, 6, 7, 8, 9, 10, 11, 12, 13, 14, 15, 16, 17, 18, 19, 20, 21, 23] rfl, ?_⟩
        refine mv (.tuple _) rfl ?_
        refine xtr (.agg _) rfl rfl ?_
        refine xtr (.bool _) rfl rfl ?_
        refine stw 22 _ [pt ((mget (⟨op.header, op.n⟩ : SpP) (List.map skv l)).getD zarr)] rfl rfl rfl rfl ty30 ⟨keepI [0, 1, 2, 3, 4, 5, 6, 7, 8, 9, 10, 11, 12, 13, 14, 15, 16, 17, 18, 19, 20, 21, 23] rfl, ?_⟩
        refine asg (.bool _) rfl ?_
        refine jt ?_
        refine c_seq ?_
        refine c_drT [_, _, _, _, _, _, _, _, _, _, _, _, _, _, _, _, _, _, _, _, _, _, _, _] [] (PT.of [(0, 0), (1, 0), (2, 0), (3, 0), (4, 0), (5, 0), (6, 0), (7, 0)] (.alt (PT.of [(8, 1), (9, 0), (10, 0), (11, 0), (12, 1), (13, 1), (14, 0)] .leaf) (PT.of [(12, 1), (8, 1), (9, 0), (10, 0), (11, 0), (13, 1), (14, 0)] .leaf))) follows (by kernel_rfl) calm_body (keepS [0, 1, 2, 3, 4, 5, 6, 7, 8, 9, 10, 11, 12, 13, 14, 15, 16, 17, 18, 19, 20, 21, 22, 23] rfl) ?_
        refine jt_of [(0, 0), (1, 0), (2, 0), (3, 0), (4, 0), (5, 0), (6, 0), (7, 0)] ?_
        refine mv (.pointer _) rfl ?_
        refine nlc rfl ?_
        refine fad rfl Try.underlying42 rfl ty38.sz ?_
        refine ldp 0 1 _ rfl rfl rfl rfl ty38 ?_
        refine fad rfl Try.underlying57 rfl ty30.sz ?_
        refine ldp 21 3 _ rfl rfl rfl rfl ty30 ?_
        refine fad rfl Try.underlying57 rfl ty31.sz ?_
        refine ldp 21 4 _ rfl rfl rfl rfl ty31 ?_
        refine j_alt (keepS [0, 1, 2, 3, 4, 5, 6, 7, 8, 9, 10, 11, 12, 13, 14, 15, 16, 17, 18, 19, 20, 21, 22, 23] rfl) ?_
        refine jt_alt ?_ ?_
        · refine jt_fin [(8, 1), (9, 0), (10, 0), (11, 0), (12, 1), (13, 1), (14, 0)] ?_
          refine cal (RFind_ct br rP most l hrP (by omega) hnd op.header op.n) [] [0, 1, 2, 3, 4, 5, 6, 7, 8, 9, 10, 11, 12, 13, 14, 15, 16, 17, 18, 19, 20, 21, 22] [_, _, _, _, _, _, _, _, _, _, _, _, _, _, _, _, _, _, _, _, _, _, _] rfl rfl rfl (by kernel_rfl) (impl_cons (impl_at 5 rfl) (impl_cons (impl_at 6 rfl) impl_nil)) rfl ?_; rintro _ _ _ ⟨rfl, rfl, rfl⟩; refine ⟨keepI [0, 1, 2, 3, 4, 5, 6, 7, 8, 9, 10, 11, 12, 13, 14, 15, 16, 17, 18, 19, 20, 21, 22, 23] rfl, ?_⟩
          refine mv (.tuple _) rfl ?_
          refine xtr (.agg _) rfl rfl ?_
          refine xtr (.bool _) rfl rfl ?_
          refine alo [pt (zarr : Key)] _ z30 rfl fun b15 => ⟨keepI [0, 1, 2, 3, 4, 5, 6, 7, 8, 9, 10, 11, 12, 13, 14, 15, 16, 17, 18, 19, 20, 21, 22, 24] rfl, ?_⟩
          refine stw 23 _ [pt ((mget (⟨op.header, op.n⟩ : SpP) (List.map skv l)).getD zarr)] rfl rfl rfl rfl ty30 ⟨keepI [0, 1, 2, 3, 4, 5, 6, 7, 8, 9, 10, 11, 12, 13, 14, 15, 16, 17, 18, 19, 20, 21, 22, 24] rfl, ?_⟩
          refine asg (.bool _) rfl ?_
          refine jt ?_
          refine c_seq ?_
          refine c_reg ?_
          refine ldp 22 0 _ rfl rfl rfl rfl ty30 ?_
          refine ldp 23 0 _ rfl rfl rfl rfl ty30 ?_
          refine eqA ((mget (⟨op.header, op.n⟩ : SpP) (List.map skv l)).getD zarr) ((mget (⟨op.header, op.n⟩ : SpP) (List.map skv l)).getD zarr) true rfl rfl rfl rfl eq30 rfl Try.eqGuardType30 (by simp) ?_
          refine mv (.bool _) rfl ?_
          refine g_on rfl rfl rfl ?_
          refine mv (.bool _) rfl ?_
          refine g_on rfl rfl rfl ?_
          refine mv (.bool _) rfl ?_
          refine g_on rfl rfl rfl ?_
          refine eqbo true rfl rfl Try.underlying4 (by simp) ?_
          refine pkt (.bool _) rfl rfl ?_
          refine asg (.bool _) rfl ?_
          refine jt ?_
          refine c_ret ?_
          exact j_end (own0 := [[(bp, .cells (cat [p1 (.pointer (some ⟨bs, 0, none⟩)), p1 (.pointer (some ⟨br, 0, none⟩))]) 42)], [(bs, .cells (cat [p1 (.int .i64 most), p1 (.map (some m)), p1 (.slice o.adr (List.map plc l).length o.cap)]) 76)], [(m, .pred (isMap (List.map skv l)))], o.seg (List.map plc l) 72, [(br, .cells (cat [p1 (.int .i64 most), p1 (.slice rP.adr l.length rP.cap)]) 87)], rP.seg l 33, [(bq, .cells (cat [p1 (.pointer (some ⟨bsQ, 0, none⟩)), p1 (.pointer (some ⟨brQ, 0, none⟩))]) 42)], [(bsQ, .cells (cat [p1 (.int .i64 mostQ), p1 (.map (some mQ)), p1 (.slice oQ.adr (List.map plc lQ).length oQ.cap)]) 76)], [(mQ, .pred (isMap (List.map skv lQ)))], oQ.seg (List.map plc lQ) 72, [(brQ, .cells (cat [p1 (.int .i64 mostQ), p1 (.slice rQ.adr lQ.length rQ.cap)]) 87)], rQ.seg lQ 33, [(bsh, .cells (cat [p1 (.slice oL.adr hL.length oL.cap), p1 (.slice oW.adr hW.length oW.cap), p1 (.slice oK.adr hK.length oK.cap), p1 (.slice oY.adr hY.length oY.cap)]) 48)], oL.seg hL 22, oW.seg hW 22, oK.seg hK 77, oY.seg hY 77, segA 33 HL, segB 33 HL, segA 30 HK, segB 30 HK]) (ro0 := [op.s.seg op.l]) (.inl rfl) rfl (hr1 Try.results26 (rvt (v := (.bool _)) rfl)) [0, 1, 2, 3, 4, 5, 6, 7, 8, 9, 10, 11, 12, 13, 14, 15, 16, 17, 18, 19, 20] [21, 22, 23] [_, _, _, _, _, _, _, _, _, _, _, _, _, _, _, _, _, _, _, _, _] [_, _, _] [] _ rfl rfl (by kernel_rfl) rfl impl_nil (⟨(⟨bs, m, o, most, l, br, rP⟩ : PS), (⟨bsQ, mQ, oQ, mostQ, lQ, brQ, rQ⟩ : PS), (⟨oL, oW, oK, oY, hL, hW, hK, hY, HL, HK⟩ : SS), ⟨ho, hrP, by first | assumption | exact hx8.m, by first | exact hnd | exact putL_nd hnd | exact takeL_nd hnd | exact drop_nd hnd | exact hx8.nd | exact hnd, by first | exact hle | exact putL_most hle | exact takeL_most hle | exact drop_most hle | exact hx8.le | exact hle⟩, ⟨hoQ, hrQ, by first | assumption | exact hx8.m, by first | exact hndQ | exact putL_nd hndQ | exact takeL_nd hndQ | exact drop_nd hndQ | exact hx8.nd | exact hnd, by first | exact hleQ | exact putL_most hleQ | exact takeL_most hleQ | exact drop_most hleQ | exact hx8.le | exact hle⟩, ⟨hss.L, hss.W, hss.K, hss.Y, hss.eL, hss.eW, hss.eK, hss.eY, hss.aL, hss.aK⟩, (by first | exact Nat.le_succ _ | (simp; done)), (by first | exact Nat.le_succ _ | (simp; done)), rfl, rfl, rfl⟩)
        · refine jt_fin [(12, 1), (8, 1), (9, 0), (10, 0), (11, 0), (13, 1), (14, 0)] ?_
          refine alo [pt (zarr : Key)] _ z30 rfl fun b15 => ⟨keepI [0, 1, 2, 3, 4, 5, 6, 7, 8, 9, 10, 11, 12, 13, 14, 15, 16, 17, 18, 19, 20, 21, 22, 24] rfl, ?_⟩
          refine cal (RFind_ct br rP most l hrP (by omega) hnd op.header op.n) [] [0, 1, 2, 3, 4, 5, 6, 7, 8, 9, 10, 11, 12, 13, 14, 15, 16, 17, 18, 19, 20, 21, 22, 23] [_, _, _, _, _, _, _, _, _, _, _, _, _, _, _, _, _, _, _, _, _, _, _, _] rfl rfl rfl (by kernel_rfl) (impl_cons (impl_at 5 rfl) (impl_cons (impl_at 6 rfl) impl_nil)) rfl ?_; rintro _ _ _ ⟨rfl, rfl, rfl⟩; refine ⟨keepI [0, 1, 2, 3, 4, 5, 6, 7, 8, 9, 10, 11, 12, 13, 14, 15, 16, 17, 18, 19, 20, 21, 22, 24] rfl, ?_⟩
          refine mv (.tuple _) rfl ?_
          refine xtr (.agg _) rfl rfl ?_
          refine xtr (.bool _) rfl rfl ?_
          refine stw 23 _ [pt ((mget (⟨op.header, op.n⟩ : SpP) (List.map skv l)).getD zarr)] rfl rfl rfl rfl ty30 ⟨keepI [0, 1, 2, 3, 4, 5, 6, 7, 8, 9, 10, 11, 12, 13, 14, 15, 16, 17, 18, 19, 20, 21, 22, 24] rfl, ?_⟩
          refine asg (.bool _) rfl ?_
          refine jt ?_
          refine c_seq ?_
          refine c_reg ?_
          refine ldp 22 0 _ rfl rfl rfl rfl ty30 ?_
          refine ldp 23 0 _ rfl rfl rfl rfl ty30 ?_
          refine eqA ((mget (⟨op.header, op.n⟩ : SpP) (List.map skv l)).getD zarr) ((mget (⟨op.header, op.n⟩ : SpP) (List.map skv l)).getD zarr) true rfl rfl rfl rfl eq30 rfl Try.eqGuardType30 (by simp) ?_
          refine mv (.bool _) rfl ?_
          refine g_on rfl rfl rfl ?_
          refine mv (.bool _) rfl ?_
          refine g_on rfl rfl rfl ?_
          refine mv (.bool _) rfl ?_
          refine g_on rfl rfl rfl ?_
          refine eqbo true rfl rfl Try.underlying4 (by simp) ?_
          refine pkt (.bool _) rfl rfl ?_
          refine asg (.bool _) rfl ?_
          refine jt ?_
          refine c_ret ?_
          exact j_end (own0 := [[(bp, .cells (cat [p1 (.pointer (some ⟨bs, 0, none⟩)), p1 (.pointer (some ⟨br, 0, none⟩))]) 42)], [(bs, .cells (cat [p1 (.int .i64 most), p1 (.map (some m)), p1 (.slice o.adr (List.map plc l).length o.cap)]) 76)], [(m, .pred (isMap (List.map skv l)))], o.seg (List.map plc l) 72, [(br, .cells (cat [p1 (.int .i64 most), p1 (.slice rP.adr l.length rP.cap)]) 87)], rP.seg l 33, [(bq, .cells (cat [p1 (.pointer (some ⟨bsQ, 0, none⟩)), p1 (.pointer (some ⟨brQ, 0, none⟩))]) 42)], [(bsQ, .cells (cat [p1 (.int .i64 mostQ), p1 (.map (some mQ)), p1 (.slice oQ.adr (List.map plc lQ).length oQ.cap)]) 76)], [(mQ, .pred (isMap (List.map skv lQ)))], oQ.seg (List.map plc lQ) 72, [(brQ, .cells (cat [p1 (.int .i64 mostQ), p1 (.slice rQ.adr lQ.length rQ.cap)]) 87)], rQ.seg lQ 33, [(bsh, .cells (cat [p1 (.slice oL.adr hL.length oL.cap), p1 (.slice oW.adr hW.length oW.cap), p1 (.slice oK.adr hK.length oK.cap), p1 (.slice oY.adr hY.length oY.cap)]) 48)], oL.seg hL 22, oW.seg hW 22, oK.seg hK 77, oY.seg hY 77, segA 33 HL, segB 33 HL, segA 30 HK, segB 30 HK]) (ro0 := [op.s.seg op.l]) (.inl rfl) rfl (hr1 Try.results26 (rvt (v := (.bool _)) rfl)) [0, 1, 2, 3, 4, 5, 6, 7, 8, 9, 10, 11, 12, 13, 14, 15, 16, 17, 18, 19, 20] [21, 22, 23] [_, _, _, _, _, _, _, _, _, _, _, _, _, _, _, _, _, _, _, _, _] [_, _, _] [] _ rfl rfl (by kernel_rfl) rfl impl_nil (⟨(⟨bs, m, o, most, l, br, rP⟩ : PS), (⟨bsQ, mQ, oQ, mostQ, lQ, brQ, rQ⟩ : PS), (⟨oL, oW, oK, oY, hL, hW, hK, hY, HL, HK⟩ : SS), ⟨ho, hrP, by first | assumption | exact hx8.m, by first | exact hnd | exact putL_nd hnd | exact takeL_nd hnd | exact drop_nd hnd | exact hx8.nd | exact hnd, by first | exact hle | exact putL_most hle | exact takeL_most hle | exact drop_most hle | exact hx8.le | exact hle⟩, ⟨hoQ, hrQ, by first | assumption | exact hx8.m, by first | exact hndQ | exact putL_nd hndQ | exact takeL_nd hndQ | exact drop_nd hndQ | exact hx8.nd | exact hnd, by first | exact hleQ | exact putL_most hleQ | exact takeL_most hleQ | exact drop_most hleQ | exact hx8.le | exact hle⟩, ⟨hss.L, hss.W, hss.K, hss.Y, hss.eL, hss.eW, hss.eK, hss.eY, hss.aL, hss.aK⟩, (by first | exact Nat.le_succ _ | (simp; done)), (by first | exact Nat.le_succ _ | (simp; done)), rfl, rfl, rfl⟩)
    · replace h3 := of_decide_eq_false h3
      refine c_seq ?_
      refine c_reg ?_
      refine cmp _ rfl rfl rfl ?_
      refine asg (.bool _) rfl ?_
      refine jt ?_
      refine c_cond rfl (fun h4 => ?_) (fun h4 => ?_)
      · replace h4 := of_decide_eq_true h4
        refine c_seq ?_
        refine c_drT [_, _, _, _, _, _, _, _, _, _, _, _, _, _, _, _, _, _, _, _] [] (PT.of [(0, 0), (1, 0), (2, 0), (3, 0), (4, 0), (5, 0), (6, 0), (7, 0)] (.alt (PT.of [(8, 1), (9, 0), (10, 0), (11, 0), (12, 1), (13, 1), (14, 0)] .leaf) (PT.of [(12, 1), (8, 1), (9, 0), (10, 0), (11, 0), (13, 1), (14, 0)] .leaf))) follows (by kernel_rfl) calm_body (keepS [0, 4, 5, 6, 7, 8, 9, 10, 11, 12, 13, 14, 15, 16, 17, 18, 19, 20, 21, 22] rfl) ?_
        refine jt_of [(0, 0), (1, 0), (2, 0), (3, 0), (4, 0), (5, 0), (6, 0), (7, 0)] ?_
        refine mv (.pointer _) rfl ?_
        refine nlc rfl ?_
        refine fad rfl Try.underlying42 rfl ty24.sz ?_
        refine ldp 0 0 _ rfl rfl rfl rfl ty24 ?_
        refine fad rfl Try.underlying57 rfl ty30.sz ?_
        refine ldp 18 3 _ rfl rfl rfl rfl ty30 ?_
        refine fad rfl Try.underlying57 rfl ty31.sz ?_
        refine ldp 18 4 _ rfl rfl rfl rfl ty31 ?_
        refine j_alt (keepS [0, 4, 5, 6, 7, 8, 9, 10, 11, 12, 13, 14, 15, 16, 17, 18, 19, 20, 21, 22] rfl) ?_
        refine jt_alt ?_ ?_
        · refine jt_fin [(8, 1), (9, 0), (10, 0), (11, 0), (12, 1), (13, 1), (14, 0)] ?_
          refine cal (Take_is bs m o most l ho (by omega) hnd op.header op.n (l2 := (takeL op.header op.n l)) (k := ((mget (⟨op.header, op.n⟩ : SpP) (List.map skv l)).getD zarr)) (f := (mget (⟨op.header, op.n⟩ : SpP) (List.map skv l)).isSome) rfl rfl rfl) [1, 2, 3] [0, 4, 5, 6, 7, 8, 9, 10, 11, 12, 13, 14, 15, 16, 17, 18, 19, 20, 21] [_, _, _, _, _, _, _, _, _, _, _, _, _, _, _, _, _, _, _] rfl rfl rfl (by kernel_rfl) impl_nil rfl ?_; rintro _ _ _ ⟨o111, ho111, rfl, rfl, rfl⟩; refine ⟨keepI [0, 1, 2, 3, 4, 5, 6, 7, 8, 9, 10, 11, 12, 13, 14, 15, 16, 17, 18, 22] rfl, ?_⟩
          refine mv (.tuple _) rfl ?_
          refine xtr (.agg _) rfl rfl ?_
          refine xtr (.bool _) rfl rfl ?_
          refine alo [pt (zarr : Key)] _ z30 rfl fun b17 => ⟨keepI [0, 1, 2, 3, 4, 5, 6, 7, 8, 9, 10, 11, 12, 13, 14, 15, 16, 17, 18, 23] rfl, ?_⟩
          refine stw 22 _ [pt ((mget (⟨op.header, op.n⟩ : SpP) (List.map skv l)).getD zarr)] rfl rfl rfl rfl ty30 ⟨keepI [0, 1, 2, 3, 4, 5, 6, 7, 8, 9, 10, 11, 12, 13, 14, 15, 16, 17, 18, 23] rfl, ?_⟩
          refine asg (.bool _) rfl ?_
          refine jt ?_
          refine c_seq ?_
          refine c_drT [_, _, _, _, _, _, _, _, _, _, _, _, _, _, _, _, _, _, _, _, _, _] [] (PT.of [(0, 0), (1, 0), (2, 0), (3, 0), (4, 0), (5, 0), (6, 0), (7, 0)] (.alt (PT.of [(8, 1), (9, 0), (10, 0), (11, 0), (12, 1), (13, 1), (14, 0)] .leaf) (PT.of [(12, 1), (8, 1), (9, 0), (10, 0), (11, 0), (13, 1), (14, 0)] .leaf))) follows (by kernel_rfl) calm_body (keepS [0, 3, 4, 5, 6, 7, 8, 9, 10, 11, 12, 13, 14, 15, 16, 17, 18, 19, 20, 21, 22, 23] rfl) ?_
          refine jt_of [(0, 0), (1, 0), (2, 0), (3, 0), (4, 0), (5, 0), (6, 0), (7, 0)] ?_
          refine mv (.pointer _) rfl ?_
          refine nlc rfl ?_
          refine fad rfl Try.underlying42 rfl ty38.sz ?_
          refine ldp 0 1 _ rfl rfl rfl rfl ty38 ?_
          refine fad rfl Try.underlying57 rfl ty30.sz ?_
          refine ldp 16 3 _ rfl rfl rfl rfl ty30 ?_
          refine fad rfl Try.underlying57 rfl ty31.sz ?_
          refine ldp 16 4 _ rfl rfl rfl rfl ty31 ?_
          refine j_alt (keepS [0, 3, 4, 5, 6, 7, 8, 9, 10, 11, 12, 13, 14, 15, 16, 17, 18, 19, 20, 21, 22, 23] rfl) ?_
          refine jt_alt ?_ ?_
          · refine jt_fin [(8, 1), (9, 0), (10, 0), (11, 0), (12, 1), (13, 1), (14, 0)] ?_
            refine cal (RTake_ct br rP most l hrP (by omega) hnd op.header op.n) [1, 2] [0, 3, 4, 5, 6, 7, 8, 9, 10, 11, 12, 13, 14, 15, 16, 17, 18, 19, 20, 21, 22] [_, _, _, _, _, _, _, _, _, _, _, _, _, _, _, _, _, _, _, _, _] rfl rfl rfl (by kernel_rfl) impl_nil rfl ?_; rintro _ _ _ ⟨o123, ho123, rfl, rfl, rfl⟩; refine ⟨keepI [0, 1, 2, 3, 4, 5, 6, 7, 8, 9, 10, 11, 12, 13, 14, 15, 16, 17, 18, 19, 20, 23] rfl, ?_⟩
            refine mv (.tuple _) rfl ?_
            refine xtr (.agg _) rfl rfl ?_
            refine xtr (.bool _) rfl rfl ?_
            refine alo [pt (zarr : Key)] _ z30 rfl fun b19 => ⟨keepI [0, 1, 2, 3, 4, 5, 6, 7, 8, 9, 10, 11, 12, 13, 14, 15, 16, 17, 18, 19, 20, 24] rfl, ?_⟩
            refine stw 23 _ [pt ((mget (⟨op.header, op.n⟩ : SpP) (List.map skv l)).getD zarr)] rfl rfl rfl rfl ty30 ⟨keepI [0, 1, 2, 3, 4, 5, 6, 7, 8, 9, 10, 11, 12, 13, 14, 15, 16, 17, 18, 19, 20, 24] rfl, ?_⟩
            refine asg (.bool _) rfl ?_
            refine jt ?_
            refine c_seq ?_
            refine c_reg ?_
            refine ldp 20 0 _ rfl rfl rfl rfl ty30 ?_
            refine ldp 23 0 _ rfl rfl rfl rfl ty30 ?_
            refine eqA ((mget (⟨op.header, op.n⟩ : SpP) (List.map skv l)).getD zarr) ((mget (⟨op.header, op.n⟩ : SpP) (List.map skv l)).getD zarr) true rfl rfl rfl rfl eq30 rfl Try.eqGuardType30 (by simp) ?_
            refine mv (.bool _) rfl ?_
            refine g_on rfl rfl rfl ?_
            refine mv (.bool _) rfl ?_
            refine g_on rfl rfl rfl ?_
            refine mv (.bool _) rfl ?_
            refine g_on rfl rfl rfl ?_
            refine eqbo true rfl rfl Try.underlying4 (by simp) ?_
            refine pkt (.bool _) rfl rfl ?_
            refine asg (.bool _) rfl ?_
            refine jt ?_
            refine c_ret ?_
            exact j_end (own0 := [[(bp, .cells (cat [p1 (.pointer (some ⟨bs, 0, none⟩)), p1 (.pointer (some ⟨br, 0, none⟩))]) 42)], [(bs, .cells (cat [p1 (.int .i64 most), p1 (.map (some m)), p1 (.slice o.adr (List.map plc l).length o.cap)]) 76)], [(m, .pred (isMap (List.map skv l)))], o.seg (List.map plc l) 72, [(br, .cells (cat [p1 (.int .i64 most), p1 (.slice rP.adr l.length rP.cap)]) 87)], rP.seg l 33, [(bq, .cells (cat [p1 (.pointer (some ⟨bsQ, 0, none⟩)), p1 (.pointer (some ⟨brQ, 0, none⟩))]) 42)], [(bsQ, .cells (cat [p1 (.int .i64 mostQ), p1 (.map (some mQ)), p1 (.slice oQ.adr (List.map plc lQ).length oQ.cap)]) 76)], [(mQ, .pred (isMap (List.map skv lQ)))], oQ.seg (List.map plc lQ) 72, [(brQ, .cells (cat [p1 (.int .i64 mostQ), p1 (.slice rQ.adr lQ.length rQ.cap)]) 87)], rQ.seg lQ 33, [(bsh, .cells (cat [p1 (.slice oL.adr hL.length oL.cap), p1 (.slice oW.adr hW.length oW.cap), p1 (.slice oK.adr hK.length oK.cap), p1 (.slice oY.adr hY.length oY.cap)]) 48)], oL.seg hL 22, oW.seg hW 22, oK.seg hK 77, oY.seg hY 77, segA 33 HL, segB 33 HL, segA 30 HK, segB 30 HK]) (ro0 := [op.s.seg op.l]) (.inl rfl) rfl (hr1 Try.results26 (rvt (v := (.bool _)) rfl)) [0, 17, 18, 19, 21, 22, 1, 2, 3, 4, 5, 6, 7, 8, 9, 10, 11, 12, 13, 14, 15] [16, 20, 23] [_, _, _, _, _, _, _, _, _, _, _, _, _, _, _, _, _, _, _, _, _] [_, _, _] [] _ rfl rfl (by kernel_rfl) rfl impl_nil (⟨(⟨bs, m, o111, most, (takeL op.header op.n l), br, o123⟩ : PS), (⟨bsQ, mQ, oQ, mostQ, lQ, brQ, rQ⟩ : PS), (⟨oL, oW, oK, oY, hL, hW, hK, hY, HL, HK⟩ : SS), ⟨ho111, ho123, by first | assumption | exact hx8.m, by first | exact hnd | exact putL_nd hnd | exact takeL_nd hnd | exact drop_nd hnd | exact hx8.nd | exact hnd, by first | exact hle | exact putL_most hle | exact takeL_most hle | exact drop_most hle | exact hx8.le | exact hle⟩, ⟨hoQ, hrQ, by first | assumption | exact hx8.m, by first | exact hndQ | exact putL_nd hndQ | exact takeL_nd hndQ | exact drop_nd hndQ | exact hx8.nd | exact hnd, by first | exact hleQ | exact putL_most hleQ | exact takeL_most hleQ | exact drop_most hleQ | exact hx8.le | exact hle⟩, ⟨hss.L, hss.W, hss.K, hss.Y, hss.eL, hss.eW, hss.eK, hss.eY, hss.aL, hss.aK⟩, (by first | exact Nat.le_succ _ | (simp; done)), (by first | exact Nat.le_succ _ | (simp; done)), rfl, rfl, rfl⟩)
          · refine jt_fin [(12, 1), (8, 1), (9, 0), (10, 0), (11, 0), (13, 1), (14, 0)] ?_
            refine alo [pt (zarr : Key)] _ z30 rfl fun b19 => ⟨keepI [0, 3, 4, 5, 6, 7, 8, 9, 10, 11, 12, 13, 14, 15, 16, 17, 18, 19, 20, 21, 22, 24] rfl, ?_⟩
            refine cal (RTake_ct br rP most l hrP (by omega) hnd op.header op.n) [1, 2] [0, 3, 4, 5, 6, 7, 8, 9, 10, 11, 12, 13, 14, 15, 16, 17, 18, 19, 20, 21, 22, 23] [_, _, _, _, _, _, _, _, _, _, _, _, _, _, _, _, _, _, _, _, _, _] rfl rfl rfl (by kernel_rfl) impl_nil rfl ?_; rintro _ _ _ ⟨o123, ho123, rfl, rfl, rfl⟩; refine ⟨keepI [0, 1, 2, 3, 4, 5, 6, 7, 8, 9, 10, 11, 12, 13, 14, 15, 16, 17, 18, 19, 20, 24] rfl, ?_⟩
            refine mv (.tuple _) rfl ?_
            refine xtr (.agg _) rfl rfl ?_
            refine xtr (.bool _) rfl rfl ?_
            refine stw 21 _ [pt ((mget (⟨op.header, op.n⟩ : SpP) (List.map skv l)).getD zarr)] rfl rfl rfl rfl ty30 ⟨keepI [0, 1, 2, 3, 4, 5, 6, 7, 8, 9, 10, 11, 12, 13, 14, 15, 16, 17, 18, 19, 20, 24] rfl, ?_⟩
            refine asg (.bool _) rfl ?_
            refine jt ?_
            refine c_seq ?_
            refine c_reg ?_
            refine ldp 20 0 _ rfl rfl rfl rfl ty30 ?_
            refine ldp 21 0 _ rfl rfl rfl rfl ty30 ?_
            refine eqA ((mget (⟨op.header, op.n⟩ : SpP) (List.map skv l)).getD zarr) ((mget (⟨op.header, op.n⟩ : SpP) (List.map skv l)).getD zarr) true rfl rfl rfl rfl eq30 rfl Try.eqGuardType30 (by simp) ?_
            refine mv (.bool _) rfl ?_
            refine g_on rfl rfl rfl ?_
            refine mv (.bool _) rfl ?_
            refine g_on rfl rfl rfl ?_
            refine mv (.bool _) rfl ?_
            refine g_on rfl rfl rfl ?_
            refine eqbo true rfl rfl Try.underlying4 (by simp) ?_
            refine pkt (.bool _) rfl rfl ?_
            refine asg (.bool _) rfl ?_
            refine jt ?_
            refine c_ret ?_
            exact j_end (own0 := [[(bp, .cells (cat [p1 (.pointer (some ⟨bs, 0, none⟩)), p1 (.pointer (some ⟨br, 0, none⟩))]) 42)], [(bs, .cells (cat [p1 (.int .i64 most), p1 (.map (some m)), p1 (.slice o.adr (List.map plc l).length o.cap)]) 76)], [(m, .pred (isMap (List.map skv l)))], o.seg (List.map plc l) 72, [(br, .cells (cat [p1 (.int .i64 most), p1 (.slice rP.adr l.length rP.cap)]) 87)], rP.seg l 33, [(bq, .cells (cat [p1 (.pointer (some ⟨bsQ, 0, none⟩)), p1 (.pointer (some ⟨brQ, 0, none⟩))]) 42)], [(bsQ, .cells (cat [p1 (.int .i64 mostQ), p1 (.map (some mQ)), p1 (.slice oQ.adr (List.map plc lQ).length oQ.cap)]) 76)], [(mQ, .pred (isMap (List.map skv lQ)))], oQ.seg (List.map plc lQ) 72, [(brQ, .cells (cat [p1 (.int .i64 mostQ), p1 (.slice rQ.adr lQ.length rQ.cap)]) 87)], rQ.seg lQ 33, [(bsh, .cells (cat [p1 (.slice oL.adr hL.length oL.cap), p1 (.slice oW.adr hW.length oW.cap), p1 (.slice oK.adr hK.length oK.cap), p1 (.slice oY.adr hY.length oY.cap)]) 48)], oL.seg hL 22, oW.seg hW 22, oK.seg hK 77, oY.seg hY 77, segA 33 HL, segB 33 HL, segA 30 HK, segB 30 HK]) (ro0 := [op.s.seg op.l]) (.inl rfl) rfl (hr1 Try.results26 (rvt (v := (.bool _)) rfl)) [0, 17, 18, 19, 22, 23, 1, 2, 3, 4, 5, 6, 7, 8, 9, 10, 11, 12, 13, 14, 15] [16, 20, 21] [_, _, _, _, _, _, _, _, _, _, _, _, _, _, _, _, _, _, _, _, _] [_, _, _] [] _ rfl rfl (by kernel_rfl) rfl impl_nil (⟨(⟨bs, m, o111, most, (takeL op.header op.n l), br, o123⟩ : PS), (⟨bsQ, mQ, oQ, mostQ, lQ, brQ, rQ⟩ : PS), (⟨oL, oW, oK, oY, hL, hW, hK, hY, HL, HK⟩ : SS), ⟨ho111, ho123, by first | assumption | exact hx8.m, by first | exact hnd | exact putL_nd hnd | exact takeL_nd hnd | exact drop_nd hnd | exact hx8.nd | exact hnd, by first | exact hle | exact putL_most hle | exact takeL_most hle | exact drop_most hle | exact hx8.le | exact hle⟩, ⟨hoQ, hrQ, by first | assumption | exact hx8.m, by first | exact hndQ | exact putL_nd hndQ | exact takeL_nd hndQ | exact drop_nd hndQ | exact hx8.nd | exact hnd, by first | exact hleQ | exact putL_most hleQ | exact takeL_most hleQ | exact drop_most hleQ | exact hx8.le | exact hle⟩, ⟨hss.L, hss.W, hss.K, hss.Y, hss.eL, hss.eW, hss.eK, hss.eY, hss.aL, hss.aK⟩, (by first | exact Nat.le_succ _ | (simp; done)), (by first | exact Nat.le_succ _ | (simp; done)), rfl, rfl, rfl⟩)
        · refine jt_fin [(12, 1), (8, 1), (9, 0), (10, 0), (11, 0), (13, 1), (14, 0)] ?_
          refine alo [pt (zarr : Key)] _ z30 rfl fun b17 => ⟨keepI [0, 4, 5, 6, 7, 8, 9, 10, 11, 12, 13, 14, 15, 16, 17, 18, 19, 20, 21, 23] rfl, ?_⟩
          refine cal (Take_is bs m o most l ho (by omega) hnd op.header op.n (l2 := (takeL op.header op.n l)) (k := ((mget (⟨op.header, op.n⟩ : SpP) (List.map skv l)).getD zarr)) (f := (mget (⟨op.header, op.n⟩ : SpP) (List.map skv l)).isSome) rfl rfl rfl) [1, 2, 3] [0, 4, 5, 6, 7, 8, 9, 10, 11, 12, 13, 14, 15, 16, 17, 18, 19, 20, 21, 22] [_, _, _, _, _, _, _, _, _, _, _, _, _, _, _, _, _, _, _, _] rfl rfl rfl (by kernel_rfl) impl_nil rfl ?_; rintro _ _ _ ⟨o111, ho111, rfl, rfl, rfl⟩; refine ⟨keepI [0, 1, 2, 3, 4, 5, 6, 7, 8, 9, 10, 11, 12, 13, 14, 15, 16, 17, 18, 23] rfl, ?_⟩
          refine mv (.tuple _) rfl ?_
          refine xtr (.agg _) rfl rfl ?_
          refine xtr (.bool _) rfl rfl ?_
          refine stw 19 _ [pt ((mget (⟨op.header, op.n⟩ : SpP) (List.map skv l)).getD zarr)] rfl rfl rfl rfl ty30 ⟨keepI [0, 1, 2, 3, 4, 5, 6, 7, 8, 9, 10, 11, 12, 13, 14, 15, 16, 17, 18, 23] rfl, ?_⟩
          refine asg (.bool _) rfl ?_
          refine jt ?_
          refine c_seq ?_
          refine c_drT [_, _, _, _, _, _, _, _, _, _, _, _, _, _, _, _, _, _, _, _, _, _] [] (PT.of [(0, 0), (1, 0), (2, 0), (3, 0), (4, 0), (5, 0), (6, 0), (7, 0)] (.alt (PT.of [(8, 1), (9, 0), (10, 0), (11, 0), (12, 1), (13, 1), (14, 0)] .leaf) (PT.of [(12, 1), (8, 1), (9, 0), (10, 0), (11, 0), (13, 1), (14, 0)] .leaf))) follows (by kernel_rfl) calm_body (keepS [0, 3, 4, 5, 6, 7, 8, 9, 10, 11, 12, 13, 14, 15, 16, 17, 18, 19, 20, 21, 22, 23] rfl) ?_
          refine jt_of [(0, 0), (1, 0), (2, 0), (3, 0), (4, 0), (5, 0), (6, 0), (7, 0)] ?_
          refine mv (.pointer _) rfl ?_
          refine nlc rfl ?_
          refine fad rfl Try.underlying42 rfl ty38.sz ?_
          refine ldp 0 1 _ rfl rfl rfl rfl ty38 ?_
          refine fad rfl Try.underlying57 rfl ty30.sz ?_
          refine ldp 16 3 _ rfl rfl rfl rfl ty30 ?_
          refine fad rfl Try.underlying57 rfl ty31.sz ?_
          refine ldp 16 4 _ rfl rfl rfl rfl ty31 ?_
          refine j_alt (keepS [0, 3, 4, 5, 6, 7, 8, 9, 10, 11, 12, 13, 14, 15, 16, 17, 18, 19, 20, 21, 22, 23] rfl) ?_
          refine jt_alt ?_ ?_
          · refine jt_fin [(8, 1), (9, 0), (10, 0), (11, 0), (12, 1), (13, 1), (14, 0)] ?_
            refine cal (RTake_ct br rP most l hrP (by omega) hnd op.header op.n) [1, 2] [0, 3, 4, 5, 6, 7, 8, 9, 10, 11, 12, 13, 14, 15, 16, 17, 18, 19, 20, 21, 22] [_, _, _, _, _, _, _, _, _, _, _, _, _, _, _, _, _, _, _, _, _] rfl rfl rfl (by kernel_rfl) impl_nil rfl ?_; rintro _ _ _ ⟨o123, ho123, rfl, rfl, rfl⟩; refine ⟨keepI [0, 1, 2, 3, 4, 5, 6, 7, 8, 9, 10, 11, 12, 13, 14, 15, 16, 17, 18, 19, 20, 23] rfl, ?_⟩
            refine mv (.tuple _) rfl ?_
            refine xtr (.agg _) rfl rfl ?_
            refine xtr (.bool _) rfl rfl ?_
            refine alo [pt (zarr : Key)] _ z30 rfl fun b19 => ⟨keepI [0, 1, 2, 3, 4, 5, 6, 7, 8, 9, 10, 11, 12, 13, 14, 15, 16, 17, 18, 19, 20, 24] rfl, ?_⟩
            refine stw 23 _ [pt ((mget (⟨op.header, op.n⟩ : SpP) (List.map skv l)).getD zarr)] rfl rfl rfl rfl ty30 ⟨keepI [0, 1, 2, 3, 4, 5, 6, 7, 8, 9, 10, 11, 12, 13, 14, 15, 16, 17, 18, 19, 20, 24] rfl, ?_⟩
            refine asg (.bool _) rfl ?_
            refine jt ?_
            refine c_seq ?_
            refine c_reg ?_
            refine ldp 17 0 _ rfl rfl rfl rfl ty30 ?_
            refine ldp 23 0 _ rfl rfl rfl rfl ty30 ?_
            refine eqA ((mget (⟨op.header, op.n⟩ : SpP) (List.map skv l)).getD zarr) ((mget (⟨op.header, op.n⟩ : SpP) (List.map skv l)).getD zarr) true rfl rfl rfl rfl eq30 rfl Try.eqGuardType30 (by simp) ?_
            refine mv (.bool _) rfl ?_
            refine g_on rfl rfl rfl ?_
            refine mv (.bool _) rfl ?_
            refine g_on rfl rfl rfl ?_
            refine mv (.bool _) rfl ?_
            refine g_on rfl rfl rfl ?_
            refine eqbo true rfl rfl Try.underlying4 (by simp) ?_
            refine pkt (.bool _) rfl rfl ?_
            refine asg (.bool _) rfl ?_
            refine jt ?_
            refine c_ret ?_
            exact j_end (own0 := [[(bp, .cells (cat [p1 (.pointer (some ⟨bs, 0, none⟩)), p1 (.pointer (some ⟨br, 0, none⟩))]) 42)], [(bs, .cells (cat [p1 (.int .i64 most), p1 (.map (some m)), p1 (.slice o.adr (List.map plc l).length o.cap)]) 76)], [(m, .pred (isMap (List.map skv l)))], o.seg (List.map plc l) 72, [(br, .cells (cat [p1 (.int .i64 most), p1 (.slice rP.adr l.length rP.cap)]) 87)], rP.seg l 33, [(bq, .cells (cat [p1 (.pointer (some ⟨bsQ, 0, none⟩)), p1 (.pointer (some ⟨brQ, 0, none⟩))]) 42)], [(bsQ, .cells (cat [p1 (.int .i64 mostQ), p1 (.map (some mQ)), p1 (.slice oQ.adr (List.map plc lQ).length oQ.cap)]) 76)], [(mQ, .pred (isMap (List.map skv lQ)))], oQ.seg (List.map plc lQ) 72, [(brQ, .cells (cat [p1 (.int .i64 mostQ), p1 (.slice rQ.adr lQ.length rQ.cap)]) 87)], rQ.seg lQ 33, [(bsh, .cells (cat [p1 (.slice oL.adr hL.length oL.cap), p1 (.slice oW.adr hW.length oW.cap), p1 (.slice oK.adr hK.length oK.cap), p1 (.slice oY.adr hY.length oY.cap)]) 48)], oL.seg hL 22, oW.seg hW 22, oK.seg hK 77, oY.seg hY 77, segA 33 HL, segB 33 HL, segA 30 HK, segB 30 HK]) (ro0 := [op.s.seg op.l]) (.inl rfl) rfl (hr1 Try.results26 (rvt (v := (.bool _)) rfl)) [0, 18, 19, 20, 21, 22, 1, 2, 3, 4, 5, 6, 7, 8, 9, 10, 11, 12, 13, 14, 15] [16, 17, 23] [_, _, _, _, _, _, _, _, _, _, _, _, _, _, _, _, _, _, _, _, _] [_, _, _] [] _ rfl rfl (by kernel_rfl) rfl impl_nil (⟨(⟨bs, m, o111, most, (takeL op.header op.n l), br, o123⟩ : PS), (⟨bsQ, mQ, oQ, mostQ, lQ, brQ, rQ⟩ : PS), (⟨oL, oW, oK, oY, hL, hW, hK, hY, HL, HK⟩ : SS), ⟨ho111, ho123, by first | assumption | exact hx8.m, by first | exact hnd | exact putL_nd hnd | exact takeL_nd hnd | exact drop_nd hnd | exact hx8.nd | exact hnd, by first | exact hle | exact putL_most hle | exact takeL_most hle | exact drop_most hle | exact hx8.le | exact hle⟩, ⟨hoQ, hrQ, by first | assumption | exact hx8.m, by first | exact hndQ | exact putL_nd hndQ | exact takeL_nd hndQ | exact drop_nd hndQ | exact hx8.nd | exact hnd, by first | exact hleQ | exact putL_most hleQ | exact takeL_most hleQ | exact drop_most hleQ | exact hx8.le | exact hle⟩, ⟨hss.L, hss.W, hss.K, hss.Y, hss.eL, hss.eW, hss.eK, hss.eY, hss.aL, hss.aK⟩, (by first | exact Nat.le_succ _ | (simp; done)), (by first | exact Nat.le_succ _ | (simp; done)), rfl, rfl, rfl⟩)
          · refine jt_fin [(12, 1), (8, 1), (9, 0), (10, 0), (11, 0), (13, 1), (14, 0)] ?_
            refine alo [pt (zarr : Key)] _ z30 rfl fun b19 => ⟨keepI [0, 3, 4, 5, 6, 7, 8, 9, 10, 11, 12, 13, 14, 15, 16, 17, 18, 19, 20, 21, 22, 24] rfl, ?_⟩
            refine cal (RTake_ct br rP most l hrP (by omega) hnd op.header op.n) [1, 2] [0, 3, 4, 5, 6, 7, 8, 9, 10, 11, 12, 13, 14, 15, 16, 17, 18, 19, 20, 21, 22, 23] [_, _, _, _, _, _, _, _, _, _, _, _, _, _, _, _, _, _, _, _, _, _] rfl rfl rfl (by kernel_rfl) impl_nil rfl ?_; rintro _ _ _ ⟨o123, ho123, rfl, rfl, rfl⟩; refine ⟨keepI [0, 1, 2, 3, 4, 5, 6, 7, 8, 9, 10, 11, 12, 13, 14, 15, 16, 17, 18, 19, 20, 24] rfl, ?_⟩
            refine mv (.tuple _) rfl ?_
            refine xtr (.agg _) rfl rfl ?_
            refine xtr (.bool _) rfl rfl ?_
            refine stw 21 _ [pt ((mget (⟨op.header, op.n⟩ : SpP) (List.map skv l)).getD zarr)] rfl rfl rfl rfl ty30 ⟨keepI [0, 1, 2, 3, 4, 5, 6, 7, 8, 9, 10, 11, 12, 13, 14, 15, 16, 17, 18, 19, 20, 24] rfl, ?_⟩
            refine asg (.bool _) rfl ?_
            refine jt ?_
            refine c_seq ?_
            refine c_reg ?_
            refine ldp 17 0 _ rfl rfl rfl rfl ty30 ?_
            refine ldp 21 0 _ rfl rfl rfl rfl ty30 ?_
            refine eqA ((mget (⟨op.header, op.n⟩ : SpP) (List.map skv l)).getD zarr) ((mget (⟨op.header, op.n⟩ : SpP) (List.map skv l)).getD zarr) true rfl rfl rfl rfl eq30 rfl Try.eqGuardType30 (by simp) ?_
            refine mv (.bool _) rfl ?_
            refine g_on rfl rfl rfl ?_
            refine mv (.bool _) rfl ?_
            refine g_on rfl rfl rfl ?_
            refine mv (.bool _) rfl ?_
            refine g_on rfl rfl rfl ?_
            refine eqbo true rfl rfl Try.underlying4 (by simp) ?_
            refine pkt (.bool _) rfl rfl ?_
            refine asg (.bool _) rfl ?_
            refine jt ?_
            refine c_ret ?_
            exact j_end (own0 := [[(bp, .cells (cat [p1 (.pointer (some ⟨bs, 0, none⟩)), p1 (.pointer (some ⟨br, 0, none⟩))]) 42)], [(bs, .cells (cat [p1 (.int .i64 most), p1 (.map (some m)), p1 (.slice o.adr (List.map plc l).length o.cap)]) 76)], [(m, .pred (isMap (List.map skv l)))], o.seg (List.map plc l) 72, [(br, .cells (cat [p1 (.int .i64 most), p1 (.slice rP.adr l.length rP.cap)]) 87)], rP.seg l 33, [(bq, .cells (cat [p1 (.pointer (some ⟨bsQ, 0, none⟩)), p1 (.pointer (some ⟨brQ, 0, none⟩))]) 42)], [(bsQ, .cells (cat [p1 (.int .i64 mostQ), p1 (.map (some mQ)), p1 (.slice oQ.adr (List.map plc lQ).length oQ.cap)]) 76)], [(mQ, .pred (isMap (List.map skv lQ)))], oQ.seg (List.map plc lQ) 72, [(brQ, .cells (cat [p1 (.int .i64 mostQ), p1 (.slice rQ.adr lQ.length rQ.cap)]) 87)], rQ.seg lQ 33, [(bsh, .cells (cat [p1 (.slice oL.adr hL.length oL.cap), p1 (.slice oW.adr hW.length oW.cap), p1 (.slice oK.adr hK.length oK.cap), p1 (.slice oY.adr hY.length oY.cap)]) 48)], oL.seg hL 22, oW.seg hW 22, oK.seg hK 77, oY.seg hY 77, segA 33 HL, segB 33 HL, segA 30 HK, segB 30 HK]) (ro0 := [op.s.seg op.l]) (.inl rfl) rfl (hr1 Try.results26 (rvt (v := (.bool _)) rfl)) [0, 18, 19, 20, 22, 23, 1, 2, 3, 4, 5, 6, 7, 8, 9, 10, 11, 12, 13, 14, 15] [16, 17, 21] [_, _, _, _, _, _, _, _, _, _, _, _, _, _, _, _, _, _, _, _, _] [_, _, _] [] _ rfl rfl (by kernel_rfl) rfl impl_nil (⟨(⟨bs, m, o111, most, (takeL op.header op.n l), br, o123⟩ : PS), (⟨bsQ, mQ, oQ, mostQ, lQ, brQ, rQ⟩ : PS), (⟨oL, oW, oK, oY, hL, hW, hK, hY, HL, HK⟩ : SS), ⟨ho111, ho123, by first | assumption | exact hx8.m, by first | exact hnd | exact putL_nd hnd | exact takeL_nd hnd | exact drop_nd hnd | exact hx8.nd | exact hnd, by first | exact hle | exact putL_most hle | exact takeL_most hle | exact drop_most hle | exact hx8.le | exact hle⟩, ⟨hoQ, hrQ, by first | assumption | exact hx8.m, by first | exact hndQ | exact putL_nd hndQ | exact takeL_nd hndQ | exact drop_nd hndQ | exact hx8.nd | exact hnd, by first | exact hleQ | exact putL_most hleQ | exact takeL_most hleQ | exact drop_most hleQ | exact hx8.le | exact hle⟩, ⟨hss.L, hss.W, hss.K, hss.Y, hss.eL, hss.eW, hss.eK, hss.eY, hss.aL, hss.aK⟩, (by first | exact Nat.le_succ _ | (simp; done)), (by first | exact Nat.le_succ _ | (simp; done)), rfl, rfl, rfl⟩)
      · replace h4 := of_decide_eq_false h4
        refine c_seq ?_
        refine c_reg ?_
        refine cmp _ rfl rfl rfl ?_
        refine asg (.bool _) rfl ?_
        refine jt ?_
        refine c_cond rfl (fun h5 => ?_) (fun h5 => ?_)
        · replace h5 := of_decide_eq_true h5
          refine c_seq ?_
          refine c_dr [_, _, _, _, _, _, _, _, _, _, _, _, _, _, _, _, _, _] [] [(0, 0), (1, 0), (2, 0), (3, 0), (4, 0), (5, 0), (7, 0), (8, 0), (9, 0), (10, 0), (11, 0), (12, 0), (6, 1), (13, 1), (14, 0), (15, 0)] follows (by kernel_rfl) calm_body (keepS [0, 6, 7, 8, 9, 10, 11, 12, 13, 14, 15, 16, 17, 18, 19, 20, 21, 22] rfl) ?_
          refine mv (.pointer _) rfl ?_
          refine nlc rfl ?_
          refine fad rfl Try.underlying42 rfl ty24.sz ?_
          refine ldp 0 0 _ rfl rfl rfl rfl ty24 ?_
          refine fad rfl Try.underlying57 rfl ty3.sz ?_
          refine ldp 16 5 _ rfl rfl rfl rfl ty3 ?_
          refine mv (.pointer _) rfl ?_
          refine nlc rfl ?_
          refine fad rfl Try.underlying42 rfl ty38.sz ?_
          refine ldp 0 1 _ rfl rfl rfl rfl ty38 ?_
          refine fad rfl Try.underlying57 rfl ty3.sz ?_
          refine ldp 16 5 _ rfl rfl rfl rfl ty3 ?_
          refine cal (Forget_ct bs m o most l ho (by omega) op.count) [1, 2, 3] [0, 4, 5, 6, 7, 8, 9, 10, 11, 12, 13, 14, 15, 16, 17, 18, 19, 20, 21] [_, _, _, _, _, _, _, _, _, _, _, _, _, _, _, _, _, _, _] rfl rfl rfl (by kernel_rfl) impl_nil rfl ?_; rintro _ _ _ ⟨o142, ho142, rfl, rfl, rfl⟩; refine ⟨keepI [0, 3, 4, 5, 6, 7, 8, 9, 10, 11, 12, 13, 14, 15, 16, 17, 18, 22] rfl, ?_⟩
          refine cal (RForget_ct br rP most l hrP (by omega) op.count) [1, 2] [0, 3, 4, 5, 6, 7, 8, 9, 10, 11, 12, 13, 14, 15, 16, 17, 18, 19, 20, 21] [_, _, _, _, _, _, _, _, _, _, _, _, _, _, _, _, _, _, _, _] rfl rfl rfl (by kernel_rfl) impl_nil rfl ?_; rintro _ _ _ ⟨o149, ho149, rfl, rfl, rfl⟩; refine ⟨keepI [0, 1, 2, 3, 4, 5, 6, 7, 8, 9, 10, 11, 12, 13, 14, 15, 16, 22] rfl, ?_⟩
          refine cmp true rfl rfl (by simp [cmpV]) ?_
          refine asg (.bool _) rfl ?_
          refine jt ?_
          refine c_ret ?_
          exact j_end (own0 := [[(bp, .cells (cat [p1 (.pointer (some ⟨bs, 0, none⟩)), p1 (.pointer (some ⟨br, 0, none⟩))]) 42)], [(bs, .cells (cat [p1 (.int .i64 most), p1 (.map (some m)), p1 (.slice o.adr (List.map plc l).length o.cap)]) 76)], [(m, .pred (isMap (List.map skv l)))], o.seg (List.map plc l) 72, [(br, .cells (cat [p1 (.int .i64 most), p1 (.slice rP.adr l.length rP.cap)]) 87)], rP.seg l 33, [(bq, .cells (cat [p1 (.pointer (some ⟨bsQ, 0, none⟩)), p1 (.pointer (some ⟨brQ, 0, none⟩))]) 42)], [(bsQ, .cells (cat [p1 (.int .i64 mostQ), p1 (.map (some mQ)), p1 (.slice oQ.adr (List.map plc lQ).length oQ.cap)]) 76)], [(mQ, .pred (isMap (List.map skv lQ)))], oQ.seg (List.map plc lQ) 72, [(brQ, .cells (cat [p1 (.int .i64 mostQ), p1 (.slice rQ.adr lQ.length rQ.cap)]) 87)], rQ.seg lQ 33, [(bsh, .cells (cat [p1 (.slice oL.adr hL.length oL.cap), p1 (.slice oW.adr hW.length oW.cap), p1 (.slice oK.adr hK.length oK.cap), p1 (.slice oY.adr hY.length oY.cap)]) 48)], oL.seg hL 22, oW.seg hW 22, oK.seg hK 77, oY.seg hY 77, segA 33 HL, segB 33 HL, segA 30 HK, segB 30 HK]) (ro0 := [op.s.seg op.l]) (.inl rfl) rfl (hr1 Try.results26 (rvt (v := (.bool _)) rfl)) [0, 17, 18, 19, 20, 21, 1, 2, 3, 4, 5, 6, 7, 8, 9, 10, 11, 12, 13, 14, 15] [16] [_, _, _, _, _, _, _, _, _, _, _, _, _, _, _, _, _, _, _, _, _] [_] [] _ rfl rfl (by kernel_rfl) rfl impl_nil (⟨(⟨bs, m, o142, most, (List.drop (fg op.count l) l), br, o149⟩ : PS), (⟨bsQ, mQ, oQ, mostQ, lQ, brQ, rQ⟩ : PS), (⟨oL, oW, oK, oY, hL, hW, hK, hY, HL, HK⟩ : SS), ⟨ho142, ho149, by first | assumption | exact hx8.m, by first | exact hnd | exact putL_nd hnd | exact takeL_nd hnd | exact drop_nd hnd | exact hx8.nd | exact hnd, by first | exact hle | exact putL_most hle | exact takeL_most hle | exact drop_most hle | exact hx8.le | exact hle⟩, ⟨hoQ, hrQ, by first | assumption | exact hx8.m, by first | exact hndQ | exact putL_nd hndQ | exact takeL_nd hndQ | exact drop_nd hndQ | exact hx8.nd | exact hnd, by first | exact hleQ | exact putL_most hleQ | exact takeL_most hleQ | exact drop_most hleQ | exact hx8.le | exact hle⟩, ⟨hss.L, hss.W, hss.K, hss.Y, hss.eL, hss.eW, hss.eK, hss.eY, hss.aL, hss.aK⟩, (by first | exact Nat.le_succ _ | (simp; done)), (by first | exact Nat.le_succ _ | (simp; done)), rfl, rfl, rfl⟩)
        · replace h5 := of_decide_eq_false h5
          refine c_seq ?_
          refine c_reg ?_
          refine cmp _ rfl rfl rfl ?_
          refine asg (.bool _) rfl ?_
          refine jt ?_
          refine c_cond rfl (fun h6 => ?_) (fun h6 => ?_)
          · replace h6 := of_decide_eq_true h6
            refine c_seq ?_
            refine c_reg ?_
            refine mv (.pointer _) rfl ?_
            refine nlc rfl ?_
            refine fad rfl Try.underlying42 rfl ty24.sz ?_
            refine ldp 0 0 _ rfl rfl rfl rfl ty24 ?_
            refine cal (List_ct bs m o most l ho (by omega) hnd) [] [0, 1, 2, 3, 4, 5, 6, 7, 8, 9, 10, 11, 12, 13, 14, 15, 16, 17, 18, 19, 20, 21] [_, _, _, _, _, _, _, _, _, _, _, _, _, _, _, _, _, _, _, _, _, _] rfl rfl rfl (by kernel_rfl) (impl_cons (impl_at 2 rfl) (impl_cons (impl_at 3 rfl) (impl_cons (impl_at 4 rfl) impl_nil))) rfl ?_; rintro _ _ _ ⟨o157, ho157, rfl, rfl, rfl⟩; refine ⟨trivial, ?_⟩
            refine asg (.slice _ _ _) rfl ?_
            refine jt ?_
            refine c_seq ?_
            refine c_reg ?_
            refine mv (.pointer _) rfl ?_
            refine mv (.slice _ _ _) rfl ?_
            refine cal (shList_ct bsh oL oW oK oY hL hW hK hY hss.L hss.W (by first | omega | (simp; done) | (simp; omega) | (simp at *; omega)) (by first | omega | (simp; done) | (simp; omega) | (simp at *; omega)) ((o157).vs) l (Ow.vs_ok ho157) (by omega)) [12, 13, 14] [0, 1, 2, 3, 4, 5, 6, 7, 8, 9, 10, 11, 15, 16, 17, 18, 19, 20, 21, 22] [_, _, _, _, _, _, _, _, _, _, _, _, _, _, _, _, _, _, _, _] rfl rfl rfl (by kernel_rfl) (impl_cons (ow_impl 20 rfl) impl_nil) rfl ?_; rintro _ _ _ ⟨oL1, oW1, oc1, hoL1, hoW1, hoc1, rfl, rfl, rfl⟩; refine ⟨trivial, ?_⟩
            refine jt ?_
            refine c_seq ?_
            refine c_reg ?_
            refine mv (.slice _ _ _) rfl ?_
            refine mv (.pointer _) rfl ?_
            refine nlc rfl ?_
            refine fad rfl Try.underlying42 rfl ty38.sz ?_
            refine ldp 0 1 _ rfl rfl rfl rfl ty38 ?_
            refine cal (RList_ct br rP most l hrP (by omega)) [] [0, 1, 2, 3, 4, 5, 6, 7, 8, 9, 10, 11, 12, 13, 14, 15, 16, 17, 18, 19, 20, 21, 22, 23] [_, _, _, _, _, _, _, _, _, _, _, _, _, _, _, _, _, _, _, _, _, _, _, _] rfl rfl rfl (by kernel_rfl) (impl_cons (impl_at 5 rfl) (impl_cons (impl_at 6 rfl) impl_nil)) rfl ?_; rintro _ _ _ ⟨o166, ho166, rfl, rfl, rfl⟩; refine ⟨trivial, ?_⟩
            refine cal (sameSpares_self ((o157).vs) ((o166).vs) l (Ow.vs_ok ho157) (Ow.vs_ok ho166) (by omega)) [] [0, 1, 2, 3, 4, 5, 6, 7, 8, 9, 10, 11, 12, 13, 14, 15, 16, 17, 18, 19, 20, 21, 22, 23, 24] [_, _, _, _, _, _, _, _, _, _, _, _, _, _, _, _, _, _, _, _, _, _, _, _, _] rfl rfl rfl (by kernel_rfl) (impl_cons (ow_impl 20 rfl) (impl_cons (ow_impl 25 rfl) impl_nil)) rfl ?_; rintro _ _ _ ⟨rfl, rfl, rfl⟩; refine ⟨trivial, ?_⟩
            refine asg (.bool _) rfl ?_
            refine jt ?_
            refine c_ret ?_
            refine e_keep [0, 1, 2, 3, 4, 5, 6, 7, 8, 9, 10, 11, 20, 21, 22, 12, 13, 14, 19, 15, 23, 16, 17] [18, 24] [_, _, _, _, _, _, _, _, _, _, _, _, _, _, _, _, _, _, _, _, _, _, _] rfl (by kernel_rfl) ?_
            refine e_part (own' := [[(bp, .cells (cat [p1 (.pointer (some ⟨bs, 0, none⟩)), p1 (.pointer (some ⟨br, 0, none⟩))]) 42)], [(bs, .cells (cat [p1 (.int .i64 most), p1 (.map (some m)), p1 (.slice o.adr (List.map plc l).length o.cap)]) 76)], [(m, .pred (isMap (List.map skv l)))], o.seg (List.map plc l) 72, [(br, .cells (cat [p1 (.int .i64 most), p1 (.slice rP.adr l.length rP.cap)]) 87)], rP.seg l 33, [(bq, .cells (cat [p1 (.pointer (some ⟨bsQ, 0, none⟩)), p1 (.pointer (some ⟨brQ, 0, none⟩))]) 42)], [(bsQ, .cells (cat [p1 (.int .i64 mostQ), p1 (.map (some mQ)), p1 (.slice oQ.adr (List.map plc lQ).length oQ.cap)]) 76)], [(mQ, .pred (isMap (List.map skv lQ)))], oQ.seg (List.map plc lQ) 72, [(brQ, .cells (cat [p1 (.int .i64 mostQ), p1 (.slice rQ.adr lQ.length rQ.cap)]) 87)], rQ.seg lQ 33, [(bsh, .cells (cat [p1 (.slice oL1.adr (hL ++ [(⟨o157.adr, l.length, o157.cap⟩ : SlH)]).length oL1.cap), p1 (.slice oW1.adr (hW ++ [(⟨oc1.adr, l.length, oc1.cap⟩ : SlH)]).length oW1.cap), p1 (.slice oK.adr hK.length oK.cap), p1 (.slice oY.adr hY.length oY.cap)]) 48)], oL1.seg (hL ++ [(⟨o157.adr, l.length, o157.cap⟩ : SlH)]) 22, oW1.seg (hW ++ [(⟨oc1.adr, l.length, oc1.cap⟩ : SlH)]) 22, oK.seg hK 77, oY.seg hY 77, segA 33 (HL ++ [(⟨o157, oc1, l⟩ : Hd Spare)]), segB 33 (HL ++ [(⟨o157, oc1, l⟩ : Hd Spare)]), segA 30 HK, segB 30 HK]) (List.Perm.of_eq (by simp only [List.flatten_cons, segA_snoc, segB_snoc, List.append_assoc]; rfl)) ?_
            exact j_end (own0 := [[(bp, .cells (cat [p1 (.pointer (some ⟨bs, 0, none⟩)), p1 (.pointer (some ⟨br, 0, none⟩))]) 42)], [(bs, .cells (cat [p1 (.int .i64 most), p1 (.map (some m)), p1 (.slice o.adr (List.map plc l).length o.cap)]) 76)], [(m, .pred (isMap (List.map skv l)))], o.seg (List.map plc l) 72, [(br, .cells (cat [p1 (.int .i64 most), p1 (.slice rP.adr l.length rP.cap)]) 87)], rP.seg l 33, [(bq, .cells (cat [p1 (.pointer (some ⟨bsQ, 0, none⟩)), p1 (.pointer (some ⟨brQ, 0, none⟩))]) 42)], [(bsQ, .cells (cat [p1 (.int .i64 mostQ), p1 (.map (some mQ)), p1 (.slice oQ.adr (List.map plc lQ).length oQ.cap)]) 76)], [(mQ, .pred (isMap (List.map skv lQ)))], oQ.seg (List.map plc lQ) 72, [(brQ, .cells (cat [p1 (.int .i64 mostQ), p1 (.slice rQ.adr lQ.length rQ.cap)]) 87)], rQ.seg lQ 33, [(bsh, .cells (cat [p1 (.slice oL.adr hL.length oL.cap), p1 (.slice oW.adr hW.length oW.cap), p1 (.slice oK.adr hK.length oK.cap), p1 (.slice oY.adr hY.length oY.cap)]) 48)], oL.seg hL 22, oW.seg hW 22, oK.seg hK 77, oY.seg hY 77, segA 33 HL, segB 33 HL, segA 30 HK, segB 30 HK]) (ro0 := [op.s.seg op.l]) (.inl rfl) rfl (hr1 Try.results26 (rvt (v := (.bool _)) rfl)) [0, 1, 2, 3, 4, 5, 6, 7, 8, 9, 10, 11, 12, 13, 14, 15, 16, 17, 18, 19, 20] [] [_, _, _, _, _, _, _, _, _, _, _, _, _, _, _, _, _, _, _, _, _] [] [] _ rfl rfl (by kernel_rfl) rfl impl_nil (⟨(⟨bs, m, o, most, l, br, rP⟩ : PS), (⟨bsQ, mQ, oQ, mostQ, lQ, brQ, rQ⟩ : PS), (⟨oL1, oW1, oK, oY, (hL ++ [(⟨o157.adr, l.length, o157.cap⟩ : SlH)]), (hW ++ [(⟨oc1.adr, l.length, oc1.cap⟩ : SlH)]), hK, hY, (HL ++ [(⟨o157, oc1, l⟩ : Hd Spare)]), HK⟩ : SS), ⟨ho, hrP, by first | assumption | exact hx8.m, by first | exact hnd | exact putL_nd hnd | exact takeL_nd hnd | exact drop_nd hnd | exact hx8.nd | exact hnd, by first | exact hle | exact putL_most hle | exact takeL_most hle | exact drop_most hle | exact hx8.le | exact hle⟩, ⟨hoQ, hrQ, by first | assumption | exact hx8.m, by first | exact hndQ | exact putL_nd hndQ | exact takeL_nd hndQ | exact drop_nd hndQ | exact hx8.nd | exact hnd, by first | exact hleQ | exact putL_most hleQ | exact takeL_most hleQ | exact drop_most hleQ | exact hx8.le | exact hle⟩, ⟨hoL1, hoW1, hss.K, hss.Y, (by rw [List.map_append, ← hss.eL]; rfl), (by rw [List.map_append, ← hss.eW]; rfl), hss.eK, hss.eY, (fun p hp => (List.mem_append.1 hp).elim (hss.aL p) (fun h => by rw [List.mem_singleton] at h; subst h; exact ⟨ho157, hoc1, (by show l.length ≤ 2000; omega)⟩)), hss.aK⟩, (by first | exact Nat.le_succ _ | (simp; done)), (by first | exact Nat.le_succ _ | (simp; done)), rfl, rfl, rfl⟩)
          · replace h6 := of_decide_eq_false h6
            refine c_seq ?_
            refine c_reg ?_
            refine cmp _ rfl rfl rfl ?_
            refine asg (.bool _) rfl ?_
            refine jt ?_
            refine c_cond rfl (fun h7 => ?_) (fun h7 => ?_)
            · replace h7 := of_decide_eq_true h7
              refine c_seq ?_
              refine c_dr [_, _, _, _, _, _, _, _, _, _, _, _, _, _, _, _, _, _, _, _, _, _, _] [] [(0, 0), (1, 0), (2, 0), (3, 0), (5, 0), (6, 0), (7, 0), (8, 0), (4, 1), (9, 1), (10, 0), (11, 0), (12, 0), (13, 0), (14, 0), (15, 0), (17, 0), (18, 0), (19, 0), (20, 0), (16, 1), (21, 1), (22, 0), (23, 0), (24, 0)] follows (by kernel_rfl) calm_body (keepS [0, 1, 2, 3, 4, 5, 6, 7, 8, 9, 10, 11, 12, 13, 14, 15, 16, 17, 18, 19, 20, 21, 22] rfl) ?_
              refine mv (.pointer _) rfl ?_
              refine nlc rfl ?_
              refine fad rfl Try.underlying42 rfl ty24.sz ?_
              refine ldp 0 0 _ rfl rfl rfl rfl ty24 ?_
              refine mv (.pointer _) rfl ?_
              refine nlc rfl ?_
              refine fad rfl Try.underlying42 rfl ty38.sz ?_
              refine ldp 0 1 _ rfl rfl rfl rfl ty38 ?_
              refine cal (Len_ct bs m o most l ho) [] [0, 1, 2, 3, 4, 5, 6, 7, 8, 9, 10, 11, 12, 13, 14, 15, 16, 17, 18, 19, 20, 21] [_, _, _, _, _, _, _, _, _, _, _, _, _, _, _, _, _, _, _, _, _, _] rfl rfl rfl (by kernel_rfl) (impl_cons (impl_at 2 rfl) (impl_cons (impl_at 3 rfl) (impl_cons (impl_at 4 rfl) impl_nil))) rfl ?_; rintro _ _ _ ⟨rfl, rfl, rfl⟩; refine ⟨keepI [0, 1, 2, 3, 4, 5, 6, 7, 8, 9, 10, 11, 12, 13, 14, 15, 16, 17, 18, 19, 20, 21, 22] rfl, ?_⟩
              refine cal (RLen_ct br rP most l hrP) [] [0, 1, 2, 3, 4, 5, 6, 7, 8, 9, 10, 11, 12, 13, 14, 15, 16, 17, 18, 19, 20, 21] [_, _, _, _, _, _, _, _, _, _, _, _, _, _, _, _, _, _, _, _, _, _] rfl rfl rfl (by kernel_rfl) (impl_cons (impl_at 5 rfl) (impl_cons (impl_at 6 rfl) impl_nil)) rfl ?_; rintro _ _ _ ⟨rfl, rfl, rfl⟩; refine ⟨keepI [0, 1, 2, 3, 4, 5, 6, 7, 8, 9, 10, 11, 12, 13, 14, 15, 16, 17, 18, 19, 20, 21, 22] rfl, ?_⟩
              refine cmp true rfl rfl (by simp [cmpV]) ?_
              refine mv (.bool _) rfl ?_
              refine g_on rfl rfl rfl ?_
              refine mv (.pointer _) rfl ?_
              refine g_on rfl rfl rfl ?_
              refine nlc rfl ?_
              refine g_on rfl rfl rfl ?_
              refine fad rfl Try.underlying42 rfl ty24.sz ?_
              refine g_on rfl rfl rfl ?_
              refine ldp 0 0 _ rfl rfl rfl rfl ty24 ?_
              refine g_on rfl rfl rfl ?_
              refine mv (.pointer _) rfl ?_
              refine g_on rfl rfl rfl ?_
              refine nlc rfl ?_
              refine g_on rfl rfl rfl ?_
              refine fad rfl Try.underlying42 rfl ty38.sz ?_
              refine g_on rfl rfl rfl ?_
              refine ldp 0 1 _ rfl rfl rfl rfl ty38 ?_
              refine g_on rfl rfl rfl ?_
              refine cal (Room_ct bs m o most l ho hm (by omega)) [] [0, 1, 2, 3, 4, 5, 6, 7, 8, 9, 10, 11, 12, 13, 14, 15, 16, 17, 18, 19, 20, 21] [_, _, _, _, _, _, _, _, _, _, _, _, _, _, _, _, _, _, _, _, _, _] rfl rfl rfl (by kernel_rfl) (impl_cons (impl_at 2 rfl) (impl_cons (impl_at 3 rfl) (impl_cons (impl_at 4 rfl) impl_nil))) rfl ?_; rintro _ _ _ ⟨rfl, rfl, rfl⟩; refine ⟨keepI [0, 1, 2, 3, 4, 5, 6, 7, 8, 9, 10, 11, 12, 13, 14, 15, 16, 17, 18, 19, 20, 21, 22] rfl, ?_⟩
              refine g_on rfl rfl rfl ?_
              refine cal (RRoom_ct br rP most l hrP (by omega) (by omega)) [] [0, 1, 2, 3, 4, 5, 6, 7, 8, 9, 10, 11, 12, 13, 14, 15, 16, 17, 18, 19, 20, 21] [_, _, _, _, _, _, _, _, _, _, _, _, _, _, _, _, _, _, _, _, _, _] rfl rfl rfl (by kernel_rfl) (impl_cons (impl_at 5 rfl) (impl_cons (impl_at 6 rfl) impl_nil)) rfl ?_; rintro _ _ _ ⟨rfl, rfl, rfl⟩; refine ⟨keepI [0, 1, 2, 3, 4, 5, 6, 7, 8, 9, 10, 11, 12, 13, 14, 15, 16, 17, 18, 19, 20, 21, 22] rfl, ?_⟩
              refine g_on rfl rfl rfl ?_
              refine cmp true rfl rfl (by simp [cmpV]) ?_
              refine pkt (.bool _) rfl rfl ?_
              refine asg (.bool _) rfl ?_
              refine jt ?_
              refine c_ret ?_
              exact j_end (own0 := [[(bp, .cells (cat [p1 (.pointer (some ⟨bs, 0, none⟩)), p1 (.pointer (some ⟨br, 0, none⟩))]) 42)], [(bs, .cells (cat [p1 (.int .i64 most), p1 (.map (some m)), p1 (.slice o.adr (List.map plc l).length o.cap)]) 76)], [(m, .pred (isMap (List.map skv l)))], o.seg (List.map plc l) 72, [(br, .cells (cat [p1 (.int .i64 most), p1 (.slice rP.adr l.length rP.cap)]) 87)], rP.seg l 33, [(bq, .cells (cat [p1 (.pointer (some ⟨bsQ, 0, none⟩)), p1 (.pointer (some ⟨brQ, 0, none⟩))]) 42)], [(bsQ, .cells (cat [p1 (.int .i64 mostQ), p1 (.map (some mQ)), p1 (.slice oQ.adr (List.map plc lQ).length oQ.cap)]) 76)], [(mQ, .pred (isMap (List.map skv lQ)))], oQ.seg (List.map plc lQ) 72, [(brQ, .cells (cat [p1 (.int .i64 mostQ), p1 (.slice rQ.adr lQ.length rQ.cap)]) 87)], rQ.seg lQ 33, [(bsh, .cells (cat [p1 (.slice oL.adr hL.length oL.cap), p1 (.slice oW.adr hW.length oW.cap), p1 (.slice oK.adr hK.length oK.cap), p1 (.slice oY.adr hY.length oY.cap)]) 48)], oL.seg hL 22, oW.seg hW 22, oK.seg hK 77, oY.seg hY 77, segA 33 HL, segB 33 HL, segA 30 HK, segB 30 HK]) (ro0 := [op.s.seg op.l]) (.inl rfl) rfl (hr1 Try.results26 (rvt (v := (.bool _)) rfl)) [0, 1, 2, 3, 4, 5, 6, 7, 8, 9, 10, 11, 12, 13, 14, 15, 16, 17, 18, 19, 20] [21] [_, _, _, _, _, _, _, _, _, _, _, _, _, _, _, _, _, _, _, _, _] [_] [] _ rfl rfl (by kernel_rfl) rfl impl_nil (⟨(⟨bs, m, o, most, l, br, rP⟩ : PS), (⟨bsQ, mQ, oQ, mostQ, lQ, brQ, rQ⟩ : PS), (⟨oL, oW, oK, oY, hL, hW, hK, hY, HL, HK⟩ : SS), ⟨ho, hrP, by first | assumption | exact hx8.m, by first | exact hnd | exact putL_nd hnd | exact takeL_nd hnd | exact drop_nd hnd | exact hx8.nd | exact hnd, by first | exact hle | exact putL_most hle | exact takeL_most hle | exact drop_most hle | exact hx8.le | exact hle⟩, ⟨hoQ, hrQ, by first | assumption | exact hx8.m, by first | exact hndQ | exact putL_nd hndQ | exact takeL_nd hndQ | exact drop_nd hndQ | exact hx8.nd | exact hnd, by first | exact hleQ | exact putL_most hleQ | exact takeL_most hleQ | exact drop_most hleQ | exact hx8.le | exact hle⟩, ⟨hss.L, hss.W, hss.K, hss.Y, hss.eL, hss.eW, hss.eK, hss.eY, hss.aL, hss.aK⟩, (by first | exact Nat.le_succ _ | (simp; done)), (by first | exact Nat.le_succ _ | (simp; done)), rfl, rfl, rfl⟩)
            · replace h7 := of_decide_eq_false h7
              refine c_seq ?_
              refine c_reg ?_
              refine cmp _ rfl rfl rfl ?_
              refine asg (.bool _) rfl ?_
              refine jt ?_
              refine c_cond rfl (fun h8 => ?_) (fun h8 => ?_)
              · replace h8 := of_decide_eq_true h8
                refine c_seq ?_
                refine c_reg ?_
                refine mv (.pointer _) rfl ?_
                refine nlc rfl ?_
                refine fad rfl Try.underlying42 rfl ty24.sz ?_
                refine ldp 0 0 _ rfl rfl rfl rfl ty24 ?_
                refine cal (Headers_ct bs m o most l ho (by omega)) [] [0, 1, 2, 3, 4, 5, 6, 7, 8, 9, 10, 11, 12, 13, 14, 15, 16, 17, 18, 19, 20, 21] [_, _, _, _, _, _, _, _, _, _, _, _, _, _, _, _, _, _, _, _, _, _] rfl rfl rfl (by kernel_rfl) (impl_cons (impl_at 2 rfl) (impl_cons (impl_at 3 rfl) (impl_cons (impl_at 4 rfl) impl_nil))) rfl ?_; rintro _ _ _ ⟨o200, ho200, rfl, rfl, rfl⟩; refine ⟨trivial, ?_⟩
                refine asg (.slice _ _ _) rfl ?_
                refine jt ?_
                refine c_seq ?_
                refine c_reg ?_
                refine mv (.pointer _) rfl ?_
                refine mv (.slice _ _ _) rfl ?_
                refine cal (shKeys_ct bsh oL oW oK oY hL hW hK hY hss.K hss.Y (by first | omega | (simp; done) | (simp; omega) | (simp at *; omega)) (by first | omega | (simp; done) | (simp; omega) | (simp at *; omega)) ((o200).vs) (hdrs l) (Ow.vs_ok ho200) (by omega)) [12, 15, 16] [0, 1, 2, 3, 4, 5, 6, 7, 8, 9, 10, 11, 13, 14, 17, 18, 19, 20, 21, 22] [_, _, _, _, _, _, _, _, _, _, _, _, _, _, _, _, _, _, _, _] rfl rfl rfl (by kernel_rfl) (impl_cons (ow_impl 20 rfl) impl_nil) rfl ?_; rintro _ _ _ ⟨oK2, oY2, oc2, hoK2, hoY2, hoc2, rfl, rfl, rfl⟩; refine ⟨trivial, ?_⟩
                refine jt ?_
                refine c_seq ?_
                refine c_reg ?_
                refine mv (.slice _ _ _) rfl ?_
                refine mv (.pointer _) rfl ?_
                refine nlc rfl ?_
                refine fad rfl Try.underlying42 rfl ty38.sz ?_
                refine ldp 0 1 _ rfl rfl rfl rfl ty38 ?_
                refine cal (RHeaders_ct br rP most l hrP (by omega)) [] [0, 1, 2, 3, 4, 5, 6, 7, 8, 9, 10, 11, 12, 13, 14, 15, 16, 17, 18, 19, 20, 21, 22, 23] [_, _, _, _, _, _, _, _, _, _, _, _, _, _, _, _, _, _, _, _, _, _, _, _] rfl rfl rfl (by kernel_rfl) (impl_cons (impl_at 5 rfl) (impl_cons (impl_at 6 rfl) impl_nil)) rfl ?_; rintro _ _ _ ⟨o209, ho209, rfl, rfl, rfl⟩; refine ⟨trivial, ?_⟩
                refine cal (sameKeys_self ((o200).vs) ((o209).vs) (hdrs l) (Ow.vs_ok ho200) (Ow.vs_ok ho209) (by omega)) [] [0, 1, 2, 3, 4, 5, 6, 7, 8, 9, 10, 11, 12, 13, 14, 15, 16, 17, 18, 19, 20, 21, 22, 23, 24] [_, _, _, _, _, _, _, _, _, _, _, _, _, _, _, _, _, _, _, _, _, _, _, _, _] rfl rfl rfl (by kernel_rfl) (impl_cons (ow_impl 20 rfl) (impl_cons (ow_impl 25 rfl) impl_nil)) rfl ?_; rintro _ _ _ ⟨rfl, rfl, rfl⟩; refine ⟨trivial, ?_⟩
                refine asg (.bool _) rfl ?_
                refine jt ?_
                refine c_ret ?_
                refine e_keep [0, 1, 2, 3, 4, 5, 6, 7, 8, 9, 10, 11, 20, 12, 13, 21, 22, 14, 15, 16, 19, 17, 23] [18, 24] [_, _, _, _, _, _, _, _, _, _, _, _, _, _, _, _, _, _, _, _, _, _, _] rfl (by kernel_rfl) ?_
                refine e_part (own' := [[(bp, .cells (cat [p1 (.pointer (some ⟨bs, 0, none⟩)), p1 (.pointer (some ⟨br, 0, none⟩))]) 42)], [(bs, .cells (cat [p1 (.int .i64 most), p1 (.map (some m)), p1 (.slice o.adr (List.map plc l).length o.cap)]) 76)], [(m, .pred (isMap (List.map skv l)))], o.seg (List.map plc l) 72, [(br, .cells (cat [p1 (.int .i64 most), p1 (.slice rP.adr l.length rP.cap)]) 87)], rP.seg l 33, [(bq, .cells (cat [p1 (.pointer (some ⟨bsQ, 0, none⟩)), p1 (.pointer (some ⟨brQ, 0, none⟩))]) 42)], [(bsQ, .cells (cat [p1 (.int .i64 mostQ), p1 (.map (some mQ)), p1 (.slice oQ.adr (List.map plc lQ).length oQ.cap)]) 76)], [(mQ, .pred (isMap (List.map skv lQ)))], oQ.seg (List.map plc lQ) 72, [(brQ, .cells (cat [p1 (.int .i64 mostQ), p1 (.slice rQ.adr lQ.length rQ.cap)]) 87)], rQ.seg lQ 33, [(bsh, .cells (cat [p1 (.slice oL.adr hL.length oL.cap), p1 (.slice oW.adr hW.length oW.cap), p1 (.slice oK2.adr (hK ++ [(⟨o200.adr, (hdrs l).length, o200.cap⟩ : SlH)]).length oK2.cap), p1 (.slice oY2.adr (hY ++ [(⟨oc2.adr, (hdrs l).length, oc2.cap⟩ : SlH)]).length oY2.cap)]) 48)], oL.seg hL 22, oW.seg hW 22, oK2.seg (hK ++ [(⟨o200.adr, (hdrs l).length, o200.cap⟩ : SlH)]) 77, oY2.seg (hY ++ [(⟨oc2.adr, (hdrs l).length, oc2.cap⟩ : SlH)]) 77, segA 33 HL, segB 33 HL, segA 30 (HK ++ [(⟨o200, oc2, (hdrs l)⟩ : Hd Key)]), segB 30 (HK ++ [(⟨o200, oc2, (hdrs l)⟩ : Hd Key)])]) (List.Perm.of_eq (by simp only [List.flatten_cons, segA_snoc, segB_snoc, List.append_assoc]; rfl)) ?_
                exact j_end (own0 := [[(bp, .cells (cat [p1 (.pointer (some ⟨bs, 0, none⟩)), p1 (.pointer (some ⟨br, 0, none⟩))]) 42)], [(bs, .cells (cat [p1 (.int .i64 most), p1 (.map (some m)), p1 (.slice o.adr (List.map plc l).length o.cap)]) 76)], [(m, .pred (isMap (List.map skv l)))], o.seg (List.map plc l) 72, [(br, .cells (cat [p1 (.int .i64 most), p1 (.slice rP.adr l.length rP.cap)]) 87)], rP.seg l 33, [(bq, .cells (cat [p1 (.pointer (some ⟨bsQ, 0, none⟩)), p1 (.pointer (some ⟨brQ, 0, none⟩))]) 42)], [(bsQ, .cells (cat [p1 (.int .i64 mostQ), p1 (.map (some mQ)), p1 (.slice oQ.adr (List.map plc lQ).length oQ.cap)]) 76)], [(mQ, .pred (isMap (List.map skv lQ)))], oQ.seg (List.map plc lQ) 72, [(brQ, .cells (cat [p1 (.int .i64 mostQ), p1 (.slice rQ.adr lQ.length rQ.cap)]) 87)], rQ.seg lQ 33, [(bsh, .cells (cat [p1 (.slice oL.adr hL.length oL.cap), p1 (.slice oW.adr hW.length oW.cap), p1 (.slice oK.adr hK.length oK.cap), p1 (.slice oY.adr hY.length oY.cap)]) 48)], oL.seg hL 22, oW.seg hW 22, oK.seg hK 77, oY.seg hY 77, segA 33 HL, segB 33 HL, segA 30 HK, segB 30 HK]) (ro0 := [op.s.seg op.l]) (.inl rfl) rfl (hr1 Try.results26 (rvt (v := (.bool _)) rfl)) [0, 1, 2, 3, 4, 5, 6, 7, 8, 9, 10, 11, 12, 13, 14, 15, 16, 17, 18, 19, 20] [] [_, _, _, _, _, _, _, _, _, _, _, _, _, _, _, _, _, _, _, _, _] [] [] _ rfl rfl (by kernel_rfl) rfl impl_nil (⟨(⟨bs, m, o, most, l, br, rP⟩ : PS), (⟨bsQ, mQ, oQ, mostQ, lQ, brQ, rQ⟩ : PS), (⟨oL, oW, oK2, oY2, hL, hW, (hK ++ [(⟨o200.adr, (hdrs l).length, o200.cap⟩ : SlH)]), (hY ++ [(⟨oc2.adr, (hdrs l).length, oc2.cap⟩ : SlH)]), HL, (HK ++ [(⟨o200, oc2, (hdrs l)⟩ : Hd Key)])⟩ : SS), ⟨ho, hrP, by first | assumption | exact hx8.m, by first | exact hnd | exact putL_nd hnd | exact takeL_nd hnd | exact drop_nd hnd | exact hx8.nd | exact hnd, by first | exact hle | exact putL_most hle | exact takeL_most hle | exact drop_most hle | exact hx8.le | exact hle⟩, ⟨hoQ, hrQ, by first | assumption | exact hx8.m, by first | exact hndQ | exact putL_nd hndQ | exact takeL_nd hndQ | exact drop_nd hndQ | exact hx8.nd | exact hnd, by first | exact hleQ | exact putL_most hleQ | exact takeL_most hleQ | exact drop_most hleQ | exact hx8.le | exact hle⟩, ⟨hss.L, hss.W, hoK2, hoY2, hss.eL, hss.eW, (by rw [List.map_append, ← hss.eK]; rfl), (by rw [List.map_append, ← hss.eY]; rfl), hss.aL, (fun p hp => (List.mem_append.1 hp).elim (hss.aK p) (fun h => by rw [List.mem_singleton] at h; subst h; exact ⟨ho200, hoc2, (by show (hdrs l).length ≤ 2000; omega)⟩))⟩, (by first | exact Nat.le_succ _ | (simp; done)), (by first | exact Nat.le_succ _ | (simp; done)), rfl, rfl, rfl⟩)
              · replace h8 := of_decide_eq_false h8
                refine c_seq ?_
                refine c_reg ?_
                refine cmp _ rfl rfl rfl ?_
                refine asg (.bool _) rfl ?_
                refine jt ?_
                refine c_cond rfl (fun h9 => ?_) (fun h9 => ?_)
                · replace h9 := of_decide_eq_true h9
                  refine c_seq ?_
                  refine c_reg ?_
                  refine mv (.pointer _) rfl ?_
                  refine ldw 21 _ rfl rfl ty57 ?_
                  refine cal (from_ct bp bs m o most l ho br rP hrP hm hnd hle op hop) [0, 1, 2, 3, 4, 5] [6, 7, 8, 9, 10, 11, 12, 13, 14, 15, 16, 17, 18, 19, 20, 21] [_, _, _, _, _, _, _, _, _, _, _, _, _, _, _, _] rfl rfl rfl (by kernel_rfl) (impl_cons (impl_at 0 rfl) impl_nil) rfl ?_; rintro _ _ _ ⟨⟨bs8, m8, o8, most8, l8, br8, p8⟩, hx8, rfl, rfl, rfl⟩; refine ⟨trivial, ?_⟩
                  refine asg (.bool _) rfl ?_
                  refine jt ?_
                  refine c_ret ?_
                  exact j_end (own0 := [[(bp, .cells (cat [p1 (.pointer (some ⟨bs, 0, none⟩)), p1 (.pointer (some ⟨br, 0, none⟩))]) 42)], [(bs, .cells (cat [p1 (.int .i64 most), p1 (.map (some m)), p1 (.slice o.adr (List.map plc l).length o.cap)]) 76)], [(m, .pred (isMap (List.map skv l)))], o.seg (List.map plc l) 72, [(br, .cells (cat [p1 (.int .i64 most), p1 (.slice rP.adr l.length rP.cap)]) 87)], rP.seg l 33, [(bq, .cells (cat [p1 (.pointer (some ⟨bsQ, 0, none⟩)), p1 (.pointer (some ⟨brQ, 0, none⟩))]) 42)], [(bsQ, .cells (cat [p1 (.int .i64 mostQ), p1 (.map (some mQ)), p1 (.slice oQ.adr (List.map plc lQ).length oQ.cap)]) 76)], [(mQ, .pred (isMap (List.map skv lQ)))], oQ.seg (List.map plc lQ) 72, [(brQ, .cells (cat [p1 (.int .i64 mostQ), p1 (.slice rQ.adr lQ.length rQ.cap)]) 87)], rQ.seg lQ 33, [(bsh, .cells (cat [p1 (.slice oL.adr hL.length oL.cap), p1 (.slice oW.adr hW.length oW.cap), p1 (.slice oK.adr hK.length oK.cap), p1 (.slice oY.adr hY.length oY.cap)]) 48)], oL.seg hL 22, oW.seg hW 22, oK.seg hK 77, oY.seg hY 77, segA 33 HL, segB 33 HL, segA 30 HK, segB 30 HK]) (ro0 := [op.s.seg op.l]) (.inl rfl) rfl (hr1 Try.results26 (rvt (v := (.bool _)) rfl)) [16, 17, 18, 19, 20, 21, 0, 1, 2, 3, 4, 5, 6, 7, 8, 9, 10, 11, 12, 13, 14] [15] [_, _, _, _, _, _, _, _, _, _, _, _, _, _, _, _, _, _, _, _, _] [_] [] _ rfl rfl (by kernel_rfl) rfl impl_nil (⟨(⟨bs8, m8, o8, most8, l8, br8, p8⟩ : PS), (⟨bsQ, mQ, oQ, mostQ, lQ, brQ, rQ⟩ : PS), (⟨oL, oW, oK, oY, hL, hW, hK, hY, HL, HK⟩ : SS), ⟨hx8.o, hx8.p, by first | assumption | exact hx8.m, by first | exact hnd | exact putL_nd hnd | exact takeL_nd hnd | exact drop_nd hnd | exact hx8.nd | exact hnd, by first | exact hle | exact putL_most hle | exact takeL_most hle | exact drop_most hle | exact hx8.le | exact hle⟩, ⟨hoQ, hrQ, by first | assumption | exact hx8.m, by first | exact hndQ | exact putL_nd hndQ | exact takeL_nd hndQ | exact drop_nd hndQ | exact hx8.nd | exact hnd, by first | exact hleQ | exact putL_most hleQ | exact takeL_most hleQ | exact drop_most hleQ | exact hx8.le | exact hle⟩, ⟨hss.L, hss.W, hss.K, hss.Y, hss.eL, hss.eW, hss.eK, hss.eY, hss.aL, hss.aK⟩, (by first | exact Nat.le_succ _ | (simp; done)), (by first | exact Nat.le_succ _ | (simp; done)), rfl, rfl, rfl⟩)
                · replace h9 := of_decide_eq_false h9
                  refine c_seq ?_
                  refine c_reg ?_
                  refine cmp _ rfl rfl rfl ?_
                  refine asg (.bool _) rfl ?_
                  refine jt ?_
                  refine c_cond rfl (fun h10 => ?_) (fun h10 => ?_)
                  · replace h10 := of_decide_eq_true h10
                    refine c_seq ?_
                    refine c_reg ?_
                    refine mv (.pointer _) rfl ?_
                    refine mv (.pointer _) rfl ?_
                    refine nlc rfl ?_
                    refine fad rfl Try.underlying42 rfl ty24.sz ?_
                    refine ldp 0 0 _ rfl rfl rfl rfl ty24 ?_
                    refine cal (Clone_ct bs m o most l ho (by omega)) [] [0, 1, 2, 3, 4, 5, 6, 7, 8, 9, 10, 11, 12, 13, 14, 15, 16, 17, 18, 19, 20, 21] [_, _, _, _, _, _, _, _, _, _, _, _, _, _, _, _, _, _, _, _, _, _] rfl rfl rfl (by kernel_rfl) (impl_cons (impl_at 2 rfl) (impl_cons (impl_at 3 rfl) (impl_cons (impl_at 4 rfl) impl_nil))) rfl ?_; rintro _ _ _ ⟨bs223, m223, o223, ho223, rfl, rfl, rfl⟩; refine ⟨trivial, ?_⟩
                    refine nlc rfl ?_
                    refine fad rfl Try.underlying42 rfl ty24.sz ?_
                    refine stp 6 0 _ (p1 (.pointer (some ⟨bs223, 0, none⟩))) rfl rfl rfl rfl rfl rfl ty24 ⟨trivial, ?_⟩
                    refine jt ?_
                    refine c_seq ?_
                    refine c_reg ?_
                    refine mv (.pointer _) rfl ?_
                    refine mv (.pointer _) rfl ?_
                    refine nlc rfl ?_
                    refine fad rfl Try.underlying42 rfl ty38.sz ?_
                    refine ldp 0 1 _ rfl rfl rfl rfl ty38 ?_
                    refine cal (RClone_ct br rP most l hrP (by omega)) [] [0, 1, 2, 3, 4, 5, 6, 7, 8, 9, 10, 11, 12, 13, 14, 15, 16, 17, 18, 19, 20, 21, 22, 23, 24] [_, _, _, _, _, _, _, _, _, _, _, _, _, _, _, _, _, _, _, _, _, _, _, _, _] rfl rfl rfl (by kernel_rfl) (impl_cons (impl_at 5 rfl) (impl_cons (impl_at 6 rfl) impl_nil)) rfl ?_; rintro _ _ _ ⟨br231, o231, ho231, rfl, rfl, rfl⟩; refine ⟨trivial, ?_⟩
                    refine nlc rfl ?_
                    refine fad rfl Try.underlying42 rfl ty38.sz ?_
                    refine stp 6 1 _ (p1 (.pointer (some ⟨br231, 0, none⟩))) rfl rfl rfl rfl rfl rfl ty38 ⟨trivial, ?_⟩
                    refine jt ?_
                    refine c_seq ?_
                    refine c_reg ?_
                    refine mv (.pointer _) rfl ?_
                    refine nlc rfl ?_
                    refine fad rfl Try.underlying42 rfl ty24.sz ?_
                    refine ldp 6 0 _ rfl rfl rfl rfl ty24 ?_
                    refine eqpn true rfl rfl Try.underlying24 rfl ?_
                    refine asg (.bool _) rfl ?_
                    refine jt ?_
                    refine c_ret ?_
                    exact j_end (own0 := [[(bp, .cells (cat [p1 (.pointer (some ⟨bs, 0, none⟩)), p1 (.pointer (some ⟨br, 0, none⟩))]) 42)], [(bs, .cells (cat [p1 (.int .i64 most), p1 (.map (some m)), p1 (.slice o.adr (List.map plc l).length o.cap)]) 76)], [(m, .pred (isMap (List.map skv l)))], o.seg (List.map plc l) 72, [(br, .cells (cat [p1 (.int .i64 most), p1 (.slice rP.adr l.length rP.cap)]) 87)], rP.seg l 33, [(bq, .cells (cat [p1 (.pointer (some ⟨bsQ, 0, none⟩)), p1 (.pointer (some ⟨brQ, 0, none⟩))]) 42)], [(bsQ, .cells (cat [p1 (.int .i64 mostQ), p1 (.map (some mQ)), p1 (.slice oQ.adr (List.map plc lQ).length oQ.cap)]) 76)], [(mQ, .pred (isMap (List.map skv lQ)))], oQ.seg (List.map plc lQ) 72, [(brQ, .cells (cat [p1 (.int .i64 mostQ), p1 (.slice rQ.adr lQ.length rQ.cap)]) 87)], rQ.seg lQ 33, [(bsh, .cells (cat [p1 (.slice oL.adr hL.length oL.cap), p1 (.slice oW.adr hW.length oW.cap), p1 (.slice oK.adr hK.length oK.cap), p1 (.slice oY.adr hY.length oY.cap)]) 48)], oL.seg hL 22, oW.seg hW 22, oK.seg hK 77, oY.seg hY 77, segA 33 HL, segB 33 HL, segA 30 HK, segB 30 HK]) (ro0 := [op.s.seg op.l]) (.inl rfl) rfl (hr1 Try.results26 (rvt (v := (.bool _)) rfl)) [0, 1, 2, 3, 4, 5, 6, 22, 23, 24, 25, 26, 12, 13, 14, 15, 16, 17, 18, 19, 20] [7, 8, 9, 10, 11, 21] [_, _, _, _, _, _, _, _, _, _, _, _, _, _, _, _, _, _, _, _, _] [_, _, _, _, _, _] [] _ rfl rfl (by kernel_rfl) rfl impl_nil (⟨(⟨bs, m, o, most, l, br, rP⟩ : PS), (⟨bs223, m223, o223, most, l, br231, o231⟩ : PS), (⟨oL, oW, oK, oY, hL, hW, hK, hY, HL, HK⟩ : SS), ⟨ho, hrP, by first | assumption | exact hx8.m, by first | exact hnd | exact putL_nd hnd | exact takeL_nd hnd | exact drop_nd hnd | exact hx8.nd | exact hnd, by first | exact hle | exact putL_most hle | exact takeL_most hle | exact drop_most hle | exact hx8.le | exact hle⟩, ⟨ho223, ho231, by first | assumption | exact hx8.m, by first | exact hndQ | exact putL_nd hndQ | exact takeL_nd hndQ | exact drop_nd hndQ | exact hx8.nd | exact hnd, by first | exact hleQ | exact putL_most hleQ | exact takeL_most hleQ | exact drop_most hleQ | exact hx8.le | exact hle⟩, ⟨hss.L, hss.W, hss.K, hss.Y, hss.eL, hss.eW, hss.eK, hss.eY, hss.aL, hss.aK⟩, (by first | exact Nat.le_succ _ | (simp; done)), (by first | exact Nat.le_succ _ | (simp; done)), rfl, rfl, rfl⟩)
                  · replace h10 := of_decide_eq_false h10
                    refine c_skip ?_
                    refine e_in ?_
                    refine e_then ?_
                    refine c_seq ?_
                    refine c_reg ?_
                    refine asg (.bool _) rfl ?_
                    refine jt ?_
                    refine c_ret ?_
                    exact j_end (own0 := [[(bp, .cells (cat [p1 (.pointer (some ⟨bs, 0, none⟩)), p1 (.pointer (some ⟨br, 0, none⟩))]) 42)], [(bs, .cells (cat [p1 (.int .i64 most), p1 (.map (some m)), p1 (.slice o.adr (List.map plc l).length o.cap)]) 76)], [(m, .pred (isMap (List.map skv l)))], o.seg (List.map plc l) 72, [(br, .cells (cat [p1 (.int .i64 most), p1 (.slice rP.adr l.length rP.cap)]) 87)], rP.seg l 33, [(bq, .cells (cat [p1 (.pointer (some ⟨bsQ, 0, none⟩)), p1 (.pointer (some ⟨brQ, 0, none⟩))]) 42)], [(bsQ, .cells (cat [p1 (.int .i64 mostQ), p1 (.map (some mQ)), p1 (.slice oQ.adr (List.map plc lQ).length oQ.cap)]) 76)], [(mQ, .pred (isMap (List.map skv lQ)))], oQ.seg (List.map plc lQ) 72, [(brQ, .cells (cat [p1 (.int .i64 mostQ), p1 (.slice rQ.adr lQ.length rQ.cap)]) 87)], rQ.seg lQ 33, [(bsh, .cells (cat [p1 (.slice oL.adr hL.length oL.cap), p1 (.slice oW.adr hW.length oW.cap), p1 (.slice oK.adr hK.length oK.cap), p1 (.slice oY.adr hY.length oY.cap)]) 48)], oL.seg hL 22, oW.seg hW 22, oK.seg hK 77, oY.seg hY 77, segA 33 HL, segB 33 HL, segA 30 HK, segB 30 HK]) (ro0 := [op.s.seg op.l]) (.inl rfl) rfl (hr1 Try.results26 (rvt (v := (.bool _)) rfl)) [0, 1, 2, 3, 4, 5, 6, 7, 8, 9, 10, 11, 12, 13, 14, 15, 16, 17, 18, 19, 20] [21] [_, _, _, _, _, _, _, _, _, _, _, _, _, _, _, _, _, _, _, _, _] [_] [] _ rfl rfl (by kernel_rfl) rfl impl_nil (⟨(⟨bs, m, o, most, l, br, rP⟩ : PS), (⟨bsQ, mQ, oQ, mostQ, lQ, brQ, rQ⟩ : PS), (⟨oL, oW, oK, oY, hL, hW, hK, hY, HL, HK⟩ : SS), ⟨ho, hrP, by first | assumption | exact hx8.m, by first | exact hnd | exact putL_nd hnd | exact takeL_nd hnd | exact drop_nd hnd | exact hx8.nd | exact hnd, by first | exact hle | exact putL_most hle | exact takeL_most hle | exact drop_most hle | exact hx8.le | exact hle⟩, ⟨hoQ, hrQ, by first | assumption | exact hx8.m, by first | exact hndQ | exact putL_nd hndQ | exact takeL_nd hndQ | exact drop_nd hndQ | exact hx8.nd | exact hnd, by first | exact hleQ | exact putL_most hleQ | exact takeL_most hleQ | exact drop_most hleQ | exact hx8.le | exact hle⟩, ⟨hss.L, hss.W, hss.K, hss.Y, hss.eL, hss.eW, hss.eK, hss.eY, hss.aL, hss.aK⟩, (by first | exact Nat.le_succ _ | (simp; done)), (by first | exact Nat.le_succ _ | (simp; done)), rfl, rfl, rfl⟩)
end Go.Proofs.Ytacfjmjcgolhfaa
