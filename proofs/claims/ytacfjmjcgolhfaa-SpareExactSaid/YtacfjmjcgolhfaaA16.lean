/- Contracts of the program's functions, walked. No condition. -/
import Derived.Test.YtacfjmjcgolhfaaA15
namespace Go.Proofs.Ytacfjmjcgolhfaa
open Go Go.Proofs Go.PW
open Go.PW.Enc (enc val)
theorem lay42 : ∀ fs, Try.prog.underlying 42 = some (.struct fs) → Lay Try.prog fs [(0, 1), (1, 1)] := fun fs h => by rw [Try.underlying42] at h; cases h; unfold Lay; kernel_rfl
theorem z42 : Zt Try.prog 42 (.agg ⟨cat [p1 (.pointer none), p1 (.pointer none)]⟩) := by unfold Zt; kernel_rfl
theorem lay48 : ∀ fs, Try.prog.underlying 48 = some (.struct fs) → Lay Try.prog fs [(0, 1), (1, 1), (2, 1), (3, 1)] := fun fs h => by rw [Try.underlying48] at h; cases h; unfold Lay; kernel_rfl
theorem z48 : Zt Try.prog 48 (.agg ⟨cat [p1 (.slice none 0 0), p1 (.slice none 0 0), p1 (.slice none 0 0), p1 (.slice none 0 0)]⟩) := by unfold Zt; kernel_rfl

theorem sameSpares_self (s t : Vs) (xs : List Spare) (hs : s.ok xs) (ht : t.ok xs) (hx : xs.length ≤ 9223372036854775806) : Ct Try.prog 13 [s.v xs.length, t.v xs.length] [] [s.seg xs, t.seg xs] (fun v o r => v = .bool true ∧ o = [] ∧ r = []) :=
  (sameSpares_ct s t xs xs hs ht hx).mono fun v o r h => ⟨by rw [h.1]; simp, h.2⟩

set_option maxRecDepth 20000 in
set_option maxHeartbeats 4000000 in
theorem same_ct (bs m : Nat) (o : Ow) (most : Int) (l : List Spare) (ho : o.ok (List.map plc l)) (br : Nat) (p : Ow) (hp : p.ok l) (hm : 0 ≤ most ∧ most ≤ 2000) (hl : l.length ≤ 2000) (hnd : (l.map plc).Nodup) (bsh : Nat) (oL oW oK oY : Ow) (hL hW hK hY : List SlH) (hoL : oL.ok hL) (hbL : hL.length ≤ 5864062014000) (hoW : oW.ok hW) (hbW : hW.length ≤ 5864062014000) (hoK : oK.ok hK) (hbK : hK.length ≤ 5864062014000) (hoY : oY.ok hY) (hbY : hY.length ≤ 5864062014000) : Ct Try.prog 16 [.agg ⟨cat [p1 (.pointer (some ⟨bs, 0, none⟩)), p1 (.pointer (some ⟨br, 0, none⟩))]⟩, .pointer (some ⟨bsh, 0, none⟩)] [[(bsh, .cells (cat [p1 (.slice oL.adr hL.length oL.cap), p1 (.slice oW.adr hW.length oW.cap), p1 (.slice oK.adr hK.length oK.cap), p1 (.slice oY.adr hY.length oY.cap)]) 48)], oL.seg hL 22, oW.seg hW 22, oK.seg hK 77, oY.seg hY 77] [[(bs, .cells (cat [p1 (.int .i64 most), p1 (.map (some m)), p1 (.slice o.adr (List.map plc l).length o.cap)]) 76)], [(m, .pred (isMap (List.map skv l)))], o.seg (List.map plc l) 72, [(br, .cells (cat [p1 (.int .i64 most), p1 (.slice p.adr l.length p.cap)]) 87)], p.seg l 33] (fun v w r => ∃ oL' oW' oK' oY' a b c d : Ow, oL'.ok (hL ++ [(⟨a.adr, l.length, a.cap⟩ : SlH)]) ∧ oW'.ok (hW ++ [(⟨b.adr, l.length, b.cap⟩ : SlH)]) ∧ oK'.ok (hK ++ [(⟨c.adr, (hdrs l).length, c.cap⟩ : SlH)]) ∧ oY'.ok (hY ++ [(⟨d.adr, (hdrs l).length, d.cap⟩ : SlH)]) ∧ a.ok l ∧ b.ok l ∧ c.ok (hdrs l) ∧ d.ok (hdrs l) ∧ v = .bool true ∧ w = [[(bsh, .cells (cat [p1 (.slice oL'.adr (hL ++ [(⟨a.adr, l.length, a.cap⟩ : SlH)]).length oL'.cap), p1 (.slice oW'.adr (hW ++ [(⟨b.adr, l.length, b.cap⟩ : SlH)]).length oW'.cap), p1 (.slice oK'.adr (hK ++ [(⟨c.adr, (hdrs l).length, c.cap⟩ : SlH)]).length oK'.cap), p1 (.slice oY'.adr (hY ++ [(⟨d.adr, (hdrs l).length, d.cap⟩ : SlH)]).length oY'.cap)]) 48)], oL'.seg (hL ++ [(⟨a.adr, l.length, a.cap⟩ : SlH)]) 22, oW'.seg (hW ++ [(⟨b.adr, l.length, b.cap⟩ : SlH)]) 22, oK'.seg (hK ++ [(⟨c.adr, (hdrs l).length, c.cap⟩ : SlH)]) 77, oY'.seg (hY ++ [(⟨d.adr, (hdrs l).length, d.cap⟩ : SlH)]) 77, a.seg l 33, b.seg l 33, c.seg (hdrs l) 30, d.seg (hdrs l) 30] ∧ r = []) := by
  have hhl := hdrs_le l
  refine ct_enter Try.func16 rfl Try.ntmps16 (by kernel_rfl) rfl fun w0 => ?_
  refine c_seq ?_
  refine c_reg ?_
  refine bxx [p1 (.pointer (some ⟨bs, 0, none⟩)), p1 (.pointer (some ⟨br, 0, none⟩))] _ rfl rfl fun b2 => ⟨trivial, ?_⟩
  refine asg (.bool _) rfl ?_
  refine jt ?_
  refine c_seq ?_
  refine c_reg ?_
  refine fad rfl Try.underlying42 rfl ty24.sz ?_
  refine ldp 5 0 _ rfl rfl rfl rfl ty24 ?_
  refine cal (List_ct bs m o most l ho (by omega) (by assumption)) [] [0, 1, 2, 3, 4, 5] [_, _, _, _, _, _] rfl rfl rfl (by kernel_rfl) (impl_cons (impl_at 0 rfl) (impl_cons (impl_at 1 rfl) (impl_cons (impl_at 2 rfl) impl_nil))) rfl ?_; rintro _ _ _ ⟨o10, ho10, rfl, rfl, rfl⟩; refine ⟨trivial, ?_⟩
  refine asg (.slice _ _ _) rfl ?_
  refine jt ?_
  refine c_seq ?_
  refine c_reg ?_
  refine fad rfl Try.underlying42 rfl ty24.sz ?_
  refine ldp 5 0 _ rfl rfl rfl rfl ty24 ?_
  refine cal (Headers_ct bs m o most l ho (by omega)) [] [0, 1, 2, 3, 4, 5, 6] [_, _, _, _, _, _, _] rfl rfl rfl (by kernel_rfl) (impl_cons (impl_at 0 rfl) (impl_cons (impl_at 1 rfl) (impl_cons (impl_at 2 rfl) impl_nil))) rfl ?_; rintro _ _ _ ⟨o13, ho13, rfl, rfl, rfl⟩; refine ⟨trivial, ?_⟩
  refine asg (.slice _ _ _) rfl ?_
  refine jt ?_
  refine c_seq ?_
  refine c_dr [_, _, _, _, _, _, _, _, _, _, _, _, _] [] [(0, 0), (1, 0), (2, 0), (3, 1), (4, 1), (5, 0), (6, 0), (7, 0), (8, 0), (9, 1), (10, 1), (11, 0), (12, 0), (13, 0), (14, 0), (16, 0), (17, 0), (15, 1), (18, 1), (19, 0), (20, 0), (21, 0), (22, 0), (23, 0), (25, 0), (26, 0), (24, 1), (27, 1), (28, 0), (29, 0), (30, 0)] follows (by kernel_rfl) calm_body (keepS [0, 1, 2, 3, 4, 5, 6, 7, 8, 9, 10, 11, 12] rfl) ?_
  refine mv (.slice _ _ _) rfl ?_
  refine fad rfl Try.underlying42 rfl ty38.sz ?_
  refine ldp 5 1 _ rfl rfl rfl rfl ty38 ?_
  refine cal (RList_ct br p most l hp (by omega)) [] [0, 1, 2, 3, 4, 5, 6, 7] [_, _, _, _, _, _, _, _] rfl rfl rfl (by kernel_rfl) (impl_cons (impl_at 3 rfl) (impl_cons (impl_at 4 rfl) impl_nil)) rfl ?_; rintro _ _ _ ⟨o17, ho17, rfl, rfl, rfl⟩; refine ⟨keepI [0, 1, 2, 3, 4, 5, 6, 7, 9, 10, 11, 12, 13] rfl, ?_⟩
  refine cal (sameSpares_self ((o10).vs) ((o17).vs) l (Ow.vs_ok ho10) (Ow.vs_ok ho17) (by omega)) [] [0, 1, 2, 3, 4, 5, 6, 7, 8] [_, _, _, _, _, _, _, _, _] rfl rfl rfl (by kernel_rfl) (impl_cons (ow_impl 11 rfl) (impl_cons (ow_impl 13 rfl) impl_nil)) rfl ?_; rintro _ _ _ ⟨rfl, rfl, rfl⟩; refine ⟨keepI [0, 1, 2, 3, 4, 5, 6, 7, 9, 10, 11, 12, 13] rfl, ?_⟩
  refine mv (.bool _) rfl ?_
  refine g_on rfl rfl rfl ?_
  refine mv (.slice _ _ _) rfl ?_
  refine g_on rfl rfl rfl ?_
  refine fad rfl Try.underlying42 rfl ty38.sz ?_
  refine g_on rfl rfl rfl ?_
  refine ldp 5 1 _ rfl rfl rfl rfl ty38 ?_
  refine g_on rfl rfl rfl ?_
  refine cal (RHeaders_ct br p most l hp (by omega)) [] [0, 1, 2, 3, 4, 5, 6, 7, 8] [_, _, _, _, _, _, _, _, _] rfl rfl rfl (by kernel_rfl) (impl_cons (impl_at 3 rfl) (impl_cons (impl_at 4 rfl) impl_nil)) rfl ?_; rintro _ _ _ ⟨o23, ho23, rfl, rfl, rfl⟩; refine ⟨keepI [0, 1, 2, 3, 4, 5, 6, 7, 10, 11, 12, 13, 14] rfl, ?_⟩
  refine g_on rfl rfl rfl ?_
  refine cal (sameKeys_self ((o13).vs) ((o23).vs) (hdrs l) (Ow.vs_ok ho13) (Ow.vs_ok ho23) (by omega)) [] [0, 1, 2, 3, 4, 5, 6, 7, 8, 9] [_, _, _, _, _, _, _, _, _, _] rfl rfl rfl (by kernel_rfl) (impl_cons (ow_impl 12 rfl) (impl_cons (ow_impl 14 rfl) impl_nil)) rfl ?_; rintro _ _ _ ⟨rfl, rfl, rfl⟩; refine ⟨keepI [0, 1, 2, 3, 4, 5, 6, 7, 10, 11, 12, 13, 14] rfl, ?_⟩
  refine pkt (.bool _) rfl rfl ?_
  refine mv (.bool _) rfl ?_
  refine g_on rfl rfl rfl ?_
  refine fad rfl Try.underlying42 rfl ty24.sz ?_
  refine g_on rfl rfl rfl ?_
  refine ldp 5 0 _ rfl rfl rfl rfl ty24 ?_
  refine g_on rfl rfl rfl ?_
  refine fad rfl Try.underlying42 rfl ty38.sz ?_
  refine g_on rfl rfl rfl ?_
  refine ldp 5 1 _ rfl rfl rfl rfl ty38 ?_
  refine g_on rfl rfl rfl ?_
  refine cal (Len_ct bs m o most l ho) [] [0, 1, 2, 3, 4, 5, 6, 7, 8, 9] [_, _, _, _, _, _, _, _, _, _] rfl rfl rfl (by kernel_rfl) (impl_cons (impl_at 0 rfl) (impl_cons (impl_at 1 rfl) (impl_cons (impl_at 2 rfl) impl_nil))) rfl ?_; rintro _ _ _ ⟨rfl, rfl, rfl⟩; refine ⟨keepI [0, 1, 2, 3, 4, 5, 6, 7, 10, 11, 12, 13, 14] rfl, ?_⟩
  refine g_on rfl rfl rfl ?_
  refine cal (RLen_ct br p most l hp) [] [0, 1, 2, 3, 4, 5, 6, 7, 8, 9] [_, _, _, _, _, _, _, _, _, _] rfl rfl rfl (by kernel_rfl) (impl_cons (impl_at 3 rfl) (impl_cons (impl_at 4 rfl) impl_nil)) rfl ?_; rintro _ _ _ ⟨rfl, rfl, rfl⟩; refine ⟨keepI [0, 1, 2, 3, 4, 5, 6, 7, 10, 11, 12, 13, 14] rfl, ?_⟩
  refine g_on rfl rfl rfl ?_
  refine cmp true rfl rfl (by simp [cmpV]) ?_
  refine pkt (.bool _) rfl rfl ?_
  refine mv (.bool _) rfl ?_
  refine g_on rfl rfl rfl ?_
  refine fad rfl Try.underlying42 rfl ty24.sz ?_
  refine g_on rfl rfl rfl ?_
  refine ldp 5 0 _ rfl rfl rfl rfl ty24 ?_
  refine g_on rfl rfl rfl ?_
  refine fad rfl Try.underlying42 rfl ty38.sz ?_
  refine g_on rfl rfl rfl ?_
  refine ldp 5 1 _ rfl rfl rfl rfl ty38 ?_
  refine g_on rfl rfl rfl ?_
  refine cal (Room_ct bs m o most l ho (by omega) (by omega)) [] [0, 1, 2, 3, 4, 5, 6, 7, 8, 9] [_, _, _, _, _, _, _, _, _, _] rfl rfl rfl (by kernel_rfl) (impl_cons (impl_at 0 rfl) (impl_cons (impl_at 1 rfl) (impl_cons (impl_at 2 rfl) impl_nil))) rfl ?_; rintro _ _ _ ⟨rfl, rfl, rfl⟩; refine ⟨keepI [0, 1, 2, 3, 4, 5, 6, 7, 10, 11, 12, 13, 14] rfl, ?_⟩
  refine g_on rfl rfl rfl ?_
  refine cal (RRoom_ct br p most l hp (by omega) (by omega)) [] [0, 1, 2, 3, 4, 5, 6, 7, 8, 9] [_, _, _, _, _, _, _, _, _, _] rfl rfl rfl (by kernel_rfl) (impl_cons (impl_at 3 rfl) (impl_cons (impl_at 4 rfl) impl_nil)) rfl ?_; rintro _ _ _ ⟨rfl, rfl, rfl⟩; refine ⟨keepI [0, 1, 2, 3, 4, 5, 6, 7, 10, 11, 12, 13, 14] rfl, ?_⟩
  refine g_on rfl rfl rfl ?_
  refine cmp true rfl rfl (by simp [cmpV]) ?_
  refine pkt (.bool _) rfl rfl ?_
  refine asg (.bool _) rfl ?_
  refine jt ?_
  refine c_seq ?_
  refine c_reg ?_
  refine mv (.pointer _) rfl ?_
  refine mv (.slice _ _ _) rfl ?_
  refine cal (shList_ct bsh oL oW oK oY hL hW hK hY hoL hoW (by first | omega | (simp; done) | (simp; omega) | (simp at *; omega)) (by first | omega | (simp; done) | (simp; omega) | (simp at *; omega)) ((o10).vs) l (Ow.vs_ok ho10) (by omega)) [0, 1, 2] [3, 4, 5, 6, 7, 8, 9] [_, _, _, _, _, _, _] rfl rfl rfl (by kernel_rfl) (impl_cons (ow_impl 8 rfl) impl_nil) rfl ?_; rintro _ _ _ ⟨oL1, oW1, oc1, hoL1, hoW1, hoc1, rfl, rfl, rfl⟩; refine ⟨trivial, ?_⟩
  refine jt ?_
  refine c_seq ?_
  refine c_reg ?_
  refine mv (.pointer _) rfl ?_
  refine mv (.slice _ _ _) rfl ?_
  refine cal (shKeys_ct bsh oL1 oW1 oK oY (hL ++ [(⟨o10.adr, l.length, o10.cap⟩ : SlH)]) (hW ++ [(⟨oc1.adr, l.length, oc1.cap⟩ : SlH)]) hK hY hoK hoY (by first | omega | (simp; done) | (simp; omega) | (simp at *; omega)) (by first | omega | (simp; done) | (simp; omega) | (simp at *; omega)) ((o13).vs) (hdrs l) (Ow.vs_ok ho13) (by omega)) [7, 0, 1] [2, 3, 4, 5, 6, 8, 9, 10] [_, _, _, _, _, _, _, _] rfl rfl rfl (by kernel_rfl) (impl_cons (ow_impl 7 rfl) impl_nil) rfl ?_; rintro _ _ _ ⟨oK2, oY2, oc2, hoK2, hoY2, hoc2, rfl, rfl, rfl⟩; refine ⟨trivial, ?_⟩
  refine jt ?_
  refine c_seq ?_
  refine c_reg ?_
  refine mv (.bool _) rfl ?_
  refine asg (.bool _) rfl ?_
  refine jt ?_
  refine c_ret ?_
  exact j_end (own0 := [[(bsh, .cells (cat [p1 (.slice oL.adr hL.length oL.cap), p1 (.slice oW.adr hW.length oW.cap), p1 (.slice oK.adr hK.length oK.cap), p1 (.slice oY.adr hY.length oY.cap)]) 48)], oL.seg hL 22, oW.seg hW 22, oK.seg hK 77, oY.seg hY 77]) (ro0 := [[(bs, .cells (cat [p1 (.int .i64 most), p1 (.map (some m)), p1 (.slice o.adr (List.map plc l).length o.cap)]) 76)], [(m, .pred (isMap (List.map skv l)))], o.seg (List.map plc l) 72, [(br, .cells (cat [p1 (.int .i64 most), p1 (.slice p.adr l.length p.cap)]) 87)], p.seg l 33]) (.inl rfl) rfl (hr1 Try.results16 (rvt (v := (.bool _)) rfl)) [8, 5, 6, 9, 10, 1, 7, 2, 11] [0, 3, 4] [_, _, _, _, _, _, _, _, _] [_, _, _] [] _ rfl rfl (by kernel_rfl) rfl impl_nil (⟨oL1, oW1, oK2, oY2, o10, oc1, o13, oc2, hoL1, hoW1, hoK2, hoY2, ho10, hoc1, ho13, hoc2, rfl, rfl, rfl⟩)

theorem RFrom_ok (most : Int) (s : Vs) (xs : List Spare) (hs : s.ok xs) (hx : xs.length ≤ 9223372036854775806) (h : fromE most xs = 0) : Ct Try.prog 15 [.int .i64 most, s.v xs.length] [] [s.seg xs] (fun v w r => ∃ (br : Nat) (o' : Ow), o'.ok xs ∧ v = .tuple #[.pointer (some ⟨br, 0, none⟩), .int .i64 0] ∧ w = [[(br, .cells (cat [p1 (.int .i64 most), p1 (.slice o'.adr xs.length o'.cap)]) 87)], o'.seg xs 33] ∧ r = []) :=
  (RFrom_ct most s xs hs hx).mono fun v w r h2 => h2.elim (fun h3 => h3.2) (fun h3 => absurd h h3.1)
theorem RFrom_bad (most : Int) (s : Vs) (xs : List Spare) (hs : s.ok xs) (hx : xs.length ≤ 9223372036854775806) (h : fromE most xs ≠ 0) : Ct Try.prog 15 [.int .i64 most, s.v xs.length] [] [s.seg xs] (fun v w r => v = .tuple #[.pointer none, .int .i64 (fromE most xs)] ∧ w = [] ∧ r = []) :=
  (RFrom_ct most s xs hs hx).mono fun v w r h2 => h2.elim (fun h3 => absurd h3.1 h) (fun h3 => h3.2)

set_option maxRecDepth 20000 in
set_option maxHeartbeats 4000000 in
theorem Froms_ct (most : Int) (s : Vs) (xs : List Spare) (hs : s.ok xs) (hxs : xs.length ≤ 2199023255552) : Ct Try.prog 4 [.int .i64 most, s.v xs.length] [] [s.seg xs] (fun v w r => v = .bool true ∧ w = [] ∧ r = []) := by
  refine ct_enter Try.func4 rfl Try.ntmps4 (by kernel_rfl) rfl fun w0 => ?_
  refine c_seq ?_
  refine c_reg ?_
  refine asg (.bool _) rfl ?_
  refine jt ?_
  refine c_seq ?_
  refine c_reg ?_
  refine mv (.int _ _) rfl ?_
  refine mv (.slice _ _ _) rfl ?_
  refine cal (From_ct most s xs hs (by omega)) [] [] [] rfl rfl rfl (by kernel_rfl) (impl_cons (impl_at 0 rfl) impl_nil) rfl ?_; rintro _ _ _ (⟨hF12, bs12, m12, o12, ho12, rfl, rfl, rfl⟩ | ⟨hF12, rfl, rfl, rfl⟩)
  · have hf12 := from_facts hF12; refine ⟨trivial, ?_⟩
    refine mv (.tuple _) rfl ?_
    refine xtr (.pointer _) rfl rfl ?_
    refine xtr (.int _ _) rfl rfl ?_
    refine asg (.pointer _) rfl ?_
    refine asg (.int _ _) rfl ?_
    refine jt ?_
    refine c_seq ?_
    refine c_reg ?_
    refine mv (.int _ _) rfl ?_
    refine mv (.slice _ _ _) rfl ?_
    refine cal (RFrom_ok most s xs hs (by omega) hF12) [] [0, 1, 2] [_, _, _] rfl rfl rfl (by kernel_rfl) (impl_cons (impl_at 0 rfl) impl_nil) rfl ?_; rintro _ _ _ ⟨br18, o18, ho18, rfl, rfl, rfl⟩; refine ⟨trivial, ?_⟩
    refine mv (.tuple _) rfl ?_
    refine xtr (.pointer _) rfl rfl ?_
    refine xtr (.int _ _) rfl rfl ?_
    refine asg (.pointer _) rfl ?_
    refine asg (.int _ _) rfl ?_
    refine jt ?_
    refine c_seq ?_
    refine c_seq ?_
    refine c_reg ?_
    refine mv (.int _ _) rfl ?_
    refine mv (.int _ _) rfl ?_
    refine cmp false rfl rfl rfl ?_
    refine mv (.bool _) rfl ?_
    refine g_on rfl rfl rfl ?_
    refine mv (.pointer _) rfl ?_
    refine g_on rfl rfl rfl ?_
    refine eqpn false rfl rfl Try.underlying24 rfl ?_
    refine g_on rfl rfl rfl ?_
    refine mv (.pointer _) rfl ?_
    refine g_on rfl rfl rfl ?_
    refine eqpn false rfl rfl Try.underlying38 rfl ?_
    refine g_on rfl rfl rfl ?_
    refine eqbo false rfl rfl Try.underlying4 (by simp) ?_
    refine pkf (.bool _) rfl rfl ?_
    refine jt ?_
    refine c_false rfl ?_
    refine c_skip ?_
    refine e_then ?_
    refine c_seq ?_
    refine c_reg ?_
    refine mv (.pointer _) rfl ?_
    refine eqpn false rfl rfl Try.underlying24 rfl ?_
    refine mv (.bool _) rfl ?_
    refine g_on rfl rfl rfl ?_
    refine mv (.pointer _) rfl ?_
    refine g_on rfl rfl rfl ?_
    refine mv (.pointer _) rfl ?_
    refine g_on rfl rfl rfl ?_
    refine bld [p1 (.pointer none), p1 (.pointer none)] [(0, p1 (.pointer (some ⟨bs12, 0, none⟩))), (1, p1 (.pointer (some ⟨br18, 0, none⟩)))] _ Try.underlying42 (lay42 _ Try.underlying42) z42 rfl rfl rfl ?_
    refine g_on rfl rfl rfl ?_
    refine bld [p1 (.slice none 0 0), p1 (.slice none 0 0), p1 (.slice none 0 0), p1 (.slice none 0 0)] [] _ Try.underlying48 (lay48 _ Try.underlying48) z48 rfl rfl rfl ?_
    refine g_on rfl rfl rfl ?_
    refine bxx [p1 (.slice none 0 0), p1 (.slice none 0 0), p1 (.slice none 0 0), p1 (.slice none 0 0)] _ rfl rfl fun b38 => ⟨trivial, ?_⟩; refine j_addE ?_; refine j_addE ?_; refine j_addE ?_; refine j_addE ?_
    refine g_on rfl rfl rfl ?_
    refine cal (same_ct bs12 m12 o12 most xs ho12 br18 o18 ho18 (by omega) (by omega) hf12.2.1 b38 Ow.nil Ow.nil Ow.nil Ow.nil ([] : List SlH) ([] : List SlH) ([] : List SlH) ([] : List SlH) Ow.nil_ok (by first | omega | (simp; done) | (simp; omega) | (simp at *; omega)) Ow.nil_ok (by first | omega | (simp; done) | (simp; omega) | (simp at *; omega)) Ow.nil_ok (by first | omega | (simp; done) | (simp; omega) | (simp at *; omega)) Ow.nil_ok (by first | omega | (simp; done) | (simp; omega) | (simp at *; omega))) [5, 6, 7, 8, 9] [0, 1, 2, 3, 4] [_, _, _, _, _] rfl rfl rfl (by kernel_rfl) (impl_cons (impl_at 1 rfl) (impl_cons (impl_at 2 rfl) (impl_cons (impl_at 3 rfl) (impl_cons (impl_at 4 rfl) (impl_cons (impl_at 5 rfl) impl_nil))))) rfl ?_; rintro _ _ _ ⟨oL1, oW1, oK1, oY1, oc1a, oc1b, oc1c, oc1d, hoL1, hoW1, hoK1, hoY1, hoc1a, hoc1b, hoc1c, hoc1d, rfl, rfl, rfl⟩; refine ⟨trivial, ?_⟩
    refine pkf (.bool _) rfl rfl ?_
    refine asg (.bool _) rfl ?_
    refine jt ?_
    refine c_ret ?_
    exact j_end (own0 := []) (ro0 := [s.seg xs]) (.inl rfl) rfl (hr1 Try.results4 (rvt (v := (.bool _)) rfl)) [] [0, 1, 2, 3, 4, 5, 6, 7, 8, 9, 10, 11, 12, 13] [] [_, _, _, _, _, _, _, _, _, _, _, _, _, _] [] _ rfl rfl (by kernel_rfl) rfl impl_nil (⟨rfl, rfl, rfl⟩)
  · refine ⟨trivial, ?_⟩
    refine mv (.tuple _) rfl ?_
    refine xtr (.pointer _) rfl rfl ?_
    refine xtr (.int _ _) rfl rfl ?_
    refine asg (.pointer _) rfl ?_
    refine asg (.int _ _) rfl ?_
    refine jt ?_
    refine c_seq ?_
    refine c_reg ?_
    refine mv (.int _ _) rfl ?_
    refine mv (.slice _ _ _) rfl ?_
    refine cal (RFrom_bad most s xs hs (by omega) hF12) [] [] [] rfl rfl rfl (by kernel_rfl) (impl_cons (impl_at 0 rfl) impl_nil) rfl ?_; rintro _ _ _ ⟨rfl, rfl, rfl⟩; refine ⟨trivial, ?_⟩
    refine mv (.tuple _) rfl ?_
    refine xtr (.pointer _) rfl rfl ?_
    refine xtr (.int _ _) rfl rfl ?_
    refine asg (.pointer _) rfl ?_
    refine asg (.int _ _) rfl ?_
    refine jt ?_
    refine c_seq ?_
    refine c_seq ?_
    refine c_reg ?_
    refine mv (.int _ _) rfl ?_
    refine mv (.int _ _) rfl ?_
    refine cmp false rfl rfl (by simp [cmpV]) ?_
    refine mv (.bool _) rfl ?_
    refine g_on rfl rfl rfl ?_
    refine mv (.pointer _) rfl ?_
    refine g_on rfl rfl rfl ?_
    refine eqpn true rfl rfl Try.underlying24 rfl ?_
    refine g_on rfl rfl rfl ?_
    refine mv (.pointer _) rfl ?_
    refine g_on rfl rfl rfl ?_
    refine eqpn true rfl rfl Try.underlying38 rfl ?_
    refine g_on rfl rfl rfl ?_
    refine eqbo false rfl rfl Try.underlying4 (by simp) ?_
    refine pkf (.bool _) rfl rfl ?_
    refine jt ?_
    refine c_false rfl ?_
    refine c_skip ?_
    refine e_then ?_
    refine c_seq ?_
    refine c_reg ?_
    refine mv (.pointer _) rfl ?_
    refine eqpn true rfl rfl Try.underlying24 rfl ?_
    refine mv (.bool _) rfl ?_
    refine g_off rfl rfl rfl rfl ?_
    refine g_off rfl rfl rfl rfl ?_
    refine g_off rfl rfl rfl rfl ?_
    refine g_off rfl rfl rfl rfl ?_
    refine g_off rfl rfl rfl rfl ?_
    refine g_off rfl rfl rfl rfl ?_
    refine pkt (.bool _) rfl rfl ?_
    refine asg (.bool _) rfl ?_
    refine jt ?_
    refine c_ret ?_
    exact j_end (own0 := []) (ro0 := [s.seg xs]) (.inl rfl) rfl (hr1 Try.results4 (rvt (v := (.bool _)) rfl)) [] [] [] [] [] _ rfl rfl (by kernel_rfl) rfl impl_nil (⟨rfl, rfl, rfl⟩)
end Go.Proofs.Ytacfjmjcgolhfaa
