/- Contracts of the program's functions, walked. No condition. -/
import Derived.Test.YtacfjmjcgolhfaaA17
namespace Go.Proofs.Ytacfjmjcgolhfaa
open Go Go.Proofs Go.PW
open Go.PW.Enc (enc val)
theorem ty57 : Ty Try.prog 57 37 true := ⟨by kernel_rfl, by kernel_rfl⟩
theorem z57 : Zt Try.prog 57 (.agg ⟨cat [p1 (.int .i64 0), p1 (.bool false), p1 (.slice none 0 0), pt (zarr : Key), p1 (.int .u32 0), p1 (.int .i64 0)]⟩) := by unfold Zt; kernel_rfl
structure OpR where
  kind : Int
  other : Bool
  s : Vs
  l : List Spare
  header : Key
  n : UInt32
  count : Int
def OpR.parts (o : OpR) : List Pt := [pt o.kind, pt o.other, p1 (.slice o.s.adr o.l.length o.s.cap), pt o.header, pt o.n, pt o.count]
instance : Enc OpR := ⟨37, fun o => cat o.parts, fun o => .agg ⟨cat o.parts⟩, true, fun o => cat_length o.parts, fun _ => .inl ⟨rfl, rfl⟩, fun o => cat_one o.parts⟩
instance : Flds OpR := ⟨OpR.parts, fun _ => rfl⟩
/-- The lists of a script's operations, in memory. -/
def opsSeg (sc : List OpR) : Seg := sc.flatMap fun o => o.s.seg o.l
theorem impl_op {sc : List OpR} {src : List Seg} (j : Nat) (h : src[j]? = some (opsSeg sc)) {i : Nat} (hi : i < sc.length) : Impl src [(sc[i]).s.seg (sc[i]).l] := fun s hs p hp => by
  rw [List.mem_singleton] at hs; subst hs
  exact ⟨_, List.mem_of_getElem? h, p, List.mem_flatMap.2 ⟨_, List.getElem_mem hi, hp⟩, rfl, fun _ ho => ho⟩
theorem put_len (most : Int) (l xs : List Spare) (_h : (l.length : Int) ≤ most) : (putE most l xs = 0 ∧ (putL most l xs).length = l.length + xs.length) ∨ (putE most l xs ≠ 0 ∧ (putL most l xs).length = l.length) := by
  unfold putL
  by_cases h : putE most l xs = 0
  · left; rw [if_pos h]; exact ⟨h, by simp⟩
  · right; rw [if_neg h]; exact ⟨h, rfl⟩
theorem takeL_nd {h : Key} {n : UInt32} {l : List Spare} (hnd : (l.map plc).Nodup) : ((takeL h n l).map plc).Nodup := ((List.filter_sublist (l := l)).map plc).nodup hnd
theorem takeL_most {h : Key} {n : UInt32} {l : List Spare} {most : Int} (hm : (l.length : Int) ≤ most) : ((takeL h n l).length : Int) ≤ most := by
  have : (takeL h n l).length ≤ l.length := List.length_filter_le _ _
  omega
theorem drop_nd {k : Nat} {l : List Spare} (hnd : (l.map plc).Nodup) : ((l.drop k).map plc).Nodup := ((List.drop_sublist k l).map plc).nodup hnd
theorem drop_most {k : Nat} {l : List Spare} {most : Int} (hm : (l.length : Int) ≤ most) : ((l.drop k).length : Int) ≤ most := by
  rw [List.length_drop]; omega
theorem taken_no (h : Key) (n : UInt32) (l : List Spare) : mget (⟨h, n⟩ : SpP) (List.map skv (takeL h n l)) = none := by
  rw [mget_none, skv_fst]
  intro hm
  obtain ⟨s, hs, he⟩ := List.mem_map.1 hm
  have := (List.mem_filter.1 hs).2
  simp [he] at this
theorem filter_len {h : Key} {n : UInt32} : ∀ {l : List Spare}, (l.map plc).Nodup → (⟨h, n⟩ : SpP) ∈ l.map plc → (takeL h n l).length + 1 = l.length
  | [], _, hm => by simp at hm
  | s :: r, hnd, hm => by
    simp only [List.map_cons, List.nodup_cons] at hnd
    by_cases e : plc s = ⟨h, n⟩
    · have h1 : takeL h n r = r := takeL_nin (fun hm => hnd.1 (e ▸ hm))
      have h2 : takeL h n (s :: r) = takeL h n r := by unfold takeL; rw [List.filter_cons, if_neg (by simp [e])]
      rw [h2, h1]; rfl
    · have hm2 : (⟨h, n⟩ : SpP) ∈ r.map plc := by
        rw [List.map_cons, List.mem_cons] at hm
        exact hm.elim (fun h1 => absurd h1.symm e) id
      have h2 : takeL h n (s :: r) = s :: takeL h n r := by unfold takeL; rw [List.filter_cons, if_pos (by simp [e])]
      rw [h2]
      have := filter_len hnd.2 hm2
      simp only [List.length_cons]; omega
theorem take_len {h : Key} {n : UInt32} {l : List Spare} {f : Bool} (hnd : (l.map plc).Nodup) (hf : (mget (⟨h, n⟩ : SpP) (List.map skv l)).isSome = f) : (f = true ∧ (takeL h n l).length + 1 = l.length) ∨ (f = false ∧ (takeL h n l).length = l.length) := by
  cases f with
  | true => exact .inl ⟨rfl, filter_len hnd (skv_mem.1 hf)⟩
  | false => exact .inr ⟨rfl, by rw [takeL_no hf]⟩

set_option maxRecDepth 20000 in
set_option maxHeartbeats 4000000 in
theorem Bound_ct (most : Int) (t : Vs) (sc : List OpR) (ht : t.ok sc) (hops : ∀ o ∈ sc, o.s.ok o.l ∧ o.l.length ≤ 2199023255552) (hsc : sc.length ≤ 2199023255552) : Ct Try.prog 6 [.int .i64 most, t.v sc.length] [] [t.seg sc, opsSeg sc] (fun v w r => v = .bool true ∧ w = [] ∧ r = []) := by
  refine ct_enter Try.func6 rfl Try.ntmps6 (by kernel_rfl) rfl fun w0 => ?_
  refine c_seq ?_
  refine c_reg ?_
  refine asg (.bool _) rfl ?_
  refine jt ?_
  refine c_seq ?_
  refine c_seq ?_
  refine c_reg ?_
  refine cal lives_ct [] [] [] rfl rfl rfl (by kernel_rfl) impl_nil rfl ?_; rintro _ _ _ ⟨rfl, rfl, rfl⟩; refine ⟨trivial, ?_⟩
  refine not_ rfl ?_
  refine jt ?_
  refine c_false rfl ?_
  refine c_skip ?_
  refine e_then ?_
  refine c_seq ?_
  refine c_reg ?_
  refine mv (.int _ _) rfl ?_
  refine cal (New_ct most) [] [] [] rfl rfl rfl (by kernel_rfl) impl_nil rfl ?_; rintro _ _ _ (⟨hN20, bs20, m20, rfl, rfl, rfl⟩ | ⟨hN20, rfl, rfl, rfl⟩)
  · refine ⟨trivial, ?_⟩
    refine mv (.tuple _) rfl ?_
    refine xtr (.pointer _) rfl rfl ?_
    refine xtr (.int _ _) rfl rfl ?_
    refine asg (.pointer _) rfl ?_
    refine asg (.int _ _) rfl ?_
    refine jt ?_
    refine c_seq ?_
    refine c_seq ?_
    refine c_reg ?_
    refine mv (.int _ _) rfl ?_
    refine cmp _ rfl rfl rfl ?_
    refine mv (.bool _) rfl ?_
    refine jsplit 25 rfl (fun h1 => ?_) (fun h1 => ?_)
    · replace h1 := of_decide_eq_true h1
      refine g_off rfl rfl rfl rfl ?_
      refine g_off rfl rfl rfl rfl ?_
      refine pkt (.bool _) rfl rfl ?_
      refine jt ?_
      refine c_true rfl ?_
      refine c_seq ?_
      refine c_reg ?_
      refine mv (.pointer _) rfl ?_
      refine eqpn false rfl rfl Try.underlying24 rfl ?_
      refine mv (.bool _) rfl ?_
      refine g_off rfl rfl rfl rfl ?_
      refine g_off rfl rfl rfl rfl ?_
      refine pkf (.bool _) rfl rfl ?_
      refine asg (.bool _) rfl ?_
      refine jt ?_
      refine c_ret ?_
      exact j_end (own0 := []) (ro0 := [t.seg sc, opsSeg sc]) (.inl rfl) rfl (hr1 Try.results6 (rvt (v := (.bool _)) rfl)) [] [0, 1, 2] [] [_, _, _] [] _ rfl rfl (by kernel_rfl) rfl impl_nil (by first | exact ⟨rfl, rfl, rfl⟩ | (exfalso; omega) | (exfalso; rcases htk with ⟨hz, hz2⟩ | ⟨hz, hz2⟩ <;> subst hz <;> simp at * <;> omega) | (exfalso; simp only [Bool.not_eq_true', Bool.not_eq_false', decide_eq_true_iff, decide_eq_false_iff_not] at *; omega))
    · replace h1 := of_decide_eq_false h1
      refine g_on rfl rfl rfl ?_
      refine mv (.int _ _) rfl ?_
      refine g_on rfl rfl rfl ?_
      refine cmp _ rfl rfl rfl ?_
      refine pkf (.bool _) rfl rfl ?_
      refine jt ?_
      refine c_cond rfl (fun h2 => ?_) (fun h2 => ?_)
      · replace h2 := of_decide_eq_true h2
        refine c_seq ?_
        refine c_reg ?_
        refine mv (.pointer _) rfl ?_
        refine eqpn false rfl rfl Try.underlying24 rfl ?_
        refine mv (.bool _) rfl ?_
        refine g_off rfl rfl rfl rfl ?_
        refine g_off rfl rfl rfl rfl ?_
        refine pkf (.bool _) rfl rfl ?_
        refine asg (.bool _) rfl ?_
        refine jt ?_
        refine c_ret ?_
        exact j_end (own0 := []) (ro0 := [t.seg sc, opsSeg sc]) (.inl rfl) rfl (hr1 Try.results6 (rvt (v := (.bool _)) rfl)) [] [0, 1, 2] [] [_, _, _] [] _ rfl rfl (by kernel_rfl) rfl impl_nil (by first | exact ⟨rfl, rfl, rfl⟩ | (exfalso; omega) | (exfalso; rcases htk with ⟨hz, hz2⟩ | ⟨hz, hz2⟩ <;> subst hz <;> simp at * <;> omega) | (exfalso; simp only [Bool.not_eq_true', Bool.not_eq_false', decide_eq_true_iff, decide_eq_false_iff_not] at *; omega))
      · replace h2 := of_decide_eq_false h2
        refine c_skip ?_
        refine e_then ?_
        refine c_seq ?_
        refine c_seq ?_
        refine c_reg ?_
        refine mv (.pointer _) rfl ?_
        refine eqpn false rfl rfl Try.underlying24 rfl ?_
        refine mv (.bool _) rfl ?_
        refine g_on rfl rfl rfl ?_
        refine mv (.int _ _) rfl ?_
        refine g_on rfl rfl rfl ?_
        refine cmp false rfl rfl rfl ?_
        refine pkf (.bool _) rfl rfl ?_
        refine jt ?_
        refine c_false rfl ?_
        refine c_skip ?_
        refine e_then ?_
        refine c_seq ?_
        refine c_seq ?_
        refine c_reg ?_
        refine asg (.int _ _) rfl ?_
        refine jt ?_
        refine c_block ?_
        refine c_loop (σ := Nat × Ow × List Spare) (fun ⟨i, o3, l⟩ => i ≤ sc.length ∧ o3.ok (List.map plc l) ∧ (l.map plc).Nodup ∧ (l.length : Int) ≤ most) (fun ⟨i, o3, l⟩ => sc.length - i) (fun ⟨i, o3, l⟩ => [(7, .int .i64 (i : Int))]) (fun ⟨i, o3, l⟩ => [[(bs20, .cells (cat [p1 (.int .i64 most), p1 (.map (some m20)), p1 (.slice o3.adr (List.map plc l).length o3.cap)]) 76)], [(m20, .pred (isMap (List.map skv l)))], o3.seg (List.map plc l) 72]) (fun ⟨i, o3, l⟩ => [t.seg sc, opsSeg sc]) [4, 7, 8, 9, 10, 11, 12, 13, 14, 15, 41, 42, 43, 44, 45, 46, 47, 48, 49, 50, 51, 52, 53, 54, 55, 56, 57, 58, 59, 60, 61, 62, 63, 64, 65, 66, 67, 68, 69, 70, 71, 72, 73, 74, 75, 76, 77, 78, 79, 80, 81, 82, 83, 84, 85, 86, 87, 88, 89, 90, 91, 92, 93, 94, 95, 96, 97, 98, 99, 100, 101, 102, 103, 104, 105, 106, 107, 108, 109, 110, 111, 112, 113, 114, 115, 116, 117, 118, 119, 120, 121, 122, 123, 124, 125, 126, 127, 128, 129, 130, 131, 132, 133, 134, 135, 136, 137, 138, 139, 140, 141, 142, 143, 144, 145, 146, 147, 148, 149, 150, 151, 152, 153, 154, 155, 156, 157, 158, 159, 160, 161, 162, 163, 164, 165, 166, 167] (⟨0, Ow.nil, []⟩) (⟨by omega, Ow.nil_ok, by simp, by simp; omega⟩) ⟨rfl, trivial⟩ rfl rfl ?_
        rintro ⟨i, o3, l⟩ g1 hI1
        try dsimp only at hI1 ⊢
        refine c_seq ?_
        refine c_seq ?_
        refine c_reg ?_
        refine mv (.int _ _) rfl ?_
        refine mv (.slice _ _ _) rfl ?_
        refine lenS rfl Try.underlying54 ?_
        refine cmp _ rfl rfl rfl ?_
        refine jt ?_
        refine c_cond rfl (fun h3 => ?_) (fun h3 => ?_)
        · replace h3 := of_decide_eq_true h3
          refine c_skip ?_
          refine e_then ?_
          refine c_seq ?_
          refine c_block ?_
          refine c_seq ?_
          refine c_reg ?_
          refine mv (.slice _ _ _) rfl ?_
          refine mv (.int _ _) rfl ?_
          refine ixs t sc i ht rfl rfl rfl Try.underlying54 ty57.sz rfl (by first | omega | (simp; done) | (simp; omega) | (simp at *; omega)) ?_
          refine ldvs 3 _ ht rfl rfl rfl rfl (by first | omega | (simp; done) | (simp; omega) | (simp at *; omega)) ty57 ?_
          refine alo [p1 (.int .i64 0), p1 (.bool false), p1 (.slice none 0 0), pt (zarr : Key), p1 (.int .u32 0), p1 (.int .i64 0)] _ z57 rfl fun b8 => ⟨trivial, ?_⟩
          refine stw 3 _ [pt (sc[i].kind), pt (sc[i].other), p1 (.slice sc[i].s.adr sc[i].l.length sc[i].s.cap), pt (sc[i].header), pt (sc[i].n), pt (sc[i].count)] rfl rfl rfl rfl ty57 ⟨trivial, ?_⟩
          refine jt ?_
          refine c_seq ?_
          refine c_reg ?_
          refine mv (.pointer _) rfl ?_
          refine cal (Len_ct bs20 m20 o3 most l hI1.2.1) [] [0, 1, 2, 3] [_, _, _, _] rfl rfl rfl (by kernel_rfl) (impl_cons (impl_at 2 rfl) (impl_cons (impl_at 3 rfl) (impl_cons (impl_at 4 rfl) impl_nil))) rfl ?_; rintro _ _ _ ⟨rfl, rfl, rfl⟩; refine ⟨trivial, ?_⟩
          refine asg (.int _ _) rfl ?_
          refine jt ?_
          refine c_cut (σ := Ow × List Spare) (fun ⟨o4, l2⟩ => o4.ok (List.map plc l2) ∧ (l2.map plc).Nodup ∧ (l2.length : Int) ≤ most) (fun ⟨o4, l2⟩ => []) (fun ⟨o4, l2⟩ => [[(bs20, .cells (cat [p1 (.int .i64 most), p1 (.map (some m20)), p1 (.slice o4.adr (List.map plc l2).length o4.cap)]) 76)], [(m20, .pred (isMap (List.map skv l2)))], o4.seg (List.map plc l2) 72]) (fun ⟨o4, l2⟩ => [t.seg sc, opsSeg sc]) [4, 10, 11, 12, 13, 14, 15, 53, 54, 55, 56, 57, 58, 59, 60, 61, 62, 63, 64, 65, 66, 67, 68, 69, 70, 71, 72, 73, 74, 75, 76, 77, 78, 79, 80, 81, 82, 83, 84, 85, 86, 87, 88, 89, 90, 91, 92, 93, 94, 95, 96, 97, 98, 99, 100, 101, 102, 103, 104, 105, 106, 107, 108, 109, 110, 111, 112, 113, 114, 115, 116, 117, 118, 119, 120, 121, 122, 123, 124, 125, 126, 127, 128, 129, 130, 131, 132, 133, 134, 135, 136, 137, 138, 139, 140, 141, 142, 143, 144, 145, 146, 147, 148, 149, 150, 151, 152, 153, 154, 155, 156, 157, 158, 159, 160, 161, 162, 163] ?_ ?_
          · refine c_seq ?_
            refine c_reg ?_
            refine fad rfl Try.underlying57 rfl ty3.sz ?_
            refine ldp 3 0 _ rfl rfl rfl rfl ty3 ?_
            refine jt ?_
            refine c_block ?_
            refine c_seq ?_
            refine c_reg ?_
            refine cmp _ rfl rfl rfl ?_
            refine asg (.bool _) rfl ?_
            refine jt ?_
            refine c_cond rfl (fun h4 => ?_) (fun h4 => ?_)
            · replace h4 := of_decide_eq_true h4
              refine c_seq ?_
              refine c_reg ?_
              refine mv (.pointer _) rfl ?_
              refine fad rfl Try.underlying57 rfl ty22.sz ?_
              refine ldp 3 2 _ rfl rfl rfl rfl ty22 ?_
              refine cal (Put_is bs20 m20 o3 most l hI1.2.1 (by omega) (by omega) hI1.2.2.1 (sc[i].s) (sc[i].l) ((hops sc[i] (List.getElem_mem (show i < sc.length by omega))).1) (by have := (hops sc[i] (List.getElem_mem (by omega))).2; omega) (z := putE most l (sc[i].l)) (l2 := (putL most l (sc[i].l))) rfl rfl) [0, 1, 2] [3] [_] rfl rfl rfl (by kernel_rfl) (impl_cons (impl_op 1 rfl (show i < sc.length by omega)) impl_nil) rfl ?_; rintro _ _ _ ⟨o60, ho60, rfl, rfl, rfl⟩; refine ⟨trivial, ?_⟩
              have hpl := put_len most l sc[i].l hI1.2.2.2
              have hbl := (hops sc[i] (List.getElem_mem (by omega))).2
              refine asg (.int _ _) rfl ?_
              refine jt ?_
              refine c_seq ?_
              refine c_dr [_, _, _, _, _, _] [] [(0, 0), (1, 0), (2, 0), (3, 0), (5, 0), (6, 0), (7, 0), (8, 0), (9, 0), (4, 1), (10, 0), (11, 0), (12, 0), (13, 0), (14, 0), (15, 0), (16, 0), (18, 0), (17, 1), (19, 0), (20, 0), (21, 0)] follows (by kernel_rfl) calm_body (keepS [0, 1, 2, 3, 4, 5] rfl) ?_
              refine mv (.int _ _) rfl ?_
              refine cmp _ rfl rfl rfl ?_
              refine mv (.bool _) rfl ?_
              refine jsplit 63 rfl (fun h5 => ?_) (fun h5 => ?_)
              · replace h5 := of_decide_eq_true h5
                refine g_on rfl rfl rfl ?_
                refine mv (.pointer _) rfl ?_
                refine g_on rfl rfl rfl ?_
                refine mv (.int _ _) rfl ?_
                refine g_on rfl rfl rfl ?_
                refine fad rfl Try.underlying57 rfl ty22.sz ?_
                refine g_on rfl rfl rfl ?_
                refine ldp 0 2 _ rfl rfl rfl rfl ty22 ?_
                refine g_on rfl rfl rfl ?_
                refine lenS rfl Try.underlying22 ?_
                refine g_on rfl rfl rfl ?_
                refine addi rfl rfl rfl (by omega) ?_
                refine g_on rfl rfl rfl ?_
                refine cal (Len_ct bs20 m20 o60 most (putL most l (sc[i].l)) ho60) [] [0, 1, 2, 3] [_, _, _, _] rfl rfl rfl (by kernel_rfl) (impl_cons (impl_at 3 rfl) (impl_cons (impl_at 4 rfl) (impl_cons (impl_at 5 rfl) impl_nil))) rfl ?_; rintro _ _ _ ⟨rfl, rfl, rfl⟩; refine ⟨keepI [0, 1, 2, 3, 4, 5] rfl, ?_⟩
                refine g_on rfl rfl rfl ?_
                refine cmp _ rfl rfl rfl ?_
                refine pkt (.bool _) rfl rfl ?_
                refine mv (.bool _) rfl ?_
                refine jsplit 73 rfl (fun h6 => ?_) (fun h6 => ?_)
                · replace h6 := ndt h6
                  refine g_off rfl rfl rfl rfl ?_
                  refine g_off rfl rfl rfl rfl ?_
                  refine g_off rfl rfl rfl rfl ?_
                  refine g_und rfl rfl rfl ?_
                  refine g_und rfl rfl rfl ?_
                  refine g_und rfl rfl rfl ?_
                  refine g_und rfl rfl rfl ?_
                  refine g_off rfl rfl rfl rfl ?_
                  refine pkt (.bool _) rfl rfl ?_
                  refine jt ?_
                  refine c_true rfl ?_
                  refine c_seq ?_
                  refine c_reg ?_
                  refine asg (.bool _) rfl ?_
                  refine jt ?_
                  refine c_ret ?_
                  exact j_end (own0 := []) (ro0 := [t.seg sc, opsSeg sc]) (.inl rfl) rfl (hr1 Try.results6 (rvt (v := (.bool _)) rfl)) [] [0, 1, 2, 3] [] [_, _, _, _] [] _ rfl rfl (by kernel_rfl) rfl impl_nil (by first | exact ⟨rfl, rfl, rfl⟩ | (exfalso; omega) | (exfalso; rcases htk with ⟨hz, hz2⟩ | ⟨hz, hz2⟩ <;> subst hz <;> simp at * <;> omega) | (exfalso; simp only [Bool.not_eq_true', Bool.not_eq_false', decide_eq_true_iff, decide_eq_false_iff_not] at *; omega))
                · replace h6 := ndf h6
                  refine g_on rfl rfl rfl ?_
                  refine mv (.int _ _) rfl ?_
                  refine g_on rfl rfl rfl ?_
                  refine cmp _ rfl rfl rfl ?_
                  refine g_on rfl rfl rfl ?_
                  refine mv (.bool _) rfl ?_
                  refine jsplit 76 rfl (fun h7 => ?_) (fun h7 => ?_)
                  · replace h7 := ndt h7
                    refine g_on rfl rfl rfl ?_
                    refine mv (.pointer _) rfl ?_
                    refine g_on rfl rfl rfl ?_
                    refine mv (.int _ _) rfl ?_
                    refine g_on rfl rfl rfl ?_
                    refine cal (Len_ct bs20 m20 o60 most (putL most l (sc[i].l)) ho60) [] [0, 1, 2, 3] [_, _, _, _] rfl rfl rfl (by kernel_rfl) (impl_cons (impl_at 3 rfl) (impl_cons (impl_at 4 rfl) (impl_cons (impl_at 5 rfl) impl_nil))) rfl ?_; rintro _ _ _ ⟨rfl, rfl, rfl⟩; refine ⟨keepI [0, 1, 2, 3, 4, 5] rfl, ?_⟩
                    refine g_on rfl rfl rfl ?_
                    refine cmp _ rfl rfl rfl ?_
                    refine g_on rfl rfl rfl ?_
                    refine pkt (.bool _) rfl rfl ?_
                    refine pkf (.bool _) rfl rfl ?_
                    refine jt ?_
                    refine c_cond rfl (fun h8 => ?_) (fun h8 => ?_)
                    · replace h8 := ndt h8
                      refine c_seq ?_
                      refine c_reg ?_
                      refine asg (.bool _) rfl ?_
                      refine jt ?_
                      refine c_ret ?_
                      exact j_end (own0 := []) (ro0 := [t.seg sc, opsSeg sc]) (.inl rfl) rfl (hr1 Try.results6 (rvt (v := (.bool _)) rfl)) [] [0, 1, 2, 3] [] [_, _, _, _] [] _ rfl rfl (by kernel_rfl) rfl impl_nil (by first | exact ⟨rfl, rfl, rfl⟩ | (exfalso; omega) | (exfalso; rcases htk with ⟨hz, hz2⟩ | ⟨hz, hz2⟩ <;> subst hz <;> simp at * <;> omega) | (exfalso; simp only [Bool.not_eq_true', Bool.not_eq_false', decide_eq_true_iff, decide_eq_false_iff_not] at *; omega))
                    · replace h8 := ndf h8
                      refine c_skip ?_
                      refine e_in ?_
                      refine e_keep [1, 2, 3] [0] [_, _, _] rfl (by kernel_rfl) ?_
                      exact e_lp (⟨o60, (putL most l (sc[i].l))⟩ : Ow × List Spare) (by repeat (first | exact out_self | refine out_hav (by kernel_rfl) ?_ | refine out_look (by kernel_rfl) ?_)) (⟨ho60, by first | exact ⟨hI1.2.2.1, hI1.2.2.2⟩ | exact ⟨putL_nd hI1.2.2.1, putL_most hI1.2.2.2⟩ | exact ⟨takeL_nd hI1.2.2.1, takeL_most hI1.2.2.2⟩ | exact ⟨drop_nd hI1.2.2.1, drop_most hI1.2.2.2⟩⟩) trivial trivial rfl rfl rfl
                  · replace h7 := ndf h7
                    refine g_off rfl rfl rfl rfl ?_
                    refine g_off rfl rfl rfl rfl ?_
                    refine g_off rfl rfl rfl rfl ?_
                    refine g_off rfl rfl rfl rfl ?_
                    refine g_on rfl rfl rfl ?_
                    refine pkf (.bool _) rfl rfl ?_
                    refine pkf (.bool _) rfl rfl ?_
                    refine jt ?_
                    refine c_false rfl ?_
                    refine c_skip ?_
                    refine e_in ?_
                    refine e_keep [1, 2, 3] [0] [_, _, _] rfl (by kernel_rfl) ?_
                    exact e_lp (⟨o60, (putL most l (sc[i].l))⟩ : Ow × List Spare) (by repeat (first | exact out_self | refine out_hav (by kernel_rfl) ?_ | refine out_look (by kernel_rfl) ?_)) (⟨ho60, by first | exact ⟨hI1.2.2.1, hI1.2.2.2⟩ | exact ⟨putL_nd hI1.2.2.1, putL_most hI1.2.2.2⟩ | exact ⟨takeL_nd hI1.2.2.1, takeL_most hI1.2.2.2⟩ | exact ⟨drop_nd hI1.2.2.1, drop_most hI1.2.2.2⟩⟩) trivial trivial rfl rfl rfl
              · replace h5 := of_decide_eq_false h5
                refine g_off rfl rfl rfl rfl ?_
                refine g_off rfl rfl rfl rfl ?_
                refine g_off rfl rfl rfl rfl ?_
                refine g_off rfl rfl rfl rfl ?_
                refine g_off rfl rfl rfl rfl ?_
                refine g_off rfl rfl rfl rfl ?_
                refine g_off rfl rfl rfl rfl ?_
                refine g_off rfl rfl rfl rfl ?_
                refine pkf (.bool _) rfl rfl ?_
                refine mv (.bool _) rfl ?_
                refine g_on rfl rfl rfl ?_
                refine mv (.int _ _) rfl ?_
                refine g_on rfl rfl rfl ?_
                refine cmp _ rfl rfl rfl ?_
                refine g_on rfl rfl rfl ?_
                refine mv (.bool _) rfl ?_
                refine jsplit 76 rfl (fun h9 => ?_) (fun h9 => ?_)
                · replace h9 := ndt h9
                  refine g_on rfl rfl rfl ?_
                  refine mv (.pointer _) rfl ?_
                  refine g_on rfl rfl rfl ?_
                  refine mv (.int _ _) rfl ?_
                  refine g_on rfl rfl rfl ?_
                  refine cal (Len_ct bs20 m20 o60 most (putL most l (sc[i].l)) ho60) [] [0, 1, 2, 3] [_, _, _, _] rfl rfl rfl (by kernel_rfl) (impl_cons (impl_at 3 rfl) (impl_cons (impl_at 4 rfl) (impl_cons (impl_at 5 rfl) impl_nil))) rfl ?_; rintro _ _ _ ⟨rfl, rfl, rfl⟩; refine ⟨keepI [0, 1, 2, 3, 4, 5] rfl, ?_⟩
                  refine g_on rfl rfl rfl ?_
                  refine cmp _ rfl rfl rfl ?_
                  refine g_on rfl rfl rfl ?_
                  refine pkt (.bool _) rfl rfl ?_
                  refine pkf (.bool _) rfl rfl ?_
                  refine jt ?_
                  refine c_cond rfl (fun h10 => ?_) (fun h10 => ?_)
                  · replace h10 := ndt h10
                    refine c_seq ?_
                    refine c_reg ?_
                    refine asg (.bool _) rfl ?_
                    refine jt ?_
                    refine c_ret ?_
                    exact j_end (own0 := []) (ro0 := [t.seg sc, opsSeg sc]) (.inl rfl) rfl (hr1 Try.results6 (rvt (v := (.bool _)) rfl)) [] [0, 1, 2, 3] [] [_, _, _, _] [] _ rfl rfl (by kernel_rfl) rfl impl_nil (by first | exact ⟨rfl, rfl, rfl⟩ | (exfalso; omega) | (exfalso; rcases htk with ⟨hz, hz2⟩ | ⟨hz, hz2⟩ <;> subst hz <;> simp at * <;> omega) | (exfalso; simp only [Bool.not_eq_true', Bool.not_eq_false', decide_eq_true_iff, decide_eq_false_iff_not] at *; omega))
                  · replace h10 := ndf h10
                    refine c_skip ?_
                    refine e_in ?_
                    refine e_keep [1, 2, 3] [0] [_, _, _] rfl (by kernel_rfl) ?_
                    exact e_lp (⟨o60, (putL most l (sc[i].l))⟩ : Ow × List Spare) (by repeat (first | exact out_self | refine out_hav (by kernel_rfl) ?_ | refine out_look (by kernel_rfl) ?_)) (⟨ho60, by first | exact ⟨hI1.2.2.1, hI1.2.2.2⟩ | exact ⟨putL_nd hI1.2.2.1, putL_most hI1.2.2.2⟩ | exact ⟨takeL_nd hI1.2.2.1, takeL_most hI1.2.2.2⟩ | exact ⟨drop_nd hI1.2.2.1, drop_most hI1.2.2.2⟩⟩) trivial trivial rfl rfl rfl
                · replace h9 := ndf h9
                  refine g_off rfl rfl rfl rfl ?_
                  refine g_off rfl rfl rfl rfl ?_
                  refine g_off rfl rfl rfl rfl ?_
                  refine g_off rfl rfl rfl rfl ?_
                  refine g_on rfl rfl rfl ?_
                  refine pkf (.bool _) rfl rfl ?_
                  refine pkf (.bool _) rfl rfl ?_
                  refine jt ?_
                  refine c_false rfl ?_
                  refine c_skip ?_
                  refine e_in ?_
                  refine e_keep [1, 2, 3] [0] [_, _, _] rfl (by kernel_rfl) ?_
                  exact e_lp (⟨o60, (putL most l (sc[i].l))⟩ : Ow × List Spare) (by repeat (first | exact out_self | refine out_hav (by kernel_rfl) ?_ | refine out_look (by kernel_rfl) ?_)) (⟨ho60, by first | exact ⟨hI1.2.2.1, hI1.2.2.2⟩ | exact ⟨putL_nd hI1.2.2.1, putL_most hI1.2.2.2⟩ | exact ⟨takeL_nd hI1.2.2.1, takeL_most hI1.2.2.2⟩ | exact ⟨drop_nd hI1.2.2.1, drop_most hI1.2.2.2⟩⟩) trivial trivial rfl rfl rfl
            · replace h4 := of_decide_eq_false h4
              refine c_seq ?_
              refine c_reg ?_
              refine cmp _ rfl rfl rfl ?_
              refine asg (.bool _) rfl ?_
              refine jt ?_
              refine c_cond rfl (fun h11 => ?_) (fun h11 => ?_)
              · replace h11 := of_decide_eq_true h11
                refine c_seq ?_
                refine c_reg ?_
                refine mv (.pointer _) rfl ?_
                refine fad rfl Try.underlying57 rfl ty30.sz ?_
                refine ldp 3 3 _ rfl rfl rfl rfl ty30 ?_
                refine fad rfl Try.underlying57 rfl ty31.sz ?_
                refine ldp 3 4 _ rfl rfl rfl rfl ty31 ?_
                obtain ⟨kf, hkf⟩ : ∃ kf, (mget (⟨sc[i].header, sc[i].n⟩ : SpP) (List.map skv l)).getD zarr = kf := ⟨_, rfl⟩
                obtain ⟨ff, hff⟩ : ∃ ff, (mget (⟨sc[i].header, sc[i].n⟩ : SpP) (List.map skv l)).isSome = ff := ⟨_, rfl⟩
                have htk := take_len hI1.2.2.1 hff
                refine cal (Take_is bs20 m20 o3 most l hI1.2.1 (by omega) hI1.2.2.1 (sc[i].header) (sc[i].n) (l2 := (takeL (sc[i].header) (sc[i].n) l)) (k := kf) (f := ff) rfl hkf hff) [0, 1, 2] [3] [_] rfl rfl rfl (by kernel_rfl) impl_nil rfl ?_; rintro _ _ _ ⟨o91, ho91, rfl, rfl, rfl⟩; refine ⟨trivial, ?_⟩
                refine mv (.tuple _) rfl ?_
                refine xtr (.agg _) rfl rfl ?_
                refine xtr (.bool _) rfl rfl ?_
                refine alo [pt (zarr : Key)] _ z30 rfl fun b11 => ⟨trivial, ?_⟩
                refine stw 4 _ [pt kf] rfl rfl rfl rfl ty30 ⟨trivial, ?_⟩
                refine asg (.bool _) rfl ?_
                refine jt ?_
                refine c_seq ?_
                refine c_reg ?_
                refine mv (.pointer _) rfl ?_
                refine fad rfl Try.underlying57 rfl ty30.sz ?_
                refine ldp 0 3 _ rfl rfl rfl rfl ty30 ?_
                refine fad rfl Try.underlying57 rfl ty31.sz ?_
                refine ldp 0 4 _ rfl rfl rfl rfl ty31 ?_
                refine cal (Find_is bs20 m20 o91 most (takeL (sc[i].header) (sc[i].n) l) ho91 (sc[i].header) (sc[i].n) (z := none) (k := zarr) (f := false) (taken_no _ _ _) rfl rfl) [] [0, 1, 2, 3, 4] [_, _, _, _, _] rfl rfl rfl (by kernel_rfl) (impl_cons (impl_at 3 rfl) (impl_cons (impl_at 4 rfl) (impl_cons (impl_at 5 rfl) impl_nil))) rfl ?_; rintro _ _ _ ⟨rfl, rfl, rfl⟩; refine ⟨trivial, ?_⟩
                refine mv (.tuple _) rfl ?_
                refine xtr (.agg _) rfl rfl ?_
                refine xtr (.bool _) rfl rfl ?_
                refine alo [pt (zarr : Key)] _ z30 rfl fun b13 => ⟨trivial, ?_⟩
                refine stw 5 _ [pt (zarr)] rfl rfl rfl rfl ty30 ⟨trivial, ?_⟩
                refine asg (.bool _) rfl ?_
                refine jt ?_
                refine c_seq ?_
                refine c_reg ?_
                refine mv (.bool _) rfl ?_
                refine mv (.bool _) rfl ?_
                refine g_on rfl rfl rfl ?_
                refine mv (.bool _) rfl ?_
                refine g_on rfl rfl rfl ?_
                refine mv (.pointer _) rfl ?_
                refine g_on rfl rfl rfl ?_
                refine cal (Len_ct bs20 m20 o91 most (takeL (sc[i].header) (sc[i].n) l) ho91) [] [0, 1, 2, 3, 4, 5] [_, _, _, _, _, _] rfl rfl rfl (by kernel_rfl) (impl_cons (impl_at 3 rfl) (impl_cons (impl_at 4 rfl) (impl_cons (impl_at 5 rfl) impl_nil))) rfl ?_; rintro _ _ _ ⟨rfl, rfl, rfl⟩; refine ⟨trivial, ?_⟩
                refine g_on rfl rfl rfl ?_
                refine mv (.int _ _) rfl ?_
                refine g_on rfl rfl rfl ?_
                refine subi rfl rfl rfl (by omega) ?_
                refine g_on rfl rfl rfl ?_
                refine cmp _ rfl rfl rfl ?_
                refine g_on rfl rfl rfl ?_
                refine eqbo _ rfl rfl Try.underlying4 rfl ?_
                refine pkf (.bool _) rfl rfl ?_
                refine mv (.bool _) rfl ?_
                refine jsplit 113 rfl (fun h12 => ?_) (fun h12 => ?_)
                · refine g_off rfl rfl rfl rfl ?_
                  refine g_off rfl rfl rfl rfl ?_
                  refine g_off rfl rfl rfl rfl ?_
                  refine g_off rfl rfl rfl rfl ?_
                  refine g_off rfl rfl rfl rfl ?_
                  refine g_off rfl rfl rfl rfl ?_
                  refine g_off rfl rfl rfl rfl ?_
                  refine pkt (.bool _) rfl rfl ?_
                  refine jt ?_
                  refine c_true rfl ?_
                  refine c_seq ?_
                  refine c_reg ?_
                  refine asg (.bool _) rfl ?_
                  refine jt ?_
                  refine c_ret ?_
                  exact j_end (own0 := []) (ro0 := [t.seg sc, opsSeg sc]) (.inl rfl) rfl (hr1 Try.results6 (rvt (v := (.bool _)) rfl)) [] [0, 1, 2, 3, 4, 5] [] [_, _, _, _, _, _] [] _ rfl rfl (by kernel_rfl) rfl impl_nil (by first | exact ⟨rfl, rfl, rfl⟩ | (exfalso; omega) | (exfalso; rcases htk with ⟨hz, hz2⟩ | ⟨hz, hz2⟩ <;> subst hz <;> simp at * <;> omega) | (exfalso; simp only [Bool.not_eq_true', Bool.not_eq_false', decide_eq_true_iff, decide_eq_false_iff_not] at *; omega))
                · refine g_on rfl rfl rfl ?_
                  refine mv (.bool _) rfl ?_
                  refine g_on rfl rfl rfl ?_
                  refine not_ rfl ?_
                  refine g_on rfl rfl rfl ?_
                  refine mv (.pointer _) rfl ?_
                  refine g_on rfl rfl rfl ?_
                  refine cal (Len_ct bs20 m20 o91 most (takeL (sc[i].header) (sc[i].n) l) ho91) [] [0, 1, 2, 3, 4, 5] [_, _, _, _, _, _] rfl rfl rfl (by kernel_rfl) (impl_cons (impl_at 3 rfl) (impl_cons (impl_at 4 rfl) (impl_cons (impl_at 5 rfl) impl_nil))) rfl ?_; rintro _ _ _ ⟨rfl, rfl, rfl⟩; refine ⟨trivial, ?_⟩
                  refine g_on rfl rfl rfl ?_
                  refine mv (.int _ _) rfl ?_
                  refine g_on rfl rfl rfl ?_
                  refine cmp _ rfl rfl rfl ?_
                  refine g_on rfl rfl rfl ?_
                  refine eqbo _ rfl rfl Try.underlying4 rfl ?_
                  refine pkf (.bool _) rfl rfl ?_
                  refine jt ?_
                  refine c_cond rfl (fun h13 => ?_) (fun h13 => ?_)
                  · refine c_seq ?_
                    refine c_reg ?_
                    refine asg (.bool _) rfl ?_
                    refine jt ?_
                    refine c_ret ?_
                    exact j_end (own0 := []) (ro0 := [t.seg sc, opsSeg sc]) (.inl rfl) rfl (hr1 Try.results6 (rvt (v := (.bool _)) rfl)) [] [0, 1, 2, 3, 4, 5] [] [_, _, _, _, _, _] [] _ rfl rfl (by kernel_rfl) rfl impl_nil (by first | exact ⟨rfl, rfl, rfl⟩ | (exfalso; omega) | (exfalso; rcases htk with ⟨hz, hz2⟩ | ⟨hz, hz2⟩ <;> subst hz <;> simp at * <;> omega) | (exfalso; simp only [Bool.not_eq_true', Bool.not_eq_false', decide_eq_true_iff, decide_eq_false_iff_not] at *; omega))
                  · refine c_skip ?_
                    refine e_in ?_
                    refine e_keep [1, 2, 3] [0, 4, 5] [_, _, _] rfl (by kernel_rfl) ?_
                    exact e_lp (⟨o91, (takeL (sc[i].header) (sc[i].n) l)⟩ : Ow × List Spare) (by repeat (first | exact out_self | refine out_hav (by kernel_rfl) ?_ | refine out_look (by kernel_rfl) ?_)) (⟨ho91, by first | exact ⟨hI1.2.2.1, hI1.2.2.2⟩ | exact ⟨putL_nd hI1.2.2.1, putL_most hI1.2.2.2⟩ | exact ⟨takeL_nd hI1.2.2.1, takeL_most hI1.2.2.2⟩ | exact ⟨drop_nd hI1.2.2.1, drop_most hI1.2.2.2⟩⟩) trivial trivial rfl rfl rfl
              · replace h11 := of_decide_eq_false h11
                refine c_seq ?_
                refine c_reg ?_
                refine cmp _ rfl rfl rfl ?_
                refine asg (.bool _) rfl ?_
                refine jt ?_
                refine c_cond rfl (fun h14 => ?_) (fun h14 => ?_)
                · replace h14 := of_decide_eq_true h14
                  refine c_seq ?_
                  refine c_reg ?_
                  refine mv (.pointer _) rfl ?_
                  refine fad rfl Try.underlying57 rfl ty3.sz ?_
                  refine ldp 3 5 _ rfl rfl rfl rfl ty3 ?_
                  refine cal (Forget_ct bs20 m20 o3 most l hI1.2.1 (by omega) (sc[i].count)) [0, 1, 2] [3] [_] rfl rfl rfl (by kernel_rfl) impl_nil rfl ?_; rintro _ _ _ ⟨o127, ho127, rfl, rfl, rfl⟩; refine ⟨trivial, ?_⟩
                  have hfe := fg_eq sc[i].count l
                  have hfl := fg_le sc[i].count l
                  have hfd : (l.drop (fg sc[i].count l)).length = l.length - fg sc[i].count l := List.length_drop
                  have hml : (List.map plc l).length = l.length := List.length_map _
                  refine asg (.int _ _) rfl ?_
                  refine jt ?_
                  refine c_seq ?_
                  refine c_reg ?_
                  refine mv (.int _ _) rfl ?_
                  refine cmp _ rfl rfl rfl ?_
                  refine mv (.bool _) rfl ?_
                  refine jsplit 130 rfl (fun h15 => ?_) (fun h15 => ?_)
                  · replace h15 := of_decide_eq_true h15
                    refine g_off rfl rfl rfl rfl ?_
                    refine g_off rfl rfl rfl rfl ?_
                    refine g_off rfl rfl rfl rfl ?_
                    refine g_off rfl rfl rfl rfl ?_
                    refine g_off rfl rfl rfl rfl ?_
                    refine g_off rfl rfl rfl rfl ?_
                    refine pkt (.bool _) rfl rfl ?_
                    refine mv (.bool _) rfl ?_
                    refine g_off rfl rfl rfl rfl ?_
                    refine g_off rfl rfl rfl rfl ?_
                    refine g_off rfl rfl rfl rfl ?_
                    refine g_und rfl rfl rfl ?_
                    refine g_und rfl rfl rfl ?_
                    refine g_und rfl rfl rfl ?_
                    refine g_und rfl rfl rfl ?_
                    refine g_off rfl rfl rfl rfl ?_
                    refine pkt (.bool _) rfl rfl ?_
                    refine mv (.bool _) rfl ?_
                    refine g_off rfl rfl rfl rfl ?_
                    refine g_off rfl rfl rfl rfl ?_
                    refine g_off rfl rfl rfl rfl ?_
                    refine g_off rfl rfl rfl rfl ?_
                    refine g_und rfl rfl rfl ?_
                    refine g_und rfl rfl rfl ?_
                    refine g_und rfl rfl rfl ?_
                    refine g_off rfl rfl rfl rfl ?_
                    refine g_off rfl rfl rfl rfl ?_
                    refine g_und rfl rfl rfl ?_
                    refine g_und rfl rfl rfl ?_
                    refine g_und rfl rfl rfl ?_
                    refine g_und rfl rfl rfl ?_
                    refine g_off rfl rfl rfl rfl ?_
                    refine pkt (.bool _) rfl rfl ?_
                    refine jt ?_
                    refine c_true rfl ?_
                    refine c_seq ?_
                    refine c_reg ?_
                    refine asg (.bool _) rfl ?_
                    refine jt ?_
                    refine c_ret ?_
                    exact j_end (own0 := []) (ro0 := [t.seg sc, opsSeg sc]) (.inl rfl) rfl (hr1 Try.results6 (rvt (v := (.bool _)) rfl)) [] [0, 1, 2, 3] [] [_, _, _, _] [] _ rfl rfl (by kernel_rfl) rfl impl_nil (by first | exact ⟨rfl, rfl, rfl⟩ | (exfalso; omega) | (exfalso; rcases htk with ⟨hz, hz2⟩ | ⟨hz, hz2⟩ <;> subst hz <;> simp at * <;> omega) | (exfalso; simp only [Bool.not_eq_true', Bool.not_eq_false', decide_eq_true_iff, decide_eq_false_iff_not] at *; omega))
                  · replace h15 := of_decide_eq_false h15
                    refine g_on rfl rfl rfl ?_
                    refine mv (.pointer _) rfl ?_
                    refine g_on rfl rfl rfl ?_
                    refine cal (Len_ct bs20 m20 o127 most (List.drop (fg (sc[i].count) l) l) ho127) [] [0, 1, 2, 3] [_, _, _, _] rfl rfl rfl (by kernel_rfl) (impl_cons (impl_at 3 rfl) (impl_cons (impl_at 4 rfl) (impl_cons (impl_at 5 rfl) impl_nil))) rfl ?_; rintro _ _ _ ⟨rfl, rfl, rfl⟩; refine ⟨trivial, ?_⟩
                    refine g_on rfl rfl rfl ?_
                    refine mv (.int _ _) rfl ?_
                    refine g_on rfl rfl rfl ?_
                    refine mv (.int _ _) rfl ?_
                    refine g_on rfl rfl rfl ?_
                    refine subi rfl rfl rfl (by omega) ?_
                    refine g_on rfl rfl rfl ?_
                    refine cmp _ rfl rfl rfl ?_
                    refine pkf (.bool _) rfl rfl ?_
                    refine mv (.bool _) rfl ?_
                    refine jsplit 138 rfl (fun h16 => ?_) (fun h16 => ?_)
                    · replace h16 := ndt h16
                      refine g_off rfl rfl rfl rfl ?_
                      refine g_off rfl rfl rfl rfl ?_
                      refine g_off rfl rfl rfl rfl ?_
                      refine g_und rfl rfl rfl ?_
                      refine g_und rfl rfl rfl ?_
                      refine g_und rfl rfl rfl ?_
                      refine g_und rfl rfl rfl ?_
                      refine g_off rfl rfl rfl rfl ?_
                      refine pkt (.bool _) rfl rfl ?_
                      refine mv (.bool _) rfl ?_
                      refine g_off rfl rfl rfl rfl ?_
                      refine g_off rfl rfl rfl rfl ?_
                      refine g_off rfl rfl rfl rfl ?_
                      refine g_off rfl rfl rfl rfl ?_
                      refine g_und rfl rfl rfl ?_
                      refine g_und rfl rfl rfl ?_
                      refine g_und rfl rfl rfl ?_
                      refine g_off rfl rfl rfl rfl ?_
                      refine g_off rfl rfl rfl rfl ?_
                      refine g_und rfl rfl rfl ?_
                      refine g_und rfl rfl rfl ?_
                      refine g_und rfl rfl rfl ?_
                      refine g_und rfl rfl rfl ?_
                      refine g_off rfl rfl rfl rfl ?_
                      refine pkt (.bool _) rfl rfl ?_
                      refine jt ?_
                      refine c_true rfl ?_
                      refine c_seq ?_
                      refine c_reg ?_
                      refine asg (.bool _) rfl ?_
                      refine jt ?_
                      refine c_ret ?_
                      exact j_end (own0 := []) (ro0 := [t.seg sc, opsSeg sc]) (.inl rfl) rfl (hr1 Try.results6 (rvt (v := (.bool _)) rfl)) [] [0, 1, 2, 3] [] [_, _, _, _] [] _ rfl rfl (by kernel_rfl) rfl impl_nil (by first | exact ⟨rfl, rfl, rfl⟩ | (exfalso; omega) | (exfalso; rcases htk with ⟨hz, hz2⟩ | ⟨hz, hz2⟩ <;> subst hz <;> simp at * <;> omega) | (exfalso; simp only [Bool.not_eq_true', Bool.not_eq_false', decide_eq_true_iff, decide_eq_false_iff_not] at *; omega))
                    · replace h16 := ndf h16
                      refine g_on rfl rfl rfl ?_
                      refine mv (.int _ _) rfl ?_
                      refine g_on rfl rfl rfl ?_
                      refine cmp _ rfl rfl rfl ?_
                      refine g_on rfl rfl rfl ?_
                      refine mv (.bool _) rfl ?_
                      refine jsplit 141 rfl (fun h17 => ?_) (fun h17 => ?_)
                      · replace h17 := of_decide_eq_true h17
                        refine g_on rfl rfl rfl ?_
                        refine mv (.int _ _) rfl ?_
                        refine g_on rfl rfl rfl ?_
                        refine fad rfl Try.underlying57 rfl ty3.sz ?_
                        refine g_on rfl rfl rfl ?_
                        refine ldp 0 5 _ rfl rfl rfl rfl ty3 ?_
                        refine g_on rfl rfl rfl ?_
                        refine cmp _ rfl rfl rfl ?_
                        refine g_on rfl rfl rfl ?_
                        refine pkt (.bool _) rfl rfl ?_
                        refine pkf (.bool _) rfl rfl ?_
                        refine mv (.bool _) rfl ?_
                        refine jsplit 148 rfl (fun h18 => ?_) (fun h18 => ?_)
                        · replace h18 := of_decide_eq_true h18
                          refine g_off rfl rfl rfl rfl ?_
                          refine g_off rfl rfl rfl rfl ?_
                          refine g_off rfl rfl rfl rfl ?_
                          refine g_off rfl rfl rfl rfl ?_
                          refine g_und rfl rfl rfl ?_
                          refine g_und rfl rfl rfl ?_
                          refine g_und rfl rfl rfl ?_
                          refine g_off rfl rfl rfl rfl ?_
                          refine g_off rfl rfl rfl rfl ?_
                          refine g_und rfl rfl rfl ?_
                          refine g_und rfl rfl rfl ?_
                          refine g_und rfl rfl rfl ?_
                          refine g_und rfl rfl rfl ?_
                          refine g_off rfl rfl rfl rfl ?_
                          refine pkt (.bool _) rfl rfl ?_
                          refine jt ?_
                          refine c_true rfl ?_
                          refine c_seq ?_
                          refine c_reg ?_
                          refine asg (.bool _) rfl ?_
                          refine jt ?_
                          refine c_ret ?_
                          exact j_end (own0 := []) (ro0 := [t.seg sc, opsSeg sc]) (.inl rfl) rfl (hr1 Try.results6 (rvt (v := (.bool _)) rfl)) [] [0, 1, 2, 3] [] [_, _, _, _] [] _ rfl rfl (by kernel_rfl) rfl impl_nil (by first | exact ⟨rfl, rfl, rfl⟩ | (exfalso; omega) | (exfalso; rcases htk with ⟨hz, hz2⟩ | ⟨hz, hz2⟩ <;> subst hz <;> simp at * <;> omega) | (exfalso; simp only [Bool.not_eq_true', Bool.not_eq_false', decide_eq_true_iff, decide_eq_false_iff_not] at *; omega))
                        · replace h18 := of_decide_eq_false h18
                          refine g_on rfl rfl rfl ?_
                          refine mv (.pointer _) rfl ?_
                          refine g_on rfl rfl rfl ?_
                          refine cal (Len_ct bs20 m20 o127 most (List.drop (fg (sc[i].count) l) l) ho127) [] [0, 1, 2, 3] [_, _, _, _] rfl rfl rfl (by kernel_rfl) (impl_cons (impl_at 3 rfl) (impl_cons (impl_at 4 rfl) (impl_cons (impl_at 5 rfl) impl_nil))) rfl ?_; rintro _ _ _ ⟨rfl, rfl, rfl⟩; refine ⟨trivial, ?_⟩
                          refine g_on rfl rfl rfl ?_
                          refine cmp _ rfl rfl rfl ?_
                          refine g_on rfl rfl rfl ?_
                          refine mv (.bool _) rfl ?_
                          refine jsplit 152 rfl (fun h19 => ?_) (fun h19 => ?_)
                          · replace h19 := of_decide_eq_true h19
                            refine g_on rfl rfl rfl ?_
                            refine fad rfl Try.underlying57 rfl ty3.sz ?_
                            refine g_on rfl rfl rfl ?_
                            refine ldp 0 5 _ rfl rfl rfl rfl ty3 ?_
                            refine g_on rfl rfl rfl ?_
                            refine cmp _ rfl rfl rfl ?_
                            refine g_on rfl rfl rfl ?_
                            refine pkt (.bool _) rfl rfl ?_
                            refine g_on rfl rfl rfl ?_
                            refine mv (.bool _) rfl ?_
                            refine jsplit 157 rfl (fun h20 => ?_) (fun h20 => ?_)
                            · replace h20 := of_decide_eq_true h20
                              refine g_on rfl rfl rfl ?_
                              refine mv (.int _ _) rfl ?_
                              refine g_on rfl rfl rfl ?_
                              refine fad rfl Try.underlying57 rfl ty3.sz ?_
                              refine g_on rfl rfl rfl ?_
                              refine ldp 0 5 _ rfl rfl rfl rfl ty3 ?_
                              refine g_on rfl rfl rfl ?_
                              refine cmp _ rfl rfl rfl ?_
                              refine g_on rfl rfl rfl ?_
                              refine pkt (.bool _) rfl rfl ?_
                              refine pkf (.bool _) rfl rfl ?_
                              refine jt ?_
                              refine c_cond rfl (fun h21 => ?_) (fun h21 => ?_)
                              · replace h21 := ndt h21
                                refine c_seq ?_
                                refine c_reg ?_
                                refine asg (.bool _) rfl ?_
                                refine jt ?_
                                refine c_ret ?_
                                exact j_end (own0 := []) (ro0 := [t.seg sc, opsSeg sc]) (.inl rfl) rfl (hr1 Try.results6 (rvt (v := (.bool _)) rfl)) [] [0, 1, 2, 3] [] [_, _, _, _] [] _ rfl rfl (by kernel_rfl) rfl impl_nil (by first | exact ⟨rfl, rfl, rfl⟩ | (exfalso; omega) | (exfalso; rcases htk with ⟨hz, hz2⟩ | ⟨hz, hz2⟩ <;> subst hz <;> simp at * <;> omega) | (exfalso; simp only [Bool.not_eq_true', Bool.not_eq_false', decide_eq_true_iff, decide_eq_false_iff_not] at *; omega))
                              · replace h21 := ndf h21
                                refine c_skip ?_
                                refine e_in ?_
                                refine e_keep [1, 2, 3] [0] [_, _, _] rfl (by kernel_rfl) ?_
                                exact e_lp (⟨o127, (List.drop (fg (sc[i].count) l) l)⟩ : Ow × List Spare) (by repeat (first | exact out_self | refine out_hav (by kernel_rfl) ?_ | refine out_look (by kernel_rfl) ?_)) (⟨ho127, by first | exact ⟨hI1.2.2.1, hI1.2.2.2⟩ | exact ⟨putL_nd hI1.2.2.1, putL_most hI1.2.2.2⟩ | exact ⟨takeL_nd hI1.2.2.1, takeL_most hI1.2.2.2⟩ | exact ⟨drop_nd hI1.2.2.1, drop_most hI1.2.2.2⟩⟩) trivial trivial rfl rfl rfl
                            · replace h20 := of_decide_eq_false h20
                              refine g_off rfl rfl rfl rfl ?_
                              refine g_off rfl rfl rfl rfl ?_
                              refine g_off rfl rfl rfl rfl ?_
                              refine g_off rfl rfl rfl rfl ?_
                              refine g_on rfl rfl rfl ?_
                              refine pkf (.bool _) rfl rfl ?_
                              refine pkf (.bool _) rfl rfl ?_
                              refine jt ?_
                              refine c_false rfl ?_
                              refine c_skip ?_
                              refine e_in ?_
                              refine e_keep [1, 2, 3] [0] [_, _, _] rfl (by kernel_rfl) ?_
                              exact e_lp (⟨o127, (List.drop (fg (sc[i].count) l) l)⟩ : Ow × List Spare) (by repeat (first | exact out_self | refine out_hav (by kernel_rfl) ?_ | refine out_look (by kernel_rfl) ?_)) (⟨ho127, by first | exact ⟨hI1.2.2.1, hI1.2.2.2⟩ | exact ⟨putL_nd hI1.2.2.1, putL_most hI1.2.2.2⟩ | exact ⟨takeL_nd hI1.2.2.1, takeL_most hI1.2.2.2⟩ | exact ⟨drop_nd hI1.2.2.1, drop_most hI1.2.2.2⟩⟩) trivial trivial rfl rfl rfl
                          · replace h19 := of_decide_eq_false h19
                            refine g_off rfl rfl rfl rfl ?_
                            refine g_off rfl rfl rfl rfl ?_
                            refine g_off rfl rfl rfl rfl ?_
                            refine g_on rfl rfl rfl ?_
                            refine pkf (.bool _) rfl rfl ?_
                            refine g_on rfl rfl rfl ?_
                            refine mv (.bool _) rfl ?_
                            refine g_off rfl rfl rfl rfl ?_
                            refine g_off rfl rfl rfl rfl ?_
                            refine g_off rfl rfl rfl rfl ?_
                            refine g_off rfl rfl rfl rfl ?_
                            refine g_on rfl rfl rfl ?_
                            refine pkf (.bool _) rfl rfl ?_
                            refine pkf (.bool _) rfl rfl ?_
                            refine jt ?_
                            refine c_false rfl ?_
                            refine c_skip ?_
                            refine e_in ?_
                            refine e_keep [1, 2, 3] [0] [_, _, _] rfl (by kernel_rfl) ?_
                            exact e_lp (⟨o127, (List.drop (fg (sc[i].count) l) l)⟩ : Ow × List Spare) (by repeat (first | exact out_self | refine out_hav (by kernel_rfl) ?_ | refine out_look (by kernel_rfl) ?_)) (⟨ho127, by first | exact ⟨hI1.2.2.1, hI1.2.2.2⟩ | exact ⟨putL_nd hI1.2.2.1, putL_most hI1.2.2.2⟩ | exact ⟨takeL_nd hI1.2.2.1, takeL_most hI1.2.2.2⟩ | exact ⟨drop_nd hI1.2.2.1, drop_most hI1.2.2.2⟩⟩) trivial trivial rfl rfl rfl
                      · replace h17 := of_decide_eq_false h17
                        refine g_off rfl rfl rfl rfl ?_
                        refine g_off rfl rfl rfl rfl ?_
                        refine g_off rfl rfl rfl rfl ?_
                        refine g_off rfl rfl rfl rfl ?_
                        refine g_on rfl rfl rfl ?_
                        refine pkf (.bool _) rfl rfl ?_
                        refine pkf (.bool _) rfl rfl ?_
                        refine mv (.bool _) rfl ?_
                        refine g_on rfl rfl rfl ?_
                        refine mv (.pointer _) rfl ?_
                        refine g_on rfl rfl rfl ?_
                        refine cal (Len_ct bs20 m20 o127 most (List.drop (fg (sc[i].count) l) l) ho127) [] [0, 1, 2, 3] [_, _, _, _] rfl rfl rfl (by kernel_rfl) (impl_cons (impl_at 3 rfl) (impl_cons (impl_at 4 rfl) (impl_cons (impl_at 5 rfl) impl_nil))) rfl ?_; rintro _ _ _ ⟨rfl, rfl, rfl⟩; refine ⟨trivial, ?_⟩
                        refine g_on rfl rfl rfl ?_
                        refine cmp _ rfl rfl rfl ?_
                        refine g_on rfl rfl rfl ?_
                        refine mv (.bool _) rfl ?_
                        refine jsplit 152 rfl (fun h22 => ?_) (fun h22 => ?_)
                        · replace h22 := of_decide_eq_true h22
                          refine g_on rfl rfl rfl ?_
                          refine fad rfl Try.underlying57 rfl ty3.sz ?_
                          refine g_on rfl rfl rfl ?_
                          refine ldp 0 5 _ rfl rfl rfl rfl ty3 ?_
                          refine g_on rfl rfl rfl ?_
                          refine cmp _ rfl rfl rfl ?_
                          refine g_on rfl rfl rfl ?_
                          refine pkt (.bool _) rfl rfl ?_
                          refine g_on rfl rfl rfl ?_
                          refine mv (.bool _) rfl ?_
                          refine jsplit 157 rfl (fun h23 => ?_) (fun h23 => ?_)
                          · replace h23 := of_decide_eq_true h23
                            refine g_on rfl rfl rfl ?_
                            refine mv (.int _ _) rfl ?_
                            refine g_on rfl rfl rfl ?_
                            refine fad rfl Try.underlying57 rfl ty3.sz ?_
                            refine g_on rfl rfl rfl ?_
                            refine ldp 0 5 _ rfl rfl rfl rfl ty3 ?_
                            refine g_on rfl rfl rfl ?_
                            refine cmp _ rfl rfl rfl ?_
                            refine g_on rfl rfl rfl ?_
                            refine pkt (.bool _) rfl rfl ?_
                            refine pkf (.bool _) rfl rfl ?_
                            refine jt ?_
                            refine c_cond rfl (fun h24 => ?_) (fun h24 => ?_)
                            · replace h24 := ndt h24
                              refine c_seq ?_
                              refine c_reg ?_
                              refine asg (.bool _) rfl ?_
                              refine jt ?_
                              refine c_ret ?_
                              exact j_end (own0 := []) (ro0 := [t.seg sc, opsSeg sc]) (.inl rfl) rfl (hr1 Try.results6 (rvt (v := (.bool _)) rfl)) [] [0, 1, 2, 3] [] [_, _, _, _] [] _ rfl rfl (by kernel_rfl) rfl impl_nil (by first | exact ⟨rfl, rfl, rfl⟩ | (exfalso; omega) | (exfalso; rcases htk with ⟨hz, hz2⟩ | ⟨hz, hz2⟩ <;> subst hz <;> simp at * <;> omega) | (exfalso; simp only [Bool.not_eq_true', Bool.not_eq_false', decide_eq_true_iff, decide_eq_false_iff_not] at *; omega))
                            · replace h24 := ndf h24
                              refine c_skip ?_
                              refine e_in ?_
                              refine e_keep [1, 2, 3] [0] [_, _, _] rfl (by kernel_rfl) ?_
                              exact e_lp (⟨o127, (List.drop (fg (sc[i].count) l) l)⟩ : Ow × List Spare) (by repeat (first | exact out_self | refine out_hav (by kernel_rfl) ?_ | refine out_look (by kernel_rfl) ?_)) (⟨ho127, by first | exact ⟨hI1.2.2.1, hI1.2.2.2⟩ | exact ⟨putL_nd hI1.2.2.1, putL_most hI1.2.2.2⟩ | exact ⟨takeL_nd hI1.2.2.1, takeL_most hI1.2.2.2⟩ | exact ⟨drop_nd hI1.2.2.1, drop_most hI1.2.2.2⟩⟩) trivial trivial rfl rfl rfl
                          · replace h23 := of_decide_eq_false h23
                            refine g_off rfl rfl rfl rfl ?_
                            refine g_off rfl rfl rfl rfl ?_
                            refine g_off rfl rfl rfl rfl ?_
                            refine g_off rfl rfl rfl rfl ?_
                            refine g_on rfl rfl rfl ?_
                            refine pkf (.bool _) rfl rfl ?_
                            refine pkf (.bool _) rfl rfl ?_
                            refine jt ?_
                            refine c_false rfl ?_
                            refine c_skip ?_
                            refine e_in ?_
                            refine e_keep [1, 2, 3] [0] [_, _, _] rfl (by kernel_rfl) ?_
                            exact e_lp (⟨o127, (List.drop (fg (sc[i].count) l) l)⟩ : Ow × List Spare) (by repeat (first | exact out_self | refine out_hav (by kernel_rfl) ?_ | refine out_look (by kernel_rfl) ?_)) (⟨ho127, by first | exact ⟨hI1.2.2.1, hI1.2.2.2⟩ | exact ⟨putL_nd hI1.2.2.1, putL_most hI1.2.2.2⟩ | exact ⟨takeL_nd hI1.2.2.1, takeL_most hI1.2.2.2⟩ | exact ⟨drop_nd hI1.2.2.1, drop_most hI1.2.2.2⟩⟩) trivial trivial rfl rfl rfl
                        · replace h22 := of_decide_eq_false h22
                          refine g_off rfl rfl rfl rfl ?_
                          refine g_off rfl rfl rfl rfl ?_
                          refine g_off rfl rfl rfl rfl ?_
                          refine g_on rfl rfl rfl ?_
                          refine pkf (.bool _) rfl rfl ?_
                          refine g_on rfl rfl rfl ?_
                          refine mv (.bool _) rfl ?_
                          refine g_off rfl rfl rfl rfl ?_
                          refine g_off rfl rfl rfl rfl ?_
                          refine g_off rfl rfl rfl rfl ?_
                          refine g_off rfl rfl rfl rfl ?_
                          refine g_on rfl rfl rfl ?_
                          refine pkf (.bool _) rfl rfl ?_
                          refine pkf (.bool _) rfl rfl ?_
                          refine jt ?_
                          refine c_false rfl ?_
                          refine c_skip ?_
                          refine e_in ?_
                          refine e_keep [1, 2, 3] [0] [_, _, _] rfl (by kernel_rfl) ?_
                          exact e_lp (⟨o127, (List.drop (fg (sc[i].count) l) l)⟩ : Ow × List Spare) (by repeat (first | exact out_self | refine out_hav (by kernel_rfl) ?_ | refine out_look (by kernel_rfl) ?_)) (⟨ho127, by first | exact ⟨hI1.2.2.1, hI1.2.2.2⟩ | exact ⟨putL_nd hI1.2.2.1, putL_most hI1.2.2.2⟩ | exact ⟨takeL_nd hI1.2.2.1, takeL_most hI1.2.2.2⟩ | exact ⟨drop_nd hI1.2.2.1, drop_most hI1.2.2.2⟩⟩) trivial trivial rfl rfl rfl
                · replace h14 := of_decide_eq_false h14
                  refine c_skip ?_
                  refine e_in ?_
                  refine e_keep [0, 1, 2] [3] [_, _, _] rfl (by kernel_rfl) ?_
                  exact e_lp (⟨o3, l⟩ : Ow × List Spare) (by repeat (first | exact out_self | refine out_hav (by kernel_rfl) ?_ | refine out_look (by kernel_rfl) ?_)) (⟨hI1.2.1, by first | exact ⟨hI1.2.2.1, hI1.2.2.2⟩ | exact ⟨putL_nd hI1.2.2.1, putL_most hI1.2.2.2⟩ | exact ⟨takeL_nd hI1.2.2.1, takeL_most hI1.2.2.2⟩ | exact ⟨drop_nd hI1.2.2.1, drop_most hI1.2.2.2⟩⟩) trivial trivial rfl rfl rfl
          · rintro ⟨o4, l2⟩ g hJ
            try dsimp only at hJ ⊢
            refine c_seq ?_
            refine c_reg ?_
            refine mv (.pointer _) rfl ?_
            refine mv (.int _ _) rfl ?_
            refine cal (plain_ct bs20 m20 o4 most l2 hJ.1 (by omega) hJ.2.2 hJ.2.1) [] [0, 1, 2] [_, _, _] rfl rfl rfl (by kernel_rfl) (impl_cons (impl_at 2 rfl) (impl_cons (impl_at 3 rfl) (impl_cons (impl_at 4 rfl) impl_nil))) rfl ?_; rintro _ _ _ ⟨rfl, rfl, rfl⟩; refine ⟨trivial, ?_⟩
            refine not_ rfl ?_
            refine jt ?_
            refine c_false rfl ?_
            refine c_skip ?_
            refine e_in ?_
            refine e_then ?_
            refine c_reg ?_
            refine mv (.int _ _) rfl ?_
            refine addi rfl rfl rfl (by omega) ?_
            refine asg (.int _ _) rfl ?_
            refine jn ?_
            exact e_lp (⟨i + 1, o4, l2⟩ : Nat × Ow × List Spare) (by repeat (first | exact out_self | refine out_hav (by kernel_rfl) ?_ | refine out_look (by kernel_rfl) ?_)) (⟨by omega, hJ.1, hJ.2.1, hJ.2.2⟩) (by (try dsimp only); omega) (⟨rfl, trivial⟩) rfl rfl rfl
        · replace h3 := of_decide_eq_false h3
          refine c_exit rfl ?_
          refine e_then ?_
          refine c_seq ?_
          refine c_reg ?_
          refine asg (.bool _) rfl ?_
          refine jt ?_
          refine c_ret ?_
          exact j_end (own0 := []) (ro0 := [t.seg sc, opsSeg sc]) (.inl rfl) rfl (hr1 Try.results6 (rvt (v := (.bool _)) rfl)) [] [0, 1, 2] [] [_, _, _] [] _ rfl rfl (by kernel_rfl) rfl impl_nil (by first | exact ⟨rfl, rfl, rfl⟩ | (exfalso; omega) | (exfalso; rcases htk with ⟨hz, hz2⟩ | ⟨hz, hz2⟩ <;> subst hz <;> simp at * <;> omega) | (exfalso; simp only [Bool.not_eq_true', Bool.not_eq_false', decide_eq_true_iff, decide_eq_false_iff_not] at *; omega))
  · refine ⟨trivial, ?_⟩
    refine mv (.tuple _) rfl ?_
    refine xtr (.pointer _) rfl rfl ?_
    refine xtr (.int _ _) rfl rfl ?_
    refine asg (.pointer _) rfl ?_
    refine asg (.int _ _) rfl ?_
    refine jt ?_
    refine c_seq ?_
    refine c_seq ?_
    refine c_reg ?_
    refine mv (.int _ _) rfl ?_
    refine cmp _ rfl rfl rfl ?_
    refine mv (.bool _) rfl ?_
    refine jsplit 25 rfl (fun h25 => ?_) (fun h25 => ?_)
    · replace h25 := of_decide_eq_true h25
      refine g_off rfl rfl rfl rfl ?_
      refine g_off rfl rfl rfl rfl ?_
      refine pkt (.bool _) rfl rfl ?_
      refine jt ?_
      refine c_true rfl ?_
      refine c_seq ?_
      refine c_reg ?_
      refine mv (.pointer _) rfl ?_
      refine eqpn true rfl rfl Try.underlying24 rfl ?_
      refine mv (.bool _) rfl ?_
      refine g_on rfl rfl rfl ?_
      refine mv (.int _ _) rfl ?_
      refine g_on rfl rfl rfl ?_
      refine cmp true rfl rfl rfl ?_
      refine pkt (.bool _) rfl rfl ?_
      refine asg (.bool _) rfl ?_
      refine jt ?_
      refine c_ret ?_
      exact j_end (own0 := []) (ro0 := [t.seg sc, opsSeg sc]) (.inl rfl) rfl (hr1 Try.results6 (rvt (v := (.bool _)) rfl)) [] [] [] [] [] _ rfl rfl (by kernel_rfl) rfl impl_nil (by first | exact ⟨rfl, rfl, rfl⟩ | (exfalso; omega) | (exfalso; rcases htk with ⟨hz, hz2⟩ | ⟨hz, hz2⟩ <;> subst hz <;> simp at * <;> omega) | (exfalso; simp only [Bool.not_eq_true', Bool.not_eq_false', decide_eq_true_iff, decide_eq_false_iff_not] at *; omega))
    · replace h25 := of_decide_eq_false h25
      refine g_on rfl rfl rfl ?_
      refine mv (.int _ _) rfl ?_
      refine g_on rfl rfl rfl ?_
      refine cmp _ rfl rfl rfl ?_
      refine pkf (.bool _) rfl rfl ?_
      refine jt ?_
      refine c_cond rfl (fun h26 => ?_) (fun h26 => ?_)
      · replace h26 := of_decide_eq_true h26
        refine c_seq ?_
        refine c_reg ?_
        refine mv (.pointer _) rfl ?_
        refine eqpn true rfl rfl Try.underlying24 rfl ?_
        refine mv (.bool _) rfl ?_
        refine g_on rfl rfl rfl ?_
        refine mv (.int _ _) rfl ?_
        refine g_on rfl rfl rfl ?_
        refine cmp true rfl rfl rfl ?_
        refine pkt (.bool _) rfl rfl ?_
        refine asg (.bool _) rfl ?_
        refine jt ?_
        refine c_ret ?_
        exact j_end (own0 := []) (ro0 := [t.seg sc, opsSeg sc]) (.inl rfl) rfl (hr1 Try.results6 (rvt (v := (.bool _)) rfl)) [] [] [] [] [] _ rfl rfl (by kernel_rfl) rfl impl_nil (by first | exact ⟨rfl, rfl, rfl⟩ | (exfalso; omega) | (exfalso; rcases htk with ⟨hz, hz2⟩ | ⟨hz, hz2⟩ <;> subst hz <;> simp at * <;> omega) | (exfalso; simp only [Bool.not_eq_true', Bool.not_eq_false', decide_eq_true_iff, decide_eq_false_iff_not] at *; omega))
      · replace h26 := of_decide_eq_false h26
        refine c_skip ?_
        refine e_then ?_
        refine c_seq ?_
        refine c_seq ?_
        refine c_reg ?_
        refine mv (.pointer _) rfl ?_
        refine eqpn true rfl rfl Try.underlying24 rfl ?_
        refine mv (.bool _) rfl ?_
        refine g_off rfl rfl rfl rfl ?_
        refine g_off rfl rfl rfl rfl ?_
        refine pkt (.bool _) rfl rfl ?_
        refine jt ?_
        refine c_true rfl ?_
        refine c_seq ?_
        refine c_reg ?_
        refine asg (.bool _) rfl ?_
        refine jt ?_
        refine c_ret ?_
        exact j_end (own0 := []) (ro0 := [t.seg sc, opsSeg sc]) (.inl rfl) rfl (hr1 Try.results6 (rvt (v := (.bool _)) rfl)) [] [] [] [] [] _ rfl rfl (by kernel_rfl) rfl impl_nil (by first | exact ⟨rfl, rfl, rfl⟩ | (exfalso; omega) | (exfalso; rcases htk with ⟨hz, hz2⟩ | ⟨hz, hz2⟩ <;> subst hz <;> simp at * <;> omega) | (exfalso; simp only [Bool.not_eq_true', Bool.not_eq_false', decide_eq_true_iff, decide_eq_false_iff_not] at *; omega))
end Go.Proofs.Ytacfjmjcgolhfaa
