/- Contracts of the program's functions, walked. No condition. -/
import Derived.Test.YtacfjmjcgolhfaaA6
namespace Go.Proofs.Ytacfjmjcgolhfaa
open Go Go.Proofs Go.PW
open Go.PW.Enc (enc val)

def tw (xs ys : List Spare) (k : Nat) : Bool := !decide (((xs ++ ys.take k).map plc).Nodup)
theorem tw_zero {xs ys : List Spare} (h : (xs.map plc).Nodup) : tw xs ys 0 = false := by unfold tw; simpa using h
theorem any_meets {xs : List Spare} {x : Spare} : (xs.any fun y => meets y x) = decide (plc x ∈ xs.map plc) := by
  rw [Bool.eq_iff_iff, List.any_eq_true, decide_eq_true_iff, List.mem_map]
  constructor
  · rintro ⟨y, hy, h⟩
    refine ⟨y, hy, ?_⟩
    have := of_decide_eq_true h
    simp [plc, this.1, this.2]
  · rintro ⟨y, hy, h⟩
    refine ⟨y, hy, decide_eq_true ?_⟩
    simpa [plc] using h
theorem tw_next {xs ys : List Spare} {k : Nat} (hk : k < ys.length) : tw xs ys (k + 1) = (tw xs ys k || (xs.any fun y => meets y ys[k]) || (((ys.drop 0).take k).any fun y => meets y ys[k])) := by
  rw [any_meets, any_meets, Bool.eq_iff_iff]
  unfold tw
  simp only [Bool.not_eq_true', decide_eq_false_iff_not, Bool.or_eq_true, decide_eq_true_iff]
  rw [List.take_succ_eq_append_getElem hk, ← List.append_assoc, List.map_append, List.nodup_append, List.drop_zero]
  simp only [List.map_append, List.map_cons, List.map_nil, List.mem_append, List.mem_singleton]
  constructor
  · intro h
    apply Classical.byContradiction
    intro hn
    refine h ⟨Classical.not_not.1 fun h1 => hn (.inl (.inl h1)), by simp, fun a ha b hb e => ?_⟩
    subst hb; subst e
    exact hn (ha.elim (fun h2 => .inl (.inr h2)) .inr)
  · rintro ((h | h) | h) ⟨h1, _, h2⟩
    · exact h h1
    · exact h2 _ (.inl h) _ rfl rfl
    · exact h2 _ (.inr h) _ rfl rfl
theorem law_tw {most : Int} {xs ys : List Spare} {k : Nat} (hk : ys.length ≤ k) (h : tw xs ys k = true) : putE most xs ys = 121 := by
  unfold tw at h; rw [List.take_of_length_le hk] at h
  unfold putE; rw [if_pos (by simpa using h)]
theorem law_room {most : Int} {xs ys : List Spare} {k : Nat} (hk : ys.length ≤ k) (h : tw xs ys k = false) (h2 : most < xs.length + ys.length) : putE most xs ys = 120 := by
  unfold tw at h; rw [List.take_of_length_le hk] at h
  unfold putE; rw [if_neg (by simpa using h), if_pos h2]
theorem law_ok {most : Int} {xs ys : List Spare} {k : Nat} (hk : ys.length ≤ k) (h : tw xs ys k = false) (h2 : ¬ most < xs.length + ys.length) : putE most xs ys = 0 := by
  unfold tw at h; rw [List.take_of_length_le hk] at h
  unfold putE; rw [if_neg (by simpa using h), if_neg h2]
theorem putL_nd {most : Int} {xs ys : List Spare} (h : (xs.map plc).Nodup) : ((putL most xs ys).map plc).Nodup := by
  unfold putL
  split
  · next h1 =>
    unfold putE at h1
    split at h1
    · cases h1
    · next h2 => simpa using h2
  · exact h
theorem putL_most {most : Int} {xs ys : List Spare} (h : xs.length ≤ most) : (putL most xs ys).length ≤ most := by
  unfold putL
  split
  · next h1 =>
    unfold putE at h1
    split at h1
    · cases h1
    · split at h1
      · cases h1
      · simp; omega
  · exact h
theorem putL_le {most : Int} {xs ys : List Spare} {n : Nat} (h : most ≤ n) (h2 : xs.length ≤ most) : (putL most xs ys).length ≤ n := by
  have := putL_most (ys := ys) h2; omega

set_option maxRecDepth 20000 in
set_option maxHeartbeats 4000000 in
theorem Puts_ct (most : Int) (s t : Vs) (xs ys : List Spare) (hs : s.ok xs) (ht : t.ok ys) (hxs : xs.length ≤ 2199023255552) (hys : ys.length ≤ 2199023255552) : Ct Try.prog 3 [.int .i64 most, s.v xs.length, t.v ys.length] [] [s.seg xs, t.seg ys] (fun v w r => v = .bool true ∧ w = [] ∧ r = []) := by
  refine ct_enter Try.func3 rfl Try.ntmps3 (by kernel_rfl) rfl fun w0 => ?_
  refine c_seq ?_
  refine c_reg ?_
  refine asg (.bool _) rfl ?_
  refine jt ?_
  refine c_seq ?_
  refine c_seq ?_
  refine c_reg ?_
  refine cal lives_ct [] [] [] rfl rfl rfl (by kernel_rfl) impl_nil rfl ?_; rintro _ _ _ ⟨rfl, rfl, rfl⟩; refine ⟨trivial, ?_⟩
  refine not_ rfl ?_
  refine jt ?_
  refine c_false rfl ?_
  refine c_skip ?_
  refine e_then ?_
  refine c_seq ?_
  refine c_reg ?_
  refine mv (.int _ _) rfl ?_
  refine mv (.slice _ _ _) rfl ?_
  refine cal (From_ct most s xs hs (by omega)) [] [] [] rfl rfl rfl (by kernel_rfl) (impl_cons (impl_at 0 rfl) impl_nil) rfl ?_; rintro _ _ _ (⟨hF17, bs17, m17, o17, ho17, rfl, rfl, rfl⟩ | ⟨hF17, rfl, rfl, rfl⟩)
  · have hf17 := from_facts hF17; refine ⟨trivial, ?_⟩
    refine mv (.tuple _) rfl ?_
    refine xtr (.pointer _) rfl rfl ?_
    refine xtr (.int _ _) rfl rfl ?_
    refine asg (.pointer _) rfl ?_
    refine asg (.int _ _) rfl ?_
    refine jt ?_
    refine c_seq ?_
    refine c_seq ?_
    refine c_reg ?_
    refine mv (.int _ _) rfl ?_
    refine cmp false rfl rfl rfl ?_
    refine jt ?_
    refine c_false rfl ?_
    refine c_skip ?_
    refine e_then ?_
    refine c_seq ?_
    refine c_reg ?_
    refine asg (.bool _) rfl ?_
    refine jt ?_
    refine c_seq ?_
    refine c_seq ?_
    refine c_reg ?_
    refine asg (.int _ _) rfl ?_
    refine jt ?_
    refine c_block ?_
    refine c_loop (σ := Nat) (fun k => k ≤ ys.length) (fun k => ys.length - k) (fun k => [(10, .int .i64 (k : Int)), (9, .bool (tw xs ys k))]) (fun k => [[(bs17, .cells (cat [p1 (.int .i64 most), p1 (.map (some m17)), p1 (.slice o17.adr (List.map plc xs).length o17.cap)]) 76)], [(m17, .pred (isMap (List.map skv xs)))], o17.seg (List.map plc xs) 72]) (fun k => [s.seg xs, t.seg ys]) [9, 10, 24, 25, 26, 27, 28, 29, 30, 31, 32, 33, 34, 35, 36, 37, 38, 39, 40, 41, 42, 43, 44, 45, 46, 47, 48] 0 (by omega) ⟨rfl, by simp only [tw_zero hf17.2.1]; rfl, trivial⟩ rfl rfl ?_
    rintro k g1 hI1
    try dsimp only at hI1 ⊢
    refine c_seq ?_
    refine c_seq ?_
    refine c_reg ?_
    refine mv (.int _ _) rfl ?_
    refine mv (.slice _ _ _) rfl ?_
    refine lenS rfl Try.underlying22 ?_
    refine cmp _ rfl rfl rfl ?_
    refine jt ?_
    refine c_cond rfl (fun h1 => ?_) (fun h1 => ?_)
    · replace h1 := of_decide_eq_true h1
      refine c_skip ?_
      refine e_then ?_
      refine c_seq ?_
      refine c_block ?_
      refine c_dr [_, _, _, _, _] [] [(0, 0), (1, 0), (2, 0), (3, 0), (4, 0), (5, 0), (6, 0), (7, 1), (8, 0), (9, 0), (10, 0), (11, 0), (12, 0), (13, 0), (14, 0), (15, 0), (16, 0), (17, 1), (18, 0), (19, 0)] follows (by kernel_rfl) calm_body (keepS [0, 1, 2, 3, 4] rfl) ?_
      refine mv (.bool _) rfl ?_
      refine mv (.bool _) rfl ?_
      refine jsplit 31 rfl (fun h2 => ?_) (fun h2 => ?_)
      · refine g_off rfl rfl rfl rfl ?_
        refine g_off rfl rfl rfl rfl ?_
        refine g_off rfl rfl rfl rfl ?_
        refine g_off rfl rfl rfl rfl ?_
        refine g_off rfl rfl rfl rfl ?_
        refine g_off rfl rfl rfl rfl ?_
        refine pkt (.bool _) rfl rfl ?_
        refine mv (.bool _) rfl ?_
        refine g_off rfl rfl rfl rfl ?_
        refine g_off rfl rfl rfl rfl ?_
        refine g_off rfl rfl rfl rfl ?_
        refine g_off rfl rfl rfl rfl ?_
        refine g_off rfl rfl rfl rfl ?_
        refine g_off rfl rfl rfl rfl ?_
        refine g_off rfl rfl rfl rfl ?_
        refine g_off rfl rfl rfl rfl ?_
        refine pkt (.bool _) rfl rfl ?_
        refine asg (.bool _) rfl ?_
        refine jn ?_
        refine e_in ?_
        refine e_then ?_
        refine c_reg ?_
        refine mv (.int _ _) rfl ?_
        refine addi rfl rfl rfl (by omega) ?_
        refine asg (.int _ _) rfl ?_
        refine jn ?_
        exact e_loop (k + 1) (by omega) (by (try dsimp only); omega) (⟨rfl, congrArg Value.bool (by rw [tw_next (show k < ys.length by omega)]; simp [*]), trivial⟩) rfl rfl rfl
      · refine g_on rfl rfl rfl ?_
        refine mv (.slice _ _ _) rfl ?_
        refine g_on rfl rfl rfl ?_
        refine mv (.slice _ _ _) rfl ?_
        refine g_on rfl rfl rfl ?_
        refine mv (.int _ _) rfl ?_
        refine g_on rfl rfl rfl ?_
        refine ixs t ys k ht rfl rfl rfl Try.underlying22 ty33.sz rfl (by first | omega | (simp; done) | (simp; omega) | (simp at *; omega)) ?_
        refine g_on rfl rfl rfl ?_
        refine ldvs 4 _ ht rfl rfl rfl rfl (by first | omega | (simp; done) | (simp; omega) | (simp at *; omega)) ty33 ?_
        refine g_on rfl rfl rfl ?_
        refine cal (has_ct s xs hs (by omega) (ys[k])) [] [0, 1, 2] [_, _, _] rfl rfl rfl (by kernel_rfl) (impl_cons (impl_at 0 rfl) impl_nil) rfl ?_; rintro _ _ _ ⟨rfl, rfl, rfl⟩; refine ⟨keepI [0, 1, 2, 3, 4] rfl, ?_⟩
        refine pkf (.bool _) rfl rfl ?_
        refine mv (.bool _) rfl ?_
        refine jsplit 39 rfl (fun h3 => ?_) (fun h3 => ?_)
        · refine g_off rfl rfl rfl rfl ?_
          refine g_off rfl rfl rfl rfl ?_
          refine g_off rfl rfl rfl rfl ?_
          refine g_off rfl rfl rfl rfl ?_
          refine g_off rfl rfl rfl rfl ?_
          refine g_off rfl rfl rfl rfl ?_
          refine g_off rfl rfl rfl rfl ?_
          refine g_off rfl rfl rfl rfl ?_
          refine pkt (.bool _) rfl rfl ?_
          refine asg (.bool _) rfl ?_
          refine jn ?_
          refine e_in ?_
          refine e_then ?_
          refine c_reg ?_
          refine mv (.int _ _) rfl ?_
          refine addi rfl rfl rfl (by omega) ?_
          refine asg (.int _ _) rfl ?_
          refine jn ?_
          exact e_loop (k + 1) (by omega) (by (try dsimp only); omega) (⟨rfl, congrArg Value.bool (by rw [tw_next (show k < ys.length by omega)]; simp [*]), trivial⟩) rfl rfl rfl
        · refine g_on rfl rfl rfl ?_
          refine mv (.slice _ _ _) rfl ?_
          refine g_on rfl rfl rfl ?_
          refine mv (.int _ _) rfl ?_
          refine g_on rfl rfl rfl ?_
          refine sli t 0 k rfl Try.underlying22 ty33.sz rfl (⟨_, rfl⟩) (by have := ht.le; omega) (by have := ht.le; omega) (by have := ht.le; omega) ?_
          refine g_on rfl rfl rfl ?_
          refine mv (.slice _ _ _) rfl ?_
          refine g_on rfl rfl rfl ?_
          refine mv (.int _ _) rfl ?_
          refine g_on rfl rfl rfl ?_
          refine ixs t ys k ht rfl rfl rfl Try.underlying22 ty33.sz rfl (by first | omega | (simp; done) | (simp; omega) | (simp at *; omega)) ?_
          refine g_on rfl rfl rfl ?_
          refine ldvs 4 _ ht rfl rfl rfl rfl (by first | omega | (simp; done) | (simp; omega) | (simp at *; omega)) ty33 ?_
          refine g_on rfl rfl rfl ?_
          refine cal (has_ct (Vs.sub t 0 65) ((List.drop 0 ys).take k) (Vs.sub_ok ht 0 k 65 (by omega)) (by simp; omega) (ys[k])) [] [0, 1, 2] [_, _, _] rfl (hx_cons rfl (hx_len (by simp; omega)) (hx_cons rfl rfl rfl)) rfl (by kernel_rfl) (impl_cons (Vs.sub_impl ht 0 k (by omega) 1 rfl) impl_nil) rfl ?_; rintro _ _ _ ⟨rfl, rfl, rfl⟩; refine ⟨keepI [0, 1, 2, 3, 4] rfl, ?_⟩
          refine pkf (.bool _) rfl rfl ?_
          refine asg (.bool _) rfl ?_
          refine jn ?_
          refine e_in ?_
          refine e_then ?_
          refine c_reg ?_
          refine mv (.int _ _) rfl ?_
          refine addi rfl rfl rfl (by omega) ?_
          refine asg (.int _ _) rfl ?_
          refine jn ?_
          exact e_loop (k + 1) (by omega) (by (try dsimp only); omega) (⟨rfl, congrArg Value.bool (by rw [tw_next (show k < ys.length by omega)]; simp [*]), trivial⟩) rfl rfl rfl
    · replace h1 := of_decide_eq_false h1
      refine c_exit rfl ?_
      refine e_then ?_
      refine c_seq ?_
      refine c_reg ?_
      refine mv (.pointer _) rfl ?_
      refine mv (.slice _ _ _) rfl ?_
      refine cal (Put_is bs17 m17 o17 most xs ho17 (by omega) (by omega) hf17.2.1 t ys ht (by omega) (z := putE most xs ys) (l2 := (putL most xs ys)) rfl rfl) [0, 1, 2] [] [] rfl rfl rfl (by kernel_rfl) (impl_cons (impl_at 1 rfl) impl_nil) rfl ?_; rintro _ _ _ ⟨o51, ho51, rfl, rfl, rfl⟩; refine ⟨trivial, ?_⟩
      refine asg (.int _ _) rfl ?_
      refine jt ?_
      refine c_seq ?_
      refine c_block ?_
      refine c_seq ?_
      refine c_reg ?_
      refine mv (.bool _) rfl ?_
      refine asg (.bool _) rfl ?_
      refine jt ?_
      refine c_cond rfl (fun h4 => ?_) (fun h4 => ?_)
      · refine c_seq ?_
        refine c_reg ?_
        refine mv (.int _ _) rfl ?_
        refine cmp _ rfl rfl rfl ?_
        refine mv (.bool _) rfl ?_
        refine jsplit 56 rfl (fun h5 => ?_) (fun h5 => ?_)
        · replace h5 := of_decide_eq_true h5
          refine g_on rfl rfl rfl ?_
          refine mv (.pointer _) rfl ?_
          refine g_on rfl rfl rfl ?_
          refine cal (List_ct bs17 m17 o51 most (putL most xs ys) ho51 (putL_le (by omega) hf17.2.2) (putL_nd hf17.2.1)) [] [0, 1, 2] [_, _, _] rfl rfl rfl (by kernel_rfl) (impl_cons (impl_at 2 rfl) (impl_cons (impl_at 3 rfl) (impl_cons (impl_at 4 rfl) impl_nil))) rfl ?_; rintro _ _ _ ⟨o58, ho58, rfl, rfl, rfl⟩; refine ⟨trivial, ?_⟩
          refine g_on rfl rfl rfl ?_
          refine mv (.slice _ _ _) rfl ?_
          refine g_on rfl rfl rfl ?_
          refine cal (sameSpares_ct ((o58).vs) s (putL most xs ys) xs (Ow.vs_ok ho58) hs (by have := putL_le (ys := ys) (n := 2000) (by omega) hf17.2.2; omega)) [] [0, 1, 2, 3] [_, _, _, _] rfl rfl rfl (by kernel_rfl) (impl_cons (ow_impl 5 rfl) (impl_cons (impl_at 0 rfl) impl_nil)) rfl ?_; rintro _ _ _ ⟨rfl, rfl, rfl⟩; refine ⟨trivial, ?_⟩
          refine pkt (.bool _) rfl rfl ?_
          refine asg (.bool _) rfl ?_
          refine jt ?_
          refine c_ret ?_
          exact j_end (own0 := []) (ro0 := [s.seg xs, t.seg ys]) (.inl rfl) rfl (hr1 Try.results3 (rvt (v := (.bool _)) rfl)) [] [0, 1, 2, 3] [] [_, _, _, _] [] _ rfl rfl (by kernel_rfl) rfl impl_nil (⟨by rw [decide_eq_true (put_lx h5 (by decide))], rfl, rfl⟩)
        · replace h5 := of_decide_eq_false h5
          refine g_off rfl rfl rfl rfl ?_
          refine g_off rfl rfl rfl rfl ?_
          refine g_off rfl rfl rfl rfl ?_
          refine g_off rfl rfl rfl rfl ?_
          refine pkf (.bool _) rfl rfl ?_
          refine asg (.bool _) rfl ?_
          refine jt ?_
          refine c_ret ?_
          exact j_end (own0 := []) (ro0 := [s.seg xs, t.seg ys]) (.inl rfl) rfl (hr1 Try.results3 (rvt (v := (.bool _)) rfl)) [] [0, 1, 2] [] [_, _, _] [] _ rfl rfl (by kernel_rfl) rfl impl_nil (absurd (law_tw (show ys.length ≤ k by omega) h4) h5)
      · refine c_seq ?_
        refine c_reg ?_
        refine mv (.slice _ _ _) rfl ?_
        refine lenS rfl Try.underlying22 ?_
        refine mv (.slice _ _ _) rfl ?_
        refine lenS rfl Try.underlying22 ?_
        refine addi rfl rfl rfl (by omega) ?_
        refine mv (.int _ _) rfl ?_
        refine cmp _ rfl rfl rfl ?_
        refine asg (.bool _) rfl ?_
        refine jt ?_
        refine c_cond rfl (fun h6 => ?_) (fun h6 => ?_)
        · replace h6 := of_decide_eq_true h6
          refine c_seq ?_
          refine c_reg ?_
          refine mv (.int _ _) rfl ?_
          refine cmp _ rfl rfl rfl ?_
          refine mv (.bool _) rfl ?_
          refine jsplit 72 rfl (fun h7 => ?_) (fun h7 => ?_)
          · replace h7 := of_decide_eq_true h7
            refine g_on rfl rfl rfl ?_
            refine mv (.pointer _) rfl ?_
            refine g_on rfl rfl rfl ?_
            refine cal (List_ct bs17 m17 o51 most (putL most xs ys) ho51 (putL_le (by omega) hf17.2.2) (putL_nd hf17.2.1)) [] [0, 1, 2] [_, _, _] rfl rfl rfl (by kernel_rfl) (impl_cons (impl_at 2 rfl) (impl_cons (impl_at 3 rfl) (impl_cons (impl_at 4 rfl) impl_nil))) rfl ?_; rintro _ _ _ ⟨o74, ho74, rfl, rfl, rfl⟩; refine ⟨trivial, ?_⟩
            refine g_on rfl rfl rfl ?_
            refine mv (.slice _ _ _) rfl ?_
            refine g_on rfl rfl rfl ?_
            refine cal (sameSpares_ct ((o74).vs) s (putL most xs ys) xs (Ow.vs_ok ho74) hs (by have := putL_le (ys := ys) (n := 2000) (by omega) hf17.2.2; omega)) [] [0, 1, 2, 3] [_, _, _, _] rfl rfl rfl (by kernel_rfl) (impl_cons (ow_impl 5 rfl) (impl_cons (impl_at 0 rfl) impl_nil)) rfl ?_; rintro _ _ _ ⟨rfl, rfl, rfl⟩; refine ⟨trivial, ?_⟩
            refine pkt (.bool _) rfl rfl ?_
            refine asg (.bool _) rfl ?_
            refine jt ?_
            refine c_ret ?_
            exact j_end (own0 := []) (ro0 := [s.seg xs, t.seg ys]) (.inl rfl) rfl (hr1 Try.results3 (rvt (v := (.bool _)) rfl)) [] [0, 1, 2, 3] [] [_, _, _, _] [] _ rfl rfl (by kernel_rfl) rfl impl_nil (⟨by rw [decide_eq_true (put_lx h7 (by decide))], rfl, rfl⟩)
          · replace h7 := of_decide_eq_false h7
            refine g_off rfl rfl rfl rfl ?_
            refine g_off rfl rfl rfl rfl ?_
            refine g_off rfl rfl rfl rfl ?_
            refine g_off rfl rfl rfl rfl ?_
            refine pkf (.bool _) rfl rfl ?_
            refine asg (.bool _) rfl ?_
            refine jt ?_
            refine c_ret ?_
            exact j_end (own0 := []) (ro0 := [s.seg xs, t.seg ys]) (.inl rfl) rfl (hr1 Try.results3 (rvt (v := (.bool _)) rfl)) [] [0, 1, 2] [] [_, _, _] [] _ rfl rfl (by kernel_rfl) rfl impl_nil (absurd (law_room (show ys.length ≤ k by omega) h4 (by omega)) h7)
        · replace h6 := of_decide_eq_false h6
          refine c_skip ?_
          refine e_in ?_
          refine e_then ?_
          refine c_seq ?_
          refine c_reg ?_
          refine mv (.int _ _) rfl ?_
          refine cmp _ rfl rfl rfl ?_
          refine mv (.bool _) rfl ?_
          refine jsplit 80 rfl (fun h8 => ?_) (fun h8 => ?_)
          · replace h8 := of_decide_eq_true h8
            refine g_on rfl rfl rfl ?_
            refine mv (.pointer _) rfl ?_
            refine g_on rfl rfl rfl ?_
            refine cal (List_ct bs17 m17 o51 most (putL most xs ys) ho51 (putL_le (by omega) hf17.2.2) (putL_nd hf17.2.1)) [] [0, 1, 2] [_, _, _] rfl rfl rfl (by kernel_rfl) (impl_cons (impl_at 2 rfl) (impl_cons (impl_at 3 rfl) (impl_cons (impl_at 4 rfl) impl_nil))) rfl ?_; rintro _ _ _ ⟨o82, ho82, rfl, rfl, rfl⟩; refine ⟨trivial, ?_⟩
            refine g_on rfl rfl rfl ?_
            refine bsl (α := Spare) ([]) Try.underlying22 ty33.sz rfl (by decide) z33 rfl fun b83 => ⟨trivial, ?_⟩
            refine g_on rfl rfl rfl ?_
            refine mv (.slice _ _ _) rfl ?_
            refine g_on rfl rfl rfl ?_
            refine app 4 (⟨false, b83, 0, []⟩) ([] : List Spare) xs (⟨by simp, fun _ => rfl, Nat.le_refl _⟩) rfl ⟨rfl, rfl, rfl⟩ rfl rfl (gives_vs 5 hs rfl) Try.underlying22 Try.underlying22 (.inl ⟨_, rfl⟩) ty33.sz by33 z33 rfl (by simp; omega) rfl fun o85_1 hk85_1 => ⟨trivial, ?_⟩
            refine g_on rfl rfl rfl ?_
            refine mv (.slice _ _ _) rfl ?_
            refine g_on rfl rfl rfl ?_
            refine app 4 o85_1 (([] : List Spare) ++ xs) ys hk85_1 rfl ⟨rfl, rfl, rfl⟩ rfl rfl (gives_vs 6 ht rfl) Try.underlying22 Try.underlying22 (.inl ⟨_, rfl⟩) ty33.sz by33 z33 rfl (by simp; omega) rfl fun o87_2 hk87_2 => ⟨trivial, ?_⟩
            refine g_on rfl rfl rfl ?_
            refine cal (sameSpares_ct ((o82).vs) ((o87_2).vs) (putL most xs ys) ((([] : List Spare) ++ xs) ++ ys) (Ow.vs_ok ho82) (Ow.vs_ok hk87_2) (by have := putL_le (ys := ys) (n := 2000) (by omega) hf17.2.2; omega)) [] [0, 1, 2, 3, 4] [_, _, _, _, _] rfl rfl rfl (by kernel_rfl) (impl_cons (ow_impl 5 rfl) (impl_cons (ow_impl 6 rfl) impl_nil)) rfl ?_; rintro _ _ _ ⟨rfl, rfl, rfl⟩; refine ⟨trivial, ?_⟩
            refine pkt (.bool _) rfl rfl ?_
            refine asg (.bool _) rfl ?_
            refine jt ?_
            refine c_ret ?_
            exact j_end (own0 := []) (ro0 := [s.seg xs, t.seg ys]) (.inl rfl) rfl (hr1 Try.results3 (rvt (v := (.bool _)) rfl)) [] [0, 1, 2, 3, 4] [] [_, _, _, _, _] [] _ rfl rfl (by kernel_rfl) rfl impl_nil (⟨by rw [decide_eq_true (show putL most xs ys = ([] ++ xs) ++ ys from if_pos h8)], rfl, rfl⟩)
          · replace h8 := of_decide_eq_false h8
            refine g_off rfl rfl rfl rfl ?_
            refine g_off rfl rfl rfl rfl ?_
            refine g_off rfl rfl rfl rfl ?_
            refine g_off rfl rfl rfl rfl ?_
            refine g_off rfl rfl rfl rfl ?_
            refine g_off rfl rfl rfl rfl ?_
            refine g_off rfl rfl rfl rfl ?_
            refine g_off rfl rfl rfl rfl ?_
            refine pkf (.bool _) rfl rfl ?_
            refine asg (.bool _) rfl ?_
            refine jt ?_
            refine c_ret ?_
            exact j_end (own0 := []) (ro0 := [s.seg xs, t.seg ys]) (.inl rfl) rfl (hr1 Try.results3 (rvt (v := (.bool _)) rfl)) [] [0, 1, 2] [] [_, _, _] [] _ rfl rfl (by kernel_rfl) rfl impl_nil (absurd (law_ok (show ys.length ≤ k by omega) h4 (by omega)) h8)
  · refine ⟨trivial, ?_⟩
    refine mv (.tuple _) rfl ?_
    refine xtr (.pointer _) rfl rfl ?_
    refine xtr (.int _ _) rfl rfl ?_
    refine asg (.pointer _) rfl ?_
    refine asg (.int _ _) rfl ?_
    refine jt ?_
    refine c_seq ?_
    refine c_seq ?_
    refine c_reg ?_
    refine mv (.int _ _) rfl ?_
    refine cmp true rfl rfl (by simp only [cmpV, decide_eq_false hF17]; simp) ?_
    refine jt ?_
    refine c_true rfl ?_
    refine c_seq ?_
    refine c_reg ?_
    refine mv (.pointer _) rfl ?_
    refine eqpn true rfl rfl Try.underlying24 rfl ?_
    refine asg (.bool _) rfl ?_
    refine jt ?_
    refine c_ret ?_
    exact j_end (own0 := []) (ro0 := [s.seg xs, t.seg ys]) (.inl rfl) rfl (hr1 Try.results3 (rvt (v := (.bool _)) rfl)) [] [] [] [] [] _ rfl rfl (by kernel_rfl) rfl impl_nil (⟨rfl, rfl, rfl⟩)
end Go.Proofs.Ytacfjmjcgolhfaa
