/- Contracts of the program's functions, walked. No condition. -/
import Derived.Test.YtacfjmjcgolhfaaA2
namespace Go.Proofs.Ytacfjmjcgolhfaa
open Go Go.Proofs Go.PW
open Go.PW.Enc (enc val)
theorem by72 : (Try.prog.info? 72).map (·.bytes) = some 36 := by kernel_rfl
def putE (most : Int) (l xs : List Spare) : Int := if ¬ ((l ++ xs).map plc).Nodup then 121 else if most < l.length + xs.length then 120 else 0
def putL (most : Int) (l xs : List Spare) : List Spare := if putE most l xs = 0 then l ++ xs else l
theorem put_lx {most : Int} {l xs : List Spare} {e : Int} (h : putE most l xs = e) (he : e ≠ 0) : putL most l xs = l := by unfold putL; rw [if_neg (by rw [h]; exact he)]
theorem nodup_take {α : Type} {l xs : List α} {k : Nat} (h : (l ++ xs).Nodup) : (l ++ xs.take k).Nodup := by
  have : (l ++ xs.take k).Sublist (l ++ xs) := List.Sublist.append_left (List.take_sublist k xs) l
  exact this.nodup h
theorem put_here {most : Int} {l xs : List Spare} {k : Nat} (hnd : (l.map plc).Nodup) (hk : k < xs.length) (h : (mget (plc xs[k]) (List.map skv l)).isSome = true) : putE most l xs = 121 := by
  have hm : plc xs[k] ∈ l.map plc := by
    rw [← skv_fst]
    apply Classical.byContradiction
    intro hn
    rw [mget_none.2 hn] at h; cases h
  unfold putE
  rw [if_pos]
  intro hnd2
  rw [List.map_append, List.nodup_append] at hnd2
  exact hnd2.2.2 _ hm _ (List.mem_map.2 ⟨_, List.getElem_mem hk, rfl⟩) rfl
theorem put_twice {most : Int} {l xs : List Spare} {k : Nat} (hk : k < xs.length) (h : (mget (plc xs[k]) (List.map skv (List.take k xs))).isSome = true) : putE most l xs = 121 := by
  have hm : plc xs[k] ∈ (xs.take k).map plc := by
    rw [← skv_fst]
    apply Classical.byContradiction
    intro hn
    rw [mget_none.2 hn] at h; cases h
  unfold putE
  rw [if_pos]
  intro hnd2
  have h2 : ((xs.take (k + 1)).map plc).Nodup := by
    have hs : ((xs.take (k + 1)).map plc).Sublist ((l ++ xs).map plc) := ((List.take_sublist _ _).trans (List.sublist_append_right l xs)).map _
    exact hs.nodup hnd2
  rw [List.take_succ_eq_append_getElem hk, List.map_append, List.nodup_append] at h2
  exact h2.2.2 _ hm _ (List.mem_singleton.2 rfl) rfl
theorem put_room {most : Int} {l xs : List Spare} {k : Nat} (hk : xs.length ≤ k) (h : ((l ++ List.take k xs).map plc).Nodup) (hr : most < l.length + xs.length) : putE most l xs = 120 := by
  rw [List.take_of_length_le hk] at h
  unfold putE
  rw [if_neg (by simpa using h), if_pos hr]
theorem put_ok {most : Int} {l xs : List Spare} {k : Nat} (hk : xs.length ≤ k) (h : ((l ++ List.take k xs).map plc).Nodup) (hr : ¬ most < l.length + xs.length) : putE most l xs = 0 ∧ putL most l xs = l ++ xs := by
  rw [List.take_of_length_le hk] at h
  have e : putE most l xs = 0 := by unfold putE; rw [if_neg (by simpa using h), if_neg hr]
  exact ⟨e, by unfold putL; rw [if_pos e]⟩
theorem put_next {l xs : List Spare} {k : Nat} (hk : k < xs.length) (h : ((l ++ List.take k xs).map plc).Nodup) (h2 : (mget (plc xs[k]) (List.map skv l)).isSome = false) (h3 : (mget (plc xs[k]) (List.map skv (List.take k xs))).isSome = false) : ((l ++ List.take (k + 1) xs).map plc).Nodup := by
  have a1 : plc xs[k] ∉ l.map plc := by rw [← skv_fst]; exact mget_none.1 (by simpa using h2)
  have a2 : plc xs[k] ∉ (xs.take k).map plc := by rw [← skv_fst]; exact mget_none.1 (by simpa using h3)
  rw [List.take_succ_eq_append_getElem hk, ← List.append_assoc, List.map_append, List.nodup_append]
  refine ⟨h, by simp, fun a ha b hb e => ?_⟩
  simp only [List.map_cons, List.map_nil, List.mem_singleton] at hb
  subst hb; subst e
  rw [List.map_append] at ha
  rcases List.mem_append.1 ha with h4 | h4
  · exact a1 h4
  · exact a2 h4
theorem put_hn {l xs : List Spare} {k : Nat} (hk : k < xs.length) (h : ((l ++ List.take (k + 1) xs).map plc).Nodup) : mget (plc xs[k]) (List.map skv (l ++ List.take k xs)) = none := by
  rw [mget_none, skv_fst]
  rw [List.take_succ_eq_append_getElem hk, ← List.append_assoc, List.map_append, List.nodup_append] at h
  exact fun hm => h.2.2 _ hm _ (List.mem_singleton.2 rfl) rfl
theorem nodup_le {l xs : List Spare} {k j : Nat} (hk : xs.length ≤ k) (h : ((l ++ List.take k xs).map plc).Nodup) : ((l ++ List.take j xs).map plc).Nodup := by
  rw [List.take_of_length_le hk, List.map_append] at h
  rw [List.map_append, List.map_take]; exact nodup_take h
theorem take_skv {xs : List Spare} {k : Nat} (hk : k < xs.length) : List.map skv (List.take (k + 1) xs) = List.map skv (List.take k xs) ++ [(plc xs[k], xs[k].message)] := by
  rw [List.take_succ_eq_append_getElem hk, List.map_append]; rfl
theorem take_app {l xs : List Spare} {k : Nat} (hk : k < xs.length) : l ++ List.take (k + 1) xs = (l ++ List.take k xs) ++ [xs[k]] := by
  rw [List.take_succ_eq_append_getElem hk, List.append_assoc]

set_option maxRecDepth 20000 in
set_option maxHeartbeats 4000000 in
theorem Put_ct (bs m : Nat) (o : Ow) (most : Int) (l : List Spare) (ho : o.ok (List.map plc l)) (hm : 0 ≤ most ∧ most ≤ 2000) (hl : l.length ≤ 2000) (hnd : (l.map plc).Nodup) (s : Vs) (xs : List Spare) (hs : s.ok xs) (hx : xs.length ≤ 9223372036854775806) : Ct Try.prog 12 [.pointer (some ⟨bs, 0, none⟩), s.v xs.length] [[(bs, .cells (cat [p1 (.int .i64 most), p1 (.map (some m)), p1 (.slice o.adr (List.map plc l).length o.cap)]) 76)], [(m, .pred (isMap (List.map skv l)))], o.seg (List.map plc l) 72] [s.seg xs] (fun v w r => ∃ o' : Ow, o'.ok (List.map plc (putL most l xs)) ∧ v = .int .i64 (putE most l xs) ∧ w = [[(bs, .cells (cat [p1 (.int .i64 most), p1 (.map (some m)), p1 (.slice o'.adr (List.map plc (putL most l xs)).length o'.cap)]) 76)], [(m, .pred (isMap (List.map skv (putL most l xs))))], o'.seg (List.map plc (putL most l xs)) 72] ∧ r = []) := by
  refine ct_enter Try.func12 rfl Try.ntmps12 (by kernel_rfl) rfl fun w0 => ?_
  refine c_seq ?_
  refine c_reg ?_
  refine asg (.int _ _) rfl ?_
  refine jt ?_
  refine c_seq ?_
  refine c_reg ?_
  refine mkm (α := SpP) (β := Key) fun m15 => ⟨trivial, ?_⟩
  refine asg (.map _) rfl ?_
  refine jt ?_
  refine c_seq ?_
  refine c_seq ?_
  refine c_reg ?_
  refine mv (.slice _ _ _) rfl ?_
  refine lenS rfl Try.underlying22 ?_
  refine mv (.int _ _) rfl ?_
  refine jt ?_
  refine c_block ?_
  refine c_loop (σ := Nat) (fun k => k ≤ xs.length ∧ ((l ++ List.take k xs).map plc).Nodup) (fun k => xs.length - k) (fun k => [(18, .int .i64 (k : Int))]) (fun k => [[(bs, .cells (cat [p1 (.int .i64 most), p1 (.map (some m)), p1 (.slice o.adr (List.map plc l).length o.cap)]) 76)], [(m, .pred (isMap (List.map skv l)))], o.seg (List.map plc l) 72, [(m15, .pred (isMap (List.map skv (List.take k xs))))]]) (fun k => [s.seg xs]) [4, 7, 8, 9, 10, 11, 12, 18, 19, 20, 21, 22, 23, 24, 25, 26, 27, 28, 29, 30, 31, 32, 33, 34, 35, 36, 37, 38, 39, 40, 41, 42, 43, 44, 45, 46, 47] 0 (⟨by omega, by simpa using hnd⟩) ⟨rfl, trivial⟩ rfl rfl ?_
  rintro k g1 hI1
  try dsimp only at hI1 ⊢
  refine c_seq ?_
  refine c_reg ?_
  refine cmp _ rfl rfl rfl ?_
  refine jt ?_
  refine c_seq ?_
  refine c_cond rfl (fun h1 => ?_) (fun h1 => ?_)
  · replace h1 := of_decide_eq_true h1
    refine c_skip ?_
    refine e_then ?_
    refine c_seq ?_
    refine c_block ?_
    refine c_seq ?_
    refine c_reg ?_
    refine ixs s xs k hs rfl rfl rfl Try.underlying22 ty33.sz rfl (by first | omega | (simp; done) | (simp; omega) | (simp at *; omega)) ?_
    refine ldvs 4 _ hs rfl rfl rfl rfl (by first | omega | (simp; done) | (simp; omega) | (simp at *; omega)) ty33 ?_
    refine alo [pt (zarr : Key), p1 (.int .u32 0), pt (zarr : Key)] _ z33 rfl fun b7 => ⟨trivial, ?_⟩
    refine stw 4 _ [pt (xs[k].header), pt (xs[k].n), pt (xs[k].message)] rfl rfl rfl rfl ty33 ⟨trivial, ?_⟩
    refine jt ?_
    refine c_seq ?_
    refine c_reg ?_
    refine ldw 4 _ rfl rfl ty33 ?_
    refine cal (placeOf_ct xs[k]) [] [0, 1, 2, 3, 4] [_, _, _, _, _] rfl rfl rfl (by kernel_rfl) impl_nil rfl ?_; rintro _ _ _ ⟨rfl, rfl, rfl⟩; refine ⟨trivial, ?_⟩
    refine alo [pt (zarr : Key), p1 (.int .u32 0)] _ z72 rfl fun b8 => ⟨trivial, ?_⟩
    refine stw 5 _ [pt ((plc xs[k]).header), pt ((plc xs[k]).n)] rfl rfl rfl rfl ty72 ⟨trivial, ?_⟩
    refine jt ?_
    refine c_seq ?_
    refine c_dr [_, _, _, _, _, _, _] [] [(0, 0), (1, 0), (2, 0), (3, 0), (4, 0), (5, 0), (6, 0), (7, 0), (8, 0), (9, 1), (10, 1), (11, 0)] follows (by kernel_rfl) calm_body (keepS [0, 1, 2, 3, 4, 5, 6] rfl) ?_
    refine mv (.pointer _) rfl ?_
    refine nlc rfl ?_
    refine fad rfl Try.underlying76 rfl ty70.sz ?_
    refine ldp 0 1 _ rfl rfl rfl rfl ty70 ?_
    refine ldw 5 _ rfl rfl ty72 ?_
    refine lk2 1 (List.map skv l) (⟨((plc xs[k]).header), ((plc xs[k]).n)⟩ : SpP) (zarr : Key) rfl rfl rfl Try.underlying70 key72 zv30 rfl ?_
    refine mv (.tuple _) rfl ?_
    refine xtr (.agg _) rfl rfl ?_
    refine xtr (.bool _) rfl rfl ?_
    refine alo [pt (zarr : Key)] _ z30 rfl fun b9 => ⟨keepI [0, 1, 2, 3, 4, 5, 7] rfl, ?_⟩
    refine stw 6 _ [pt ((mget (⟨((plc xs[k]).header), ((plc xs[k]).n)⟩ : SpP) (List.map skv l)).getD (zarr : Key))] rfl rfl rfl rfl ty30 ⟨keepI [0, 1, 2, 3, 4, 5, 7] rfl, ?_⟩
    refine asg (.bool _) rfl ?_
    refine jt ?_
    refine c_seq ?_
    refine c_seq ?_
    refine c_reg ?_
    refine mv (.map _) rfl ?_
    refine ldw 5 _ rfl rfl ty72 ?_
    refine lk2 3 (List.map skv (List.take k xs)) (⟨((plc xs[k]).header), ((plc xs[k]).n)⟩ : SpP) (zarr : Key) rfl rfl rfl Try.underlying70 key72 zv30 rfl ?_
    refine mv (.tuple _) rfl ?_
    refine xtr (.agg _) rfl rfl ?_
    refine xtr (.bool _) rfl rfl ?_
    refine alo [pt (zarr : Key)] _ z30 rfl fun b11 => ⟨trivial, ?_⟩
    refine stw 7 _ [pt ((mget (⟨((plc xs[k]).header), ((plc xs[k]).n)⟩ : SpP) (List.map skv (List.take k xs))).getD (zarr : Key))] rfl rfl rfl rfl ty30 ⟨trivial, ?_⟩
    refine asg (.bool _) rfl ?_
    refine jt ?_
    refine c_seq ?_
    refine c_reg ?_
    refine mv (.bool _) rfl ?_
    refine mv (.bool _) rfl ?_
    refine jsplit 40 rfl (fun h2 => ?_) (fun h2 => ?_)
    · refine g_off rfl rfl rfl rfl ?_
      refine pkt (.bool _) rfl rfl ?_
      refine jt ?_
      refine c_true rfl ?_
      refine c_seq ?_
      refine c_reg ?_
      refine asg (.int _ _) rfl ?_
      refine jt ?_
      refine c_ret ?_
      exact j_end (own0 := [[(bs, .cells (cat [p1 (.int .i64 most), p1 (.map (some m)), p1 (.slice o.adr (List.map plc l).length o.cap)]) 76)], [(m, .pred (isMap (List.map skv l)))], o.seg (List.map plc l) 72]) (ro0 := [s.seg xs]) (.inl rfl) rfl (hr1 Try.results12 (rvt (v := (.int _ _)) rfl)) [0, 1, 2] [3, 4, 5, 6, 7] [_, _, _] [_, _, _, _, _] [] _ rfl rfl (by kernel_rfl) rfl impl_nil (⟨o, by rw [show putL most l xs = l from put_lx (put_here hnd (by omega) h2) (by decide)]; exact ho, by rw [show putE most l xs = 121 from put_here hnd (by omega) h2], by rw [show putL most l xs = l from put_lx (put_here hnd (by omega) h2) (by decide)], rfl⟩)
    · refine g_on rfl rfl rfl ?_
      refine mv (.bool _) rfl ?_
      refine pkf (.bool _) rfl rfl ?_
      refine jt ?_
      refine c_cond rfl (fun h3 => ?_) (fun h3 => ?_)
      · refine c_seq ?_
        refine c_reg ?_
        refine asg (.int _ _) rfl ?_
        refine jt ?_
        refine c_ret ?_
        exact j_end (own0 := [[(bs, .cells (cat [p1 (.int .i64 most), p1 (.map (some m)), p1 (.slice o.adr (List.map plc l).length o.cap)]) 76)], [(m, .pred (isMap (List.map skv l)))], o.seg (List.map plc l) 72]) (ro0 := [s.seg xs]) (.inl rfl) rfl (hr1 Try.results12 (rvt (v := (.int _ _)) rfl)) [0, 1, 2] [3, 4, 5, 6, 7] [_, _, _] [_, _, _, _, _] [] _ rfl rfl (by kernel_rfl) rfl impl_nil (⟨o, by rw [show putL most l xs = l from put_lx (put_twice (by omega) h3) (by decide)]; exact ho, by rw [show putE most l xs = 121 from put_twice (by omega) h3], by rw [show putL most l xs = l from put_lx (put_twice (by omega) h3) (by decide)], rfl⟩)
      · refine c_skip ?_
        refine e_then ?_
        refine c_reg ?_
        refine mv (.map _) rfl ?_
        refine ldw 5 _ rfl rfl ty72 ?_
        refine fad rfl Try.underlying33 rfl ty30.sz ?_
        refine ldp 4 2 _ rfl rfl rfl rfl ty30 ?_
        refine mup 3 (List.map skv (List.take k xs)) (plc xs[k]) (xs[k].message) rfl rfl rfl rfl rfl Try.underlying70 key72 rfl (by simpa using h3) ⟨trivial, ?_⟩
        refine jn ?_
        refine e_in ?_
        refine e_then ?_
        refine c_reg ?_
        refine addi rfl rfl rfl (by omega) ?_
        refine mv (.int _ _) rfl ?_
        refine jn ?_
        refine e_keep [0, 1, 2, 3] [4, 5, 6, 7] [_, _, _, _] rfl (by kernel_rfl) ?_
        exact e_loop (k + 1) (⟨by omega, put_next (by omega) hI1.2 h2 h3⟩) (by (try dsimp only); omega) (⟨rfl, trivial⟩) rfl (by simp only [take_skv (show k < xs.length by omega)] <;> rfl) rfl
  · replace h1 := of_decide_eq_false h1
    refine c_exit rfl ?_
    refine e_then ?_
    refine c_seq ?_
    refine c_seq ?_
    refine c_reg ?_
    refine mv (.slice _ _ _) rfl ?_
    refine lenS rfl Try.underlying22 ?_
    refine mv (.pointer _) rfl ?_
    refine cal (Room_ct bs m o most l ho (by omega) (by omega)) [] [0, 1, 2, 3] [_, _, _, _] rfl rfl rfl (by kernel_rfl) (implI [1, 2, 3] rfl) rfl ?_; rintro _ _ _ ⟨rfl, rfl, rfl⟩; refine ⟨trivial, ?_⟩
    refine cmp _ rfl rfl rfl ?_
    refine jt ?_
    refine c_cond rfl (fun h4 => ?_) (fun h4 => ?_)
    · replace h4 := of_decide_eq_true h4
      refine c_seq ?_
      refine c_reg ?_
      refine asg (.int _ _) rfl ?_
      refine jt ?_
      refine c_ret ?_
      exact j_end (own0 := [[(bs, .cells (cat [p1 (.int .i64 most), p1 (.map (some m)), p1 (.slice o.adr (List.map plc l).length o.cap)]) 76)], [(m, .pred (isMap (List.map skv l)))], o.seg (List.map plc l) 72]) (ro0 := [s.seg xs]) (.inl rfl) rfl (hr1 Try.results12 (rvt (v := (.int _ _)) rfl)) [0, 1, 2] [3] [_, _, _] [_] [] _ rfl rfl (by kernel_rfl) rfl impl_nil (⟨o, by rw [show putL most l xs = l from put_lx (put_room (show xs.length ≤ k by omega) hI1.2 (by omega)) (by decide)]; exact ho, by rw [show putE most l xs = 120 from put_room (show xs.length ≤ k by omega) hI1.2 (by omega)], by rw [show putL most l xs = l from put_lx (put_room (show xs.length ≤ k by omega) hI1.2 (by omega)) (by decide)], rfl⟩)
    · replace h4 := of_decide_eq_false h4
      refine c_skip ?_
      refine e_then ?_
      refine c_seq ?_
      refine c_seq ?_
      refine c_reg ?_
      refine mv (.slice _ _ _) rfl ?_
      refine lenS rfl Try.underlying22 ?_
      refine mv (.int _ _) rfl ?_
      refine jt ?_
      refine c_block ?_
      refine c_loop (σ := Nat × Ow) (fun ⟨j, o2⟩ => j ≤ xs.length ∧ o2.ok (List.map plc (l ++ List.take j xs))) (fun ⟨j, o2⟩ => xs.length - j) (fun ⟨j, o2⟩ => [(55, .int .i64 (j : Int))]) (fun ⟨j, o2⟩ => [[(bs, .cells (cat [p1 (.int .i64 most), p1 (.map (some m)), p1 (.slice o2.adr (List.map plc (l ++ List.take j xs)).length o2.cap)]) 76)], [(m, .pred (isMap (List.map skv (l ++ List.take j xs))))], o2.seg (List.map plc (l ++ List.take j xs)) 72, [(m15, .pred (isMap (List.map skv (List.take k xs))))]]) (fun ⟨j, o2⟩ => [s.seg xs]) [14, 55, 56, 57, 58, 59, 60, 61, 62, 63, 64, 65, 66, 67, 68, 69, 70, 71, 72, 73, 74, 75, 76, 77, 78] (⟨0, o⟩) (⟨by omega, by simpa using ho⟩) ⟨rfl, trivial⟩ (by simp) rfl ?_
      rintro ⟨j, o2⟩ g2 hI2
      try dsimp only at hI2 ⊢
      refine c_seq ?_
      refine c_reg ?_
      refine cmp _ rfl rfl rfl ?_
      refine jt ?_
      refine c_seq ?_
      refine c_cond rfl (fun h5 => ?_) (fun h5 => ?_)
      · replace h5 := of_decide_eq_true h5
        refine c_skip ?_
        refine e_then ?_
        refine c_seq ?_
        refine c_block ?_
        refine c_seq ?_
        refine c_reg ?_
        refine ixs s xs j hs rfl rfl rfl Try.underlying22 ty33.sz rfl (by first | omega | (simp; done) | (simp; omega) | (simp at *; omega)) ?_
        refine ldvs 4 _ hs rfl rfl rfl rfl (by first | omega | (simp; done) | (simp; omega) | (simp at *; omega)) ty33 ?_
        refine alo [pt (zarr : Key), p1 (.int .u32 0), pt (zarr : Key)] _ z33 rfl fun b14 => ⟨trivial, ?_⟩
        refine stw 4 _ [pt (xs[j].header), pt (xs[j].n), pt (xs[j].message)] rfl rfl rfl rfl ty33 ⟨trivial, ?_⟩
        refine jt ?_
        refine c_seq ?_
        refine c_dr [_, _, _, _, _] [] [(0, 0), (1, 0), (2, 0), (3, 0), (4, 0), (6, 0), (7, 0), (5, 1), (8, 1)] follows (by kernel_rfl) calm_body (keepS [0, 2, 3, 4, 5] rfl) ?_
        refine mv (.pointer _) rfl ?_
        refine nlc rfl ?_
        refine fad rfl Try.underlying76 rfl ty70.sz ?_
        refine ldp 0 1 _ rfl rfl rfl rfl ty70 ?_
        refine ldw 3 _ rfl rfl ty33 ?_
        refine fad rfl Try.underlying33 rfl ty30.sz ?_
        refine ldp 3 2 _ rfl rfl rfl rfl ty30 ?_
        refine cal (placeOf_ct xs[j]) [] [0, 1, 2, 3, 4] [_, _, _, _, _] rfl rfl rfl (by kernel_rfl) impl_nil rfl ?_; rintro _ _ _ ⟨rfl, rfl, rfl⟩; refine ⟨keepI [0, 2, 3, 4, 5] rfl, ?_⟩
        refine mup 1 (List.map skv (l ++ List.take j xs)) (plc xs[j]) (xs[j].message) rfl rfl rfl rfl rfl Try.underlying70 key72 rfl (put_hn (by omega) (nodup_le (by omega) hI1.2)) ⟨keepI [0, 2, 3, 4, 5] rfl, ?_⟩
        refine jt ?_
        refine c_dr [_, _, _, _, _] [9, 10, 11] [(0, 0), (1, 0), (2, 0), (3, 0), (4, 0), (5, 0), (6, 1), (7, 1), (8, 1), (9, 2), (10, 2), (11, 2)] follows (by kernel_rfl) calm_body (keepS [0, 1, 3, 4, 5] rfl) ?_
        refine mv (.pointer _) rfl ?_
        refine mv (.pointer _) rfl ?_
        refine nlc rfl ?_
        refine fad rfl Try.underlying76 rfl ty74.sz ?_
        refine ldp 0 2 _ rfl rfl rfl rfl ty74 ?_
        refine ldw 3 _ rfl rfl ty33 ?_
        refine cal (placeOf_ct xs[j]) [] [0, 1, 2, 3, 4] [_, _, _, _, _] rfl rfl rfl (by kernel_rfl) impl_nil rfl ?_; rintro _ _ _ ⟨rfl, rfl, rfl⟩; refine ⟨keepI [0, 1, 3, 4, 5] rfl, ?_⟩
        refine bsl (α := SpP) ([(plc xs[j])]) Try.underlying74 ty72.sz rfl (by decide) z72 rfl fun b74 => ⟨keepI [0, 1, 3, 4, 6] rfl, ?_⟩
        refine app 2 o2 (List.map plc (l ++ List.take j xs)) ([(plc xs[j])] : List SpP) hI2.2 rfl ⟨rfl, rfl, rfl⟩ rfl rfl (gives_own (ys := ([(plc xs[j])] : List SpP)) (pre := []) (post := []) 5 rfl (by simp) rfl) Try.underlying74 Try.underlying74 (.inl ⟨_, rfl⟩) ty72.sz by72 z72 rfl (by simp; omega) rfl fun o75_1 hk75_1 => ⟨keepI [0, 1, 3, 4, 6] rfl, ?_⟩
        refine nlc rfl ?_
        refine fad rfl Try.underlying76 rfl ty74.sz ?_
        refine stp 0 2 _ (p1 (.slice _ _ _)) rfl rfl rfl rfl rfl rfl ty74 ⟨keepT rfl, ?_⟩
        refine jn ?_
        refine e_in ?_
        refine e_then ?_
        refine c_reg ?_
        refine addi rfl rfl rfl (by omega) ?_
        refine mv (.int _ _) rfl ?_
        refine jn ?_
        refine e_keep [0, 1, 2, 3] [4, 5] [_, _, _, _] rfl (by kernel_rfl) ?_
        exact e_loop (⟨j + 1, o75_1⟩ : Nat × Ow) (⟨by omega, by rw [take_app (show j < xs.length by omega), List.map_append]; exact hk75_1⟩) (by (try dsimp only); omega) (⟨rfl, trivial⟩) rfl (by simp only [take_app (show j < xs.length by omega), List.map_append, List.map_cons, List.map_nil] <;> rfl) rfl
      · replace h5 := of_decide_eq_false h5
        refine c_exit rfl ?_
        refine e_then ?_
        refine c_seq ?_
        refine c_reg ?_
        refine asg (.int _ _) rfl ?_
        refine jt ?_
        refine c_ret ?_
        exact j_end (own0 := [[(bs, .cells (cat [p1 (.int .i64 most), p1 (.map (some m)), p1 (.slice o.adr (List.map plc l).length o.cap)]) 76)], [(m, .pred (isMap (List.map skv l)))], o.seg (List.map plc l) 72]) (ro0 := [s.seg xs]) (.inl rfl) rfl (hr1 Try.results12 (rvt (v := (.int _ _)) rfl)) [0, 1, 2] [3] [_, _, _] [_] [] _ rfl rfl (by kernel_rfl) rfl impl_nil (by have e := put_ok (most := most) (show xs.length ≤ k by omega) hI1.2 (by omega); have e2 : List.take j xs = xs := List.take_of_length_le (by omega); rw [e2] at hI2; exact ⟨o2, by rw [e.2]; exact hI2.2, by rw [e.1], by rw [e.2, e2], rfl⟩)
end Go.Proofs.Ytacfjmjcgolhfaa
