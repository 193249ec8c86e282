/- Contracts of the program's functions, walked. No condition. -/
import Derived.Test.YtacfjmjcgolhfaaA8
namespace Go.Proofs.Ytacfjmjcgolhfaa
open Go Go.Proofs Go.PW
open Go.PW.Enc (enc val)

def takeL (h : Key) (n : UInt32) (l : List Spare) : List Spare := l.filter fun s => !decide (plc s = ⟨h, n⟩)
def fg (n : Int) (l : List Spare) : Nat := (min (max n 0) (l.length : Int)).toNat
theorem fg_eq (n : Int) (l : List Spare) : min (max n 0) ((List.map plc l).length : Int) = (fg n l : Nat) := by unfold fg; simp; omega
theorem fg_le (n : Int) (l : List Spare) : fg n l ≤ l.length := by unfold fg; omega
theorem fg_take (n : Int) (l : List Spare) : ((List.map plc l).drop (fg n l)).take ((List.map plc l).length - fg n l) = List.map plc (l.drop (fg n l)) := by
  rw [List.take_of_length_le (by simp), List.map_drop]
theorem del_plc {h : Key} {n : UInt32} {l : List Spare} : del ⟨h, n⟩ (List.map plc l) = List.map plc (takeL h n l) := by
  unfold del takeL; rw [List.filter_map]; rfl
theorem fnd_add {α β : Type} [DecidableEq α] (k : α) : ∀ (kv : List (α × β)) (i : Nat), fnd k kv (i + 1) = (fnd k kv i).map fun r => (r.1 + 1, r.2)
  | [], _ => rfl
  | p :: r, i => by
    simp only [fnd]
    split
    · rfl
    · exact fnd_add k r (i + 1)
theorem mdel_filter {α β : Type} [DecidableEq α] (k : α) : ∀ {kv : List (α × β)}, (kv.map (·.1)).Nodup → mdel k kv = kv.filter fun p => !decide (p.1 = k)
  | [], _ => rfl
  | p :: r, h => by
    simp only [List.map_cons, List.nodup_cons] at h
    have ih := mdel_filter k h.2
    by_cases e : k = p.1
    · subst e
      have h1 : r.filter (fun q => !decide (q.1 = p.1)) = r := by
        rw [List.filter_eq_self]
        intro q hq
        simp only [Bool.not_eq_true', decide_eq_false_iff_not]
        exact fun e => h.1 (e ▸ List.mem_map.2 ⟨q, hq, rfl⟩)
      simp [mdel, fnd, h1]
    · have h2 : ¬ p.1 = k := fun e2 => e e2.symm
      unfold mdel at ih ⊢
      simp only [fnd, if_neg e]
      rw [fnd_add]
      cases hf : fnd k r 0 with
      | none => rw [hf] at ih; simp [h2, ← ih]
      | some x => rw [hf] at ih; simp at ih; simp [h2, ← ih]
theorem mdel_skv {h : Key} {n : UInt32} {l : List Spare} (hnd : (l.map plc).Nodup) : mdel (⟨h, n⟩ : SpP) (List.map skv l) = List.map skv (takeL h n l) := by
  rw [mdel_filter _ (by rw [skv_fst]; exact hnd), List.filter_map]; rfl
theorem takeL_no {h : Key} {n : UInt32} {l : List Spare} (h1 : (mget (⟨h, n⟩ : SpP) (List.map skv l)).isSome = false) : takeL h n l = l := by
  have h2 := mget_none.1 (by simpa using h1 : mget (⟨h, n⟩ : SpP) (List.map skv l) = none)
  rw [skv_fst] at h2
  unfold takeL
  rw [List.filter_eq_self]
  intro s hs
  simp only [Bool.not_eq_true', decide_eq_false_iff_not]
  exact fun e => h2 (e ▸ List.mem_map.2 ⟨s, hs, rfl⟩)
theorem mdel_head {l : List Spare} {k : Nat} (hk : k < l.length) : mdel ((List.map plc l)[k]'(by simpa)) (List.map skv (l.drop k)) = List.map skv (l.drop (k + 1)) := by
  have e : List.map skv (l.drop k) = (plc l[k], l[k].message) :: List.map skv (l.drop (k + 1)) := by rw [List.drop_eq_getElem_cons hk]; rfl
  rw [e, List.getElem_map]
  unfold mdel
  simp only [fnd, if_true, List.eraseIdx_zero, List.tail_cons]

theorem Take_ct (bs m : Nat) (o : Ow) (most : Int) (l : List Spare) (ho : o.ok (List.map plc l)) (hl : l.length ≤ 2000) (hnd : (l.map plc).Nodup) (h : Key) (n : UInt32) : Ct Try.prog 17 [.pointer (some ⟨bs, 0, none⟩), val h, .int .u32 n.toNat] [[(bs, .cells (cat [p1 (.int .i64 most), p1 (.map (some m)), p1 (.slice o.adr (List.map plc l).length o.cap)]) 76)], [(m, .pred (isMap (List.map skv l)))], o.seg (List.map plc l) 72] [] (fun v w r => ∃ o' : Ow, o'.ok (List.map plc (takeL h n l)) ∧ v = .tuple #[val ((mget (⟨h, n⟩ : SpP) (List.map skv l)).getD zarr), .bool (mget (⟨h, n⟩ : SpP) (List.map skv l)).isSome] ∧ w = [[(bs, .cells (cat [p1 (.int .i64 most), p1 (.map (some m)), p1 (.slice o'.adr (List.map plc (takeL h n l)).length o'.cap)]) 76)], [(m, .pred (isMap (List.map skv (takeL h n l))))], o'.seg (List.map plc (takeL h n l)) 72] ∧ r = []) := by
  refine ct_enter Try.func17 rfl Try.ntmps17 (by kernel_rfl) rfl fun w0 => ?_
  refine c_seq ?_
  refine c_reg ?_
  refine bxx [pt h] _ rfl rfl fun b4 => ⟨trivial, ?_⟩
  refine alo [pt (zarr : Key)] _ z30 rfl fun b6 => ⟨trivial, ?_⟩
  refine asg (.bool _) rfl ?_
  refine jt ?_
  refine c_seq ?_
  refine c_reg ?_
  refine ldp 3 0 _ rfl rfl rfl rfl ty30 ?_
  refine mv (.int _ _) rfl ?_
  refine bld [pt (zarr : Key), p1 (.int .u32 0)] [(0, pt h), (1, pt n)] _ Try.underlying72 (lay72 _ Try.underlying72) z72 rfl rfl rfl ?_
  refine alo [pt (zarr : Key), p1 (.int .u32 0)] _ z72 rfl fun b8 => ⟨trivial, ?_⟩
  refine stw 5 _ [pt h, pt n] rfl rfl rfl rfl ty72 ⟨trivial, ?_⟩
  refine jt ?_
  refine c_seq ?_
  refine c_dr [_, _, _, _, _, _] [] [(0, 0), (1, 0), (2, 0), (3, 0), (4, 0), (5, 0), (6, 0), (7, 0), (8, 0), (9, 1), (10, 1), (11, 0)] follows (by kernel_rfl) calm_body (keepS [0, 1, 2, 3, 4, 5] rfl) ?_
  refine mv (.pointer _) rfl ?_
  refine nlc rfl ?_
  refine fad rfl Try.underlying76 rfl ty70.sz ?_
  refine ldp 0 1 _ rfl rfl rfl rfl ty70 ?_
  refine ldw 5 _ rfl rfl ty72 ?_
  refine lk2 1 (List.map skv l) (⟨h, n⟩ : SpP) (zarr : Key) rfl rfl rfl Try.underlying70 key72 zv30 rfl ?_
  refine mv (.tuple _) rfl ?_
  refine xtr (.agg _) rfl rfl ?_
  refine xtr (.bool _) rfl rfl ?_
  refine alo [pt (zarr : Key)] _ z30 rfl fun b9 => ⟨keepI [0, 1, 2, 3, 4, 5] rfl, ?_⟩
  refine stw 6 _ [pt ((mget (⟨h, n⟩ : SpP) (List.map skv l)).getD (zarr : Key))] rfl rfl rfl rfl ty30 ⟨keepI [0, 1, 2, 3, 4, 5] rfl, ?_⟩
  refine asg (.bool _) rfl ?_
  refine jt ?_
  refine c_seq ?_
  refine c_seq ?_
  refine c_reg ?_
  refine mv (.bool _) rfl ?_
  refine jt ?_
  refine c_cond rfl (fun h1 => ?_) (fun h1 => ?_)
  · refine c_seq ?_
    refine c_dr [_, _, _, _, _, _] [] [(0, 0), (1, 0), (2, 0), (3, 0), (4, 0), (5, 1)] follows (by kernel_rfl) calm_body (keepS [0, 2, 3, 4, 5, 6] rfl) ?_
    refine mv (.pointer _) rfl ?_
    refine nlc rfl ?_
    refine fad rfl Try.underlying76 rfl ty70.sz ?_
    refine ldp 0 1 _ rfl rfl rfl rfl ty70 ?_
    refine ldw 4 _ rfl rfl ty72 ?_
    refine mde 1 (List.map skv l) (⟨h, n⟩ : SpP) rfl rfl rfl rfl Try.underlying70 key72 rfl ⟨keepI [0, 2, 3, 4, 5, 6] rfl, ?_⟩
    refine jt ?_
    refine c_reg ?_
    refine mv (.pointer _) rfl ?_
    refine mv (.pointer _) rfl ?_
    refine nlc rfl ?_
    refine fad rfl Try.underlying76 rfl ty74.sz ?_
    refine ldp 0 2 _ rfl rfl rfl rfl ty74 ?_
    refine mkf [(.pointer _)] rfl rfl ?_
    refine cal (Delete_ct o (List.map plc l) ho (by simp; omega) b8 (⟨h, n⟩ : SpP)) [2] [0, 1, 3, 4, 5, 6] [_, _, _, _, _, _] rfl rfl rfl (by kernel_rfl) (impl_cons (impl_at 4 rfl) impl_nil) rfl ?_; rintro _ _ _ ⟨o35, ho35, rfl, rfl, rfl⟩; refine ⟨trivial, ?_⟩
    refine nlc rfl ?_
    refine fad rfl Try.underlying76 rfl ty74.sz ?_
    refine stp 0 2 _ (p1 (.slice o35.adr (del (⟨h, n⟩ : SpP) (List.map plc l)).length o35.cap)) rfl rfl rfl rfl rfl rfl ty74 ⟨trivial, ?_⟩
    refine jt ?_
    refine c_seq ?_
    refine c_reg ?_
    refine ldp 5 0 _ rfl rfl rfl rfl ty30 ?_
    refine mv (.bool _) rfl ?_
    refine stw 3 _ [pt ((mget (⟨h, n⟩ : SpP) (List.map skv l)).getD (zarr : Key))] rfl rfl rfl rfl ty30 ⟨trivial, ?_⟩
    refine asg (.bool _) rfl ?_
    refine jt ?_
    refine c_ret ?_
    exact j_end (own0 := [[(bs, .cells (cat [p1 (.int .i64 most), p1 (.map (some m)), p1 (.slice o.adr (List.map plc l).length o.cap)]) 76)], [(m, .pred (isMap (List.map skv l)))], o.seg (List.map plc l) 72]) (ro0 := []) (.inl rfl) rfl (hr2 Try.results17 (rvc (p := pt ((mget (⟨h, n⟩ : SpP) (List.map skv l)).getD (zarr : Key))) 3 rfl rfl rfl ty30) (rvt (v := (.bool _)) rfl)) [0, 1, 6] [2, 3, 4, 5] [_, _, _] [_, _, _, _] [] _ rfl rfl (by kernel_rfl) rfl impl_nil (⟨o35, by rw [← del_plc]; exact ho35, rfl, by rw [← del_plc, ← mdel_skv hnd]; rfl, rfl⟩)
  · refine c_skip ?_
    refine e_then ?_
    refine c_seq ?_
    refine c_reg ?_
    refine ldp 6 0 _ rfl rfl rfl rfl ty30 ?_
    refine mv (.bool _) rfl ?_
    refine stw 4 _ [pt ((mget (⟨h, n⟩ : SpP) (List.map skv l)).getD (zarr : Key))] rfl rfl rfl rfl ty30 ⟨trivial, ?_⟩
    refine asg (.bool _) rfl ?_
    refine jt ?_
    refine c_ret ?_
    exact j_end (own0 := [[(bs, .cells (cat [p1 (.int .i64 most), p1 (.map (some m)), p1 (.slice o.adr (List.map plc l).length o.cap)]) 76)], [(m, .pred (isMap (List.map skv l)))], o.seg (List.map plc l) 72]) (ro0 := []) (.inl rfl) rfl (hr2 Try.results17 (rvc (p := pt ((mget (⟨h, n⟩ : SpP) (List.map skv l)).getD (zarr : Key))) 4 rfl rfl rfl ty30) (rvt (v := (.bool _)) rfl)) [0, 1, 2] [3, 4, 5, 6] [_, _, _] [_, _, _, _] [] _ rfl rfl (by kernel_rfl) rfl impl_nil (have e := takeL_no h1; ⟨o, by rw [e]; exact ho, rfl, by rw [e], rfl⟩)

set_option maxRecDepth 20000 in
set_option maxHeartbeats 4000000 in
theorem Forget_ct (bs m : Nat) (o : Ow) (most : Int) (l : List Spare) (ho : o.ok (List.map plc l)) (hl : l.length ≤ 2000) (n : Int) : Ct Try.prog 21 [.pointer (some ⟨bs, 0, none⟩), .int .i64 n] [[(bs, .cells (cat [p1 (.int .i64 most), p1 (.map (some m)), p1 (.slice o.adr (List.map plc l).length o.cap)]) 76)], [(m, .pred (isMap (List.map skv l)))], o.seg (List.map plc l) 72] [] (fun v w r => ∃ o' : Ow, o'.ok (List.map plc (l.drop (fg n l))) ∧ v = .int .i64 (fg n l : Nat) ∧ w = [[(bs, .cells (cat [p1 (.int .i64 most), p1 (.map (some m)), p1 (.slice o'.adr (List.map plc (l.drop (fg n l))).length o'.cap)]) 76)], [(m, .pred (isMap (List.map skv (l.drop (fg n l)))))], o'.seg (List.map plc (l.drop (fg n l))) 72] ∧ r = []) := by
  have hfg := fg_eq n l
  have hfl := fg_le n l
  have hll : (List.map plc l).length = l.length := by simp
  refine ct_enter Try.func21 rfl Try.ntmps21 (by kernel_rfl) rfl fun w0 => ?_
  refine c_seq ?_
  refine c_reg ?_
  refine asg (.int _ _) rfl ?_
  refine jt ?_
  refine c_seq ?_
  refine c_reg ?_
  refine mv (.int _ _) rfl ?_
  refine mx2 rfl rfl ?_
  refine mv (.pointer _) rfl ?_
  refine nlc rfl ?_
  refine fad rfl Try.underlying76 rfl ty74.sz ?_
  refine ldp 0 2 _ rfl rfl rfl rfl ty74 ?_
  refine lenS rfl Try.underlying74 ?_
  refine mn2 rfl rfl ?_
  refine asg (.int _ _) rfl ?_
  refine jt ?_
  refine c_seq ?_
  refine c_seq ?_
  refine c_reg ?_
  refine mv (.pointer _) rfl ?_
  refine nlc rfl ?_
  refine fad rfl Try.underlying76 rfl ty74.sz ?_
  refine ldp 0 2 _ rfl rfl rfl rfl ty74 ?_
  refine mv (.int _ _) rfl ?_
  refine sli ((o).vs) 0 (fg n l) rfl Try.underlying74 ty72.sz rfl (⟨_, congrArg (Value.int .i64) hfg⟩) (by have := ho.le; have : o.vs.cap = o.cap := rfl; omega) (by have := ho.le; have : o.vs.cap = o.cap := rfl; omega) (by have := ho.le; have : o.vs.cap = o.cap := rfl; omega) ?_
  refine lenS rfl Try.underlying74 ?_
  refine mv (.int _ _) rfl ?_
  refine jt ?_
  refine c_block ?_
  refine c_loop (σ := Nat) (fun k => k ≤ fg n l) (fun k => fg n l - k) (fun k => [(22, .int .i64 (k : Int))]) (fun k => [[(bs, .cells (cat [p1 (.int .i64 most), p1 (.map (some m)), p1 (.slice o.adr (List.map plc l).length o.cap)]) 76)], [(m, .pred (isMap (List.map skv (l.drop k))))], o.seg (List.map plc l) 72]) (fun k => []) [6, 22, 23, 24, 25, 26, 27, 28, 29, 30, 31] 0 (by omega) ⟨rfl, trivial⟩ rfl rfl ?_
  rintro k g1 hI1
  try dsimp only at hI1 ⊢
  refine c_seq ?_
  refine c_reg ?_
  refine cmp _ rfl rfl rfl ?_
  refine jt ?_
  refine c_seq ?_
  refine c_cond rfl (fun h1 => ?_) (fun h1 => ?_)
  · replace h1 := of_decide_eq_true h1
    refine c_skip ?_
    refine e_then ?_
    refine c_seq ?_
    refine c_block ?_
    refine c_seq ?_
    refine c_reg ?_
    refine ixs (Vs.sub ((o).vs) 0 33) ((List.drop 0 (List.map plc l)).take (fg n l)) k (Vs.sub_ok (Ow.vs_ok ho) 0 (fg n l) 33 (by omega)) rfl (by simp; omega) rfl Try.underlying74 ty72.sz rfl (by simp; omega) ?_
    refine ldsubo 2 _ _ ho rfl rfl rfl rfl (by simp; omega) ty72 ?_
    refine alo [pt (zarr : Key), p1 (.int .u32 0)] _ z72 rfl fun b6 => ⟨trivial, ?_⟩
    refine stw 3 _ [pt ((List.map plc l)[0 + k].header), pt ((List.map plc l)[0 + k].n)] rfl rfl rfl rfl ty72 ⟨trivial, ?_⟩
    refine jt ?_
    refine c_dr [_, _, _] [] [(0, 0), (1, 0), (2, 0), (3, 0), (4, 0), (5, 1)] follows (by kernel_rfl) calm_body (keepS [0, 2, 3] rfl) ?_
    refine mv (.pointer _) rfl ?_
    refine nlc rfl ?_
    refine fad rfl Try.underlying76 rfl ty70.sz ?_
    refine ldp 0 1 _ rfl rfl rfl rfl ty70 ?_
    refine ldw 2 _ rfl rfl ty72 ?_
    refine mde 1 (List.map skv (l.drop k)) (⟨((List.map plc l)[0 + k].header), ((List.map plc l)[0 + k].n)⟩ : SpP) rfl rfl rfl rfl Try.underlying70 key72 rfl ⟨keepI [0, 2, 3] rfl, ?_⟩
    refine jn ?_
    refine e_in ?_
    refine e_then ?_
    refine c_reg ?_
    refine addi rfl rfl rfl (by omega) ?_
    refine mv (.int _ _) rfl ?_
    refine jn ?_
    refine e_keep [0, 1, 2] [3] [_, _, _] rfl (by kernel_rfl) ?_
    exact e_loop (k + 1) (by omega) (by (try dsimp only); omega) (⟨rfl, trivial⟩) rfl (by simp only [Nat.zero_add, mdel_head (show k < l.length by omega)] <;> rfl) rfl
  · replace h1 := of_decide_eq_false h1
    refine c_exit rfl ?_
    refine e_then ?_
    refine c_seq ?_
    refine c_reg ?_
    refine mv (.pointer _) rfl ?_
    refine mv (.pointer _) rfl ?_
    refine nlc rfl ?_
    refine fad rfl Try.underlying76 rfl ty74.sz ?_
    refine ldp 0 2 _ rfl rfl rfl rfl ty74 ?_
    refine mv (.int _ _) rfl ?_
    refine sli ((o).vs) (fg n l) ((List.map plc l).length) rfl Try.underlying74 ty72.sz (⟨_, congrArg (Value.int .i64) hfg⟩) rfl (by have := ho.le; have : o.vs.cap = o.cap := rfl; omega) (by have := ho.le; have : o.vs.cap = o.cap := rfl; omega) (by have := ho.le; have : o.vs.cap = o.cap := rfl; omega) ?_
    refine cal (SlClone_ct (Vs.sub ((o).vs) (fg n l) 33) ((List.drop (fg n l) (List.map plc l)).take ((List.map plc l).length - fg n l)) (Vs.sub_ok (Ow.vs_ok ho) (fg n l) ((List.map plc l).length - fg n l) 33 (by omega)) (by simp; omega)) [] [0, 1, 2] [_, _, _] rfl (hx_cons rfl (hx_len (by simp)) rfl) rfl (by kernel_rfl) (ow_sub ho (fg n l) ((List.map plc l).length - fg n l) (by omega) 2 rfl) rfl ?_; rintro _ _ _ ⟨o39, ho39, rfl, rfl, rfl⟩; refine ⟨trivial, ?_⟩
    refine nlc rfl ?_
    refine fad rfl Try.underlying76 rfl ty74.sz ?_
    refine stp 0 2 _ (p1 (.slice o39.adr ((List.drop (fg n l) (List.map plc l)).take ((List.map plc l).length - fg n l)).length o39.cap)) rfl rfl rfl rfl rfl rfl ty74 ⟨trivial, ?_⟩
    refine jt ?_
    refine c_seq ?_
    refine c_reg ?_
    refine mv (.int _ _) rfl ?_
    refine asg (.int _ _) rfl ?_
    refine jt ?_
    refine c_ret ?_
    exact j_end (own0 := [[(bs, .cells (cat [p1 (.int .i64 most), p1 (.map (some m)), p1 (.slice o.adr (List.map plc l).length o.cap)]) 76)], [(m, .pred (isMap (List.map skv l)))], o.seg (List.map plc l) 72]) (ro0 := []) (.inl rfl) rfl (hr1 Try.results21 (rvt (v := (.int _ _)) rfl)) [0, 1, 3] [2] [_, _, _] [_] [] _ rfl rfl (by kernel_rfl) rfl impl_nil (by have e1 := fg_take n l; rw [e1] at ho39; exact ⟨o39, ho39, congrArg (Value.int .i64) hfg, by rw [show k = fg n l by omega, e1]; rfl, rfl⟩)
end Go.Proofs.Ytacfjmjcgolhfaa
