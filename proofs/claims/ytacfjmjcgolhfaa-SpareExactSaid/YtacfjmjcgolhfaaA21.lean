/- Contracts of the program's functions, walked. No condition. -/
import Derived.Test.YtacfjmjcgolhfaaA20
namespace Go.Proofs.Ytacfjmjcgolhfaa
open Go Go.Proofs Go.PW
open Go.PW.Enc (enc val)

theorem takeL_at {h : Key} {n : UInt32} {l : List Spare} (hnd : (l.map plc).Nodup) (h0 : 0 ≤ plI ⟨h, n⟩ l) (hk : (plI ⟨h, n⟩ l).toNat < l.length) : takeL h n l = l.take (plI ⟨h, n⟩ l).toNat ++ l.drop ((plI ⟨h, n⟩ l).toNat + 1) := by
  obtain ⟨_, h1⟩ := plI_at h0
  generalize (plI ⟨h, n⟩ l).toNat = k at *
  have e : l = l.take k ++ (l[k] :: l.drop (k + 1)) := by rw [List.getElem_cons_drop, List.take_append_drop]
  have hnd2 := hnd
  rw [e, List.map_append, List.map_cons, List.nodup_append] at hnd2
  obtain ⟨_, g2, g3⟩ := hnd2
  have g4 := (List.nodup_cons.1 g2).1
  unfold takeL
  conv => lhs; rw [e]
  rw [List.filter_append, List.filter_cons_of_neg (by simp [h1])]
  congr 1
  · rw [List.filter_eq_self]
    intro s hs
    simp only [Bool.not_eq_true', decide_eq_false_iff_not]
    intro e2
    exact g3 (plc s) (List.mem_map.2 ⟨s, hs, rfl⟩) (plc l[k]) (by simp) (by rw [e2, h1])
  · rw [List.filter_eq_self]
    intro s hs
    simp only [Bool.not_eq_true', decide_eq_false_iff_not]
    intro e2
    exact g4 (List.mem_map.2 ⟨s, hs, by rw [e2, h1]⟩)

theorem RFind_ct (br : Nat) (o : Ow) (most : Int) (l : List Spare) (ho : o.ok l) (hl : l.length ≤ 2000) (hnd : (l.map plc).Nodup) (h : Key) (n : UInt32) : Ct Try.prog 48 [.pointer (some ⟨br, 0, none⟩), val h, .int .u32 n.toNat] [] [[(br, .cells (cat [p1 (.int .i64 most), p1 (.slice o.adr l.length o.cap)]) 87)], o.seg l 33] (fun v o r => v = .tuple #[val ((mget (⟨h, n⟩ : SpP) (List.map skv l)).getD zarr), .bool (mget (⟨h, n⟩ : SpP) (List.map skv l)).isSome] ∧ o = [] ∧ r = []) := by
  refine ct_enter Try.func48 rfl Try.ntmps48 (by kernel_rfl) rfl fun w0 => ?_
  refine c_seq ?_
  refine c_reg ?_
  refine bxx [pt h] _ rfl rfl fun b4 => ⟨trivial, ?_⟩
  refine alo [pt (zarr : Key)] _ z30 rfl fun b6 => ⟨trivial, ?_⟩
  refine asg (.bool _) rfl ?_
  refine jt ?_
  refine c_seq ?_
  refine c_dr [_, _, _, _] [] [(0, 0), (1, 0), (2, 0), (3, 0), (4, 0), (5, 0), (6, 1), (7, 0)] follows (by kernel_rfl) calm_body (keepS [0, 1, 2, 3] rfl) ?_
  refine mv (.pointer _) rfl ?_
  refine nlc rfl ?_
  refine fad rfl Try.underlying87 rfl ty22.sz ?_
  refine ldp 2 1 _ rfl rfl rfl rfl ty22 ?_
  refine ldp 0 0 _ rfl rfl rfl rfl ty30 ?_
  refine mv (.int _ _) rfl ?_
  refine cal (place_ct ((o).vs) l (Ow.vs_ok ho) (by first | omega | (simp; done) | (simp; omega) | (simp at *; omega)) h n) [] [0, 1] [_, _] rfl rfl rfl (by kernel_rfl) (impl_cons (ow_impl 1 rfl) impl_nil) rfl ?_; rintro _ _ _ ⟨rfl, rfl, rfl⟩; refine ⟨keepI [0, 1, 2, 3] rfl, ?_⟩
  refine asg (.int _ _) rfl ?_
  refine jt ?_
  refine c_seq ?_
  refine c_seq ?_
  refine c_reg ?_
  refine mv (.int _ _) rfl ?_
  refine cmp _ rfl rfl rfl ?_
  refine jt ?_
  refine c_cond rfl (fun h1 => ?_) (fun h1 => ?_)
  · replace h1 := of_decide_eq_true h1
    refine c_seq ?_
    refine c_reg ?_
    refine bldA (α := UInt8) ((zarr : Key).l) [] Try.underlying30 ty5.sz z30 rfl rfl rfl ?_
    refine stw 1 _ [pt (zarr : Key)] rfl rfl rfl rfl ty30 ⟨trivial, ?_⟩
    refine asg (.bool _) rfl ?_
    refine jt ?_
    refine c_ret ?_
    exact j_end (own0 := []) (ro0 := [[(br, .cells (cat [p1 (.int .i64 most), p1 (.slice o.adr l.length o.cap)]) 87)], o.seg l 33]) (.inl rfl) rfl (hr2 Try.results48 (rvc (p := pt (zarr : Key)) 1 rfl rfl rfl ty30) (rvt (v := (.bool _)) rfl)) [] [0, 1] [] [_, _] [] _ rfl rfl (by kernel_rfl) rfl impl_nil (by have e : mget (⟨h, n⟩ : SpP) (List.map skv l) = none := (by simpa using plI_none (show ¬ 0 ≤ plI ⟨h, n⟩ l by omega)); exact ⟨by rw [e]; rfl, rfl, rfl⟩)
  · replace h1 := of_decide_eq_false h1
    refine c_skip ?_
    refine e_then ?_
    refine c_seq ?_
    refine c_reg ?_
    refine mv (.pointer _) rfl ?_
    refine nlc rfl ?_
    refine fad rfl Try.underlying87 rfl ty22.sz ?_
    refine ldp 2 1 _ rfl rfl rfl rfl ty22 ?_
    refine mv (.int _ _) rfl ?_
    have hk := (plI_at (xs := l) (show 0 ≤ plI ⟨h, n⟩ l by omega)).1
    refine ixs ((o).vs) l (plI ⟨h, n⟩ l).toNat (Ow.vs_ok ho) rfl rfl rfl Try.underlying22 ty33.sz (by omega) hk ?_
    refine fad rfl Try.underlying33 rfl ty30.sz ?_
    refine ldsof 3 _ 2 ho rfl rfl rfl hk rfl rfl ty30 ?_
    refine stw 1 _ [pt (l[(plI ⟨h, n⟩ l).toNat].message)] rfl rfl rfl rfl ty30 ⟨trivial, ?_⟩
    refine asg (.bool _) rfl ?_
    refine jt ?_
    refine c_ret ?_
    exact j_end (own0 := []) (ro0 := [[(br, .cells (cat [p1 (.int .i64 most), p1 (.slice o.adr l.length o.cap)]) 87)], o.seg l 33]) (.inl rfl) rfl (hr2 Try.results48 (rvc (p := pt (l[(plI ⟨h, n⟩ l).toNat].message)) 1 rfl rfl rfl ty30) (rvt (v := (.bool _)) rfl)) [] [0, 1] [] [_, _] [] _ rfl rfl (by kernel_rfl) rfl impl_nil (⟨by rw [plI_get hnd (by omega) hk]; rfl, rfl, rfl⟩)

set_option maxRecDepth 20000 in
set_option maxHeartbeats 4000000 in
theorem RTake_ct (br : Nat) (o : Ow) (most : Int) (l : List Spare) (ho : o.ok l) (hl : l.length ≤ 2000) (hnd : (l.map plc).Nodup) (h : Key) (n : UInt32) : Ct Try.prog 49 [.pointer (some ⟨br, 0, none⟩), val h, .int .u32 n.toNat] [[(br, .cells (cat [p1 (.int .i64 most), p1 (.slice o.adr l.length o.cap)]) 87)], o.seg l 33] [] (fun v w r => ∃ o' : Ow, o'.ok (takeL h n l) ∧ v = .tuple #[val ((mget (⟨h, n⟩ : SpP) (List.map skv l)).getD zarr), .bool (mget (⟨h, n⟩ : SpP) (List.map skv l)).isSome] ∧ w = [[(br, .cells (cat [p1 (.int .i64 most), p1 (.slice o'.adr (takeL h n l).length o'.cap)]) 87)], o'.seg (takeL h n l) 33] ∧ r = []) := by
  refine ct_enter Try.func49 rfl Try.ntmps49 (by kernel_rfl) rfl fun w0 => ?_
  refine c_seq ?_
  refine c_reg ?_
  refine bxx [pt h] _ rfl rfl fun b4 => ⟨trivial, ?_⟩
  refine alo [pt (zarr : Key)] _ z30 rfl fun b6 => ⟨trivial, ?_⟩
  refine asg (.bool _) rfl ?_
  refine jt ?_
  refine c_seq ?_
  refine c_dr [_, _, _, _] [] [(0, 0), (1, 0), (2, 0), (3, 0), (4, 0), (5, 0), (6, 1), (7, 0)] follows (by kernel_rfl) calm_body (keepS [0, 1, 2, 3] rfl) ?_
  refine mv (.pointer _) rfl ?_
  refine nlc rfl ?_
  refine fad rfl Try.underlying87 rfl ty22.sz ?_
  refine ldp 0 1 _ rfl rfl rfl rfl ty22 ?_
  refine ldp 2 0 _ rfl rfl rfl rfl ty30 ?_
  refine mv (.int _ _) rfl ?_
  refine cal (place_ct ((o).vs) l (Ow.vs_ok ho) (by first | omega | (simp; done) | (simp; omega) | (simp at *; omega)) h n) [] [0, 1, 2, 3] [_, _, _, _] rfl rfl rfl (by kernel_rfl) (impl_cons (ow_impl 1 rfl) impl_nil) rfl ?_; rintro _ _ _ ⟨rfl, rfl, rfl⟩; refine ⟨keepI [0, 1, 2, 3] rfl, ?_⟩
  refine asg (.int _ _) rfl ?_
  refine jt ?_
  refine c_seq ?_
  refine c_seq ?_
  refine c_reg ?_
  refine mv (.int _ _) rfl ?_
  refine cmp _ rfl rfl rfl ?_
  refine jt ?_
  refine c_cond rfl (fun h1 => ?_) (fun h1 => ?_)
  · replace h1 := of_decide_eq_true h1
    refine c_seq ?_
    refine c_reg ?_
    refine bldA (α := UInt8) ((zarr : Key).l) [] Try.underlying30 ty5.sz z30 rfl rfl rfl ?_
    refine stw 3 _ [pt (zarr : Key)] rfl rfl rfl rfl ty30 ⟨trivial, ?_⟩
    refine asg (.bool _) rfl ?_
    refine jt ?_
    refine c_ret ?_
    exact j_end (own0 := [[(br, .cells (cat [p1 (.int .i64 most), p1 (.slice o.adr l.length o.cap)]) 87)], o.seg l 33]) (ro0 := []) (.inl rfl) rfl (hr2 Try.results49 (rvc (p := pt (zarr : Key)) 3 rfl rfl rfl ty30) (rvt (v := (.bool _)) rfl)) [0, 1] [2, 3] [_, _] [_, _] [] _ rfl rfl (by kernel_rfl) rfl impl_nil (by have e : mget (⟨h, n⟩ : SpP) (List.map skv l) = none := (by simpa using plI_none (show ¬ 0 ≤ plI ⟨h, n⟩ l by omega)); exact ⟨o, by rw [takeL_no (by simp [e])]; exact ho, by rw [e]; rfl, by rw [takeL_no (by simp [e])], rfl⟩)
  · replace h1 := of_decide_eq_false h1
    refine c_skip ?_
    refine e_then ?_
    refine c_seq ?_
    refine c_reg ?_
    refine mv (.pointer _) rfl ?_
    refine nlc rfl ?_
    refine fad rfl Try.underlying87 rfl ty22.sz ?_
    refine ldp 0 1 _ rfl rfl rfl rfl ty22 ?_
    refine mv (.int _ _) rfl ?_
    have hk := (plI_at (xs := l) (show 0 ≤ plI ⟨h, n⟩ l by omega)).1
    refine ixs ((o).vs) l (plI ⟨h, n⟩ l).toNat (Ow.vs_ok ho) rfl rfl rfl Try.underlying22 ty33.sz (by omega) hk ?_
    refine fad rfl Try.underlying33 rfl ty30.sz ?_
    refine ldsof 1 _ 2 ho rfl rfl rfl hk rfl rfl ty30 ?_
    refine alo [pt (zarr : Key)] _ z30 rfl fun b9 => ⟨trivial, ?_⟩
    refine stw 4 _ [pt (l[(plI ⟨h, n⟩ l).toNat].message)] rfl rfl rfl rfl ty30 ⟨trivial, ?_⟩
    refine jt ?_
    refine c_seq ?_
    refine c_dr [_, _, _, _, _] [17, 18, 19] [(0, 0), (2, 0), (3, 0), (4, 0), (5, 0), (6, 0), (7, 0), (9, 0), (10, 0), (11, 0), (12, 0), (13, 0), (14, 0), (15, 0), (1, 1), (8, 1), (16, 1), (17, 2), (18, 2), (19, 2)] follows (by kernel_rfl) calm_body (keepS [0, 1, 2, 3, 4] rfl) ?_
    refine mv (.pointer _) rfl ?_
    refine mv (.pointer _) rfl ?_
    refine nlc rfl ?_
    refine fad rfl Try.underlying87 rfl ty22.sz ?_
    refine ldp 0 1 _ rfl rfl rfl rfl ty22 ?_
    refine mv (.int _ _) rfl ?_
    refine sli ((o).vs) 0 ((plI ⟨h, n⟩ l).toNat) rfl Try.underlying22 ty33.sz rfl (⟨_, congrArg (Value.int .i64) (by omega)⟩) (by have := ho.le; have : o.vs.cap = o.cap := rfl; omega) (by have := ho.le; have : o.vs.cap = o.cap := rfl; omega) (by have := ho.le; have : o.vs.cap = o.cap := rfl; omega) ?_
    refine mv (.pointer _) rfl ?_
    refine nlc rfl ?_
    refine fad rfl Try.underlying87 rfl ty22.sz ?_
    refine ldp 0 1 _ rfl rfl rfl rfl ty22 ?_
    refine mv (.int _ _) rfl ?_
    refine addi rfl rfl rfl (by omega) ?_
    refine sli ((o).vs) ((plI ⟨h, n⟩ l).toNat + 1) l.length rfl Try.underlying22 ty33.sz (⟨_, congrArg (Value.int .i64) (by omega)⟩) rfl (by have := ho.le; have : o.vs.cap = o.cap := rfl; omega) (by have := ho.le; have : o.vs.cap = o.cap := rfl; omega) (by have := ho.le; have : o.vs.cap = o.cap := rfl; omega) ?_
    refine bsl (α := Spare) ([]) Try.underlying22 ty33.sz rfl (by decide) z33 rfl fun b29 => ⟨keepI [0, 1, 2, 3, 4] rfl, ?_⟩
    refine app 5 (⟨false, b29, 0, []⟩) ([] : List Spare) ((l.drop 0).take ((plI ⟨h, n⟩ l).toNat)) (⟨by simp, fun _ => rfl, Nat.le_refl _⟩) rfl ⟨rfl, rfl, rfl⟩ rfl rfl (gives_sub 1 0 ((plI ⟨h, n⟩ l).toNat) ho (by omega) rfl rfl (by first | rfl | omega | (simp; done))) Try.underlying22 Try.underlying22 (.inl ⟨_, rfl⟩) ty33.sz by33 z33 rfl (by simp; omega) rfl fun o36_1 hk36_1 => ⟨keepI [0, 1, 2, 3, 4] rfl, ?_⟩
    refine app 5 o36_1 (List.take (plI ⟨h, n⟩ l).toNat l) (l.drop ((plI ⟨h, n⟩ l).toNat + 1)) hk36_1 rfl ⟨rfl, rfl, rfl⟩ rfl rfl (gives_tail 1 ((plI ⟨h, n⟩ l).toNat + 1) ho (by omega) rfl rfl (by simp)) Try.underlying22 Try.underlying22 (.inl ⟨_, rfl⟩) ty33.sz by33 z33 rfl (by simp; omega) rfl fun o44_2 hk44_2 => ⟨keepI [0, 1, 2, 3, 4] rfl, ?_⟩
    refine nlc rfl ?_
    refine fad rfl Try.underlying87 rfl ty22.sz ?_
    refine stp 0 1 _ (p1 (.slice _ _ _)) rfl rfl rfl rfl rfl rfl ty22 ⟨keepT rfl, ?_⟩
    refine jt ?_
    refine c_seq ?_
    refine c_reg ?_
    refine ldp 4 0 _ rfl rfl rfl rfl ty30 ?_
    refine stw 3 _ [pt (l[(plI ⟨h, n⟩ l).toNat].message)] rfl rfl rfl rfl ty30 ⟨trivial, ?_⟩
    refine asg (.bool _) rfl ?_
    refine jt ?_
    refine c_ret ?_
    exact j_end (own0 := [[(br, .cells (cat [p1 (.int .i64 most), p1 (.slice o.adr l.length o.cap)]) 87)], o.seg l 33]) (ro0 := []) (.inl rfl) rfl (hr2 Try.results49 (rvc (p := pt (l[(plI ⟨h, n⟩ l).toNat].message)) 3 rfl rfl rfl ty30) (rvt (v := (.bool _)) rfl)) [0, 5] [1, 2, 3, 4] [_, _] [_, _, _, _] [] _ rfl rfl (by kernel_rfl) rfl impl_nil (by have e := takeL_at hnd (show 0 ≤ plI ⟨h, n⟩ l by omega) hk; exact ⟨o44_2, by rw [e]; exact hk44_2, by rw [plI_get hnd (by omega) hk]; rfl, by rw [e]; rfl, rfl⟩)

theorem RForget_ct (br : Nat) (o : Ow) (most : Int) (l : List Spare) (ho : o.ok l) (hl : l.length ≤ 2000) (n : Int) : Ct Try.prog 50 [.pointer (some ⟨br, 0, none⟩), .int .i64 n] [[(br, .cells (cat [p1 (.int .i64 most), p1 (.slice o.adr l.length o.cap)]) 87)], o.seg l 33] [] (fun v w r => ∃ o' : Ow, o'.ok (l.drop (fg n l)) ∧ v = .int .i64 (fg n l : Nat) ∧ w = [[(br, .cells (cat [p1 (.int .i64 most), p1 (.slice o'.adr (l.drop (fg n l)).length o'.cap)]) 87)], o'.seg (l.drop (fg n l)) 33] ∧ r = []) := by
  have hfl := fg_le n l
  refine ct_enter Try.func50 rfl Try.ntmps50 (by kernel_rfl) rfl fun w0 => ?_
  refine c_seq ?_
  refine c_reg ?_
  refine asg (.int _ _) rfl ?_
  refine jt ?_
  refine c_seq ?_
  refine c_seq ?_
  refine c_reg ?_
  refine mv (.int _ _) rfl ?_
  refine cmp _ rfl rfl rfl ?_
  refine jt ?_
  refine c_cond rfl (fun h1 => ?_) (fun h1 => ?_)
  · replace h1 := of_decide_eq_true h1
    refine c_reg ?_
    refine asg (.int _ _) rfl ?_
    refine jt ?_
    refine c_seq ?_
    refine c_seq ?_
    refine c_reg ?_
    refine mv (.int _ _) rfl ?_
    refine mv (.pointer _) rfl ?_
    refine nlc rfl ?_
    refine fad rfl Try.underlying87 rfl ty22.sz ?_
    refine ldp 0 1 _ rfl rfl rfl rfl ty22 ?_
    refine lenS rfl Try.underlying22 ?_
    refine cmp _ rfl rfl rfl ?_
    refine jt ?_
    refine c_cond rfl (fun h2 => ?_) (fun h2 => ?_)
    · replace h2 := of_decide_eq_true h2
      refine c_reg ?_
      refine mv (.pointer _) rfl ?_
      refine nlc rfl ?_
      refine fad rfl Try.underlying87 rfl ty22.sz ?_
      refine ldp 0 1 _ rfl rfl rfl rfl ty22 ?_
      refine lenS rfl Try.underlying22 ?_
      refine asg (.int _ _) rfl ?_
      refine jt ?_
      refine c_seq ?_
      refine c_reg ?_
      refine mv (.pointer _) rfl ?_
      refine bsl (α := Spare) ([]) Try.underlying22 ty33.sz rfl (by decide) z33 rfl fun b20 => ⟨trivial, ?_⟩
      refine mv (.pointer _) rfl ?_
      refine nlc rfl ?_
      refine fad rfl Try.underlying87 rfl ty22.sz ?_
      refine ldp 0 1 _ rfl rfl rfl rfl ty22 ?_
      refine mv (.int _ _) rfl ?_
      refine sli ((o).vs) (fg n l) l.length rfl Try.underlying22 ty33.sz (⟨_, congrArg (Value.int .i64) (by unfold fg; omega)⟩) rfl (by have := ho.le; have : o.vs.cap = o.cap := rfl; omega) (by have := ho.le; have : o.vs.cap = o.cap := rfl; omega) (by have := ho.le; have : o.vs.cap = o.cap := rfl; omega) ?_
      refine app 2 (⟨false, b20, 0, []⟩) ([] : List Spare) (l.drop (fg n l)) (⟨by simp, fun _ => rfl, Nat.le_refl _⟩) rfl ⟨rfl, rfl, rfl⟩ rfl rfl (gives_tail 1 (fg n l) ho (by omega) rfl rfl (by simp)) Try.underlying22 Try.underlying22 (.inl ⟨_, rfl⟩) ty33.sz by33 z33 rfl (by simp; omega) rfl fun o27_1 hk27_1 => ⟨trivial, ?_⟩
      refine nlc rfl ?_
      refine fad rfl Try.underlying87 rfl ty22.sz ?_
      refine stp 0 1 _ (p1 (.slice _ _ _)) rfl rfl rfl rfl rfl rfl ty22 ⟨trivial, ?_⟩
      refine jt ?_
      refine c_seq ?_
      refine c_reg ?_
      refine mv (.int _ _) rfl ?_
      refine asg (.int _ _) rfl ?_
      refine jt ?_
      refine c_ret ?_
      exact j_end (own0 := [[(br, .cells (cat [p1 (.int .i64 most), p1 (.slice o.adr l.length o.cap)]) 87)], o.seg l 33]) (ro0 := []) (.inl rfl) rfl (hr1 Try.results50 (rvt (v := (.int _ _)) rfl)) [0, 2] [1] [_, _] [_] [] _ rfl rfl (by kernel_rfl) rfl impl_nil (⟨o27_1, by simpa using hk27_1, congrArg (Value.int .i64) (by unfold fg; omega), by simp, rfl⟩)
    · replace h2 := of_decide_eq_false h2
      refine c_skip ?_
      refine e_then ?_
      refine c_seq ?_
      refine c_reg ?_
      refine mv (.pointer _) rfl ?_
      refine bsl (α := Spare) ([]) Try.underlying22 ty33.sz rfl (by decide) z33 rfl fun b20 => ⟨trivial, ?_⟩
      refine mv (.pointer _) rfl ?_
      refine nlc rfl ?_
      refine fad rfl Try.underlying87 rfl ty22.sz ?_
      refine ldp 0 1 _ rfl rfl rfl rfl ty22 ?_
      refine mv (.int _ _) rfl ?_
      refine sli ((o).vs) (fg n l) l.length rfl Try.underlying22 ty33.sz (⟨_, congrArg (Value.int .i64) (by unfold fg; omega)⟩) rfl (by have := ho.le; have : o.vs.cap = o.cap := rfl; omega) (by have := ho.le; have : o.vs.cap = o.cap := rfl; omega) (by have := ho.le; have : o.vs.cap = o.cap := rfl; omega) ?_
      refine app 2 (⟨false, b20, 0, []⟩) ([] : List Spare) (l.drop (fg n l)) (⟨by simp, fun _ => rfl, Nat.le_refl _⟩) rfl ⟨rfl, rfl, rfl⟩ rfl rfl (gives_tail 1 (fg n l) ho (by omega) rfl rfl (by simp)) Try.underlying22 Try.underlying22 (.inl ⟨_, rfl⟩) ty33.sz by33 z33 rfl (by simp; omega) rfl fun o27_2 hk27_2 => ⟨trivial, ?_⟩
      refine nlc rfl ?_
      refine fad rfl Try.underlying87 rfl ty22.sz ?_
      refine stp 0 1 _ (p1 (.slice _ _ _)) rfl rfl rfl rfl rfl rfl ty22 ⟨trivial, ?_⟩
      refine jt ?_
      refine c_seq ?_
      refine c_reg ?_
      refine mv (.int _ _) rfl ?_
      refine asg (.int _ _) rfl ?_
      refine jt ?_
      refine c_ret ?_
      exact j_end (own0 := [[(br, .cells (cat [p1 (.int .i64 most), p1 (.slice o.adr l.length o.cap)]) 87)], o.seg l 33]) (ro0 := []) (.inl rfl) rfl (hr1 Try.results50 (rvt (v := (.int _ _)) rfl)) [0, 2] [1] [_, _] [_] [] _ rfl rfl (by kernel_rfl) rfl impl_nil (⟨o27_2, by simpa using hk27_2, congrArg (Value.int .i64) (by unfold fg; omega), by simp, rfl⟩)
  · replace h1 := of_decide_eq_false h1
    refine c_skip ?_
    refine e_then ?_
    refine c_seq ?_
    refine c_seq ?_
    refine c_reg ?_
    refine mv (.int _ _) rfl ?_
    refine mv (.pointer _) rfl ?_
    refine nlc rfl ?_
    refine fad rfl Try.underlying87 rfl ty22.sz ?_
    refine ldp 0 1 _ rfl rfl rfl rfl ty22 ?_
    refine lenS rfl Try.underlying22 ?_
    refine cmp _ rfl rfl rfl ?_
    refine jt ?_
    refine c_cond rfl (fun h3 => ?_) (fun h3 => ?_)
    · replace h3 := of_decide_eq_true h3
      refine c_reg ?_
      refine mv (.pointer _) rfl ?_
      refine nlc rfl ?_
      refine fad rfl Try.underlying87 rfl ty22.sz ?_
      refine ldp 0 1 _ rfl rfl rfl rfl ty22 ?_
      refine lenS rfl Try.underlying22 ?_
      refine asg (.int _ _) rfl ?_
      refine jt ?_
      refine c_seq ?_
      refine c_reg ?_
      refine mv (.pointer _) rfl ?_
      refine bsl (α := Spare) ([]) Try.underlying22 ty33.sz rfl (by decide) z33 rfl fun b20 => ⟨trivial, ?_⟩
      refine mv (.pointer _) rfl ?_
      refine nlc rfl ?_
      refine fad rfl Try.underlying87 rfl ty22.sz ?_
      refine ldp 0 1 _ rfl rfl rfl rfl ty22 ?_
      refine mv (.int _ _) rfl ?_
      refine sli ((o).vs) (fg n l) l.length rfl Try.underlying22 ty33.sz (⟨_, congrArg (Value.int .i64) (by unfold fg; omega)⟩) rfl (by have := ho.le; have : o.vs.cap = o.cap := rfl; omega) (by have := ho.le; have : o.vs.cap = o.cap := rfl; omega) (by have := ho.le; have : o.vs.cap = o.cap := rfl; omega) ?_
      refine app 2 (⟨false, b20, 0, []⟩) ([] : List Spare) (l.drop (fg n l)) (⟨by simp, fun _ => rfl, Nat.le_refl _⟩) rfl ⟨rfl, rfl, rfl⟩ rfl rfl (gives_tail 1 (fg n l) ho (by omega) rfl rfl (by simp)) Try.underlying22 Try.underlying22 (.inl ⟨_, rfl⟩) ty33.sz by33 z33 rfl (by simp; omega) rfl fun o27_3 hk27_3 => ⟨trivial, ?_⟩
      refine nlc rfl ?_
      refine fad rfl Try.underlying87 rfl ty22.sz ?_
      refine stp 0 1 _ (p1 (.slice _ _ _)) rfl rfl rfl rfl rfl rfl ty22 ⟨trivial, ?_⟩
      refine jt ?_
      refine c_seq ?_
      refine c_reg ?_
      refine mv (.int _ _) rfl ?_
      refine asg (.int _ _) rfl ?_
      refine jt ?_
      refine c_ret ?_
      exact j_end (own0 := [[(br, .cells (cat [p1 (.int .i64 most), p1 (.slice o.adr l.length o.cap)]) 87)], o.seg l 33]) (ro0 := []) (.inl rfl) rfl (hr1 Try.results50 (rvt (v := (.int _ _)) rfl)) [0, 2] [1] [_, _] [_] [] _ rfl rfl (by kernel_rfl) rfl impl_nil (⟨o27_3, by simpa using hk27_3, congrArg (Value.int .i64) (by unfold fg; omega), by simp, rfl⟩)
    · replace h3 := of_decide_eq_false h3
      refine c_skip ?_
      refine e_then ?_
      refine c_seq ?_
      refine c_reg ?_
      refine mv (.pointer _) rfl ?_
      refine bsl (α := Spare) ([]) Try.underlying22 ty33.sz rfl (by decide) z33 rfl fun b20 => ⟨trivial, ?_⟩
      refine mv (.pointer _) rfl ?_
      refine nlc rfl ?_
      refine fad rfl Try.underlying87 rfl ty22.sz ?_
      refine ldp 0 1 _ rfl rfl rfl rfl ty22 ?_
      refine mv (.int _ _) rfl ?_
      refine sli ((o).vs) (fg n l) l.length rfl Try.underlying22 ty33.sz (⟨_, congrArg (Value.int .i64) (by unfold fg; omega)⟩) rfl (by have := ho.le; have : o.vs.cap = o.cap := rfl; omega) (by have := ho.le; have : o.vs.cap = o.cap := rfl; omega) (by have := ho.le; have : o.vs.cap = o.cap := rfl; omega) ?_
      refine app 2 (⟨false, b20, 0, []⟩) ([] : List Spare) (l.drop (fg n l)) (⟨by simp, fun _ => rfl, Nat.le_refl _⟩) rfl ⟨rfl, rfl, rfl⟩ rfl rfl (gives_tail 1 (fg n l) ho (by omega) rfl rfl (by simp)) Try.underlying22 Try.underlying22 (.inl ⟨_, rfl⟩) ty33.sz by33 z33 rfl (by simp; omega) rfl fun o27_4 hk27_4 => ⟨trivial, ?_⟩
      refine nlc rfl ?_
      refine fad rfl Try.underlying87 rfl ty22.sz ?_
      refine stp 0 1 _ (p1 (.slice _ _ _)) rfl rfl rfl rfl rfl rfl ty22 ⟨trivial, ?_⟩
      refine jt ?_
      refine c_seq ?_
      refine c_reg ?_
      refine mv (.int _ _) rfl ?_
      refine asg (.int _ _) rfl ?_
      refine jt ?_
      refine c_ret ?_
      exact j_end (own0 := [[(br, .cells (cat [p1 (.int .i64 most), p1 (.slice o.adr l.length o.cap)]) 87)], o.seg l 33]) (ro0 := []) (.inl rfl) rfl (hr1 Try.results50 (rvt (v := (.int _ _)) rfl)) [0, 2] [1] [_, _] [_] [] _ rfl rfl (by kernel_rfl) rfl impl_nil (⟨o27_4, by simpa using hk27_4, congrArg (Value.int .i64) (by unfold fg; omega), by simp, rfl⟩)

theorem RClone_ct (br : Nat) (o : Ow) (most : Int) (l : List Spare) (ho : o.ok l) (hl : l.length ≤ 2000) : Ct Try.prog 52 [.pointer (some ⟨br, 0, none⟩)] [] [[(br, .cells (cat [p1 (.int .i64 most), p1 (.slice o.adr l.length o.cap)]) 87)], o.seg l 33] (fun v w r => ∃ (br : Nat) (o' : Ow), o'.ok l ∧ v = .pointer (some ⟨br, 0, none⟩) ∧ w = [[(br, .cells (cat [p1 (.int .i64 most), p1 (.slice o'.adr l.length o'.cap)]) 87)], o'.seg l 33] ∧ r = []) := by
  refine ct_enter Try.func52 rfl Try.ntmps52 (by kernel_rfl) rfl fun w0 => ?_
  refine c_seq ?_
  refine c_reg ?_
  refine asg (.pointer _) rfl ?_
  refine jt ?_
  refine c_seq ?_
  refine c_dr [_, _] [] [(0, 0), (1, 0), (2, 0), (3, 0), (4, 0), (5, 1), (6, 0), (7, 1), (8, 0)] follows (by kernel_rfl) calm_body (keepS [0, 1] rfl) ?_
  refine mv (.pointer _) rfl ?_
  refine nlc rfl ?_
  refine fad rfl Try.underlying87 rfl ty3.sz ?_
  refine ldp 0 0 _ rfl rfl rfl rfl ty3 ?_
  refine mv (.pointer _) rfl ?_
  refine cal (RList_ct br o most l ho (by omega)) [] [] [] rfl rfl rfl (by kernel_rfl) (impl_cons (impl_at 0 rfl) (impl_cons (impl_at 1 rfl) impl_nil)) rfl ?_; rintro _ _ _ ⟨o8, ho8, rfl, rfl, rfl⟩; refine ⟨keepI [1, 2] rfl, ?_⟩
  refine bld [p1 (.int .i64 0), p1 (.slice none 0 0)] [(0, p1 (.int .i64 most)), (1, p1 (.slice o8.adr l.length o8.cap))] _ Try.underlying87 (lay87 _ Try.underlying87) z87 rfl rfl rfl ?_
  refine bxx [p1 (.int .i64 most), p1 (.slice o8.adr l.length o8.cap)] _ rfl rfl fun b10 => ⟨keepI [2, 3] rfl, ?_⟩
  refine asg (.pointer _) rfl ?_
  refine jt ?_
  refine c_ret ?_
  exact j_end (own0 := []) (ro0 := [[(br, .cells (cat [p1 (.int .i64 most), p1 (.slice o.adr l.length o.cap)]) 87)], o.seg l 33]) (.inl rfl) rfl (hr1 Try.results52 (rvt (v := (.pointer _)) rfl)) [1, 0] [] [_, _] [] [] _ rfl rfl (by kernel_rfl) rfl impl_nil (⟨_, o8, ho8, rfl, rfl, rfl⟩)
end Go.Proofs.Ytacfjmjcgolhfaa
